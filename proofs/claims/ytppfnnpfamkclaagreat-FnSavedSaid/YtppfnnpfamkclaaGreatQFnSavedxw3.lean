/- Weak contracts: what only the draws reach ends, and keeps within its bounds. No condition. -/
import Derived.Test.YtppfnnpfamkclaaGreatQFnSavedxw0
namespace Go.Proofs.YtppfnnpfamkclaaGreat.QFnSaved
open Go.RowKit Go.Proofs.YtppfnnpfamkclaaGreat.Pure Go.Proofs.YtppfnnpfamkclaaGreatW.PrintWords Go.Proofs.YtppfnnpfamkclaaGreatW.PrintLast Go.Proofs.YtppfnnpfamkclaaGreatW.PrintMore
set_option maxHeartbeats 8000000
set_option maxRecDepth 100000
set_option linter.unusedVariables false
set_option linter.unusedSimpArgs false
theorem byte_c (g : Nat) (w0 : World) {w1 w : World} (h : Dr w0 w1 w g) :
 Calls Tryz.prog 39 #[.pointer (some ⟨g, 0, none⟩)] w fun e w' => ∃ x, e = .returned (.int .i64 x) ∧ Dr w0 w w' g := by
 obtain ⟨⟨l, a, b, hI, ha, hl⟩, hB, hK⟩ := h
 obtain ⟨x, a', b', e, h2⟩ := l1Byte_ok l a b ha hl
 refine (spec_l1Byte.calls g w0 e hI hB).mono fun _ w' ⟨he, i, b1, k⟩ => ⟨x, he, ⟨l, a', b', i, h2, hl⟩, b1, k⟩
theorem Dr.out_ {w0 w W : World} {g : Nat} (h : Dr w0 w W g) : Dr w0 w W g := h
theorem bytes_c (g : Nat) (w0 : World) (m : Int) (hm : 0 ≤ m ∧ m ≤ 1000) {w1 w : World} (h : Dr w0 w1 w g) :
 Calls Tryz.prog 67 #[.pointer (some ⟨g, 0, none⟩), .int .i64 m] w fun e w' => ∃ v, e = .returned v ∧ (∃ l : List Int, Kd.R (Kd.int .u8) 5 w' w.heap.size (fun _ => True) v l ∧ l.length ≤ m) ∧ Dr w0 w w' g := by
 obtain ⟨m1, e1⟩ : ∃ m1, m1 = m + 1 := ⟨_, rfl⟩; have E1 : IntKind.i64.wrap (m + 1) = m1 := (i64_w _).trans (by rw [w64 (by omega) (by omega), e1]); have Hm := aM (show 0 ≤ m ∧ m ≤ 1000 ∧ m1 = m + 1 from ⟨hm.1, hm.2, e1⟩); have G0 := aM h.lt; have Z0 := aM h.size; have HD := h.self; clear h hm e1
 go_enter Tryz.func67, Tryz.ntmps67
 go_wp2_with (first
  | ((with_reducible refine gD 8 rfl ?_); refine l0_ (Kd.int .u8) 5 (N := 8) rfl ?_; intro v5 W ro hb; replace ro := aM (Kd.R_lower ro.out (Dr.sz (w0 := w0) (g := g) xD)); replace HD := xDb HD hb; clear hb)
  | ((with_reducible refine gC 18 rfl ?_); refine c1_ Tryz.func18 (below_c g _ w0 xD) ?_; rintro n W ⟨⟨h0, hx⟩, hd⟩; replace ro := xRd HD hd (xr ro); replace HD := xDd HD hd; clear hd))
 replace hx := hx (by have := Hm.out; omega); have Hn := aM (And.intro h0 hx); clear h0 hx
 go_loopg [5, 7] (n.toNat + 1) (fun gg s5 s7 W => ∃ (l : List Int) (i : Int), s7 = .int .i64 i ∧ Aside0 (0 ≤ i ∧ l.length ≤ i ∧ i ≤ n ∧ n ≤ m ∧ m ≤ 1000 ∧ (n - i).toNat < gg) ∧ Aside0 (Kd.R (Kd.int .u8) 5 W w.heap.size (fun _ => True) s5 l) ∧ Aside0 (Dr w0 w W g))
 case atStart => exact ⟨[], 0, rfl, ⟨by have := Hm.out; have := Hn.out; simp; omega⟩, aM (xr ro), aM xD⟩
 case round =>
  clear ro HD
  obtain ⟨l, i, rfl, F, ro, HD⟩ := hrel
  by_cases lt : i < n
  · have L := aM lt; have L0 := eq_true lt; clear lt
    go_wp2_with (first
  | ((with_reducible refine gC 39 rfl ?_); refine c1_ Tryz.func39 (byte_c g w0 xD) ?_; rintro x W hd; replace ro := xRd HD hd (xr ro); replace HD := xDd HD hd; clear hd)
  | ((with_reducible refine gate_builtin (b := .append) (xs := #[.tmp 18, .tmp 22]) rfl ?_); at_builtin; refine ap_ (d := Kd.int .u8) 18 22 (z := .int .u8 0) (p := _) (xr ro) rfl (by have := F.out; omega) (fun _ _ => trivial) (Dr.sz xD) Tryz.underlying22 info5 rfl (by decide) (by decide) ?_; intro v1 W r1 hb hg; replace HD := aM ((Dr.out_ xD).grow Z0.out (xr ro) hb hg); replace ro := r1; clear hb hg r1))
    go_roundg (n - i).toNat
    case measure => have := F.out; omega
    case rel => (have := F.out; have := L.out; exact ⟨_, i + 1, by first | rfl | exact congrArg (Value.int .i64) (w64 (by omega) (by omega)), ⟨by simp only [List.length_append, List.length_singleton]; omega⟩, aM (xr ro), aM xD⟩)
  · have L0 := eq_false lt
    go_wp2
    go_ret
    exact ⟨_, rfl, ⟨l, xr ro, by have := F.out; omega⟩, xD⟩
theorem text_c (g : Nat) (w0 : World) (m : Int) (hm : 0 ≤ m ∧ m ≤ 1000) {w1 w : World} (h : Dr w0 w1 w g) :
 Calls Tryz.prog 33 #[.pointer (some ⟨g, 0, none⟩), .int .i64 m] w fun e w' => ∃ s, e = .returned (.string s) ∧ (s.size : Int) ≤ m ∧ Dr w0 w w' g := by
 have HD := h.self; have Hm := aM hm; clear h hm
 go_enter Tryz.func33, Tryz.ntmps33
 go_wp2_with ((with_reducible refine gC 67 rfl ?_); refine c1_ Tryz.func67 (bytes_c g w0 _ Hm.out xD) ?_; rintro v W ⟨⟨l, r, hl⟩, hd⟩; have hs := own_string (P := Tryz.prog) Tryz.underlying22 Tryz.underlying5 Tryz.underlying9 (Kd.own_of_R r); replace HD := xDd HD hd; clear hd)
 go_ret
 exact ⟨_, rfl, by rw [strOfNums_size]; exact hl, xD⟩
theorem list_c (g : Nat) (w0 : World) {w1 w : World} (h : Dr w0 w1 w g) :
 Calls Tryz.prog 29 #[.pointer (some ⟨g, 0, none⟩), .int .i64 3] w fun e w' => ∃ v, e = .returned v ∧ (∃ l : List ByteArray, Kd.R Kd.string 9 w' w.heap.size (fun _ => True) v l ∧ l.length ≤ 4 ∧ ∀ s ∈ l, s.size ≤ 5) ∧ Dr w0 w w' g := by
 have G0 := aM h.lt; have Z0 := aM h.size; have HD := h.self; clear h
 go_enter Tryz.func29, Tryz.ntmps29
 go_wp2_with (first
  | ((with_reducible refine gD 7 rfl ?_); refine l0_ Kd.string 9 (N := 7) rfl ?_; intro v5 W ro hb; replace ro := aM (Kd.R_lower ro.out (Dr.sz (w0 := w0) (g := g) xD)); replace HD := xDb HD hb; clear hb))
 go_loopg [5, 6] 5 (fun gg s5 s6 W => ∃ (l : List ByteArray) (i : Int), s6 = .int .i64 i ∧ Aside0 (0 ≤ i ∧ l.length ≤ i ∧ i ≤ 4 ∧ (4 - i).toNat < gg ∧ ∀ s ∈ l, s.size ≤ 5) ∧ Aside0 (Kd.R Kd.string 9 W w.heap.size (fun _ => True) s5 l) ∧ Aside0 (Dr w0 w W g))
 case atStart => exact ⟨[], 0, rfl, ⟨by simp⟩, aM (xr ro), aM xD⟩
 case round =>
  clear ro HD
  obtain ⟨l, i, rfl, F, ro, HD⟩ := hrel
  go_wp2_with (first
  | ((with_reducible refine gC 18 rfl ?_); refine c1_ Tryz.func18 (below_c g _ w0 xD) ?_; rintro x W ⟨⟨h0, hx⟩, hd⟩; replace ro := xRd HD hd (xr ro); replace HD := xDd HD hd; replace hx := hx (by decide); clear hd)
  | ((with_reducible refine gC 33 rfl ?_); refine c1_ Tryz.func33 (text_c g w0 5 (by decide) xD) ?_; rintro s W ⟨hs, hd⟩; replace ro := xRd HD hd (xr ro); replace HD := xDd HD hd; clear hd)
  | ((with_reducible refine gate_builtin (b := .append) (xs := #[.tmp 16, .tmp 19]) rfl ?_); at_builtin; refine ap_ (d := Kd.string) 16 19 (z := .string ⟨#[]⟩) (p := s) (xr ro) rfl (by have := F.out; omega) (fun _ _ => trivial) (Dr.sz xD) Tryz.underlying55 info9 rfl (by decide) (by decide) ?_; intro v1 W r1 hb hg; replace HD := aM ((Dr.out_ xD).grow Z0.out (xr ro) hb hg); replace ro := r1; clear hb hg r1))
  all_goals try (go_ret; exact ⟨_, rfl, ⟨l, xr ro, by have := F.out; omega, F.out.2.2.2.2⟩, xD⟩)
  all_goals go_roundg (4 - i).toNat
  all_goals (have := F.out; first | omega | exact ⟨_, i + 1, by first | rfl | exact congrArg (Value.int .i64) (w64 (by omega) (by omega)), ⟨by omega, by simp only [List.length_append, List.length_singleton]; omega, by omega, by omega, fun r hr => (List.mem_append.1 hr).elim (F.out.2.2.2.2 r) (fun h => by obtain rfl := List.mem_singleton.1 h; omega)⟩, aM (xr ro), aM xD⟩)
theorem ok_c {r : Int} {A : Option Addr} {c i : Nat} {F : List S66} {w : World} (hC : Kd.C k66 w A F.length F) (hc : F.length ≤ c) (hF : DkI i F) (hi : i ≤ 30) : Calls Tryz.prog 59 #[.agg #[.int .i64 r, .slice A F.length c]] w fun e w' => ∃ b, e = .returned (.bool b) ∧ Below w.heap.size w w' := by
 obtain ⟨k, b, h⟩ := ok_w r hF hi
 exact (spec_DiskOk.calls h hC hc).mono fun e w' ⟨h1, h2⟩ => ⟨b, h1, h2⟩
theorem name_c (a : Int) (w : World) : Calls Tryz.prog 62 #[.int .i64 a] w fun e w' => ∃ b, e = .returned (.bool b) ∧ Drawn0 w w' := by
 obtain ⟨b, h⟩ := name_w a
 exact (spec_l3Name.calls h).mono fun e w' ⟨h1, h2⟩ => ⟨b, h1, h2⟩
theorem find_c {r nm : Int} {A : Option Addr} {c i : Nat} {F : List S66} {w : World} (hC : Kd.C k66 w A F.length F) (hc : F.length ≤ c) (hF : DkI i F) (hi : i ≤ 30) : Calls Tryz.prog 65 #[.agg #[.int .i64 r, .slice A F.length c], .int .i64 nm] w fun e w' => ∃ j, e = .returned (.int .i64 j) ∧ j < F.length ∧ Below w.heap.size w w' := by
 obtain ⟨k, j, h, hj⟩ := find_w r nm hF hi
 exact (spec_l3Find.calls h hC hc).mono fun e w' ⟨h1, h2⟩ => ⟨j, h1, hj, h2⟩
theorem copy_c {r : Int} {A : Option Addr} {c i : Nat} {F : List S66} {w : World} (hC : Kd.C k66 w A F.length F) (hc : F.length ≤ c) (hF : DkI i F) (hi : i ≤ 30) : Calls Tryz.prog 64 #[.agg #[.int .i64 r, .slice A F.length c]] w fun e w' => ∃ u : Int × Value, e = .returned (.agg #[.int .i64 u.1, u.2]) ∧ (∃ F', DkI i F' ∧ Kd.R k66 66 w' w.heap.size (fun _ => True) u.2 F') ∧ Below w.heap.size w w' := by
 obtain ⟨r', F', h, hj⟩ := copy_w r hF hi
 exact (spec_l3Copy.calls h hC hc).mono fun e w' ⟨v, h1, h2, h3⟩ => ⟨(r', v), h1, ⟨F', hj, h2⟩, h3⟩
theorem put_c {r a : Int} {s t : ByteArray} {A : Option Addr} {c : Nat} {F : List S66} {w : World} (hC : Kd.C k66 w A F.length F) (hc : F.length ≤ c) (hF : F.length ≤ 1000) : Calls Tryz.prog 66 #[.agg #[.int .i64 r, .slice A F.length c], .agg #[.int .i64 a, .string s, .string t]] w fun e w' => ∃ u : Int × Value, e = .returned (.agg #[.int .i64 u.1, u.2]) ∧ (∃ F', (dsize F' ≤ dsize F + s.size + t.size ∧ F'.length ≤ F.length + 1) ∧ Kd.R k66 66 w' w.heap.size (fun _ => True) u.2 F') ∧ Below w.heap.size w w' := by
 obtain ⟨k, r', F', h, hj⟩ := put_w r F a s t hF
 exact (spec_l3Put.calls h hC hc).mono fun e w' ⟨v, h1, h2, h3⟩ => ⟨(r', v), h1, ⟨F', hj, h2⟩, h3⟩
theorem move_c {r : Int} {A : Option Addr} {c : Nat} {F : List S66} {i : Nat} {w : World} {B : Nat} {ok : Nat → Prop} {a b : Int} (hR : Kd.R k66 66 w B ok (.slice A F.length c) F) (hF : DkI i F) (hi : i ≤ 12) :
 Calls Tryz.prog 93 #[.agg #[.int .i64 r, .slice A F.length c], .int .i64 a, .int .i64 b] w fun e w' => ∃ u : Int × Value × Int, e = .returned (.tuple #[.agg #[.int .i64 u.1, u.2.1], .int .i64 u.2.2]) ∧ (∃ F', DkI (i + 1) F' ∧ Kd.R k66 66 w' w.heap.size (fun _ => True) u.2.1 F') ∧ Below w.heap.size w w' := by
 have hv := Tryz.underlying26; have hy := Tryz.underlying66; have HC := aM (Kd.R_reads' hR).2.2; have Hc := aM (Kd.R_reads' hR).2.1; have HF := aM hF; have Hi := aM (show i ≤ 30 by omega); have HB := aM (Below.refl w.heap.size w); clear hR hF hi
 go_enter Tryz.func93, Tryz.ntmps93
 go_wp2_with (first
  | ((with_reducible refine gD 3 rfl ?_); refine bE_ (N := 3) rfl ?_; intro a3 hg W b3 hb; have l3 := aM (xge hg); replace HB := xbs hb; have c3 := xf2 b3; clear hg hb)
  | ((with_reducible refine gD 6 rfl ?_); refine bE_ (N := 6) rfl ?_; intro a6 hg W b6 hb; have l6 := aM (xge hg); have p306 := nblt b3 hg; have q306 := nbgt b3 hg; replace b3 := xbb b3 hb; replace HB := xbs hb; replace c3 := xf2 b3; have c6 := xf2 b6; clear hg hb)
  | ((with_reducible refine gD 9 rfl ?_); refine bE_ (N := 9) rfl ?_; intro a9 hg W b9 hb; have l9 := aM (xge hg); have p309 := nblt b3 hg; have q309 := nbgt b3 hg; have p609 := nblt b6 hg; have q609 := nbgt b6 hg; replace b3 := xbb b3 hb; replace b6 := xbb b6 hb; replace HB := xbs hb; replace c3 := xf2 b3; replace c6 := xf2 b6; have c9 := xf3 b9; clear hg hb)
  | ((with_reducible refine gD 10 rfl ?_); refine bE_ (N := 10) rfl ?_; intro a10 hg W b10 hb; have l10 := aM (xge hg); have p310 := nblt b3 hg; have q310 := nbgt b3 hg; have p610 := nblt b6 hg; have q610 := nbgt b6 hg; have p910 := nblt b9 hg; have q910 := nbgt b9 hg; replace b3 := xbb b3 hb; replace b6 := xbb b6 hb; replace b9 := xbb b9 hb; replace HB := xbs hb; replace c3 := xf2 b3; replace c6 := xf2 b6; replace c9 := xf3 b9; have c10 := xf2 b10; clear hg hb)
  | ((with_reducible refine gS rfl ?_); intro ho; refine sE_ _ _ ?_ ho; intro W hw; clear ho; (try replace rn := xws hw rn); (try replace b3 := xwO hw b3); (try replace b6 := xwO hw b6); (try replace b9 := xwO hw b9); (try replace b10 := xwO hw b10); (try simp only [List.setIfInBounds_toArray, List.set_cons_zero, List.set_cons_succ] at b3); (try simp only [List.setIfInBounds_toArray, List.set_cons_zero, List.set_cons_succ] at b6); (try simp only [List.setIfInBounds_toArray, List.set_cons_zero, List.set_cons_succ] at b9); (try simp only [List.setIfInBounds_toArray, List.set_cons_zero, List.set_cons_succ] at b10); replace HB := xbw hw HB; (try replace c3 := xf2 b3); (try replace c6 := xf2 b6); (try replace c9 := xf3 b9); (try replace c10 := xf2 b10); clear hw)
  | ((with_reducible refine gC 59 rfl ?_); refine c1_ Tryz.func59 (ok_c (Kd.C_below HC.out xbel) Hc.out HF.out Hi.out) ?_; rintro z W hb; (try replace b3 := xbb b3 hb); (try replace b6 := xbb b6 hb); replace HB := xbs hb; (try replace c3 := xf2 b3); (try replace c6 := xf2 b6); clear hb)
  | (go_at_call 62; (with_reducible refine (name_c _ _).mono ?_); rintro e_ W ⟨z, rfl, ⟨nd, rfl⟩⟩)
  | ((with_reducible refine gC 65 rfl ?_); refine c1_ Tryz.func65 (find_c (Kd.C_below HC.out xbel) Hc.out HF.out Hi.out) ?_; rintro j W ⟨hj, hb⟩; (try replace b3 := xbb b3 hb); (try replace b6 := xbb b6 hb); replace HB := xbs hb; (try replace c3 := xf2 b3); (try replace c6 := xf2 b6); clear hb; by_cases j0 : 0 ≤ j; rotate_left; have jn := eq_true (show j < 0 by omega); rotate_left; (have jn := eq_false (show ¬ j < 0 by omega); obtain ⟨ad, rfl, e0, e1, e2⟩ := at_T66 HC.out j j0 hj; have J := aM (And.intro j0 hj); replace e0 := xce HB e0; replace e1 := xce HB e1; replace e2 := xce HB e2; replace j0 := eq_true j0; replace hj := eq_true hj))
  | ((with_reducible refine gC 64 rfl ?_); refine c1_ Tryz.func64 (copy_c (Kd.C_below HC.out xbel) Hc.out HF.out Hi.out) ?_; rintro ⟨r1, V1⟩ W ⟨⟨F1, hF1, rn⟩, hb⟩; replace rn := aM (Kd.R_lower rn (below_size xbel)); dsimp only at rn; obtain ⟨A1, c1, rfl⟩ := Kd.R_slice rn.out; (try replace b3 := xbb b3 hb); (try replace b6 := xbb b6 hb); replace HB := xbs hb; (try replace c3 := xf2 b3); (try replace c6 := xf2 b6); clear hb))
 all_goals try ((with_reducible refine gX ?_); refine bodyPost_ret (results_ct rfl _ _ a6 26 _ (0, 0) _ rfl b6.out Tryz.underlying26 rfl (by kernel_rfl)) rfl ?_; first | exact ⟨(_, _, _), rfl, ⟨_, hF1.up, xr rn⟩, xbel⟩ | exact ⟨_, _, ⟨_, rfl⟩, ⟨_, hF1.up, xr rn⟩, xbel⟩ | exact ⟨(_, _, _), rfl, ⟨[], ⟨dB0 _, Nat.zero_le _⟩, Kd.R_nil _ _ _ _ _⟩, xbel⟩)
 clear e0 e1 e2 j0 hj
 go_loopg [11] (F.length + 1) (fun gg s11 W => ∃ (k : Nat) (O : List S66) (V : Value), s11 = .int .i64 (k : Int) ∧ Aside0 (k ≤ F.length ∧ F.length - k < gg ∧ O.length ≤ k ∧ dsize O ≤ dsize (F.take k)) ∧ Aside0 (Kd.R k66 66 W w.heap.size (fun k => k ≠ a9) V O) ∧ Aside0 (W.heap[a3]? = some (.cells #[.int .i64 r, .slice (some ad) F.length c] 26 (0, 0))) ∧ Aside0 (W.heap[a6]? = some (.cells #[.int .i64 0, .slice none 0 0] 26 (0, 0))) ∧ Aside0 (W.heap[a9]? = some (.cells #[.int .i64 b, .string (rd_T66 F j).f1, .string (rd_T66 F j).f2] 66 (0, 0))) ∧ Aside0 (W.heap[a10]? = some (.cells #[.int .i64 r, V] 26 (0, 0))) ∧ Aside0 (Below w.heap.size w W))
 case atStart => exact ⟨0, [], .slice none 0 0, rfl, ⟨Nat.zero_le _, by omega, Nat.le_refl _, by simp⟩, ⟨Kd.R_nil _ _ _ _ _⟩, b3, b6, b9, b10, HB⟩
 case round =>
  clear b3 b6 b9 b10 HB c3 c6 c9 c10
  obtain ⟨k, O, V, rfl, F0, ro, b3, b6, b9, b10, HB⟩ := hrel
  obtain ⟨A10, c10', rfl⟩ := Kd.R_slice ro.out
  have c3 := xf2 b3; have c6 := xf2 b6; have c9 := xf3 b9; have c10 := xf2 b10
  by_cases lt : k < F.length
  · have L0 := eq_true (show (k : Int) < F.length by omega); have L := aM lt; clear lt
    obtain ⟨_, ea, e0, e1, e2⟩ := at_T66 HC.out (k : Int) (by omega) (by have := L.out; omega)
    injection ea with ea; subst ea; have E := aM (And.intro e0 (And.intro e1 e2)); simp only [Int.toNat_natCast] at E; clear e0 e1 e2
    go_wp2
    ((with_reducible refine gR 13 ?_); refine sT_ 11 [10] (fun W => W.cell? (ad.add (k * 3)) = some (.int .i64 (rd_T66 F k).f0) ∧ W.cell? ⟨(ad.add (k * 3)).block, (ad.add (k * 3)).off + 1, none⟩ = some (.string (rd_T66 F k).f1) ∧ W.cell? ⟨(ad.add (k * 3)).block, (ad.add (k * 3)).off + 2, none⟩ = some (.string (rd_T66 F k).f2) ∧ W.cell? ⟨a3, 1, none⟩ = some (.slice (some ad) F.length c) ∧ W.cell? ⟨a10, 1, none⟩ = some (.slice A10 O.length c10')) _ [0, 1, 0, 4, 0, 28, 60, 124, 255, 511, 1023] (⟨xce (lD HB) E.out.1, xce (lD HB) E.out.2.1, xce (lD HB) E.out.2.2, xc (bD b3) 1 rfl, xc (bD b10) 1 rfl⟩) (hT := rfl) (fun hHeld HT_ HW_ => ?_); replace ro := rD ro; replace b3 := bD b3; replace b6 := bD b6; replace b9 := bD b9; replace b10 := bD b10; replace HB := lD HB; generalize World.drew _ = W at ro b3 b6 b9 b10 HB hHeld ⊢; refine pV 0 58 ?_; refine tK 1 59 ?_; refine pV 2 60 ?_; refine tK 3 61 ?_; refine pV 4 62 ?_; refine pV 5 63 ?_; refine tK 6 64 ?_; refine oN 7 65 fun K hK => ?_; refine vK_ ?_; refine hK.out _ _ ⟨xce ⟨xbel⟩ E.out.1, xce ⟨xbel⟩ E.out.2.1, xce ⟨xbel⟩ E.out.2.2, xc (aM (blk_alloc b3.out _)) 1 rfl, xc (aM (blk_alloc b10.out _)) 1 rfl⟩ (fun hHeld => ?_); clear hK K; refine nm_ (N := 65) ?_; refine oN 8 66 fun K hK => ?_; refine apK_ 59 65 (d := k66) (z := .agg #[.int .i64 0, .string ⟨#[]⟩, .string ⟨#[]⟩]) (p := rd_T66 F k) (xr ro) (k66_mkM _ _ _ (rd_T66 F k)) (by have := F0.out; have := HF.out.2; have := Hi.out; omega) (fun _ hk => Kd.freshB b9.out _ hk) (below_size xbel) Tryz.underlying24 info66 rfl (by decide) (by decide) ?_; intro v1 W r1 hb hg; replace b3 := aM (blk_grown b3.out hg (Kd.R_ne ro.out b3.out (by decide))); replace b6 := aM (blk_grown b6.out hg (Kd.R_ne ro.out b6.out (by decide))); replace b10 := aM (blk_grown b10.out hg (Kd.R_ne ro.out b10.out (by decide))); replace b9 := aM (blk_grown b9.out hg (Kd.R_away ro.out (fun _ hk => hk))); replace HB := aM (below_weaken HB.out (Nat.le_refl _) hb); refine hK.out _ _ ⟨xce ⟨xbel⟩ E.out.1, xce ⟨xbel⟩ E.out.2.1, xce ⟨xbel⟩ E.out.2.2, xc b3 1 rfl, xc b10 1 rfl⟩ (fun hHeld => ?_); clear hK K; replace ro := r1; obtain ⟨A11, c11, e11⟩ := Kd.R_slice ro.out; subst e11; clear hb hg r1; refine nm_ (N := 66) ?_; refine pV 9 67 ?_; refine eL_ 10 fun K hK => ?_; have c10 := xf2 b10; refine sK_ ?_; intro W hw; replace ro := xws hw ro; replace b3 := xwO hw b3; replace b6 := xwO hw b6; replace b9 := xwO hw b9; replace b10 := xwO hw b10; (try simp only [List.setIfInBounds_toArray, List.set_cons_zero, List.set_cons_succ] at b3 b6 b9 b10); replace HB := xbw hw HB; clear hw; refine hK.out _ _ ?_; clear hK K; refine dn_ ?_)
    go_wp2
    all_goals go_roundg (F.length - k)
    all_goals (have := F0.out; have := L.out; have := HF.out.2; have := Hi.out; (try simp only [List.length_append, List.length_singleton] at ro); first | omega | exact ⟨k + 1, _, _, by first | rfl | exact congrArg (Value.int .i64) (by rw [w64 (by omega) (by omega)]; omega), ⟨by omega, by omega, by first | omega | (simp only [List.length_append, List.length_singleton]; omega), by have := dsz_take L.out; rw [this]; first | omega | (rw [dsz_app]; omega)⟩, ro, b3, b6, b9, b10, HB⟩)
  · have L0 := eq_false (show ¬ (k : Int) < F.length by omega); clear lt
    go_wp2_with (first
  | ((with_reducible refine gC 66 rfl ?_); refine c1_ Tryz.func66 (put_c (F := O) (Kd.R_reads' ro.out).2.2 (Kd.R_reads' ro.out).2.1 (by have := F0.out; have := HF.out.2; have := Hi.out; omega)) ?_; rintro ⟨r1, V1⟩ W ⟨⟨F1, hF1, rn⟩, hb⟩; replace rn := aM (Kd.R_lower rn (below_size xbel)); dsimp only at rn; obtain ⟨A1, c1, rfl⟩ := Kd.R_slice rn.out; (try replace b3 := xbb b3 hb); (try replace b6 := xbb b6 hb); (try replace b9 := xbb b9 hb); (try replace b10 := xbb b10 hb); replace HB := xbs hb; (try replace c3 := xf2 b3); (try replace c6 := xf2 b6); (try replace c9 := xf3 b9); (try replace c10 := xf2 b10); clear hb)
  | ((with_reducible refine gS rfl ?_); intro ho; refine sE_ _ _ ?_ ho; intro W hw; clear ho; (try replace rn := xws hw rn); (try replace b3 := xwO hw b3); (try replace b6 := xwO hw b6); (try replace b9 := xwO hw b9); (try replace b10 := xwO hw b10); (try simp only [List.setIfInBounds_toArray, List.set_cons_zero, List.set_cons_succ] at b3); (try simp only [List.setIfInBounds_toArray, List.set_cons_zero, List.set_cons_succ] at b6); (try simp only [List.setIfInBounds_toArray, List.set_cons_zero, List.set_cons_succ] at b9); (try simp only [List.setIfInBounds_toArray, List.set_cons_zero, List.set_cons_succ] at b10); replace HB := xbw hw HB; (try replace c3 := xf2 b3); (try replace c6 := xf2 b6); (try replace c9 := xf3 b9); (try replace c10 := xf2 b10); clear hw))
    refine bodyPost_ret (results_ct rfl _ _ a6 26 _ (0, 0) _ rfl b6.out Tryz.underlying26 rfl (by kernel_rfl)) rfl ?_
    have := F0.out; have := HF.out; have := rdsz J.out.1 J.out.2; have := dsz_le F k
    exact ⟨(_, _, _), rfl, ⟨_, ⟨by have h := HF.out.1; simp only [dB]; omega, by have h := HF.out.2; omega⟩, xr rn⟩, xbel⟩
def inB (x lo hi : Int) : Bool := if x ≥ lo then decide (x ≤ hi) else false
theorem inB_t {x lo hi : Int} (h : inB x lo hi = true) : lo ≤ x ∧ x ≤ hi := by
 unfold inB at h
 split at h
 · exact ⟨by omega, of_decide_eq_true h⟩
 · cases h
theorem min_c (a b : Int) (w : World) : Calls Tryz.prog 60 #[.int .i64 a, .int .i64 b] w fun e w' => ∃ x, e = .returned (.int .i64 x) ∧ (x ≤ a ∧ x ≤ b ∧ (x = a ∨ x = b)) ∧ Below w.heap.size w w' := by
 go_enter Tryz.func60, Tryz.ntmps60
 go_wp2
 all_goals go_ret
 all_goals exact ⟨_, rfl, by omega, Below.refl _ _⟩
theorem in_c (x lo hi : Int) (w : World) : Calls Tryz.prog 88 #[.int .i64 x, .int .i64 lo, .int .i64 hi] w fun e w' => e = .returned (.bool (inB x lo hi)) ∧ Drawn0 w w' := spec_l1In.calls (by unfold spec_l1In.f inB; split <;> rfl)
theorem cut_c {r : Int} {A : Option Addr} {c : Nat} {F : List S66} {i : Nat} {w : World} {B : Nat} {ok : Nat → Prop} {nm n : Int} (hR : Kd.R k66 66 w B ok (.slice A F.length c) F) (hF : DkI i F) (hi : i ≤ 28) :
 Calls Tryz.prog 69 #[.agg #[.int .i64 r, .slice A F.length c], .int .i64 nm, .int .i64 n] w fun e w' => ∃ u : Int × Value × Int, e = .returned (.tuple #[.agg #[.int .i64 u.1, u.2.1], .int .i64 u.2.2]) ∧ (∃ F', DkI (i + 1) F' ∧ Kd.R k66 66 w' w.heap.size (fun _ => True) u.2.1 F') ∧ Below w.heap.size w w' := by
 have hv := Tryz.underlying26; have hy := Tryz.underlying66; have HC := aM (Kd.R_reads' hR).2.2; have Hc := aM (Kd.R_reads' hR).2.1; have HF := aM hF; have Hi := aM (show i ≤ 30 by omega); have HB := aM (Below.refl w.heap.size w); clear hR hF hi
 go_enter Tryz.func69, Tryz.ntmps69
 go_wp2_with (first
  | ((with_reducible refine gD 3 rfl ?_); refine bE_ (N := 3) rfl ?_; intro a3 hg W b3 hb; have l3 := aM (xge hg); replace HB := xbs hb; have c3 := xf2 b3; clear hg hb)
  | ((with_reducible refine gD 6 rfl ?_); refine bE_ (N := 6) rfl ?_; intro a6 hg W b6 hb; have l6 := aM (xge hg); have p306 := nblt b3 hg; have q306 := nbgt b3 hg; replace b3 := xbb b3 hb; replace HB := xbs hb; replace c3 := xf2 b3; have c6 := xf2 b6; clear hg hb)
  | ((with_reducible refine gS rfl ?_); intro ho; refine sE_ _ _ ?_ ho; intro W hw; clear ho; (try replace rn := xws hw rn); (try replace b3 := xwO hw b3); (try replace b6 := xwO hw b6); (try replace b9 := xwO hw b9); (try simp only [List.setIfInBounds_toArray, List.set_cons_zero, List.set_cons_succ] at b3); (try simp only [List.setIfInBounds_toArray, List.set_cons_zero, List.set_cons_succ] at b6); (try simp only [List.setIfInBounds_toArray, List.set_cons_zero, List.set_cons_succ] at b9); replace HB := xbw hw HB; (try replace c3 := xf2 b3); (try replace c6 := xf2 b6); (try replace c9 := xf3 b9); clear hw)
  | ((with_reducible refine gC 59 rfl ?_); refine c1_ Tryz.func59 (ok_c (Kd.C_below HC.out xbel) Hc.out HF.out Hi.out) ?_; rintro z W hb; (try replace b3 := xbb b3 hb); (try replace b6 := xbb b6 hb); replace HB := xbs hb; (try replace c3 := xf2 b3); (try replace c6 := xf2 b6); clear hb)
  | (go_at_call 62; (with_reducible refine (name_c _ _).mono ?_); rintro e_ W ⟨z, rfl, ⟨nd, rfl⟩⟩)
  | ((with_reducible refine gC 65 rfl ?_); refine c1_ Tryz.func65 (find_c (Kd.C_below HC.out xbel) Hc.out HF.out Hi.out) ?_; rintro j W ⟨hj, hb⟩; (try replace b3 := xbb b3 hb); (try replace b6 := xbb b6 hb); replace HB := xbs hb; (try replace c3 := xf2 b3); (try replace c6 := xf2 b6); clear hb; by_cases j0 : 0 ≤ j; rotate_left; have jn := eq_true (show j < 0 by omega); rotate_left; (have jn := eq_false (show ¬ j < 0 by omega); obtain ⟨ad, rfl, e0, e1, e2⟩ := at_T66 HC.out j j0 hj; have J := aM (And.intro j0 hj); have E := aM (And.intro e0 (And.intro e1 e2)); replace e0 := xce HB e0; replace e1 := xce HB e1; replace e2 := xce HB e2; replace j0 := eq_true j0; replace hj := eq_true hj)))
 all_goals try ((with_reducible refine gX ?_); refine bodyPost_ret (results_ct rfl _ _ a6 26 _ (0, 0) _ rfl b6.out Tryz.underlying26 rfl (by kernel_rfl)) rfl ?_; first | exact ⟨(_, _, _), rfl, ⟨_, hF1.up, xr rn⟩, xbel⟩ | exact ⟨_, _, ⟨_, rfl⟩, ⟨_, hF1.up, xr rn⟩, xbel⟩ | exact ⟨(_, _, _), rfl, ⟨[], ⟨dB0 _, Nat.zero_le _⟩, Kd.R_nil _ _ _ _ _⟩, xbel⟩)
 rotate_left
 · go_quiet (fail)
   generalize hw : World.drewN _ _ = W1; replace b3 := aM (hw ▸ blk_drewN b3.out _); replace b6 := aM (hw ▸ blk_drewN b6.out _); replace HB := aM (hw ▸ pw_below_drewN HB.out _); have c3 := xf2 b3; have c6 := xf2 b6; clear hw
   go_wp2_with (first
  | ((with_reducible refine gC 64 rfl ?_); refine c1_ Tryz.func64 (copy_c (Kd.C_below HC.out xbel) Hc.out HF.out Hi.out) ?_; rintro ⟨r1, V1⟩ W ⟨⟨F1, hF1, rn⟩, hb⟩; replace rn := aM (Kd.R_lower rn (below_size xbel)); dsimp only at rn; obtain ⟨A1, c1, rfl⟩ := Kd.R_slice rn.out; (try replace b3 := xbb b3 hb); (try replace b6 := xbb b6 hb); replace HB := xbs hb; (try replace c3 := xf2 b3); (try replace c6 := xf2 b6); clear hb)
  | ((with_reducible refine gS rfl ?_); intro ho; refine sE_ _ _ ?_ ho; intro W hw; clear ho; (try replace rn := xws hw rn); (try replace b3 := xwO hw b3); (try replace b6 := xwO hw b6); (try simp only [List.setIfInBounds_toArray, List.set_cons_zero, List.set_cons_succ] at b3); (try simp only [List.setIfInBounds_toArray, List.set_cons_zero, List.set_cons_succ] at b6); replace HB := xbw hw HB; (try replace c3 := xf2 b3); (try replace c6 := xf2 b6); clear hw))
   refine bodyPost_ret (results_ct rfl _ _ a6 26 _ (0, 0) _ rfl b6.out Tryz.underlying26 rfl (by kernel_rfl)) rfl ?_; first | exact ⟨(_, _, _), rfl, ⟨_, hF1.up, xr rn⟩, xbel⟩ | exact ⟨_, _, ⟨_, rfl⟩, ⟨_, hF1.up, xr rn⟩, xbel⟩ | exact ⟨(_, _, _), rfl, ⟨[], ⟨dB0 _, Nat.zero_le _⟩, Kd.R_nil _ _ _ _ _⟩, xbel⟩
 · go_quiet (first | (go_at_call 88; (with_reducible refine (in_c _ _ _ _).mono ?_); rintro e w' ⟨rfl, ⟨nd, rfl⟩⟩; exact ⟨rfl, _, World.drewN_drewN _ _ _⟩))
   generalize hw : World.drewN _ _ = W1; replace b3 := aM (hw ▸ blk_drewN b3.out _); replace b6 := aM (hw ▸ blk_drewN b6.out _); replace HB := aM (hw ▸ pw_below_drewN HB.out _); have c3 := xf2 b3; have c6 := xf2 b6; clear hw; replace e0 := xce HB E.out.1; replace e1 := xce HB E.out.2.1; replace e2 := xce HB E.out.2.2
   generalize hq : inB n 0 _ = q
   cases q
   · go_wp2_with (first
  | ((with_reducible refine gC 64 rfl ?_); refine c1_ Tryz.func64 (copy_c (Kd.C_below HC.out xbel) Hc.out HF.out Hi.out) ?_; rintro ⟨r1, V1⟩ W ⟨⟨F1, hF1, rn⟩, hb⟩; replace rn := aM (Kd.R_lower rn (below_size xbel)); dsimp only at rn; obtain ⟨A1, c1, rfl⟩ := Kd.R_slice rn.out; (try replace b3 := xbb b3 hb); (try replace b6 := xbb b6 hb); replace HB := xbs hb; (try replace c3 := xf2 b3); (try replace c6 := xf2 b6); clear hb)
  | ((with_reducible refine gS rfl ?_); intro ho; refine sE_ _ _ ?_ ho; intro W hw; clear ho; (try replace rn := xws hw rn); (try replace b3 := xwO hw b3); (try replace b6 := xwO hw b6); (try simp only [List.setIfInBounds_toArray, List.set_cons_zero, List.set_cons_succ] at b3); (try simp only [List.setIfInBounds_toArray, List.set_cons_zero, List.set_cons_succ] at b6); replace HB := xbw hw HB; (try replace c3 := xf2 b3); (try replace c6 := xf2 b6); clear hw))
     refine bodyPost_ret (results_ct rfl _ _ a6 26 _ (0, 0) _ rfl b6.out Tryz.underlying26 rfl (by kernel_rfl)) rfl ?_; first | exact ⟨(_, _, _), rfl, ⟨_, hF1.up, xr rn⟩, xbel⟩ | exact ⟨_, _, ⟨_, rfl⟩, ⟨_, hF1.up, xr rn⟩, xbel⟩ | exact ⟨(_, _, _), rfl, ⟨[], ⟨dB0 _, Nat.zero_le _⟩, Kd.R_nil _ _ _ _ _⟩, xbel⟩
   · have hn := inB_t hq
     clear hq
     go_wp2_with (first
  | ((with_reducible refine gD 9 rfl ?_); refine bE_ (N := 9) rfl ?_; intro a9 hg W b9 hb; have l9 := aM (xge hg); have p309 := nblt b3 hg; have q309 := nbgt b3 hg; have p609 := nblt b6 hg; have q609 := nbgt b6 hg; replace b3 := xbb b3 hb; replace b6 := xbb b6 hb; replace HB := xbs hb; replace c3 := xf2 b3; replace c6 := xf2 b6; have c9 := xf3 b9; clear hg hb)
  | ((with_reducible refine gS rfl ?_); intro ho; refine sE_ _ _ ?_ ho; intro W hw; clear ho; (try replace b3 := xwO hw b3); (try replace b6 := xwO hw b6); (try replace b9 := xwO hw b9); (try simp only [List.setIfInBounds_toArray, List.set_cons_zero, List.set_cons_succ] at b3); (try simp only [List.setIfInBounds_toArray, List.set_cons_zero, List.set_cons_succ] at b6); (try simp only [List.setIfInBounds_toArray, List.set_cons_zero, List.set_cons_succ] at b9); replace HB := xbw hw HB; (try replace c3 := xf2 b3); (try replace c6 := xf2 b6); (try replace c9 := xf3 b9); clear hw)
  | ((with_reducible refine gC 60 rfl ?_); refine c1_ Tryz.func60 (min_c _ _ _) ?_; rintro k W ⟨hk, hb⟩; (try replace b3 := xbb b3 hb); (try replace b6 := xbb b6 hb); (try replace b9 := xbb b9 hb); replace HB := xbs hb; (try replace c3 := xf2 b3); (try replace c6 := xf2 b6); (try replace c9 := xf3 b9); clear hb))
     have hz := rdsz J.out.1 J.out.2; have h1 := HF.out.1; have h2 := dB_le Hi.out
     rw [w64 (by omega) (by omega)] at hn
     obtain ⟨m, hm⟩ : ∃ m, m = n - k := ⟨_, rfl⟩
     have em : IntKind.i64.wrap (n - k) = m := (i64_w _).trans (by rw [w64 (by omega) (by omega), hm])
     have k0 := eq_true (show 0 ≤ k by omega); have k1 := eq_true (show k ≤ ((rd_T66 F j).f1.size : Int) by omega); have m0 := eq_true (show 0 ≤ m by omega); have m1 := eq_true (show m ≤ ((rd_T66 F j).f2.size : Int) by omega)
     have Z := aM (And.intro hz (And.intro h1 h2)); clear hn hk hm hz h1 h2
     ((with_reducible refine gR 8 ?_); refine st_ 16 (fun W => W.cell? ⟨a3, 0, none⟩ = some (.int .i64 r) ∧ W.cell? ⟨a3, 1, none⟩ = some (.slice (some ad) F.length c) ∧ W.cell? ⟨a9, 1, none⟩ = some (.string (rd_T66 F j).f1) ∧ W.cell? ⟨a9, 2, none⟩ = some (.string (rd_T66 F j).f2)) _ [0, 0, 0, 4, 0, 28, 0, 64, 0, 0, 768, 1984, 4094, 8191, 16383, 32767] (⟨xc (bD b3) 0 rfl, xc (bD b3) 1 rfl, xc (bD b9) 1 rfl, xc (bD b9) 2 rfl⟩) (hT := rfl) (fun hHeld HT_ HW_ => ?_); replace b3 := bD b3; replace b6 := bD b6; replace b9 := bD b9; replace HB := lD HB; generalize World.drew _ = W at b3 b6 b9 HB hHeld ⊢; refine tK 0 57 ?_; refine pV 1 58 ?_; refine pV 2 59 ?_; refine tK 3 60 ?_; refine pV 4 61 ?_; refine pV 5 62 ?_; refine pV 6 63 ?_; refine tK 7 64 ?_; refine pV 8 65 ?_; refine pV 9 66 ?_; refine pV 10 67 ?_; refine pV 11 68 ?_; refine pV 12 69 ?_; refine oN 13 70 fun K hK => ?_; refine d1_ Tryz.func66 (put_c (Kd.C_below HC.out HB.out) Hc.out (by have := HF.out.2; have := Hi.out; omega)) ?_; rintro ⟨r1, V1⟩ W ⟨⟨F1, hF1, rn⟩, hb⟩; replace rn := aM (Kd.R_lower rn (below_size xbel)); dsimp only at rn; obtain ⟨A1, c1, rfl⟩ := Kd.R_slice rn.out; replace b3 := xbb b3 hb; replace b6 := xbb b6 hb; replace b9 := xbb b9 hb; replace HB := xbs hb; clear hb; refine hK.out _ _ ⟨xc b3 0 rfl, xc b3 1 rfl, xc b9 1 rfl, xc b9 2 rfl⟩ (fun hHeld => ?_); clear hK K; refine nm_ (N := 70) ?_; refine eS_ 14 fun K hK => ?_; have c6 := xf2 b6; refine sK_ ?_; intro W hw; replace rn := xws hw rn; replace b3 := xwO hw b3; replace b6 := xwO hw b6; replace b9 := xwO hw b9; (try simp only [List.setIfInBounds_toArray, List.set_cons_zero, List.set_cons_succ] at b3 b6 b9); replace HB := xbw hw HB; clear hw; refine hK.out _ _ ⟨xc b3 0 rfl, xc b3 1 rfl, xc b9 1 rfl, xc b9 2 rfl⟩ (fun hHeld => ?_); clear hK K; refine pV 15 7 ?_; refine dn_ ?_)
     go_wp2
     have s1 : ((rd_T66 F j).f1.extract 0 k.toNat).size ≤ (rd_T66 F j).f1.size := by rw [ByteArray.size_extract]; omega
     have s2 : ((rd_T66 F j).f2.extract 0 m.toNat).size ≤ (rd_T66 F j).f2.size := by rw [ByteArray.size_extract]; omega
     have := Z.out; have := HF.out.2
     refine bodyPost_ret (results_ct rfl _ _ a6 26 _ (0, 0) _ rfl b6.out Tryz.underlying26 rfl (by kernel_rfl)) rfl ?_
     exact ⟨_, _, ⟨_, rfl⟩, ⟨_, ⟨by simp only [dB]; omega, by omega⟩, xr rn⟩, xbel⟩
theorem dread_c {r : Int} {A : Option Addr} {c : Nat} {F : List S66} {i : Nat} {w : World} {B : Nat} {ok : Nat → Prop} {nm : Int} (hR : Kd.R k66 66 w B ok (.slice A F.length c) F) (hF : DkI i F) (hi : i ≤ 28) :
 Calls Tryz.prog 91 #[.agg #[.int .i64 r, .slice A F.length c], .int .i64 nm] w fun e w' => ∃ u : ByteArray × Bool, e = .returned (.tuple #[.string u.1, .bool u.2]) ∧ (u.1.size : Int) ≤ dsize F ∧ Below w.heap.size w w' := by
 have hv := Tryz.underlying26; have hy := Tryz.underlying66; have HC := aM (Kd.R_reads' hR).2.2; have Hc := aM (Kd.R_reads' hR).2.1; have HF := aM hF; have Hi := aM (show i ≤ 30 by omega); have D0 := aM (dsz_nn F); have HB := aM (Below.refl w.heap.size w); clear hR hF hi
 go_enter Tryz.func91, Tryz.ntmps91
 go_wp2_with (first
  | ((with_reducible refine gD 2 rfl ?_); refine bE_ (N := 2) rfl ?_; intro a2 hg W b2 hb; have l2 := aM (xge hg); replace HB := xbs hb; have c2 := xf2 b2; clear hg hb)
  | ((with_reducible refine gC 59 rfl ?_); refine c1_ Tryz.func59 (ok_c (Kd.C_below HC.out xbel) Hc.out HF.out Hi.out) ?_; rintro z W hb; (try replace b2 := xbb b2 hb); replace HB := xbs hb; (try replace c2 := xf2 b2); clear hb)
  | ((with_reducible refine gC 65 rfl ?_); refine c1_ Tryz.func65 (find_c (Kd.C_below HC.out xbel) Hc.out HF.out Hi.out) ?_; rintro j W ⟨hj, hb⟩; (try replace b2 := xbb b2 hb); replace HB := xbs hb; (try replace c2 := xf2 b2); clear hb; by_cases j0 : 0 ≤ j; rotate_left; have jn := eq_true (show j < 0 by omega); rotate_left; (have jn := eq_false (show ¬ j < 0 by omega); obtain ⟨ad, rfl, e0, e1, e2⟩ := at_T66 HC.out j j0 hj; have J := aM (And.intro j0 hj); have E := aM (And.intro e1 e2); have K1 := eq_false (show ¬ 9223372036854775807 < (rd_T66 F j).f1.size + (rd_T66 F j).f2.size by have := rdsz j0 hj; have := HF.out.1; have := dB_le Hi.out; omega); clear e0 e1 e2; replace j0 := eq_true j0; replace hj := eq_true hj)))
 all_goals try (((with_reducible refine gR 4 ?_); refine st_ 15 (fun W => W.cell? ⟨a2, 1, none⟩ = some (.slice (some ad) F.length c) ∧ W.cell? ⟨(ad.add (j.toNat * 3)).block, (ad.add (j.toNat * 3)).off + 1, none⟩ = some (.string (rd_T66 F j).f1) ∧ W.cell? ⟨(ad.add (j.toNat * 3)).block, (ad.add (j.toNat * 3)).off + 2, none⟩ = some (.string (rd_T66 F j).f2)) _ [0, 1, 0, 7, 15, 31, 0, 64, 0, 448, 960, 1984, 4095, 8191, 16383] (⟨xc (bD b2) 1 rfl, xce (lD HB) E.out.1, xce (lD HB) E.out.2⟩) (hT := rfl) (fun hHeld HT_ HW_ => ?_); replace b2 := bD b2; replace HB := lD HB; generalize World.drew _ = W at b2 HB hHeld ⊢; refine pV 0 17 ?_; refine tK 1 18 ?_; refine pV 2 19 ?_; refine pV 3 20 ?_; refine pV 4 21 ?_; refine tK 5 22 ?_; refine pV 6 23 ?_; refine tK 7 24 ?_; refine pV 8 25 ?_; refine pV 9 26 ?_; refine pV 10 27 ?_; refine tK 11 28 ?_; refine pV 12 29 ?_; refine pV 13 4 ?_; refine pV 14 5 ?_; refine dn_ ?_); go_wp2)
 all_goals go_ret2
 all_goals first | exact ⟨(_, _), rfl, D0.out, xbel⟩ | exact ⟨(_, _), rfl, by have := rdsz J.out.1 J.out.2; simp only [ByteArray.size_append]; omega, xbel⟩ | exact ⟨_, .inl rfl, D0.out, xbel⟩ | exact ⟨_, .inr rfl, by have := rdsz J.out.1 J.out.2; simp only [ByteArray.size_append]; omega, xbel⟩
structure R3 where (a : Int) (b : Int) (c : Bool)
def GnP (n : Nat) (u : R3) : Prop := u.c = true → 0 ≤ u.a ∧ 0 ≤ u.b ∧ u.b ≤ n
theorem gn0 {n : Nat} {a b : Int} : GnP n ⟨a, b, false⟩ := fun h => by cases h
theorem gn_p (k : Nat) (hk : k ≤ 8) : (1 : Int) ≤ 128 ^ k ∧ (128 : Int) ^ k ≤ 72057594037927936 := by
 have : ∀ j : Fin 9, (1 : Int) ≤ 128 ^ j.1 ∧ (128 : Int) ^ j.1 ≤ 72057594037927936 := by decide
 exact this ⟨k, by omega⟩
theorem gn_s {k : Nat} {x u : Int} (d : Int) (hk : k ≤ 8) (hu : u = 128 ^ k) (h0 : 0 ≤ x ∧ x < u) (hd : 0 ≤ d) : (0 ≤ wrap64 (x + wrap64 (d.tmod 128 * u)) ∧ wrap64 (x + wrap64 (d.tmod 128 * u)) < 128 ^ (k + 1)) ∧ (k < 8 → wrap64 (u * 128) = 128 ^ (k + 1)) := by
 obtain ⟨h1, h2⟩ := gn_p k hk
 have m0 : 0 ≤ d.tmod 128 := Int.tmod_nonneg _ hd
 have m1 : d.tmod 128 < 128 := Int.tmod_lt_of_pos _ (by decide)
 generalize d.tmod 128 = m at *
 have a0 : 0 ≤ m * u := Int.mul_nonneg m0 (by omega)
 have a1 : m * u ≤ 127 * u := Int.mul_le_mul_of_nonneg_right (by omega) (by omega)
 have p : (128 : Int) ^ (k + 1) = 128 * u := by rw [Int.pow_succ, hu, Int.mul_comm]
 generalize m * u = y at *
 rw [p, w64 (x := y) (by omega) (by omega), w64 (by omega) (by omega)]
 refine ⟨⟨by omega, by omega⟩, fun h8 => ?_⟩
 have : (128 : Int) ^ (k + 1) ≤ 72057594037927936 := (gn_p (k + 1) (by omega)).2
 rw [w64 (by omega) (by omega)]; omega
theorem getnum_c {A : Option Addr} {c : Nat} {l : List Int} {w : World} {p : Int} (hC : Kd.C (Kd.int .u8) w A l.length l) (hc : l.length ≤ c) (hl : l.length ≤ 1000000000000000000) (hb : By l) :
 Calls Tryz.prog 107 #[.slice A l.length c, .int .i64 p] w fun e w' => ∃ u : R3, e = .returned (.tuple #[.int .i64 u.a, .int .i64 u.b, .bool u.c]) ∧ GnP l.length u ∧ Below w.heap.size w w' := by
 have HL := aM hl; have HB := aM (Below.refl w.heap.size w); clear hl
 by_cases p0 : 0 ≤ p ∧ p < l.length; rotate_left
 · have q0 : p < 0 ∨ l.length ≤ p := by omega
   go_enter Tryz.func107, Tryz.ntmps107
   rcases q0 with q0 | q0
   · have q1 := eq_true q0; go_wp2; go_ret3; exact ⟨⟨_, _, _⟩, rfl, gn0, xbel⟩
   · have q2 : (p ≥ l.length) = True := eq_true q0
     by_cases q1 : p < 0
     · have q1 := eq_true q1; go_wp2; go_ret3; exact ⟨⟨_, _, _⟩, rfl, gn0, xbel⟩
     · have q1 := eq_false q1; go_wp2; go_ret3; exact ⟨⟨_, _, _⟩, rfl, gn0, xbel⟩
 obtain ⟨ad, rfl, _⟩ := Kd.at_int hC 0 (by omega) (by omega)
 have HX : Aside0 (∀ j : Int, 0 ≤ j → j < l.length → ∃ d, w.cell? (ad.add j.toNat) = some (.int .u8 d) ∧ 0 ≤ d ∧ d ≤ 255) := aM fun j h0 h1 => by
  obtain ⟨ad', he, hx⟩ := Kd.at_int hC j h0 h1
  injection he with he; subst he; exact ⟨_, hx, hb _ (rd_mem l j h0 h1)⟩
 clear hC hb
 have q1 := eq_false (show ¬ p < 0 by omega); have q2 : (p ≥ l.length) = False := eq_false (by omega); have P0 := aM p0; clear p0
 go_enter Tryz.func107, Tryz.ntmps107
 go_wp2
 go_loopg [7, 8, 9] 10 (fun gg s7 s8 s9 W => ∃ (k : Nat) (x u : Int), s7 = .int .i64 x ∧ s8 = .int .i64 u ∧ s9 = .int .i64 (k : Int) ∧ Aside0 (k ≤ 9 ∧ 9 - k < gg ∧ (k < 9 → u = 128 ^ k ∧ 0 ≤ x ∧ x < u)) ∧ Aside0 (Below w.heap.size w W))
 case atStart => exact ⟨0, 0, 1, rfl, rfl, rfl, ⟨by decide, by decide, fun _ => by decide⟩, aM xbel⟩
 case round =>
  clear HB
  obtain ⟨k, x, u, rfl, rfl, rfl, F, HB⟩ := hrel
  by_cases lt : (k : Int) < 9; rotate_left
  · have L := eq_false lt; go_wp2; go_ret3; exact ⟨⟨_, _, _⟩, rfl, gn0, xbel⟩
  have L := eq_true lt
  have W1 : IntKind.i64.wrap (p + k) = p + k := (i64_w _).trans (w64 (by have := P0.out; omega) (by have := P0.out; have := HL.out; omega))
  by_cases nt : p + k < l.length; rotate_left
  · have N := eq_false nt; go_wp2; go_ret3; exact ⟨⟨_, _, _⟩, rfl, gn0, xbel⟩
  have N := eq_true nt
  obtain ⟨d, hx, h0, h1⟩ := HX.out (p + k) (by have := P0.out; omega) nt
  replace hx := xce HB hx
  have i0 := eq_true (show 0 ≤ p + (k : Int) by have := P0.out; omega)
  have D0 := aM h0; have W2 : IntKind.i64.wrap d = d := (i64_w _).trans (w64 (by omega) (by omega)); have LT := aM (And.intro lt nt); clear h0 h1 lt nt
  obtain ⟨gx, gu⟩ := gn_s d (by have := LT.out.1; omega) (F.out.2.2 (by have := LT.out.1; omega)).1 (F.out.2.2 (by have := LT.out.1; omega)).2 D0.out; replace gx := aM gx; replace gu := aM gu
  go_wp2
  all_goals try
   (go_ret3
    first | exact ⟨⟨_, _, _⟩, rfl, gn0, xbel⟩ | (refine ⟨⟨_, _, _⟩, rfl, fun _ => ⟨?_, by have := P0.out; have := LT.out; have := HL.out; have e := w64 (x := p + (k : Int) + 1) (by omega) (by omega); exact ⟨by dsimp only; omega, by dsimp only; omega⟩⟩, xbel⟩; have := gx.out.1; first | exact this | (have hd : d = 0 := (by assumption); subst hd; simpa using this)))
  all_goals
   (go_roundg (9 - k)
    case measure => have := F.out; have := LT.out; omega
    case rel => (have := F.out; have := LT.out; exact ⟨k + 1, _, _, rfl, by rfl, by first | rfl | exact congrArg (Value.int .i64) (by rw [w64 (by omega) (by omega)]; omega), ⟨by omega, by omega, fun h => by have e := gu.out (by omega); exact ⟨e, gx.out.1, by rw [e]; exact gx.out.2⟩⟩, aM xbel⟩))
theorem sum_c {A : Option Addr} {c : Nat} {l : List Int} {W : World} (hC : Kd.C (Kd.int .u8) W A l.length l) (hc : l.length ≤ c) (hb : By l) (hl : l.length ≤ 140737488355328) : Calls Tryz.prog 106 #[.slice A l.length c] W fun e w' => ∃ x, e = .returned (.int .i64 x) ∧ Below W.heap.size W w' := by
 obtain ⟨k, s, e⟩ := sum_w l hb hl
 exact (spec_Sum.calls e hC hc).mono fun e w' ⟨h1, n, h2⟩ => ⟨_, h1, by subst h2; exact pw_below_drewN (Below.refl _ _) n⟩
structure V3 where (v : Value) (a : Int) (b : Int)
theorem unseal_c {A : Option Addr} {c : Nat} {l : List Int} {w : World} {p : Int} (hC : Kd.C (Kd.int .u8) w A l.length l) (hc : l.length ≤ c) (hl : l.length ≤ 1000000000000000) (hb : By l) :
 Calls Tryz.prog 92 #[.slice A l.length c, .int .i64 p] w fun e w' => ∃ u : V3, e = .returned (.tuple #[u.v, .int .i64 u.a, .int .i64 u.b]) ∧ (∃ o, Kd.R (Kd.int .u8) 5 w' w.heap.size (fun _ => True) u.v o) ∧ Below w.heap.size w w' := by
 have HC := aM hC; have Hc := aM hc; have HL := aM hl; have HY := aM hb; have HB := aM (Below.refl w.heap.size w); clear hC hc hl hb
 go_enter Tryz.func92, Tryz.ntmps92
 go_upto_region 2 with ((with_reducible refine gC 107 rfl ?_); refine c1_ Tryz.func107 (getnum_c (xcb HC) Hc.out (by have := HL.out; omega) HY.out) ?_; rintro ⟨n, f, ok⟩ W ⟨hg, hb⟩; replace HB := xbs hb; clear hb)
 (try simp only [Act.put, List.setIfInBounds_toArray, List.set_cons_zero, List.set_cons_succ])
 have E : ∀ v3 : Value, ∀ W : World, True := fun _ _ => trivial
 cases ok
 · go_wp2_with ((with_reducible refine gD 25 rfl ?_); refine li_ .u8 5 (N := 25) rfl [] ?_; intro v25 W r25 hb; replace r25 := aM (Kd.R_lower r25 (below_size xbel)); replace HB := xbs hb; clear hb)
   go_ret3
   exact ⟨⟨_, _, _⟩, rfl, ⟨_, xr r25⟩, xbel⟩
 obtain ⟨g0, g1, g2⟩ := hg rfl
 dsimp only at g0 g1 g2
 by_cases n3 : n > 3000
 · have n4 := eq_true n3
   go_wp2_with ((with_reducible refine gD 25 rfl ?_); refine li_ .u8 5 (N := 25) rfl [] ?_; intro v25 W r25 hb; replace r25 := aM (Kd.R_lower r25 (below_size xbel)); replace HB := xbs hb; clear hb)
   go_ret3
   exact ⟨⟨_, _, _⟩, rfl, ⟨_, xr r25⟩, xbel⟩
 have n4 := eq_false n3; have := HL.out
 have W1 : IntKind.i64.wrap ((l.length : Int) - f) = l.length - f := (i64_w _).trans (w64 (by omega) (by omega))
 have W2 : IntKind.i64.wrap (n + 4) = n + 4 := (i64_w _).trans (w64 (by omega) (by omega))
 by_cases s : (l.length : Int) - f < n + 4
 · have s1 := eq_true s
   go_wp2_with ((with_reducible refine gD 33 rfl ?_); refine li_ .u8 5 (N := 33) rfl [] ?_; intro v33 W r33 hb; replace r33 := aM (Kd.R_lower r33 (below_size xbel)); replace HB := xbs hb; clear hb)
   go_ret3
   exact ⟨⟨_, _, _⟩, rfl, ⟨_, xr r33⟩, xbel⟩
 have s1 := eq_false s
 obtain ⟨g, eg⟩ : ∃ g, g = f + n := ⟨_, rfl⟩
 have W3 : IntKind.i64.wrap (f + n) = g := (i64_w _).trans (by rw [w64 (by omega) (by omega), eg])
 obtain ⟨h, eh⟩ : ∃ h, h = g + 4 := ⟨_, rfl⟩
 have W4 : IntKind.i64.wrap (g + 4) = h := (i64_w _).trans (by rw [w64 (by omega) (by omega), eh])
 have F := aM (show 0 ≤ f ∧ f ≤ g ∧ g + 4 = h ∧ h ≤ l.length ∧ g ≤ f + 3000 by omega)
 clear g1 n3 s this; have F0 := F.out
 obtain ⟨i1, hi1, _, hs1, _⟩ := info_parts info5; obtain ⟨P1, hcut1, hA1, hC1⟩ := print_mid_of (P := Tryz.prog) (Value.int .u8) 0 22 5 .i64 .i64 Tryz.underlying22 hi1 hs1 A c l f g (by omega) (by omega) (by omega) Hc.out
 have c1 : Kd.C (Kd.int .u8) w _ _ _ := Kd.C_of_reads (h1 := fun _ => rfl) (hA1 _ (Kd.reads_of_C HC.out))
 have B1 : By ((l.take g.toNat).drop f.toNat) := fun x hx => HY.out x (List.mem_of_mem_take (List.mem_of_mem_drop hx))
 have n1 : ((l.take g.toNat).drop f.toNat).length = g.toNat - f.toNat := by rw [List.length_drop, List.length_take]; omega
 (try rw [← n1] at hcut1); generalize (l.take g.toNat).drop f.toNat = L1 at *; replace c1 := aM c1; replace n1 := aM n1; replace B1 := aM B1; clear hA1 hC1 hi1 hs1
 obtain ⟨i2, hi2, _, hs2, _⟩ := info_parts info5; obtain ⟨P2, hcut2, hA2, hC2⟩ := print_mid_of (P := Tryz.prog) (Value.int .u8) 0 22 5 .i64 .i64 Tryz.underlying22 hi2 hs2 A c l g h (by omega) (by omega) (by omega) Hc.out
 have c2 : Kd.C (Kd.int .u8) w _ _ _ := Kd.C_of_reads (h1 := fun _ => rfl) (hA2 _ (Kd.reads_of_C HC.out))
 have B2 : By ((l.take h.toNat).drop g.toNat) := fun x hx => HY.out x (List.mem_of_mem_take (List.mem_of_mem_drop hx))
 have n2 : ((l.take h.toNat).drop g.toNat).length = h.toNat - g.toNat := by rw [List.length_drop, List.length_take]; omega
 (try rw [← n2] at hcut2); generalize (l.take h.toNat).drop g.toNat = L2 at *; replace c2 := aM c2; replace n2 := aM n2; replace B2 := aM B2; clear hA2 hC2 hi2 hs2
 obtain ⟨ad0, he0, y0⟩ := Kd.at_int c2.out 0 (by decide) (by have := n2.out; omega); subst he0; (try simp only [show ((0 : Int)).toNat = 0 from rfl, Nat.reduceMul, Nat.reduceEqDiff, Go.Addr.add, ↓reduceIte] at y0); (try rw [Addr.add_zero'] at y0); replace y0 := aM y0; have qi0 := eq_true (show 0 < L2.length by have := n2.out; omega); have qn0 := eq_true (show (0 : Int) < (L2.length : Int) by have := n2.out; omega)
 obtain ⟨ad1, he1, y1⟩ := Kd.at_int c2.out 1 (by decide) (by have := n2.out; omega); obtain rfl : ad0 = ad1 := (by injection he1); (try simp only [show ((1 : Int)).toNat = 1 from rfl, Nat.reduceMul, Nat.reduceEqDiff, Go.Addr.add, ↓reduceIte] at y1); (try rw [Addr.add_zero'] at y1); replace y1 := aM y1; have qi1 := eq_true (show 1 < L2.length by have := n2.out; omega); have qn1 := eq_true (show (1 : Int) < (L2.length : Int) by have := n2.out; omega)
 obtain ⟨ad2, he2, y2⟩ := Kd.at_int c2.out 2 (by decide) (by have := n2.out; omega); obtain rfl : ad0 = ad2 := (by injection he2); (try simp only [show ((2 : Int)).toNat = 2 from rfl, Nat.reduceMul, Nat.reduceEqDiff, Go.Addr.add, ↓reduceIte] at y2); (try rw [Addr.add_zero'] at y2); replace y2 := aM y2; have qi2 := eq_true (show 2 < L2.length by have := n2.out; omega); have qn2 := eq_true (show (2 : Int) < (L2.length : Int) by have := n2.out; omega)
 obtain ⟨ad3, he3, y3⟩ := Kd.at_int c2.out 3 (by decide) (by have := n2.out; omega); obtain rfl : ad0 = ad3 := (by injection he3); (try simp only [show ((3 : Int)).toNat = 3 from rfl, Nat.reduceMul, Nat.reduceEqDiff, Go.Addr.add, ↓reduceIte] at y3); (try rw [Addr.add_zero'] at y3); replace y3 := aM y3; have qi3 := eq_true (show 3 < L2.length by have := n2.out; omega); have qn3 := eq_true (show (3 : Int) < (L2.length : Int) by have := n2.out; omega)
 clear g0 g2 eg eh F0
 go_wp2_with (first
  | ((with_reducible refine gD 34 rfl ?_); refine li_ .u8 5 (N := 34) rfl [] ?_; intro v34 W r34 hb; replace r34 := aM (Kd.R_lower r34 (below_size xbel)); replace HB := xbs hb; clear hb)
  | ((with_reducible refine gate_builtin (b := .append) (xs := #[.tmp 34, .tmp 40]) rfl ?_); at_builtin; refine Kd.R_append_rows (Kd.int .u8) (w0 := w) w.heap.size rfl (.tmp 34) (.tmp 40) 22 5 (.int .u8 0) 1 rfl Tryz.underlying22 info5 rfl (by decide) (by omega) v34 [] L1 _ _ _ (fun _ => True) (fun _ => False) rfl rfl (xr r34) (xcb c1) (fun _ _ h => h) (fun _ h => h.elim) (fun _ _ => trivial) xbel (below_size xbel) (by have := F.out; have := n1.out; simp only [List.length_nil]; omega) ?_; intro v41 W r41 hb _ _; replace HB := aM hb; replace r41 := aM r41; obtain ⟨A41, c41, rfl⟩ := Kd.R_slice r41.out; clear hb r34))
 ((with_reducible refine gR 8 ?_); refine st_ 25 (fun W => W.cell? ad0 = some (.int .u8 (rd L2 0)) ∧ W.cell? ⟨ad0.block, ad0.off + 1, none⟩ = some (.int .u8 (rd L2 1)) ∧ W.cell? ⟨ad0.block, ad0.off + 2, none⟩ = some (.int .u8 (rd L2 2)) ∧ W.cell? ⟨ad0.block, ad0.off + 3, none⟩ = some (.int .u8 (rd L2 3))) _ [0, 1, 0, 4, 12, 28, 0, 64, 192, 448, 960, 2044, 0, 4096, 12288, 28672, 61440, 131068, 0, 262144, 786432, 1835008, 3932160, 8388604, 16777215] (⟨xce (lD HB) y0.out, xce (lD HB) y1.out, xce (lD HB) y2.out, xce (lD HB) y3.out⟩) (hT := rfl) (fun hHeld HT_ HW_ => ?_); replace r41 := rD r41; replace HB := lD HB; generalize World.drew _ = W at r41 HB hHeld ⊢; refine pV 0 51 ?_; refine pV 2 53 ?_; refine pV 3 54 ?_; refine tK 4 55 ?_; refine pV 5 56 ?_; refine pV 6 57 ?_; refine pV 7 58 ?_; refine tK 8 59 ?_; refine pV 9 60 ?_; refine pV 10 61 ?_; refine pV 11 62 ?_; refine pV 12 63 ?_; refine pV 13 64 ?_; refine tK 14 65 ?_; refine pV 15 66 ?_; refine pV 16 67 ?_; refine pV 17 68 ?_; refine pV 18 69 ?_; refine pV 19 70 ?_; refine tK 20 71 ?_; refine pV 21 72 ?_; refine pV 22 73 ?_; refine pV 23 74 ?_; refine oN 1 52 fun K hK => ?_; refine d1_ Tryz.func106 (sum_c (xC r41) (Kd.R_reads' r41.out).2.1 B1.out (by have := F.out; have := n1.out; simp only [List.nil_append]; omega)) ?_; rintro s W hb; replace r41 := xrb r41 hb; replace HB := xbs hb; clear hb; refine hK.out _ _ ⟨xce HB y0.out, xce HB y1.out, xce HB y2.out, xce HB y3.out⟩ (fun hHeld => ?_); clear hK K; refine nm_ (N := 52) ?_; refine pV 24 75 ?_; refine dn_ ?_)
 go_wp2_with ((with_reducible refine gD 76 rfl ?_); refine li_ .u8 5 (N := 76) rfl [] ?_; intro v76 W r76 hb; replace r76 := aM (Kd.R_lower r76 (below_size xbel)); replace HB := xbs hb; clear hb)
 all_goals go_ret3
 all_goals first | exact ⟨⟨_, _, _⟩, rfl, ⟨_, xr r41⟩, xbel⟩ | exact ⟨⟨_, _, _⟩, rfl, ⟨_, xr r76⟩, xbel⟩
theorem bytesOf_len (s : ByteArray) : (bytesOf s).length = s.size := by unfold bytesOf; simp
theorem jread_c {r : Int} {A : Option Addr} {c : Nat} {F : List S66} {i : Nat} {w : World} {B : Nat} {ok : Nat → Prop} {nm : Int} (hR : Kd.R k66 66 w B ok (.slice A F.length c) F) (hF : DkI i F) (hi : i ≤ 28) :
 Calls Tryz.prog 68 #[.agg #[.int .i64 r, .slice A F.length c], .int .i64 nm] w fun e w' => ∃ u : Value × Int, e = .returned (.tuple #[u.1, .int .i64 u.2]) ∧ Below w.heap.size w w' := by
 have hv := Tryz.underlying26; have rF := aM hR; have HF := aM hF; have Hi := aM hi; have HB := aM (Below.refl w.heap.size w); clear hR hF hi
 go_enter Tryz.func68, Tryz.ntmps68
 go_upto_region 3 with (first
  | ((with_reducible refine gD 2 rfl ?_); refine bE_ (N := 2) rfl ?_; intro a2 hg W b2 hb; have l2 := aM (xge hg); replace rF := xrb rF hb; replace HB := xbs hb; have c2 := xf2 b2; clear hg hb)
  | ((with_reducible refine gD 14 rfl ?_); refine l0_ Kd.string 9 (N := 14) rfl ?_; intro v14 W ro hb; replace ro := aM (Kd.R_lower ro.out (below_size xbel)); replace rF := xrb rF hb; replace b2 := xbb b2 hb; replace HB := xbs hb; replace c2 := xf2 b2; clear hb)
  | ((with_reducible refine gC 91 rfl ?_); refine c1_ Tryz.func91 (dread_c (xr rF) HF.out Hi.out) ?_; rintro ⟨s, f⟩ W ⟨hs, hb⟩; (try replace ro := xrb ro hb); replace HB := xbs hb; clear hb))
 (try simp only [Act.put, List.setIfInBounds_toArray, List.set_cons_zero, List.set_cons_succ])
 cases f
 · go_wp2
   go_ret2
   first | exact ⟨(_, _), rfl, xbel⟩ | exact ⟨⟨_, _, rfl⟩, xbel⟩
 have hz : (s.size : Int) ≤ 1000000000000000 := by have := HF.out.1; have := dB_le (show i ≤ 30 by have := Hi.out; omega); dsimp only at hs; omega
 obtain ⟨l, el⟩ : ∃ l, l = bytesOf s := ⟨_, rfl⟩
 have HL := aM (show l.length ≤ 1000000000000000 by rw [el, bytesOf_len]; omega); have HY := aM (show By l by rw [el]; exact bytesOf_by s)
 have K := eq_false (show ¬ 9223372036854775807 < s.size by omega); have HS := aM hz
 clear hs hz
 go_wp2_with ((with_reducible refine gD 25 rfl ?_); refine Kd.V_conv _ 5 rfl (N := 25) rfl 9 22 _ rfl s rfl Tryz.underlying9 Tryz.underlying22 Tryz.underlying5 (by have := HS.out; omega) (ok := fun k_ => W.heap.size ≤ k_) (Nat.le_refl _) (Below.refl _ _) (Nat.le_refl _) ?_; intro v9 W rv hb _ _; rw [← el] at rv; replace rv := aM (Kd.V_mono (ok' := fun k => True ∧ some k ≠ (v14 : Value).ownBlock) rv (fun k hk => ⟨trivial, Kd.fresh' (Kd.R_lt (xr ro)) k hk⟩)); replace ro := xrb ro hb; replace HB := xbs hb; clear hb)
 obtain ⟨A9, c9, rfl⟩ := Kd.V_slice rv.out; clear el
 go_loopg [6, 10] 2001 (fun gg s6 s10 W => ∃ (o : List ByteArray) (i : Int), s10 = .int .i64 i ∧ Aside0 (o.length ≤ 2000 ∧ 2000 - o.length < gg) ∧ Aside0 (Kd.R Kd.string 9 W w.heap.size (fun _ => True) s6 o) ∧ Aside0 (Kd.V (Kd.int .u8) 5 W w.heap.size (fun k => True ∧ some k ≠ (s6 : Value).ownBlock) (.slice A9 l.length c9) l) ∧ Aside0 (Below w.heap.size w W))
 case atStart => exact ⟨[], 0, rfl, ⟨by simp⟩, aM (xr ro), rv, aM xbel⟩
 case round =>
  clear ro rv HB rF
  obtain ⟨o, i, rfl, F, ro, rv, HB⟩ := hrel
  obtain ⟨A6, c6, rfl⟩ := Kd.R_slice ro.out
  by_cases lt : i < l.length; rotate_left
  · have L0 := eq_false lt; go_wp2; go_ret2; first | exact ⟨(_, _), rfl, xbel⟩ | exact ⟨⟨_, _, rfl⟩, xbel⟩
  have L0 := eq_true lt
  by_cases lo : (o.length : Int) < 2000; rotate_left
  · have O0 := eq_false lo; go_wp2; go_ret2; first | exact ⟨(_, _), rfl, xbel⟩ | exact ⟨⟨_, _, rfl⟩, xbel⟩
  have O0 := eq_true lo; have LO := aM lo; clear lt lo
  go_wp2_with (first
  | ((with_reducible refine gC 92 rfl ?_); refine c1_ Tryz.func92 (unseal_c (Kd.V_reads' rv.out).2.2 (Kd.V_reads' rv.out).2.1 HL.out HY.out) ?_; rintro ⟨v38, n38, k38⟩ W ⟨⟨q, r38⟩, hb⟩; replace rv := aM (Kd.V_below rv.out hb); have hcv := own_string (P := Tryz.prog) Tryz.underlying22 Tryz.underlying5 Tryz.underlying9 (Kd.own_of_R r38); (try replace ro := xrb ro hb); replace HB := xbs hb; clear hb)
  | ((with_reducible refine gate_builtin (b := .append) (xs := #[.tmp 46, .tmp 49]) rfl ?_); at_builtin; refine Kd.R_append Kd.string (w0 := w) w.heap.size rfl (.tmp 46) (.tmp 49) 55 9 (.string ⟨#[]⟩) 16 rfl Tryz.underlying55 info9 rfl (by decide) (by decide) _ o (strOfNums q) [.string (strOfNums q)] (fun _ => True) (fun _ => False) rfl rfl rfl (fun _ hk => hk.elim) (fun _ _ => trivial) (xr ro) xbel (below_size xbel) (by have := F.out; omega) ?_; intro v1 W r1 hb hg hat; replace rv := aM (Kd.V_afterv (ok := fun _ => True) (v := .slice A6 o.length c6) rv.out hg hat); replace HB := aM hb; replace ro := aM r1; clear hb hg hat r1))
  all_goals try (go_ret2; first | exact ⟨(_, _), rfl, xbel⟩ | exact ⟨⟨_, _, rfl⟩, xbel⟩)
  go_roundg (2000 - o.length)
  case measure => have := F.out; have := LO.out; omega
  case rel => (have := F.out; have := LO.out; exact ⟨_, _, rfl, ⟨by simp only [List.length_append, List.length_singleton]; omega⟩, aM (xr ro), aM (Kd.V_drewN rv.out 0), aM xbel⟩)
theorem app_c {r : Int} {A : Option Addr} {c : Nat} {F : List S66} {i : Nat} {w : World} {B : Nat} {ok : Nat → Prop} {nm : Int} {s : ByteArray} (hR : Kd.R k66 66 w B ok (.slice A F.length c) F) (hF : DkI i F) (hi : i ≤ 28) (hs : s.size ≤ 1000) :
 Calls Tryz.prog 32 #[.agg #[.int .i64 r, .slice A F.length c], .int .i64 nm, .string s] w fun e w' => ∃ u : Int × Value × Int, e = .returned (.tuple #[.agg #[.int .i64 u.1, u.2.1], .int .i64 u.2.2]) ∧ (∃ F', DkI (i + 1) F' ∧ Kd.R k66 66 w' w.heap.size (fun _ => True) u.2.1 F') ∧ Below w.heap.size w w' := by
 obtain ⟨k, r', F', c', h, hj⟩ := app_w r nm s hF hi hs
 exact (spec_DiskAppend.calls h (Kd.R_reads' hR).2.2 (Kd.R_reads' hR).2.1).mono fun e w' ⟨v, h1, h2, h3⟩ => ⟨(r', v, c'), h1, ⟨F', hj, h2⟩, h3⟩
theorem sync_c {r : Int} {A : Option Addr} {c : Nat} {F : List S66} {i : Nat} {w : World} {B : Nat} {ok : Nat → Prop} {nm : Int} (hR : Kd.R k66 66 w B ok (.slice A F.length c) F) (hF : DkI i F) (hi : i ≤ 28)  :
 Calls Tryz.prog 44 #[.agg #[.int .i64 r, .slice A F.length c], .int .i64 nm] w fun e w' => ∃ u : Int × Value × Int, e = .returned (.tuple #[.agg #[.int .i64 u.1, u.2.1], .int .i64 u.2.2]) ∧ (∃ F', DkI (i + 1) F' ∧ Kd.R k66 66 w' w.heap.size (fun _ => True) u.2.1 F') ∧ Below w.heap.size w w' := by
 obtain ⟨k, r', F', c', h, hj⟩ := sync_w r nm hF hi 
 exact (spec_DiskSync.calls h (Kd.R_reads' hR).2.2 (Kd.R_reads' hR).2.1).mono fun e w' ⟨v, h1, h2, h3⟩ => ⟨(r', v, c'), h1, ⟨F', hj, h2⟩, h3⟩
theorem jadd_c {r : Int} {A : Option Addr} {c : Nat} {F : List S66} {i : Nat} {w : World} {B : Nat} {ok : Nat → Prop} {nm : Int} {A2 : Option Addr} {c2 : Nat} {q : List ByteArray} {B2 : Nat} {ok2 : Nat → Prop} (hR : Kd.R k66 66 w B ok (.slice A F.length c) F) (hF : DkI i F) (hi : i ≤ 28) (hQ : Kd.R Kd.string 9 w B2 ok2 (.slice A2 q.length c2) q) (hq : q.length ≤ 4 ∧ ∀ s ∈ q, s.size ≤ 5) :
 Calls Tryz.prog 22 #[.agg #[.int .i64 r, .slice A F.length c], .int .i64 nm, .slice A2 q.length c2] w fun e w' => ∃ u : Int × Value × Int, e = .returned (.tuple #[.agg #[.int .i64 u.1, u.2.1], .int .i64 u.2.2]) ∧ (∃ F', DkI (i + 1) F' ∧ Kd.R k66 66 w' w.heap.size (fun _ => True) u.2.1 F') ∧ Below w.heap.size w w' := by
 obtain ⟨k, r', F', c', h, hj⟩ := jadd_w r nm q hF hi hq
 exact (spec_JournalAdd.calls h (Kd.R_reads' hR).2.2 (Kd.R_reads' hR).2.1 (Kd.R_reads' hQ).2.2 (Kd.R_reads' hQ).2.1).mono fun e w' ⟨v, h1, h2, h3⟩ => ⟨(r', v, c'), h1, ⟨F', hj, h2⟩, h3⟩
theorem jlate_c {r : Int} {A : Option Addr} {c : Nat} {F : List S66} {i : Nat} {w : World} {B : Nat} {ok : Nat → Prop} {nm : Int} {A2 : Option Addr} {c2 : Nat} {q : List ByteArray} {B2 : Nat} {ok2 : Nat → Prop} (hR : Kd.R k66 66 w B ok (.slice A F.length c) F) (hF : DkI i F) (hi : i ≤ 28) (hQ : Kd.R Kd.string 9 w B2 ok2 (.slice A2 q.length c2) q) (hq : q.length ≤ 4 ∧ ∀ s ∈ q, s.size ≤ 5) :
 Calls Tryz.prog 30 #[.agg #[.int .i64 r, .slice A F.length c], .int .i64 nm, .slice A2 q.length c2] w fun e w' => ∃ u : Int × Value × Int, e = .returned (.tuple #[.agg #[.int .i64 u.1, u.2.1], .int .i64 u.2.2]) ∧ (∃ F', DkI (i + 1) F' ∧ Kd.R k66 66 w' w.heap.size (fun _ => True) u.2.1 F') ∧ Below w.heap.size w w' := by
 obtain ⟨k, r', F', c', h, hj⟩ := jlate_w r nm q hF hi hq
 exact (spec_JournalLate.calls h (Kd.R_reads' hR).2.2 (Kd.R_reads' hR).2.1 (Kd.R_reads' hQ).2.2 (Kd.R_reads' hQ).2.1).mono fun e w' ⟨v, h1, h2, h3⟩ => ⟨(r', v, c'), h1, ⟨F', hj, h2⟩, h3⟩
theorem mend_c {r : Int} {A : Option Addr} {c : Nat} {F : List S66} {i : Nat} {w : World} {B : Nat} {ok : Nat → Prop} {nm : Int} (hR : Kd.R k66 66 w B ok (.slice A F.length c) F) (hF : DkI i F) (hi : i ≤ 27)  :
 Calls Tryz.prog 34 #[.agg #[.int .i64 r, .slice A F.length c], .int .i64 nm] w fun e w' => ∃ u : Int × Value × Int, e = .returned (.tuple #[.agg #[.int .i64 u.1, u.2.1], .int .i64 u.2.2]) ∧ (∃ F', DkI (i + 2) F' ∧ Kd.R k66 66 w' w.heap.size (fun _ => True) u.2.1 F') ∧ Below w.heap.size w w' := by
 have hv := Tryz.underlying26; have HR := aM hR; have HF := aM hF; have Hi := aM hi; have HB := aM (Below.refl w.heap.size w); clear hR hF hi
 go_enter Tryz.func34, Tryz.ntmps34
 go_wp2_with (first
  | ((with_reducible refine gD 2 rfl ?_); refine bE_ (N := 2) rfl ?_; intro a2 hg W b2 hb; have l2 := aM (xge hg); replace HR := xrb HR hb; replace HB := xbs hb; have c2 := xf2 b2; clear hg hb)
  | ((with_reducible refine gD 4 rfl ?_); refine bE_ (N := 4) rfl ?_; intro a4 hg W b4 hb; have l4 := aM (xge hg); have p204 := nblt b2 hg; have q204 := nbgt b2 hg; replace HR := xrb HR hb; replace b2 := xbb b2 hb; replace HB := xbs hb; replace c2 := xf2 b2; have c4 := xf2 b4; clear hg hb)
  | ((with_reducible refine gC 68 rfl ?_); refine c1_ Tryz.func68 (jread_c (xr HR) HF.out (by have := Hi.out; omega)) ?_; rintro ⟨V0, n⟩ W hb; (try replace HR := xrb HR hb); (try replace b2 := xbb b2 hb); (try replace b4 := xbb b4 hb); replace HB := xbs hb; (try replace c2 := xf2 b2); (try replace c4 := xf2 b4); clear hb)
  | ((with_reducible refine gC 69 rfl ?_); refine c1_ Tryz.func69 (cut_c (xr HR) HF.out (by have := Hi.out; omega)) ?_; rintro ⟨r1, V1, k1⟩ W ⟨⟨F1, hF, rn⟩, hb⟩; replace rn := aM (Kd.R_lower rn (below_size xbel)); dsimp only at rn; obtain ⟨A1, c1, rfl⟩ := Kd.R_slice rn.out; (try replace HR := xrb HR hb); (try replace b2 := xbb b2 hb); (try replace b4 := xbb b4 hb); replace HB := xbs hb; (try replace c2 := xf2 b2); (try replace c4 := xf2 b4); clear hb)
  | ((with_reducible refine gD 8 rfl ?_); refine bE_ (N := 8) rfl ?_; intro a8 hg W b8 hb; have l8 := aM (xge hg); have p208 := nblt b2 hg; have q208 := nbgt b2 hg; have p408 := nblt b4 hg; have q408 := nbgt b4 hg; replace rn := xrb rn hb; replace b2 := xbb b2 hb; replace b4 := xbb b4 hb; replace HB := xbs hb; replace c2 := xf2 b2; replace c4 := xf2 b4; have c8 := xf2 b8; clear hg hb)
  | ((with_reducible refine gS rfl ?_); intro ho; refine sE_ _ _ ?_ ho; intro W hw; clear ho; (try replace rn := xws hw rn); (try replace b2 := xwO hw b2); (try replace b4 := xwO hw b4); (try replace b8 := xwO hw b8); (try simp only [List.setIfInBounds_toArray, List.set_cons_zero, List.set_cons_succ] at b2); (try simp only [List.setIfInBounds_toArray, List.set_cons_zero, List.set_cons_succ] at b4); (try simp only [List.setIfInBounds_toArray, List.set_cons_zero, List.set_cons_succ] at b8); replace HB := xbw hw HB; (try replace c2 := xf2 b2); (try replace c4 := xf2 b4); (try replace c8 := xf2 b8); clear hw)
  | ((with_reducible refine gC 44 rfl ?_); refine c1_ Tryz.func44 (sync_c (xr rn) hF (by have := Hi.out; omega)) ?_; rintro ⟨r2, V2, k2⟩ W ⟨⟨F2, hF2, rm⟩, hb⟩; replace rn := aM (Kd.R_lower rm (below_size xbel)); dsimp only at rn; obtain ⟨A2, c2', rfl⟩ := Kd.R_slice rn.out; replace hF := hF2; (try replace b2 := xbb b2 hb); (try replace b4 := xbb b4 hb); (try replace b8 := xbb b8 hb); replace HB := xbs hb; (try replace c2 := xf2 b2); (try replace c4 := xf2 b4); (try replace c8 := xf2 b8); clear hb))
 all_goals (refine bodyPost_ret (results_ct rfl _ _ a4 26 _ (0, 0) _ rfl b4.out Tryz.underlying26 rfl (by kernel_rfl)) rfl ?_; first | exact ⟨(_, _, _), rfl, ⟨_, hF, xr rn⟩, xbel⟩ | exact ⟨(_, _, _), rfl, ⟨_, hF.up, xr rn⟩, xbel⟩ | exact ⟨_, _, ⟨_, rfl⟩, ⟨_, hF, xr rn⟩, xbel⟩ | exact ⟨_, _, ⟨_, rfl⟩, ⟨_, hF.up, xr rn⟩, xbel⟩)
theorem dsz0 : (⟨#[]⟩ : ByteArray).size = 0 := rfl
theorem max2_c (a b : Int) (w : World) : Calls Tryz.prog 61 #[.int .i64 a, .int .i64 b] w fun e w' => ∃ x, e = .returned (.int .i64 x) ∧ (a ≤ x ∧ b ≤ x) ∧ Below w.heap.size w w' := by
 go_enter Tryz.func61, Tryz.ntmps61
 go_wp2
 all_goals go_ret
 all_goals exact ⟨_, rfl, by omega, Below.refl _ _⟩
theorem min2_c (a b : Int) (w : World) : Calls Tryz.prog 60 #[.int .i64 a, .int .i64 b] w fun e w' => ∃ x, e = .returned (.int .i64 x) ∧ (x ≤ b ∧ (0 ≤ a → 0 ≤ b → 0 ≤ x)) ∧ Below w.heap.size w w' := by
 go_enter Tryz.func60, Tryz.ntmps60
 go_wp2
 all_goals go_ret
 all_goals exact ⟨_, rfl, by omega, Below.refl _ _⟩
theorem crash_c {r : Int} {A : Option Addr} {c : Nat} {F : List S66} {i : Nat} {w : World} {B : Nat} {ok : Nat → Prop} {A2 : Option Addr} {c2 : Nat} {q : List Int} {B2 : Nat} {ok2 : Nat → Prop} (hR : Kd.R k66 66 w B ok (.slice A F.length c) F) (hF : DkI i F) (hi : i ≤ 28) (hQ : Kd.R (Kd.int .i64) 3 w B2 ok2 (.slice A2 q.length c2) q) (hq : q.length ≤ 8) :
 Calls Tryz.prog 31 #[.agg #[.int .i64 r, .slice A F.length c], .slice A2 q.length c2] w fun e w' => ∃ u : Int × Value, e = .returned (.agg #[.int .i64 u.1, u.2]) ∧ (∃ F', DkI (i + 1) F' ∧ Kd.R k66 66 w' w.heap.size (fun _ => True) u.2 F') ∧ Below w.heap.size w w' := by
 have hv := Tryz.underlying26; have hy := Tryz.underlying66; have HC := aM (Kd.R_reads' hR).2.2; have Hc := aM (Kd.R_reads' hR).2.1; have HQ := aM (Kd.R_reads' hQ).2.2; have kq := eq_false (show ¬ 8 < q.length by omega); have kq2 := eq_false (show ¬ (8 : Int) < q.length by omega); have HF := aM hF; have Hi := aM (show i ≤ 30 by omega); have HB := aM (Below.refl w.heap.size w); clear hR hF hi hQ hq
 go_enter Tryz.func31, Tryz.ntmps31
 go_wp2_with (first
  | ((with_reducible refine gD 2 rfl ?_); refine bE_ (N := 2) rfl ?_; intro a2 hg W b2 hb; have l2 := aM (xge hg); replace HB := xbs hb; have c2 := xf2 b2; clear hg hb)
  | ((with_reducible refine gD 4 rfl ?_); refine bE_ (N := 4) rfl ?_; intro a4 hg W b4 hb; have l4 := aM (xge hg); have p204 := nblt b2 hg; have q204 := nbgt b2 hg; replace b2 := xbb b2 hb; replace HB := xbs hb; replace c2 := xf2 b2; have c4 := xf2 b4; clear hg hb)
  | ((with_reducible refine gS rfl ?_); intro ho; refine sE_ _ _ ?_ ho; intro W hw; clear ho; (try replace b2 := xwO hw b2); (try replace b4 := xwO hw b4); (try replace b5 := xwO hw b5); (try simp only [List.setIfInBounds_toArray, List.set_cons_zero, List.set_cons_succ] at b2); (try simp only [List.setIfInBounds_toArray, List.set_cons_zero, List.set_cons_succ] at b4); (try simp only [List.setIfInBounds_toArray, List.set_cons_zero, List.set_cons_succ] at b5); replace HB := xbw hw HB; (try replace c2 := xf2 b2); (try replace c4 := xf2 b4); (try replace c5 := xf2 b5); clear hw)
  | ((with_reducible refine gC 59 rfl ?_); refine c1_ Tryz.func59 (ok_c (Kd.C_below HC.out xbel) Hc.out HF.out Hi.out) ?_; rintro z W hb; (try replace b2 := xbb b2 hb); (try replace b4 := xbb b4 hb); replace HB := xbs hb; (try replace c2 := xf2 b2); (try replace c4 := xf2 b4); clear hb)
  | ((with_reducible refine gD 5 rfl ?_); refine bE_ (N := 5) rfl ?_; intro a5 hg W b5 hb; have l5 := aM (xge hg); have p205 := nblt b2 hg; have q205 := nbgt b2 hg; have p405 := nblt b4 hg; have q405 := nbgt b4 hg; replace b2 := xbb b2 hb; replace b4 := xbb b4 hb; replace HB := xbs hb; replace c2 := xf2 b2; replace c4 := xf2 b4; have c5 := xf2 b5; clear hg hb))
 all_goals try ((with_reducible refine gX ?_); refine bodyPost_ret (results_cell_row rfl _ _ a4 26 _ (0, 0) _ rfl b4.out Tryz.underlying26 rfl (by kernel_rfl)) rfl ?_; exact ⟨(_, _), rfl, ⟨[], ⟨dB0 _, Nat.zero_le _⟩, Kd.R_nil _ _ _ _ _⟩, xbel⟩)
 go_loopg [6] (F.length + 1) (fun gg s6 W => ∃ (k : Nat) (O : List S66) (V : Value), s6 = .int .i64 (k : Int) ∧ Aside0 (k ≤ F.length ∧ F.length - k < gg ∧ O.length ≤ k ∧ dsize O ≤ dsize (F.take k)) ∧ Aside0 (Kd.R k66 66 W w.heap.size (fun _ => True) V O) ∧ Aside0 (W.heap[a2]? = some (.cells #[.int .i64 r, .slice A F.length c] 26 (0, 0))) ∧ Aside0 (W.heap[a4]? = some (.cells #[.int .i64 0, .slice none 0 0] 26 (0, 0))) ∧ Aside0 (W.heap[a5]? = some (.cells #[.int .i64 r, V] 26 (0, 0))) ∧ Aside0 (Below w.heap.size w W))
 case atStart => exact ⟨0, [], .slice none 0 0, rfl, ⟨Nat.zero_le _, by omega, Nat.le_refl _, by simp⟩, ⟨Kd.R_nil _ _ _ _ _⟩, b2, b4, b5, HB⟩
 case round =>
  clear b2 b4 b5 HB c2 c4 c5
  obtain ⟨k, O, V, rfl, F0, ro, b2, b4, b5, HB⟩ := hrel
  obtain ⟨A5, c5', rfl⟩ := Kd.R_slice ro.out
  have c2 := xf2 b2; have c4 := xf2 b4; have c5 := xf2 b5
  by_cases lt : k < F.length
  · have L0 := eq_true (show (k : Int) < F.length by omega); have L := aM lt; clear lt
    obtain ⟨ad, rfl, e0, e1, e2⟩ := at_T66 HC.out (k : Int) (by omega) (by have := L.out; omega)
    simp only [Int.toNat_natCast] at e0 e1 e2
    replace e0 := xce HB e0; replace e1 := xce HB e1; replace e2 := xce HB e2
    go_wp2_with (first
  | ((with_reducible refine gD 7 rfl ?_); refine bE_ (N := 7) rfl ?_; intro a7 hg W b7 hb; have l7 := aM (xge hg); have p207 := nblt b2 hg; have q207 := nbgt b2 hg; have p407 := nblt b4 hg; have q407 := nbgt b4 hg; have p507 := nblt b5 hg; have q507 := nbgt b5 hg; replace ro := aM (Kd.R_below (Kd.R_elderB (xr ro) a7 (Nat.le_of_eq hg.symm)) hb); replace b2 := xbb b2 hb; replace b4 := xbb b4 hb; replace b5 := xbb b5 hb; replace HB := xbs hb; replace c2 := xf2 b2; replace c4 := xf2 b4; replace c5 := xf2 b5; have c7 := xf3 b7; clear hg hb)
  | ((with_reducible refine gS rfl ?_); intro ho; refine sE_ _ _ ?_ ho; intro W hw; clear ho; (first | replace ro := xwf hw ro (fun _ h => h.2) | replace ro := xwf hw ro (fun _ h => h)); (try replace b2 := xwO hw b2); (try replace b4 := xwO hw b4); (try replace b5 := xwO hw b5); (try replace b7 := xwO hw b7); (try simp only [List.setIfInBounds_toArray, List.set_cons_zero, List.set_cons_succ] at b2); (try simp only [List.setIfInBounds_toArray, List.set_cons_zero, List.set_cons_succ] at b4); (try simp only [List.setIfInBounds_toArray, List.set_cons_zero, List.set_cons_succ] at b5); (try simp only [List.setIfInBounds_toArray, List.set_cons_zero, List.set_cons_succ] at b7); replace HB := xbw hw HB; (try replace c2 := xf2 b2); (try replace c4 := xf2 b4); (try replace c5 := xf2 b5); (try replace c7 := xf3 b7); clear hw))
    rotate_left
    have jn := trivial
    rotate_left
    obtain ⟨aq, rfl, eq⟩ := Kd.at_int HQ.out (k : Int) (by omega) (by omega)
    have EQ := aM eq; simp only [Int.toNat_natCast] at EQ; clear eq
    ((with_reducible refine gR 10 ?_); refine st_ 10 (fun W => W.cell? (aq.add k) = some (.int .i64 (rd q k)) ∧ W.cell? ⟨a7, 2, none⟩ = some (.string (rd_T66 F k).f2)) _ [0, 0, 3, 7, 15, 0, 32, 96, 255, 511] (⟨xce (lD HB) EQ.out, xc (bD b7) 2 rfl⟩) (hT := rfl) (fun hHeld HT_ HW_ => ?_); replace ro := rD ro; replace b2 := bD b2; replace b4 := bD b4; replace b5 := bD b5; replace b7 := bD b7; replace HB := lD HB; generalize World.drew _ = W at ro b2 b4 b5 b7 HB hHeld ⊢; refine pV 0 37 ?_; refine pV 1 38 ?_; refine pV 2 39 ?_; refine tK 3 40 ?_; refine pV 5 42 ?_; refine tK 6 43 ?_; refine pV 7 44 ?_; refine oN 4 41 fun K hK => ?_; refine d1_ Tryz.func61 (max2_c _ _ _) ?_; rintro x W ⟨hx, hb⟩; replace ro := xrb ro hb; replace b2 := xbb b2 hb; replace b4 := xbb b4 hb; replace b5 := xbb b5 hb; replace b7 := xbb b7 hb; replace HB := xbs hb; clear hb; refine hK.out _ _ ⟨xce HB EQ.out, xc b7 2 rfl⟩ (fun hHeld => ?_); clear hK K; refine nm_ (N := 41) ?_; refine oN 8 45 fun K hK => ?_; refine d1_ Tryz.func60 (min2_c _ _ _) ?_; rintro kv W ⟨hk, hb⟩; replace ro := xrb ro hb; replace b2 := xbb b2 hb; replace b4 := xbb b4 hb; replace b5 := xbb b5 hb; replace b7 := xbb b7 hb; replace HB := xbs hb; clear hb; refine hK.out _ _ ⟨xce HB EQ.out, xc b7 2 rfl⟩ (fun hHeld => ?_); clear hK K; refine nm_ (N := 45) ?_; refine pV 9 8 ?_; refine dn_ ?_)
    go_wp2
    have k0 := eq_true (hk.2 hx.2 (by omega)); have k1 := eq_true hk.1
    all_goals
      have Z : (rd_T66 F k).f1.size + (rd_T66 F k).f2.size ≤ 1000000000000000 := by have := rdsz (F := F) (j := k) (by omega) (by have := L.out; omega); have := HF.out.1; have := dB_le Hi.out; omega
      have K0 := eq_false (show ¬ 9223372036854775807 < (rd_T66 F k).f1.size by omega)
      have K1 : ∀ n : Nat, (9223372036854775807 < (rd_T66 F k).f1.size + ((rd_T66 F k).f2.extract 0 n).size) = False := fun n => eq_false (by rw [ByteArray.size_extract]; omega)
    have K2 := eq_false (show ¬ 9223372036854775807 < (rd_T66 F k).f1.size + kv.toNat by have := hk.1; omega)
    all_goals
      ((with_reducible refine gR 11 ?_); refine sT_ 16 [15] (fun W => W.cell? ⟨a5, 1, none⟩ = some (.slice A5 O.length c5') ∧ W.cell? ⟨a7, 0, none⟩ = some (.int .i64 (rd_T66 F k).f0) ∧ W.cell? ⟨a7, 1, none⟩ = some (.string (rd_T66 F k).f1) ∧ W.cell? ⟨a7, 2, none⟩ = some (.string (rd_T66 F k).f2)) _ [0, 1, 0, 4, 0, 16, 0, 64, 0, 448, 1008, 2044, 4092, 8191, 16383, 32767] (⟨xc (bD b5) 1 rfl, xc (bD b7) 0 rfl, xc (bD b7) 1 rfl, xc (bD b7) 2 rfl⟩) (hT := rfl) (fun hHeld HT_ HW_ => ?_); replace ro := rD ro; replace b2 := bD b2; replace b4 := bD b4; replace b5 := bD b5; replace b7 := bD b7; replace HB := lD HB; generalize World.drew _ = W at ro b2 b4 b5 b7 HB hHeld ⊢; refine pV 0 46 ?_; refine tK 1 47 ?_; refine pV 2 48 ?_; refine tK 3 49 ?_; refine pV 4 50 ?_; refine tK 5 51 ?_; refine pV 6 52 ?_; refine tK 7 53 ?_; refine pV 8 54 ?_; refine pV 9 55 ?_; refine pV 10 56 ?_; refine pV 11 57 ?_; refine oN 12 58 fun K hK => ?_; refine vK_ ?_; refine hK.out _ _ ⟨xc (aM (blk_alloc b5.out _)) 1 rfl, xc (aM (blk_alloc b7.out _)) 0 rfl, xc (aM (blk_alloc b7.out _)) 1 rfl, xc (aM (blk_alloc b7.out _)) 2 rfl⟩ (fun hHeld => ?_); clear hK K; refine nm_ (N := 58) ?_; refine oN 13 59 fun K hK => ?_; refine apK_ 47 58 (d := k66) (z := .agg #[.int .i64 0, .string ⟨#[]⟩, .string ⟨#[]⟩]) (p := (⟨_, _, ⟨#[]⟩⟩ : S66)) (xr ro) (k66_mkM _ _ _ _) (by have := F0.out; have := HF.out.2; have := Hi.out; omega) (fun _ hk => Kd.freshB b7.out _ hk) (below_size xbel) Tryz.underlying24 info66 rfl (by decide) (by decide) ?_; intro v1 W r1 hb hg; replace b2 := aM (blk_grown b2.out hg (Kd.R_ne ro.out b2.out (by decide))); replace b4 := aM (blk_grown b4.out hg (Kd.R_ne ro.out b4.out (by decide))); replace b5 := aM (blk_grown b5.out hg (Kd.R_ne ro.out b5.out (by decide))); replace b7 := aM (blk_grown b7.out hg (Kd.R_away ro.out (fun _ hk => hk))); replace HB := aM (below_weaken HB.out (Nat.le_refl _) hb); refine hK.out _ _ ⟨xc b5 1 rfl, xc b7 0 rfl, xc b7 1 rfl, xc b7 2 rfl⟩ (fun hHeld => ?_); clear hK K; replace ro := r1; obtain ⟨A11, c11, e11⟩ := Kd.R_slice ro.out; subst e11; clear hb hg r1; refine nm_ (N := 59) ?_; refine pV 14 60 ?_; refine eL_ 15 fun K hK => ?_; have c5 := xf2 b5; refine sK_ ?_; intro W hw; replace ro := xws hw ro; replace b2 := xwO hw b2; replace b4 := xwO hw b4; replace b5 := xwO hw b5; replace b7 := xwO hw b7; (try simp only [List.setIfInBounds_toArray, List.set_cons_zero, List.set_cons_succ] at b2 b4 b5 b7); replace HB := xbw hw HB; clear hw; refine hK.out _ _ ?_; clear hK K; refine dn_ ?_)
      go_wp2
      go_roundg (F.length - k)
      case measure => have := F0.out; have := L.out; omega
      case rel => (have := F0.out; have := L.out; have := HF.out.2; have := Hi.out; simp only [List.length_append, List.length_singleton] at ro; have t := dsz_take L.out; exact ⟨k + 1, _, _, by first | rfl | exact congrArg (Value.int .i64) (by rw [w64 (by omega) (by omega)]; omega), ⟨by omega, by omega, by simp only [List.length_append, List.length_singleton]; omega, by rw [t, dsz_app]; first | (simp only [ByteArray.size_append, ByteArray.size_extract, dsz0]; omega) | exact (show dsize O + ((rd_T66 F k).f1.size : Int) + ((0 : Nat) : Int) ≤ dsize (F.take k) + (rd_T66 F k).f1.size + (rd_T66 F k).f2.size by omega)⟩, aM (Kd.R_mono ro.out (fun _ _ => trivial)), b2, b4, b5, HB⟩)
  · have L0 := eq_false (show ¬ (k : Int) < F.length by omega); clear lt
    go_wp2_with ((with_reducible refine gS rfl ?_); intro ho; refine sE_ _ _ ?_ ho; intro W hw; clear ho; (try replace ro := xws hw ro); (try replace b2 := xwO hw b2); (try replace b4 := xwO hw b4); (try replace b5 := xwO hw b5); (try simp only [List.setIfInBounds_toArray, List.set_cons_zero, List.set_cons_succ] at b2); (try simp only [List.setIfInBounds_toArray, List.set_cons_zero, List.set_cons_succ] at b4); (try simp only [List.setIfInBounds_toArray, List.set_cons_zero, List.set_cons_succ] at b5); replace HB := xbw hw HB; (try replace c2 := xf2 b2); (try replace c4 := xf2 b4); (try replace c5 := xf2 b5); clear hw)
    refine bodyPost_ret (results_cell_row rfl _ _ a4 26 _ (0, 0) _ rfl b4.out Tryz.underlying26 rfl (by kernel_rfl)) rfl ?_
    have := F0.out; have := HF.out.1; have := HF.out.2; have := dsz_le F k; have := dB0 i
    exact ⟨(_, _), rfl, ⟨_, ⟨by simp only [dB]; omega, by omega⟩, xr ro⟩, xbel⟩
end Go.Proofs.YtppfnnpfamkclaaGreat.QFnSaved
