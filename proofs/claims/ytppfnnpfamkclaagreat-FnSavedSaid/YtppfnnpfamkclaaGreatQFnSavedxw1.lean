/- Weak contracts: what only the draws reach ends, and keeps within its bounds. No condition. -/
import Derived.Test.YtppfnnpfamkclaaGreatQFnSavedxw0
namespace Go.Proofs.YtppfnnpfamkclaaGreat.QFnSaved
open Go.RowKit Go.Proofs.YtppfnnpfamkclaaGreat.Pure Go.Proofs.YtppfnnpfamkclaaGreatW.PrintWords Go.Proofs.YtppfnnpfamkclaaGreatW.PrintLast Go.Proofs.YtppfnnpfamkclaaGreatW.PrintMore
set_option maxHeartbeats 8000000
set_option maxRecDepth 100000
set_option linter.unusedVariables false
set_option linter.unusedSimpArgs false
theorem w64I {x : Int} (h : -9223372036854775808 ≤ x) (h2 : x < 9223372036854775808) : wrap64 x = x := by unfold wrap64; omega
def lo_ (x : Int) : Int := Go.bits .and .i64 x 4294967295
theorem low_c (x : Int) (w : World) : Calls Tryz.prog 114 #[.int .i64 x] w fun e w' => e = .returned (.int .i64 (lo_ x)) ∧ Drawn0 w w' := by
 go_enter Tryz.func114, Tryz.ntmps114
 go_wp2
 go_ret
 exact ⟨rfl, Drawn0.refl _⟩
def tr_ (x n : Int) : Int := lo_ (Go.bits .or .i64 (shr .i64 x n) (shl .i64 x (wrap64 (32 - n))))
theorem turn_c (x n : Int) (w : World) (h0 : 0 ≤ n) (h1 : n ≤ 32) : Calls Tryz.prog 113 #[.int .i64 x, .int .i64 n] w fun e w' => e = .returned (.int .i64 (tr_ x n)) ∧ Drawn0 w w' := by
 obtain ⟨y, hy⟩ : ∃ y, (shr .i64 x n) = y := ⟨_, rfl⟩
 obtain ⟨m, hm⟩ : ∃ m, wrap64 (32 - n) = m := ⟨_, rfl⟩
 have he : 32 - n = m := by rw [← hm]; exact (w64I (by omega) (by omega)).symm
 obtain ⟨z, hz⟩ : ∃ z, (shl .i64 x m) = z := ⟨_, rfl⟩
 have a0 := eq_true h0; have a1 : decide (0 ≤ n) = true := decide_eq_true h0; have b0 : 0 ≤ m := by omega
 have b1 := eq_true b0; have b2 : decide (0 ≤ m) = true := decide_eq_true b0; have c1 : (x / 2 ^ min n.toNat 64) = y := hy
 have c2 : (IntKind.i64.wrap (32 - n)) = m := (i64_w _).trans hm; have c3 : (IntKind.i64.wrap (x * 2 ^ min m.toNat 64)) = z := hz; have c4 : (wrap64 (x * 2 ^ min m.toNat 64)) = z := (i64_w _).symm.trans c3
 have hr : tr_ x n = lo_ (Go.bits .or .i64 y z) := by unfold tr_; rw [hm, ← hy, ← hz]
 rw [hr]; clear hr hy hz hm h0 h1 b0 he
 go_enter Tryz.func113, Tryz.ntmps113
 go_wp2
 go_quiet (first | (go_at_call 114; (with_reducible refine (low_c _ _).mono ?_); rintro e w' ⟨rfl, ⟨nd, rfl⟩⟩; exact ⟨rfl, _, World.drewN_drewN _ _ _⟩))
 go_wp2
 go_ret
 exact ⟨rfl, by repeat (first | exact Drawn0.refl _ | apply Drawn0.step)⟩
def keyl : List Int := [1116352408, 1899447441, 3049323471, 3921009573, 961987163, 1508970993, 2453635748, 2870763221, 3624381080, 310598401, 607225278, 1426881987, 1925078388, 2162078206, 2614888103, 3248222580, 3835390401, 4022224774, 264347078, 604807628, 770255983, 1249150122, 1555081692, 1996064986, 2554220882, 2821834349, 2952996808, 3210313671, 3336571891, 3584528711, 113926993, 338241895, 666307205, 773529912, 1294757372, 1396182291, 1695183700, 1986661051, 2177026350, 2456956037, 2730485921, 2820302411, 3259730800, 3345764771, 3516065817, 3600352804, 4094571909, 275423344, 430227734, 506948616, 659060556, 883997877, 958139571, 1322822218, 1537002063, 1747873779, 1955562222, 2024104815, 2227730452, 2361852424, 2428436474, 2756734187, 3204031479, 3329325298]
theorem keys_c (w : World) : Calls Tryz.prog 115 #[] w fun e w' => ∃ v, e = .returned v ∧ Kd.R (Kd.int .i64) 3 w' w.heap.size (fun _ => True) v keyl ∧ Below w.heap.size w w' := by
 go_enter Tryz.func115, Tryz.ntmps115
 go_wp2_with (refine li_ .i64 3 (N := 1) rfl keyl ?_ (hm := by decide) (hr := by kernel_rfl); intro v w1 h hb)
 go_ret
 exact ⟨_, rfl, h, hb⟩
theorem rowc {k : IntKind} {e base : Nat} {ok : Nat → Prop} {W : World} {v : Value} {l : List Int} (h : (Kd.int k).R e W base ok v l) (hl : 0 < l.length) : ∃ ad c, v = .slice (some ad) l.length c ∧ l.length ≤ c ∧ ∀ i : Nat, i < l.length → W.cell? (ad.add i) = some (.int k (rd l i)) := by
 obtain ⟨A, c, rfl⟩ := Kd.R_slice h
 obtain ⟨_, hc, hC⟩ := Kd.R_reads' h
 obtain ⟨ad, rfl, _⟩ := Kd.at_int hC 0 (by omega) (by omega)
 refine ⟨ad, c, rfl, hc, fun i hi => ?_⟩
 obtain ⟨ad', he, hx⟩ := Kd.at_int hC (i : Int) (by omega) (by omega)
 injection he with he; subst he; simpa using hx
theorem argc {k : IntKind} {W : World} {A : Option Addr} {l : List Int} (hC : (Kd.int k).C W A l.length l) (hl : 0 < l.length) : ∃ ad, A = some ad ∧ ∀ i : Nat, i < l.length → W.cell? (ad.add i) = some (.int k (rd l i)) := by
 obtain ⟨ad, rfl, _⟩ := Kd.at_int hC 0 (by omega) (by omega)
 refine ⟨ad, rfl, fun i hi => ?_⟩
 obtain ⟨ad', he, hx⟩ := Kd.at_int hC (i : Int) (by omega) (by omega)
 injection he with he; subst he; simpa using hx
section
variable {ops : Array Oper} {rest : List Oper} {o : Oper} {a : Act} {Q : Exit → Act → World → Prop}
theorem apI {w0 W : World} {b : Nat} {k : IntKind} {e t bytes : Nat} {v : Value} {xs : List Int} {p : Int} {ok : Nat → Prop} (s x : Tmp)
  (HO : (Kd.int k).R e W b ok v xs) (HB : Below b w0 W) (hl : (xs.length + 1) * bytes ≤ 140737488355328) (hf : ∀ k, W.heap.size ≤ k → ok k) (ht : Tryz.prog.underlying t = some (.slice e)) (hi : (Tryz.prog.info? e).map (fun i => (i.zero, i.size, i.bytes)) = some (some (.int k 0), 1, bytes)) (h0 : 0 < bytes) (hb : b ≤ w0.heap.size)
  (h : ∀ v1 w1, Aside0 ((Kd.int k).R e w1 b ok v1 (xs ++ [p])) → Aside0 (Below b w0 w1) → W.grownBy w1 v.ownBlock → (v1.ownBlock = v.ownBlock ∨ ∃ b, v1.ownBlock = some b ∧ W.heap.size ≤ b) → wpList Tryz.prog ops Q rest (a.put o.dst v1) w1)
  (ho : o.op = .call { callee := .builtin .append, args := #[.tmp s, .tmp x], argTypes := #[t, t] } := by rfl) (hg : o.guard = none := by rfl) (hs : a.eval (.tmp s) = v := by rfl) (hx : a.eval (.tmp x) = .slice (some ⟨W.heap.size, 0, none⟩) 1 1 := by rfl) : wpList Tryz.prog ops Q (o :: rest) a (W.alloc (.cells #[.int k p] e)) :=
 Kd.R_append (Kd.int k) b hg (.tmp s) (.tmp x) t e (.int k 0) bytes ho ht hi rfl Nat.one_pos h0 v xs p [.int k p] ok (fun _ => False) hs hx rfl (fun _ hk => hk.elim) hf HO HB (Nat.le_trans hb HB.size) hl fun v1 w1 h1 h2 h3 h4 => h v1 w1 ⟨h1⟩ ⟨h2⟩ h3 h4
theorem apJ {w0 W : World} {b : Nat} {k : IntKind} {e t bytes : Nat} {v : Value} {xs : List Int} {p : Int} {ok : Nat → Prop} {Kc : Act → World → Prop} (s x : Tmp)
  (HO : (Kd.int k).R e W b ok v xs) (HB : Below b w0 W) (hl : (xs.length + 1) * bytes ≤ 140737488355328) (hf : ∀ k, W.heap.size ≤ k → ok k) (ht : Tryz.prog.underlying t = some (.slice e)) (hi : (Tryz.prog.info? e).map (fun i => (i.zero, i.size, i.bytes)) = some (some (.int k 0), 1, bytes)) (h0 : 0 < bytes) (hb : b ≤ w0.heap.size)
  (h : ∀ v1 w1, Aside0 ((Kd.int k).R e w1 b ok v1 (xs ++ [p])) → Aside0 (Below b w0 w1) → W.grownBy w1 v.ownBlock → (v1.ownBlock = v.ownBlock ∨ ∃ b, v1.ownBlock = some b ∧ W.heap.size ≤ b) → Kc (a.put o.dst v1) w1)
  (ho : o.op = .call { callee := .builtin .append, args := #[.tmp s, .tmp x], argTypes := #[t, t] } := by rfl) (hw : Region.wanted o (yielded ops a.tmps) = true := by rfl) (hs : a.eval (.tmp s) = v := by rfl) (hx : a.eval (.tmp x) = .slice (some ⟨W.heap.size, 0, none⟩) 1 1 := by rfl) :
  if Region.wanted o (yielded ops a.tmps) = true then Oper.wp Tryz.prog o a (W.alloc (.cells #[.int k p] e)) Kc Q else Kc (a.put o.dst undef) (W.alloc (.cells #[.int k p] e)) :=
 Kd.R_append_step (Kd.int k) b hw (.tmp s) (.tmp x) t e (.int k 0) bytes ho ht hi rfl Nat.one_pos h0 v xs p [.int k p] ok (fun _ => False) hs hx rfl (fun _ hk => hk.elim) hf HO HB (Nat.le_trans hb HB.size) hl fun v1 w1 h1 h2 h3 h4 => h v1 w1 ⟨h1⟩ ⟨h2⟩ h3 h4
end
theorem block_c {A B : Option Addr} {c d : Nat} {h l : List Int} {w : World} (hA : Kd.C (Kd.int .i64) w A h.length h) (hc : h.length ≤ c) (h8 : h.length = 8) (hB : Kd.C (Kd.int .u8) w B l.length l) (hd : l.length ≤ d) (h64 : l.length = 64) :
 Calls Tryz.prog 110 #[.slice A h.length c, .slice B l.length d] w fun e w' => ∃ v, e = .returned v ∧ (∃ r : List Int, r.length = 8 ∧ Kd.R (Kd.int .i64) 3 w' w.heap.size (fun _ => True) v r) ∧ Below w.heap.size w w' := by
 obtain ⟨pa, rfl, ca⟩ := argc hA (by omega); obtain ⟨pb, rfl, cb⟩ := argc hB (by omega)
 rw [h8] at ca ⊢; rw [h64] at cb ⊢
 have CA : Aside0 (Kd.C (Kd.int .i64) w (some pa) 8 h) := ⟨h8 ▸ hA⟩
 have XA : Aside0 (∀ W, Below w.heap.size w W → ∀ i : Nat, i < 8 → W.cell? (pa.add i) = some (.int .i64 (rd h i))) := ⟨fun W hW i hi => xce ⟨hW⟩ (ca i hi)⟩
 have XB : Aside0 (∀ W, Below w.heap.size w W → ∀ i : Nat, i < 64 → W.cell? (pb.add i) = some (.int .u8 (rd l i))) := ⟨fun W hW i hi => xce ⟨hW⟩ (cb i hi)⟩
 have HB := aM (Below.refl w.heap.size w)
 have H8 := aM h8
 clear hA hc h8 hB hd h64 ca cb
 go_enter Tryz.func110, Tryz.ntmps110
 go_wp2_with (refine li_ .i64 3 (N := 21) rfl [] ?_; intro v w1 R5 hb; replace R5 := aM (Kd.R_lower R5 (below_size xbel)); replace HB := xbs hb; clear hb)
 go_loopg [5, 6] 16 (fun gg s5 s6 wr => ∃ (i : Nat) (x : List Int), s6 = .int .i64 (i : Int) ∧ Aside0 (x.length = i ∧ i ≤ 16 ∧ 16 - i ≤ gg) ∧ Aside0 (Kd.R (Kd.int .i64) 3 wr w.heap.size (fun _ => True) s5 x) ∧ Aside0 (Below w.heap.size w wr))
 case atStart => exact ⟨0, [], rfl, ⟨rfl, by omega, by omega⟩, R5, HB⟩
 case round =>
  clear R5 HB
  obtain ⟨i, x, rfl, F, R5, HB⟩ := hrel
  by_cases lt : i < 16
  · have L0 := eq_true (show (i : Int) < 16 by omega)
    have e0 : IntKind.i64.wrap (4 * (i : Int)) = ((4 * i : Nat) : Int) := (i64_w _).trans (by rw [w64I (by omega) (by omega)]; omega)
    obtain ⟨j, hj⟩ : ∃ j, 4 * i = j := ⟨_, rfl⟩; obtain ⟨j1, h1⟩ : ∃ k, j + 1 = k := ⟨_, rfl⟩; obtain ⟨j2, h2⟩ : ∃ k, j + 2 = k := ⟨_, rfl⟩; obtain ⟨j3, h3⟩ : ∃ k, j + 3 = k := ⟨_, rfl⟩
    rw [hj] at e0
    have e1 : IntKind.i64.wrap ((j : Int) + 1) = (j1 : Int) := (i64_w _).trans (by rw [w64I (by omega) (by omega)]; omega)
    have e2 : IntKind.i64.wrap ((j : Int) + 2) = (j2 : Int) := (i64_w _).trans (by rw [w64I (by omega) (by omega)]; omega)
    have e3 : IntKind.i64.wrap ((j : Int) + 3) = (j3 : Int) := (i64_w _).trans (by rw [w64I (by omega) (by omega)]; omega)
    have b0 := eq_true (show (j : Int) < 64 by omega); have b1 := eq_true (show (j1 : Int) < 64 by omega); have b2 := eq_true (show (j2 : Int) < 64 by omega); have b3 := eq_true (show (j3 : Int) < 64 by omega)
    have L := aM (show j < 64 ∧ j1 < 64 ∧ j2 < 64 ∧ j3 < 64 ∧ i < 16 by omega)
    clear hj h1 h2 h3 lt
    go_wp2
    ((with_reducible refine gR 5 ?_); refine st_ 37 (fun W => W.cell? (pb.add j) = some (.int .u8 (rd l j)) ∧ W.cell? (pb.add j1) = some (.int .u8 (rd l j1)) ∧ W.cell? (pb.add j2) = some (.int .u8 (rd l j2)) ∧ W.cell? (pb.add j3) = some (.int .u8 (rd l j3))) _ [0, 0, 0, 4, 14, 30, 62, 126, 0, 0, 512, 1536, 3840, 7936, 16128, 32512, 65534, 0, 0, 262144, 786432, 1966080, 4063232, 8257536, 16646144, 33554430, 0, 0, 134217728, 402653184, 1006632960, 2080374784, 4227858432, 8589934590, 17179869182, 34359738367, 68719476735] (⟨XB.out _ (lD HB).out _ L.out.1, XB.out _ (lD HB).out _ L.out.2.1, XB.out _ (lD HB).out _ L.out.2.2.1, XB.out _ (lD HB).out _ L.out.2.2.2.1⟩) (hT := rfl) (fun hHeld HT_ HW_ => ?_); replace R5 := rD R5; replace HB := lD HB; generalize World.drew _ = W at R5 HB hHeld ⊢; refine pV 0 26 ?_; refine pV 1 27 ?_; refine pV 2 28 ?_; refine pV 3 29 ?_; refine pV 4 30 ?_; refine tK 5 31 ?_; refine pV 6 32 ?_; refine pV 7 33 ?_; refine pV 8 34 ?_; refine pV 9 35 ?_; refine pV 10 36 ?_; refine pV 11 37 ?_; refine pV 12 38 ?_; refine tK 13 39 ?_; refine pV 14 40 ?_; refine pV 15 41 ?_; refine pV 16 42 ?_; refine pV 17 43 ?_; refine pV 18 44 ?_; refine pV 19 45 ?_; refine pV 20 46 ?_; refine pV 21 47 ?_; refine tK 22 48 ?_; refine pV 23 49 ?_; refine pV 24 50 ?_; refine pV 25 51 ?_; refine pV 26 52 ?_; refine pV 27 53 ?_; refine pV 28 54 ?_; refine pV 29 55 ?_; refine pV 30 56 ?_; refine tK 31 57 ?_; refine pV 32 58 ?_; refine pV 33 59 ?_; refine oN 34 60 fun K hK => ?_; refine vK_ ?_; refine hK.out _ _ ⟨XB.out _ xbel _ L.out.1, XB.out _ xbel _ L.out.2.1, XB.out _ xbel _ L.out.2.2.1, XB.out _ xbel _ L.out.2.2.2.1⟩ (fun hHeld => ?_); clear hK K; refine nm_ (N := 60) ?_; refine oN 35 61 fun K hK => ?_; refine apJ 26 60 (xr R5) xbel (by have := F.out; omega) (fun _ _ => trivial) Tryz.underlying39 info3 (by decide) (Nat.le_refl _) ?_; intro v1 W r1 hb _ _; replace R5 := r1; replace HB := hb; clear r1 hb; refine hK.out _ _ ⟨XB.out _ xbel _ L.out.1, XB.out _ xbel _ L.out.2.1, XB.out _ xbel _ L.out.2.2.1, XB.out _ xbel _ L.out.2.2.2.1⟩ (fun hHeld => ?_); clear hK K; refine nm_ (N := 61) ?_; refine pV 36 5 ?_; refine dn_ ?_)
    go_wp2
    go_roundg (16 - (i + 1))
    case measure => have := L.out; have := F.out; omega
    case rel => (have := F.out; have := L.out; exact ⟨i + 1, _, congrArg (Value.int .i64) (by rw [w64I (by omega) (by omega)]; omega), ⟨by simp; omega, by omega, by omega⟩, R5, HB⟩)
  · obtain rfl : i = 16 := by have := F.out; omega
    have F0 := F
    clear lt F
    go_wp2
    go_loopg [5, 7, 8, 9] 48 (fun gg s5 s7 s8 s9 wr => ∃ x : List Int, s7 = .int .i64 (x.length : Int) ∧ Aside0 (16 ≤ x.length ∧ x.length ≤ 64 ∧ 64 - x.length ≤ gg) ∧ Aside0 (Kd.R (Kd.int .i64) 3 wr w.heap.size (fun _ => True) s5 x) ∧ Aside0 (Below w.heap.size w wr))
    case atStart => (have := F0.out; exact ⟨x, by rw [this.1]; rfl, ⟨by omega, by omega, by omega⟩, R5, HB⟩)
    case round =>
      clear R5 HB F0
      obtain ⟨x, rfl, F, R5, HB⟩ := hrel
      obtain ⟨ad, c5, rfl, h5, X⟩ := rowc R5.out (by have := F.out; omega)
      by_cases lt : x.length < 64
      · have := F.out
        have L0 := eq_true (show (x.length : Int) < 64 by omega)
        obtain ⟨i15, h15⟩ : ∃ i, i + 15 = x.length := ⟨x.length - 15, by omega⟩; obtain ⟨i2, h2⟩ : ∃ i, i + 2 = x.length := ⟨x.length - 2, by omega⟩; obtain ⟨i7, h7⟩ : ∃ i, i + 7 = x.length := ⟨x.length - 7, by omega⟩; obtain ⟨i16, h16⟩ : ∃ i, i + 16 = x.length := ⟨x.length - 16, by omega⟩
        have e15 : IntKind.i64.wrap ((x.length : Int) - 15) = (i15 : Int) := (i64_w _).trans (by rw [w64I (by omega) (by omega)]; omega)
        have e2 : IntKind.i64.wrap ((x.length : Int) - 2) = (i2 : Int) := (i64_w _).trans (by rw [w64I (by omega) (by omega)]; omega)
        have e7 : IntKind.i64.wrap ((x.length : Int) - 7) = (i7 : Int) := (i64_w _).trans (by rw [w64I (by omega) (by omega)]; omega)
        have e16 : IntKind.i64.wrap ((x.length : Int) - 16) = (i16 : Int) := (i64_w _).trans (by rw [w64I (by omega) (by omega)]; omega)
        have b15 := eq_true (show (i15 : Int) < (x.length : Int) by omega); have b2 := eq_true (show (i2 : Int) < (x.length : Int) by omega); have b7 := eq_true (show (i7 : Int) < (x.length : Int) by omega); have b16 := eq_true (show (i16 : Int) < (x.length : Int) by omega)
        have L := aM lt; have N := aM (show i7 < x.length ∧ i16 < x.length ∧ i2 < x.length by omega)
        have c15 := rowx R5.out i15 (by omega)
        clear this h15 h2 h7 h16 lt X
        go_wp2
        go_quiet (first | (go_at_call 113; (with_reducible refine (turn_c _ _ _ (by decide) (by decide)).mono ?_); rintro e w' ⟨rfl, ⟨nd, rfl⟩⟩; exact ⟨rfl, _, World.drewN_drewN _ _ _⟩) | (go_at_call 114; (with_reducible refine (low_c _ _).mono ?_); rintro e w' ⟨rfl, ⟨nd, rfl⟩⟩; exact ⟨rfl, _, World.drewN_drewN _ _ _⟩))
        generalize hw : World.drewN _ _ = W; replace R5 := aM (hw ▸ Kd.R_drewN R5.out _); replace HB := aM (hw ▸ pw_below_drewN HB.out _); clear hw c15
        go_wp2
        have c2 := rowx R5.out i2 N.out.2.2
        go_quiet (first | (go_at_call 113; (with_reducible refine (turn_c _ _ _ (by decide) (by decide)).mono ?_); rintro e w' ⟨rfl, ⟨nd, rfl⟩⟩; exact ⟨rfl, _, World.drewN_drewN _ _ _⟩) | (go_at_call 114; (with_reducible refine (low_c _ _).mono ?_); rintro e w' ⟨rfl, ⟨nd, rfl⟩⟩; exact ⟨rfl, _, World.drewN_drewN _ _ _⟩))
        generalize hw : World.drewN _ _ = W; replace R5 := aM (hw ▸ Kd.R_drewN R5.out _); replace HB := aM (hw ▸ pw_below_drewN HB.out _); clear hw c2
        go_wp2
        ((with_reducible refine gR 11 ?_); refine sT_ 20 [18] (fun W => W.cell? (ad.add i7) = some (.int .i64 (rd x i7)) ∧ W.cell? (ad.add i16) = some (.int .i64 (rd x i16))) _ [0, 0, 0, 0, 8, 28, 60, 126, 0, 510, 0, 0, 2048, 7168, 15360, 32766, 65534, 131070, 262143, 524287] (⟨rowx (rD R5).out _ N.out.1, rowx (rD R5).out _ N.out.2.1⟩) (hT := rfl) (fun hHeld HT_ HW_ => ?_); replace R5 := rD R5; replace HB := lD HB; generalize World.drew _ = W at R5 HB hHeld ⊢; refine pV 0 106 ?_; refine pV 1 107 ?_; refine pV 2 108 ?_; refine pV 3 109 ?_; refine pV 4 110 ?_; refine pV 5 111 ?_; refine tK 6 112 ?_; refine pV 7 113 ?_; refine pV 8 114 ?_; refine pV 9 115 ?_; refine pV 10 116 ?_; refine pV 11 117 ?_; refine pV 12 118 ?_; refine pV 13 119 ?_; refine tK 14 120 ?_; refine pV 15 121 ?_; refine oN 16 122 fun K hK => ?_; refine d0_ Tryz.func114 (low_c _ _) ?_; rintro w' ⟨nd, rfl⟩; refine hK.out _ _ ⟨rowx (xr R5) _ N.out.1, rowx (xr R5) _ N.out.2.1⟩ (fun hHeld => ?_); clear hK K; refine nm_ (N := 122) ?_; refine oN 17 123 fun K hK => ?_; refine vK_ ?_; refine hK.out _ _ ⟨rowx (xr R5) _ N.out.1, rowx (xr R5) _ N.out.2.1⟩ (fun hHeld => ?_); clear hK K; refine nm_ (N := 123) ?_; refine lN_ 18 124 fun K hK => ?_; refine apJ 106 123 (xr R5) xbel (by have := F.out; omega) (fun _ _ => trivial) Tryz.underlying39 info3 (by decide) (Nat.le_refl _) ?_; intro v1 W r1 hb _ _; replace R5 := r1; replace HB := hb; clear r1 hb; refine hK.out _ _ ?_; clear hK K; refine nm_ (N := 124) ?_; refine pV 19 5 ?_; refine dn_ ?_)
        go_wp2
        go_roundg (63 - x.length)
        case measure => have := F.out; have := L.out; omega
        case rel => (have := F.out; have := L.out; exact ⟨_, congrArg (Value.int .i64) (by rw [w64I (by omega) (by omega)]; simp only [List.length_append, List.length_singleton]; omega), ⟨by simp only [List.length_append, List.length_singleton]; omega⟩, R5, HB⟩)
      · have F1 := aM (show x.length = 64 by have := F.out; omega)
        have L0 := eq_false (show ¬ (x.length : Int) < 64 by omega)
        clear lt X F
        go_wp2_with (first
  | ((with_reducible refine gC 115 rfl ?_); refine c1_ Tryz.func115 (keys_c _) ?_; rintro v10 W ⟨RK, hb⟩; replace R5 := xrb R5 hb; replace RK := aM (Kd.R_lower RK (below_size xbel)); replace HB := xbs hb; clear hb)
  | ((with_reducible refine gD 126 rfl ?_); refine li_ .i64 3 (N := 126) rfl [] ?_; intro v11 W RV hb; replace R5 := aM (Kd.R_elder' (xr R5) (Kd.R_base RV) hb); replace RK := aM (Kd.R_elder' (xr RK) (Kd.R_base RV) hb); replace RV := aM (Kd.R_lower RV (below_size xbel)); replace HB := xbs hb; clear hb)
  | ((with_reducible refine gate_builtin (b := .append) (xs := #[.tmp 126, .tmp 127]) rfl ?_); at_builtin; refine Kd.R_append_rows (Kd.int .i64) (w0 := w) w.heap.size rfl (.tmp 126) (.tmp 127) 39 3 (.int .i64 0) 8 rfl Tryz.underlying39 info3 rfl (by decide) (by decide) v11 [] h _ _ _ (fun _ => True) (fun _ => False) rfl rfl (xr RV) (Kd.C_below CA.out xbel) (fun _ _ h => h) (fun _ h => h.elim) (fun _ _ => trivial) xbel (below_size xbel) (by simp) ?_; intro v1 W r1 hb hg hat; replace R5 := aM (Kd.R_mono (Kd.R_after (xr R5) hg hat) (fun _ _ => trivial)); replace RK := aM (Kd.R_mono (Kd.R_after (xr RK) hg hat) (fun _ _ => trivial)); replace RV := aM r1; replace HB := aM hb; clear r1 hb hg hat))
        obtain ⟨ak, ck, rfl, hk⟩ := rown (n := 64) RK.out rfl (by decide)
        go_loopg [11, 12] 65 (fun gg s11 s12 W => ∃ (i : Nat) (y : List Int), s12 = .int .i64 (i : Int) ∧ Aside0 (i ≤ 64 ∧ 64 - i < gg ∧ y.length = 8) ∧ Aside0 (Kd.R (Kd.int .i64) 3 W w.heap.size (fun _ => True) (.slice (some ad) x.length c5) x) ∧ Aside0 (Kd.R (Kd.int .i64) 3 W w.heap.size (fun _ => True) (.slice (some ak) 64 ck) keyl) ∧ Aside0 (Kd.R (Kd.int .i64) 3 W w.heap.size (fun _ => True) s11 y) ∧ Aside0 (Below w.heap.size w W))
        case atStart => exact ⟨0, _, rfl, ⟨by omega, by omega, by rw [List.nil_append]; exact H8.out⟩, R5, RK, RV, HB⟩
        case round =>
          clear R5 RK RV HB
          obtain ⟨i, y, rfl, F, R5, RK, RV, HB⟩ := hrel
          obtain ⟨gv, cv, rfl⟩ := rowf RV.out F.out.2.2 (by decide)
          by_cases lt : i < 64
          · have L0 := eq_true (show (i : Int) < 64 by omega); have M0 := eq_true (show (i : Int) < (x.length : Int) by have := F1.out; omega)
            have L := aM lt
            clear lt
            have c4 := rowg RV.out 4 (by decide); have c0 := rowg RV.out 0 (by decide)
            go_wp2
            go_quiet (first | (go_at_call 113; (with_reducible refine (turn_c _ _ _ (by decide) (by decide)).mono ?_); rintro e w' ⟨rfl, ⟨nd, rfl⟩⟩; exact ⟨rfl, _, World.drewN_drewN _ _ _⟩) | (go_at_call 114; (with_reducible refine (low_c _ _).mono ?_); rintro e w' ⟨rfl, ⟨nd, rfl⟩⟩; exact ⟨rfl, _, World.drewN_drewN _ _ _⟩))
            generalize hw : World.drewN _ _ = W; replace R5 := aM (hw ▸ Kd.R_drewN R5.out _); replace RK := aM (hw ▸ Kd.R_drewN RK.out _); replace RV := aM (hw ▸ Kd.R_drewN RV.out _); replace HB := aM (hw ▸ pw_below_drewN HB.out _); clear hw c4 c0
            go_wp2
            have c5 := rowg RV.out 5 (by decide); have c6 := rowg RV.out 6 (by decide)
            go_quiet (first | (go_at_call 113; (with_reducible refine (turn_c _ _ _ (by decide) (by decide)).mono ?_); rintro e w' ⟨rfl, ⟨nd, rfl⟩⟩; exact ⟨rfl, _, World.drewN_drewN _ _ _⟩) | (go_at_call 114; (with_reducible refine (low_c _ _).mono ?_); rintro e w' ⟨rfl, ⟨nd, rfl⟩⟩; exact ⟨rfl, _, World.drewN_drewN _ _ _⟩))
            generalize hw : World.drewN _ _ = W; replace R5 := aM (hw ▸ Kd.R_drewN R5.out _); replace RK := aM (hw ▸ Kd.R_drewN RK.out _); replace RV := aM (hw ▸ Kd.R_drewN RV.out _); replace HB := aM (hw ▸ pw_below_drewN HB.out _); clear hw c5 c6
            go_wp2
            have c7 := rowg RV.out 7 (by decide); have cK := rowx RK.out i L.out; have cx := rowx R5.out i (by have := F1.out; have := L.out; omega)
            go_quiet (first | (go_at_call 113; (with_reducible refine (turn_c _ _ _ (by decide) (by decide)).mono ?_); rintro e w' ⟨rfl, ⟨nd, rfl⟩⟩; exact ⟨rfl, _, World.drewN_drewN _ _ _⟩) | (go_at_call 114; (with_reducible refine (low_c _ _).mono ?_); rintro e w' ⟨rfl, ⟨nd, rfl⟩⟩; exact ⟨rfl, _, World.drewN_drewN _ _ _⟩))
            generalize hw : World.drewN _ _ = W; replace R5 := aM (hw ▸ Kd.R_drewN R5.out _); replace RK := aM (hw ▸ Kd.R_drewN RK.out _); replace RV := aM (hw ▸ Kd.R_drewN RV.out _); replace HB := aM (hw ▸ pw_below_drewN HB.out _); clear hw c7 cK cx
            go_wp2
            have c1 := rowg RV.out 1 (by decide); have c2 := rowg RV.out 2 (by decide)
            go_quiet (first | (go_at_call 113; (with_reducible refine (turn_c _ _ _ (by decide) (by decide)).mono ?_); rintro e w' ⟨rfl, ⟨nd, rfl⟩⟩; exact ⟨rfl, _, World.drewN_drewN _ _ _⟩) | (go_at_call 114; (with_reducible refine (low_c _ _).mono ?_); rintro e w' ⟨rfl, ⟨nd, rfl⟩⟩; exact ⟨rfl, _, World.drewN_drewN _ _ _⟩))
            generalize hw : World.drewN _ _ = W; replace R5 := aM (hw ▸ Kd.R_drewN R5.out _); replace RK := aM (hw ▸ Kd.R_drewN RK.out _); replace RV := aM (hw ▸ Kd.R_drewN RV.out _); replace HB := aM (hw ▸ pw_below_drewN HB.out _); clear hw c1 c2
            go_wp2_with (first | (go_at_call 113; (with_reducible refine (turn_c _ _ _ (by decide) (by decide)).mono ?_); rintro e w' ⟨rfl, ⟨nd, rfl⟩⟩) | (go_at_call 114; (with_reducible refine (low_c _ _).mono ?_); rintro e w' ⟨rfl, ⟨nd, rfl⟩⟩))
            generalize hw : World.drewN _ _ = W; replace R5 := aM (hw ▸ Kd.R_drewN R5.out _); replace RK := aM (hw ▸ Kd.R_drewN RK.out _); replace RV := aM (hw ▸ Kd.R_drewN RV.out _); replace HB := aM (hw ▸ pw_below_drewN HB.out _); clear hw 
            ((with_reducible refine gR 22 ?_); refine sT_ 26 [24] (fun W => W.cell? ⟨gv, 1, none⟩ = some (.int .i64 (rd y 1)) ∧ W.cell? ⟨gv, 2, none⟩ = some (.int .i64 (rd y 2)) ∧ W.cell? ⟨gv, 3, none⟩ = some (.int .i64 (rd y 3)) ∧ W.cell? ⟨gv, 5, none⟩ = some (.int .i64 (rd y 5)) ∧ W.cell? ⟨gv, 6, none⟩ = some (.int .i64 (rd y 6))) _ [0, 0, 3, 7, 0, 0, 32, 96, 0, 256, 768, 0, 2048, 6144, 0, 30720, 63503, 0, 0, 262144, 786432, 0, 2097152, 6291456, 16777215, 33554431] (⟨rowg (rD RV).out 1 (by decide), rowg (rD RV).out 2 (by decide), rowg (rD RV).out 3 (by decide), rowg (rD RV).out 5 (by decide), rowg (rD RV).out 6 (by decide)⟩) (hT := rfl) (fun hHeld HT_ HW_ => ?_); replace R5 := rD R5; replace RK := rD RK; replace RV := rD RV; replace HB := lD HB; generalize World.drew _ = W at R5 RK RV HB hHeld ⊢; refine pV 0 206 ?_; refine pV 1 207 ?_; refine pV 2 208 ?_; refine pV 4 210 ?_; refine pV 5 211 ?_; refine pV 6 212 ?_; refine tK 7 213 ?_; refine pV 8 214 ?_; refine pV 9 215 ?_; refine tK 10 216 ?_; refine pV 11 217 ?_; refine pV 12 218 ?_; refine tK 13 219 ?_; refine pV 14 220 ?_; refine pV 15 221 ?_; refine pV 17 223 ?_; refine pV 18 224 ?_; refine pV 19 225 ?_; refine tK 20 226 ?_; refine pV 21 227 ?_; refine pV 22 228 ?_; refine tK 23 229 ?_; refine oN 3 209 fun K hK => ?_; refine d0_ Tryz.func114 (low_c _ _) ?_; rintro w' ⟨nd, rfl⟩; refine hK.out _ _ ⟨rowg (xr RV) 1 (by decide), rowg (xr RV) 2 (by decide), rowg (xr RV) 3 (by decide), rowg (xr RV) 5 (by decide), rowg (xr RV) 6 (by decide)⟩ (fun hHeld => ?_); clear hK K; refine nm_ (N := 209) ?_; refine oN 16 222 fun K hK => ?_; refine d0_ Tryz.func114 (low_c _ _) ?_; rintro w' ⟨nd, rfl⟩; refine hK.out _ _ ⟨rowg (xr RV) 1 (by decide), rowg (xr RV) 2 (by decide), rowg (xr RV) 3 (by decide), rowg (xr RV) 5 (by decide), rowg (xr RV) 6 (by decide)⟩ (fun hHeld => ?_); clear hK K; refine nm_ (N := 222) ?_; refine lN_ 24 230 fun K hK => ?_; refine lj_ .i64 3 (N := 230) rfl [_, _, _, _, _, _, _, _] ?_; intro v1 W r1 hb; replace R5 := xrb R5 hb; replace RK := xrb RK hb; replace RV := aM (Kd.R_lower r1 (below_size xbel)); replace HB := xbs hb; clear r1 hb; refine hK.out _ _ ?_; clear hK K; refine nm_ (N := 230) ?_; refine pV 25 11 ?_; refine dn_ ?_)
            go_wp2
            go_roundg (64 - i)
            case measure => have := F.out; omega
            case rel => (have := F.out; have := L.out; exact ⟨i + 1, _, congrArg (Value.int .i64) (by rw [w64I (by omega) (by omega)]; omega), ⟨by omega, by omega, rfl⟩, R5, RK, RV, HB⟩)
          · have L0 := eq_false (show ¬ (i : Int) < 64 by have := F.out; omega)
            clear lt; generalize hA : (⟨gv, 0, none⟩ : Addr) = av at RV ⊢; clear hA
            go_wp2_with ((with_reducible refine gD 231 rfl ?_); refine li_ .i64 3 (N := 231) rfl [] ?_; intro v19 W r1 hb; have RO := aM (Kd.R_lower (Kd.R_new' r1 (Kd.R_lt (xr RV))) (below_size xbel)); replace RV := aM (Kd.R_elder' (xr RV) (Kd.R_base r1) hb); replace HB := xbs hb; clear hb r1)
            go_loopg [19, 20] 9 (fun gg s19 s20 W => ∃ (i : Nat) (o : List Int), s20 = .int .i64 (i : Int) ∧ Aside0 (i ≤ 8 ∧ 8 - i < gg ∧ o.length = i) ∧ Aside0 (Kd.R (Kd.int .i64) 3 W w.heap.size (fun k => True ∧ some k ≠ (Value.slice (some av) 8 cv).ownBlock) s19 o) ∧ Aside0 (Kd.R (Kd.int .i64) 3 W w.heap.size (fun k => True ∧ some k ≠ s19.ownBlock) (.slice (some av) 8 cv) y) ∧ Aside0 (Below w.heap.size w W))
            case atStart => exact ⟨0, [], rfl, ⟨by omega, by omega, rfl⟩, RO, RV, HB⟩
            case round =>
              clear RO RV HB F
              obtain ⟨i, o, rfl, F, RO, RV, HB⟩ := hrel
              by_cases lt : i < 8
              · have L0 := eq_true (show (i : Int) < 8 by omega)
                have L := aM lt
                clear lt
                go_wp2
                ((with_reducible refine gR 27 ?_); refine sT_ 14 [12] (fun W => W.cell? (pa.add i) = some (.int .i64 (rd h i)) ∧ W.cell? (av.add i) = some (.int .i64 (rd y i))) _ [0, 0, 0, 6, 14, 0, 0, 96, 224, 510, 1022, 2046, 4095, 8191] (⟨XA.out _ (lD HB).out i L.out, rowx (rD RV).out i L.out⟩) (hT := rfl) (fun hHeld HT_ HW_ => ?_); replace RO := rD RO; replace RV := rD RV; replace HB := lD HB; generalize World.drew _ = W at RO RV HB hHeld ⊢; refine pV 0 236 ?_; refine pV 1 237 ?_; refine pV 2 238 ?_; refine pV 3 239 ?_; refine tK 4 240 ?_; refine pV 5 241 ?_; refine pV 6 242 ?_; refine pV 7 243 ?_; refine tK 8 244 ?_; refine pV 9 245 ?_; refine oN 10 246 fun K hK => ?_; refine d0_ Tryz.func114 (low_c _ _) ?_; rintro w' ⟨nd, rfl⟩; refine hK.out _ _ ⟨XA.out _ xbel i L.out, rowx (xr RV) i L.out⟩ (fun hHeld => ?_); clear hK K; refine nm_ (N := 246) ?_; refine oN 11 247 fun K hK => ?_; refine vK_ ?_; refine hK.out _ _ ⟨XA.out _ xbel i L.out, rowx (xr RV) i L.out⟩ (fun hHeld => ?_); clear hK K; refine nm_ (N := 247) ?_; refine lN_ 12 248 fun K hK => ?_; refine apJ 236 247 (xr RO) xbel (by have := F.out; omega) (fun k hk => ⟨trivial, Kd.fresh' (Kd.R_lt (xr RV)) k hk⟩) Tryz.underlying39 info3 (by decide) (Nat.le_refl _) ?_; intro v1 W r1 hb hg hat; replace RV := aM (Kd.R_after (xr RV) hg hat); replace RO := r1; replace HB := hb; clear r1 hb hg hat; refine hK.out _ _ ?_; clear hK K; refine nm_ (N := 248) ?_; refine pV 13 19 ?_; refine dn_ ?_)
                go_wp2
                go_roundg (8 - i)
                case measure => have := F.out; omega
                case rel => (have := F.out; have := L.out; exact ⟨i + 1, _, congrArg (Value.int .i64) (by rw [w64I (by omega) (by omega)]; omega), ⟨by omega, by omega, by simp only [List.length_append, List.length_singleton]; omega⟩, RO, RV, HB⟩)
              · have L0 := eq_false (show ¬ (i : Int) < 8 by omega)
                go_wp2
                go_ret
                exact ⟨_, rfl, ⟨o, by have := F.out; omega, Kd.R_mono RO.out (fun _ _ => trivial)⟩, HB.out⟩
theorem block_d {A B : Option Addr} {c d : Nat} {h l : List Int} {w : World} (hA : Kd.C (Kd.int .i64) w A h.length h) (hc : 8 ≤ c) (h8 : h.length = 8) (hB : Kd.C (Kd.int .u8) w B l.length l) (hd : 64 ≤ d) (h64 : l.length = 64) :
 Calls Tryz.prog 110 #[.slice A 8 c, .slice B 64 d] w fun e w' => ∃ v, e = .returned v ∧ (∃ r : List Int, r.length = 8 ∧ Kd.R (Kd.int .i64) 3 w' w.heap.size (fun _ => True) v r) ∧ Below w.heap.size w w' := by
 have := block_c (c := c) (d := d) hA (h8.symm ▸ hc) h8 hB (h64.symm ▸ hd) h64
 rw [h8, h64] at this; exact this
theorem sha_c {A : Option Addr} {c : Nat} {x : Int} {w : World} (hA : Kd.C (Kd.int .u8) w A 1 [x]) :
 Calls Tryz.prog 108 #[.slice A 1 c] w fun e w' => ∃ v, e = .returned v ∧ (∃ l : List Int, l.length = 32 ∧ Kd.R (Kd.int .u8) 5 w' w.heap.size (fun _ => True) v l) ∧ Below w.heap.size w w' := by
 have HA := aM hA; have HB := aM (Below.refl w.heap.size w); clear hA
 go_enter Tryz.func108, Tryz.ntmps108
 go_wp2_with (first
  | ((with_reducible refine gD 9 rfl ?_); refine li_ .u8 5 (N := 9) rfl [] ?_; intro v3 W r1 hb; have RO := aM (Kd.R_lower r1 (below_size xbel)); replace HB := xbs hb; clear hb r1)
  | ((with_reducible refine gD 14 rfl ?_); refine li_ .u8 5 (N := 14) rfl [] ?_; intro v4 W r1 hb; have RM := aM (Kd.R_lower (Kd.R_new' r1 (Kd.R_lt (xr RO))) (below_size xbel)); replace RO := aM (Kd.R_elder' (xr RO) (Kd.R_base r1) hb); replace HB := xbs hb; clear hb r1)
  | ((with_reducible refine gate_builtin (b := .append) (xs := #[.tmp 14, .tmp 15]) rfl ?_); at_builtin; refine Kd.R_append_rows (Kd.int .u8) (w0 := w) w.heap.size rfl (.tmp 14) (.tmp 15) 22 5 (.int .u8 0) 1 rfl Tryz.underlying22 info5 rfl (by decide) (by decide) _ _ [x] _ _ _ (fun k => True ∧ some k ≠ v3.ownBlock) (fun _ => False) rfl rfl (xr RM) (Kd.C_below HA.out xbel) (fun _ _ h => h) (fun _ h => h.elim) (fun k hk => ⟨trivial, Kd.fresh' (Kd.R_lt (xr RO)) k hk⟩) xbel (below_size xbel) (by simp) ?_; intro v4 W r1 hb hg hat; replace RO := aM (Kd.R_after (xr RO) hg hat); replace RM := aM r1; replace HB := aM hb; clear r1 hb hg hat)
  | ((with_reducible refine gate_builtin (b := .append) (xs := #[.tmp 16, .tmp 17]) rfl ?_); at_builtin; refine apI 16 17 (xr RM) xbel (by simp) (fun k hk => ⟨trivial, Kd.fresh' (Kd.R_lt (xr RO)) k hk⟩) Tryz.underlying22 info5 (by decide) (Nat.le_refl _) ?_; intro v4 W r1 hb hg hat; replace RO := aM (Kd.R_after (xr RO) hg hat); replace RM := r1; replace HB := hb; clear r1 hb hg hat))
 go_loopg [4] 60 (fun gg s4 W => ∃ m : List Int, Aside0 (2 ≤ m.length ∧ m.length ≤ 56 ∧ 56 - m.length < gg) ∧ Aside0 (Kd.R (Kd.int .u8) 5 W w.heap.size (fun k => True ∧ some k ≠ v3.ownBlock) s4 m) ∧ Aside0 (Kd.R (Kd.int .u8) 5 W w.heap.size (fun k => True ∧ some k ≠ Value.ownBlock s4) v3 []) ∧ Aside0 (Below w.heap.size w W))
 case atStart => exact ⟨_, ⟨by simp⟩, RM, RO, HB⟩
 case round =>
  clear RM RO HB
  obtain ⟨m, F, RM, RO, HB⟩ := hrel
  obtain ⟨A4, c4, rfl⟩ := Kd.R_slice RM.out
  by_cases e : m.length = 56
  · obtain ⟨e1, e2⟩ := bT (show (m.length : Int) % 64 = 56 by omega)
    have M := aM e
    clear e F
    go_wp2
    go_loopg [4, 5] 9 (fun gg s4 s5 W => ∃ (m : List Int) (i : Int), s5 = .int .i64 i ∧ Aside0 (-1 ≤ i ∧ i ≤ 7 ∧ m.length + i = 63 ∧ (i + 1).toNat < gg) ∧ Aside0 (Kd.R (Kd.int .u8) 5 W w.heap.size (fun k => True ∧ some k ≠ v3.ownBlock) s4 m) ∧ Aside0 (Kd.R (Kd.int .u8) 5 W w.heap.size (fun k => True ∧ some k ≠ Value.ownBlock s4) v3 []) ∧ Aside0 (Below w.heap.size w W))
    case atStart => exact ⟨m, 7, rfl, ⟨by have := M.out; omega⟩, RM, RO, HB⟩
    case round =>
      clear RM RO HB e1 e2 M
      obtain ⟨m, i, rfl, F, RM, RO, HB⟩ := hrel
      by_cases lt : 0 ≤ i
      · obtain ⟨A4, c4, rfl⟩ := Kd.R_slice RM.out
        have L := aM lt
        have L0 := eq_true lt; have L1 : (i ≥ 0) = True := eq_true lt
        obtain ⟨j, hj⟩ : ∃ j, 8 * i = j := ⟨_, rfl⟩
        have e0 : IntKind.i64.wrap (8 * i) = j := (i64_w _).trans (by have := F.out; rw [w64 (by omega) (by omega)]; exact hj)
        have j0 : 0 ≤ j := by omega
        have j1 := eq_true j0; have j2 : decide (0 ≤ j) = true := decide_eq_true j0
        clear lt hj j0
        go_wp2_with ((with_reducible refine gate_builtin (b := .append) (xs := #[.tmp 30, .tmp 38]) rfl ?_); at_builtin; refine apI 30 38 (xr RM) xbel (by have := F.out; omega) (fun k hk => ⟨trivial, Kd.fresh' (Kd.R_lt (xr RO)) k hk⟩) Tryz.underlying22 info5 (by decide) (Nat.le_refl _) ?_; intro v4 W r1 hb hg hat; replace RO := aM (Kd.R_after (xr RO) hg hat); replace RM := r1; replace HB := hb; clear r1 hb hg hat)
        go_roundg (i + 1).toNat
        case measure => have := F.out; omega
        case rel => (have := F.out; have := L.out; exact ⟨_, i - 1, congrArg (Value.int .i64) (by rw [w64 (by omega) (by omega)]), ⟨by simp only [List.length_append, List.length_singleton]; omega⟩, RM, RO, HB⟩)
      · have L0 := eq_false lt; have L1 : (i ≥ 0) = False := eq_false lt
        have M := aM (show m.length = 64 by have := F.out; omega)
        obtain ⟨ad, c4, rfl, hc4⟩ := rown (n := 64) RM.out M.out (by decide)
        clear lt F
        go_wp2_with ((with_reducible refine gD 40 rfl ?_); refine li_ .i64 3 (N := 40) rfl [1779033703, 3144134277, 1013904242, 2773480762, 1359893119, 2600822924, 528734635, 1541459225] ?_; intro v6 W r1 hb; replace RM := xrb RM hb; replace RO := xrb RO hb; have RH := aM (Kd.R_lower r1 (below_size xbel)); replace HB := xbs hb; clear hb r1)
        go_loopg [6, 7] 3 (fun gg s6 s7 W => ∃ (y : List Int) (i : Int), s7 = .int .i64 i ∧ Aside0 ((i = 0 ∧ 1 < gg ∨ i = 64 ∧ 0 < gg) ∧ y.length = 8) ∧ Aside0 (Kd.R (Kd.int .i64) 3 W w.heap.size (fun _ => True) s6 y) ∧ Aside0 (Kd.R (Kd.int .u8) 5 W w.heap.size (fun k => True ∧ some k ≠ v3.ownBlock) (.slice (some ad) 64 c4) m) ∧ Aside0 (Kd.R (Kd.int .u8) 5 W w.heap.size (fun k => True ∧ some k ≠ Value.ownBlock (.slice (some ad) 64 c4)) v3 []) ∧ Aside0 (Below w.heap.size w W))
        case atStart => exact ⟨_, 0, rfl, ⟨.inl ⟨rfl, by decide⟩, rfl⟩, RH, RM, RO, HB⟩
        case round =>
          clear RM RO HB RH
          obtain ⟨y, i, rfl, F, RH, RM, RO, HB⟩ := hrel
          obtain ⟨ah, ch, rfl, hch⟩ := rown RH.out F.out.2 (by decide)
          obtain ⟨⟨rfl, hg⟩ | ⟨rfl, hg⟩, F8⟩ := F.out
          · have k4 : ((64 : Int) ≤ (c4 : Int)) = True := eq_true (by omega)
            have k5 : (64 ≤ c4) = True := eq_true hc4
            clear F
            go_wp2_with ((with_reducible refine gC 110 rfl ?_); refine c1_ Tryz.func110 (block_d (Kd.R_reads' (xr RH)).2.2 hch F8 (Kd.R_reads' (xr RM)).2.2 hc4 M.out) ?_; rintro v1 W ⟨⟨r, hr, r1⟩, hb⟩; replace RM := xrb RM hb; replace RO := xrb RO hb; replace RH := aM (Kd.R_lower r1 (below_size xbel)); replace HB := xbs hb; clear hb r1)
            go_roundg 1
            case measure => exact hg
            case rel => exact ⟨r, 64, rfl, ⟨.inr ⟨rfl, by decide⟩, hr⟩, RH, RM, RO, HB⟩
          · clear F
            go_wp2
            go_loopg [3, 8] 9 (fun gg s3 s8 W => ∃ (o : List Int) (i : Nat), s8 = .int .i64 (i : Int) ∧ Aside0 (i ≤ 8 ∧ 8 - i < gg ∧ o.length = 4 * i) ∧ Aside0 (Kd.R (Kd.int .u8) 5 W w.heap.size (fun _ => True) s3 o) ∧ Aside0 (Kd.R (Kd.int .i64) 3 W w.heap.size (fun _ => True) (.slice (some ah) 8 ch) y) ∧ Aside0 (Below w.heap.size w W))
            case atStart => exact ⟨[], 0, rfl, ⟨by decide, by decide, rfl⟩, aM (Kd.R_mono RO.out (fun _ _ => trivial)), RH, HB⟩
            case round =>
              clear RM RO HB RH
              obtain ⟨o, i, rfl, F, RO, RH, HB⟩ := hrel
              by_cases lt : i < 8
              · have L0 := eq_true (show (i : Int) < 8 by omega)
                have L := aM lt
                clear lt
                go_wp2
                ((with_reducible refine gR 19 ?_); refine sT_ 27 [25] (fun W => W.cell? (ah.add i) = some (.int .i64 (rd y i))) _ [0, 0, 0, 6, 14, 30, 62, 0, 0, 384, 896, 1920, 3968, 0, 0, 24576, 57344, 122880, 253952, 0, 0, 1572864, 3670016, 7864320, 16777214, 33554431, 67108863] ((rowx (rD RH).out i L.out)) (hT := rfl) (fun hHeld HT_ HW_ => ?_); replace RO := rD RO; replace RH := rD RH; replace HB := lD HB; generalize World.drew _ = W at RO RH HB hHeld ⊢; refine pV 0 58 ?_; refine pV 1 59 ?_; refine pV 2 60 ?_; refine pV 3 61 ?_; refine tK 4 62 ?_; refine pV 5 63 ?_; refine pV 6 64 ?_; refine pV 7 65 ?_; refine pV 8 66 ?_; refine pV 9 67 ?_; refine tK 10 68 ?_; refine pV 11 69 ?_; refine pV 12 70 ?_; refine pV 13 71 ?_; refine pV 14 72 ?_; refine pV 15 73 ?_; refine tK 16 74 ?_; refine pV 17 75 ?_; refine pV 18 76 ?_; refine pV 19 77 ?_; refine pV 20 78 ?_; refine pV 21 79 ?_; refine tK 22 80 ?_; refine pV 23 81 ?_; refine oN 24 82 fun K hK => ?_; refine lj_ .u8 5 (N := 82) rfl [_, _, _, _] ?_; intro v82 W r4 hb; replace RO := xrb RO hb; replace RH := xrb RH hb; replace HB := xbs hb; obtain ⟨A8, c8, rfl⟩ := Kd.R_slice r4; refine hK.out _ _ (rowx (xr RH) i L.out) (fun hHeld => ?_); clear hK K hb; refine nm_ (N := 82) ?_; refine lN_ 25 83 fun K hK => ?_; refine Kd.R_append_rows_step (Kd.int .u8) (w0 := w) w.heap.size (by rfl) (.tmp 58) (.tmp 82) 22 5 (.int .u8 0) 1 rfl Tryz.underlying22 info5 rfl (by decide) (by decide) _ _ _ _ _ _ (fun _ => True) (fun _ => False) rfl rfl (xr RO) (Kd.R_reads' r4).2.2 (fun _ _ h => h) (fun _ h => h.elim) (fun _ _ => trivial) xbel (below_size xbel) (by have := F.out; simp; omega) ?_; intro v1 W r1 hb hg hat; replace RH := aM (Kd.R_over' (xr RH) (Kd.R_typed (xr RO)) (by decide) hg); replace RO := aM r1; replace HB := aM hb; clear r1 hb hg hat; refine hK.out _ _ ?_; clear hK K; refine nm_ (N := 83) ?_; refine pV 26 3 ?_; refine dn_ ?_)
                go_wp2
                go_roundg (8 - i)
                case measure => have := F.out; omega
                case rel => (have := F.out; have := L.out; exact ⟨_, i + 1, congrArg (Value.int .i64) (by rw [w64 (by omega) (by omega)]; omega), ⟨by omega, by omega, by simp; omega⟩, RO, RH, HB⟩)
              · have L0 := eq_false (show ¬ (i : Int) < 8 by omega)
                go_wp2
                go_ret
                exact ⟨_, rfl, ⟨o, by have := F.out; omega, RO.out⟩, HB.out⟩
  · obtain ⟨e1, e2⟩ := bF (show ¬ (m.length : Int) % 64 = 56 by have := F.out; omega)
    have M := aM e
    clear e
    go_wp2_with ((with_reducible refine gate_builtin (b := .append) (xs := #[.tmp 23, .tmp 24]) rfl ?_); at_builtin; refine apI 23 24 (xr RM) xbel (by have := F.out; omega) (fun k hk => ⟨trivial, Kd.fresh' (Kd.R_lt (xr RO)) k hk⟩) Tryz.underlying22 info5 (by decide) (Nat.le_refl _) ?_; intro v4 W r1 hb hg hat; replace RO := aM (Kd.R_after (xr RO) hg hat); replace RM := r1; replace HB := hb; clear r1 hb hg hat)
    go_roundg (56 - m.length)
    case measure => have := F.out; have := M.out; omega
    case rel => (have := F.out; have := M.out; exact ⟨_, ⟨by simp only [List.length_append, List.length_singleton]; omega⟩, RM, RO, HB⟩)
theorem digest_c (g : Nat) (w0 : World) {w1 w : World} (h : Dr w0 w1 w g) :
 Calls Tryz.prog 94 #[.pointer (some ⟨g, 0, none⟩)] w fun e w' => ∃ s, e = .returned (.string s) ∧ s.size ≤ 64 ∧ Dr w0 w w' g := by
 have HD := h.self; clear h
 go_enter Tryz.func94, Tryz.ntmps94
 go_wp2_with (first
  | ((with_reducible refine gC 18 rfl ?_); refine c1_ Tryz.func18 (below_c g _ w0 xD) ?_; rintro x W ⟨hx, hd⟩; replace HD := xDd HD hd; clear hd)
  | ((with_reducible refine gD 6 rfl ?_); refine li_ .u8 5 (N := 6) rfl [_] ?_; intro v W r hb; obtain ⟨A, c, rfl⟩ := Kd.R_slice r; replace HD := xDb HD hb; clear hb)
  | ((with_reducible refine gC 108 rfl ?_); refine c1_ Tryz.func108 (sha_c (Kd.R_reads' r).2.2) ?_; rintro v W ⟨⟨l, hl, r2⟩, hb⟩; have hs := own_string (P := Tryz.prog) Tryz.underlying22 Tryz.underlying5 Tryz.underlying9 (Kd.own_of_R r2); replace HD := xDb HD hb; clear hb))
 go_ret
 exact ⟨_, rfl, by rw [strOfNums_size, hl]; decide, xD⟩
theorem drawRight_c (g : Nat) (w0 : World) {w1 w : World} (h : Dr w0 w1 w g) :
 Calls Tryz.prog 71 #[.pointer (some ⟨g, 0, none⟩)] w fun e w' => ∃ u, e = .returned (.agg u) ∧ Cm 64 u ∧ Dr w0 w w' g := by
 have hu := Tryz.underlying48; have G0 := aM h.lt; have Z0 := aM h.size; have HD := h.self; clear h
 go_enter Tryz.func71, Tryz.ntmps71
 go_wp2_with (first
  | ((with_reducible refine gD 2 rfl ?_); refine bE_ (N := 2) rfl ?_; intro a2 hg W b2 hb; obtain ⟨l2, n2, m2⟩ := bxD hg G0; replace HD := xDb HD hb; have c2 := xf5 b2; clear hg hb)
  | ((with_reducible refine gD 3 rfl ?_); refine bE_ (N := 3) rfl ?_; intro a3 hg W b3 hb; obtain ⟨l3, n3, m3⟩ := bxD hg G0; have p203 := nblt b2 hg; have q203 := nbgt b2 hg; replace b2 := xbb b2 hb; replace HD := xDb HD hb; replace c2 := xf5 b2; have c3 := xf5 b3; clear hg hb)
  | ((with_reducible refine gS rfl ?_); intro ho; refine sE_ _ _ ?_ ho; intro W hw; clear ho; (try replace b2 := xwO hw b2); (try replace b3 := xwO hw b3); (try simp only [List.setIfInBounds_toArray, List.set_cons_zero, List.set_cons_succ] at b2 b3); replace HD := xDw HD hw; (try replace c2 := xf5 b2); (try replace c3 := xf5 b3); clear hw)
  | ((with_reducible refine gC 18 rfl ?_); refine c1_ Tryz.func18 (below_c g _ w0 xD) ?_; rintro x W ⟨hx, hd⟩; (try replace b2 := kb b2 n2 hd.2.2); (try replace b3 := kb b3 n3 hd.2.2); replace HD := xDd HD hd; (try replace c2 := xf5 b2); (try replace c3 := xf5 b3); clear hd)
  | ((with_reducible refine gC 94 rfl ?_); refine c1_ Tryz.func94 (digest_c g w0 xD) ?_; rintro s W ⟨hs, hd⟩; replace b2 := kb b2 n2 hd.2.2; replace b3 := kb b3 n3 hd.2.2; replace HD := xDd HD hd; replace c2 := xf5 b2; replace c3 := xf5 b3; clear hd))
 all_goals (refine bodyPost_ret (results_cell_row rfl _ _ a2 48 _ (0, 0) _ rfl b2.out Tryz.underlying48 rfl (by kernel_rfl)) rfl ?_; exact ⟨_, rfl, ⟨_, _, _, _, _, rfl, by first | exact hs | exact Nat.zero_le 64⟩, xD⟩)
theorem drawCmd_c (g : Nat) (w0 : World) {w1 w : World} (h : Dr w0 w1 w g) :
 Calls Tryz.prog 38 #[.pointer (some ⟨g, 0, none⟩)] w fun e w' => ∃ u, e = .returned (.agg u) ∧ Cm 65 u ∧ Dr w0 w w' g := by
 have hu := Tryz.underlying48; have G0 := aM h.lt; have Z0 := aM h.size; have HD := h.self; clear h
 go_enter Tryz.func38, Tryz.ntmps38
 go_wp2_with (first
  | ((with_reducible refine gD 2 rfl ?_); refine bE_ (N := 2) rfl ?_; intro a2 hg W b2 hb; obtain ⟨l2, n2, m2⟩ := bxD hg G0; replace HD := xDb HD hb; have c2 := xf5 b2; clear hg hb)
  | ((with_reducible refine gC 71 rfl ?_); refine c1_ Tryz.func71 (drawRight_c g w0 xD) ?_; rintro _ W ⟨⟨a, b, c, d, s, rfl, hs⟩, hd⟩; replace b2 := kb b2 n2 hd.2.2; replace HD := xDd HD hd; replace c2 := xf5 b2; clear hd)
  | ((with_reducible refine gD 3 rfl ?_); refine bE_ (N := 3) rfl ?_; intro a3 hg W b3 hb; obtain ⟨l3, n3, m3⟩ := bxD hg G0; have p203 := nblt b2 hg; have q203 := nbgt b2 hg; replace b2 := xbb b2 hb; replace HD := xDb HD hb; replace c2 := xf5 b2; have c3 := xf5 b3; clear hg hb)
  | ((with_reducible refine gS rfl ?_); intro ho; refine sE_ _ _ ?_ ho; intro W hw; clear ho; (try replace b2 := xwO hw b2); (try replace b3 := xwO hw b3); (try simp only [List.setIfInBounds_toArray, List.set_cons_zero, List.set_cons_succ] at b2 b3); replace HD := xDw HD hw; (try replace c2 := xf5 b2); (try replace c3 := xf5 b3); clear hw)
  | ((with_reducible refine gC 18 rfl ?_); refine c1_ Tryz.func18 (below_c g _ w0 xD) ?_; rintro x W ⟨hx, hd⟩; (try replace b2 := kb b2 n2 hd.2.2); (try replace b3 := kb b3 n3 hd.2.2); replace HD := xDd HD hd; (try replace c2 := xf5 b2); (try replace c3 := xf5 b3); clear hd)
  | (refine li_ .i64 3 (N := 16) rfl [0, 1000, 1001] ?_; intro v W r hb; replace b2 := xbb b2 hb; replace b3 := xbb b3 hb; replace HD := xDb HD hb; replace c2 := xf5 b2; replace c3 := xf5 b3; clear hb)
  | (refine li_ .i64 3 (N := 22) rfl [-1, 4, 5] ?_; intro v W r hb; replace b2 := xbb b2 hb; replace b3 := xbb b3 hb; replace HD := xDb HD hb; replace c2 := xf5 b2; replace c3 := xf5 b3; clear hb)
  | (refine li_ .i64 3 (N := 28) rfl [-1, 1000, 1001] ?_; intro v W r hb; replace b2 := xbb b2 hb; replace b3 := xbb b3 hb; replace HD := xDb HD hb; replace c2 := xf5 b2; replace c3 := xf5 b3; clear hb)
  | ((with_reducible refine gC 37 rfl ?_); refine c1_ Tryz.func37 (pick_r g w0 xD r (by decide)) ?_; rintro x W hd; replace b2 := kb b2 n2 hd.2.2; replace b3 := kb b3 n3 hd.2.2; replace HD := xDd HD hd; replace c2 := xf5 b2; replace c3 := xf5 b3; clear hd))
 all_goals (refine bodyPost_ret (results_cell_row rfl _ _ a2 48 _ (0, 0) _ rfl b2.out Tryz.underlying48 rfl (by kernel_rfl)) rfl ?_; exact ⟨_, rfl, ⟨_, _, _, _, _, rfl, by first | exact Nat.le_succ_of_le hs | (have : ByteArray.size ⟨#[120]⟩ = 1 := rfl; simp; omega)⟩, xD⟩)
end Go.Proofs.YtppfnnpfamkclaaGreat.QFnSaved
