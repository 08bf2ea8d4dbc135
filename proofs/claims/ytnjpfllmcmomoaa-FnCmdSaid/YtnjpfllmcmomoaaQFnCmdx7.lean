-- A walk, by a program of this session.
import Derived.Test.YtnjpfllmcmomoaaQFnCmdx0
import Derived.Test.YtnjpfllmcmomoaaQFnCmdx2
import Derived.Test.YtnjpfllmcmomoaaQFnCmdx5
import Derived.Test.YtnjpfllmcmomoaaQFnCmdx6
namespace Go.Proofs.Ytnjpfllmcmomoaa.QFnCmd
open Go.RowKit Go.Proofs.YtnjpfllmcmomoaaW.PrintWords Go.Proofs.YtnjpfllmcmomoaaW.PrintLast Go.Proofs.YtnjpfllmcmomoaaW.PrintMore
attribute [local go_sem] max2_int min2_int max_two min_two max_three min_three max_four min_four   -- for this text's walks alone
set_option linter.unusedVariables false
set_option linter.unusedSimpArgs false

/-! ### impl_reader_bytes: function 146 -/
def rdBytes (l : List Int) (at_ : Int) (bad : Bool) (n : Int) : Option (ByteArray × Int × Bool) :=
  if bad = true then some (ByteArray.empty, at_, true) else if n > wrap64 ((l.length : Int) - at_) then some (ByteArray.empty, at_, true)
  else if 0 ≤ at_ ∧ 0 ≤ n ∧ at_ + n ≤ (l.length : Int) then some (strOfNums ((l.take (at_ + n).toNat).drop at_.toNat), at_ + n, false) else none
set_option maxHeartbeats 4000000 in
set_option maxRecDepth 100000 in
theorem rd_bytes (g : Nat) (A : Option Addr) (c : Nat) (l : List Int) (at_ : Int) (bad : Bool) (n : Int) (r : ByteArray) (at' : Int) (bad' : Bool) (w0 w : World) (hI : IsRd w0 w g A c l at_ bad) (h : rdBytes l at_ bad n = some (r, at', bad')) :
    Calls Try.prog 146 #[.pointer (some ⟨g, 0, none⟩), .int .i64 n] w fun e w' => e = .returned (.string r) ∧ IsRd w0 w' g A c l at' bad' ∧ KeepBut w w' g none := by
  have hc0 : w.cell? ⟨g, 0, none⟩ = some (.slice A l.length c) := (blk_cell hI.blk 0).trans rfl
  have hc1 : w.cell? ⟨g, 1, none⟩ = some (.int .i64 at_) := (blk_cell hI.blk 1).trans rfl
  have hc2 : w.cell? ⟨g, 2, none⟩ = some (.bool bad) := (blk_cell hI.blk 2).trans rfl
  have hf1 := blk_frozen hI.blk 1
  have hf2 := blk_frozen hI.blk 2
  have HI := Aside0.mk hI
  clear hI
  unfold rdBytes at h
  cases bad
  · simp only [Bool.false_eq_true, ↓reduceIte] at h
    by_cases c1 : n > wrap64 ((l.length : Int) - at_)
    · simp only [c1, ↓reduceIte, Option.some.injEq, Prod.mk.injEq] at h
      obtain ⟨rfl, rfl, rfl⟩ := h
      have c1b : decide (wrap64 ((l.length : Int) - at_) < n) = true := decide_eq_true c1
      clear c1
      go_enter Try.func146, Try.ntmps146
      go_wp2
      go_quiet (fail)
      go_wp2
      go_ret
      exact ⟨rfl, by repeat (first | exact HI.out | apply IsRd.set1 | apply IsRd.set2 | apply IsRd.drewN | apply IsRd.drew), by repeat (first | exact KeepBut.refl _ _ _ | apply KeepBut.set_ | apply keep_drewN | apply keep_drew)⟩
    · simp only [c1, ↓reduceIte] at h
      split at h
      · rename_i hb
        simp only [Option.some.injEq, Prod.mk.injEq] at h
        obtain ⟨rfl, rfl, rfl⟩ := h
        obtain ⟨b0, b1, b2⟩ := hb
        have hcap := HI.out.cap
        have c1b : decide (wrap64 ((l.length : Int) - at_) < n) = false := decide_eq_false c1
        clear c1
        have hmx := Kd.C_max HI.out.now
        have e1 : wrap64 (at_ + n) = at_ + n := by unfold wrap64; omega
        have e2 : wrap64 at_ = at_ := by unfold wrap64; omega
        have e3 : IntKind.i64.wrap at_ = at_ := by rw [IntKind.wrap_i64]; omega
        have HP : Aside0 (0 ≤ at_ ∧ 0 ≤ n ∧ at_ + n ≤ (l.length : Int) ∧ l.length ≤ c) := ⟨⟨b0, b1, b2, hcap⟩⟩
        clear b0 b1 b2 hcap hmx
        go_enter Try.func146, Try.ntmps146
        go_wp2
        go_quiet (fail)
        go_wp2
        have HI2 : IsRd w0 ((w.drewN nq).setCell ⟨g, 1, none⟩ (.int .i64 (at_ + n))) g A c l (at_ + n) false := (HI.out.drewN nq).set1 (at_ + n)
        have HK2 : KeepBut w ((w.drewN nq).setCell ⟨g, 1, none⟩ (.int .i64 (at_ + n))) g none := (keep_drewN (KeepBut.refl _ _ _) nq).set_ 1 _
        generalize ((w.drewN nq).setCell ⟨g, 1, none⟩ (.int .i64 (at_ + n))) = W at *
        clear hc0 hc1 hc2 hf1 hf2 HI
        have hc0 : W.cell? ⟨g, 0, none⟩ = some (.slice A l.length c) := (blk_cell HI2.blk 0).trans rfl
        have hc1 : W.cell? ⟨g, 1, none⟩ = some (.int .i64 (at_ + n)) := (blk_cell HI2.blk 1).trans rfl
        have HI := Aside0.mk HI2
        have HK := Aside0.mk HK2
        clear HI2 HK2
        obtain ⟨b0, b1, b2, hcap⟩ := HP.out
        obtain ⟨i0, hi0, _, hsz, _⟩ := info_parts info5
        obtain ⟨A2, hcut, hA2, hC2⟩ := print_mid_of (P := Try.prog) (Value.int .u8) 0 22 5 .i64 .i64 Try.underlying22 hi0 hsz A c l at_ (at_ + n) b0 (by omega) b2 hcap
        have hcv : ∀ m, (convert 22 9 (.slice A2 ((at_ + n).toNat - at_.toNat) (c - at_.toNat))).run Try.prog (W.drewN m) = .ok (.string (strOfNums ((l.take (at_ + n).toNat).drop at_.toNat))) (W.drewN m) := fun m =>
          Kd.C_string Try.underlying22 Try.underlying5 Try.underlying9 (by
            have h_ := Kd.C_of_reads (h1 := fun _ => rfl) (hA2 _ (Kd.reads_of_C ((HI.out.drewN m).now)))
            rw [show ((l.take (at_ + n).toNat).drop at_.toNat).length = (at_ + n).toNat - at_.toNat from by rw [List.length_drop, List.length_take]; omega] at h_
            exact h_)
        rw [show ((l.take (at_ + n).toNat).drop at_.toNat).length = (at_ + n).toNat - at_.toNat from by rw [List.length_drop, List.length_take]; omega] at hcut
        clear hA2 hC2 hi0 hsz b0 b1 b2 hcap
        go_wp2
        go_quiet (fail)
        go_wp2
        go_ret
        exact ⟨rfl, HI.out.drewN nq, keep_drewN HK.out nq⟩
      · exact absurd h (by simp)
  · simp only [↓reduceIte, Option.some.injEq, Prod.mk.injEq] at h
    obtain ⟨rfl, rfl, rfl⟩ := h
    go_enter Try.func146, Try.ntmps146
    go_wp2
    go_quiet (fail)
    go_wp2
    go_ret
    exact ⟨rfl, by repeat (first | exact HI.out | apply IsRd.set1 | apply IsRd.set2 | apply IsRd.drewN | apply IsRd.drew), by repeat (first | exact KeepBut.refl _ _ _ | apply KeepBut.set_ | apply keep_drewN | apply keep_drew)⟩


/-! ### impl_reader_cmd: function 88 -/
def rcFin (k : Nat) (x1 x2 x3 x4 : Int) (d : ByteArray) (p : Int) (bad : Bool) : Option (Int × Int × Int × Int × ByteArray × Int × Bool) :=
  if bad = true then some (0, 0, 0, 0, (⟨#[]⟩ : ByteArray), p, true) else (impl_CmdOk.f k x1 x2 x3 x4 d).bind fun o => if o = true then some (x1, x2, x3, x4, d, p, false) else some (0, 0, 0, 0, (⟨#[]⟩ : ByteArray), p, true)
def rdCmd (k : Nat) (l : List Int) (at_ : Int) (bad : Bool) : Option (Int × Int × Int × Int × ByteArray × Int × Bool) :=
  (rdNum k l at_ bad).bind fun a => if a.1 = 1 then rcFin k 1 0 0 0 (⟨#[]⟩ : ByteArray) a.2.1 a.2.2
    else (rdNum k l a.2.1 a.2.2).bind fun b => if a.1 = 3 then (rdNum k l b.2.1 b.2.2).bind fun c => rcFin k 3 b.1 c.1 0 (⟨#[]⟩ : ByteArray) c.2.1 c.2.2
      else if a.1 = 2 then (rdNum k l b.2.1 b.2.2).bind fun c => (rdBytes l c.2.1 c.2.2 32).bind fun d => rcFin k 2 b.1 0 c.1 d.1 d.2.1 d.2.2
      else rcFin k a.1 b.1 0 0 (⟨#[]⟩ : ByteArray) b.2.1 b.2.2
theorem rcFin.mono (k : Nat) (x1 x2 x3 x4 : Int) (d : ByteArray) (p : Int) (bad : Bool) : LeO (rcFin k x1 x2 x3 x4 d p bad) (rcFin (k + 1) x1 x2 x3 x4 d p bad) := by
  unfold rcFin
  repeat' first
  | exact impl_CmdOk.mono _ _ _ _ _ _
  | exact LeO.refl _
  | refine LeO.ite ?_ ?_
  | refine LeO.bind ?_ (fun _ => ?_)
theorem rdNum.mono (k : Nat) (l : List Int) (at_ : Int) (bad : Bool) : LeO (rdNum k l at_ bad) (rdNum (k + 1) l at_ bad) := by
  unfold rdNum
  repeat' first
  | exact impl_GetNum.mono _ _ _
  | exact LeO.refl _
  | refine LeO.bind ?_ (fun _ => ?_)
theorem rdCmd.mono (k : Nat) (l : List Int) (at_ : Int) (bad : Bool) : LeO (rdCmd k l at_ bad) (rdCmd (k + 1) l at_ bad) := by
  unfold rdCmd
  repeat' first
  | exact rdNum.mono _ _ _ _
  | exact rcFin.mono _ _ _ _ _ _ _ _
  | exact LeO.refl _
  | refine LeO.ite ?_ ?_
  | refine LeO.bind ?_ (fun _ => ?_)
theorem rc_at {w : World} {g : Nat} {o : Obj} (h : w.heap.size = g) : (w.alloc o).heap[g]? = some o := h ▸ blk_new w o
theorem rc_fr {w : World} {g b i : Nat} {o : Obj} (h : w.heap[g]? = some o) (hp : g ≠ b) (u : Value) : (w.setCell ⟨b, i, none⟩ u).heap[g]? = some o := (Below.heap_setCell w ⟨b, i, none⟩ u g hp).trans h
theorem rc_kp {w w' : World} {g b : Nat} {o : Obj} (hk : KeepBut w w' g none) (h : w.heap[b]? = some o) (hp : b ≠ g) : w'.heap[b]? = some o := KeepBut.blk hk h hp (by simp)
theorem rc_set5 {w : World} {b : Nat} {T : TypeId} {v0 v1 v2 v3 v4 : Value} (h : w.heap[b]? = some (.cells #[.int .i64 0, .int .i64 0, .int .i64 0, .int .i64 0, .string (⟨#[]⟩ : ByteArray)] T (0, 0))) :
    (((((w.setCell ⟨b, 0, none⟩ v0).setCell ⟨b, 1, none⟩ v1).setCell ⟨b, 2, none⟩ v2).setCell ⟨b, 3, none⟩ v3).setCell ⟨b, 4, none⟩ v4).heap[b]? = some (.cells #[v0, v1, v2, v3, v4] T (0, 0)) :=
  (blk_set (blk_set (blk_set (blk_set (blk_set h 0 v0) 1 v1) 2 v2) 3 v3) 4 v4).trans rfl
set_option maxHeartbeats 8000000 in
set_option maxRecDepth 100000 in
theorem rd_cmd (k g : Nat) (A : Option Addr) (c : Nat) (l : List Int) (at_ : Int) (bad : Bool) (r1 r2 r3 r4 : Int) (r5 : ByteArray) (at' : Int) (bad' : Bool) (w0 w : World) (hI : IsRd w0 w g A c l at_ bad) (h : rdCmd k l at_ bad = some (r1, r2, r3, r4, r5, at', bad')) :
    Calls Try.prog 88 #[.pointer (some ⟨g, 0, none⟩)] w fun e w' => e = .returned (.agg #[.int .i64 r1, .int .i64 r2, .int .i64 r3, .int .i64 r4, .string r5]) ∧ IsRd w0 w' g A c l at' bad' ∧ KeepBut w w' g none := by
  have hu := Try.underlying34
  have HI := Aside0.mk hI
  have GL := Aside0.mk hI.lt
  have G0 := Aside0.mk hI.bel.size
  have hn1 : ¬ g = w.heap.size := by have := hI.lt; omega
  have hn2 : ¬ w.heap.size = g := by have := hI.lt; omega
  have hn3 : ¬ g = w.heap.size + 1 := by have := hI.lt; omega
  have hn4 : ¬ w.heap.size + 1 = g := by have := hI.lt; omega
  clear hI
  unfold rdCmd at h
  replace h := Option.bind_eq_some_iff.1 h; obtain ⟨⟨x1, p1, b1⟩, hA, h⟩ := h
  simp only at h
  have HA1 := Aside0.mk hA
  clear hA
  by_cases e1 : x1 = 1
  · subst e1
    simp only [↓reduceIte] at h
    unfold rcFin at h
    cases b1
    · simp only [Bool.false_eq_true, ↓reduceIte] at h
      replace h := Option.bind_eq_some_iff.1 h; obtain ⟨o, hK, h⟩ := h
      have HOK := Aside0.mk hK
      clear hK
      cases o
      · simp only [Bool.false_eq_true, ↓reduceIte, Option.some.injEq, Prod.mk.injEq] at h
        obtain ⟨rfl, rfl, rfl, rfl, rfl, rfl, rfl⟩ := h
        go_enter Try.func88, Try.ntmps88
        go_wp2_with (first | (go_at_call 139; with_reducible refine (rd_num k g A c l at_ bad 1 p1 false w0 _ (by repeat (with_reducible first | exact HI.out | refine IsRd.far ?_ (by have := G0.out; omega) (by have := GL.out; omega) | apply IsRd.alloc)) HA1.out).mono ?_; rintro e w1 ⟨rfl, hi, hk⟩; have hz := rc_kp hk (b := w.heap.size) (o := .cells #[.int .i64 0, .int .i64 0, .int .i64 0, .int .i64 0, .string (⟨#[]⟩ : ByteArray)] 34 (0, 0)) (by exact blk_alloc (blk_new _ _) _) (by have := GL.out; omega); have hx := rc_kp hk (b := w.heap.size + 1) (o := .cells #[.int .i64 0, .int .i64 0, .int .i64 0, .int .i64 0, .string (⟨#[]⟩ : ByteArray)] 34 (0, 0)) (by exact rc_at (by simp)) (by have := GL.out; omega); have x1_0 := (blk_cell hx 0).trans rfl; have z1_0 := (blk_cell hz 0).trans rfl; have x1_1 := (blk_cell hx 1).trans rfl; have z1_1 := (blk_cell hz 1).trans rfl; have x1_2 := (blk_cell hx 2).trans rfl; have z1_2 := (blk_cell hz 2).trans rfl; have x1_3 := (blk_cell hx 3).trans rfl; have z1_3 := (blk_cell hz 3).trans rfl; have x1_4 := (blk_cell hx 4).trans rfl; have z1_4 := (blk_cell hz 4).trans rfl; have hf1 := fun (i_ : Nat) => blk_frozen hx i_; have hz1 := fun (i_ : Nat) => blk_frozen hz i_; have hq1 := (blk_cell hi.blk 2).trans rfl; have hg1 := blk_frozen hi.blk 2; have HX1 := Aside0.mk hx; have HZ1 := Aside0.mk hz; have HI1 := Aside0.mk hi; have HK1 : Aside0 (KeepBut w w1 g none) := ⟨KeepBut.trans (keep_alloc (keep_alloc (KeepBut.refl _ _ _) _) _) hk (.inl rfl)⟩; clear hi hk hz hx) | (go_at_call 28; with_reducible refine (impl_CmdOk.calls k _ _ _ _ _ _ _ HOK.out).mono ?_; rintro e wo ⟨rfl, hb⟩; have hz := blk_below (g := w.heap.size) (o := .cells #[.int .i64 0, .int .i64 0, .int .i64 0, .int .i64 0, .string (⟨#[]⟩ : ByteArray)] 34 (0, 0)) (by exact rc_fr HZ1.out (by omega) _) hb; have hx := blk_below (g := w.heap.size + 1) (o := .cells #[.int .i64 1, .int .i64 0, .int .i64 0, .int .i64 0, .string (⟨#[]⟩ : ByteArray)] 34 (0, 0)) (by exact (blk_set HX1.out 0 _).trans rfl) hb; have hi : IsRd w0 wo g A c l p1 false := IsRd.step (by repeat (with_reducible first | exact HI1.out | refine IsRd.far ?_ (by have := G0.out; omega) (by have := GL.out; omega) | apply IsRd.alloc)) hb; have xo_0 := (blk_cell hx 0).trans rfl; have zo_0 := (blk_cell hz 0).trans rfl; have xo_1 := (blk_cell hx 1).trans rfl; have zo_1 := (blk_cell hz 1).trans rfl; have xo_2 := (blk_cell hx 2).trans rfl; have zo_2 := (blk_cell hz 2).trans rfl; have xo_3 := (blk_cell hx 3).trans rfl; have zo_3 := (blk_cell hz 3).trans rfl; have xo_4 := (blk_cell hx 4).trans rfl; have zo_4 := (blk_cell hz 4).trans rfl; have hfo := fun (i_ : Nat) => blk_frozen hx i_; have hzo := fun (i_ : Nat) => blk_frozen hz i_; have hqo := (blk_cell hi.blk 2).trans rfl; have hgo := blk_frozen hi.blk 2; have HZo := Aside0.mk hz; have HIo := Aside0.mk hi; have HKo : Aside0 (KeepBut w wo g none) := ⟨KeepBut.trans (keep_fr HK1.out (by omega) _) (KeepBut.of_below hb g none) (.inl rfl)⟩; clear hi hb hz hx))
        refine bodyPost_ret (results_cell_row rfl _ _ w.heap.size 34 #[.int .i64 0, .int .i64 0, .int .i64 0, .int .i64 0, .string (⟨#[]⟩ : ByteArray)] (0, 0) _ rfl (by (with_reducible repeat (first | refine blk_drewN ?_ _ | refine blk_alloc ?_ _)); with_reducible refine rc_set5 ?_; repeat (with_reducible first | exact HZo.out | refine rc_fr ?_ (by first | omega | (have := GL.out; omega)) _ | refine blk_drewN ?_ _ | refine blk_alloc ?_ _)) hu rfl (by kernel_rfl)) rfl ?_; exact ⟨by first | rfl | (simp; done) | (simp [*]; done), by repeat (with_reducible first | exact HIo.out | refine IsRd.set2 (bad := false) ?_ _ | refine IsRd.far ?_ (by have := G0.out; omega) (by have := GL.out; omega) | apply IsRd.alloc), by repeat (with_reducible first | exact HKo.out | apply KeepBut.set_ | refine keep_fr ?_ (by omega) _)⟩
      · simp only [Bool.false_eq_true, ↓reduceIte, Option.some.injEq, Prod.mk.injEq] at h
        obtain ⟨rfl, rfl, rfl, rfl, rfl, rfl, rfl⟩ := h
        go_enter Try.func88, Try.ntmps88
        go_wp2_with (first | (go_at_call 139; with_reducible refine (rd_num k g A c l at_ bad 1 p1 false w0 _ (by repeat (with_reducible first | exact HI.out | refine IsRd.far ?_ (by have := G0.out; omega) (by have := GL.out; omega) | apply IsRd.alloc)) HA1.out).mono ?_; rintro e w1 ⟨rfl, hi, hk⟩; have hz := rc_kp hk (b := w.heap.size) (o := .cells #[.int .i64 0, .int .i64 0, .int .i64 0, .int .i64 0, .string (⟨#[]⟩ : ByteArray)] 34 (0, 0)) (by exact blk_alloc (blk_new _ _) _) (by have := GL.out; omega); have hx := rc_kp hk (b := w.heap.size + 1) (o := .cells #[.int .i64 0, .int .i64 0, .int .i64 0, .int .i64 0, .string (⟨#[]⟩ : ByteArray)] 34 (0, 0)) (by exact rc_at (by simp)) (by have := GL.out; omega); have x1_0 := (blk_cell hx 0).trans rfl; have z1_0 := (blk_cell hz 0).trans rfl; have x1_1 := (blk_cell hx 1).trans rfl; have z1_1 := (blk_cell hz 1).trans rfl; have x1_2 := (blk_cell hx 2).trans rfl; have z1_2 := (blk_cell hz 2).trans rfl; have x1_3 := (blk_cell hx 3).trans rfl; have z1_3 := (blk_cell hz 3).trans rfl; have x1_4 := (blk_cell hx 4).trans rfl; have z1_4 := (blk_cell hz 4).trans rfl; have hf1 := fun (i_ : Nat) => blk_frozen hx i_; have hz1 := fun (i_ : Nat) => blk_frozen hz i_; have hq1 := (blk_cell hi.blk 2).trans rfl; have hg1 := blk_frozen hi.blk 2; have HX1 := Aside0.mk hx; have HZ1 := Aside0.mk hz; have HI1 := Aside0.mk hi; have HK1 : Aside0 (KeepBut w w1 g none) := ⟨KeepBut.trans (keep_alloc (keep_alloc (KeepBut.refl _ _ _) _) _) hk (.inl rfl)⟩; clear hi hk hz hx) | (go_at_call 28; with_reducible refine (impl_CmdOk.calls k _ _ _ _ _ _ _ HOK.out).mono ?_; rintro e wo ⟨rfl, hb⟩; have hz := blk_below (g := w.heap.size) (o := .cells #[.int .i64 0, .int .i64 0, .int .i64 0, .int .i64 0, .string (⟨#[]⟩ : ByteArray)] 34 (0, 0)) (by exact rc_fr HZ1.out (by omega) _) hb; have hx := blk_below (g := w.heap.size + 1) (o := .cells #[.int .i64 1, .int .i64 0, .int .i64 0, .int .i64 0, .string (⟨#[]⟩ : ByteArray)] 34 (0, 0)) (by exact (blk_set HX1.out 0 _).trans rfl) hb; have hi : IsRd w0 wo g A c l p1 false := IsRd.step (by repeat (with_reducible first | exact HI1.out | refine IsRd.far ?_ (by have := G0.out; omega) (by have := GL.out; omega) | apply IsRd.alloc)) hb; have xo_0 := (blk_cell hx 0).trans rfl; have zo_0 := (blk_cell hz 0).trans rfl; have xo_1 := (blk_cell hx 1).trans rfl; have zo_1 := (blk_cell hz 1).trans rfl; have xo_2 := (blk_cell hx 2).trans rfl; have zo_2 := (blk_cell hz 2).trans rfl; have xo_3 := (blk_cell hx 3).trans rfl; have zo_3 := (blk_cell hz 3).trans rfl; have xo_4 := (blk_cell hx 4).trans rfl; have zo_4 := (blk_cell hz 4).trans rfl; have hfo := fun (i_ : Nat) => blk_frozen hx i_; have hzo := fun (i_ : Nat) => blk_frozen hz i_; have hqo := (blk_cell hi.blk 2).trans rfl; have hgo := blk_frozen hi.blk 2; have HZo := Aside0.mk hz; have HIo := Aside0.mk hi; have HKo : Aside0 (KeepBut w wo g none) := ⟨KeepBut.trans (keep_fr HK1.out (by omega) _) (KeepBut.of_below hb g none) (.inl rfl)⟩; clear hi hb hz hx))
        refine bodyPost_ret (results_cell_row rfl _ _ w.heap.size 34 #[.int .i64 1, .int .i64 0, .int .i64 0, .int .i64 0, .string (⟨#[]⟩ : ByteArray)] (0, 0) _ rfl (by (with_reducible repeat (first | refine blk_drewN ?_ _ | refine blk_alloc ?_ _)); with_reducible refine rc_set5 ?_; repeat (with_reducible first | exact HZo.out | refine rc_fr ?_ (by first | omega | (have := GL.out; omega)) _ | refine blk_drewN ?_ _ | refine blk_alloc ?_ _)) hu rfl (by kernel_rfl)) rfl ?_; exact ⟨by first | rfl | (simp; done) | (simp [*]; done), by repeat (with_reducible first | exact HIo.out | refine IsRd.set2 (bad := false) ?_ _ | refine IsRd.far ?_ (by have := G0.out; omega) (by have := GL.out; omega) | apply IsRd.alloc), by repeat (with_reducible first | exact HKo.out | apply KeepBut.set_ | refine keep_fr ?_ (by omega) _)⟩
    · simp only [Bool.false_eq_true, ↓reduceIte, Option.some.injEq, Prod.mk.injEq] at h
      obtain ⟨rfl, rfl, rfl, rfl, rfl, rfl, rfl⟩ := h
      go_enter Try.func88, Try.ntmps88
      go_wp2_with (first | (go_at_call 139; with_reducible refine (rd_num k g A c l at_ bad 1 p1 true w0 _ (by repeat (with_reducible first | exact HI.out | refine IsRd.far ?_ (by have := G0.out; omega) (by have := GL.out; omega) | apply IsRd.alloc)) HA1.out).mono ?_; rintro e w1 ⟨rfl, hi, hk⟩; have hz := rc_kp hk (b := w.heap.size) (o := .cells #[.int .i64 0, .int .i64 0, .int .i64 0, .int .i64 0, .string (⟨#[]⟩ : ByteArray)] 34 (0, 0)) (by exact blk_alloc (blk_new _ _) _) (by have := GL.out; omega); have hx := rc_kp hk (b := w.heap.size + 1) (o := .cells #[.int .i64 0, .int .i64 0, .int .i64 0, .int .i64 0, .string (⟨#[]⟩ : ByteArray)] 34 (0, 0)) (by exact rc_at (by simp)) (by have := GL.out; omega); have x1_0 := (blk_cell hx 0).trans rfl; have z1_0 := (blk_cell hz 0).trans rfl; have x1_1 := (blk_cell hx 1).trans rfl; have z1_1 := (blk_cell hz 1).trans rfl; have x1_2 := (blk_cell hx 2).trans rfl; have z1_2 := (blk_cell hz 2).trans rfl; have x1_3 := (blk_cell hx 3).trans rfl; have z1_3 := (blk_cell hz 3).trans rfl; have x1_4 := (blk_cell hx 4).trans rfl; have z1_4 := (blk_cell hz 4).trans rfl; have hf1 := fun (i_ : Nat) => blk_frozen hx i_; have hz1 := fun (i_ : Nat) => blk_frozen hz i_; have hq1 := (blk_cell hi.blk 2).trans rfl; have hg1 := blk_frozen hi.blk 2; have HX1 := Aside0.mk hx; have HZ1 := Aside0.mk hz; have HI1 := Aside0.mk hi; have HK1 : Aside0 (KeepBut w w1 g none) := ⟨KeepBut.trans (keep_alloc (keep_alloc (KeepBut.refl _ _ _) _) _) hk (.inl rfl)⟩; clear hi hk hz hx))
      refine bodyPost_ret (results_cell_row rfl _ _ w.heap.size 34 #[.int .i64 0, .int .i64 0, .int .i64 0, .int .i64 0, .string (⟨#[]⟩ : ByteArray)] (0, 0) _ rfl (by (with_reducible repeat (first | refine blk_drewN ?_ _ | refine blk_alloc ?_ _)); with_reducible refine rc_set5 ?_; repeat (with_reducible first | exact HZ1.out | refine rc_fr ?_ (by first | omega | (have := GL.out; omega)) _ | refine blk_drewN ?_ _ | refine blk_alloc ?_ _)) hu rfl (by kernel_rfl)) rfl ?_; exact ⟨by first | rfl | (simp; done) | (simp [*]; done), by repeat (with_reducible first | exact HI1.out | refine IsRd.set2 (bad := true) ?_ _ | refine IsRd.far ?_ (by have := G0.out; omega) (by have := GL.out; omega) | apply IsRd.alloc), by repeat (with_reducible first | exact HK1.out | apply KeepBut.set_ | refine keep_fr ?_ (by omega) _)⟩
  · rw [if_neg e1] at h
    have e1b : (x1 == 1) = false := beq_eq_false_iff_ne.mpr e1
    have e1c : (x1 != 1) = true := bne_iff_ne.mpr e1
    clear e1
    replace h := Option.bind_eq_some_iff.1 h; obtain ⟨⟨x2, p2, b2⟩, hA, h⟩ := h
    simp only at h
    have HA2 := Aside0.mk hA
    clear hA
    by_cases e3 : x1 = 3
    · subst e3
      simp only [↓reduceIte] at h
      replace h := Option.bind_eq_some_iff.1 h; obtain ⟨⟨x3, p3, b3⟩, hA, h⟩ := h
      simp only at h
      have HA3 := Aside0.mk hA
      clear hA
      unfold rcFin at h
      cases b3
      · simp only [Bool.false_eq_true, ↓reduceIte] at h
        replace h := Option.bind_eq_some_iff.1 h; obtain ⟨o, hK, h⟩ := h
        have HOK := Aside0.mk hK
        clear hK
        cases o
        · simp only [Bool.false_eq_true, ↓reduceIte, Option.some.injEq, Prod.mk.injEq] at h
          obtain ⟨rfl, rfl, rfl, rfl, rfl, rfl, rfl⟩ := h
          go_enter Try.func88, Try.ntmps88
          go_wp2_with (first | (go_at_call 139; with_reducible refine (rd_num k g A c l at_ bad 3 p1 b1 w0 _ (by repeat (with_reducible first | exact HI.out | refine IsRd.far ?_ (by have := G0.out; omega) (by have := GL.out; omega) | apply IsRd.alloc)) HA1.out).mono ?_; rintro e w1 ⟨rfl, hi, hk⟩; have hz := rc_kp hk (b := w.heap.size) (o := .cells #[.int .i64 0, .int .i64 0, .int .i64 0, .int .i64 0, .string (⟨#[]⟩ : ByteArray)] 34 (0, 0)) (by exact blk_alloc (blk_new _ _) _) (by have := GL.out; omega); have hx := rc_kp hk (b := w.heap.size + 1) (o := .cells #[.int .i64 0, .int .i64 0, .int .i64 0, .int .i64 0, .string (⟨#[]⟩ : ByteArray)] 34 (0, 0)) (by exact rc_at (by simp)) (by have := GL.out; omega); have x1_0 := (blk_cell hx 0).trans rfl; have z1_0 := (blk_cell hz 0).trans rfl; have x1_1 := (blk_cell hx 1).trans rfl; have z1_1 := (blk_cell hz 1).trans rfl; have x1_2 := (blk_cell hx 2).trans rfl; have z1_2 := (blk_cell hz 2).trans rfl; have x1_3 := (blk_cell hx 3).trans rfl; have z1_3 := (blk_cell hz 3).trans rfl; have x1_4 := (blk_cell hx 4).trans rfl; have z1_4 := (blk_cell hz 4).trans rfl; have hf1 := fun (i_ : Nat) => blk_frozen hx i_; have hz1 := fun (i_ : Nat) => blk_frozen hz i_; have hq1 := (blk_cell hi.blk 2).trans rfl; have hg1 := blk_frozen hi.blk 2; have HX1 := Aside0.mk hx; have HZ1 := Aside0.mk hz; have HI1 := Aside0.mk hi; have HK1 : Aside0 (KeepBut w w1 g none) := ⟨KeepBut.trans (keep_alloc (keep_alloc (KeepBut.refl _ _ _) _) _) hk (.inl rfl)⟩; clear hi hk hz hx) | (go_at_call 139; with_reducible refine (rd_num k g A c l p1 b1 x2 p2 b2 w0 _ (by repeat (with_reducible first | exact HI1.out | refine IsRd.far ?_ (by have := G0.out; omega) (by have := GL.out; omega) | apply IsRd.alloc)) HA2.out).mono ?_; rintro e w2 ⟨rfl, hi, hk⟩; have hz := rc_kp hk (b := w.heap.size) (o := .cells #[.int .i64 0, .int .i64 0, .int .i64 0, .int .i64 0, .string (⟨#[]⟩ : ByteArray)] 34 (0, 0)) (by exact rc_fr HZ1.out (by omega) _) (by have := GL.out; omega); have hx := rc_kp hk (b := w.heap.size + 1) (o := .cells #[.int .i64 3, .int .i64 0, .int .i64 0, .int .i64 0, .string (⟨#[]⟩ : ByteArray)] 34 (0, 0)) (by exact (blk_set HX1.out 0 _).trans rfl) (by have := GL.out; omega); have x2_0 := (blk_cell hx 0).trans rfl; have z2_0 := (blk_cell hz 0).trans rfl; have x2_1 := (blk_cell hx 1).trans rfl; have z2_1 := (blk_cell hz 1).trans rfl; have x2_2 := (blk_cell hx 2).trans rfl; have z2_2 := (blk_cell hz 2).trans rfl; have x2_3 := (blk_cell hx 3).trans rfl; have z2_3 := (blk_cell hz 3).trans rfl; have x2_4 := (blk_cell hx 4).trans rfl; have z2_4 := (blk_cell hz 4).trans rfl; have hf2 := fun (i_ : Nat) => blk_frozen hx i_; have hz2 := fun (i_ : Nat) => blk_frozen hz i_; have hq2 := (blk_cell hi.blk 2).trans rfl; have hg2 := blk_frozen hi.blk 2; have HX2 := Aside0.mk hx; have HZ2 := Aside0.mk hz; have HI2 := Aside0.mk hi; have HK2 : Aside0 (KeepBut w w2 g none) := ⟨KeepBut.trans (keep_fr HK1.out (by omega) _) hk (.inl rfl)⟩; clear hi hk hz hx) | (go_at_call 139; with_reducible refine (rd_num k g A c l p2 b2 x3 p3 false w0 _ (by repeat (with_reducible first | exact HI2.out | refine IsRd.far ?_ (by have := G0.out; omega) (by have := GL.out; omega) | apply IsRd.alloc)) HA3.out).mono ?_; rintro e w3 ⟨rfl, hi, hk⟩; have hz := rc_kp hk (b := w.heap.size) (o := .cells #[.int .i64 0, .int .i64 0, .int .i64 0, .int .i64 0, .string (⟨#[]⟩ : ByteArray)] 34 (0, 0)) (by exact rc_fr HZ2.out (by omega) _) (by have := GL.out; omega); have hx := rc_kp hk (b := w.heap.size + 1) (o := .cells #[.int .i64 3, .int .i64 x2, .int .i64 0, .int .i64 0, .string (⟨#[]⟩ : ByteArray)] 34 (0, 0)) (by exact (blk_set HX2.out 1 _).trans rfl) (by have := GL.out; omega); have x3_0 := (blk_cell hx 0).trans rfl; have z3_0 := (blk_cell hz 0).trans rfl; have x3_1 := (blk_cell hx 1).trans rfl; have z3_1 := (blk_cell hz 1).trans rfl; have x3_2 := (blk_cell hx 2).trans rfl; have z3_2 := (blk_cell hz 2).trans rfl; have x3_3 := (blk_cell hx 3).trans rfl; have z3_3 := (blk_cell hz 3).trans rfl; have x3_4 := (blk_cell hx 4).trans rfl; have z3_4 := (blk_cell hz 4).trans rfl; have hf3 := fun (i_ : Nat) => blk_frozen hx i_; have hz3 := fun (i_ : Nat) => blk_frozen hz i_; have hq3 := (blk_cell hi.blk 2).trans rfl; have hg3 := blk_frozen hi.blk 2; have HX3 := Aside0.mk hx; have HZ3 := Aside0.mk hz; have HI3 := Aside0.mk hi; have HK3 : Aside0 (KeepBut w w3 g none) := ⟨KeepBut.trans (keep_fr HK2.out (by omega) _) hk (.inl rfl)⟩; clear hi hk hz hx) | (go_at_call 28; with_reducible refine (impl_CmdOk.calls k _ _ _ _ _ _ _ HOK.out).mono ?_; rintro e wo ⟨rfl, hb⟩; have hz := blk_below (g := w.heap.size) (o := .cells #[.int .i64 0, .int .i64 0, .int .i64 0, .int .i64 0, .string (⟨#[]⟩ : ByteArray)] 34 (0, 0)) (by exact rc_fr HZ3.out (by omega) _) hb; have hx := blk_below (g := w.heap.size + 1) (o := .cells #[.int .i64 3, .int .i64 x2, .int .i64 x3, .int .i64 0, .string (⟨#[]⟩ : ByteArray)] 34 (0, 0)) (by exact (blk_set HX3.out 2 _).trans rfl) hb; have hi : IsRd w0 wo g A c l p3 false := IsRd.step (by repeat (with_reducible first | exact HI3.out | refine IsRd.far ?_ (by have := G0.out; omega) (by have := GL.out; omega) | apply IsRd.alloc)) hb; have xo_0 := (blk_cell hx 0).trans rfl; have zo_0 := (blk_cell hz 0).trans rfl; have xo_1 := (blk_cell hx 1).trans rfl; have zo_1 := (blk_cell hz 1).trans rfl; have xo_2 := (blk_cell hx 2).trans rfl; have zo_2 := (blk_cell hz 2).trans rfl; have xo_3 := (blk_cell hx 3).trans rfl; have zo_3 := (blk_cell hz 3).trans rfl; have xo_4 := (blk_cell hx 4).trans rfl; have zo_4 := (blk_cell hz 4).trans rfl; have hfo := fun (i_ : Nat) => blk_frozen hx i_; have hzo := fun (i_ : Nat) => blk_frozen hz i_; have hqo := (blk_cell hi.blk 2).trans rfl; have hgo := blk_frozen hi.blk 2; have HZo := Aside0.mk hz; have HIo := Aside0.mk hi; have HKo : Aside0 (KeepBut w wo g none) := ⟨KeepBut.trans (keep_fr HK3.out (by omega) _) (KeepBut.of_below hb g none) (.inl rfl)⟩; clear hi hb hz hx))
          refine bodyPost_ret (results_cell_row rfl _ _ w.heap.size 34 #[.int .i64 0, .int .i64 0, .int .i64 0, .int .i64 0, .string (⟨#[]⟩ : ByteArray)] (0, 0) _ rfl (by (with_reducible repeat (first | refine blk_drewN ?_ _ | refine blk_alloc ?_ _)); with_reducible refine rc_set5 ?_; repeat (with_reducible first | exact HZo.out | refine rc_fr ?_ (by first | omega | (have := GL.out; omega)) _ | refine blk_drewN ?_ _ | refine blk_alloc ?_ _)) hu rfl (by kernel_rfl)) rfl ?_; exact ⟨by first | rfl | (simp; done) | (simp [*]; done), by repeat (with_reducible first | exact HIo.out | refine IsRd.set2 (bad := false) ?_ _ | refine IsRd.far ?_ (by have := G0.out; omega) (by have := GL.out; omega) | apply IsRd.alloc), by repeat (with_reducible first | exact HKo.out | apply KeepBut.set_ | refine keep_fr ?_ (by omega) _)⟩
        · simp only [Bool.false_eq_true, ↓reduceIte, Option.some.injEq, Prod.mk.injEq] at h
          obtain ⟨rfl, rfl, rfl, rfl, rfl, rfl, rfl⟩ := h
          go_enter Try.func88, Try.ntmps88
          go_wp2_with (first | (go_at_call 139; with_reducible refine (rd_num k g A c l at_ bad 3 p1 b1 w0 _ (by repeat (with_reducible first | exact HI.out | refine IsRd.far ?_ (by have := G0.out; omega) (by have := GL.out; omega) | apply IsRd.alloc)) HA1.out).mono ?_; rintro e w1 ⟨rfl, hi, hk⟩; have hz := rc_kp hk (b := w.heap.size) (o := .cells #[.int .i64 0, .int .i64 0, .int .i64 0, .int .i64 0, .string (⟨#[]⟩ : ByteArray)] 34 (0, 0)) (by exact blk_alloc (blk_new _ _) _) (by have := GL.out; omega); have hx := rc_kp hk (b := w.heap.size + 1) (o := .cells #[.int .i64 0, .int .i64 0, .int .i64 0, .int .i64 0, .string (⟨#[]⟩ : ByteArray)] 34 (0, 0)) (by exact rc_at (by simp)) (by have := GL.out; omega); have x1_0 := (blk_cell hx 0).trans rfl; have z1_0 := (blk_cell hz 0).trans rfl; have x1_1 := (blk_cell hx 1).trans rfl; have z1_1 := (blk_cell hz 1).trans rfl; have x1_2 := (blk_cell hx 2).trans rfl; have z1_2 := (blk_cell hz 2).trans rfl; have x1_3 := (blk_cell hx 3).trans rfl; have z1_3 := (blk_cell hz 3).trans rfl; have x1_4 := (blk_cell hx 4).trans rfl; have z1_4 := (blk_cell hz 4).trans rfl; have hf1 := fun (i_ : Nat) => blk_frozen hx i_; have hz1 := fun (i_ : Nat) => blk_frozen hz i_; have hq1 := (blk_cell hi.blk 2).trans rfl; have hg1 := blk_frozen hi.blk 2; have HX1 := Aside0.mk hx; have HZ1 := Aside0.mk hz; have HI1 := Aside0.mk hi; have HK1 : Aside0 (KeepBut w w1 g none) := ⟨KeepBut.trans (keep_alloc (keep_alloc (KeepBut.refl _ _ _) _) _) hk (.inl rfl)⟩; clear hi hk hz hx) | (go_at_call 139; with_reducible refine (rd_num k g A c l p1 b1 x2 p2 b2 w0 _ (by repeat (with_reducible first | exact HI1.out | refine IsRd.far ?_ (by have := G0.out; omega) (by have := GL.out; omega) | apply IsRd.alloc)) HA2.out).mono ?_; rintro e w2 ⟨rfl, hi, hk⟩; have hz := rc_kp hk (b := w.heap.size) (o := .cells #[.int .i64 0, .int .i64 0, .int .i64 0, .int .i64 0, .string (⟨#[]⟩ : ByteArray)] 34 (0, 0)) (by exact rc_fr HZ1.out (by omega) _) (by have := GL.out; omega); have hx := rc_kp hk (b := w.heap.size + 1) (o := .cells #[.int .i64 3, .int .i64 0, .int .i64 0, .int .i64 0, .string (⟨#[]⟩ : ByteArray)] 34 (0, 0)) (by exact (blk_set HX1.out 0 _).trans rfl) (by have := GL.out; omega); have x2_0 := (blk_cell hx 0).trans rfl; have z2_0 := (blk_cell hz 0).trans rfl; have x2_1 := (blk_cell hx 1).trans rfl; have z2_1 := (blk_cell hz 1).trans rfl; have x2_2 := (blk_cell hx 2).trans rfl; have z2_2 := (blk_cell hz 2).trans rfl; have x2_3 := (blk_cell hx 3).trans rfl; have z2_3 := (blk_cell hz 3).trans rfl; have x2_4 := (blk_cell hx 4).trans rfl; have z2_4 := (blk_cell hz 4).trans rfl; have hf2 := fun (i_ : Nat) => blk_frozen hx i_; have hz2 := fun (i_ : Nat) => blk_frozen hz i_; have hq2 := (blk_cell hi.blk 2).trans rfl; have hg2 := blk_frozen hi.blk 2; have HX2 := Aside0.mk hx; have HZ2 := Aside0.mk hz; have HI2 := Aside0.mk hi; have HK2 : Aside0 (KeepBut w w2 g none) := ⟨KeepBut.trans (keep_fr HK1.out (by omega) _) hk (.inl rfl)⟩; clear hi hk hz hx) | (go_at_call 139; with_reducible refine (rd_num k g A c l p2 b2 x3 p3 false w0 _ (by repeat (with_reducible first | exact HI2.out | refine IsRd.far ?_ (by have := G0.out; omega) (by have := GL.out; omega) | apply IsRd.alloc)) HA3.out).mono ?_; rintro e w3 ⟨rfl, hi, hk⟩; have hz := rc_kp hk (b := w.heap.size) (o := .cells #[.int .i64 0, .int .i64 0, .int .i64 0, .int .i64 0, .string (⟨#[]⟩ : ByteArray)] 34 (0, 0)) (by exact rc_fr HZ2.out (by omega) _) (by have := GL.out; omega); have hx := rc_kp hk (b := w.heap.size + 1) (o := .cells #[.int .i64 3, .int .i64 x2, .int .i64 0, .int .i64 0, .string (⟨#[]⟩ : ByteArray)] 34 (0, 0)) (by exact (blk_set HX2.out 1 _).trans rfl) (by have := GL.out; omega); have x3_0 := (blk_cell hx 0).trans rfl; have z3_0 := (blk_cell hz 0).trans rfl; have x3_1 := (blk_cell hx 1).trans rfl; have z3_1 := (blk_cell hz 1).trans rfl; have x3_2 := (blk_cell hx 2).trans rfl; have z3_2 := (blk_cell hz 2).trans rfl; have x3_3 := (blk_cell hx 3).trans rfl; have z3_3 := (blk_cell hz 3).trans rfl; have x3_4 := (blk_cell hx 4).trans rfl; have z3_4 := (blk_cell hz 4).trans rfl; have hf3 := fun (i_ : Nat) => blk_frozen hx i_; have hz3 := fun (i_ : Nat) => blk_frozen hz i_; have hq3 := (blk_cell hi.blk 2).trans rfl; have hg3 := blk_frozen hi.blk 2; have HX3 := Aside0.mk hx; have HZ3 := Aside0.mk hz; have HI3 := Aside0.mk hi; have HK3 : Aside0 (KeepBut w w3 g none) := ⟨KeepBut.trans (keep_fr HK2.out (by omega) _) hk (.inl rfl)⟩; clear hi hk hz hx) | (go_at_call 28; with_reducible refine (impl_CmdOk.calls k _ _ _ _ _ _ _ HOK.out).mono ?_; rintro e wo ⟨rfl, hb⟩; have hz := blk_below (g := w.heap.size) (o := .cells #[.int .i64 0, .int .i64 0, .int .i64 0, .int .i64 0, .string (⟨#[]⟩ : ByteArray)] 34 (0, 0)) (by exact rc_fr HZ3.out (by omega) _) hb; have hx := blk_below (g := w.heap.size + 1) (o := .cells #[.int .i64 3, .int .i64 x2, .int .i64 x3, .int .i64 0, .string (⟨#[]⟩ : ByteArray)] 34 (0, 0)) (by exact (blk_set HX3.out 2 _).trans rfl) hb; have hi : IsRd w0 wo g A c l p3 false := IsRd.step (by repeat (with_reducible first | exact HI3.out | refine IsRd.far ?_ (by have := G0.out; omega) (by have := GL.out; omega) | apply IsRd.alloc)) hb; have xo_0 := (blk_cell hx 0).trans rfl; have zo_0 := (blk_cell hz 0).trans rfl; have xo_1 := (blk_cell hx 1).trans rfl; have zo_1 := (blk_cell hz 1).trans rfl; have xo_2 := (blk_cell hx 2).trans rfl; have zo_2 := (blk_cell hz 2).trans rfl; have xo_3 := (blk_cell hx 3).trans rfl; have zo_3 := (blk_cell hz 3).trans rfl; have xo_4 := (blk_cell hx 4).trans rfl; have zo_4 := (blk_cell hz 4).trans rfl; have hfo := fun (i_ : Nat) => blk_frozen hx i_; have hzo := fun (i_ : Nat) => blk_frozen hz i_; have hqo := (blk_cell hi.blk 2).trans rfl; have hgo := blk_frozen hi.blk 2; have HZo := Aside0.mk hz; have HIo := Aside0.mk hi; have HKo : Aside0 (KeepBut w wo g none) := ⟨KeepBut.trans (keep_fr HK3.out (by omega) _) (KeepBut.of_below hb g none) (.inl rfl)⟩; clear hi hb hz hx))
          refine bodyPost_ret (results_cell_row rfl _ _ w.heap.size 34 #[.int .i64 3, .int .i64 x2, .int .i64 x3, .int .i64 0, .string (⟨#[]⟩ : ByteArray)] (0, 0) _ rfl (by (with_reducible repeat (first | refine blk_drewN ?_ _ | refine blk_alloc ?_ _)); with_reducible refine rc_set5 ?_; repeat (with_reducible first | exact HZo.out | refine rc_fr ?_ (by first | omega | (have := GL.out; omega)) _ | refine blk_drewN ?_ _ | refine blk_alloc ?_ _)) hu rfl (by kernel_rfl)) rfl ?_; exact ⟨by first | rfl | (simp; done) | (simp [*]; done), by repeat (with_reducible first | exact HIo.out | refine IsRd.set2 (bad := false) ?_ _ | refine IsRd.far ?_ (by have := G0.out; omega) (by have := GL.out; omega) | apply IsRd.alloc), by repeat (with_reducible first | exact HKo.out | apply KeepBut.set_ | refine keep_fr ?_ (by omega) _)⟩
      · simp only [Bool.false_eq_true, ↓reduceIte, Option.some.injEq, Prod.mk.injEq] at h
        obtain ⟨rfl, rfl, rfl, rfl, rfl, rfl, rfl⟩ := h
        go_enter Try.func88, Try.ntmps88
        go_wp2_with (first | (go_at_call 139; with_reducible refine (rd_num k g A c l at_ bad 3 p1 b1 w0 _ (by repeat (with_reducible first | exact HI.out | refine IsRd.far ?_ (by have := G0.out; omega) (by have := GL.out; omega) | apply IsRd.alloc)) HA1.out).mono ?_; rintro e w1 ⟨rfl, hi, hk⟩; have hz := rc_kp hk (b := w.heap.size) (o := .cells #[.int .i64 0, .int .i64 0, .int .i64 0, .int .i64 0, .string (⟨#[]⟩ : ByteArray)] 34 (0, 0)) (by exact blk_alloc (blk_new _ _) _) (by have := GL.out; omega); have hx := rc_kp hk (b := w.heap.size + 1) (o := .cells #[.int .i64 0, .int .i64 0, .int .i64 0, .int .i64 0, .string (⟨#[]⟩ : ByteArray)] 34 (0, 0)) (by exact rc_at (by simp)) (by have := GL.out; omega); have x1_0 := (blk_cell hx 0).trans rfl; have z1_0 := (blk_cell hz 0).trans rfl; have x1_1 := (blk_cell hx 1).trans rfl; have z1_1 := (blk_cell hz 1).trans rfl; have x1_2 := (blk_cell hx 2).trans rfl; have z1_2 := (blk_cell hz 2).trans rfl; have x1_3 := (blk_cell hx 3).trans rfl; have z1_3 := (blk_cell hz 3).trans rfl; have x1_4 := (blk_cell hx 4).trans rfl; have z1_4 := (blk_cell hz 4).trans rfl; have hf1 := fun (i_ : Nat) => blk_frozen hx i_; have hz1 := fun (i_ : Nat) => blk_frozen hz i_; have hq1 := (blk_cell hi.blk 2).trans rfl; have hg1 := blk_frozen hi.blk 2; have HX1 := Aside0.mk hx; have HZ1 := Aside0.mk hz; have HI1 := Aside0.mk hi; have HK1 : Aside0 (KeepBut w w1 g none) := ⟨KeepBut.trans (keep_alloc (keep_alloc (KeepBut.refl _ _ _) _) _) hk (.inl rfl)⟩; clear hi hk hz hx) | (go_at_call 139; with_reducible refine (rd_num k g A c l p1 b1 x2 p2 b2 w0 _ (by repeat (with_reducible first | exact HI1.out | refine IsRd.far ?_ (by have := G0.out; omega) (by have := GL.out; omega) | apply IsRd.alloc)) HA2.out).mono ?_; rintro e w2 ⟨rfl, hi, hk⟩; have hz := rc_kp hk (b := w.heap.size) (o := .cells #[.int .i64 0, .int .i64 0, .int .i64 0, .int .i64 0, .string (⟨#[]⟩ : ByteArray)] 34 (0, 0)) (by exact rc_fr HZ1.out (by omega) _) (by have := GL.out; omega); have hx := rc_kp hk (b := w.heap.size + 1) (o := .cells #[.int .i64 3, .int .i64 0, .int .i64 0, .int .i64 0, .string (⟨#[]⟩ : ByteArray)] 34 (0, 0)) (by exact (blk_set HX1.out 0 _).trans rfl) (by have := GL.out; omega); have x2_0 := (blk_cell hx 0).trans rfl; have z2_0 := (blk_cell hz 0).trans rfl; have x2_1 := (blk_cell hx 1).trans rfl; have z2_1 := (blk_cell hz 1).trans rfl; have x2_2 := (blk_cell hx 2).trans rfl; have z2_2 := (blk_cell hz 2).trans rfl; have x2_3 := (blk_cell hx 3).trans rfl; have z2_3 := (blk_cell hz 3).trans rfl; have x2_4 := (blk_cell hx 4).trans rfl; have z2_4 := (blk_cell hz 4).trans rfl; have hf2 := fun (i_ : Nat) => blk_frozen hx i_; have hz2 := fun (i_ : Nat) => blk_frozen hz i_; have hq2 := (blk_cell hi.blk 2).trans rfl; have hg2 := blk_frozen hi.blk 2; have HX2 := Aside0.mk hx; have HZ2 := Aside0.mk hz; have HI2 := Aside0.mk hi; have HK2 : Aside0 (KeepBut w w2 g none) := ⟨KeepBut.trans (keep_fr HK1.out (by omega) _) hk (.inl rfl)⟩; clear hi hk hz hx) | (go_at_call 139; with_reducible refine (rd_num k g A c l p2 b2 x3 p3 true w0 _ (by repeat (with_reducible first | exact HI2.out | refine IsRd.far ?_ (by have := G0.out; omega) (by have := GL.out; omega) | apply IsRd.alloc)) HA3.out).mono ?_; rintro e w3 ⟨rfl, hi, hk⟩; have hz := rc_kp hk (b := w.heap.size) (o := .cells #[.int .i64 0, .int .i64 0, .int .i64 0, .int .i64 0, .string (⟨#[]⟩ : ByteArray)] 34 (0, 0)) (by exact rc_fr HZ2.out (by omega) _) (by have := GL.out; omega); have hx := rc_kp hk (b := w.heap.size + 1) (o := .cells #[.int .i64 3, .int .i64 x2, .int .i64 0, .int .i64 0, .string (⟨#[]⟩ : ByteArray)] 34 (0, 0)) (by exact (blk_set HX2.out 1 _).trans rfl) (by have := GL.out; omega); have x3_0 := (blk_cell hx 0).trans rfl; have z3_0 := (blk_cell hz 0).trans rfl; have x3_1 := (blk_cell hx 1).trans rfl; have z3_1 := (blk_cell hz 1).trans rfl; have x3_2 := (blk_cell hx 2).trans rfl; have z3_2 := (blk_cell hz 2).trans rfl; have x3_3 := (blk_cell hx 3).trans rfl; have z3_3 := (blk_cell hz 3).trans rfl; have x3_4 := (blk_cell hx 4).trans rfl; have z3_4 := (blk_cell hz 4).trans rfl; have hf3 := fun (i_ : Nat) => blk_frozen hx i_; have hz3 := fun (i_ : Nat) => blk_frozen hz i_; have hq3 := (blk_cell hi.blk 2).trans rfl; have hg3 := blk_frozen hi.blk 2; have HX3 := Aside0.mk hx; have HZ3 := Aside0.mk hz; have HI3 := Aside0.mk hi; have HK3 : Aside0 (KeepBut w w3 g none) := ⟨KeepBut.trans (keep_fr HK2.out (by omega) _) hk (.inl rfl)⟩; clear hi hk hz hx))
        refine bodyPost_ret (results_cell_row rfl _ _ w.heap.size 34 #[.int .i64 0, .int .i64 0, .int .i64 0, .int .i64 0, .string (⟨#[]⟩ : ByteArray)] (0, 0) _ rfl (by (with_reducible repeat (first | refine blk_drewN ?_ _ | refine blk_alloc ?_ _)); with_reducible refine rc_set5 ?_; repeat (with_reducible first | exact HZ3.out | refine rc_fr ?_ (by first | omega | (have := GL.out; omega)) _ | refine blk_drewN ?_ _ | refine blk_alloc ?_ _)) hu rfl (by kernel_rfl)) rfl ?_; exact ⟨by first | rfl | (simp; done) | (simp [*]; done), by repeat (with_reducible first | exact HI3.out | refine IsRd.set2 (bad := true) ?_ _ | refine IsRd.far ?_ (by have := G0.out; omega) (by have := GL.out; omega) | apply IsRd.alloc), by repeat (with_reducible first | exact HK3.out | apply KeepBut.set_ | refine keep_fr ?_ (by omega) _)⟩
    · rw [if_neg e3] at h
      have e3b : (x1 == 3) = false := beq_eq_false_iff_ne.mpr e3
      clear e3
      by_cases e2 : x1 = 2
      · subst e2
        simp only [↓reduceIte] at h
        replace h := Option.bind_eq_some_iff.1 h; obtain ⟨⟨x3, p3, b3⟩, hA, h⟩ := h
        simp only at h
        have HA3 := Aside0.mk hA
        clear hA
        replace h := Option.bind_eq_some_iff.1 h; obtain ⟨⟨x4, p4, b4⟩, hA, h⟩ := h
        simp only at h
        have HA4 := Aside0.mk hA
        clear hA
        unfold rcFin at h
        cases b4
        · simp only [Bool.false_eq_true, ↓reduceIte] at h
          replace h := Option.bind_eq_some_iff.1 h; obtain ⟨o, hK, h⟩ := h
          have HOK := Aside0.mk hK
          clear hK
          cases o
          · simp only [Bool.false_eq_true, ↓reduceIte, Option.some.injEq, Prod.mk.injEq] at h
            obtain ⟨rfl, rfl, rfl, rfl, rfl, rfl, rfl⟩ := h
            go_enter Try.func88, Try.ntmps88
            go_wp2_with (first | (go_at_call 139; with_reducible refine (rd_num k g A c l at_ bad 2 p1 b1 w0 _ (by repeat (with_reducible first | exact HI.out | refine IsRd.far ?_ (by have := G0.out; omega) (by have := GL.out; omega) | apply IsRd.alloc)) HA1.out).mono ?_; rintro e w1 ⟨rfl, hi, hk⟩; have hz := rc_kp hk (b := w.heap.size) (o := .cells #[.int .i64 0, .int .i64 0, .int .i64 0, .int .i64 0, .string (⟨#[]⟩ : ByteArray)] 34 (0, 0)) (by exact blk_alloc (blk_new _ _) _) (by have := GL.out; omega); have hx := rc_kp hk (b := w.heap.size + 1) (o := .cells #[.int .i64 0, .int .i64 0, .int .i64 0, .int .i64 0, .string (⟨#[]⟩ : ByteArray)] 34 (0, 0)) (by exact rc_at (by simp)) (by have := GL.out; omega); have x1_0 := (blk_cell hx 0).trans rfl; have z1_0 := (blk_cell hz 0).trans rfl; have x1_1 := (blk_cell hx 1).trans rfl; have z1_1 := (blk_cell hz 1).trans rfl; have x1_2 := (blk_cell hx 2).trans rfl; have z1_2 := (blk_cell hz 2).trans rfl; have x1_3 := (blk_cell hx 3).trans rfl; have z1_3 := (blk_cell hz 3).trans rfl; have x1_4 := (blk_cell hx 4).trans rfl; have z1_4 := (blk_cell hz 4).trans rfl; have hf1 := fun (i_ : Nat) => blk_frozen hx i_; have hz1 := fun (i_ : Nat) => blk_frozen hz i_; have hq1 := (blk_cell hi.blk 2).trans rfl; have hg1 := blk_frozen hi.blk 2; have HX1 := Aside0.mk hx; have HZ1 := Aside0.mk hz; have HI1 := Aside0.mk hi; have HK1 : Aside0 (KeepBut w w1 g none) := ⟨KeepBut.trans (keep_alloc (keep_alloc (KeepBut.refl _ _ _) _) _) hk (.inl rfl)⟩; clear hi hk hz hx) | (go_at_call 139; with_reducible refine (rd_num k g A c l p1 b1 x2 p2 b2 w0 _ (by repeat (with_reducible first | exact HI1.out | refine IsRd.far ?_ (by have := G0.out; omega) (by have := GL.out; omega) | apply IsRd.alloc)) HA2.out).mono ?_; rintro e w2 ⟨rfl, hi, hk⟩; have hz := rc_kp hk (b := w.heap.size) (o := .cells #[.int .i64 0, .int .i64 0, .int .i64 0, .int .i64 0, .string (⟨#[]⟩ : ByteArray)] 34 (0, 0)) (by exact rc_fr HZ1.out (by omega) _) (by have := GL.out; omega); have hx := rc_kp hk (b := w.heap.size + 1) (o := .cells #[.int .i64 2, .int .i64 0, .int .i64 0, .int .i64 0, .string (⟨#[]⟩ : ByteArray)] 34 (0, 0)) (by exact (blk_set HX1.out 0 _).trans rfl) (by have := GL.out; omega); have x2_0 := (blk_cell hx 0).trans rfl; have z2_0 := (blk_cell hz 0).trans rfl; have x2_1 := (blk_cell hx 1).trans rfl; have z2_1 := (blk_cell hz 1).trans rfl; have x2_2 := (blk_cell hx 2).trans rfl; have z2_2 := (blk_cell hz 2).trans rfl; have x2_3 := (blk_cell hx 3).trans rfl; have z2_3 := (blk_cell hz 3).trans rfl; have x2_4 := (blk_cell hx 4).trans rfl; have z2_4 := (blk_cell hz 4).trans rfl; have hf2 := fun (i_ : Nat) => blk_frozen hx i_; have hz2 := fun (i_ : Nat) => blk_frozen hz i_; have hq2 := (blk_cell hi.blk 2).trans rfl; have hg2 := blk_frozen hi.blk 2; have HX2 := Aside0.mk hx; have HZ2 := Aside0.mk hz; have HI2 := Aside0.mk hi; have HK2 : Aside0 (KeepBut w w2 g none) := ⟨KeepBut.trans (keep_fr HK1.out (by omega) _) hk (.inl rfl)⟩; clear hi hk hz hx) | (go_at_call 139; with_reducible refine (rd_num k g A c l p2 b2 x3 p3 b3 w0 _ (by repeat (with_reducible first | exact HI2.out | refine IsRd.far ?_ (by have := G0.out; omega) (by have := GL.out; omega) | apply IsRd.alloc)) HA3.out).mono ?_; rintro e w3 ⟨rfl, hi, hk⟩; have hz := rc_kp hk (b := w.heap.size) (o := .cells #[.int .i64 0, .int .i64 0, .int .i64 0, .int .i64 0, .string (⟨#[]⟩ : ByteArray)] 34 (0, 0)) (by exact rc_fr HZ2.out (by omega) _) (by have := GL.out; omega); have hx := rc_kp hk (b := w.heap.size + 1) (o := .cells #[.int .i64 2, .int .i64 x2, .int .i64 0, .int .i64 0, .string (⟨#[]⟩ : ByteArray)] 34 (0, 0)) (by exact (blk_set HX2.out 1 _).trans rfl) (by have := GL.out; omega); have x3_0 := (blk_cell hx 0).trans rfl; have z3_0 := (blk_cell hz 0).trans rfl; have x3_1 := (blk_cell hx 1).trans rfl; have z3_1 := (blk_cell hz 1).trans rfl; have x3_2 := (blk_cell hx 2).trans rfl; have z3_2 := (blk_cell hz 2).trans rfl; have x3_3 := (blk_cell hx 3).trans rfl; have z3_3 := (blk_cell hz 3).trans rfl; have x3_4 := (blk_cell hx 4).trans rfl; have z3_4 := (blk_cell hz 4).trans rfl; have hf3 := fun (i_ : Nat) => blk_frozen hx i_; have hz3 := fun (i_ : Nat) => blk_frozen hz i_; have hq3 := (blk_cell hi.blk 2).trans rfl; have hg3 := blk_frozen hi.blk 2; have HX3 := Aside0.mk hx; have HZ3 := Aside0.mk hz; have HI3 := Aside0.mk hi; have HK3 : Aside0 (KeepBut w w3 g none) := ⟨KeepBut.trans (keep_fr HK2.out (by omega) _) hk (.inl rfl)⟩; clear hi hk hz hx) | (go_at_call 146; with_reducible refine (rd_bytes g A c l p3 b3 32 x4 p4 false w0 _ (by repeat (with_reducible first | exact HI3.out | refine IsRd.far ?_ (by have := G0.out; omega) (by have := GL.out; omega) | apply IsRd.alloc)) HA4.out).mono ?_; rintro e w4 ⟨rfl, hi, hk⟩; have hz := rc_kp hk (b := w.heap.size) (o := .cells #[.int .i64 0, .int .i64 0, .int .i64 0, .int .i64 0, .string (⟨#[]⟩ : ByteArray)] 34 (0, 0)) (by exact rc_fr HZ3.out (by omega) _) (by have := GL.out; omega); have hx := rc_kp hk (b := w.heap.size + 1) (o := .cells #[.int .i64 2, .int .i64 x2, .int .i64 0, .int .i64 x3, .string (⟨#[]⟩ : ByteArray)] 34 (0, 0)) (by exact (blk_set HX3.out 3 _).trans rfl) (by have := GL.out; omega); have x4_0 := (blk_cell hx 0).trans rfl; have z4_0 := (blk_cell hz 0).trans rfl; have x4_1 := (blk_cell hx 1).trans rfl; have z4_1 := (blk_cell hz 1).trans rfl; have x4_2 := (blk_cell hx 2).trans rfl; have z4_2 := (blk_cell hz 2).trans rfl; have x4_3 := (blk_cell hx 3).trans rfl; have z4_3 := (blk_cell hz 3).trans rfl; have x4_4 := (blk_cell hx 4).trans rfl; have z4_4 := (blk_cell hz 4).trans rfl; have hf4 := fun (i_ : Nat) => blk_frozen hx i_; have hz4 := fun (i_ : Nat) => blk_frozen hz i_; have hq4 := (blk_cell hi.blk 2).trans rfl; have hg4 := blk_frozen hi.blk 2; have HX4 := Aside0.mk hx; have HZ4 := Aside0.mk hz; have HI4 := Aside0.mk hi; have HK4 : Aside0 (KeepBut w w4 g none) := ⟨KeepBut.trans (keep_fr HK3.out (by omega) _) hk (.inl rfl)⟩; clear hi hk hz hx) | (go_at_call 28; with_reducible refine (impl_CmdOk.calls k _ _ _ _ _ _ _ HOK.out).mono ?_; rintro e wo ⟨rfl, hb⟩; have hz := blk_below (g := w.heap.size) (o := .cells #[.int .i64 0, .int .i64 0, .int .i64 0, .int .i64 0, .string (⟨#[]⟩ : ByteArray)] 34 (0, 0)) (by exact rc_fr HZ4.out (by omega) _) hb; have hx := blk_below (g := w.heap.size + 1) (o := .cells #[.int .i64 2, .int .i64 x2, .int .i64 0, .int .i64 x3, .string x4] 34 (0, 0)) (by exact (blk_set HX4.out 4 _).trans rfl) hb; have hi : IsRd w0 wo g A c l p4 false := IsRd.step (by repeat (with_reducible first | exact HI4.out | refine IsRd.far ?_ (by have := G0.out; omega) (by have := GL.out; omega) | apply IsRd.alloc)) hb; have xo_0 := (blk_cell hx 0).trans rfl; have zo_0 := (blk_cell hz 0).trans rfl; have xo_1 := (blk_cell hx 1).trans rfl; have zo_1 := (blk_cell hz 1).trans rfl; have xo_2 := (blk_cell hx 2).trans rfl; have zo_2 := (blk_cell hz 2).trans rfl; have xo_3 := (blk_cell hx 3).trans rfl; have zo_3 := (blk_cell hz 3).trans rfl; have xo_4 := (blk_cell hx 4).trans rfl; have zo_4 := (blk_cell hz 4).trans rfl; have hfo := fun (i_ : Nat) => blk_frozen hx i_; have hzo := fun (i_ : Nat) => blk_frozen hz i_; have hqo := (blk_cell hi.blk 2).trans rfl; have hgo := blk_frozen hi.blk 2; have HZo := Aside0.mk hz; have HIo := Aside0.mk hi; have HKo : Aside0 (KeepBut w wo g none) := ⟨KeepBut.trans (keep_fr HK4.out (by omega) _) (KeepBut.of_below hb g none) (.inl rfl)⟩; clear hi hb hz hx))
            refine bodyPost_ret (results_cell_row rfl _ _ w.heap.size 34 #[.int .i64 0, .int .i64 0, .int .i64 0, .int .i64 0, .string (⟨#[]⟩ : ByteArray)] (0, 0) _ rfl (by (with_reducible repeat (first | refine blk_drewN ?_ _ | refine blk_alloc ?_ _)); with_reducible refine rc_set5 ?_; repeat (with_reducible first | exact HZo.out | refine rc_fr ?_ (by first | omega | (have := GL.out; omega)) _ | refine blk_drewN ?_ _ | refine blk_alloc ?_ _)) hu rfl (by kernel_rfl)) rfl ?_; exact ⟨by first | rfl | (simp; done) | (simp [*]; done), by repeat (with_reducible first | exact HIo.out | refine IsRd.set2 (bad := false) ?_ _ | refine IsRd.far ?_ (by have := G0.out; omega) (by have := GL.out; omega) | apply IsRd.alloc), by repeat (with_reducible first | exact HKo.out | apply KeepBut.set_ | refine keep_fr ?_ (by omega) _)⟩
          · simp only [Bool.false_eq_true, ↓reduceIte, Option.some.injEq, Prod.mk.injEq] at h
            obtain ⟨rfl, rfl, rfl, rfl, rfl, rfl, rfl⟩ := h
            go_enter Try.func88, Try.ntmps88
            go_wp2_with (first | (go_at_call 139; with_reducible refine (rd_num k g A c l at_ bad 2 p1 b1 w0 _ (by repeat (with_reducible first | exact HI.out | refine IsRd.far ?_ (by have := G0.out; omega) (by have := GL.out; omega) | apply IsRd.alloc)) HA1.out).mono ?_; rintro e w1 ⟨rfl, hi, hk⟩; have hz := rc_kp hk (b := w.heap.size) (o := .cells #[.int .i64 0, .int .i64 0, .int .i64 0, .int .i64 0, .string (⟨#[]⟩ : ByteArray)] 34 (0, 0)) (by exact blk_alloc (blk_new _ _) _) (by have := GL.out; omega); have hx := rc_kp hk (b := w.heap.size + 1) (o := .cells #[.int .i64 0, .int .i64 0, .int .i64 0, .int .i64 0, .string (⟨#[]⟩ : ByteArray)] 34 (0, 0)) (by exact rc_at (by simp)) (by have := GL.out; omega); have x1_0 := (blk_cell hx 0).trans rfl; have z1_0 := (blk_cell hz 0).trans rfl; have x1_1 := (blk_cell hx 1).trans rfl; have z1_1 := (blk_cell hz 1).trans rfl; have x1_2 := (blk_cell hx 2).trans rfl; have z1_2 := (blk_cell hz 2).trans rfl; have x1_3 := (blk_cell hx 3).trans rfl; have z1_3 := (blk_cell hz 3).trans rfl; have x1_4 := (blk_cell hx 4).trans rfl; have z1_4 := (blk_cell hz 4).trans rfl; have hf1 := fun (i_ : Nat) => blk_frozen hx i_; have hz1 := fun (i_ : Nat) => blk_frozen hz i_; have hq1 := (blk_cell hi.blk 2).trans rfl; have hg1 := blk_frozen hi.blk 2; have HX1 := Aside0.mk hx; have HZ1 := Aside0.mk hz; have HI1 := Aside0.mk hi; have HK1 : Aside0 (KeepBut w w1 g none) := ⟨KeepBut.trans (keep_alloc (keep_alloc (KeepBut.refl _ _ _) _) _) hk (.inl rfl)⟩; clear hi hk hz hx) | (go_at_call 139; with_reducible refine (rd_num k g A c l p1 b1 x2 p2 b2 w0 _ (by repeat (with_reducible first | exact HI1.out | refine IsRd.far ?_ (by have := G0.out; omega) (by have := GL.out; omega) | apply IsRd.alloc)) HA2.out).mono ?_; rintro e w2 ⟨rfl, hi, hk⟩; have hz := rc_kp hk (b := w.heap.size) (o := .cells #[.int .i64 0, .int .i64 0, .int .i64 0, .int .i64 0, .string (⟨#[]⟩ : ByteArray)] 34 (0, 0)) (by exact rc_fr HZ1.out (by omega) _) (by have := GL.out; omega); have hx := rc_kp hk (b := w.heap.size + 1) (o := .cells #[.int .i64 2, .int .i64 0, .int .i64 0, .int .i64 0, .string (⟨#[]⟩ : ByteArray)] 34 (0, 0)) (by exact (blk_set HX1.out 0 _).trans rfl) (by have := GL.out; omega); have x2_0 := (blk_cell hx 0).trans rfl; have z2_0 := (blk_cell hz 0).trans rfl; have x2_1 := (blk_cell hx 1).trans rfl; have z2_1 := (blk_cell hz 1).trans rfl; have x2_2 := (blk_cell hx 2).trans rfl; have z2_2 := (blk_cell hz 2).trans rfl; have x2_3 := (blk_cell hx 3).trans rfl; have z2_3 := (blk_cell hz 3).trans rfl; have x2_4 := (blk_cell hx 4).trans rfl; have z2_4 := (blk_cell hz 4).trans rfl; have hf2 := fun (i_ : Nat) => blk_frozen hx i_; have hz2 := fun (i_ : Nat) => blk_frozen hz i_; have hq2 := (blk_cell hi.blk 2).trans rfl; have hg2 := blk_frozen hi.blk 2; have HX2 := Aside0.mk hx; have HZ2 := Aside0.mk hz; have HI2 := Aside0.mk hi; have HK2 : Aside0 (KeepBut w w2 g none) := ⟨KeepBut.trans (keep_fr HK1.out (by omega) _) hk (.inl rfl)⟩; clear hi hk hz hx) | (go_at_call 139; with_reducible refine (rd_num k g A c l p2 b2 x3 p3 b3 w0 _ (by repeat (with_reducible first | exact HI2.out | refine IsRd.far ?_ (by have := G0.out; omega) (by have := GL.out; omega) | apply IsRd.alloc)) HA3.out).mono ?_; rintro e w3 ⟨rfl, hi, hk⟩; have hz := rc_kp hk (b := w.heap.size) (o := .cells #[.int .i64 0, .int .i64 0, .int .i64 0, .int .i64 0, .string (⟨#[]⟩ : ByteArray)] 34 (0, 0)) (by exact rc_fr HZ2.out (by omega) _) (by have := GL.out; omega); have hx := rc_kp hk (b := w.heap.size + 1) (o := .cells #[.int .i64 2, .int .i64 x2, .int .i64 0, .int .i64 0, .string (⟨#[]⟩ : ByteArray)] 34 (0, 0)) (by exact (blk_set HX2.out 1 _).trans rfl) (by have := GL.out; omega); have x3_0 := (blk_cell hx 0).trans rfl; have z3_0 := (blk_cell hz 0).trans rfl; have x3_1 := (blk_cell hx 1).trans rfl; have z3_1 := (blk_cell hz 1).trans rfl; have x3_2 := (blk_cell hx 2).trans rfl; have z3_2 := (blk_cell hz 2).trans rfl; have x3_3 := (blk_cell hx 3).trans rfl; have z3_3 := (blk_cell hz 3).trans rfl; have x3_4 := (blk_cell hx 4).trans rfl; have z3_4 := (blk_cell hz 4).trans rfl; have hf3 := fun (i_ : Nat) => blk_frozen hx i_; have hz3 := fun (i_ : Nat) => blk_frozen hz i_; have hq3 := (blk_cell hi.blk 2).trans rfl; have hg3 := blk_frozen hi.blk 2; have HX3 := Aside0.mk hx; have HZ3 := Aside0.mk hz; have HI3 := Aside0.mk hi; have HK3 : Aside0 (KeepBut w w3 g none) := ⟨KeepBut.trans (keep_fr HK2.out (by omega) _) hk (.inl rfl)⟩; clear hi hk hz hx) | (go_at_call 146; with_reducible refine (rd_bytes g A c l p3 b3 32 x4 p4 false w0 _ (by repeat (with_reducible first | exact HI3.out | refine IsRd.far ?_ (by have := G0.out; omega) (by have := GL.out; omega) | apply IsRd.alloc)) HA4.out).mono ?_; rintro e w4 ⟨rfl, hi, hk⟩; have hz := rc_kp hk (b := w.heap.size) (o := .cells #[.int .i64 0, .int .i64 0, .int .i64 0, .int .i64 0, .string (⟨#[]⟩ : ByteArray)] 34 (0, 0)) (by exact rc_fr HZ3.out (by omega) _) (by have := GL.out; omega); have hx := rc_kp hk (b := w.heap.size + 1) (o := .cells #[.int .i64 2, .int .i64 x2, .int .i64 0, .int .i64 x3, .string (⟨#[]⟩ : ByteArray)] 34 (0, 0)) (by exact (blk_set HX3.out 3 _).trans rfl) (by have := GL.out; omega); have x4_0 := (blk_cell hx 0).trans rfl; have z4_0 := (blk_cell hz 0).trans rfl; have x4_1 := (blk_cell hx 1).trans rfl; have z4_1 := (blk_cell hz 1).trans rfl; have x4_2 := (blk_cell hx 2).trans rfl; have z4_2 := (blk_cell hz 2).trans rfl; have x4_3 := (blk_cell hx 3).trans rfl; have z4_3 := (blk_cell hz 3).trans rfl; have x4_4 := (blk_cell hx 4).trans rfl; have z4_4 := (blk_cell hz 4).trans rfl; have hf4 := fun (i_ : Nat) => blk_frozen hx i_; have hz4 := fun (i_ : Nat) => blk_frozen hz i_; have hq4 := (blk_cell hi.blk 2).trans rfl; have hg4 := blk_frozen hi.blk 2; have HX4 := Aside0.mk hx; have HZ4 := Aside0.mk hz; have HI4 := Aside0.mk hi; have HK4 : Aside0 (KeepBut w w4 g none) := ⟨KeepBut.trans (keep_fr HK3.out (by omega) _) hk (.inl rfl)⟩; clear hi hk hz hx) | (go_at_call 28; with_reducible refine (impl_CmdOk.calls k _ _ _ _ _ _ _ HOK.out).mono ?_; rintro e wo ⟨rfl, hb⟩; have hz := blk_below (g := w.heap.size) (o := .cells #[.int .i64 0, .int .i64 0, .int .i64 0, .int .i64 0, .string (⟨#[]⟩ : ByteArray)] 34 (0, 0)) (by exact rc_fr HZ4.out (by omega) _) hb; have hx := blk_below (g := w.heap.size + 1) (o := .cells #[.int .i64 2, .int .i64 x2, .int .i64 0, .int .i64 x3, .string x4] 34 (0, 0)) (by exact (blk_set HX4.out 4 _).trans rfl) hb; have hi : IsRd w0 wo g A c l p4 false := IsRd.step (by repeat (with_reducible first | exact HI4.out | refine IsRd.far ?_ (by have := G0.out; omega) (by have := GL.out; omega) | apply IsRd.alloc)) hb; have xo_0 := (blk_cell hx 0).trans rfl; have zo_0 := (blk_cell hz 0).trans rfl; have xo_1 := (blk_cell hx 1).trans rfl; have zo_1 := (blk_cell hz 1).trans rfl; have xo_2 := (blk_cell hx 2).trans rfl; have zo_2 := (blk_cell hz 2).trans rfl; have xo_3 := (blk_cell hx 3).trans rfl; have zo_3 := (blk_cell hz 3).trans rfl; have xo_4 := (blk_cell hx 4).trans rfl; have zo_4 := (blk_cell hz 4).trans rfl; have hfo := fun (i_ : Nat) => blk_frozen hx i_; have hzo := fun (i_ : Nat) => blk_frozen hz i_; have hqo := (blk_cell hi.blk 2).trans rfl; have hgo := blk_frozen hi.blk 2; have HZo := Aside0.mk hz; have HIo := Aside0.mk hi; have HKo : Aside0 (KeepBut w wo g none) := ⟨KeepBut.trans (keep_fr HK4.out (by omega) _) (KeepBut.of_below hb g none) (.inl rfl)⟩; clear hi hb hz hx))
            refine bodyPost_ret (results_cell_row rfl _ _ w.heap.size 34 #[.int .i64 2, .int .i64 x2, .int .i64 0, .int .i64 x3, .string x4] (0, 0) _ rfl (by (with_reducible repeat (first | refine blk_drewN ?_ _ | refine blk_alloc ?_ _)); with_reducible refine rc_set5 ?_; repeat (with_reducible first | exact HZo.out | refine rc_fr ?_ (by first | omega | (have := GL.out; omega)) _ | refine blk_drewN ?_ _ | refine blk_alloc ?_ _)) hu rfl (by kernel_rfl)) rfl ?_; exact ⟨by first | rfl | (simp; done) | (simp [*]; done), by repeat (with_reducible first | exact HIo.out | refine IsRd.set2 (bad := false) ?_ _ | refine IsRd.far ?_ (by have := G0.out; omega) (by have := GL.out; omega) | apply IsRd.alloc), by repeat (with_reducible first | exact HKo.out | apply KeepBut.set_ | refine keep_fr ?_ (by omega) _)⟩
        · simp only [Bool.false_eq_true, ↓reduceIte, Option.some.injEq, Prod.mk.injEq] at h
          obtain ⟨rfl, rfl, rfl, rfl, rfl, rfl, rfl⟩ := h
          go_enter Try.func88, Try.ntmps88
          go_wp2_with (first | (go_at_call 139; with_reducible refine (rd_num k g A c l at_ bad 2 p1 b1 w0 _ (by repeat (with_reducible first | exact HI.out | refine IsRd.far ?_ (by have := G0.out; omega) (by have := GL.out; omega) | apply IsRd.alloc)) HA1.out).mono ?_; rintro e w1 ⟨rfl, hi, hk⟩; have hz := rc_kp hk (b := w.heap.size) (o := .cells #[.int .i64 0, .int .i64 0, .int .i64 0, .int .i64 0, .string (⟨#[]⟩ : ByteArray)] 34 (0, 0)) (by exact blk_alloc (blk_new _ _) _) (by have := GL.out; omega); have hx := rc_kp hk (b := w.heap.size + 1) (o := .cells #[.int .i64 0, .int .i64 0, .int .i64 0, .int .i64 0, .string (⟨#[]⟩ : ByteArray)] 34 (0, 0)) (by exact rc_at (by simp)) (by have := GL.out; omega); have x1_0 := (blk_cell hx 0).trans rfl; have z1_0 := (blk_cell hz 0).trans rfl; have x1_1 := (blk_cell hx 1).trans rfl; have z1_1 := (blk_cell hz 1).trans rfl; have x1_2 := (blk_cell hx 2).trans rfl; have z1_2 := (blk_cell hz 2).trans rfl; have x1_3 := (blk_cell hx 3).trans rfl; have z1_3 := (blk_cell hz 3).trans rfl; have x1_4 := (blk_cell hx 4).trans rfl; have z1_4 := (blk_cell hz 4).trans rfl; have hf1 := fun (i_ : Nat) => blk_frozen hx i_; have hz1 := fun (i_ : Nat) => blk_frozen hz i_; have hq1 := (blk_cell hi.blk 2).trans rfl; have hg1 := blk_frozen hi.blk 2; have HX1 := Aside0.mk hx; have HZ1 := Aside0.mk hz; have HI1 := Aside0.mk hi; have HK1 : Aside0 (KeepBut w w1 g none) := ⟨KeepBut.trans (keep_alloc (keep_alloc (KeepBut.refl _ _ _) _) _) hk (.inl rfl)⟩; clear hi hk hz hx) | (go_at_call 139; with_reducible refine (rd_num k g A c l p1 b1 x2 p2 b2 w0 _ (by repeat (with_reducible first | exact HI1.out | refine IsRd.far ?_ (by have := G0.out; omega) (by have := GL.out; omega) | apply IsRd.alloc)) HA2.out).mono ?_; rintro e w2 ⟨rfl, hi, hk⟩; have hz := rc_kp hk (b := w.heap.size) (o := .cells #[.int .i64 0, .int .i64 0, .int .i64 0, .int .i64 0, .string (⟨#[]⟩ : ByteArray)] 34 (0, 0)) (by exact rc_fr HZ1.out (by omega) _) (by have := GL.out; omega); have hx := rc_kp hk (b := w.heap.size + 1) (o := .cells #[.int .i64 2, .int .i64 0, .int .i64 0, .int .i64 0, .string (⟨#[]⟩ : ByteArray)] 34 (0, 0)) (by exact (blk_set HX1.out 0 _).trans rfl) (by have := GL.out; omega); have x2_0 := (blk_cell hx 0).trans rfl; have z2_0 := (blk_cell hz 0).trans rfl; have x2_1 := (blk_cell hx 1).trans rfl; have z2_1 := (blk_cell hz 1).trans rfl; have x2_2 := (blk_cell hx 2).trans rfl; have z2_2 := (blk_cell hz 2).trans rfl; have x2_3 := (blk_cell hx 3).trans rfl; have z2_3 := (blk_cell hz 3).trans rfl; have x2_4 := (blk_cell hx 4).trans rfl; have z2_4 := (blk_cell hz 4).trans rfl; have hf2 := fun (i_ : Nat) => blk_frozen hx i_; have hz2 := fun (i_ : Nat) => blk_frozen hz i_; have hq2 := (blk_cell hi.blk 2).trans rfl; have hg2 := blk_frozen hi.blk 2; have HX2 := Aside0.mk hx; have HZ2 := Aside0.mk hz; have HI2 := Aside0.mk hi; have HK2 : Aside0 (KeepBut w w2 g none) := ⟨KeepBut.trans (keep_fr HK1.out (by omega) _) hk (.inl rfl)⟩; clear hi hk hz hx) | (go_at_call 139; with_reducible refine (rd_num k g A c l p2 b2 x3 p3 b3 w0 _ (by repeat (with_reducible first | exact HI2.out | refine IsRd.far ?_ (by have := G0.out; omega) (by have := GL.out; omega) | apply IsRd.alloc)) HA3.out).mono ?_; rintro e w3 ⟨rfl, hi, hk⟩; have hz := rc_kp hk (b := w.heap.size) (o := .cells #[.int .i64 0, .int .i64 0, .int .i64 0, .int .i64 0, .string (⟨#[]⟩ : ByteArray)] 34 (0, 0)) (by exact rc_fr HZ2.out (by omega) _) (by have := GL.out; omega); have hx := rc_kp hk (b := w.heap.size + 1) (o := .cells #[.int .i64 2, .int .i64 x2, .int .i64 0, .int .i64 0, .string (⟨#[]⟩ : ByteArray)] 34 (0, 0)) (by exact (blk_set HX2.out 1 _).trans rfl) (by have := GL.out; omega); have x3_0 := (blk_cell hx 0).trans rfl; have z3_0 := (blk_cell hz 0).trans rfl; have x3_1 := (blk_cell hx 1).trans rfl; have z3_1 := (blk_cell hz 1).trans rfl; have x3_2 := (blk_cell hx 2).trans rfl; have z3_2 := (blk_cell hz 2).trans rfl; have x3_3 := (blk_cell hx 3).trans rfl; have z3_3 := (blk_cell hz 3).trans rfl; have x3_4 := (blk_cell hx 4).trans rfl; have z3_4 := (blk_cell hz 4).trans rfl; have hf3 := fun (i_ : Nat) => blk_frozen hx i_; have hz3 := fun (i_ : Nat) => blk_frozen hz i_; have hq3 := (blk_cell hi.blk 2).trans rfl; have hg3 := blk_frozen hi.blk 2; have HX3 := Aside0.mk hx; have HZ3 := Aside0.mk hz; have HI3 := Aside0.mk hi; have HK3 : Aside0 (KeepBut w w3 g none) := ⟨KeepBut.trans (keep_fr HK2.out (by omega) _) hk (.inl rfl)⟩; clear hi hk hz hx) | (go_at_call 146; with_reducible refine (rd_bytes g A c l p3 b3 32 x4 p4 true w0 _ (by repeat (with_reducible first | exact HI3.out | refine IsRd.far ?_ (by have := G0.out; omega) (by have := GL.out; omega) | apply IsRd.alloc)) HA4.out).mono ?_; rintro e w4 ⟨rfl, hi, hk⟩; have hz := rc_kp hk (b := w.heap.size) (o := .cells #[.int .i64 0, .int .i64 0, .int .i64 0, .int .i64 0, .string (⟨#[]⟩ : ByteArray)] 34 (0, 0)) (by exact rc_fr HZ3.out (by omega) _) (by have := GL.out; omega); have hx := rc_kp hk (b := w.heap.size + 1) (o := .cells #[.int .i64 2, .int .i64 x2, .int .i64 0, .int .i64 x3, .string (⟨#[]⟩ : ByteArray)] 34 (0, 0)) (by exact (blk_set HX3.out 3 _).trans rfl) (by have := GL.out; omega); have x4_0 := (blk_cell hx 0).trans rfl; have z4_0 := (blk_cell hz 0).trans rfl; have x4_1 := (blk_cell hx 1).trans rfl; have z4_1 := (blk_cell hz 1).trans rfl; have x4_2 := (blk_cell hx 2).trans rfl; have z4_2 := (blk_cell hz 2).trans rfl; have x4_3 := (blk_cell hx 3).trans rfl; have z4_3 := (blk_cell hz 3).trans rfl; have x4_4 := (blk_cell hx 4).trans rfl; have z4_4 := (blk_cell hz 4).trans rfl; have hf4 := fun (i_ : Nat) => blk_frozen hx i_; have hz4 := fun (i_ : Nat) => blk_frozen hz i_; have hq4 := (blk_cell hi.blk 2).trans rfl; have hg4 := blk_frozen hi.blk 2; have HX4 := Aside0.mk hx; have HZ4 := Aside0.mk hz; have HI4 := Aside0.mk hi; have HK4 : Aside0 (KeepBut w w4 g none) := ⟨KeepBut.trans (keep_fr HK3.out (by omega) _) hk (.inl rfl)⟩; clear hi hk hz hx))
          refine bodyPost_ret (results_cell_row rfl _ _ w.heap.size 34 #[.int .i64 0, .int .i64 0, .int .i64 0, .int .i64 0, .string (⟨#[]⟩ : ByteArray)] (0, 0) _ rfl (by (with_reducible repeat (first | refine blk_drewN ?_ _ | refine blk_alloc ?_ _)); with_reducible refine rc_set5 ?_; repeat (with_reducible first | exact HZ4.out | refine rc_fr ?_ (by first | omega | (have := GL.out; omega)) _ | refine blk_drewN ?_ _ | refine blk_alloc ?_ _)) hu rfl (by kernel_rfl)) rfl ?_; exact ⟨by first | rfl | (simp; done) | (simp [*]; done), by repeat (with_reducible first | exact HI4.out | refine IsRd.set2 (bad := true) ?_ _ | refine IsRd.far ?_ (by have := G0.out; omega) (by have := GL.out; omega) | apply IsRd.alloc), by repeat (with_reducible first | exact HK4.out | apply KeepBut.set_ | refine keep_fr ?_ (by omega) _)⟩
      · rw [if_neg e2] at h
        have e2b : (x1 == 2) = false := beq_eq_false_iff_ne.mpr e2
        clear e2
        unfold rcFin at h
        cases b2
        · simp only [Bool.false_eq_true, ↓reduceIte] at h
          replace h := Option.bind_eq_some_iff.1 h; obtain ⟨o, hK, h⟩ := h
          have HOK := Aside0.mk hK
          clear hK
          cases o
          · simp only [Bool.false_eq_true, ↓reduceIte, Option.some.injEq, Prod.mk.injEq] at h
            obtain ⟨rfl, rfl, rfl, rfl, rfl, rfl, rfl⟩ := h
            go_enter Try.func88, Try.ntmps88
            go_wp2_with (first | (go_at_call 139; with_reducible refine (rd_num k g A c l at_ bad x1 p1 b1 w0 _ (by repeat (with_reducible first | exact HI.out | refine IsRd.far ?_ (by have := G0.out; omega) (by have := GL.out; omega) | apply IsRd.alloc)) HA1.out).mono ?_; rintro e w1 ⟨rfl, hi, hk⟩; have hz := rc_kp hk (b := w.heap.size) (o := .cells #[.int .i64 0, .int .i64 0, .int .i64 0, .int .i64 0, .string (⟨#[]⟩ : ByteArray)] 34 (0, 0)) (by exact blk_alloc (blk_new _ _) _) (by have := GL.out; omega); have hx := rc_kp hk (b := w.heap.size + 1) (o := .cells #[.int .i64 0, .int .i64 0, .int .i64 0, .int .i64 0, .string (⟨#[]⟩ : ByteArray)] 34 (0, 0)) (by exact rc_at (by simp)) (by have := GL.out; omega); have x1_0 := (blk_cell hx 0).trans rfl; have z1_0 := (blk_cell hz 0).trans rfl; have x1_1 := (blk_cell hx 1).trans rfl; have z1_1 := (blk_cell hz 1).trans rfl; have x1_2 := (blk_cell hx 2).trans rfl; have z1_2 := (blk_cell hz 2).trans rfl; have x1_3 := (blk_cell hx 3).trans rfl; have z1_3 := (blk_cell hz 3).trans rfl; have x1_4 := (blk_cell hx 4).trans rfl; have z1_4 := (blk_cell hz 4).trans rfl; have hf1 := fun (i_ : Nat) => blk_frozen hx i_; have hz1 := fun (i_ : Nat) => blk_frozen hz i_; have hq1 := (blk_cell hi.blk 2).trans rfl; have hg1 := blk_frozen hi.blk 2; have HX1 := Aside0.mk hx; have HZ1 := Aside0.mk hz; have HI1 := Aside0.mk hi; have HK1 : Aside0 (KeepBut w w1 g none) := ⟨KeepBut.trans (keep_alloc (keep_alloc (KeepBut.refl _ _ _) _) _) hk (.inl rfl)⟩; clear hi hk hz hx) | (go_at_call 139; with_reducible refine (rd_num k g A c l p1 b1 x2 p2 false w0 _ (by repeat (with_reducible first | exact HI1.out | refine IsRd.far ?_ (by have := G0.out; omega) (by have := GL.out; omega) | apply IsRd.alloc)) HA2.out).mono ?_; rintro e w2 ⟨rfl, hi, hk⟩; have hz := rc_kp hk (b := w.heap.size) (o := .cells #[.int .i64 0, .int .i64 0, .int .i64 0, .int .i64 0, .string (⟨#[]⟩ : ByteArray)] 34 (0, 0)) (by exact rc_fr HZ1.out (by omega) _) (by have := GL.out; omega); have hx := rc_kp hk (b := w.heap.size + 1) (o := .cells #[.int .i64 x1, .int .i64 0, .int .i64 0, .int .i64 0, .string (⟨#[]⟩ : ByteArray)] 34 (0, 0)) (by exact (blk_set HX1.out 0 _).trans rfl) (by have := GL.out; omega); have x2_0 := (blk_cell hx 0).trans rfl; have z2_0 := (blk_cell hz 0).trans rfl; have x2_1 := (blk_cell hx 1).trans rfl; have z2_1 := (blk_cell hz 1).trans rfl; have x2_2 := (blk_cell hx 2).trans rfl; have z2_2 := (blk_cell hz 2).trans rfl; have x2_3 := (blk_cell hx 3).trans rfl; have z2_3 := (blk_cell hz 3).trans rfl; have x2_4 := (blk_cell hx 4).trans rfl; have z2_4 := (blk_cell hz 4).trans rfl; have hf2 := fun (i_ : Nat) => blk_frozen hx i_; have hz2 := fun (i_ : Nat) => blk_frozen hz i_; have hq2 := (blk_cell hi.blk 2).trans rfl; have hg2 := blk_frozen hi.blk 2; have HX2 := Aside0.mk hx; have HZ2 := Aside0.mk hz; have HI2 := Aside0.mk hi; have HK2 : Aside0 (KeepBut w w2 g none) := ⟨KeepBut.trans (keep_fr HK1.out (by omega) _) hk (.inl rfl)⟩; clear hi hk hz hx) | (go_at_call 28; with_reducible refine (impl_CmdOk.calls k _ _ _ _ _ _ _ HOK.out).mono ?_; rintro e wo ⟨rfl, hb⟩; have hz := blk_below (g := w.heap.size) (o := .cells #[.int .i64 0, .int .i64 0, .int .i64 0, .int .i64 0, .string (⟨#[]⟩ : ByteArray)] 34 (0, 0)) (by exact rc_fr HZ2.out (by omega) _) hb; have hx := blk_below (g := w.heap.size + 1) (o := .cells #[.int .i64 x1, .int .i64 x2, .int .i64 0, .int .i64 0, .string (⟨#[]⟩ : ByteArray)] 34 (0, 0)) (by exact (blk_set HX2.out 1 _).trans rfl) hb; have hi : IsRd w0 wo g A c l p2 false := IsRd.step (by repeat (with_reducible first | exact HI2.out | refine IsRd.far ?_ (by have := G0.out; omega) (by have := GL.out; omega) | apply IsRd.alloc)) hb; have xo_0 := (blk_cell hx 0).trans rfl; have zo_0 := (blk_cell hz 0).trans rfl; have xo_1 := (blk_cell hx 1).trans rfl; have zo_1 := (blk_cell hz 1).trans rfl; have xo_2 := (blk_cell hx 2).trans rfl; have zo_2 := (blk_cell hz 2).trans rfl; have xo_3 := (blk_cell hx 3).trans rfl; have zo_3 := (blk_cell hz 3).trans rfl; have xo_4 := (blk_cell hx 4).trans rfl; have zo_4 := (blk_cell hz 4).trans rfl; have hfo := fun (i_ : Nat) => blk_frozen hx i_; have hzo := fun (i_ : Nat) => blk_frozen hz i_; have hqo := (blk_cell hi.blk 2).trans rfl; have hgo := blk_frozen hi.blk 2; have HZo := Aside0.mk hz; have HIo := Aside0.mk hi; have HKo : Aside0 (KeepBut w wo g none) := ⟨KeepBut.trans (keep_fr HK2.out (by omega) _) (KeepBut.of_below hb g none) (.inl rfl)⟩; clear hi hb hz hx))
            refine bodyPost_ret (results_cell_row rfl _ _ w.heap.size 34 #[.int .i64 0, .int .i64 0, .int .i64 0, .int .i64 0, .string (⟨#[]⟩ : ByteArray)] (0, 0) _ rfl (by (with_reducible repeat (first | refine blk_drewN ?_ _ | refine blk_alloc ?_ _)); with_reducible refine rc_set5 ?_; repeat (with_reducible first | exact HZo.out | refine rc_fr ?_ (by first | omega | (have := GL.out; omega)) _ | refine blk_drewN ?_ _ | refine blk_alloc ?_ _)) hu rfl (by kernel_rfl)) rfl ?_; exact ⟨by first | rfl | (simp; done) | (simp [*]; done), by repeat (with_reducible first | exact HIo.out | refine IsRd.set2 (bad := false) ?_ _ | refine IsRd.far ?_ (by have := G0.out; omega) (by have := GL.out; omega) | apply IsRd.alloc), by repeat (with_reducible first | exact HKo.out | apply KeepBut.set_ | refine keep_fr ?_ (by omega) _)⟩
          · simp only [Bool.false_eq_true, ↓reduceIte, Option.some.injEq, Prod.mk.injEq] at h
            obtain ⟨rfl, rfl, rfl, rfl, rfl, rfl, rfl⟩ := h
            go_enter Try.func88, Try.ntmps88
            go_wp2_with (first | (go_at_call 139; with_reducible refine (rd_num k g A c l at_ bad x1 p1 b1 w0 _ (by repeat (with_reducible first | exact HI.out | refine IsRd.far ?_ (by have := G0.out; omega) (by have := GL.out; omega) | apply IsRd.alloc)) HA1.out).mono ?_; rintro e w1 ⟨rfl, hi, hk⟩; have hz := rc_kp hk (b := w.heap.size) (o := .cells #[.int .i64 0, .int .i64 0, .int .i64 0, .int .i64 0, .string (⟨#[]⟩ : ByteArray)] 34 (0, 0)) (by exact blk_alloc (blk_new _ _) _) (by have := GL.out; omega); have hx := rc_kp hk (b := w.heap.size + 1) (o := .cells #[.int .i64 0, .int .i64 0, .int .i64 0, .int .i64 0, .string (⟨#[]⟩ : ByteArray)] 34 (0, 0)) (by exact rc_at (by simp)) (by have := GL.out; omega); have x1_0 := (blk_cell hx 0).trans rfl; have z1_0 := (blk_cell hz 0).trans rfl; have x1_1 := (blk_cell hx 1).trans rfl; have z1_1 := (blk_cell hz 1).trans rfl; have x1_2 := (blk_cell hx 2).trans rfl; have z1_2 := (blk_cell hz 2).trans rfl; have x1_3 := (blk_cell hx 3).trans rfl; have z1_3 := (blk_cell hz 3).trans rfl; have x1_4 := (blk_cell hx 4).trans rfl; have z1_4 := (blk_cell hz 4).trans rfl; have hf1 := fun (i_ : Nat) => blk_frozen hx i_; have hz1 := fun (i_ : Nat) => blk_frozen hz i_; have hq1 := (blk_cell hi.blk 2).trans rfl; have hg1 := blk_frozen hi.blk 2; have HX1 := Aside0.mk hx; have HZ1 := Aside0.mk hz; have HI1 := Aside0.mk hi; have HK1 : Aside0 (KeepBut w w1 g none) := ⟨KeepBut.trans (keep_alloc (keep_alloc (KeepBut.refl _ _ _) _) _) hk (.inl rfl)⟩; clear hi hk hz hx) | (go_at_call 139; with_reducible refine (rd_num k g A c l p1 b1 x2 p2 false w0 _ (by repeat (with_reducible first | exact HI1.out | refine IsRd.far ?_ (by have := G0.out; omega) (by have := GL.out; omega) | apply IsRd.alloc)) HA2.out).mono ?_; rintro e w2 ⟨rfl, hi, hk⟩; have hz := rc_kp hk (b := w.heap.size) (o := .cells #[.int .i64 0, .int .i64 0, .int .i64 0, .int .i64 0, .string (⟨#[]⟩ : ByteArray)] 34 (0, 0)) (by exact rc_fr HZ1.out (by omega) _) (by have := GL.out; omega); have hx := rc_kp hk (b := w.heap.size + 1) (o := .cells #[.int .i64 x1, .int .i64 0, .int .i64 0, .int .i64 0, .string (⟨#[]⟩ : ByteArray)] 34 (0, 0)) (by exact (blk_set HX1.out 0 _).trans rfl) (by have := GL.out; omega); have x2_0 := (blk_cell hx 0).trans rfl; have z2_0 := (blk_cell hz 0).trans rfl; have x2_1 := (blk_cell hx 1).trans rfl; have z2_1 := (blk_cell hz 1).trans rfl; have x2_2 := (blk_cell hx 2).trans rfl; have z2_2 := (blk_cell hz 2).trans rfl; have x2_3 := (blk_cell hx 3).trans rfl; have z2_3 := (blk_cell hz 3).trans rfl; have x2_4 := (blk_cell hx 4).trans rfl; have z2_4 := (blk_cell hz 4).trans rfl; have hf2 := fun (i_ : Nat) => blk_frozen hx i_; have hz2 := fun (i_ : Nat) => blk_frozen hz i_; have hq2 := (blk_cell hi.blk 2).trans rfl; have hg2 := blk_frozen hi.blk 2; have HX2 := Aside0.mk hx; have HZ2 := Aside0.mk hz; have HI2 := Aside0.mk hi; have HK2 : Aside0 (KeepBut w w2 g none) := ⟨KeepBut.trans (keep_fr HK1.out (by omega) _) hk (.inl rfl)⟩; clear hi hk hz hx) | (go_at_call 28; with_reducible refine (impl_CmdOk.calls k _ _ _ _ _ _ _ HOK.out).mono ?_; rintro e wo ⟨rfl, hb⟩; have hz := blk_below (g := w.heap.size) (o := .cells #[.int .i64 0, .int .i64 0, .int .i64 0, .int .i64 0, .string (⟨#[]⟩ : ByteArray)] 34 (0, 0)) (by exact rc_fr HZ2.out (by omega) _) hb; have hx := blk_below (g := w.heap.size + 1) (o := .cells #[.int .i64 x1, .int .i64 x2, .int .i64 0, .int .i64 0, .string (⟨#[]⟩ : ByteArray)] 34 (0, 0)) (by exact (blk_set HX2.out 1 _).trans rfl) hb; have hi : IsRd w0 wo g A c l p2 false := IsRd.step (by repeat (with_reducible first | exact HI2.out | refine IsRd.far ?_ (by have := G0.out; omega) (by have := GL.out; omega) | apply IsRd.alloc)) hb; have xo_0 := (blk_cell hx 0).trans rfl; have zo_0 := (blk_cell hz 0).trans rfl; have xo_1 := (blk_cell hx 1).trans rfl; have zo_1 := (blk_cell hz 1).trans rfl; have xo_2 := (blk_cell hx 2).trans rfl; have zo_2 := (blk_cell hz 2).trans rfl; have xo_3 := (blk_cell hx 3).trans rfl; have zo_3 := (blk_cell hz 3).trans rfl; have xo_4 := (blk_cell hx 4).trans rfl; have zo_4 := (blk_cell hz 4).trans rfl; have hfo := fun (i_ : Nat) => blk_frozen hx i_; have hzo := fun (i_ : Nat) => blk_frozen hz i_; have hqo := (blk_cell hi.blk 2).trans rfl; have hgo := blk_frozen hi.blk 2; have HZo := Aside0.mk hz; have HIo := Aside0.mk hi; have HKo : Aside0 (KeepBut w wo g none) := ⟨KeepBut.trans (keep_fr HK2.out (by omega) _) (KeepBut.of_below hb g none) (.inl rfl)⟩; clear hi hb hz hx))
            refine bodyPost_ret (results_cell_row rfl _ _ w.heap.size 34 #[.int .i64 x1, .int .i64 x2, .int .i64 0, .int .i64 0, .string (⟨#[]⟩ : ByteArray)] (0, 0) _ rfl (by (with_reducible repeat (first | refine blk_drewN ?_ _ | refine blk_alloc ?_ _)); with_reducible refine rc_set5 ?_; repeat (with_reducible first | exact HZo.out | refine rc_fr ?_ (by first | omega | (have := GL.out; omega)) _ | refine blk_drewN ?_ _ | refine blk_alloc ?_ _)) hu rfl (by kernel_rfl)) rfl ?_; exact ⟨by first | rfl | (simp; done) | (simp [*]; done), by repeat (with_reducible first | exact HIo.out | refine IsRd.set2 (bad := false) ?_ _ | refine IsRd.far ?_ (by have := G0.out; omega) (by have := GL.out; omega) | apply IsRd.alloc), by repeat (with_reducible first | exact HKo.out | apply KeepBut.set_ | refine keep_fr ?_ (by omega) _)⟩
        · simp only [Bool.false_eq_true, ↓reduceIte, Option.some.injEq, Prod.mk.injEq] at h
          obtain ⟨rfl, rfl, rfl, rfl, rfl, rfl, rfl⟩ := h
          go_enter Try.func88, Try.ntmps88
          go_wp2_with (first | (go_at_call 139; with_reducible refine (rd_num k g A c l at_ bad x1 p1 b1 w0 _ (by repeat (with_reducible first | exact HI.out | refine IsRd.far ?_ (by have := G0.out; omega) (by have := GL.out; omega) | apply IsRd.alloc)) HA1.out).mono ?_; rintro e w1 ⟨rfl, hi, hk⟩; have hz := rc_kp hk (b := w.heap.size) (o := .cells #[.int .i64 0, .int .i64 0, .int .i64 0, .int .i64 0, .string (⟨#[]⟩ : ByteArray)] 34 (0, 0)) (by exact blk_alloc (blk_new _ _) _) (by have := GL.out; omega); have hx := rc_kp hk (b := w.heap.size + 1) (o := .cells #[.int .i64 0, .int .i64 0, .int .i64 0, .int .i64 0, .string (⟨#[]⟩ : ByteArray)] 34 (0, 0)) (by exact rc_at (by simp)) (by have := GL.out; omega); have x1_0 := (blk_cell hx 0).trans rfl; have z1_0 := (blk_cell hz 0).trans rfl; have x1_1 := (blk_cell hx 1).trans rfl; have z1_1 := (blk_cell hz 1).trans rfl; have x1_2 := (blk_cell hx 2).trans rfl; have z1_2 := (blk_cell hz 2).trans rfl; have x1_3 := (blk_cell hx 3).trans rfl; have z1_3 := (blk_cell hz 3).trans rfl; have x1_4 := (blk_cell hx 4).trans rfl; have z1_4 := (blk_cell hz 4).trans rfl; have hf1 := fun (i_ : Nat) => blk_frozen hx i_; have hz1 := fun (i_ : Nat) => blk_frozen hz i_; have hq1 := (blk_cell hi.blk 2).trans rfl; have hg1 := blk_frozen hi.blk 2; have HX1 := Aside0.mk hx; have HZ1 := Aside0.mk hz; have HI1 := Aside0.mk hi; have HK1 : Aside0 (KeepBut w w1 g none) := ⟨KeepBut.trans (keep_alloc (keep_alloc (KeepBut.refl _ _ _) _) _) hk (.inl rfl)⟩; clear hi hk hz hx) | (go_at_call 139; with_reducible refine (rd_num k g A c l p1 b1 x2 p2 true w0 _ (by repeat (with_reducible first | exact HI1.out | refine IsRd.far ?_ (by have := G0.out; omega) (by have := GL.out; omega) | apply IsRd.alloc)) HA2.out).mono ?_; rintro e w2 ⟨rfl, hi, hk⟩; have hz := rc_kp hk (b := w.heap.size) (o := .cells #[.int .i64 0, .int .i64 0, .int .i64 0, .int .i64 0, .string (⟨#[]⟩ : ByteArray)] 34 (0, 0)) (by exact rc_fr HZ1.out (by omega) _) (by have := GL.out; omega); have hx := rc_kp hk (b := w.heap.size + 1) (o := .cells #[.int .i64 x1, .int .i64 0, .int .i64 0, .int .i64 0, .string (⟨#[]⟩ : ByteArray)] 34 (0, 0)) (by exact (blk_set HX1.out 0 _).trans rfl) (by have := GL.out; omega); have x2_0 := (blk_cell hx 0).trans rfl; have z2_0 := (blk_cell hz 0).trans rfl; have x2_1 := (blk_cell hx 1).trans rfl; have z2_1 := (blk_cell hz 1).trans rfl; have x2_2 := (blk_cell hx 2).trans rfl; have z2_2 := (blk_cell hz 2).trans rfl; have x2_3 := (blk_cell hx 3).trans rfl; have z2_3 := (blk_cell hz 3).trans rfl; have x2_4 := (blk_cell hx 4).trans rfl; have z2_4 := (blk_cell hz 4).trans rfl; have hf2 := fun (i_ : Nat) => blk_frozen hx i_; have hz2 := fun (i_ : Nat) => blk_frozen hz i_; have hq2 := (blk_cell hi.blk 2).trans rfl; have hg2 := blk_frozen hi.blk 2; have HX2 := Aside0.mk hx; have HZ2 := Aside0.mk hz; have HI2 := Aside0.mk hi; have HK2 : Aside0 (KeepBut w w2 g none) := ⟨KeepBut.trans (keep_fr HK1.out (by omega) _) hk (.inl rfl)⟩; clear hi hk hz hx))
          refine bodyPost_ret (results_cell_row rfl _ _ w.heap.size 34 #[.int .i64 0, .int .i64 0, .int .i64 0, .int .i64 0, .string (⟨#[]⟩ : ByteArray)] (0, 0) _ rfl (by (with_reducible repeat (first | refine blk_drewN ?_ _ | refine blk_alloc ?_ _)); with_reducible refine rc_set5 ?_; repeat (with_reducible first | exact HZ2.out | refine rc_fr ?_ (by first | omega | (have := GL.out; omega)) _ | refine blk_drewN ?_ _ | refine blk_alloc ?_ _)) hu rfl (by kernel_rfl)) rfl ?_; exact ⟨by first | rfl | (simp; done) | (simp [*]; done), by repeat (with_reducible first | exact HI2.out | refine IsRd.set2 (bad := true) ?_ _ | refine IsRd.far ?_ (by have := G0.out; omega) (by have := GL.out; omega) | apply IsRd.alloc), by repeat (with_reducible first | exact HK2.out | apply KeepBut.set_ | refine keep_fr ?_ (by omega) _)⟩


/-! ### impl_CmdRead: function 25 -/
def impl_CmdRead.f (k : Nat) (l0 : List Int) (a1 : Int) : Option (Int × Int × Int × Int × ByteArray × Int × Bool) :=
  (rdCmd k l0 a1 false).bind fun t => if t.2.2.2.2.2.2 = true then some (0, 0, 0, 0, (⟨#[]⟩ : ByteArray), 0, false) else some (t.1, t.2.1, t.2.2.1, t.2.2.2.1, t.2.2.2.2.1, t.2.2.2.2.2.1, true)
theorem impl_CmdRead.mono : ∀ a0 a1 k, LeO (impl_CmdRead.f k a0 a1) (impl_CmdRead.f (k + 1) a0 a1) := by
  intro a0 a1 k
  unfold impl_CmdRead.f
  repeat' first
  | exact rdCmd.mono _ _ _ _
  | exact LeO.refl _
  | refine LeO.bind ?_ (fun _ => ?_)
set_option maxHeartbeats 4000000 in
set_option maxRecDepth 100000 in
theorem impl_CmdRead.calls (k : Nat) (A0 : Option Addr) (c0 : Nat) (l0 : List Int) (a1 : Int) (r1 : Int) (r2 : Int) (r3 : Int) (r4 : Int) (r5 : ByteArray) (r6 : Int) (r7 : Bool) (w : World) (hr0 : Kd.C (Kd.int .u8) w A0 l0.length l0) (hc0 : l0.length ≤ c0) (h : impl_CmdRead.f k l0 a1 = some (r1, r2, r3, r4, r5, r6, r7)) :
    Calls Try.prog 25 #[.slice A0 l0.length c0, .int .i64 a1] w fun e w' => e = .returned (.tuple #[.agg #[.int .i64 r1, .int .i64 r2, .int .i64 r3, .int .i64 r4, .string r5], .int .i64 r6, .bool r7]) ∧ Below w.heap.size w w' := by
  have hu := Try.underlying34
  have HI : Aside0 (IsRd w ((w.alloc (.cells #[.int .i64 0, .int .i64 0, .int .i64 0, .int .i64 0, .string (⟨#[]⟩ : ByteArray)] 34 (0, 0))).alloc (.cells #[.slice A0 l0.length c0, .int .i64 a1, .bool false] 120 (0, 0))) (w.heap.size + 1) A0 c0 l0 a1 false) :=
    ⟨⟨rc_at (by simp), hc0, by omega, below_alloc (below_alloc (Below.refl _ _) _) _, hr0⟩⟩
  unfold impl_CmdRead.f at h
  replace h := Option.bind_eq_some_iff.1 h
  obtain ⟨⟨x1, x2, x3, x4, x5, p, b⟩, hA, h⟩ := h
  simp only at h
  have HA := Aside0.mk hA
  clear hA hr0 hc0
  cases b
  · simp only [Bool.false_eq_true, ↓reduceIte, Option.some.injEq, Prod.mk.injEq] at h
    obtain ⟨rfl, rfl, rfl, rfl, rfl, rfl, rfl⟩ := h
    go_enter Try.func25, Try.ntmps25
    go_wp2_with (go_at_call 88; with_reducible refine (rd_cmd k (w.heap.size + 1) A0 c0 l0 a1 false _ _ _ _ _ _ _ w _ HI.out HA.out).mono ?_; rintro e w1 ⟨rfl, hi, hk⟩; have hz := rc_kp hk (b := w.heap.size) (o := .cells #[.int .i64 0, .int .i64 0, .int .i64 0, .int .i64 0, .string (⟨#[]⟩ : ByteArray)] 34 (0, 0)) (by exact blk_alloc (blk_new _ _) _) (by omega); have z0 := (blk_cell hz 0).trans rfl; have z1 := (blk_cell hz 1).trans rfl; have z2 := (blk_cell hz 2).trans rfl; have z3 := (blk_cell hz 3).trans rfl; have z4 := (blk_cell hz 4).trans rfl; have fz := fun (i_ : Nat) => blk_frozen hz i_; have q1 := (blk_cell hi.blk 1).trans rfl; have q2 := (blk_cell hi.blk 2).trans rfl; have hm1 : ¬ w.heap.size + 1 = w1.heap.size := Nat.ne_of_lt hi.lt; have hm2 : ¬ w1.heap.size = w.heap.size + 1 := Nat.ne_of_gt hi.lt; have hm3 : ¬ w.heap.size = w1.heap.size := Nat.ne_of_lt (blk_lt hz); have hm4 : ¬ w1.heap.size = w.heap.size := Nat.ne_of_gt (blk_lt hz); have hm5 : w.heap.size < w1.heap.size := blk_lt hz; have hm6 : w.heap.size + 1 < w1.heap.size := hi.lt; have HZ := Aside0.mk hz; have HB := Aside0.mk hi.bel; clear hi hk hz)
    go_region
    all_goals go_wp2
    all_goals (refine bodyPost_ret (results_ctt rfl _ _ w.heap.size 34 #[.int .i64 x1, .int .i64 x2, .int .i64 x3, .int .i64 x4, .string x5] (0, 0) _ rfl (by (with_reducible repeat (first | refine blk_drewN ?_ _ | refine blk_drew ?_ | refine blk_alloc ?_ _)); with_reducible refine rc_set5 ?_; repeat (with_reducible first | exact HZ.out | refine blk_drewN ?_ _ | refine blk_drew ?_ | refine blk_alloc ?_ _)) hu rfl (by kernel_rfl)) rfl ?_)
    all_goals exact ⟨by first | rfl | (simp; done) | (simp [*]; done), by repeat (with_reducible first | exact HB.out | apply below_alloc | apply pw_below_drewN | apply below_drew | refine below_set ?_ (Nat.le_refl _))⟩
  · simp only [↓reduceIte, Option.some.injEq, Prod.mk.injEq] at h
    obtain ⟨rfl, rfl, rfl, rfl, rfl, rfl, rfl⟩ := h
    go_enter Try.func25, Try.ntmps25
    go_wp2_with (go_at_call 88; with_reducible refine (rd_cmd k (w.heap.size + 1) A0 c0 l0 a1 false _ _ _ _ _ _ _ w _ HI.out HA.out).mono ?_; rintro e w1 ⟨rfl, hi, hk⟩; have hz := rc_kp hk (b := w.heap.size) (o := .cells #[.int .i64 0, .int .i64 0, .int .i64 0, .int .i64 0, .string (⟨#[]⟩ : ByteArray)] 34 (0, 0)) (by exact blk_alloc (blk_new _ _) _) (by omega); have z0 := (blk_cell hz 0).trans rfl; have z1 := (blk_cell hz 1).trans rfl; have z2 := (blk_cell hz 2).trans rfl; have z3 := (blk_cell hz 3).trans rfl; have z4 := (blk_cell hz 4).trans rfl; have fz := fun (i_ : Nat) => blk_frozen hz i_; have q1 := (blk_cell hi.blk 1).trans rfl; have q2 := (blk_cell hi.blk 2).trans rfl; have hm1 : ¬ w.heap.size + 1 = w1.heap.size := Nat.ne_of_lt hi.lt; have hm2 : ¬ w1.heap.size = w.heap.size + 1 := Nat.ne_of_gt hi.lt; have hm3 : ¬ w.heap.size = w1.heap.size := Nat.ne_of_lt (blk_lt hz); have hm4 : ¬ w1.heap.size = w.heap.size := Nat.ne_of_gt (blk_lt hz); have hm5 : w.heap.size < w1.heap.size := blk_lt hz; have hm6 : w.heap.size + 1 < w1.heap.size := hi.lt; have HZ := Aside0.mk hz; have HB := Aside0.mk hi.bel; clear hi hk hz)
    refine bodyPost_ret (results_ctt rfl _ _ w.heap.size 34 #[.int .i64 0, .int .i64 0, .int .i64 0, .int .i64 0, .string (⟨#[]⟩ : ByteArray)] (0, 0) _ rfl (by (with_reducible repeat (first | refine blk_drewN ?_ _ | refine blk_alloc ?_ _)); with_reducible refine rc_set5 ?_; repeat (with_reducible first | exact HZ.out | refine blk_drewN ?_ _ | refine blk_alloc ?_ _)) hu rfl (by kernel_rfl)) rfl ?_
    exact ⟨by first | rfl | (simp; done), by repeat (with_reducible first | exact HB.out | apply below_alloc | apply pw_below_drewN | refine below_set ?_ (Nat.le_refl _))⟩


/-! ### spec_l1Once: function 77 -/
def spec_l1Once.f (s0_0 : List Int) (s0_1 : Int) (s0_2 : Int) (a1 : Int) : Option (Bool × Int × Int) := (spec_l1Below.f s0_0 s0_1 s0_2 a1).bind fun bt370 => (some ((bt370.1 == 0), bt370.2.1, bt370.2.2))
set_option maxHeartbeats 8000000 in
set_option maxRecDepth 100000 in
theorem spec_l1Once.calls (g : Nat) (s0_0 : List Int) (s0_1 : Int) (s0_2 : Int) (a1 : Int) (r1 : Bool) (r2 : Int) (r3 : Int) (w0 w : World) (hI : IsS156 w0 w g s0_0 s0_1 s0_2) (hB : Below w0.heap.size w0 w) (h : spec_l1Once.f s0_0 s0_1 s0_2 a1 = some (r1, r2, r3)) :
 Calls Try.prog 77 #[.pointer (some ⟨g, 0, none⟩), .int .i64 a1] w fun e w' => e = .returned (.bool r1) ∧ IsS156 w0 w' g s0_0 r2 r3 ∧ Below w0.heap.size w0 w' ∧ KeepBut w w' g none := by
 have HI0 := aM hI
 have HK := aM (KeepBut.refl w g none)
 have HL := aM hB.size
 clear hI
 have HW0 := aM hB.size
 have HB := aM hB
 clear hB
 have H : ((spec_l1Below.f s0_0 s0_1 s0_2 a1).bind fun bt370 => (some ((bt370.1 == 0), bt370.2.1, bt370.2.2))) = some (r1, r2, r3) := h
 clear h
 replace H := Option.bind_eq_some_iff.mp H
 obtain ⟨⟨t370, t371, t372⟩, A30, H⟩ := H
 replace H : (some ((t370 == 0), t371, t372)) = some (r1, r2, r3) := H
 have A3 := aM A30
 clear A30
 simp only [Option.some.injEq, Prod.mk.injEq] at H
 obtain ⟨rfl, rfl, rfl⟩ := H
 go_enter Try.func77, Try.ntmps77
 go_wp2_with (first | ((with_reducible refine gate_callee (f := 78) rfl ?_); refine goesL_ (some 7) rfl rfl Try.func78 (by kernel_rfl) rfl #[.pointer (some ⟨g, 0, none⟩), .int .i64 a1] rfl (by (try simp only [List.map_toArray, List.map_cons, List.map_nil]); first | done | rfl | (simp only [List.length_drop, List.length_take]; rfl)) ?_; (with_reducible refine (spec_l1Below.calls g s0_0 s0_1 s0_2 a1 t370 t371 t372 w0 _ ?side1 ?side2 A3.out).mono ?_); (case side1 => repeat (first | (with_reducible first | exact HI0.out | apply IsS156.alloc | apply IsS156.drewN | apply IsS156.drew | apply IsS156.set_1 | apply IsS156.set_2) | exact HI0.out)); (case side2 => repeat (first | (with_reducible first | exact HB.out | apply below_alloc | apply pw_below_drewN | apply below_drew1 | refine below_set ?_ (IsS156.ge HI0.out)) | exact HB.out)); rintro e w4 ⟨rfl, hi, hb, hk⟩; refine ⟨_, rfl, ?_⟩; replace HK := aM (KeepBut.trans (by repeat (first | (with_reducible first | exact HK.out | apply KeepBut.set_ | apply keep_drewN | apply keep_drew | apply keep_alloc) | exact HK.out)) hk (.inl rfl)); replace HB := aM (hb); replace HI0 := aM (hi); (try clear hb); (try clear hb2); (try clear hk); (try clear hi)))
 go_ret
 exact ⟨by first | rfl | (simp [errW_none, errW_some] <;> rfl) | (simp [*, errW_none, errW_some] <;> rfl), by repeat (first | (with_reducible first | exact HI0.out | apply IsS156.alloc | apply IsS156.drewN | apply IsS156.drew | apply IsS156.set_1 | apply IsS156.set_2) | exact HI0.out), by repeat (first | (with_reducible first | exact HB.out | apply below_alloc | apply pw_below_drewN | apply below_drew1 | refine below_set ?_ (IsS156.ge HI0.out)) | exact HB.out), by repeat (first | (with_reducible first | exact HK.out | apply KeepBut.set_ | apply keep_drewN | apply keep_drew | apply keep_alloc) | exact HK.out)⟩

/-! ### spec_PutNum: function 147 -/
def spec_PutNum.l0 : Nat → Int → List Int → Option (List Int)
 | 0, _, _ => none
 | k + 1, x0, x3 => if x0 > 127 then (if x3.length < 140737488355328 then (spec_PutNum.l0 k (wrap64 (Int.tdiv x0 128)) (x3 ++ [(wrap64 ((Int.tmod x0 128) + 128)) % 256])) else (none)) else (if x3.length < 140737488355328 then (some (x3 ++ [(x0) % 256])) else (none))
def spec_PutNum.f (k : Nat) (a0 : Int) : Option (List Int) := (some (([] : List Int) : List Int)).bind fun y373 => (if a0 < 0 then (some y373) else (spec_PutNum.l0 k a0 y373))
set_option maxRecDepth 100000 in
theorem spec_PutNum.mono_l : ∀ k, (∀ y0 y1, LeO (spec_PutNum.l0 k y0 y1) (spec_PutNum.l0 (k + 1) y0 y1))
 | 0 => fun _ _ r h => by simp [spec_PutNum.l0] at h
 | k + 1 => by
  have ih0 := spec_PutNum.mono_l k
  ·intro y0 y1
   unfold spec_PutNum.l0
   repeat' first
   | (with_reducible exact ih0 _ _)
   | (with_reducible exact LeO.refl _)
   | (with_reducible exact LeO.none _)
   | (with_reducible refine LeO.ite ?_ ?_)
   | (with_reducible refine LeO.bind ?_ (fun _ => ?_))
   | exact ih0 _ _
   | exact LeO.none _
   | refine LeO.ite ?_ ?_
   | refine LeO.bind ?_ (fun _ => ?_)
theorem spec_PutNum.mono : ∀ a0 k, LeO (spec_PutNum.f k a0) (spec_PutNum.f (k + 1) a0) := by
 intro a0 k
 have ih0 := spec_PutNum.mono_l k
 unfold spec_PutNum.f
 repeat' first
  | (with_reducible exact ih0 _ _)
  | (with_reducible exact LeO.refl _)
  | (with_reducible exact LeO.none _)
  | (with_reducible refine LeO.ite ?_ ?_)
  | (with_reducible refine LeO.bind ?_ (fun _ => ?_))
  | exact ih0 _ _
  | exact LeO.none _
  | refine LeO.ite ?_ ?_
  | refine LeO.bind ?_ (fun _ => ?_)
set_option maxHeartbeats 8000000 in
set_option maxRecDepth 100000 in
theorem spec_PutNum.calls (k : Nat) (a0 : Int) (r : List Int) (w : World) (h : spec_PutNum.f k a0 = some r) :
 Calls Try.prog 147 #[.int .i64 a0] w fun e w' => ∃ v0_ : Value, e = .returned (v0_) ∧ Kd.R (Kd.int .u8) 5 w' w.heap.size (fun _ => True) v0_ r ∧ Below w.heap.size w w' := by
 have HB := aM (Below.refl w.heap.size w)
 have H : ((some (([] : List Int) : List Int)).bind fun y373 => (if a0 < 0 then (some y373) else (spec_PutNum.l0 k a0 y373))) = some r := h
 clear h
 obtain ⟨y373, hy373⟩ : ∃ y_ : List Int, y_ = (([] : List Int)) := ⟨_, rfl⟩
 replace H : (if a0 < 0 then (some y373) else (spec_PutNum.l0 k a0 y373)) = some r := by first | (rw [hy373]; with_reducible exact H) | (have H2_ := (Option.bind_some _ _).symm.trans H; rw [hy373]; with_reducible exact H2_) | (have H2_ := (Option.bind_some _ _).symm.trans H; with_reducible exact H2_) | with_reducible exact H | (rw [hy373]; exact H) | exact H
 have Ny373 := aM hy373
 clear hy373
 by_cases c2 : a0 < 0
 ·rw [if_pos c2] at H
  have c2b0 : decide (a0 < 0) = true := decide_eq_true c2; clear c2
  obtain rfl := Option.some.inj H
  go_enter Try.func147, Try.ntmps147
  go_wp2_with (first | ((with_reducible refine gate_dst (N := 4) rfl ?_); refine Kd.R_lit (Kd.int .u8) _ 5 ?hg (N := 4) ?hd (xs := ([] : List Int)) (inner := []) (ok := fun _ => True) (okp := fun _ => True) ?hr ?hp (fun _ hk => hk) trivial (Below.refl _ _) (Nat.le_refl _) (by simp) ?_; (case hd => rfl); (case hg => rfl); (case hr => first | (go_simp; done) | (go_simp; rfl)); (case hp => exact (Reps.none _ _)); intro v374 w3 ho4 hb hg_ hnew_; clear hg_ hnew_; (first | rw [← Ny373.out] at ho4 | (simp only [Int.reduceToNat] at ho4; rw [← Ny373.out] at ho4)); have HO375 := aM (Kd.R_lower ho4 (below_size xbel)); replace HB := xbs hb; clear hb ho4))
  go_ret
  exact ⟨_, by first | rfl | (simp [errW_none, errW_some] <;> rfl) | (simp [*, errW_none, errW_some] <;> rfl), by (with_reducible repeat (first | apply Kd.R_alloc | apply Kd.R_drewN | apply Kd.R_drew)); exact HO375.out, xbel⟩
 ·rw [if_neg c2] at H
  have c2b0 : decide (a0 < 0) = false := decide_eq_false c2; clear c2
  have H' := aM H
  clear H
  go_enter Try.func147, Try.ntmps147
  go_wp2_with (first | ((with_reducible refine gate_dst (N := 4) rfl ?_); refine Kd.R_lit (Kd.int .u8) _ 5 ?hg (N := 4) ?hd (xs := ([] : List Int)) (inner := []) (ok := fun _ => True) (okp := fun _ => True) ?hr ?hp (fun _ hk => hk) trivial (Below.refl _ _) (Nat.le_refl _) (by simp) ?_; (case hd => rfl); (case hg => rfl); (case hr => first | (go_simp; done) | (go_simp; rfl)); (case hp => exact (Reps.none _ _)); intro v374 w5 ho6 hb hg_ hnew_; clear hg_ hnew_; (first | rw [← Ny373.out] at ho6 | (simp only [Int.reduceToNat] at ho6; rw [← Ny373.out] at ho6)); have HO375 := aM (Kd.R_lower ho6 (below_size xbel)); replace HB := xbs hb; clear hb ho6))
  go_loopg [0, 3] k (fun kq v0 v3 w' => ∃ (x0_1 : Int) (x3_1 : List Int), v0 = .int .i64 x0_1 ∧ Aside0 (spec_PutNum.l0 kq x0_1 x3_1 = some r) ∧ Aside0 (kq ≤ k) ∧ Aside0 (Kd.R (Kd.int .u8) 5 w' w.heap.size (fun _ => True) v3 x3_1) ∧ Aside0 (Below w.heap.size w w'))
  case atStart => exact ⟨(a0), (y373), (by first | rfl | (simp; done) | (simp [*]; done)), H', ⟨Nat.le_refl _⟩, ⟨by (with_reducible repeat (first | apply Kd.R_alloc | apply Kd.R_drewN | apply Kd.R_drew)); exact HO375.out⟩, ⟨xbel⟩⟩
  case round =>
   clear H'
   try clear c1
   try clear c2
   try clear c2b0
   try clear p2
   obtain ⟨x0_1, x3_1, rfl, HA, HK1, HO_3, HB⟩ := hrel
   cases gk with
   | zero => exact absurd HA.out (by simp [spec_PutNum.l0])
   | succ k1 =>
    have H := HA.out; clear HA
    simp only [spec_PutNum.l0] at H
    by_cases c7 : x0_1 > 127
    ·rw [if_pos c7] at H
     have c7b0 : decide (127 < x0_1) = true := decide_eq_true c7; clear c7
     by_cases c8 : x3_1.length < 140737488355328
     ·rw [if_pos c8] at H
      have LMc8 := aM c8; clear c8
      obtain ⟨y376, hy376⟩ : ∃ y_ : List Int, y_ = (x3_1 ++ [(wrap64 ((Int.tmod x0_1 128) + 128)) % 256]) := ⟨_, rfl⟩
      replace H : (spec_PutNum.l0 k1 (wrap64 (Int.tdiv x0_1 128)) y376) = some r := by first | (rw [hy376]; with_reducible exact H) | (have H2_ := (Option.bind_some _ _).symm.trans H; rw [hy376]; with_reducible exact H2_) | (have H2_ := (Option.bind_some _ _).symm.trans H; with_reducible exact H2_) | with_reducible exact H | (rw [hy376]; exact H) | exact H
      have Ny376 := aM hy376; clear hy376
      have H' := aM H
      clear H
      go_wp2_with (first | ((with_reducible refine gate_builtin (b := .append) (xs := #[.tmp 10, .tmp 15]) rfl ?_); at_builtin; refine Kd.R_append (Kd.int .u8) (w0 := w) w.heap.size rfl (.tmp 10) (.tmp 15) 22 5 (.int .u8 0) 1 rfl Try.underlying22 info5 rfl (by decide) (by omega) u3 x3_1 ((wrap64 ((Int.tmod x0_1 128) + 128)) % 256) [.int .u8 ((wrap64 ((Int.tmod x0_1 128) + 128)) % 256)] (fun _ => True) (fun _ => False) rfl rfl ?aP (fun _ hk => hk.elim) ?aF ?aO ?aB ?aS ?aL ?_; (case aP => exact rfl); (case aB => exact xbel); (case aF => exact (fun _ _ => trivial)); (case aO => exact (xr HO_3)); (case aS => exact (below_size xbel)); (case aL => have := LMc8.out; omega); intro v377 w9 ho hb hg hat; rw [← Ny376.out] at ho; replace HB := aM (hb); have HO378 := aM (ho); clear HO_3; clear ho hb hg hat))
      go_roundg k1
      case measure => have := HK1.out; omega
      case rel => exact ⟨(wrap64 (Int.tdiv x0_1 128)), (y376), (by first | rfl | (simp; done) | (simp [*]; done)), H', ⟨by have := HK1.out; omega⟩, ⟨by (with_reducible repeat (first | apply Kd.R_alloc | apply Kd.R_drewN | apply Kd.R_drew)); exact HO378.out⟩, ⟨xbel⟩⟩
     ·rw [if_neg c8] at H
      exact absurd H (by simp)
    ·rw [if_neg c7] at H
     have c7b0 : decide (127 < x0_1) = false := decide_eq_false c7; clear c7
     by_cases c10 : x3_1.length < 140737488355328
     ·rw [if_pos c10] at H
      have LMc10 := aM c10; clear c10
      obtain ⟨y379, hy379⟩ : ∃ y_ : List Int, y_ = (x3_1 ++ [(x0_1) % 256]) := ⟨_, rfl⟩
      replace H : (some y379) = some r := by first | (rw [hy379]; with_reducible exact H) | (have H2_ := (Option.bind_some _ _).symm.trans H; rw [hy379]; with_reducible exact H2_) | (have H2_ := (Option.bind_some _ _).symm.trans H; with_reducible exact H2_) | with_reducible exact H | (rw [hy379]; exact H) | exact H
      have Ny379 := aM hy379; clear hy379
      obtain rfl := Option.some.inj H
      go_wp2_with (first | ((with_reducible refine gate_builtin (b := .append) (xs := #[.tmp 19, .tmp 22]) rfl ?_); at_builtin; refine Kd.R_append (Kd.int .u8) (w0 := w) w.heap.size rfl (.tmp 19) (.tmp 22) 22 5 (.int .u8 0) 1 rfl Try.underlying22 info5 rfl (by decide) (by omega) u3 x3_1 ((x0_1) % 256) [.int .u8 ((x0_1) % 256)] (fun _ => True) (fun _ => False) rfl rfl ?aP (fun _ hk => hk.elim) ?aF ?aO ?aB ?aS ?aL ?_; (case aP => exact rfl); (case aB => exact xbel); (case aF => exact (fun _ _ => trivial)); (case aO => exact (xr HO_3)); (case aS => exact (below_size xbel)); (case aL => have := LMc10.out; omega); intro v380 w11 ho hb hg hat; rw [← Ny379.out] at ho; replace HB := aM (hb); have HO381 := aM (ho); clear HO_3; clear ho hb hg hat))
      go_ret
      exact ⟨_, by first | rfl | (simp [errW_none, errW_some] <;> rfl) | (simp [*, errW_none, errW_some] <;> rfl), by (with_reducible repeat (first | apply Kd.R_alloc | apply Kd.R_drewN | apply Kd.R_drew)); exact HO381.out, xbel⟩
     ·rw [if_neg c10] at H
      exact absurd H (by simp)

/-! ### spec_CmdPack: function 89 -/
def spec_CmdPack.j0 : Nat → List Int → Int → Int → Int → Int → ByteArray → Option (List Int × Bool)
 | 0, _, _, _, _, _, _ => none
 | k + 1, x4, x383000, x383001, x383002, x383003, x383004 => if x383000 = 3 then ((spec_PutNum.f k x383002).bind fun t396 => (if x4.length + t396.length < 140737488355328 then (some ((x4 ++ t396), true)) else (none))) else (if x383000 = 2 then ((spec_PutNum.f k x383003).bind fun t402 => (if x4.length + t402.length < 140737488355328 then ((some (x4 ++ t402 : List Int)).bind fun y405 => (if x383004.size ≤ 9223372036854775807 then ((some (bytesOf x383004 : List Int)).bind fun y408 => (if y405.length + y408.length < 140737488355328 then (some ((y405 ++ y408), true)) else (none))) else (none))) else (none))) else (some (x4, true)))
def spec_CmdPack.f (k : Nat) (a0_0 : Int) (a0_1 : Int) (a0_2 : Int) (a0_3 : Int) (a0_4 : ByteArray) : Option (List Int × Bool) := (spec_CmdOk.f k a0_0 a0_1 a0_2 a0_3 a0_4).bind fun t383 => (if t383 = true then ((spec_PutNum.f k a0_0).bind fun t387 => (if a0_0 = 1 then (spec_CmdPack.j0 k t387 a0_0 a0_1 a0_2 a0_3 a0_4) else ((spec_PutNum.f k a0_1).bind fun t390 => (if t387.length + t390.length < 140737488355328 then (spec_CmdPack.j0 k (t387 ++ t390) a0_0 a0_1 a0_2 a0_3 a0_4) else (none))))) else (some ((([] : List Int)), false)))
set_option maxRecDepth 100000 in
theorem spec_CmdPack.mono_l : ∀ k, (∀ y0 y1 y2 y3 y4 y5, LeO (spec_CmdPack.j0 k y0 y1 y2 y3 y4 y5) (spec_CmdPack.j0 (k + 1) y0 y1 y2 y3 y4 y5))
 | 0 => fun _ _ _ _ _ _ r h => by simp [spec_CmdPack.j0] at h
 | k + 1 => by
  have ih0 := spec_CmdPack.mono_l k
  ·intro y0 y1 y2 y3 y4 y5
   unfold spec_CmdPack.j0
   repeat' first
   | (with_reducible exact ih0 _ _ _ _ _ _)
   | (with_reducible exact spec_CmdOk.mono _ _ _ _ _ _)
   | (with_reducible exact spec_PutNum.mono _ _)
   | (with_reducible exact LeO.refl _)
   | (with_reducible exact LeO.none _)
   | (with_reducible refine LeO.ite ?_ ?_)
   | (with_reducible refine LeO.bind ?_ (fun _ => ?_))
   | exact ih0 _ _ _ _ _ _
   | exact spec_CmdOk.mono _ _ _ _ _ _
   | exact spec_PutNum.mono _ _
   | exact LeO.none _
   | refine LeO.ite ?_ ?_
   | refine LeO.bind ?_ (fun _ => ?_)
theorem spec_CmdPack.mono : ∀ a0 a1 a2 a3 a4 k, LeO (spec_CmdPack.f k a0 a1 a2 a3 a4) (spec_CmdPack.f (k + 1) a0 a1 a2 a3 a4) := by
 intro a0 a1 a2 a3 a4 k
 have ih0 := spec_CmdPack.mono_l k
 unfold spec_CmdPack.f
 repeat' first
  | (with_reducible exact ih0 _ _ _ _ _ _)
  | (with_reducible exact spec_CmdOk.mono _ _ _ _ _ _)
  | (with_reducible exact spec_PutNum.mono _ _)
  | (with_reducible exact LeO.refl _)
  | (with_reducible exact LeO.none _)
  | (with_reducible refine LeO.ite ?_ ?_)
  | (with_reducible refine LeO.bind ?_ (fun _ => ?_))
  | exact ih0 _ _ _ _ _ _
  | exact spec_CmdOk.mono _ _ _ _ _ _
  | exact spec_PutNum.mono _ _
  | exact LeO.none _
  | refine LeO.ite ?_ ?_
  | refine LeO.bind ?_ (fun _ => ?_)
set_option maxHeartbeats 8000000 in
set_option maxRecDepth 100000 in
theorem spec_CmdPack.calls (k : Nat) (a0_0 : Int) (a0_1 : Int) (a0_2 : Int) (a0_3 : Int) (a0_4 : ByteArray) (r1 : List Int) (r2 : Bool) (w : World) (h : spec_CmdPack.f k a0_0 a0_1 a0_2 a0_3 a0_4 = some (r1, r2)) :
 Calls Try.prog 89 #[.agg #[.int .i64 a0_0, .int .i64 a0_1, .int .i64 a0_2, .int .i64 a0_3, .string a0_4]] w fun e w' => ∃ v0_ : Value, e = .returned (.tuple #[v0_, .bool r2]) ∧ Kd.R (Kd.int .u8) 5 w' w.heap.size (fun _ => True) v0_ r1 ∧ Below w.heap.size w w' := by
 have hu34 := Try.underlying34
 have HB := aM (Below.refl w.heap.size w)
 have H : ((spec_CmdOk.f k a0_0 a0_1 a0_2 a0_3 a0_4).bind fun t383 => (if t383 = true then ((spec_PutNum.f k a0_0).bind fun t387 => (if a0_0 = 1 then (spec_CmdPack.j0 k t387 a0_0 a0_1 a0_2 a0_3 a0_4) else ((spec_PutNum.f k a0_1).bind fun t390 => (if t387.length + t390.length < 140737488355328 then (spec_CmdPack.j0 k (t387 ++ t390) a0_0 a0_1 a0_2 a0_3 a0_4) else (none))))) else (some ((([] : List Int)), false)))) = some (r1, r2) := h
 clear h
 replace H := Option.bind_eq_some_iff.mp H
 obtain ⟨t383, A20, H⟩ := H
 replace H : (if t383 = true then ((spec_PutNum.f k a0_0).bind fun t387 => (if a0_0 = 1 then (spec_CmdPack.j0 k t387 a0_0 a0_1 a0_2 a0_3 a0_4) else ((spec_PutNum.f k a0_1).bind fun t390 => (if t387.length + t390.length < 140737488355328 then (spec_CmdPack.j0 k (t387 ++ t390) a0_0 a0_1 a0_2 a0_3 a0_4) else (none))))) else (some ((([] : List Int)), false))) = some (r1, r2) := H
 have A2 := aM A20
 clear A20
 by_cases c3 : t383 = true
 ·subst c3
  have H1 : ((spec_PutNum.f k a0_0).bind fun t387 => (if a0_0 = 1 then (spec_CmdPack.j0 k t387 a0_0 a0_1 a0_2 a0_3 a0_4) else ((spec_PutNum.f k a0_1).bind fun t390 => (if t387.length + t390.length < 140737488355328 then (spec_CmdPack.j0 k (t387 ++ t390) a0_0 a0_1 a0_2 a0_3 a0_4) else (none))))) = some (r1, r2) := by rw [if_pos rfl] at H; exact H
  clear H; have H := H1; clear H1; replace H := Option.bind_eq_some_iff.mp H
  obtain ⟨t387, A40, H⟩ := H
  replace H : (if a0_0 = 1 then (spec_CmdPack.j0 k t387 a0_0 a0_1 a0_2 a0_3 a0_4) else ((spec_PutNum.f k a0_1).bind fun t390 => (if t387.length + t390.length < 140737488355328 then (spec_CmdPack.j0 k (t387 ++ t390) a0_0 a0_1 a0_2 a0_3 a0_4) else (none)))) = some (r1, r2) := H; have A4 := aM A40; clear A40; have HC5 := aM H; clear H
  go_enter Try.func89, Try.ntmps89
  go_upto_if 14 with (first | ((with_reducible refine gate_dst (N := 1) rfl ?_); refine box_event ?hg (N := 1) ?hd (cs := #[.int .i64 a0_0, .int .i64 a0_1, .int .i64 a0_2, .int .i64 a0_3, .string a0_4]) (t := 34) ?hr ?_; (case hd => rfl); (case hg => rfl); (case hr => first | (go_simp; done) | (go_simp; rfl)); intro gb382 hg w6 hbox hb; have BK382 := aM (hbox); have GW382 := aM (xge hg); have GE382 := aM (xge hg); replace HB := xbs hb; clear hb hbox hg; have hcz7_0 : w6.cell? ⟨gb382, 0, none⟩ = some (.int .i64 a0_0) := xc BK382 0 rfl; have hcz7_1 : w6.cell? ⟨gb382, 1, none⟩ = some (.int .i64 a0_1) := xc BK382 1 rfl; have hcz7_2 : w6.cell? ⟨gb382, 2, none⟩ = some (.int .i64 a0_2) := xc BK382 2 rfl; have hcz7_3 : w6.cell? ⟨gb382, 3, none⟩ = some (.int .i64 a0_3) := xc BK382 3 rfl; have hcz7_4 : w6.cell? ⟨gb382, 4, none⟩ = some (.string a0_4) := xc BK382 4 rfl; have hfz7_0 := blk_frozen BK382.out 0; have hfz7_1 := blk_frozen BK382.out 1; have hfz7_2 := blk_frozen BK382.out 2; have hfz7_3 := blk_frozen BK382.out 3; have hfz7_4 := blk_frozen BK382.out 4) | ((with_reducible refine gate_callee (f := 24) rfl ?_); refine goesL_ (some 6) rfl rfl Try.func24 (by kernel_rfl) rfl #[.agg #[.int .i64 a0_0, .int .i64 a0_1, .int .i64 a0_2, .int .i64 a0_3, .string a0_4]] rfl (by (try simp only [List.map_toArray, List.map_cons, List.map_nil]); first | done | rfl | (simp only [List.length_drop, List.length_take]; rfl)) ?_; (with_reducible refine (spec_CmdOk.calls k a0_0 a0_1 a0_2 a0_3 a0_4 true _ A2.out).mono ?_); rintro e w8 ⟨rfl, hb⟩; refine ⟨_, rfl, ?_⟩; replace BK382 := xbb BK382 hb; replace HB := xbs hb; (try clear hb); (try clear hb2); (try clear hk); (try clear hi); have hcz9_0 : w8.cell? ⟨gb382, 0, none⟩ = some (.int .i64 a0_0) := xc BK382 0 rfl; have hcz9_1 : w8.cell? ⟨gb382, 1, none⟩ = some (.int .i64 a0_1) := xc BK382 1 rfl; have hcz9_2 : w8.cell? ⟨gb382, 2, none⟩ = some (.int .i64 a0_2) := xc BK382 2 rfl; have hcz9_3 : w8.cell? ⟨gb382, 3, none⟩ = some (.int .i64 a0_3) := xc BK382 3 rfl; have hcz9_4 : w8.cell? ⟨gb382, 4, none⟩ = some (.string a0_4) := xc BK382 4 rfl; have hfz9_0 := blk_frozen BK382.out 0; have hfz9_1 := blk_frozen BK382.out 1; have hfz9_2 := blk_frozen BK382.out 2; have hfz9_3 := blk_frozen BK382.out 3; have hfz9_4 := blk_frozen BK382.out 4) | ((with_reducible refine gate_callee (f := 147) rfl ?_); refine goesL_ (some 11) rfl rfl Try.func147 (by kernel_rfl) rfl #[.int .i64 a0_0] rfl (by (try simp only [List.map_toArray, List.map_cons, List.map_nil]); first | done | rfl | (simp only [List.length_drop, List.length_take]; rfl)) ?_; (with_reducible refine (spec_PutNum.calls k a0_0 t387 _ A4.out).mono ?_); rintro e w10 ⟨v388, rfl, ho0, hb⟩; refine ⟨_, rfl, ?_⟩; have HO389 := aM (Kd.R_lower ho0 (below_size xbg)); replace BK382 := xbb BK382 hb; replace HB := xbs hb; (try clear hb); (try clear hb2); (try clear hk); (try clear hi); (try clear ho0); have hcz11_0 : w10.cell? ⟨gb382, 0, none⟩ = some (.int .i64 a0_0) := xc BK382 0 rfl; have hcz11_1 : w10.cell? ⟨gb382, 1, none⟩ = some (.int .i64 a0_1) := xc BK382 1 rfl; have hcz11_2 : w10.cell? ⟨gb382, 2, none⟩ = some (.int .i64 a0_2) := xc BK382 2 rfl; have hcz11_3 : w10.cell? ⟨gb382, 3, none⟩ = some (.int .i64 a0_3) := xc BK382 3 rfl; have hcz11_4 : w10.cell? ⟨gb382, 4, none⟩ = some (.string a0_4) := xc BK382 4 rfl; have hfz11_0 := blk_frozen BK382.out 0; have hfz11_1 := blk_frozen BK382.out 1; have hfz11_2 := blk_frozen BK382.out 2; have hfz11_3 := blk_frozen BK382.out 3; have hfz11_4 := blk_frozen BK382.out 4))
  (try simp only [Act.put, List.setIfInBounds_toArray, List.set_cons_zero, List.set_cons_succ])
  go_cut [4] (fun v4 wc => ∃ (kq : Nat) (x4_4 : List Int), Aside0 (spec_CmdPack.j0 kq x4_4 a0_0 a0_1 a0_2 a0_3 a0_4 = some (r1, r2)) ∧ Aside0 (kq ≤ k) ∧ Aside0 (Kd.R (Kd.int .u8) 5 wc w.heap.size (fun _ => True) v4 x4_4) ∧ Aside0 (wc.heap[gb382]? = some (.cells #[.int .i64 a0_0, .int .i64 a0_1, .int .i64 a0_2, .int .i64 a0_3, .string a0_4] 34 (0, 0))) ∧ Aside0 (Below w.heap.size w wc))
  case first =>
   have H := HC5.out; clear HC5
   by_cases c12 : a0_0 = 1
   ·rw [if_pos c12] at H
    have c12b0 : (a0_0 == 1) = true := beq_iff_eq.mpr c12; have c12b1 : (a0_0 != 1) = false := bne_eq_false_iff_eq.mpr c12; clear c12
    (first | rw [c12b0] | (simp only [i64_w, i32_w]; rw [c12b0]) | skip)
    have H' := aM H
    clear H
    go_wp2
    go_meet
    case rel => exact ⟨_, (t387), H', ⟨by first | omega | exact Nat.le_refl _⟩, ⟨by (with_reducible repeat (first | apply Kd.R_alloc | apply Kd.R_drewN | apply Kd.R_drew)); exact HO389.out⟩, ⟨xblk⟩, ⟨xbg⟩⟩
   ·rw [if_neg c12] at H
    have c12b0 : (a0_0 == 1) = false := beq_eq_false_iff_ne.mpr c12; have c12b1 : (a0_0 != 1) = true := bne_iff_ne.mpr c12
    (first | rw [c12b0] | (simp only [i64_w, i32_w]; rw [c12b0]) | skip)
    replace H := Option.bind_eq_some_iff.mp H
    obtain ⟨t390, A130, H⟩ := H
    replace H : (if t387.length + t390.length < 140737488355328 then (spec_CmdPack.j0 k (t387 ++ t390) a0_0 a0_1 a0_2 a0_3 a0_4) else (none)) = some (r1, r2) := H; have A13 := aM A130; clear A130
    by_cases c14 : t387.length + t390.length < 140737488355328
    ·rw [if_pos c14] at H
     have LMc14 := aM c14; clear c14
     obtain ⟨y393, hy393⟩ : ∃ y_ : List Int, y_ = (t387 ++ t390) := ⟨_, rfl⟩
     replace H : (spec_CmdPack.j0 k y393 a0_0 a0_1 a0_2 a0_3 a0_4) = some (r1, r2) := by first | (rw [hy393]; with_reducible exact H) | (have H2_ := (Option.bind_some _ _).symm.trans H; rw [hy393]; with_reducible exact H2_) | (have H2_ := (Option.bind_some _ _).symm.trans H; with_reducible exact H2_) | with_reducible exact H | (rw [hy393]; exact H) | exact H
     have Ny393 := aM hy393; clear hy393
     have H' := aM H
     clear H; have hcz15_0 : w10.cell? ⟨gb382, 0, none⟩ = some (.int .i64 a0_0) := xc BK382 0 rfl; have hcz15_1 : w10.cell? ⟨gb382, 1, none⟩ = some (.int .i64 a0_1) := xc BK382 1 rfl; have hcz15_2 : w10.cell? ⟨gb382, 2, none⟩ = some (.int .i64 a0_2) := xc BK382 2 rfl; have hcz15_3 : w10.cell? ⟨gb382, 3, none⟩ = some (.int .i64 a0_3) := xc BK382 3 rfl; have hcz15_4 : w10.cell? ⟨gb382, 4, none⟩ = some (.string a0_4) := xc BK382 4 rfl; have hfz15_0 := blk_frozen BK382.out 0; have hfz15_1 := blk_frozen BK382.out 1; have hfz15_2 := blk_frozen BK382.out 2; have hfz15_3 := blk_frozen BK382.out 3; have hfz15_4 := blk_frozen BK382.out 4
     go_wp2_with (first | ((with_reducible refine gate_callee (f := 147) rfl ?_); refine goesL_ (some 18) rfl rfl Try.func147 (by kernel_rfl) rfl #[.int .i64 a0_1] rfl (by (try simp only [List.map_toArray, List.map_cons, List.map_nil]); first | done | rfl | (simp only [List.length_drop, List.length_take]; rfl)) ?_; (with_reducible refine (spec_PutNum.calls k a0_1 t390 _ A13.out).mono ?_); rintro e w16 ⟨v391, rfl, ho0, hb⟩; refine ⟨_, rfl, ?_⟩; have HO392 := aM (Kd.R_lower (Kd.R_new' ho0 (Kd.R_lt (xr HO389))) (below_size xbg)); replace HO389 := aM (Kd.R_elder' (xr HO389) (Kd.R_base ho0) hb); replace BK382 := xbb BK382 hb; replace HB := xbs hb; (try clear hb); (try clear hb2); (try clear hk); (try clear hi); (try clear ho0); obtain ⟨Ao18, co18, eo18⟩ := Kd.R_slice HO392.out; subst eo18) | ((with_reducible refine gate_builtin (b := .append) (xs := #[.tmp 15, .tmp 18]) rfl ?_); at_builtin; refine Kd.R_append_rows (Kd.int .u8) (w0 := w) w.heap.size rfl (.tmp 15) (.tmp 18) 22 5 (.int .u8 0) 1 rfl Try.underlying22 info5 rfl (by decide) (by omega) v388 t387 t390 _ _ _ (fun k_ => some k_ ≠ (.slice Ao18 t390.length co18 : Value).ownBlock) (fun _ => False) rfl rfl ?aO ?aR (fun _ _ h => h) (fun _ h => h.elim) ?aF ?aB ?aS ?aL ?_; (case aR => repeat (first | exact (Kd.R_reads' HO392.out).2.2 | (with_reducible refine Kd.C_alloc ?_ _) | (with_reducible refine Kd.C_drewN ?_ _) | (with_reducible refine Kd.C_drew ?_))); (case aB => exact xbg); (case aF => exact (fun k_ hk => Kd.fresh' (Kd.R_lt (xr HO392)) k_ hk)); (case aO => exact (by (with_reducible repeat (first | apply Kd.R_alloc | apply Kd.R_drewN | apply Kd.R_drew)); exact Kd.R_mono HO389.out (fun _ hk => hk.2))); (case aS => exact (below_size xbg)); (case aL => have := LMc14.out; omega); intro v394 w17 ho hb hg hat; rw [← Ny393.out] at ho; replace BK382 := aM (blk_grown (g := gb382) (o := .cells #[.int .i64 a0_0, .int .i64 a0_1, .int .i64 a0_2, .int .i64 a0_3, .string a0_4] 34 (0, 0)) xblk hg (Kd.R_ne HO389.out BK382.out (by decide))); replace HO392 := aM (Kd.R_after (ok := (fun _ => True)) (xr HO392) hg hat); replace HB := aM (hb); have HO395 := aM (ho); clear HO389; clear ho hb hg hat))
     go_meet
     case rel => exact ⟨_, (y393), H', ⟨by first | omega | exact Nat.le_refl _⟩, ⟨by (with_reducible repeat (first | apply Kd.R_alloc | apply Kd.R_drewN | apply Kd.R_drew)); exact Kd.R_mono HO395.out (fun _ hk => trivial)⟩, ⟨xblk⟩, ⟨xbg⟩⟩
    ·rw [if_neg c14] at H
     exact absurd H (by simp)
  case rest =>
   clear HC5
   try clear c1
   try clear c2
   try clear p2
   try clear c3
   try clear c8
   try clear c12
   try clear c12b0
   try clear c12b1
   try clear c14
   try clear hcz11_0
   try clear hcz11_1
   try clear hcz11_2
   try clear hcz11_3
   try clear hcz11_4
   try clear hcz15_0
   try clear hcz15_1
   try clear hcz15_2
   try clear hcz15_3
   try clear hcz15_4
   try clear hcz7_0
   try clear hcz7_1
   try clear hcz7_2
   try clear hcz7_3
   try clear hcz7_4
   try clear hcz9_0
   try clear hcz9_1
   try clear hcz9_2
   try clear hcz9_3
   try clear hcz9_4
   try clear hfz11_0
   try clear hfz11_1
   try clear hfz11_2
   try clear hfz11_3
   try clear hfz11_4
   try clear hfz15_0
   try clear hfz15_1
   try clear hfz15_2
   try clear hfz15_3
   try clear hfz15_4
   try clear hfz7_0
   try clear hfz7_1
   try clear hfz7_2
   try clear hfz7_3
   try clear hfz7_4
   try clear hfz9_0
   try clear hfz9_1
   try clear hfz9_2
   try clear hfz9_3
   try clear hfz9_4
   obtain ⟨kq, x4_4, HA, HJ4, HO_4, BK382, HB⟩ := hcut
   cases kq with
   | zero => exact absurd HA.out (by simp [spec_CmdPack.j0])
   | succ kj4 =>
    have H := HA.out; clear HA
    simp only [spec_CmdPack.j0] at H
    by_cases c19 : a0_0 = 3
    ·rw [if_pos c19] at H
     have c19b0 : (a0_0 == 3) = true := beq_iff_eq.mpr c19; have c19b1 : (a0_0 != 3) = false := bne_eq_false_iff_eq.mpr c19; clear c19; replace H := Option.bind_eq_some_iff.mp H
     obtain ⟨t396, A200, H⟩ := H
     replace H : (if x4_4.length + t396.length < 140737488355328 then (some ((x4_4 ++ t396), true)) else (none)) = some (r1, r2) := H; have A20 := aM A200; clear A200
     by_cases c21 : x4_4.length + t396.length < 140737488355328
     ·rw [if_pos c21] at H
      have LMc21 := aM c21; clear c21
      obtain ⟨y399, hy399⟩ : ∃ y_ : List Int, y_ = (x4_4 ++ t396) := ⟨_, rfl⟩
      replace H : (some (y399, true)) = some (r1, r2) := by first | (rw [hy399]; with_reducible exact H) | (have H2_ := (Option.bind_some _ _).symm.trans H; rw [hy399]; with_reducible exact H2_) | (have H2_ := (Option.bind_some _ _).symm.trans H; with_reducible exact H2_) | with_reducible exact H | (rw [hy399]; exact H) | exact H
      have Ny399 := aM hy399; clear hy399
      simp only [Option.some.injEq, Prod.mk.injEq] at H
      obtain ⟨rfl, rfl⟩ := H
      have hcz22_0 : wc.cell? ⟨gb382, 0, none⟩ = some (.int .i64 a0_0) := xc BK382 0 rfl; have hcz22_1 : wc.cell? ⟨gb382, 1, none⟩ = some (.int .i64 a0_1) := xc BK382 1 rfl; have hcz22_2 : wc.cell? ⟨gb382, 2, none⟩ = some (.int .i64 a0_2) := xc BK382 2 rfl; have hcz22_3 : wc.cell? ⟨gb382, 3, none⟩ = some (.int .i64 a0_3) := xc BK382 3 rfl; have hcz22_4 : wc.cell? ⟨gb382, 4, none⟩ = some (.string a0_4) := xc BK382 4 rfl; have hfz22_0 := blk_frozen BK382.out 0; have hfz22_1 := blk_frozen BK382.out 1; have hfz22_2 := blk_frozen BK382.out 2; have hfz22_3 := blk_frozen BK382.out 3; have hfz22_4 := blk_frozen BK382.out 4
      go_wp2_with (first | ((with_reducible refine gate_callee (f := 147) rfl ?_); refine goesL_ (some 27) rfl rfl Try.func147 (by kernel_rfl) rfl #[.int .i64 a0_2] rfl (by (try simp only [List.map_toArray, List.map_cons, List.map_nil]); first | done | rfl | (simp only [List.length_drop, List.length_take]; rfl)) ?_; (with_reducible refine (spec_PutNum.calls kj4 a0_2 t396 _ A20.out).mono ?_); rintro e w23 ⟨v397, rfl, ho0, hb⟩; refine ⟨_, rfl, ?_⟩; have HO398 := aM (Kd.R_lower (Kd.R_new' ho0 (Kd.R_lt (xr HO_4))) (below_size xbg)); replace HO_4 := aM (Kd.R_elder' (xr HO_4) (Kd.R_base ho0) hb); replace BK382 := xbb BK382 hb; replace HB := xbs hb; (try clear hb); (try clear hb2); (try clear hk); (try clear hi); (try clear ho0); obtain ⟨Ao25, co25, eo25⟩ := Kd.R_slice HO398.out; subst eo25) | ((with_reducible refine gate_builtin (b := .append) (xs := #[.tmp 24, .tmp 27]) rfl ?_); at_builtin; refine Kd.R_append_rows (Kd.int .u8) (w0 := w) w.heap.size rfl (.tmp 24) (.tmp 27) 22 5 (.int .u8 0) 1 rfl Try.underlying22 info5 rfl (by decide) (by omega) u4 x4_4 t396 _ _ _ (fun k_ => some k_ ≠ (.slice Ao25 t396.length co25 : Value).ownBlock) (fun _ => False) rfl rfl ?aO ?aR (fun _ _ h => h) (fun _ h => h.elim) ?aF ?aB ?aS ?aL ?_; (case aR => repeat (first | exact (Kd.R_reads' HO398.out).2.2 | (with_reducible refine Kd.C_alloc ?_ _) | (with_reducible refine Kd.C_drewN ?_ _) | (with_reducible refine Kd.C_drew ?_))); (case aB => exact xbg); (case aF => exact (fun k_ hk => Kd.fresh' (Kd.R_lt (xr HO398)) k_ hk)); (case aO => exact (by (with_reducible repeat (first | apply Kd.R_alloc | apply Kd.R_drewN | apply Kd.R_drew)); exact Kd.R_mono HO_4.out (fun _ hk => hk.2))); (case aS => exact (below_size xbg)); (case aL => have := LMc21.out; omega); intro v400 w24 ho hb hg hat; rw [← Ny399.out] at ho; replace BK382 := aM (blk_grown (g := gb382) (o := .cells #[.int .i64 a0_0, .int .i64 a0_1, .int .i64 a0_2, .int .i64 a0_3, .string a0_4] 34 (0, 0)) xblk hg (Kd.R_ne HO_4.out BK382.out (by decide))); replace HO398 := aM (Kd.R_after (ok := (fun _ => True)) (xr HO398) hg hat); replace HB := aM (hb); have HO401 := aM (ho); clear HO_4; clear ho hb hg hat))
      go_ret2
      exact ⟨_, by first | rfl | (simp [errW_none, errW_some] <;> rfl) | (simp [*, errW_none, errW_some] <;> rfl), by (with_reducible repeat (first | apply Kd.R_alloc | apply Kd.R_drewN | apply Kd.R_drew)); exact Kd.R_mono HO401.out (fun _ hk => trivial), xbg⟩
     ·rw [if_neg c21] at H
      exact absurd H (by simp)
    ·rw [if_neg c19] at H
     have c19b0 : (a0_0 == 3) = false := beq_eq_false_iff_ne.mpr c19; have c19b1 : (a0_0 != 3) = true := bne_iff_ne.mpr c19
     by_cases c26 : a0_0 = 2
     ·rw [if_pos c26] at H
      have c26b0 : (a0_0 == 2) = true := beq_iff_eq.mpr c26; have c26b1 : (a0_0 != 2) = false := bne_eq_false_iff_eq.mpr c26; clear c26; replace H := Option.bind_eq_some_iff.mp H
      obtain ⟨t402, A270, H⟩ := H
      replace H : (if x4_4.length + t402.length < 140737488355328 then ((some (x4_4 ++ t402 : List Int)).bind fun y405 => (if a0_4.size ≤ 9223372036854775807 then ((some (bytesOf a0_4 : List Int)).bind fun y408 => (if y405.length + y408.length < 140737488355328 then (some ((y405 ++ y408), true)) else (none))) else (none))) else (none)) = some (r1, r2) := H; have A27 := aM A270; clear A270
      by_cases c28 : x4_4.length + t402.length < 140737488355328
      ·rw [if_pos c28] at H
       have LMc28 := aM c28; clear c28
       obtain ⟨y405, hy405⟩ : ∃ y_ : List Int, y_ = (x4_4 ++ t402) := ⟨_, rfl⟩
       replace H : (if a0_4.size ≤ 9223372036854775807 then ((some (bytesOf a0_4 : List Int)).bind fun y408 => (if y405.length + y408.length < 140737488355328 then (some ((y405 ++ y408), true)) else (none))) else (none)) = some (r1, r2) := by first | (rw [hy405]; with_reducible exact H) | (have H2_ := (Option.bind_some _ _).symm.trans H; rw [hy405]; with_reducible exact H2_) | (have H2_ := (Option.bind_some _ _).symm.trans H; with_reducible exact H2_) | with_reducible exact H | (rw [hy405]; exact H) | exact H
       have Ny405 := aM hy405; clear hy405
       by_cases c29 : a0_4.size ≤ 9223372036854775807
       ·rw [if_pos c29] at H
        have c29b0 := eq_true c29; have c29b1 : decide (a0_4.size ≤ 9223372036854775807) = true := decide_eq_true c29
        try have c29b2 : (9223372036854775807 < a0_4.size) = False := eq_false (Nat.not_lt.2 c29)
        clear c29
        obtain ⟨y408, hy408⟩ : ∃ y_ : List Int, y_ = (bytesOf a0_4) := ⟨_, rfl⟩
        replace H : (if y405.length + y408.length < 140737488355328 then (some ((y405 ++ y408), true)) else (none)) = some (r1, r2) := by first | (rw [hy408]; with_reducible exact H) | (have H2_ := (Option.bind_some _ _).symm.trans H; rw [hy408]; with_reducible exact H2_) | (have H2_ := (Option.bind_some _ _).symm.trans H; with_reducible exact H2_) | with_reducible exact H | (rw [hy408]; exact H) | exact H
        have Ny408 := aM hy408; clear hy408
        by_cases c30 : y405.length + y408.length < 140737488355328
        ·rw [if_pos c30] at H
         have LMc30 := aM c30; clear c30
         obtain ⟨y411, hy411⟩ : ∃ y_ : List Int, y_ = (y405 ++ y408) := ⟨_, rfl⟩
         replace H : (some (y411, true)) = some (r1, r2) := by first | (rw [hy411]; with_reducible exact H) | (have H2_ := (Option.bind_some _ _).symm.trans H; rw [hy411]; with_reducible exact H2_) | (have H2_ := (Option.bind_some _ _).symm.trans H; with_reducible exact H2_) | with_reducible exact H | (rw [hy411]; exact H) | exact H
         have Ny411 := aM hy411; clear hy411
         simp only [Option.some.injEq, Prod.mk.injEq] at H
         obtain ⟨rfl, rfl⟩ := H
         have hcz31_0 : wc.cell? ⟨gb382, 0, none⟩ = some (.int .i64 a0_0) := xc BK382 0 rfl; have hcz31_1 : wc.cell? ⟨gb382, 1, none⟩ = some (.int .i64 a0_1) := xc BK382 1 rfl; have hcz31_2 : wc.cell? ⟨gb382, 2, none⟩ = some (.int .i64 a0_2) := xc BK382 2 rfl; have hcz31_3 : wc.cell? ⟨gb382, 3, none⟩ = some (.int .i64 a0_3) := xc BK382 3 rfl; have hcz31_4 : wc.cell? ⟨gb382, 4, none⟩ = some (.string a0_4) := xc BK382 4 rfl; have hfz31_0 := blk_frozen BK382.out 0; have hfz31_1 := blk_frozen BK382.out 1; have hfz31_2 := blk_frozen BK382.out 2; have hfz31_3 := blk_frozen BK382.out 3; have hfz31_4 := blk_frozen BK382.out 4
         go_wp2_with (first | ((with_reducible refine gate_callee (f := 147) rfl ?_); refine goesL_ (some 34) rfl rfl Try.func147 (by kernel_rfl) rfl #[.int .i64 a0_3] rfl (by (try simp only [List.map_toArray, List.map_cons, List.map_nil]); first | done | rfl | (simp only [List.length_drop, List.length_take]; rfl)) ?_; (with_reducible refine (spec_PutNum.calls kj4 a0_3 t402 _ A27.out).mono ?_); rintro e w32 ⟨v403, rfl, ho0, hb⟩; refine ⟨_, rfl, ?_⟩; have HO404 := aM (Kd.R_lower (Kd.R_new' ho0 (Kd.R_lt (xr HO_4))) (below_size xbg)); replace HO_4 := aM (Kd.R_elder' (xr HO_4) (Kd.R_base ho0) hb); replace BK382 := xbb BK382 hb; replace HB := xbs hb; (try clear hb); (try clear hb2); (try clear hk); (try clear hi); (try clear ho0); obtain ⟨Ao34, co34, eo34⟩ := Kd.R_slice HO404.out; subst eo34) | ((with_reducible refine gate_builtin (b := .append) (xs := #[.tmp 31, .tmp 34]) rfl ?_); at_builtin; refine Kd.R_append_rows (Kd.int .u8) (w0 := w) w.heap.size rfl (.tmp 31) (.tmp 34) 22 5 (.int .u8 0) 1 rfl Try.underlying22 info5 rfl (by decide) (by omega) u4 x4_4 t402 _ _ _ (fun k_ => some k_ ≠ (.slice Ao34 t402.length co34 : Value).ownBlock) (fun _ => False) rfl rfl ?aO ?aR (fun _ _ h => h) (fun _ h => h.elim) ?aF ?aB ?aS ?aL ?_; (case aR => repeat (first | exact (Kd.R_reads' HO404.out).2.2 | (with_reducible refine Kd.C_alloc ?_ _) | (with_reducible refine Kd.C_drewN ?_ _) | (with_reducible refine Kd.C_drew ?_))); (case aB => exact xbg); (case aF => exact (fun k_ hk => Kd.fresh' (Kd.R_lt (xr HO404)) k_ hk)); (case aO => exact (by (with_reducible repeat (first | apply Kd.R_alloc | apply Kd.R_drewN | apply Kd.R_drew)); exact Kd.R_mono HO_4.out (fun _ hk => hk.2))); (case aS => exact (below_size xbg)); (case aL => have := LMc28.out; omega); intro v406 w33 ho hb hg hat; rw [← Ny405.out] at ho; replace BK382 := aM (blk_grown (g := gb382) (o := .cells #[.int .i64 a0_0, .int .i64 a0_1, .int .i64 a0_2, .int .i64 a0_3, .string a0_4] 34 (0, 0)) xblk hg (Kd.R_ne HO_4.out BK382.out (by decide))); replace HO404 := aM (Kd.R_after (ok := (fun _ => True)) (xr HO404) hg hat); replace HB := aM (hb); have HO407 := aM (ho); clear HO_4; clear ho hb hg hat; have hcz35_0 : w33.cell? ⟨gb382, 0, none⟩ = some (.int .i64 a0_0) := xc BK382 0 rfl; have hcz35_1 : w33.cell? ⟨gb382, 1, none⟩ = some (.int .i64 a0_1) := xc BK382 1 rfl; have hcz35_2 : w33.cell? ⟨gb382, 2, none⟩ = some (.int .i64 a0_2) := xc BK382 2 rfl; have hcz35_3 : w33.cell? ⟨gb382, 3, none⟩ = some (.int .i64 a0_3) := xc BK382 3 rfl; have hcz35_4 : w33.cell? ⟨gb382, 4, none⟩ = some (.string a0_4) := xc BK382 4 rfl; have hfz35_0 := blk_frozen BK382.out 0; have hfz35_1 := blk_frozen BK382.out 1; have hfz35_2 := blk_frozen BK382.out 2; have hfz35_3 := blk_frozen BK382.out 3; have hfz35_4 := blk_frozen BK382.out 4) | ((with_reducible refine gate_dst (N := 39) rfl ?_); refine Kd.V_conv _ 5 rfl (N := 39) rfl 9 22 _ rfl a0_4 rfl Try.underlying9 Try.underlying22 Try.underlying5 (of_decide_eq_true (by first | (with_reducible assumption) | assumption)) (ok := fun k_ => w33.heap.size ≤ k_) (Nat.le_refl _) (Below.refl _ _) (Nat.le_refl _) ?_; intro v409 w36 ho37 hb hg_ hnew_; clear hg_ hnew_; (first | rw [← Ny408.out] at ho37 | (simp only [Int.reduceToNat] at ho37; rw [← Ny408.out] at ho37)); have HO410 := aM (Kd.V_lower (Kd.V_mono (ok' := fun k_ => some k_ ≠ (.slice Ao34 t402.length co34 : Value).ownBlock ∧ some k_ ≠ (v406 : Value).ownBlock ∧ k_ ≠ gb382) ho37 (fun k_ hk_ => ⟨(Kd.fresh' (Kd.R_lt (xr HO404)) k_ hk_), (Kd.fresh' (Kd.R_lt (xr HO407)) k_ hk_), (Kd.freshB (g := gb382) (o := .cells #[.int .i64 a0_0, .int .i64 a0_1, .int .i64 a0_2, .int .i64 a0_3, .string a0_4] 34 (0, 0)) xblk k_ hk_)⟩)) (below_size xbg)); replace HO404 := aM (Kd.R_below (xr HO404) hb); replace HO407 := aM (Kd.R_below (xr HO407) hb); replace BK382 := xbb BK382 hb; replace HB := xbs hb; clear hb ho37; obtain ⟨Ao39, co39, eo39⟩ := Kd.V_slice HO410.out; subst eo39) | ((with_reducible refine gate_builtin (b := .append) (xs := #[.tmp 36, .tmp 39]) rfl ?_); at_builtin; refine Kd.R_append_rows (Kd.int .u8) (w0 := w) w.heap.size rfl (.tmp 36) (.tmp 39) 22 5 (.int .u8 0) 1 rfl Try.underlying22 info5 rfl (by decide) (by omega) v406 y405 y408 _ _ _ (fun k_ => some k_ ≠ (.slice Ao34 t402.length co34 : Value).ownBlock) (fun _ => False) rfl rfl ?aO ?aR (fun _ _ h => h) (fun _ h => h.elim) ?aF ?aB ?aS ?aL ?_; (case aR => repeat (first | exact (Kd.V_reads' HO410.out).2.2 | (with_reducible refine Kd.C_alloc ?_ _) | (with_reducible refine Kd.C_drewN ?_ _) | (with_reducible refine Kd.C_drew ?_))); (case aB => exact xbg); (case aF => exact (fun k_ hk => Kd.fresh' (Kd.R_lt (xr HO404)) k_ hk)); (case aO => exact (xr HO407)); (case aS => exact (below_size xbg)); (case aL => have := LMc30.out; omega); intro v412 w38 ho hb hg hat; rw [← Ny411.out] at ho; replace BK382 := aM (blk_grown (g := gb382) (o := .cells #[.int .i64 a0_0, .int .i64 a0_1, .int .i64 a0_2, .int .i64 a0_3, .string a0_4] 34 (0, 0)) xblk hg (Kd.R_ne HO407.out BK382.out (by decide))); replace HO404 := aM (Kd.R_after (ok := (fun _ => True)) (xr HO404) hg hat); replace HO410 := aM (Kd.V_afterv (ok := (fun k_ => some k_ ≠ (.slice Ao34 t402.length co34 : Value).ownBlock ∧ k_ ≠ gb382)) (by (with_reducible repeat (first | apply Kd.V_alloc | apply Kd.V_drewN | apply Kd.V_drew)); exact Kd.V_mono HO410.out (fun _ hk => ⟨⟨hk.1, hk.2.2⟩, hk.2.1⟩)) hg hat); replace HB := aM (hb); have HO413 := aM (ho); clear HO407; clear ho hb hg hat))
         go_ret2
         exact ⟨_, by first | rfl | (simp [errW_none, errW_some] <;> rfl) | (simp [*, errW_none, errW_some] <;> rfl), by (with_reducible repeat (first | apply Kd.R_alloc | apply Kd.R_drewN | apply Kd.R_drew)); exact Kd.R_mono HO413.out (fun _ hk => trivial), xbg⟩
        ·rw [if_neg c30] at H
         exact absurd H (by simp)
       ·rw [if_neg c29] at H
        exact absurd H (by simp)
      ·rw [if_neg c28] at H
       exact absurd H (by simp)
     ·rw [if_neg c26] at H
      have c26b0 : (a0_0 == 2) = false := beq_eq_false_iff_ne.mpr c26; have c26b1 : (a0_0 != 2) = true := bne_iff_ne.mpr c26
      simp only [Option.some.injEq, Prod.mk.injEq] at H
      obtain ⟨rfl, rfl⟩ := H
      have hcz40_0 : wc.cell? ⟨gb382, 0, none⟩ = some (.int .i64 a0_0) := xc BK382 0 rfl; have hcz40_1 : wc.cell? ⟨gb382, 1, none⟩ = some (.int .i64 a0_1) := xc BK382 1 rfl; have hcz40_2 : wc.cell? ⟨gb382, 2, none⟩ = some (.int .i64 a0_2) := xc BK382 2 rfl; have hcz40_3 : wc.cell? ⟨gb382, 3, none⟩ = some (.int .i64 a0_3) := xc BK382 3 rfl; have hcz40_4 : wc.cell? ⟨gb382, 4, none⟩ = some (.string a0_4) := xc BK382 4 rfl; have hfz40_0 := blk_frozen BK382.out 0; have hfz40_1 := blk_frozen BK382.out 1; have hfz40_2 := blk_frozen BK382.out 2; have hfz40_3 := blk_frozen BK382.out 3; have hfz40_4 := blk_frozen BK382.out 4
      go_wp2
      go_ret2
      exact ⟨_, by first | rfl | (simp [errW_none, errW_some] <;> rfl) | (simp [*, errW_none, errW_some] <;> rfl), by (with_reducible repeat (first | apply Kd.R_alloc | apply Kd.R_drewN | apply Kd.R_drew)); exact HO_4.out, xbg⟩
 ·replace c3 := Bool.eq_false_iff.mpr c3
  subst c3
  have H1 : (some ((([] : List Int)), false)) = some (r1, r2) := by rw [if_neg (show ¬ (false = true) by decide)] at H; exact H
  clear H; have H := H1; clear H1
  obtain ⟨y384, hy384⟩ : ∃ y_ : List Int, y_ = (([] : List Int)) := ⟨_, rfl⟩
  replace H : (some (y384, false)) = some (r1, r2) := by first | (rw [hy384]; with_reducible exact H) | (have H2_ := (Option.bind_some _ _).symm.trans H; rw [hy384]; with_reducible exact H2_) | (have H2_ := (Option.bind_some _ _).symm.trans H; with_reducible exact H2_) | with_reducible exact H | (rw [hy384]; exact H) | exact H
  have Ny384 := aM hy384; clear hy384
  simp only [Option.some.injEq, Prod.mk.injEq] at H
  obtain ⟨rfl, rfl⟩ := H
  go_enter Try.func89, Try.ntmps89
  go_wp2_with (first | ((with_reducible refine gate_dst (N := 1) rfl ?_); refine box_event ?hg (N := 1) ?hd (cs := #[.int .i64 a0_0, .int .i64 a0_1, .int .i64 a0_2, .int .i64 a0_3, .string a0_4]) (t := 34) ?hr ?_; (case hd => rfl); (case hg => rfl); (case hr => first | (go_simp; done) | (go_simp; rfl)); intro gb382 hg w41 hbox hb; have BK382 := aM (hbox); have GW382 := aM (xge hg); have GE382 := aM (xge hg); replace HB := xbs hb; clear hb hbox hg; have hcz42_0 : w41.cell? ⟨gb382, 0, none⟩ = some (.int .i64 a0_0) := xc BK382 0 rfl; have hcz42_1 : w41.cell? ⟨gb382, 1, none⟩ = some (.int .i64 a0_1) := xc BK382 1 rfl; have hcz42_2 : w41.cell? ⟨gb382, 2, none⟩ = some (.int .i64 a0_2) := xc BK382 2 rfl; have hcz42_3 : w41.cell? ⟨gb382, 3, none⟩ = some (.int .i64 a0_3) := xc BK382 3 rfl; have hcz42_4 : w41.cell? ⟨gb382, 4, none⟩ = some (.string a0_4) := xc BK382 4 rfl; have hfz42_0 := blk_frozen BK382.out 0; have hfz42_1 := blk_frozen BK382.out 1; have hfz42_2 := blk_frozen BK382.out 2; have hfz42_3 := blk_frozen BK382.out 3; have hfz42_4 := blk_frozen BK382.out 4) | ((with_reducible refine gate_callee (f := 24) rfl ?_); refine goesL_ (some 6) rfl rfl Try.func24 (by kernel_rfl) rfl #[.agg #[.int .i64 a0_0, .int .i64 a0_1, .int .i64 a0_2, .int .i64 a0_3, .string a0_4]] rfl (by (try simp only [List.map_toArray, List.map_cons, List.map_nil]); first | done | rfl | (simp only [List.length_drop, List.length_take]; rfl)) ?_; (with_reducible refine (spec_CmdOk.calls k a0_0 a0_1 a0_2 a0_3 a0_4 false _ A2.out).mono ?_); rintro e w43 ⟨rfl, hb⟩; refine ⟨_, rfl, ?_⟩; replace BK382 := xbb BK382 hb; replace HB := xbs hb; (try clear hb); (try clear hb2); (try clear hk); (try clear hi)) | ((with_reducible refine gate_dst (N := 8) rfl ?_); refine Kd.R_lit (Kd.int .u8) _ 5 ?hg (N := 8) ?hd (xs := ([] : List Int)) (inner := []) (ok := fun _ => True) (okp := fun _ => True) ?hr ?hp (fun _ hk => hk) trivial (Below.refl _ _) (Nat.le_refl _) (by simp) ?_; (case hd => rfl); (case hg => rfl); (case hr => first | (go_simp; done) | (go_simp; rfl)); (case hp => exact (Reps.none _ _)); intro v385 w44 ho45 hb hg_ hnew_; clear hg_ hnew_; (first | rw [← Ny384.out] at ho45 | (simp only [Int.reduceToNat] at ho45; rw [← Ny384.out] at ho45)); have HO386 := aM (Kd.R_lower ho45 (below_size xbg)); replace BK382 := xbb BK382 hb; replace HB := xbs hb; clear hb ho45))
  go_ret2
  exact ⟨_, by first | rfl | (simp [errW_none, errW_some] <;> rfl) | (simp [*, errW_none, errW_some] <;> rfl), by (with_reducible repeat (first | apply Kd.R_alloc | apply Kd.R_drewN | apply Kd.R_drew)); exact HO386.out, xbg⟩

end Go.Proofs.Ytnjpfllmcmomoaa.QFnCmd
