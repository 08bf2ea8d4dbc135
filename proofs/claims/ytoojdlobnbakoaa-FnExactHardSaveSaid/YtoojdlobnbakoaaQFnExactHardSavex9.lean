-- A walk, by a program of this session.
import Derived.Test.YtoojdlobnbakoaaQFnExactHardSavex0
import Derived.Test.YtoojdlobnbakoaaQFnExactHardSavex8
namespace Go.Proofs.Ytoojdlobnbakoaa.QFnExactHardSave
open Go.RowKit Go.Proofs.YtoojdlobnbakoaaW.PrintWords Go.Proofs.YtoojdlobnbakoaaW.PrintLast Go.Proofs.YtoojdlobnbakoaaW.PrintMore
attribute [local go_sem] max2_int min2_int max_two min_two max_three min_three max_four min_four   -- for this text's walks alone
set_option linter.unusedVariables false
set_option linter.unusedSimpArgs false

theorem u9_0 {p : Prop} (h : p := by simp only [Nat.min_def]; split <;> omega) : p := h
theorem u9_1 {p : Prop} (h : p := by intro u hu; simp at hu; rcases hu with rfl | rfl | rfl <;> rfl) : p := h
theorem u9_2 {p : Prop} (h : p := by first | exact Kd.R_nil _ _ _ _ _ | exact Kd.N_nil _ _ _ _ _ | exact Kd.V_nil _ _ _ _ _ | exact Kd.Q_nil _ _ _ _ _ | exact Kd.S_nil _ _ _ _ _) : p := h
theorem u9_3 {p : Prop} (h : p := by refine blk_put (cs := #[.int .i64 aC, .slice none 0 0]) ?_ 1 _ rfl; refine blk_put (cs := #[.int .i64 0, .slice none 0 0]) ?_ 0 _ rfl; exact blk_far bQ.out n21 _) : p := h
theorem u9_4 {p : Prop} (h : p := by rw [← HL.out]; exact Kd.R_lower (Kd.R_set (Kd.R_set (Kd.R_set cC.out HU2.out (by decide) 1 _) (blk_far bQ.out n21 _) (by decide) 0 _) (blk_put (blk_far bQ.out n21 _) 0 _ rfl) (by decide) 1 _) (Nat.le_add_right _ 3)) : p := h
/-! ### impl_PutNum: function 142 -/
def impl_PutNum.l0 : Nat → Int → List Int → Option (List Int)
 | 0, _, _ => none
 | k + 1, x0, x3 => if x0 > 127 then (if x3.length < 140737488355328 then (impl_PutNum.l0 k (x0 / 128) (x3 ++ [(Go.bits .or .i64 (Go.bits .and .i64 x0 127) 128) % 256])) else (none)) else (if x3.length < 140737488355328 then (some (x3 ++ [(x0) % 256])) else (none))
def impl_PutNum.f (k : Nat) (a0 : Int) : Option (List Int) := if a0 < 0 then (some ([] : List Int)) else (impl_PutNum.l0 k a0 (([] : List Int)))
theorem u9_mq0 {p : Prop} (h : p := by repeat' first | (with_reducible first | exact cV _ _ | exact LeO.refl _ | exact LeO.none _ | refine LeO.ite ?_ ?_ | refine LeO.bind ?_ (fun _ => ?_)) | exact cV _ _ | exact LeO.none _ | refine LeO.ite ?_ ?_ | refine LeO.bind ?_ (fun _ => ?_)) : p := h
set_option maxRecDepth 100000 in
theorem impl_PutNum.mono_l : ∀ k, (∀ y0 y1, LeO (impl_PutNum.l0 k y0 y1) (impl_PutNum.l0 (k + 1) y0 y1))
 | 0 => fun _ _ r h => by simp [impl_PutNum.l0] at h
 | k + 1 => by
  have cV := impl_PutNum.mono_l k
  ·intro y0 y1; unfold impl_PutNum.l0; exact u9_mq0
theorem impl_PutNum.mono : ∀ a0 k, LeO (impl_PutNum.f k a0) (impl_PutNum.f (k + 1) a0) := by
 intro a0 k
 have cV := impl_PutNum.mono_l k
 unfold impl_PutNum.f
 exact u9_mq0
set_option maxHeartbeats 8000000 in
set_option maxRecDepth 100000 in
theorem impl_PutNum.calls (k : Nat) (a0 : Int) (r : List Int) (w : World) (h : impl_PutNum.f k a0 = some r) :
 Calls Try.prog 142 #[.int .i64 a0] w fun e w' => ∃ v0_ : Value, e = .returned (v0_) ∧ Kd.R (Kd.int .u8) 5 w' w.heap.size (fun _ => True) v0_ r ∧ Below w.heap.size w w' := by
 have HB := aM (Below.refl w.heap.size w)
 have H : (if a0 < 0 then (some ([] : List Int)) else (impl_PutNum.l0 k a0 (([] : List Int)))) = some r := h
 clear h
 by_cases c2 : a0 < 0
 ·rw [if_pos c2] at H; have bR : decide (a0 < 0) = true := decide_eq_true c2; clear c2; obtain rfl := Option.some.inj H; go_enter Try.func142, Try.ntmps142
  go_wp2; go_ret
  exact ⟨_, xerr, u9_2, xbel⟩
 ·rw [if_neg c2] at H; have bR : decide (a0 < 0) = false := decide_eq_false c2; clear c2; obtain ⟨cE, bE⟩ : ∃ y_ : List Int, y_ = (([] : List Int)) := ⟨_, rfl⟩; replace H : (impl_PutNum.l0 k a0 cE) = some r := by first | (rw [bE]; with_reducible exact H) | (have H2_ := oS H; rw [bE]; with_reducible exact H2_) | (have H2_ := oS H; with_reducible exact H2_) | with_reducible exact H | (rw [bE]; exact H) | exact H
  have bV := aM bE; clear bE; have H' := aM H; clear H; go_enter Try.func142, Try.ntmps142
  go_wp2_with (first | ((with_reducible refine gD 6 rfl ?_); refine Kd.R_lit (Kd.int .u8) _ 5 ?hg (N := 6) ?hd (xs := ([] : List Int)) (inner := []) (ok := fun _ => True) (okp := fun _ => True) ?hr ?hp (fun _ hk => hk) trivial (Below.refl _ _) (Nat.le_refl _) (by simp) ?_; (case hd => rfl); (case hg => rfl); (case hr => first | (go_simp; done) | (go_simp; rfl)); (case hp => exact (Reps.none _ _)); intro dX w3 cF hb hg_ hnew_; clear hg_ hnew_; (first | rw [← bV.out] at cF | (simp only [Int.reduceToNat] at cF; rw [← bV.out] at cF)); have cG := aM (Kd.R_lower cF (below_size xbel)); replace HB := xbs hb; clear hb cF))
  go_loopg [0, 3] k (fun kq v0 v3 w' => ∃ (aK : Int) (bB : List Int), v0 = .int .i64 aK ∧ Aside0 (impl_PutNum.l0 kq aK bB = some r) ∧ Aside0 (kq ≤ k) ∧ Aside0 (Kd.R (Kd.int .u8) 5 w' w.heap.size (fun _ => True) v3 bB) ∧ Aside0 (Below w.heap.size w w'))
  case atStart => exact ⟨(a0), (cE), (by first | rfl | (simp; done) | (simp [*]; done)), H', ⟨Nat.le_refl _⟩, ⟨by (with_reducible repeat (first | apply Kd.R_alloc | apply Kd.R_drewN | apply Kd.R_drew)); exact cG.out⟩, ⟨xbel⟩⟩
  case round =>
   clear H'; try clear c1
   try clear c2
   try clear bR
   try clear p2
   obtain ⟨aK, bB, rfl, HA, HK1, bU, HB⟩ := hrel; cases gk with
   | zero => exact absurd HA.out (by simp [impl_PutNum.l0])
   | succ k1 =>
    have H := HA.out; clear HA; simp only [impl_PutNum.l0] at H; by_cases c5 : aK > 127
    ·rw [if_pos c5] at H; have cW : decide (127 < aK) = true := decide_eq_true c5; clear c5; by_cases c6 : bB.length < 140737488355328
     ·rw [if_pos c6] at H; have LMc6 := aM c6; clear c6; obtain ⟨cH, bG⟩ : ∃ y_ : List Int, y_ = (bB ++ [(Go.bits .or .i64 (Go.bits .and .i64 aK 127) 128) % 256]) := ⟨_, rfl⟩; replace H : (impl_PutNum.l0 k1 (aK / 128) cH) = some r := by first | (rw [bG]; with_reducible exact H) | (have H2_ := oS H; rw [bG]; with_reducible exact H2_) | (have H2_ := oS H; with_reducible exact H2_) | with_reducible exact H | (rw [bG]; exact H) | exact H
      have cI := aM bG; clear bG; have H' := aM H; clear H; go_wp2_with (first | ((with_reducible refine gate_builtin (b := .append) (xs := #[.tmp 9, .tmp 14]) rfl ?_); at_builtin; refine Kd.R_append (Kd.int .u8) (w0 := w) w.heap.size rfl (.tmp 9) (.tmp 14) 22 5 (.int .u8 0) 1 rfl Try.underlying22 info5 rfl (by decide) (by omega) u3 bB ((Go.bits .or .i64 (Go.bits .and .i64 aK 127) 128) % 256) [.int .u8 ((Go.bits .or .i64 (Go.bits .and .i64 aK 127) 128) % 256)] (fun _ => True) (fun _ => False) rfl rfl ?aP (fun _ hk => hk.elim) ?aF ?aO ?aB ?aS ?aL ?_; (case aP => exact rfl); (case aB => exact xbel); (case aF => exact (fun _ _ => trivial)); (case aO => exact (xr bU)); (case aS => exact (below_size xbel)); (case aL => have := LMc6.out; omega); intro dY w7 ho hb hg hat; rw [← cI.out] at ho; replace HB := aM (hb); have cJ := aM (ho); clear bU; clear ho hb hg hat))
      go_roundg k1
      case measure => have := HK1.out; omega
      case rel => exact ⟨(aK / 128), (cH), (by first | rfl | (simp; done) | (simp [*]; done)), H', ⟨by have := HK1.out; omega⟩, ⟨by (with_reducible repeat (first | apply Kd.R_alloc | apply Kd.R_drewN | apply Kd.R_drew)); exact cJ.out⟩, ⟨xbel⟩⟩
     ·rw [if_neg c6] at H; exact absurd H (by simp)
    ·rw [if_neg c5] at H; have cW : decide (127 < aK) = false := decide_eq_false c5; clear c5; by_cases c8 : bB.length < 140737488355328
     ·rw [if_pos c8] at H; have LMc8 := aM c8; clear c8; obtain ⟨cX, bH⟩ : ∃ y_ : List Int, y_ = (bB ++ [(aK) % 256]) := ⟨_, rfl⟩; replace H : (some cX) = some r := by first | (rw [bH]; with_reducible exact H) | (have H2_ := oS H; rw [bH]; with_reducible exact H2_) | (have H2_ := oS H; with_reducible exact H2_) | with_reducible exact H | (rw [bH]; exact H) | exact H
      have cK := aM bH; clear bH; obtain rfl := Option.some.inj H; go_wp2_with (first | ((with_reducible refine gate_builtin (b := .append) (xs := #[.tmp 18, .tmp 21]) rfl ?_); at_builtin; refine Kd.R_append (Kd.int .u8) (w0 := w) w.heap.size rfl (.tmp 18) (.tmp 21) 22 5 (.int .u8 0) 1 rfl Try.underlying22 info5 rfl (by decide) (by omega) u3 bB ((aK) % 256) [.int .u8 ((aK) % 256)] (fun _ => True) (fun _ => False) rfl rfl ?aP (fun _ hk => hk.elim) ?aF ?aO ?aB ?aS ?aL ?_; (case aP => exact rfl); (case aB => exact xbel); (case aF => exact (fun _ _ => trivial)); (case aO => exact (xr bU)); (case aS => exact (below_size xbel)); (case aL => have := LMc8.out; omega); intro dZ w9 ho hb hg hat; rw [← cK.out] at ho; replace HB := aM (hb); have cL := aM (ho); clear bU; clear ho hb hg hat))
      go_ret
      exact ⟨_, xerr, by (with_reducible repeat (first | apply Kd.R_alloc | apply Kd.R_drewN | apply Kd.R_drew)); exact cL.out, xbel⟩
     ·rw [if_neg c8] at H; exact absurd H (by simp)

/-! ### impl_Seal: function 78 -/
def impl_Seal.f (k : Nat) (l0 : List Int) : Option (List Int × Bool) := if (l0.length : Int) > 3000 then (some (([] : List Int), false)) else ((impl_PutNum.f k (l0.length : Int)).bind fun aY => (if aY.length + l0.length < 140737488355328 then ((some (aY ++ l0 : List Int)).bind fun aW => ((impl_sumBytes.f k l0).bind fun aN => (if aW.length + aN.length < 140737488355328 then (some ((aW ++ aN), true)) else (none)))) else (none)))
theorem u9_mq1 {p : Prop} (h : p := by repeat' first | (with_reducible first | exact impl_PutNum.mono _ _ | exact impl_sumBytes.mono _ _ | exact LeO.refl _ | exact LeO.none _ | refine LeO.ite ?_ ?_ | refine LeO.bind ?_ (fun _ => ?_)) | exact impl_PutNum.mono _ _ | exact impl_sumBytes.mono _ _ | exact LeO.none _ | refine LeO.ite ?_ ?_ | refine LeO.bind ?_ (fun _ => ?_)) : p := h
theorem impl_Seal.mono : ∀ a0 k, LeO (impl_Seal.f k a0) (impl_Seal.f (k + 1) a0) := by
 intro a0 k
 unfold impl_Seal.f
 exact u9_mq1
set_option maxHeartbeats 8000000 in
set_option maxRecDepth 100000 in
theorem impl_Seal.calls (k : Nat) (A0 : Option Addr) (c0 : Nat) (l0 : List Int) (r1 : List Int) (r2 : Bool) (w : World) (cU : Kd.C (Kd.int .u8) w A0 l0.length l0) (dK : l0.length ≤ c0) (h : impl_Seal.f k l0 = some (r1, r2)) :
 Calls Try.prog 78 #[.slice A0 l0.length c0] w fun e w' => ∃ v0_ : Value, e = .returned (.tuple #[v0_, .bool r2]) ∧ Kd.R (Kd.int .u8) 5 w' w.heap.size (fun _ => True) v0_ r1 ∧ Below w.heap.size w w' := by
 have dL := aM cU
 have eA := aM dK
 clear cU dK
 have HB := aM (Below.refl w.heap.size w)
 have H : (if (l0.length : Int) > 3000 then (some (([] : List Int), false)) else ((impl_PutNum.f k (l0.length : Int)).bind fun aY => (if aY.length + l0.length < 140737488355328 then ((some (aY ++ l0 : List Int)).bind fun aW => ((impl_sumBytes.f k l0).bind fun aN => (if aW.length + aN.length < 140737488355328 then (some ((aW ++ aN), true)) else (none)))) else (none)))) = some (r1, r2) := h
 clear h
 by_cases c2 : (l0.length : Int) > 3000
 ·rw [if_pos c2] at H; have bR : decide (3000 < (l0.length : Int)) = true := decide_eq_true c2; have cY : decide (3000 < l0.length) = true := decide_eq_true (by omega); clear c2; simp only [Option.some.injEq, Prod.mk.injEq] at H; obtain ⟨rfl, rfl⟩ := H; go_enter Try.func78, Try.ntmps78
  go_wp2; go_ret2
  exact ⟨_, xerr, u9_2, xbel⟩
 ·rw [if_neg c2] at H; have bR : decide (3000 < (l0.length : Int)) = false := decide_eq_false c2; have cY : decide (3000 < l0.length) = false := decide_eq_false (by omega); clear c2; replace H := oB H; obtain ⟨aY, dM, H⟩ := H; (try dsimp only at H); have A3 := aM dM; clear dM
  by_cases c4 : aY.length + l0.length < 140737488355328
  ·rw [if_pos c4] at H; have LMc4 := aM c4; clear c4; obtain ⟨aW, bI⟩ : ∃ y_ : List Int, y_ = (aY ++ l0) := ⟨_, rfl⟩; replace H : ((impl_sumBytes.f k l0).bind fun aN => (if aW.length + aN.length < 140737488355328 then (some ((aW ++ aN), true)) else (none))) = some (r1, r2) := by first | (rw [bI]; with_reducible exact H) | (have H2_ := oS H; rw [bI]; with_reducible exact H2_) | (have H2_ := oS H; with_reducible exact H2_) | with_reducible exact H | (rw [bI]; exact H) | exact H
   have cM := aM bI; clear bI; replace H := oB H; obtain ⟨aN, dN, H⟩ := H; (try dsimp only at H); have A5 := aM dN; clear dN
   by_cases c6 : aW.length + aN.length < 140737488355328
   ·rw [if_pos c6] at H; have LMc6 := aM c6; clear c6; obtain ⟨cZ, bJ⟩ : ∃ y_ : List Int, y_ = (aW ++ aN) := ⟨_, rfl⟩; replace H : (some (cZ, true)) = some (r1, r2) := by first | (rw [bJ]; with_reducible exact H) | (have H2_ := oS H; rw [bJ]; with_reducible exact H2_) | (have H2_ := oS H; with_reducible exact H2_) | with_reducible exact H | (rw [bJ]; exact H) | exact H
    have cN := aM bJ; clear bJ; simp only [Option.some.injEq, Prod.mk.injEq] at H; obtain ⟨rfl, rfl⟩ := H; go_enter Try.func78, Try.ntmps78
    go_wp2_with (first | ((with_reducible refine gC 142 rfl ?_); refine goesLY (some 9) rfl Try.func142 #[.int .i64 (l0.length : Int)] ?_; (with_reducible refine (impl_PutNum.calls k (l0.length : Int) aY _ A3.out).mono ?_); rintro e w7 ⟨dA, rfl, cD, hb⟩; refine ⟨_, rfl, ?_⟩; have bW := aM (Kd.R_lower cD (below_size xbel)); replace HB := xbs hb; (try clear hb cD)) | ((with_reducible refine gate_builtin (b := .append) (xs := #[.tmp 9, .tmp 10]) rfl ?_); at_builtin; refine Kd.R_append_rows (Kd.int .u8) (w0 := w) w.heap.size rfl (.tmp 9) (.tmp 10) 22 5 (.int .u8 0) 1 rfl Try.underlying22 info5 rfl (by decide) (by omega) dA aY l0 _ _ _ (fun _ => True) (fun _ => False) rfl rfl ?aO ?aR (fun _ _ h => h) (fun _ h => h.elim) ?aF ?aB ?aS ?aL ?_; (case aR => exact xcb dL); (case aB => exact xbel); (case aF => exact (fun _ _ => trivial)); (case aO => exact (xr bW)); (case aS => exact (below_size xbel)); (case aL => have := LMc4.out; omega); intro dB w8 ho hb hg hat; rw [← cM.out] at ho; replace HB := aM (hb); have bK := aM (ho); clear bW; clear ho hb hg hat) | ((with_reducible refine gC 139 rfl ?_); refine goesLY (some 13) rfl Try.func139 #[.slice A0 l0.length c0] ?_; (with_reducible refine (impl_sumBytes.calls k _ _ l0 aN _ ?side1 ?side2 A5.out).mono ?_); (case side1 => exact xcb dL); (case side2 => exact eA.out); rintro e w9 ⟨eB, rfl, cD, hb⟩; refine ⟨_, rfl, ?_⟩; have bL := aM (Kd.R_lower (Kd.R_new' cD (Kd.R_lt (xr bK))) (below_size xbel)); replace bK := aM (Kd.R_elder' (xr bK) (Kd.R_base cD) hb); replace HB := xbs hb; (try clear hb cD); obtain ⟨dC, dD, dE⟩ := Kd.R_slice bL.out; subst dE) | ((with_reducible refine gate_builtin (b := .append) (xs := #[.tmp 11, .tmp 13]) rfl ?_); at_builtin; refine Kd.R_append_rows (Kd.int .u8) (w0 := w) w.heap.size rfl (.tmp 11) (.tmp 13) 22 5 (.int .u8 0) 1 rfl Try.underlying22 info5 rfl (by decide) (by omega) dB aW aN _ _ _ (fun k_ => some k_ ≠ (.slice dC aN.length dD : Value).ownBlock) (fun _ => False) rfl rfl ?aO ?aR (fun _ _ h => h) (fun _ h => h.elim) ?aF ?aB ?aS ?aL ?_; (case aR => repeat (first | exact (Kd.R_reads' bL.out).2.2 | (with_reducible refine Kd.C_alloc ?_ _) | (with_reducible refine Kd.C_drewN ?_ _) | (with_reducible refine Kd.C_drew ?_))); (case aB => exact xbel); (case aF => exact (fun k_ hk => Kd.fresh' (Kd.R_lt (xr bL)) k_ hk)); (case aO => exact (by (with_reducible repeat (first | apply Kd.R_alloc | apply Kd.R_drewN | apply Kd.R_drew)); exact Kd.R_mono bK.out (fun _ hk => hk.2))); (case aS => exact (below_size xbel)); (case aL => have := LMc6.out; omega); intro eC eT ho hb hg hat; rw [← cN.out] at ho; replace bL := aM (Kd.R_after (ok := (fun _ => True)) (xr bL) hg hat); replace HB := aM (hb); have cO := aM (ho); clear bK; clear ho hb hg hat))
    go_ret2
    exact ⟨_, xerr, by (with_reducible repeat (first | apply Kd.R_alloc | apply Kd.R_drewN | apply Kd.R_drew)); exact Kd.R_mono cO.out (fun _ hk => trivial), xbel⟩
   ·rw [if_neg c6] at H; exact absurd H (by simp)
  ·rw [if_neg c4] at H; exact absurd H (by simp)

/-! ### impl_copyDisk: function 80 -/
def impl_copyDisk.f (aC : Int) (aA : List (S95)) : Option (Int × (List (S95))) := (some (([] : List (S95)) : List (S95))).bind fun aX => (if aX.length + aA.length < 3518437208883 then (some (aC, (aX ++ aA))) else (none))
def impl_copyDisk.T1 : Bool × List (List Nat × List Nat) := (true, [([], []), ([0], [0]), ([], []), ([], []), ([3], [3]), ([2, 4], [2, 4]), ([1, 5], [1, 5]), ([6, 5, 0, 1, 2, 3, 4, 5, 6], [6])])
def impl_copyDisk.B1 : List Nat := [0, 1, 0, 0, 8, 28, 63, 127]
theorem impl_copyDisk.tab1 : rtab .any (opsOf Try.f80 1) = impl_copyDisk.T1 := by kernel_rfl
theorem impl_copyDisk.bits1 : waitsOk impl_copyDisk.T1.2 impl_copyDisk.B1 = true := by kernel_rfl
set_option maxHeartbeats 8000000 in
set_option maxRecDepth 100000 in
theorem impl_copyDisk.calls (aC : Int) (aQ : Option Addr) (aT : Nat) (aA : List (S95)) (r1 : Int) (r2 : List (S95)) (w : World) (aU : Kd.C k95 w aQ aA.length aA) (aZ : aA.length ≤ aT) (h : impl_copyDisk.f aC aA = some (r1, r2)) :
 Calls Try.prog 80 #[.agg #[.int .i64 aC, .slice aQ aA.length aT]] w fun e w' => ∃ v1_ : Value, e = .returned (.agg #[.int .i64 r1, v1_]) ∧ Kd.R k95 95 w' w.heap.size (fun _ => True) v1_ r2 ∧ Below w.heap.size w w' := by
 have eD := Try.underlying26
 have cP := aM aU
 have dO := aM aZ
 clear aU aZ
 have HB := aM (Below.refl w.heap.size w)
 have H : ((some (([] : List (S95)) : List (S95))).bind fun aX => (if aX.length + aA.length < 3518437208883 then (some (aC, (aX ++ aA))) else (none))) = some (r1, r2) := h
 clear h
 obtain ⟨aX, bM⟩ : ∃ y_ : List (S95), y_ = (([] : List (S95))) := ⟨_, rfl⟩
 replace H : (if aX.length + aA.length < 3518437208883 then (some (aC, (aX ++ aA))) else (none)) = some (r1, r2) := by first | (rw [bM]; with_reducible exact H) | (have H2_ := oS H; rw [bM]; with_reducible exact H2_) | (have H2_ := oS H; with_reducible exact H2_) | with_reducible exact H | (rw [bM]; exact H) | exact H
 have bX := aM bM
 clear bM
 by_cases c2 : aX.length + aA.length < 3518437208883
 ·rw [if_pos c2] at H; have LMc2 := aM c2; clear c2; obtain ⟨cQ, bN⟩ : ∃ y_ : List (S95), y_ = (aX ++ aA) := ⟨_, rfl⟩; replace H : (some (aC, cQ)) = some (r1, r2) := by first | (rw [bN]; with_reducible exact H) | (have H2_ := oS H; rw [bN]; with_reducible exact H2_) | (have H2_ := oS H; with_reducible exact H2_) | with_reducible exact H | (rw [bN]; exact H) | exact H
  have cR := aM bN; clear bN; simp only [Option.some.injEq, Prod.mk.injEq] at H; obtain ⟨rfl, rfl⟩ := H; go_enter Try.func80, Try.ntmps80
  try go_wp2_with (first | ((with_reducible refine gD 1 rfl ?_); refine boxE (N := 1) rfl (cs := #[.int .i64 aC, .slice aQ aA.length aT]) (t := 26) ?_; intro cS hg w3 hbox hb; have aE := aM (hbox); have dP := aM (xge hg); have dQ := aM (xge hg); replace HB := xbs hb; clear hb hbox hg) | ((with_reducible refine gD 2 rfl ?_); refine boxE (N := 2) rfl (cs := #[.int .i64 0, .slice none 0 0]) (t := 26) ?_; intro aV hg w4 hbox hb; have dR := aM (xge hg); have dS := aM (xge hg); replace HB := xbs hb; have aG := nblt aE hg; have bA := nbgt aE hg; replace aE := xbb aE hb; have aH := aM (hbox); clear hb hbox hg))
  replace aE := bD aE; replace aH := bD aH; replace HB := lD HB; refine sb2 8 impl_copyDisk.tab1 impl_copyDisk.bits1 aE (fun hHeld HT_ HW_ => ?_); generalize w4.drew = w5 at aE aH HB hHeld ⊢; refine pv_ 0 3 (h := ?_); refine pv_ 3 6 (h := ?_); refine tk_ 1 4 (h := ?_); refine tk_ 4 7 (h := ?_); refine on_ 2 5 (h := fun K hK => ?_); refine Kd.R_lit_step k95 _ 95 ?hg (N := 5) ?hd (xs := ([] : List (S95))) (inner := []) (ok := fun _ => True) (okp := fun _ => True) ?hr ?hp (fun _ hk => hk) trivial (Below.refl _ _) (Nat.le_refl _) (by simp) ?_; (case hd => rfl); (case hg => rfl); (case hr => first | (go_simp; done) | (go_simp; rfl)); (case hp => exact (Reps.none _ _)); intro dF w6 cT hb hg_ hnew_; clear hg_ hnew_; (first | rw [← bX.out] at cT | (simp only [Int.reduceToNat] at cT; rw [← bX.out] at cT)); have bO := aM (Kd.R_lower cT (below_size xbg)); replace aE := xbb aE hb; replace aH := xbb aH hb; replace HB := xbs hb; clear hb cT; refine hK.out _ _ ⟨xc aE 0 rfl, xc aE 1 rfl⟩ (fun hHeld => ?_); clear hK K; refine nm_ (N := 5) ?_; refine on_ 5 8 (h := fun K hK => ?_); refine Kd.R_append_rows_step k95 (w0 := w) w.heap.size (by rfl) (.tmp 5) (.tmp 7) 24 95 (.agg #[(.int .i64 0), (.string ⟨#[]⟩), (.string ⟨#[]⟩)]) 40 rfl Try.underlying24 info95 rfl (by decide) (by omega) dF aX aA _ _ _ (fun _ => True) (fun _ => False) rfl rfl ?aO ?aR (fun _ _ h => h) (fun _ h => h.elim) ?aF ?aB ?aS ?aL ?_; (case aR => exact xcb cP); (case aB => exact xbg); (case aF => exact (fun _ _ => trivial)); (case aO => exact (xr bO)); (case aS => exact (below_size xbg)); (case aL => have := LMc2.out; omega); intro eE w8 ho hb hg hat; rw [← cR.out] at ho; replace aE := aM (blk_grown (g := cS) (o := .cells #[.int .i64 aC, .slice aQ aA.length aT] 26 (0, 0)) xblk hg (Kd.R_ne bO.out aE.out (by decide))); replace aH := aM (blk_grown (g := aV) (o := .cells #[.int .i64 0, .slice none 0 0] 26 (0, 0)) xblk hg (Kd.R_ne bO.out aH.out (by decide))); replace HB := aM (hb); have bY := aM (ho); clear bO ho hb hg hat; obtain ⟨eF, eG, dU⟩ := Kd.R_slice bY.out; (first | subst dU | (injection dU with f1_ f2_ f3_; have f4_ := f1_.symm; have f5_ := f3_.symm; clear f1_ f2_ f3_; subst f4_; subst f5_)); refine hK.out _ _ ⟨xc aE 0 rfl, xc aE 1 rfl⟩ (fun hHeld => ?_); clear hK K; refine nm_ (N := 8) ?_; refine pv_ 6 9 (h := ?_); refine one_ (i := 7) (N := none) #[true, true, true, true, true, true, true, true] rfl rfl (one_of HT_.out (by kernel_rfl)) (by decide) (fun K hK => ?_); have hs10 : w8.cell? ⟨aV, 0, none⟩ = some (.int .i64 0) := xc aH 0 rfl; have hfs10 := blk_frozen aH.out 0; have hns10_0 := aG.out; have hms10_0 := bA.out; have hs11 : w8.cell? ⟨aV, 1, none⟩ = some (.slice none 0 0) := xc aH 1 rfl; have hfs11 := blk_frozen aH.out 1; have hns11_0 := aG.out; have hms11_0 := bA.out; refine skip_ (w1 := ?_) (by rfl) rfl ?_ ?_; rotate_left
  ·go_simp
   rfl
  refine hK.out _ _ ⟨((cell_far (p := ⟨aV, _, none⟩) aG.out _).trans (((cell_far (p := ⟨aV, _, none⟩) aG.out _).trans (hHeld.1)))), ((cell_far (p := ⟨aV, _, none⟩) aG.out _).trans (((cell_far (p := ⟨aV, _, none⟩) aG.out _).trans (hHeld.2))))⟩ (fun hHeld => ?_); clear hK K; refine dn_ ?_; try go_wp2
  refine bodyPost_ret (results_cell_row rfl _ _ aV 26 #[.int .i64 aC, .slice eF cQ.length eG] (0, 0) _ rfl xP Try.underlying26 rfl (by kernel_rfl)) rfl ?_; exact ⟨_, xerr, xrm bY (fun _ _ => trivial), xbg⟩
 ·rw [if_neg c2] at H; exact absurd H (by simp)

-- NOT PRINTED: function 170 (impl_File_170)

/-! ### impl_fileAt: function 129 -/
def idxName : List S95 → Int → Int → Int
  | [], _, _ => -1
  | x :: t, nm, i => if x.f0 = nm then i else idxName t nm (i + 1)
def impl_fileAt.f (aC : Int) (aA : List S95) (a1 : Int) : Option (Int) := some (idxName aA a1 0)
theorem idxName_drop (l : List S95) (nm i : Int) (h0 : 0 ≤ i) (h1 : i < l.length) : idxName (l.drop i.toNat) nm i = if (rd_T95 l i).f0 = nm then i else idxName (l.drop (i + 1).toNat) nm (i + 1) := by
  have hlt : i.toNat < l.length := by omega
  have e : (i + 1).toNat = i.toNat + 1 := by omega
  rw [List.drop_eq_getElem_cons hlt, e, idxName]; unfold rd_T95; rw [List.getD_eq_getElem?_getD, List.getElem?_eq_getElem hlt]; rfl
theorem fileAt_pred (x : S95) (nm : Int) (B : Nat) (w W : World) (hB : B < w.heap.size) (hb : Below w.heap.size w W) (hcell : w.cell? ⟨B, 0, none⟩ = some (.int .i64 nm)) :
    Calls Try.prog 171 #[.agg #[.int .i64 x.f0, .string x.f1, .string x.f2], .pointer (some ⟨B, 0, none⟩)] W fun e w' => e = .returned (.bool (x.f0 == nm)) ∧ Below w.heap.size w w' := by
  have hc : W.cell? ⟨B, 0, none⟩ = some (.int .i64 nm) := (hb.cell (p := ⟨B, 0, none⟩) hB).trans hcell; have hBW : B < W.heap.size := Nat.lt_of_lt_of_le hB hb.size; have hne : B ≠ W.heap.size := by omega
  go_enter Try.func171, Try.ntmps171
  go_wp2; go_ret
  exact ⟨rfl, hb.alloc hb.size _⟩
set_option maxHeartbeats 2000000 in
theorem fileAt_idx (A : Option Addr) (c : Nat) (l : List S95) (nm : Int) (B : Nat) (w : World) (hC : Kd.C k95 w A l.length l) (hB : B < w.heap.size) (hcell : w.cell? ⟨B, 0, none⟩ = some (.int .i64 nm)) :
    Calls Try.prog 170 #[.slice A l.length c, .func (.func 171) #[] #[.pointer (some ⟨B, 0, none⟩)]] w fun e w' => e = .returned (.int .i64 (idxName l nm 0)) ∧ Below w.heap.size w w' := by
  have eg : ∀ args w, (callFunc 171 args).run Try.prog w = .ok (.enter 171 args) w := Go.Proofs.enters_of Try.func171 (by kernel_rfl) rfl; have hu := Try.underlying95; have hpred := fun x W hb => fileAt_pred x nm B w W hB hb hcell
  have hmax := hC.2.1; have HC := Aside0.mk hC; clear hC hcell; go_enter Try.func170, Try.ntmps170
  go_wp2; go_loopg [5, 8] l.length (fun gg _ s8 wr => ∃ i : Int, 0 ≤ i ∧ i ≤ l.length ∧ l.length - i.toNat ≤ gg ∧ s8 = .int .i64 i ∧ Aside0 (Below w.heap.size w wr) ∧ Aside0 (idxName l nm 0 = idxName (l.drop i.toNat) nm i))
  case atStart => exact ⟨0, by omega, by omega, by omega, rfl, ⟨Below.refl _ w⟩, ⟨rfl⟩⟩
  case round =>
    obtain ⟨i, h0, h1, hg, rfl, BW, AI⟩ := hrel; by_cases hlt : i < (l.length : Int)
    · have hs := idxName_drop l nm i h0 hlt; obtain ⟨ad, rfl, bZ, dG, dH⟩ := at_T95 HC.out i h0 hlt; replace bZ := (BW.out.cell (World.block_lt_of_cell? w _ bZ)).trans bZ; replace dG := (BW.out.cell (World.block_lt_of_cell? w _ dG)).trans dG; replace dH := (BW.out.cell (World.block_lt_of_cell? w _ dH)).trans dH; have hcall := hpred (rd_T95 l i) wr BW.out; clear hpred; by_cases hq : (rd_T95 l i).f0 = nm
      · have cA : ((rd_T95 l i).f0 == nm) = true := by simpa using hq
        rw [cA] at hcall; rw [if_pos hq] at hs; have HS := Aside0.mk hs; clear hs hq cA; go_wp2_with (go_at_fn 171; refine hcall.mono ?_; rintro e w' ⟨rfl, hb'⟩)
        go_ret
        exact ⟨by rw [AI.out, HS.out]; rfl, hb'⟩
      · have cA : ((rd_T95 l i).f0 == nm) = false := by simpa using hq
        rw [cA] at hcall; rw [if_neg hq] at hs; have HS := Aside0.mk hs; clear hs hq cA; go_wp2_with (go_at_fn 171; refine hcall.mono ?_; rintro e w' ⟨rfl, hb'⟩)
        go_roundg (l.length - (i + 1).toNat)
        case measure => omega
        case rel => exact ⟨i + 1, by omega, by omega, by omega, rfl, ⟨hb'⟩, ⟨AI.out.trans HS.out⟩⟩
    · have : i = l.length := by omega
      have hs : idxName (l.drop i.toNat) nm i = -1 := by rw [List.drop_eq_nil_of_le (by omega)]; rfl
      have HS := Aside0.mk hs; clear hs this; go_wp2; go_ret
      exact ⟨by rw [AI.out, HS.out]; rfl, BW.out⟩
set_option maxHeartbeats 2000000 in
theorem impl_fileAt.calls (aC : Int) (aQ : Option Addr) (aT : Nat) (aA : List S95) (a1 : Int) (r : Int) (w : World) (aU : Kd.C k95 w aQ aA.length aA) (aZ : aA.length ≤ aT) (h : impl_fileAt.f aC aA a1 = some r) :
    Calls Try.prog 129 #[.agg #[.int .i64 aC, .slice aQ aA.length aT], .int .i64 a1] w fun e w' => e = .returned (.int .i64 r) ∧ Below w.heap.size w w' := by
  obtain rfl := Option.some.inj h; clear h; have hu := Try.underlying26; have hcon := fun (W : World) (hb : Below w.heap.size w W) (hB : w.heap.size + 1 < W.heap.size) (hc : W.cell? ⟨w.heap.size + 1, 0, none⟩ = some (.int .i64 a1)) => (fileAt_idx aQ aT aA a1 (w.heap.size + 1) W (Kd.C_below aU hb) hB hc)
  clear aU; go_enter Try.func129, Try.ntmps129
  go_wp2_with (go_at_call 170; refine (hcon _ ?_ ?_ ?_).mono ?_; (exact ((Below.refl _ w).alloc (Nat.le_refl _) _).alloc (by simp) _); simp; simp; rintro e w' ⟨rfl, hb'⟩)
  go_ret
  exact ⟨rfl, (((Below.refl _ w).alloc (Nat.le_refl _) _).alloc (by simp) _).trans (hb'.mono (by simp; omega))⟩


/-! ### impl_placed: function 143 -/
set_option maxHeartbeats 4000000 in
set_option maxRecDepth 100000 in
theorem insert_shift (g n c i vb : Nat) (cur vs : Array Value) (w : World) (hi : i < n) (hroom : n + 1 ≤ c) (hc : c ≤ 9223372036854775807) (hvb : vb ≠ g)
    (hg : w.heap[g]? = some (.cells cur 95 (0, 0))) (hcs : cur.size = c * 3) (hv : w.heap[vb]? = some (.cells vs 95 (0, 0))) (hvl : vs.size = 3)
    (h1c : ∀ u ∈ cur.toList.take (n * 3), u.oneCell' = true) (h1v : ∀ u ∈ vs.toList, u.oneCell' = true) :
    Calls Try.prog 177 #[.slice (some ⟨g, 0, none⟩) n c, .int .i64 i, .slice (some ⟨vb, 0, none⟩) 1 1] w fun e w' => e = .returned (.slice (some ⟨g, 0, none⟩) (n + 1) c) ∧ w' = (w.drew.setCells g ((i + 1) * 3) ((cur.toList.take (n * 3)).drop (i * 3))).setCells g (i * 3) vs.toList := by
  have u1 := Try.underlying24; have hsz : (Try.prog.info? 95).map (·.size) = some 3 := by kernel_rfl
  have hz9 : ∀ w, (Go.sizeOf 95).run Try.prog w = .ok 3 w := by
    intro w; obtain ⟨i0, hi0, h0, h1, h2⟩ := info_parts info95
    simp [sizeOf, typeInfo, hi0, h1]
  have hz2 : ¬ ((i : Int) = (n : Int)) := by omega
  have hsa : w.shape? vb = some (95, vs.size) := by simp [World.shape?, hv]
  have hsb : w.shape? g = some (95, cur.size) := by simp [World.shape?, hg]
  have hov : ∀ o lb cb, (callFunc 189 #[.slice (some ⟨vb, 0, none⟩) 1 1, .slice (some ⟨g, o, none⟩) lb cb]).run Try.prog w = .ok (.value (.bool false)) w := fun o lb cb => by
    rw [run_callFunc_extern Try.func189 (by kernel_rfl) (by kernel_rfl) (by kernel_rfl) (e := Extern.SlicesOverlaps.overlaps #[24, 24] #[4]) (by kernel_rfl),
      Lib.run_overlaps_apart w 24 4 95 Try.underlying24 3 hz9 ⟨vb, 0, none⟩ ⟨g, o, none⟩ 1 1 lb cb hvb 95 95 vs.size cur.size hsa hsb (by omega) (blk_frozen hv _) (blk_frozen hv _)]
    rfl
  have hE : ∀ k, k < c * 3 → (w.cell? ⟨g, k, none⟩).isSome = true := fun k hk => by rw [blk_cell hg, Array.getElem?_eq_getElem (by omega)]; rfl
  have hdl : ((cur.toList.take (n * 3)).drop (i * 3)).length = (n - i) * 3 := by rw [List.length_drop, List.length_take, Array.length_toList]; omega
  obtain ⟨D, hD⟩ : ∃ D, D = (cur.toList.take (n * 3)).drop (i * 3) := ⟨_, rfl⟩; rw [← hD] at hdl ⊢; have h1D : ∀ u ∈ D, u.oneCell' = true := fun u hu => h1c u (by rw [hD] at hu; exact List.mem_of_mem_drop hu)
  have hDc : ∀ (j : Nat) (v : Value), D[j]? = some v → w.cell? ⟨g, i * 3 + j, none⟩ = some v := fun j v hj => by
    rw [hD, List.getElem?_drop, List.getElem?_take] at hj; rw [blk_cell hg]
    split at hj
    · simpa using hj
    · cases hj
  have hcp1 : ∀ ty dc sc, (Builtin.copy_ #[24, 24] ty #[.slice (some ⟨g, (i + 1) * 3, none⟩) (n - i) dc, .slice (some ⟨g, i * 3, none⟩) (n + 1 - i) sc]).run Try.prog w.drew = .ok (goInt ((n - i : Nat) : Int)) (w.drew.setCells g ((i + 1) * 3) D) := fun ty dc sc =>
    x_copy w.drew _ _ ty 95 3 g ((i + 1) * 3) (n - i) dc ⟨g, i * 3, none⟩ (n + 1 - i) sc D u1 hsz (n - i) u9_0 hdl
      (fun j v hj => by rw [add_at]; exact hDc j v hj) (fun j hj => hE _ (by omega)) (fun j hj => blk_frozen hg _) h1D
  obtain ⟨W1, hW1⟩ : ∃ W1, W1 = w.drew.setCells g ((i + 1) * 3) D := ⟨_, rfl⟩; obtain ⟨c1, bP, hc1s, hc1l⟩ := setCells_row D ((i + 1) * 3) w.drew cur hg (by omega); rw [← hW1] at bP hcp1 ⊢; have hvW : W1.heap[vb]? = some (.cells vs 95 (0, 0)) := by rw [hW1, setCells_far D _ vb hvb]; exact hv
  have hcp2 : ∀ ty dc, (Builtin.copy_ #[24, 24] ty #[.slice (some ⟨g, i * 3, none⟩) (n + 1 - i) dc, .slice (some ⟨vb, 0, none⟩) 1 1]).run Try.prog W1 = .ok (goInt ((1 : Nat) : Int)) (W1.setCells g (i * 3) vs.toList) := fun ty dc =>
    x_copy W1 _ _ ty 95 3 g (i * 3) (n + 1 - i) dc ⟨vb, 0, none⟩ 1 1 vs.toList u1 hsz 1 u9_0 (by simp [hvl])
      (fun j v hj => by rw [add_at, Nat.zero_add, blk_cell hvW]; simpa using hj) (fun j hj => by rw [blk_cell bP, Array.getElem?_eq_getElem (by rw [Array.length_toList] at hj; omega)]; rfl) (fun j hj => blk_frozen bP _) h1v
  have eH : IntKind.i64.wrap ((i : Int) + 1) = (i : Int) + 1 := by rw [IntKind.wrap_i64]; omega
  have cA : (0 : Int) ≤ (i : Int) + 1 := by omega
  have hin : i ≤ n := by omega
  have htn : ((i : Int) + 1).toNat = i + 1 := by omega
  have eI : ¬ (c = i + 1) := by omega
  have eJ : (i : Int) ≤ (n : Int) + 1 := by omega
  have eK : ¬ (c = i) := by omega
  obtain ⟨i0, hi0, h0_, h1_, h2_⟩ := info_parts info95; have HW := Aside0.mk hW1; clear bP hc1s hc1l hvW hE hDc hg hv hsa hsb hcs hvl h1c h1v h1D hD hdl hW1; go_enter Try.func177, Try.ntmps177
  go_wp2_with (simp only [hov])

  go_region_law (refine x_step_copy rfl _ _ 24 24 rfl _ _ (by simp [Act.eval, Act.put]) (by simp [Act.eval, Act.put]) (hcp1 _ _ _) ?_)
  go_wp2_with (at_builtin; refine x_wpList_copy _ rfl _ _ 24 24 rfl _ _ rfl rfl (hcp2 _ _) ?_)
  go_ret
  first | exact ⟨rfl, rfl⟩ | exact ⟨rfl, by rw [HW.out]⟩
def InsPost (g n : Nat) (cells : List Value) (w : World) (e : Ending) (w' : World) : Prop :=
  ∃ (G : Nat) (c2 : Array Value), e = .returned (.slice (some ⟨g, 0, none⟩) n G) ∧ n ≤ G ∧ G ≤ maxLen ∧ w'.heap[g]? = some (.cells c2 95 (0, 0)) ∧ c2.size = G * 3 ∧ c2.toList.take (n * 3) = cells ∧ w.grownBy w' (some g)
set_option maxHeartbeats 4000000 in
set_option maxRecDepth 100000 in
theorem insert_grow (g n i vb : Nat) (cur vs : Array Value) (w : World) (hi : i < n) (hn : n ≤ 1000)
    (hg : w.heap[g]? = some (.cells cur 95 (0, 0))) (hcs : cur.size = n * 3) (hv : w.heap[vb]? = some (.cells vs 95 (0, 0))) (hvl : vs.size = 3)
    (h1c : ∀ u ∈ cur.toList.take (n * 3), u.oneCell' = true) (h1v : ∀ u ∈ vs.toList, u.oneCell' = true) :
    Calls Try.prog 177 #[.slice (some ⟨g, 0, none⟩) n n, .int .i64 i, .slice (some ⟨vb, 0, none⟩) 1 1] w (InsPost w.heap.size (n + 1) (cur.toList.take (i * 3) ++ vs.toList ++ (cur.toList.take (n * 3)).drop (i * 3)) w) := by
  have u1 := Try.underlying24; have u3 := Try.underlying3; have hsz : (Try.prog.info? 95).map (·.size) = some 3 := by kernel_rfl
  obtain ⟨i0, hi0, hz0, hzs, hzb⟩ := info_parts info95; have hz2 : ¬ ((i : Int) = (n : Int)) := by omega
  have hbw : g < w.heap.size := blk_lt hg; have hvw : vb < w.heap.size := blk_lt hv; have hdl : ((cur.toList.take (n * 3)).drop (i * 3)).length = (n - i) * 3 := by rw [List.length_drop, List.length_take, Array.length_toList]; omega
  obtain ⟨D, hD⟩ : ∃ D, D = (cur.toList.take (n * 3)).drop (i * 3) := ⟨_, rfl⟩; have h1D : ∀ u ∈ D, u.oneCell' = true := fun u hu => h1c u (by rw [hD] at hu; exact List.mem_of_mem_drop hu)
  have hDc : ∀ (W : World), W.heap[g]? = some (.cells cur 95 (0, 0)) → ∀ (j : Nat) (v : Value), D[j]? = some v → W.cell? ⟨g, i * 3 + j, none⟩ = some v := fun W hW j v hj => by
    rw [hD, List.getElem?_drop, List.getElem?_take] at hj; rw [blk_cell hW]
    split at hj
    · simpa using hj
    · cases hj
  rw [← hD] at hdl ⊢; have hold : (Builtin.firstCells i0.size i (.slice (some ⟨g, 0, none⟩) i n)).run Try.prog w.drew = .ok (cur.toList.take (i * 3)).toArray w.drew := by
    rw [hzs]; exact run_firstCells_some w.drew 3 i ⟨g, 0, none⟩ i n (cur.toList.take (i * 3)) (by rw [List.length_take, Array.length_toList]; omega) (fun j v hj => by
      rw [add_at, Nat.zero_add]; rw [List.getElem?_take] at hj
      split at hj
      · show w.drew.cell? _ = _
        rw [blk_cell (blk_drew hg)]
        simpa using hj
      · cases hj)
  have hik : i + (n + 1 - i) = n + 1 := by omega
  have hkk : (n : Int) + 1 - (i : Int) = ((n + 1 - i : Nat) : Int) := by omega
  obtain ⟨G, hG⟩ : ∃ G, G = grownCap w (n + 1) n 95 := ⟨_, rfl⟩; have hGn : n + 1 ≤ G := by rw [hG]; exact grownCap_ge w _ _ _
  have hGm : G ≤ maxLen := by rw [hG]; exact grownCap_le_maxLen w (n + 1) n 95 (by unfold maxLen; omega)
  obtain ⟨ROW, hROW⟩ : ∃ ROW : Array Value, ROW = (cur.toList.take (i * 3)).toArray ++ Builtin.zeroCells (Value.agg #[(.int .i64 0), (.string ⟨#[]⟩), (.string ⟨#[]⟩)]).cells (n + 1 - i) ++ Builtin.zeroCells (Value.agg #[(.int .i64 0), (.string ⟨#[]⟩), (.string ⟨#[]⟩)]).cells (G - (n + 1)) := ⟨_, rfl⟩; have hRl : ROW.size = G * 3 := by
    have e : ∀ m, (Builtin.zeroCells (Value.agg #[(.int .i64 0), (.string ⟨#[]⟩), (.string ⟨#[]⟩)]).cells m).size = m * 3 := fun m => size_zeroCells _ _
    rw [hROW]; simp only [Array.size_append, e, List.size_toArray, List.length_take, Array.length_toList]; omega
  have hRt : ROW.toList.take (i * 3) = cur.toList.take (i * 3) := by
    rw [hROW]; simp only [Array.toList_append, List.append_assoc]; exact List.take_left' (by rw [List.length_take, Array.length_toList]; omega)
  obtain ⟨W1, hW1⟩ : ∃ W1, W1 = w.drew.alloc (.cells ROW 95) := ⟨_, rfl⟩; have hrz : ∀ ty, (Builtin.append_ #[24, 3] ty #[.slice (some ⟨g, 0, none⟩) i n, .int .i64 ((n : Int) + 1 - (i : Int))]).run Try.prog w = .ok (.slice (some ⟨w.heap.size, 0, none⟩) (n + 1) G) W1 := fun ty => by
    have h := Lib.run_append_grow_zeros w 24 3 ty 95 i0 _ .i64 .i64 u1 u3 hi0 hz0 (some ⟨g, 0, none⟩) i n (cur.toList.take (i * 3)) hold (n + 1 - i) (by omega) (by omega) (by omega) (by omega) (by rw [hzb]; omega) (by rw [hzb, hik]; exact growslice_fits (by omega) (by omega)); rw [hik] at h; rw [hkk, hW1, hROW, hG]; exact h
  have hN : W1.heap[w.heap.size]? = some (.cells ROW 95 (0, 0)) := by rw [hW1]; exact heap_alloc_new w.drew _
  have hg1 : W1.heap[g]? = some (.cells cur 95 (0, 0)) := by rw [hW1]; exact blk_alloc (blk_drew hg) _
  have hv1 : W1.heap[vb]? = some (.cells vs 95 (0, 0)) := by rw [hW1]; exact blk_alloc (blk_drew hv) _
  have hgr1 : w.grownBy W1 none := by rw [hW1]; exact ⟨rfl, rfl, rfl, by simp, fun k hk _ => heap_alloc_old w.drew _ hk⟩
  have hcpA : ∀ ty dc, (Builtin.copy_ #[24, 24] ty #[.slice (some ⟨w.heap.size, i * 3, none⟩) (n + 1 - i) dc, .slice (some ⟨vb, 0, none⟩) 1 1]).run Try.prog W1 = .ok (goInt ((1 : Nat) : Int)) (W1.setCells w.heap.size (i * 3) vs.toList) := fun ty dc =>
    x_copy W1 _ _ ty 95 3 w.heap.size (i * 3) (n + 1 - i) dc ⟨vb, 0, none⟩ 1 1 vs.toList u1 hsz 1 u9_0 (by simp [hvl])
      (fun j v hj => by rw [add_at, Nat.zero_add, blk_cell hv1]; simpa using hj) (fun j hj => by rw [blk_cell hN, Array.getElem?_eq_getElem (by rw [Array.length_toList] at hj; omega)]; rfl) (fun j hj => blk_frozen hN _) h1v
  obtain ⟨c1, bP, hc1s, hc1l⟩ := setCells_row vs.toList (i * 3) W1 ROW hN (by rw [Array.length_toList]; omega); obtain ⟨W2, hW2⟩ : ∃ W2, W2 = W1.setCells w.heap.size (i * 3) vs.toList := ⟨_, rfl⟩; rw [← hW2] at bP hcpA; have hgr2 : w.grownBy W2 none := by rw [hW2]; exact x_grown_cells _ _ hgr1 (fun k hk _ => by omega)
  have hg2 : W2.heap[g]? = some (.cells cur 95 (0, 0)) := by rw [hW2, setCells_far vs.toList _ g (by omega)]; exact hg1
  have hcpB : ∀ ty dc sc, (Builtin.copy_ #[24, 24] ty #[.slice (some ⟨w.heap.size, (i + 1) * 3, none⟩) (n - i) dc, .slice (some ⟨g, i * 3, none⟩) (n - i) sc]).run Try.prog W2.drew = .ok (goInt ((n - i : Nat) : Int)) (W2.drew.setCells w.heap.size ((i + 1) * 3) D) := fun ty dc sc =>
    x_copy W2.drew _ _ ty 95 3 w.heap.size ((i + 1) * 3) (n - i) dc ⟨g, i * 3, none⟩ (n - i) sc D u1 hsz (n - i) u9_0 hdl
      (fun j v hj => by rw [add_at]; exact hDc _ (blk_drew hg2) j v hj) (fun j hj => by rw [blk_cell (blk_drew bP), Array.getElem?_eq_getElem (by omega)]; rfl) (fun j hj => blk_frozen (blk_drew bP) _) h1D
  obtain ⟨c2, cB, hc2s, hc2l⟩ := setCells_row D ((i + 1) * 3) W2.drew c1 (blk_drew bP) (by omega); obtain ⟨W3, hW3⟩ : ∃ W3, W3 = W2.drew.setCells w.heap.size ((i + 1) * 3) D := ⟨_, rfl⟩; rw [← hW3] at cB hcpB; have hgr3 : w.grownBy W3 none := by rw [hW3]; exact x_grown_cells _ _ ⟨hgr2.os, hgr2.tape, hgr2.output, hgr2.size, hgr2.block⟩ (fun k hk _ => by omega)
  have hfin : c2.toList.take ((n + 1) * 3) = cur.toList.take (i * 3) ++ vs.toList ++ D := by
    have h := x_row_b (cur := ROW.toList) (c1 := c1.toList) (c2 := c2.toList) (o := i * 3) (s := 3) (m := (n - i) * 3) (V := vs.toList) (D := D) (by rw [Array.length_toList]; exact hvl) hdl (by rw [Array.length_toList]; omega) hc1l (by rw [show (i + 1) * 3 = i * 3 + 3 by omega] at hc2l; exact hc2l); rw [hRt] at h; rw [show (n + 1) * 3 = i * 3 + 3 + (n - i) * 3 by omega]; exact h
  have POST := Aside0.mk (show InsPost w.heap.size (n + 1) (cur.toList.take (i * 3) ++ vs.toList ++ D) w (.returned (.slice (some ⟨w.heap.size, 0, none⟩) (n + 1) G)) W3 from ⟨G, c2, rfl, hGn, hGm, cB, by omega, hfin, ⟨hgr3.os, hgr3.tape, hgr3.output, hgr3.size, fun k hk _ => hgr3.block k hk (by simp)⟩⟩); have eH : IntKind.i64.wrap ((i : Int) + 1) = (i : Int) + 1 := by rw [IntKind.wrap_i64]; omega
  have cA : (0 : Int) ≤ (i : Int) + 1 := by omega
  have hin : i ≤ n := by omega
  have htn : ((i : Int) + 1).toNat = i + 1 := by omega
  have eI : ¬ (G = i + 1) := by omega
  have eJ : (i : Int) ≤ (n : Int) + 1 := by omega
  have eK : ¬ (G = i) := by omega
  have eU : ¬ (n = i) := by omega
  have hz3 : (n : Int) < (n : Int) + 1 := by omega
  have hG63 : G ≤ 9223372036854775807 := by unfold maxLen at hGm; exact hGm
  clear bP hc1s hc1l cB hc2s hc2l hN hg1 hg2 hv1 hDc hg hv hcs hvl h1c h1v h1D hD hdl hW1 hW2 hW3 hgr1 hgr2 hgr3 hfin hROW hRl hRt hG hold hik hkk hGm hz0 hzs hzb hi0 i0; go_enter Try.func177, Try.ntmps177
  go_wp2_with (first
    | (at_builtin; refine Lib.wpList_append_run _ rfl _ _ _ _ rfl _ _ rfl rfl _ _ (hrz _) ?_)
    | (at_builtin; refine x_wpList_copy _ rfl _ _ 24 24 rfl _ _ rfl rfl (hcpA _ _) ?_))
  go_region_law (refine x_step_copy rfl _ _ 24 24 rfl _ _ (by simp [Act.eval, Act.put]) (by simp [Act.eval, Act.put]) (hcpB _ _ _) ?_)
  go_wp2; go_ret
  exact POST.out
def InsR (base : Nat) (l : List S95) (w : World) (row : Option Nat) (e : Ending) (w' : World) : Prop :=
  ∃ v1 : Value, e = .returned v1 ∧ Kd.R k95 95 w' base (fun _ => True) v1 l ∧ w.grownBy w' row
theorem R_of_cells {w : World} {base : Nat} {v : Value} {l : List S95} {cs : List Value} (ho : w.ownsRow base 95 3 v l.length cs)
    (hr : Reps (fun (x : S95) (c : List Value) => c = [.int .i64 x.f0, .string x.f1, .string x.f2]) 3 l cs) : Kd.R k95 95 w base (fun _ => True) v l :=
  ⟨fun _ _ => trivial, cs, ho, hr.imp_ (fun p c hc => by rw [hc]; exact k95_mkM _ _ _ p)⟩
set_option maxHeartbeats 4000000 in
set_option maxRecDepth 100000 in
theorem insert_end (base : Nat) (v : Value) (l : List S95) (x : S95) (inner : List Value) (vb : Nat) (w : World) (ho : w.ownsRow base 95 3 v l.length inner)
    (hr : Reps (fun (x : S95) (c : List Value) => c = [.int .i64 x.f0, .string x.f1, .string x.f2]) 3 l inner) (hl : l.length ≤ 1000) (hbase : base ≤ w.heap.size)
    (hv : w.heap[vb]? = some (.cells #[.int .i64 x.f0, .string x.f1, .string x.f2] 95 (0, 0))) :
    Calls Try.prog 177 #[v, .int .i64 l.length, .slice (some ⟨vb, 0, none⟩) 1 1] w (InsR base (l ++ [x]) w v.ownBlock) := by
  have u1 := Try.underlying24; obtain ⟨i0, hi0, hz0, hzs, hzb⟩ := info_parts info95; obtain ⟨A, c, rfl⟩ := own_slice ho; have HO := Aside0.mk ho; have HR := Aside0.mk hr; have hnews : ∀ (j : Nat) (u : Value), ([.int .i64 x.f0, .string x.f1, .string x.f2] : List Value)[j]? = some u → w.cell? ((⟨vb, 0, none⟩ : Addr).add j) = some u := fun j u hj => by
    rw [add_at, Nat.zero_add, blk_cell hv]
    simpa using hj
  have HN := Aside0.mk hnews; have hlen : l.length ≤ c := own_le ho; clear ho hr hnews hv; go_enter Try.func177, Try.ntmps177
  go_wp2_with (at_builtin; refine wpList_append_own_at _ rfl _ _ 24 rfl base 95 i0 _ 3 40 u1 hi0 hz0 hzs hzb rfl (by decide) _ l.length inner rfl HO.out ⟨vb, 0, none⟩ 1 1 [.int .i64 x.f0, .string x.f1, .string x.f2] rfl rfl HN.out u9_1 (by unfold maxLen; omega) (by omega) hbase ?_; intro v1 w1 hown hg _ hat; have HV := Aside0.mk hown; have HG := Aside0.mk (show w.grownBy w1 (Value.slice A _ _).ownBlock from hg); clear hown hg hat)
  all_goals
    go_ret
    exact ⟨v1, rfl, R_of_cells (by simpa using HV.out) (HR.out.snoc rfl rfl), by first | exact HG.out | (cases A <;> exact HG.out)⟩
theorem insert_any (base : Nat) (v : Value) (l : List S95) (i : Nat) (x : S95) (vb : Nat) (w : World) (hR : Kd.R k95 95 w base (fun _ => True) v l) (hi : i ≤ l.length) (hl : l.length ≤ 1000) (hbase : base ≤ w.heap.size)
    (hv : w.heap[vb]? = some (.cells #[.int .i64 x.f0, .string x.f1, .string x.f2] 95 (0, 0))) (hne : some vb ≠ v.ownBlock) :
    Calls Try.prog 177 #[v, .int .i64 i, .slice (some ⟨vb, 0, none⟩) 1 1] w (InsR base (l.take i ++ [x] ++ l.drop i) w v.ownBlock) := by
  obtain ⟨h0, inner, ho, cU⟩ := hR; have hr : Reps (fun (x : S95) (c : List Value) => c = [.int .i64 x.f0, .string x.f1, .string x.f2]) 3 l inner := cU.imp_ (fun p c hc => k95_openM hc); have ho : w.ownsRow base 95 3 v l.length inner := ho; by_cases hin : i = l.length
  · subst hin; rw [List.take_length, List.drop_length, List.append_nil]; exact insert_end base v l x inner vb w ho hr hl hbase hv
  have hin : i < l.length := by omega
  have hone : ∀ u ∈ inner, u.oneCell' = true := Kd.reps_one hr (by decide) (fun p c hc u hu => by rw [hc] at hu; simp at hu; rcases hu with rfl | rfl | rfl <;> rfl); have hrn : Reps (fun (x : S95) (c : List Value) => c = [.int .i64 x.f0, .string x.f1, .string x.f2]) 3 (l.take i ++ [x] ++ l.drop i) (inner.take (i * 3) ++ [.int .i64 x.f0, .string x.f1, .string x.f2] ++ inner.drop (i * 3)) :=
    Kd.reps_append ((Kd.reps_take hr hi).snoc rfl rfl) (Kd.reps_drop hr)
  have hln : (l.take i ++ [x] ++ l.drop i).length = l.length + 1 := by simp; omega
  rcases ho.2 with ⟨rfl, hn0⟩ | ⟨g, cap, cur, rfl, hbg, hg, hnc, hcm, hcs, htake⟩
  · omega
  have hvg : vb ≠ g := fun e => hne (by rw [e]; rfl)
  by_cases hroom : l.length + 1 ≤ cap
  · refine (insert_shift g l.length cap i vb cur #[.int .i64 x.f0, .string x.f1, .string x.f2] w hin hroom (by unfold maxLen at hcm; exact hcm) hvg hg hcs hv rfl (by rw [htake]; exact hone) u9_1).mono ?_; rintro e w' ⟨rfl, rfl⟩; rw [htake]; have hdl : (inner.drop (i * 3)).length = (l.length - i) * 3 := by rw [List.length_drop, ho.1]; omega
    obtain ⟨c1, bP, hc1s, hc1l⟩ := setCells_row (inner.drop (i * 3)) ((i + 1) * 3) w.drew cur (blk_drew hg) (by rw [hdl]; omega); obtain ⟨c2, cB, hc2s, hc2l⟩ := setCells_row [.int .i64 x.f0, .string x.f1, .string x.f2] (i * 3) _ c1 bP (by simp; omega); have h := x_row_a (cur := cur.toList) (c1 := c1.toList) (c2 := c2.toList) (o := i * 3) (s := 3) (m := (l.length - i) * 3) (V := [.int .i64 x.f0, .string x.f1, .string x.f2]) (D := inner.drop (i * 3)) rfl hdl (by have := Array.length_toList (xs := cur); omega) (by rw [show (i + 1) * 3 = i * 3 + 3 by omega] at hc1l; exact hc1l) hc2l; have hti : cur.toList.take (i * 3) = inner.take (i * 3) := by rw [← htake, List.take_take, Nat.min_eq_left (by omega)]
    rw [hti] at h; refine ⟨_, rfl, R_of_cells (cs := inner.take (i * 3) ++ [.int .i64 x.f0, .string x.f1, .string x.f2] ++ inner.drop (i * 3)) ?_ hrn, ?_⟩
    · rw [hln]; refine ⟨by rw [hrn.1, hln], .inr ⟨g, cap, c2, rfl, hbg, cB, hroom, hcm, by omega, ?_⟩⟩; rw [← h]
      congr 1
      omega
    · have hg0 : w.grownBy w.drew (some g) := ⟨rfl, rfl, rfl, Nat.le_refl _, fun _ _ _ => rfl⟩; exact x_grown_cells _ _ (x_grown_cells _ _ hg0 (fun k _ hk => fun e => hk (congrArg some e))) (fun k _ hk => fun e => hk (congrArg some e))
  · obtain rfl : cap = l.length := by omega
    refine (insert_grow g l.length i vb cur #[.int .i64 x.f0, .string x.f1, .string x.f2] w hin hl hg hcs hv rfl (by rw [htake]; exact hone) u9_1).mono ?_; rintro e w' ⟨G, c2, rfl, hG, hGm, cB, hc2s, hc2l, hgr⟩; rw [htake] at hc2l; have hti : cur.toList.take (i * 3) = inner.take (i * 3) := by rw [← htake, List.take_take, Nat.min_eq_left (by omega)]
    rw [hti] at hc2l; refine ⟨_, rfl, R_of_cells (cs := inner.take (i * 3) ++ [.int .i64 x.f0, .string x.f1, .string x.f2] ++ inner.drop (i * 3)) ?_ hrn, ?_⟩
    · rw [hln]; exact ⟨by rw [hrn.1, hln], .inr ⟨w.heap.size, G, c2, rfl, hbase, cB, hG, hGm, hc2s, hc2l⟩⟩
    · exact ⟨hgr.os, hgr.tape, hgr.output, hgr.size, fun k hk _ => hgr.block k hk (by simp; omega)⟩
def placeIdx (l : List S95) (a : Int) : Nat := (l.takeWhile (fun x => decide (x.f0 < a))).length
theorem placeIdx_le (l : List S95) (a : Int) : placeIdx l a ≤ l.length := (List.takeWhile_sublist _).length_le
theorem all_takeWhile {α : Type} (p : α → Bool) : ∀ (l : List α) (x : α), x ∈ l.takeWhile p → p x = true
  | [], x, h => by simp at h
  | y :: t, x, h => by
    cases hp : p y
    · simp [List.takeWhile, hp] at h
    · simp only [List.takeWhile, hp, List.mem_cons] at h; rcases h with rfl | h
      · exact hp
      · exact all_takeWhile p t x h
theorem placeIdx_lt (l : List S95) (a : Int) (i : Nat) (h : i < placeIdx l a) : (rd_T95 l i).f0 < a := by
  have hl : i < l.length := Nat.lt_of_lt_of_le h (placeIdx_le l a); have h1 : (l.takeWhile (fun x => decide (x.f0 < a)))[i]? = l[i]? := by
    have := List.takeWhile_prefix (l := l) (fun x => decide (x.f0 < a)); rw [List.getElem?_eq_getElem h, List.getElem?_eq_getElem hl]
    congr 1
    exact this.getElem h
  have h2 : l[i]'hl ∈ l.takeWhile (fun x => decide (x.f0 < a)) := by
    rw [List.getElem?_eq_getElem hl] at h1; exact List.mem_of_getElem? h1
  have h3 := all_takeWhile _ l _ h2; unfold rd_T95; rw [Int.toNat_natCast, List.getD_eq_getElem?_getD, List.getElem?_eq_getElem hl]
  simpa using h3
theorem placeIdx_ge (l : List S95) (a : Int) : placeIdx l a < l.length → ¬ (rd_T95 l (placeIdx l a)).f0 < a := by
  induction l with
  | nil => intro h; simp [placeIdx] at h
  | cons x t ih =>
    intro h; by_cases hx : x.f0 < a
    · have e : placeIdx (x :: t) a = placeIdx t a + 1 := by simp [placeIdx, hx]
      rw [e] at h ⊢; have := ih (by simpa using h); unfold rd_T95 at this ⊢; rw [Int.toNat_natCast] at this ⊢
      simpa using this
    · have e : placeIdx (x :: t) a = 0 := by simp [placeIdx, hx]
      rw [e]; unfold rd_T95
      simpa using hx
def placeL (l : List S95) (x : S95) : List S95 := l.take (placeIdx l x.f0) ++ [x] ++ l.drop (placeIdx l x.f0)
def impl_placed.f (aC : Int) (aA : List S95) (aD : Int) (aI aJ : ByteArray) : Option (Int × List S95) := if aA.length ≤ 1000 then some (aC, placeL aA ⟨aD, aI, aJ⟩) else none
set_option maxHeartbeats 4000000 in
set_option maxRecDepth 100000 in
theorem impl_placed.calls (aC : Int) (aQ : Option Addr) (aT : Nat) (aA : List S95) (aD : Int) (aI : ByteArray) (aJ : ByteArray) (r1 : Int) (r2 : List S95) (w : World) (aU : Kd.C k95 w aQ aA.length aA) (aZ : aA.length ≤ aT) (h : impl_placed.f aC aA aD aI aJ = some (r1, r2)) :
    Calls Try.prog 143 #[.agg #[.int .i64 aC, .slice aQ aA.length aT], .agg #[.int .i64 aD, .string aI, .string aJ]] w fun e w' => ∃ v1_ : Value, e = .returned (.agg #[.int .i64 r1, v1_]) ∧ Kd.R k95 95 w' w.heap.size (fun _ => True) v1_ r2 ∧ Below w.heap.size w w' := by
  unfold impl_placed.f at h; have hl : aA.length ≤ 1000 := by
    by_cases hl : aA.length ≤ 1000
    · exact hl
    · rw [if_neg hl] at h; cases h
  rw [if_pos hl] at h; simp only [Option.some.injEq, Prod.mk.injEq] at h; obtain ⟨rfl, rfl⟩ := h; have hcopy : impl_copyDisk.f aC aA = some (aC, aA) := by
    unfold impl_copyDisk.f; simp only [Option.bind_some, List.length_nil, Nat.zero_add, List.nil_append]; rw [if_pos (by omega)]
  have eL := Try.underlying26; have eM := Try.underlying24; have HR := Aside0.mk aU; have HC := Aside0.mk aZ; have HCP := Aside0.mk hcopy; clear aU aZ hcopy; go_enter Try.func143, Try.ntmps143
  go_wp2_with fail
  go_at_call 80
  refine (impl_copyDisk.calls aC aQ aT aA aC aA _ ?s1 ?s2 HCP.out).mono ?_
  case s1 => exact Kd.C_alloc (Kd.C_alloc (Kd.C_alloc HR.out _) _) _
  case s2 => exact HC.out
  rintro e w1 ⟨v1, rfl, hR, hb⟩; have h1 : w.heap.size + 3 ≤ w1.heap.size := by have := hb.size; simp at this; omega
  have hF : w1.heap[w.heap.size + 1]? = some (.cells #[.int .i64 aD, .string aI, .string aJ] 95 (0, 0)) := blk_below (by have := blk_alloc (w := (w.alloc (.cells #[.int .i64 aC, .slice aQ aA.length aT] 26)).alloc (.cells #[.int .i64 aD, .string aI, .string aJ] 95)) (heap_alloc_new _ _) (.cells #[.int .i64 0, .slice none 0 0] 26); simpa using this) hb; have hO : w1.heap[w.heap.size + 2]? = some (.cells #[.int .i64 0, .slice none 0 0] 26 (0, 0)) := blk_below (by have := heap_alloc_new ((w.alloc (.cells #[.int .i64 aC, .slice aQ aA.length aT] 26)).alloc (.cells #[.int .i64 aD, .string aI, .string aJ] 95)) (.cells #[.int .i64 0, .slice none 0 0] 26); simpa using this) hb; have hB : Below w.heap.size w w1 := below_step (below_alloc (below_alloc (below_alloc (Below.refl _ w) _) _) _) hb; have hR : Kd.R k95 95 w1 (w.heap.size + 3) (fun _ => True) v1 aA := by have := hR; simpa using this
  obtain ⟨A1, c1, rfl⟩ := Kd.R_slice hR; have HF := Aside0.mk hF; have HO := Aside0.mk hO; have HB := Aside0.mk hB; have bC := Aside0.mk hR; have H1 := Aside0.mk h1; clear hF hO hB hR h1 hb; go_wp2; go_loopg [6] (aA.length + 1) (fun gg s6 wr => ∃ i : Nat, s6 = .int .i64 i ∧ i ≤ placeIdx aA aD ∧ aA.length - i < gg ∧ Aside0 (Kd.R k95 95 wr (w.heap.size + 3) (fun _ => True) (.slice A1 aA.length c1) aA) ∧ Aside0 (wr.heap[w.heap.size + 1]? = some (.cells #[.int .i64 aD, .string aI, .string aJ] 95 (0, 0))) ∧ Aside0 (wr.heap[w.heap.size + 2]? = some (.cells #[.int .i64 0, .slice none 0 0] 26 (0, 0))) ∧ Aside0 (wr.heap[w1.heap.size]? = some (.cells #[.int .i64 aC, .slice A1 aA.length c1] 26 (0, 0))) ∧ Aside0 (Below w.heap.size w wr) ∧ Aside0 (w.heap.size + 3 ≤ wr.heap.size))
  case atStart => exact ⟨0, rfl, by omega, by omega, ⟨Kd.R_alloc bC.out _⟩, ⟨blk_alloc HF.out _⟩, ⟨blk_alloc HO.out _⟩, ⟨heap_alloc_new _ _⟩, ⟨below_alloc HB.out _⟩, ⟨by have := H1.out; simp; omega⟩⟩
  case round =>
    clear HF HO HB bC; obtain ⟨i, rfl, hi, hg, bC, HF, HO, HU, HB, HS⟩ := hrel; by_cases hlt : i < placeIdx aA aD
    · have hll := placeIdx_le aA aD; have hp := placeIdx_lt aA aD i hlt; obtain ⟨ad, hA, bZ, _, _⟩ := at_T95 (Kd.R_reads' bC.out).2.2 (i : Int) (by omega) (by omega); have dI : wr.cell? ⟨w1.heap.size, 1, none⟩ = some (.slice A1 aA.length c1) := (blk_cell HU.out 1).trans rfl; have dJ : wr.cell? ⟨w.heap.size + 1, 0, none⟩ = some (.int .i64 aD) := (blk_cell HF.out 0).trans rfl; have hlt2 : decide ((i : Int) < (aA.length : Int)) = true := decide_eq_true (by omega); have hlt4 : i < aA.length := by omega
      have hlt3 : decide ((rd_T95 aA (i : Int)).f0 < aD) = true := decide_eq_true hp; subst hA; rw [Int.toNat_natCast] at bZ; have HLT := Aside0.mk hlt; clear hp hlt hll; have HG := Aside0.mk hg; have HI := Aside0.mk hi; clear hg hi; go_wp2; go_quiet (fail)
      go_wp2; go_roundg (aA.length - i)
      case measure => have := HG.out; omega
      case rel => exact ⟨i + 1, by go_num, HLT.out, by omega, ⟨Kd.R_drewN bC.out _⟩, ⟨blk_drewN HF.out _⟩, ⟨blk_drewN HO.out _⟩, ⟨blk_drewN HU.out _⟩, ⟨pw_below_drewN HB.out _⟩, HS⟩
    · obtain rfl : i = placeIdx aA aD := by omega
      have dI : wr.cell? ⟨w1.heap.size, 1, none⟩ = some (.slice A1 aA.length c1) := (blk_cell HU.out 1).trans rfl; have dJ : wr.cell? ⟨w.heap.size + 1, 0, none⟩ = some (.int .i64 aD) := (blk_cell HF.out 0).trans rfl; have dV : wr.cell? ⟨w.heap.size + 1, 1, none⟩ = some (.string aI) := (blk_cell HF.out 1).trans rfl; have dW : wr.cell? ⟨w.heap.size + 1, 2, none⟩ = some (.string aJ) := (blk_cell HF.out 2).trans rfl; clear hi hlt; obtain ⟨p, hP⟩ : ∃ p, p = placeIdx aA aD := ⟨_, rfl⟩; have HPL := placeIdx_le aA aD; have HPG := placeIdx_ge aA aD; rw [← hP] at HPL HPG hg ⊢; by_cases hlt : p < aA.length
      · have hq := HPG hlt; obtain ⟨ad, hA, bZ, _, _⟩ := at_T95 (Kd.R_reads' bC.out).2.2 (p : Int) (by omega) (by omega); subst hA; rw [Int.toNat_natCast] at bZ; have hlt2 : decide ((p : Int) < (aA.length : Int)) = true := decide_eq_true (by omega); have hlt3 : decide ((rd_T95 aA (p : Int)).f0 < aD) = false := decide_eq_false hq; have HP := Aside0.mk hP; have HPL := Aside0.mk HPL; clear HPG hq hg hP; go_wp2; go_quiet (fail)
        go_wp2_with fail
        go_at_call 177
        refine (insert_any (w.heap.size + 3) (.slice (some ad) aA.length c1) aA p ⟨aD, aI, aJ⟩ wr.heap.size _ (Kd.R_alloc (Kd.R_drewN bC.out _) _) HPL.out hl (by have := HS.out; simp; omega) (heap_alloc_new (wr.drewN _) _) (fun e => by have := Kd.R_lt bC.out _ e.symm; omega)).mono ?_; rintro e w2 ⟨v2, rfl, hR2, hg2⟩; have HU2 := Aside0.mk (blk_grown (blk_alloc (blk_drewN HU.out _) _) hg2 (Kd.R_ne bC.out HU.out (by decide))); have bQ := Aside0.mk (blk_grown (blk_alloc (blk_drewN HO.out _) _) hg2 (Kd.R_ne bC.out HO.out (by decide))); have HB2 := Aside0.mk (pw_below_grown (below_alloc (pw_below_drewN HB.out _) _) _ (by have := HS.out; simp; omega) hg2 (fun k hk => by have := Kd.R_base bC.out k hk; omega)); have cC := Aside0.mk (show Kd.R k95 95 w2 (w.heap.size + 3) (fun _ => True) v2 (placeL aA ⟨aD, aI, aJ⟩) from (by unfold placeL; rw [← HP.out]; exact hR2)); have hsz : w.heap.size + 3 ≤ w2.heap.size := by have := hg2.size; have := HS.out; simp at *; omega
        clear hR2 hg2 HU HO HB bC HF dI dJ dV dW; obtain ⟨L2, hL2⟩ : ∃ L2, L2 = placeL aA ⟨aD, aI, aJ⟩ := ⟨_, rfl⟩; rw [← hL2] at cC; have HL := Aside0.mk hL2; clear hL2; obtain ⟨A2, c2, hv2⟩ := Kd.R_slice cC.out; subst hv2; have n12 : w1.heap.size ≠ w.heap.size + 2 := by have := H1.out; omega
        have n21 : w.heap.size + 2 ≠ w1.heap.size := n12.symm; have eN : w2.cell? ⟨w1.heap.size, 0, none⟩ = some (.int .i64 aC) := (blk_cell HU2.out 0).trans rfl; have eO : w2.cell? ⟨w1.heap.size, 1, none⟩ = some (.slice (some ad) aA.length c1) := (blk_cell HU2.out 1).trans rfl; have eP := fun i => blk_frozen HU2.out i
        have eQ : w2.cell? ⟨w.heap.size + 2, 0, none⟩ = some (.int .i64 0) := (blk_cell bQ.out 0).trans rfl; have eR : w2.cell? ⟨w.heap.size + 2, 1, none⟩ = some (.slice none 0 0) := (blk_cell bQ.out 1).trans rfl; have eS := fun i => blk_frozen bQ.out i
        go_wp2; refine bodyPost_ret (results_cell_row rfl _ _ (w.heap.size + 2) 26 #[.int .i64 aC, .slice A2 L2.length c2] (0, 0) _ rfl u9_3 Try.underlying26 rfl (by kernel_rfl)) rfl ?_; refine ⟨_, rfl, u9_4, ?_⟩; exact below_set (below_set (below_set HB2.out (by have := H1.out; omega)) (by omega)) (by omega)
      · obtain rfl : p = aA.length := by omega
        have hlt2 : decide ((aA.length : Int) < (aA.length : Int)) = false := decide_eq_false (by omega); have HP := Aside0.mk hP; have HPL := Aside0.mk HPL; clear HPG hg hP; go_wp2; go_quiet (fail)
        go_wp2_with fail
        go_at_call 177
        refine (insert_any (w.heap.size + 3) (.slice A1 aA.length c1) aA aA.length ⟨aD, aI, aJ⟩ wr.heap.size _ (Kd.R_alloc (Kd.R_drewN bC.out _) _) HPL.out hl (by have := HS.out; simp; omega) (heap_alloc_new (wr.drewN _) _) (fun e => by have := Kd.R_lt bC.out _ e.symm; omega)).mono ?_; rintro e w2 ⟨v2, rfl, hR2, hg2⟩; have HU2 := Aside0.mk (blk_grown (blk_alloc (blk_drewN HU.out _) _) hg2 (Kd.R_ne bC.out HU.out (by decide))); have bQ := Aside0.mk (blk_grown (blk_alloc (blk_drewN HO.out _) _) hg2 (Kd.R_ne bC.out HO.out (by decide))); have HB2 := Aside0.mk (pw_below_grown (below_alloc (pw_below_drewN HB.out _) _) _ (by have := HS.out; simp; omega) hg2 (fun k hk => by have := Kd.R_base bC.out k hk; omega)); have cC := Aside0.mk (show Kd.R k95 95 w2 (w.heap.size + 3) (fun _ => True) v2 (placeL aA ⟨aD, aI, aJ⟩) from (by unfold placeL; rw [← HP.out]; exact hR2)); have hsz : w.heap.size + 3 ≤ w2.heap.size := by have := hg2.size; have := HS.out; simp at *; omega
        clear hR2 hg2 HU HO HB bC HF dI dJ dV dW; obtain ⟨L2, hL2⟩ : ∃ L2, L2 = placeL aA ⟨aD, aI, aJ⟩ := ⟨_, rfl⟩; rw [← hL2] at cC; have HL := Aside0.mk hL2; clear hL2; obtain ⟨A2, c2, hv2⟩ := Kd.R_slice cC.out; subst hv2; have n12 : w1.heap.size ≠ w.heap.size + 2 := by have := H1.out; omega
        have n21 : w.heap.size + 2 ≠ w1.heap.size := n12.symm; have eN : w2.cell? ⟨w1.heap.size, 0, none⟩ = some (.int .i64 aC) := (blk_cell HU2.out 0).trans rfl; have eO : w2.cell? ⟨w1.heap.size, 1, none⟩ = some (.slice A1 aA.length c1) := (blk_cell HU2.out 1).trans rfl; have eP := fun i => blk_frozen HU2.out i
        have eQ : w2.cell? ⟨w.heap.size + 2, 0, none⟩ = some (.int .i64 0) := (blk_cell bQ.out 0).trans rfl; have eR : w2.cell? ⟨w.heap.size + 2, 1, none⟩ = some (.slice none 0 0) := (blk_cell bQ.out 1).trans rfl; have eS := fun i => blk_frozen bQ.out i
        go_wp2; refine bodyPost_ret (results_cell_row rfl _ _ (w.heap.size + 2) 26 #[.int .i64 aC, .slice A2 L2.length c2] (0, 0) _ rfl u9_3 Try.underlying26 rfl (by kernel_rfl)) rfl ?_; refine ⟨_, rfl, u9_4, ?_⟩; exact below_set (below_set (below_set HB2.out (by have := H1.out; omega)) (by omega)) (by omega)


end Go.Proofs.Ytoojdlobnbakoaa.QFnExactHardSave
