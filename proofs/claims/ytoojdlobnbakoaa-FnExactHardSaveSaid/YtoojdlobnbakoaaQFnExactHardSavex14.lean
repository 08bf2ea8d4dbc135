-- A walk, by a program of this session.
import Derived.Test.YtoojdlobnbakoaaQFnExactHardSavex0
import Derived.Test.YtoojdlobnbakoaaQFnExactHardSavex13
namespace Go.Proofs.Ytoojdlobnbakoaa.QFnExactHardSave
open Go.RowKit Go.Proofs.YtoojdlobnbakoaaW.PrintWords Go.Proofs.YtoojdlobnbakoaaW.PrintLast Go.Proofs.YtoojdlobnbakoaaW.PrintMore
attribute [local go_sem] max2_int min2_int max_two min_two max_three min_three max_four min_four   -- for this text's walks alone
set_option linter.unusedVariables false
set_option linter.unusedSimpArgs false

theorem u14_0 {p : Prop} (h : p := by first | rfl | (simp; done) | (simp [*]; done)) : p := h
/-! ### laws_heldFileS: function 125 -/
def laws_heldFileS.l0 : Nat → List (S95) → Int → Int → Option (Int)
 | 0, _, _, _ => none
 | k + 1, x0, x1, x5 => if x5 < (x0.length : Int) then (if 0 ≤ x5 then (if ((rd_T95 x0 x5).f0) = x1 then ((laws_markText.f k (wrap64 (x1 + 1))).bind fun aY => (if ((rd_T95 x0 x5).f1).toList = aY.toList then ((laws_markText.f k (wrap64 ((wrap64 (x1 + 1)) + 1))).bind fun bB => (if ((rd_T95 x0 x5).f2).toList = bB.toList then (laws_heldFileS.l0 k x0 (wrap64 ((wrap64 ((wrap64 (x1 + 1)) + 1)) + 1)) (wrap64 (x5 + 1))) else (some (-1)))) else (some (-1)))) else (some (-1))) else (none)) else (some x1)
def laws_heldFileS.f (k : Nat) (l0 : List (S95)) (a1 : Int) : Option (Int) := laws_heldFileS.l0 k l0 a1 0
theorem u14_mq0 {p : Prop} (h : p := by repeat' first | (with_reducible first | exact bR _ _ _ | exact laws_markText.mono _ _ | exact LeO.refl _ | exact LeO.none _ | refine LeO.ite ?_ ?_ | refine LeO.bind ?_ (fun _ => ?_)) | exact bR _ _ _ | exact laws_markText.mono _ _ | exact LeO.none _ | refine LeO.ite ?_ ?_ | refine LeO.bind ?_ (fun _ => ?_)) : p := h
set_option maxRecDepth 100000 in
theorem laws_heldFileS.mono_l : ∀ k, (∀ y0 y1 y2, LeO (laws_heldFileS.l0 k y0 y1 y2) (laws_heldFileS.l0 (k + 1) y0 y1 y2))
 | 0 => fun _ _ _ r h => by simp [laws_heldFileS.l0] at h
 | k + 1 => by
  have bR := laws_heldFileS.mono_l k
  ·intro y0 y1 y2; unfold laws_heldFileS.l0; exact u14_mq0
theorem laws_heldFileS.mono : ∀ a0 a1 k, LeO (laws_heldFileS.f k a0 a1) (laws_heldFileS.f (k + 1) a0 a1) := by
 intro a0 a1 k
 have bR := laws_heldFileS.mono_l k
 unfold laws_heldFileS.f
 exact u14_mq0
def laws_heldFileS.T7 : Bool × List (List Nat × List Nat) := (true, [([], []), ([], []), ([0, 1], [0, 1]), ([2], [2]), ([3], [3]), ([], []), ([5], [5]), ([4, 6], [4, 6])])
def laws_heldFileS.B7 : List Nat := [0, 0, 3, 7, 15, 0, 32, 127]
theorem laws_heldFileS.tab7 : rtab .any (opsOf Try.f125 7) = laws_heldFileS.T7 := by kernel_rfl
theorem laws_heldFileS.bits7 : waitsOk laws_heldFileS.T7.2 laws_heldFileS.B7 = true := by kernel_rfl
def laws_heldFileS.T10 : Bool × List (List Nat × List Nat) := (true, [([], []), ([], []), ([0, 1], [0, 1]), ([2], [2]), ([3], [3]), ([], []), ([5], [5]), ([4, 6], [4, 6])])
def laws_heldFileS.B10 : List Nat := [0, 0, 3, 7, 15, 0, 32, 127]
theorem laws_heldFileS.tab10 : rtab .any (opsOf Try.f125 10) = laws_heldFileS.T10 := by kernel_rfl
theorem laws_heldFileS.bits10 : waitsOk laws_heldFileS.T10.2 laws_heldFileS.B10 = true := by kernel_rfl
set_option maxHeartbeats 8000000 in
set_option maxRecDepth 100000 in
theorem laws_heldFileS.calls (k : Nat) (A0 : Option Addr) (c0 : Nat) (l0 : List (S95)) (a1 : Int) (r : Int) (w : World) (cJ : Kd.C k95 w A0 l0.length l0) (cK : l0.length ≤ c0) (h : laws_heldFileS.f k l0 a1 = some r) :
 Calls Try.prog 125 #[.slice A0 l0.length c0, .int .i64 a1] w fun e w' => e = .returned (.int .i64 r) ∧ Below w.heap.size w w' := by
 have bH := aM cJ
 have cS := aM cK
 clear cJ cK
 have HB := aM (Below.refl w.heap.size w)
 have H : (laws_heldFileS.l0 k l0 a1 0) = some r := h
 clear h
 have H' := aM H
 clear H
 go_enter Try.func125, Try.ntmps125
 go_wp2
 go_loopg [1, 5] k (fun kq v1 v5 w' => ∃ (aP : Int) (aA : Int), v1 = .int .i64 aP ∧ v5 = .int .i64 aA ∧ Aside0 (laws_heldFileS.l0 kq l0 aP aA = some r) ∧ Aside0 (kq ≤ k) ∧ Aside0 (Below w.heap.size w w'))
 case atStart => exact ⟨(a1), (0), u14_0, u14_0, H', ⟨Nat.le_refl _⟩, ⟨xbel⟩⟩
 case round =>
  clear H'; try clear c1
  try clear p2
  obtain ⟨aP, aA, rfl, rfl, HA, HK1, HB⟩ := hrel; cases gk with
  | zero => exact absurd HA.out (by simp [laws_heldFileS.l0])
  | succ k1 =>
   have H := HA.out; clear HA; simp only [laws_heldFileS.l0] at H; by_cases c3 : aA < (l0.length : Int)
   ·rw [if_pos c3] at H; have bU : decide (aA < (l0.length : Int)) = true := decide_eq_true c3; clear c3; by_cases c4 : 0 ≤ aA
    ·rw [if_pos c4] at H; have bN : decide (0 ≤ aA) = true := decide_eq_true c4; clear c4; by_cases c5 : ((rd_T95 l0 aA).f0) = aP
     ·rw [if_pos c5] at H; obtain ⟨bV, bW⟩ := bT c5; clear c5; replace H := oB H; obtain ⟨aY, cL, H⟩ := H; (try dsimp only at H); have A6 := aM cL; clear cL
      by_cases c7 : ((rd_T95 l0 aA).f1).toList = aY.toList
      ·rw [if_pos c7] at H; obtain ⟨bX, bY⟩ := bT c7; clear c7; replace H := oB H; obtain ⟨bB, cM, H⟩ := H; (try dsimp only at H); have A8 := aM cM; clear cM
       by_cases c9 : ((rd_T95 l0 aA).f2).toList = bB.toList
       ·rw [if_pos c9] at H; obtain ⟨bZ, cA⟩ := bT c9; clear c9; have H' := aM H; clear H; have p669 : 0 ≤ (aA : Int) := oda; have q669 : aA < (l0.length : Int) := oda; obtain ⟨aB, aX, aF, aG, aH⟩ := at_T95 bH.out aA p669 q669; cases aX
        replace aF := xce HB aF; replace aG := xce HB aG; replace aH := xce HB aH; replace p669 := eq_true p669; replace q669 := eq_true q669; try go_wp2
        replace HB := lD HB; have p670 : 0 ≤ (aA : Int) := oda; have q670 : aA < (l0.length : Int) := oda; obtain ⟨aW, bC, aC, aD, aE⟩ := at_T95 bH.out aA p670 q670; have aL := aE; have aN := aD; have aO := aC; obtain rfl : aB = aW := (by injection bC); replace aC := xce HB aC; replace aD := xce HB aD; replace aE := xce HB aE; replace p670 := eq_true p670; replace q670 := eq_true q670; refine st_ 8 (fun w' => w'.cell? (aB.add ((aA).toNat * 3)) = some (.int .i64 ((rd_T95 l0 aA).f0)) ∧ w'.cell? ⟨(aB.add ((aA).toNat * 3)).block, (aB.add ((aA).toNat * 3)).off + 1, none⟩ = some (.string ((rd_T95 l0 aA).f1)) ∧ w'.cell? ⟨(aB.add ((aA).toNat * 3)).block, (aB.add ((aA).toNat * 3)).off + 2, none⟩ = some (.string ((rd_T95 l0 aA).f2))) laws_heldFileS.tab7 laws_heldFileS.bits7 ⟨(xce HB aO), (xce HB aN), (xce HB aL)⟩ (fun hHeld HT_ HW_ => ?_); generalize wr.drew = cO at HB aC aD aE hHeld ⊢; refine pv_ 0 21 (h := ?_); refine pv_ 1 22 (h := ?_); refine pv_ 2 23 (h := ?_); refine pv_ 3 24 (h := ?_); refine pv_ 5 26 (h := ?_); refine tk_ 4 25 (h := ?_); refine on_ 6 27 (h := fun K hK => ?_); refine goesY Try.func124 #[.int .i64 (wrap64 (aP + 1))] ?_; with_reducible refine (laws_markText.calls k1 (wrap64 (aP + 1)) aY _ A6.out).mono ?_
        rintro e cP ⟨rfl, hb⟩; refine ⟨_, rfl, ?_⟩; replace HB := xbs hb; (try clear hb); refine hK.out _ _ ⟨(xce HB aO), (xce HB aN), (xce HB aL)⟩ (fun hHeld => ?_); clear hK K; refine nm_ (N := 27) ?_; refine pv_ 7 28 (h := ?_); refine dn_ ?_; try go_wp2
        replace HB := lD HB; have p672 : 0 ≤ (aA : Int) := oda; have q672 : aA < (l0.length : Int) := oda; obtain ⟨bE, bM, aI, aJ, aK⟩ := at_T95 bH.out aA p672 q672; have aQ := aK; have aR := aJ; have aS := aI; obtain rfl : aB = bE := (by injection bM); replace aI := xce HB aI; replace aJ := xce HB aJ; replace aK := xce HB aK; replace p672 := eq_true p672; replace q672 := eq_true q672; refine st_ 8 (fun w' => w'.cell? (aB.add ((aA).toNat * 3)) = some (.int .i64 ((rd_T95 l0 aA).f0)) ∧ w'.cell? ⟨(aB.add ((aA).toNat * 3)).block, (aB.add ((aA).toNat * 3)).off + 1, none⟩ = some (.string ((rd_T95 l0 aA).f1)) ∧ w'.cell? ⟨(aB.add ((aA).toNat * 3)).block, (aB.add ((aA).toNat * 3)).off + 2, none⟩ = some (.string ((rd_T95 l0 aA).f2))) laws_heldFileS.tab10 laws_heldFileS.bits10 ⟨(xce HB aS), (xce HB aR), (xce HB aQ)⟩ (fun hHeld HT_ HW_ => ?_); generalize cP.drew = cT at HB aI aJ aK hHeld ⊢; refine pv_ 0 31 (h := ?_); refine pv_ 1 32 (h := ?_); refine pv_ 2 33 (h := ?_); refine pv_ 3 34 (h := ?_); refine pv_ 5 36 (h := ?_); refine tk_ 4 35 (h := ?_); refine on_ 6 37 (h := fun K hK => ?_); refine goesY Try.func124 #[.int .i64 (wrap64 ((wrap64 (aP + 1)) + 1))] ?_; with_reducible refine (laws_markText.calls k1 (wrap64 ((wrap64 (aP + 1)) + 1)) bB _ A8.out).mono ?_
        rintro e cU ⟨rfl, hb⟩; refine ⟨_, rfl, ?_⟩; replace HB := xbs hb; (try clear hb); refine hK.out _ _ ⟨(xce HB aS), (xce HB aR), (xce HB aQ)⟩ (fun hHeld => ?_); clear hK K; refine nm_ (N := 37) ?_; refine pv_ 7 38 (h := ?_); refine dn_ ?_; try go_wp2
        go_roundg k1
        case measure => have := HK1.out; omega
        case rel => exact ⟨(wrap64 ((wrap64 ((wrap64 (aP + 1)) + 1)) + 1)), (wrap64 (aA + 1)), u14_0, u14_0, H', ⟨by have := HK1.out; omega⟩, ⟨xbel⟩⟩
       ·rw [if_neg c9] at H; obtain ⟨bZ, cA⟩ := bF c9; obtain rfl := Option.some.inj H; have p669 : 0 ≤ (aA : Int) := oda; have q669 : aA < (l0.length : Int) := oda; obtain ⟨aB, aX, aF, aG, aH⟩ := at_T95 bH.out aA p669 q669; cases aX
        replace aF := xce HB aF; replace aG := xce HB aG; replace aH := xce HB aH; replace p669 := eq_true p669; replace q669 := eq_true q669; try go_wp2
        replace HB := lD HB; have p670 : 0 ≤ (aA : Int) := oda; have q670 : aA < (l0.length : Int) := oda; obtain ⟨aW, bC, aC, aD, aE⟩ := at_T95 bH.out aA p670 q670; have aL := aE; have aN := aD; have aO := aC; obtain rfl : aB = aW := (by injection bC); replace aC := xce HB aC; replace aD := xce HB aD; replace aE := xce HB aE; replace p670 := eq_true p670; replace q670 := eq_true q670; refine st_ 8 (fun w' => w'.cell? (aB.add ((aA).toNat * 3)) = some (.int .i64 ((rd_T95 l0 aA).f0)) ∧ w'.cell? ⟨(aB.add ((aA).toNat * 3)).block, (aB.add ((aA).toNat * 3)).off + 1, none⟩ = some (.string ((rd_T95 l0 aA).f1)) ∧ w'.cell? ⟨(aB.add ((aA).toNat * 3)).block, (aB.add ((aA).toNat * 3)).off + 2, none⟩ = some (.string ((rd_T95 l0 aA).f2))) laws_heldFileS.tab7 laws_heldFileS.bits7 ⟨(xce HB aO), (xce HB aN), (xce HB aL)⟩ (fun hHeld HT_ HW_ => ?_); generalize wr.drew = cV at HB aC aD aE hHeld ⊢; refine pv_ 0 21 (h := ?_); refine pv_ 1 22 (h := ?_); refine pv_ 2 23 (h := ?_); refine pv_ 3 24 (h := ?_); refine pv_ 5 26 (h := ?_); refine tk_ 4 25 (h := ?_); refine on_ 6 27 (h := fun K hK => ?_); refine goesY Try.func124 #[.int .i64 (wrap64 (aP + 1))] ?_; with_reducible refine (laws_markText.calls k1 (wrap64 (aP + 1)) aY _ A6.out).mono ?_
        rintro e cQ ⟨rfl, hb⟩; refine ⟨_, rfl, ?_⟩; replace HB := xbs hb; (try clear hb); refine hK.out _ _ ⟨(xce HB aO), (xce HB aN), (xce HB aL)⟩ (fun hHeld => ?_); clear hK K; refine nm_ (N := 27) ?_; refine pv_ 7 28 (h := ?_); refine dn_ ?_; try go_wp2
        replace HB := lD HB; have p672 : 0 ≤ (aA : Int) := oda; have q672 : aA < (l0.length : Int) := oda; obtain ⟨bE, bM, aI, aJ, aK⟩ := at_T95 bH.out aA p672 q672; have aQ := aK; have aR := aJ; have aS := aI; obtain rfl : aB = bE := (by injection bM); replace aI := xce HB aI; replace aJ := xce HB aJ; replace aK := xce HB aK; replace p672 := eq_true p672; replace q672 := eq_true q672; refine st_ 8 (fun w' => w'.cell? (aB.add ((aA).toNat * 3)) = some (.int .i64 ((rd_T95 l0 aA).f0)) ∧ w'.cell? ⟨(aB.add ((aA).toNat * 3)).block, (aB.add ((aA).toNat * 3)).off + 1, none⟩ = some (.string ((rd_T95 l0 aA).f1)) ∧ w'.cell? ⟨(aB.add ((aA).toNat * 3)).block, (aB.add ((aA).toNat * 3)).off + 2, none⟩ = some (.string ((rd_T95 l0 aA).f2))) laws_heldFileS.tab10 laws_heldFileS.bits10 ⟨(xce HB aS), (xce HB aR), (xce HB aQ)⟩ (fun hHeld HT_ HW_ => ?_); generalize cQ.drew = cW at HB aI aJ aK hHeld ⊢; refine pv_ 0 31 (h := ?_); refine pv_ 1 32 (h := ?_); refine pv_ 2 33 (h := ?_); refine pv_ 3 34 (h := ?_); refine pv_ 5 36 (h := ?_); refine tk_ 4 35 (h := ?_); refine on_ 6 37 (h := fun K hK => ?_); refine goesY Try.func124 #[.int .i64 (wrap64 ((wrap64 (aP + 1)) + 1))] ?_; with_reducible refine (laws_markText.calls k1 (wrap64 ((wrap64 (aP + 1)) + 1)) bB _ A8.out).mono ?_
        rintro e cX ⟨rfl, hb⟩; refine ⟨_, rfl, ?_⟩; replace HB := xbs hb; (try clear hb); refine hK.out _ _ ⟨(xce HB aS), (xce HB aR), (xce HB aQ)⟩ (fun hHeld => ?_); clear hK K; refine nm_ (N := 37) ?_; refine pv_ 7 38 (h := ?_); refine dn_ ?_; try go_wp2
        go_ret
        exact ⟨xerr, xbel⟩
      ·rw [if_neg c7] at H; obtain ⟨bX, bY⟩ := bF c7; obtain rfl := Option.some.inj H; have p669 : 0 ≤ (aA : Int) := oda; have q669 : aA < (l0.length : Int) := oda; obtain ⟨aB, aX, aF, aG, aH⟩ := at_T95 bH.out aA p669 q669; cases aX
       replace aF := xce HB aF; replace aG := xce HB aG; replace aH := xce HB aH; replace p669 := eq_true p669; replace q669 := eq_true q669; try go_wp2
       replace HB := lD HB; have p670 : 0 ≤ (aA : Int) := oda; have q670 : aA < (l0.length : Int) := oda; obtain ⟨aW, bC, aC, aD, aE⟩ := at_T95 bH.out aA p670 q670; have aL := aE; have aN := aD; have aO := aC; obtain rfl : aB = aW := (by injection bC); replace aC := xce HB aC; replace aD := xce HB aD; replace aE := xce HB aE; replace p670 := eq_true p670; replace q670 := eq_true q670; refine st_ 8 (fun w' => w'.cell? (aB.add ((aA).toNat * 3)) = some (.int .i64 ((rd_T95 l0 aA).f0)) ∧ w'.cell? ⟨(aB.add ((aA).toNat * 3)).block, (aB.add ((aA).toNat * 3)).off + 1, none⟩ = some (.string ((rd_T95 l0 aA).f1)) ∧ w'.cell? ⟨(aB.add ((aA).toNat * 3)).block, (aB.add ((aA).toNat * 3)).off + 2, none⟩ = some (.string ((rd_T95 l0 aA).f2))) laws_heldFileS.tab7 laws_heldFileS.bits7 ⟨(xce HB aO), (xce HB aN), (xce HB aL)⟩ (fun hHeld HT_ HW_ => ?_); generalize wr.drew = cY at HB aC aD aE hHeld ⊢; refine pv_ 0 21 (h := ?_); refine pv_ 1 22 (h := ?_); refine pv_ 2 23 (h := ?_); refine pv_ 3 24 (h := ?_); refine pv_ 5 26 (h := ?_); refine tk_ 4 25 (h := ?_); refine on_ 6 27 (h := fun K hK => ?_); refine goesY Try.func124 #[.int .i64 (wrap64 (aP + 1))] ?_; with_reducible refine (laws_markText.calls k1 (wrap64 (aP + 1)) aY _ A6.out).mono ?_
       rintro e cZ ⟨rfl, hb⟩; refine ⟨_, rfl, ?_⟩; replace HB := xbs hb; (try clear hb); refine hK.out _ _ ⟨(xce HB aO), (xce HB aN), (xce HB aL)⟩ (fun hHeld => ?_); clear hK K; refine nm_ (N := 27) ?_; refine pv_ 7 28 (h := ?_); refine dn_ ?_; try go_wp2
       go_ret
       exact ⟨xerr, xbel⟩
     ·rw [if_neg c5] at H; obtain ⟨bV, bW⟩ := bF c5; obtain rfl := Option.some.inj H; have p669 : 0 ≤ (aA : Int) := oda; have q669 : aA < (l0.length : Int) := oda; obtain ⟨aB, aX, aF, aG, aH⟩ := at_T95 bH.out aA p669 q669; cases aX
      replace aF := xce HB aF; replace aG := xce HB aG; replace aH := xce HB aH; replace p669 := eq_true p669; replace q669 := eq_true q669; go_wp2; go_ret
      exact ⟨xerr, xbel⟩
    ·rw [if_neg c4] at H; exact absurd H (by simp)
   ·rw [if_neg c3] at H; have bU : decide (aA < (l0.length : Int)) = false := decide_eq_false c3; clear c3; obtain rfl := Option.some.inj H; go_wp2; go_ret
    exact ⟨xerr, xbel⟩

/-! ### laws_heldDisk: function 65 -/
def laws_heldDisk.f (k : Nat) (bG : Int) (aT : List (S95)) (a1 : Int) : Option (Int) := (laws_heldFileS.f k aT a1).bind fun aU => (if aU < 0 then (some (-1)) else (some aU))
theorem u14_mq1 {p : Prop} (h : p := by repeat' first | (with_reducible first | exact laws_heldFileS.mono _ _ _ | exact LeO.refl _ | exact LeO.none _ | refine LeO.ite ?_ ?_ | refine LeO.bind ?_ (fun _ => ?_)) | exact laws_heldFileS.mono _ _ _ | exact LeO.none _ | refine LeO.ite ?_ ?_ | refine LeO.bind ?_ (fun _ => ?_)) : p := h
theorem laws_heldDisk.mono : ∀ a0 a1 a2 k, LeO (laws_heldDisk.f k a0 a1 a2) (laws_heldDisk.f (k + 1) a0 a1 a2) := by
 intro a0 a1 a2 k
 unfold laws_heldDisk.f
 exact u14_mq1
set_option maxHeartbeats 8000000 in
set_option maxRecDepth 100000 in
theorem laws_heldDisk.calls (k : Nat) (bG : Int) (aZ : Option Addr) (bA : Nat) (aT : List (S95)) (a1 : Int) (r : Int) (w : World) (bI : Kd.C k95 w aZ aT.length aT) (bJ : aT.length ≤ bA) (h : laws_heldDisk.f k bG aT a1 = some r) :
 Calls Try.prog 65 #[.agg #[.int .i64 bG, .slice aZ aT.length bA], .int .i64 a1] w fun e w' => e = .returned (.int .i64 r) ∧ Below w.heap.size w w' := by
 have cR := Try.underlying26
 have bK := aM bI
 have bL := aM bJ
 clear bI bJ
 have HB := aM (Below.refl w.heap.size w)
 have H : ((laws_heldFileS.f k aT a1).bind fun aU => (if aU < 0 then (some (-1)) else (some aU))) = some r := h
 clear h
 replace H := oB H
 obtain ⟨aU, cN, H⟩ := H
 (try dsimp only at H)
 have A3 := aM cN
 clear cN
 by_cases c4 : aU < 0
 ·rw [if_pos c4] at H; have bN : decide (aU < 0) = true := decide_eq_true c4; clear c4; obtain rfl := Option.some.inj H; go_enter Try.func65, Try.ntmps65
  go_wp2_with (first | ((with_reducible refine gD 2 rfl ?_); refine boxE (N := 2) rfl (cs := #[.int .i64 bG, .slice aZ aT.length bA]) (t := 26) ?_; intro bO hg w5 hbox hb; have aV := aM (hbox); have bP := aM (xge hg); have bQ := aM (xge hg); replace HB := xbs hb; clear hb hbox hg; obtain ⟨cB, cC, cD, cE⟩ := xf2 (w := w5) aV) | ((with_reducible refine gC 125 rfl ?_); refine goesLY (some 8) rfl Try.func125 #[.slice aZ aT.length bA, .int .i64 a1] ?_; (with_reducible refine (laws_heldFileS.calls k _ _ aT a1 aU _ ?side1 ?side2 A3.out).mono ?_); (case side1 => exact xcb bK); (case side2 => exact bL.out); rintro e w7 ⟨rfl, hb⟩; refine ⟨_, rfl, ?_⟩; replace aV := xbb aV hb; replace HB := xbs hb; (try clear hb)))
  go_ret
  exact ⟨xerr, xbg⟩
 ·rw [if_neg c4] at H; have bN : decide (aU < 0) = false := decide_eq_false c4; clear c4; obtain rfl := Option.some.inj H; go_enter Try.func65, Try.ntmps65
  go_wp2_with (first | ((with_reducible refine gD 2 rfl ?_); refine boxE (N := 2) rfl (cs := #[.int .i64 bG, .slice aZ aT.length bA]) (t := 26) ?_; intro bO hg w8 hbox hb; have aV := aM (hbox); have bP := aM (xge hg); have bQ := aM (xge hg); replace HB := xbs hb; clear hb hbox hg; obtain ⟨cF, cG, cH, cI⟩ := xf2 (w := w8) aV) | ((with_reducible refine gC 125 rfl ?_); refine goesLY (some 8) rfl Try.func125 #[.slice aZ aT.length bA, .int .i64 a1] ?_; (with_reducible refine (laws_heldFileS.calls k _ _ aT a1 aU _ ?side1 ?side2 A3.out).mono ?_); (case side1 => exact xcb bK); (case side2 => exact bL.out); rintro e cO ⟨rfl, hb⟩; refine ⟨_, rfl, ?_⟩; replace aV := xbb aV hb; replace HB := xbs hb; (try clear hb)))
  go_ret
  exact ⟨xerr, xbg⟩

end Go.Proofs.Ytoojdlobnbakoaa.QFnExactHardSave
