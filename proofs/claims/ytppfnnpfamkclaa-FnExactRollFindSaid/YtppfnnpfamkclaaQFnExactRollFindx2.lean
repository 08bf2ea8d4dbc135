-- A walk, by a program of this session.
import Derived.Test.YtppfnnpfamkclaaQFnExactRollFindx0
import Derived.Test.YtppfnnpfamkclaaQFnExactRollFindx1
namespace Go.Proofs.Ytppfnnpfamkclaa.QFnExactRollFind
open Go.RowKit Go.Proofs.YtppfnnpfamkclaaW.PrintWords Go.Proofs.YtppfnnpfamkclaaW.PrintLast Go.Proofs.YtppfnnpfamkclaaW.PrintMore
attribute [local go_sem] max2_int min2_int max_two min_two max_three min_three max_four min_four   -- for this text's walks alone
set_option linter.unusedVariables false
set_option linter.unusedSimpArgs false

theorem u2_0 {p : Prop} (h : p := by first | rfl | (simp; done) | (simp [*]; done)) : p := h
theorem u2_1 {p : Prop} (h : p := by first | (go_simp; done) | (go_simp; rfl)) : p := h
theorem u2_2 {p : Prop} (h : p := by repeat (first | exact Drawn0.refl _ | apply Drawn0.step)) : p := h
theorem u2_3 {p : Prop} (h : p := by repeat (first | (with_reducible first | exact HK.out | apply Kept.alloc | apply Kept.drewN | apply Kept.drew) | exact HK.out)) : p := h
theorem u2_4 {p : Prop} (h : p := by first | (rw [hY]; with_reducible exact H) | (have H2_ := oS H; rw [hY]; with_reducible exact H2_) | (have H2_ := oS H; with_reducible exact H2_) | with_reducible exact H | (rw [hY]; exact H) | exact H) : p := h
theorem u2_5 {p : Prop} (h : p := by (with_reducible repeat (first | apply Kd.R_alloc | apply Kd.R_drewN | apply Kd.R_drew)); exact cD.out) : p := h
/-! ### laws_eqRelS: function 29 -/
def laws_eqRelS.l0 : Nat → List (S38) → List (S38) → Int → Option (Bool)
 | 0, _, _, _ => none
 | k + 1, x0, x1, x5 => if x5 < (x0.length : Int) then (if 0 ≤ x5 then (if x5 < (x1.length : Int) then ((laws_eqRel.f k ((rd_T38 x0 x5).f0) ((rd_T38 x0 x5).f1) ((rd_T38 x0 x5).f2) ((rd_T38 x0 x5).f3) ((rd_T38 x0 x5).f4) ((rd_T38 x1 x5).f0) ((rd_T38 x1 x5).f1) ((rd_T38 x1 x5).f2) ((rd_T38 x1 x5).f3) ((rd_T38 x1 x5).f4)).bind fun dQ => (if dQ = true then (laws_eqRelS.l0 k x0 x1 (wrap64 (x5 + 1))) else (some false))) else (none)) else (none)) else (some true)
def laws_eqRelS.f (k : Nat) (l0 : List (S38)) (l1 : List (S38)) : Option (Bool) := if (l0.length : Int) = (l1.length : Int) then (laws_eqRelS.l0 k l0 l1 0) else (some false)
theorem u2_mq0 {p : Prop} (h : p := by repeat' first | (with_reducible first | exact dC _ _ _ | exact laws_eqRel.mono _ _ _ _ _ _ _ _ _ _ _ | exact LeO.refl _ | exact LeO.none _ | refine LeO.ite ?_ ?_ | refine LeO.bind ?_ (fun _ => ?_)) | exact LeO.none _ | refine LeO.ite ?_ ?_ | refine LeO.bind ?_ (fun _ => ?_)) : p := h
set_option maxRecDepth 100000 in
theorem laws_eqRelS.mono_l : ∀ k, (∀ y0 y1 y2, LeO (laws_eqRelS.l0 k y0 y1 y2) (laws_eqRelS.l0 (k + 1) y0 y1 y2))
 | 0 => fun _ _ _ r h => by simp [laws_eqRelS.l0] at h
 | k + 1 => by
  have dC := laws_eqRelS.mono_l k
  ·intro y0 y1 y2; unfold laws_eqRelS.l0; exact u2_mq0
theorem laws_eqRelS.mono : ∀ a0 a1 k, LeO (laws_eqRelS.f k a0 a1) (laws_eqRelS.f (k + 1) a0 a1) := by
 intro a0 a1 k
 have dC := laws_eqRelS.mono_l k
 unfold laws_eqRelS.f
 exact u2_mq0
def laws_eqRelS.T6 : Bool × List (List Nat × List Nat) := (true, [([], []), ([], []), ([0, 1], [0, 1]), ([2], [2]), ([], []), ([], []), ([4, 5], [4, 5]), ([6], [6]), ([3, 7], [3, 7]), ([8], [8])])
def laws_eqRelS.B6 : List Nat := [0, 0, 3, 7, 0, 0, 48, 112, 255, 511]
set_option maxHeartbeats 8000000 in
set_option maxRecDepth 100000 in
theorem laws_eqRelS.calls (k : Nat) (A0 : Option Addr) (c0 : Nat) (l0 : List (S38)) (A1 : Option Addr) (c1 : Nat) (l1 : List (S38)) (r : Bool) (w : World) (kM : Kd.C k38 w A0 l0.length l0) (kN : l0.length ≤ c0) (kO : Kd.C k38 w A1 l1.length l1) (kP : l1.length ≤ c1) (h : laws_eqRelS.f k l0 l1 = some r) :
 Calls Try.prog 29 #[.slice A0 l0.length c0, .slice A1 l1.length c1] w fun e w' => e = .returned (.bool r) ∧ Below w.heap.size w w' := by
 have lQ := Try.underlying38
 have kQ := aM kM
 have mD := aM kN
 clear kM kN
 have kR := aM kO
 have mE := aM kP
 clear kO kP
 have HB := aM (Below.refl w.heap.size w)
 have H : (if (l0.length : Int) = (l1.length : Int) then (laws_eqRelS.l0 k l0 l1 0) else (some false)) = some r := h
 clear h
 by_cases c3 : (l0.length : Int) = (l1.length : Int)
 ·rw [if_pos c3] at H; obtain ⟨cC, cX⟩ := bT c3; have dV : (l0.length == l1.length) = true := by first | simpa using c3 | (simp at c3 ⊢; omega)
  clear c3; have H' := aM H; clear H; go_enter Try.func29, Try.ntmps29
  go_wp2; go_loopg [5] k (fun kq v5 w' => ∃ (aA : Int), v5 = .int .i64 aA ∧ Aside0 (laws_eqRelS.l0 kq l0 l1 aA = some r) ∧ Aside0 (kq ≤ k) ∧ Aside0 (Below w.heap.size w w'))
  case atStart => exact ⟨(0), u2_0, H', ⟨Nat.le_refl _⟩, ⟨xbel⟩⟩
  case round =>
   clear H'; try clear c1
   try clear c2
   try clear p2
   try clear c3
   try clear cC
   try clear cX
   try clear dV
   obtain ⟨aA, rfl, HA, HK1, HB⟩ := hrel; cases gk with
   | zero => exact absurd HA.out (by simp [laws_eqRelS.l0])
   | succ k1 =>
    have H := HA.out; clear HA; simp only [laws_eqRelS.l0] at H; by_cases c4 : aA < (l0.length : Int)
    ·rw [if_pos c4] at H; have cY : decide (aA < (l0.length : Int)) = true := decide_eq_true c4; clear c4; by_cases c5 : 0 ≤ aA
     ·rw [if_pos c5] at H; have lR : decide (0 ≤ aA) = true := decide_eq_true c5; clear c5; by_cases c6 : aA < (l1.length : Int)
      ·rw [if_pos c6] at H; have dW : decide (aA < (l1.length : Int)) = true := decide_eq_true c6; clear c6; replace H := oB H; obtain ⟨dQ, dX, H⟩ := H; (try dsimp only at H); have A7 := aM dX; clear dX
       by_cases c8 : dQ = true
       ·subst c8; replace H := iT H; have H' := aM H; clear H; try go_wp2
        replace HB := lD HB; have p145 : 0 ≤ (aA : Int) := oda; have q145 : aA < (l0.length : Int) := oda; obtain ⟨aF, bQ, bR, dR, aJ, aK, aL, aN, aO, aZ, hi145_3⟩ := at_T38 kQ.out aA p145 q145; have bA := aO; have bB := aN; have bC := aL; have bE := aK; have bG := aJ; cases dR
        replace aJ := xce HB aJ; replace aK := xce HB aK; replace aL := xce HB aL; replace aN := xce HB aN; replace aO := xce HB aO; have bH := aM hi145_3; have cE := aM aZ; clear hi145_3 aZ; replace p145 := eq_true p145; replace q145 := eq_true q145; have p146 : 0 ≤ (aA : Int) := oda; have q146 : aA < (l1.length : Int) := oda; obtain ⟨aG, bU, bV, dS, aP, aQ, aR, aS, aT, bI, hi146_3⟩ := at_T38 kR.out aA p146 q146; have bJ := aT; have bK := aS; have bL := aR; have bM := aQ; have bN := aP; cases dS
        replace aP := xce HB aP; replace aQ := xce HB aQ; replace aR := xce HB aR; replace aS := xce HB aS; replace aT := xce HB aT; have bO := aM hi146_3; have cF := aM bI; clear hi146_3 bI; replace p146 := eq_true p146; replace q146 := eq_true q146; refine st_ 10 (fun w' => w'.cell? (aF.add ((aA).toNat * 5)) = some (.int .i64 ((rd_T38 l0 aA).f0)) ∧ w'.cell? ⟨(aF.add ((aA).toNat * 5)).block, (aF.add ((aA).toNat * 5)).off + 1, none⟩ = some (.int .i64 ((rd_T38 l0 aA).f1)) ∧ w'.cell? ⟨(aF.add ((aA).toNat * 5)).block, (aF.add ((aA).toNat * 5)).off + 2, none⟩ = some (.string ((rd_T38 l0 aA).f2)) ∧ w'.cell? ⟨(aF.add ((aA).toNat * 5)).block, (aF.add ((aA).toNat * 5)).off + 3, none⟩ = some (.slice bQ ((rd_T38 l0 aA).f3).length bR) ∧ w'.cell? ⟨(aF.add ((aA).toNat * 5)).block, (aF.add ((aA).toNat * 5)).off + 4, none⟩ = some (.int .i64 ((rd_T38 l0 aA).f4)) ∧ w'.cell? (aG.add ((aA).toNat * 5)) = some (.int .i64 ((rd_T38 l1 aA).f0)) ∧ w'.cell? ⟨(aG.add ((aA).toNat * 5)).block, (aG.add ((aA).toNat * 5)).off + 1, none⟩ = some (.int .i64 ((rd_T38 l1 aA).f1)) ∧ w'.cell? ⟨(aG.add ((aA).toNat * 5)).block, (aG.add ((aA).toNat * 5)).off + 2, none⟩ = some (.string ((rd_T38 l1 aA).f2)) ∧ w'.cell? ⟨(aG.add ((aA).toNat * 5)).block, (aG.add ((aA).toNat * 5)).off + 3, none⟩ = some (.slice bU ((rd_T38 l1 aA).f3).length bV) ∧ w'.cell? ⟨(aG.add ((aA).toNat * 5)).block, (aG.add ((aA).toNat * 5)).off + 4, none⟩ = some (.int .i64 ((rd_T38 l1 aA).f4))) laws_eqRelS.T6 laws_eqRelS.B6 ⟨(xce HB bG), (xce HB bE), (xce HB bC), (xce HB bB), (xce HB bA), (xce HB bN), (xce HB bM), (xce HB bL), (xce HB bK), (xce HB bJ)⟩ (fun hHeld HT_ HW_ => ?_); generalize wr.drew = w9 at HB bH bO aJ aK aL aN aO aP aQ aR aS aT hHeld ⊢; refine pV 0 17 ?_; refine pV 1 18 ?_; refine pV 2 19 ?_; refine pV 4 21 ?_; refine pV 5 22 ?_; refine pV 6 23 ?_; refine tK 3 20 ?_; refine tK 7 24 ?_; refine oN 8 25 fun K hK => ?_
        refine goesY Try.func16 #[.agg #[.int .i64 ((rd_T38 l0 aA).f0), .int .i64 ((rd_T38 l0 aA).f1), .string ((rd_T38 l0 aA).f2), .slice bQ ((rd_T38 l0 aA).f3).length bR, .int .i64 ((rd_T38 l0 aA).f4)], .agg #[.int .i64 ((rd_T38 l1 aA).f0), .int .i64 ((rd_T38 l1 aA).f1), .string ((rd_T38 l1 aA).f2), .slice bU ((rd_T38 l1 aA).f3).length bV, .int .i64 ((rd_T38 l1 aA).f4)]] ?_; with_reducible refine (laws_eqRel.calls k1 ((rd_T38 l0 aA).f0) ((rd_T38 l0 aA).f1) ((rd_T38 l0 aA).f2) _ _ ((rd_T38 l0 aA).f3) ((rd_T38 l0 aA).f4) ((rd_T38 l1 aA).f0) ((rd_T38 l1 aA).f1) ((rd_T38 l1 aA).f2) _ _ ((rd_T38 l1 aA).f3) ((rd_T38 l1 aA).f4) true _ ?side1 ?side2 ?side3 ?side4 A7.out).mono ?_
        (case side1 => exact xcb bH); (case side2 => exact cE.out); (case side3 => exact xcb bO); (case side4 => exact cF.out); rintro e kA ⟨rfl, hb⟩; refine ⟨_, rfl, ?_⟩; replace HB := xbs hb; (try clear hb); refine hK.out _ _ ⟨(xce HB bG), (xce HB bE), (xce HB bC), (xce HB bB), (xce HB bA), (xce HB bN), (xce HB bM), (xce HB bL), (xce HB bK), (xce HB bJ)⟩ (fun hHeld => ?_); clear hK K; refine nm_ (N := 25) ?_; refine pV 9 26 ?_; refine dn_ ?_; try go_wp2
        go_roundg k1
        case measure => have := HK1.out; omega
        case rel => exact ⟨(wrap64 (aA + 1)), u2_0, H', ⟨by have := HK1.out; omega⟩, ⟨xbel⟩⟩
       ·replace c8 := Bool.eq_false_iff.mpr c8; subst c8; replace H := iN H; obtain rfl := Option.some.inj H; try go_wp2
        replace HB := lD HB; have p145 : 0 ≤ (aA : Int) := oda; have q145 : aA < (l0.length : Int) := oda; obtain ⟨aF, bQ, bR, dR, aJ, aK, aL, aN, aO, aZ, hi145_3⟩ := at_T38 kQ.out aA p145 q145; have bA := aO; have bB := aN; have bC := aL; have bE := aK; have bG := aJ; cases dR
        replace aJ := xce HB aJ; replace aK := xce HB aK; replace aL := xce HB aL; replace aN := xce HB aN; replace aO := xce HB aO; have bH := aM hi145_3; have cE := aM aZ; clear hi145_3 aZ; replace p145 := eq_true p145; replace q145 := eq_true q145; have p146 : 0 ≤ (aA : Int) := oda; have q146 : aA < (l1.length : Int) := oda; obtain ⟨aG, bU, bV, dS, aP, aQ, aR, aS, aT, bI, hi146_3⟩ := at_T38 kR.out aA p146 q146; have bJ := aT; have bK := aS; have bL := aR; have bM := aQ; have bN := aP; cases dS
        replace aP := xce HB aP; replace aQ := xce HB aQ; replace aR := xce HB aR; replace aS := xce HB aS; replace aT := xce HB aT; have bO := aM hi146_3; have cF := aM bI; clear hi146_3 bI; replace p146 := eq_true p146; replace q146 := eq_true q146; refine st_ 10 (fun w' => w'.cell? (aF.add ((aA).toNat * 5)) = some (.int .i64 ((rd_T38 l0 aA).f0)) ∧ w'.cell? ⟨(aF.add ((aA).toNat * 5)).block, (aF.add ((aA).toNat * 5)).off + 1, none⟩ = some (.int .i64 ((rd_T38 l0 aA).f1)) ∧ w'.cell? ⟨(aF.add ((aA).toNat * 5)).block, (aF.add ((aA).toNat * 5)).off + 2, none⟩ = some (.string ((rd_T38 l0 aA).f2)) ∧ w'.cell? ⟨(aF.add ((aA).toNat * 5)).block, (aF.add ((aA).toNat * 5)).off + 3, none⟩ = some (.slice bQ ((rd_T38 l0 aA).f3).length bR) ∧ w'.cell? ⟨(aF.add ((aA).toNat * 5)).block, (aF.add ((aA).toNat * 5)).off + 4, none⟩ = some (.int .i64 ((rd_T38 l0 aA).f4)) ∧ w'.cell? (aG.add ((aA).toNat * 5)) = some (.int .i64 ((rd_T38 l1 aA).f0)) ∧ w'.cell? ⟨(aG.add ((aA).toNat * 5)).block, (aG.add ((aA).toNat * 5)).off + 1, none⟩ = some (.int .i64 ((rd_T38 l1 aA).f1)) ∧ w'.cell? ⟨(aG.add ((aA).toNat * 5)).block, (aG.add ((aA).toNat * 5)).off + 2, none⟩ = some (.string ((rd_T38 l1 aA).f2)) ∧ w'.cell? ⟨(aG.add ((aA).toNat * 5)).block, (aG.add ((aA).toNat * 5)).off + 3, none⟩ = some (.slice bU ((rd_T38 l1 aA).f3).length bV) ∧ w'.cell? ⟨(aG.add ((aA).toNat * 5)).block, (aG.add ((aA).toNat * 5)).off + 4, none⟩ = some (.int .i64 ((rd_T38 l1 aA).f4))) laws_eqRelS.T6 laws_eqRelS.B6 ⟨(xce HB bG), (xce HB bE), (xce HB bC), (xce HB bB), (xce HB bA), (xce HB bN), (xce HB bM), (xce HB bL), (xce HB bK), (xce HB bJ)⟩ (fun hHeld HT_ HW_ => ?_); generalize wr.drew = mF at HB bH bO aJ aK aL aN aO aP aQ aR aS aT hHeld ⊢; refine pV 0 17 ?_; refine pV 1 18 ?_; refine pV 2 19 ?_; refine pV 4 21 ?_; refine pV 5 22 ?_; refine pV 6 23 ?_; refine tK 3 20 ?_; refine tK 7 24 ?_; refine oN 8 25 fun K hK => ?_
        refine goesY Try.func16 #[.agg #[.int .i64 ((rd_T38 l0 aA).f0), .int .i64 ((rd_T38 l0 aA).f1), .string ((rd_T38 l0 aA).f2), .slice bQ ((rd_T38 l0 aA).f3).length bR, .int .i64 ((rd_T38 l0 aA).f4)], .agg #[.int .i64 ((rd_T38 l1 aA).f0), .int .i64 ((rd_T38 l1 aA).f1), .string ((rd_T38 l1 aA).f2), .slice bU ((rd_T38 l1 aA).f3).length bV, .int .i64 ((rd_T38 l1 aA).f4)]] ?_; with_reducible refine (laws_eqRel.calls k1 ((rd_T38 l0 aA).f0) ((rd_T38 l0 aA).f1) ((rd_T38 l0 aA).f2) _ _ ((rd_T38 l0 aA).f3) ((rd_T38 l0 aA).f4) ((rd_T38 l1 aA).f0) ((rd_T38 l1 aA).f1) ((rd_T38 l1 aA).f2) _ _ ((rd_T38 l1 aA).f3) ((rd_T38 l1 aA).f4) false _ ?side1 ?side2 ?side3 ?side4 A7.out).mono ?_
        (case side1 => exact xcb bH); (case side2 => exact cE.out); (case side3 => exact xcb bO); (case side4 => exact cF.out); rintro e mG ⟨rfl, hb⟩; refine ⟨_, rfl, ?_⟩; replace HB := xbs hb; (try clear hb); refine hK.out _ _ ⟨(xce HB bG), (xce HB bE), (xce HB bC), (xce HB bB), (xce HB bA), (xce HB bN), (xce HB bM), (xce HB bL), (xce HB bK), (xce HB bJ)⟩ (fun hHeld => ?_); clear hK K; refine nm_ (N := 25) ?_; refine pV 9 26 ?_; refine dn_ ?_; try go_wp2
        go_ret
        exact ⟨xerr, xbel⟩
      ·rw [if_neg c6] at H; exact absurd H (by simp)
     ·rw [if_neg c5] at H; exact absurd H (by simp)
    ·rw [if_neg c4] at H; have cY : decide (aA < (l0.length : Int)) = false := decide_eq_false c4; clear c4; obtain rfl := Option.some.inj H; go_wp2; go_ret
     exact ⟨xerr, xbel⟩
 ·rw [if_neg c3] at H; obtain ⟨cC, cX⟩ := bF c3; have dV : (l0.length == l1.length) = false := by first | simpa using c3 | (simp at c3 ⊢; omega)
  obtain rfl := Option.some.inj H; go_enter Try.func29, Try.ntmps29
  go_wp2; go_ret
  exact ⟨xerr, xbel⟩

/-! ### laws_eqRoll: function 10 -/
def laws_eqRoll.f (k : Nat) (aX : Int) (aH : List (S38)) (aY : Int) (aI : List Int) (bW : Int) (aV : List (S38)) (bX : Int) (aW : List Int) : Option (Bool) := if aX = bW then ((laws_eqRelS.f k aH aV).bind fun cZ => (if cZ = true then (if aY = bX then ((laws_eqIntS.f k aI aW).bind fun dA => (if dA = true then (some true) else (some false))) else (some false)) else (some false))) else (some false)
theorem u2_mq1 {p : Prop} (h : p := by repeat' first | (with_reducible first | exact laws_eqIntS.mono _ _ _ | exact laws_eqRelS.mono _ _ _ | exact LeO.refl _ | exact LeO.none _ | refine LeO.ite ?_ ?_ | refine LeO.bind ?_ (fun _ => ?_)) | exact LeO.none _ | refine LeO.ite ?_ ?_ | refine LeO.bind ?_ (fun _ => ?_)) : p := h
theorem laws_eqRoll.mono : ∀ a0 a1 a2 a3 a4 a5 a6 a7 k, LeO (laws_eqRoll.f k a0 a1 a2 a3 a4 a5 a6 a7) (laws_eqRoll.f (k + 1) a0 a1 a2 a3 a4 a5 a6 a7) := by
 intro a0 a1 a2 a3 a4 a5 a6 a7 k
 unfold laws_eqRoll.f
 exact u2_mq1
set_option maxHeartbeats 8000000 in
set_option maxRecDepth 100000 in
theorem laws_eqRoll.calls (k : Nat) (aX : Int) (bY : Option Addr) (bZ : Nat) (aH : List (S38)) (aY : Int) (cG : Option Addr) (cH : Nat) (aI : List Int) (bW : Int) (cA : Option Addr) (cB : Nat) (aV : List (S38)) (bX : Int) (cI : Option Addr) (cJ : Nat) (aW : List Int) (r : Bool) (w : World) (dD : Kd.C k38 w bY aH.length aH) (dE : aH.length ≤ bZ) (dF : Kd.C (Kd.int .i64) w cG aI.length aI) (dG : aI.length ≤ cH) (dH : Kd.C k38 w cA aV.length aV) (dI : aV.length ≤ cB) (dJ : Kd.C (Kd.int .i64) w cI aW.length aW) (dK : aW.length ≤ cJ) (h : laws_eqRoll.f k aX aH aY aI bW aV bX aW = some r) :
 Calls Try.prog 10 #[.agg #[.int .i64 aX, .slice bY aH.length bZ, .int .i64 aY, .slice cG aI.length cH], .agg #[.int .i64 bW, .slice cA aV.length cB, .int .i64 bX, .slice cI aW.length cJ]] w fun e w' => e = .returned (.bool r) ∧ Below w.heap.size w w' := by
 have lS := Try.underlying30
 have cM := aM dD
 have cN := aM dE
 clear dD dE
 have dL := aM dF
 have dM := aM dG
 clear dF dG
 have cO := aM dH
 have cP := aM dI
 clear dH dI
 have dN := aM dJ
 have dO := aM dK
 clear dJ dK
 have HB := aM (Below.refl w.heap.size w)
 have H : (if aX = bW then ((laws_eqRelS.f k aH aV).bind fun cZ => (if cZ = true then (if aY = bX then ((laws_eqIntS.f k aI aW).bind fun dA => (if dA = true then (some true) else (some false))) else (some false)) else (some false))) else (some false)) = some r := h
 clear h
 by_cases c3 : aX = bW
 ·rw [if_pos c3] at H; obtain ⟨cC, cX⟩ := bT c3; clear c3; replace H := oB H; obtain ⟨cZ, kS, H⟩ := H; (try dsimp only at H); have A4 := aM kS; clear kS
  by_cases c5 : cZ = true
  ·subst c5; replace H := iT H; by_cases c6 : aY = bX
   ·rw [if_pos c6] at H; obtain ⟨dW, kB⟩ := bT c6; clear c6; replace H := oB H; obtain ⟨dA, dX, H⟩ := H; (try dsimp only at H); have A7 := aM dX; clear dX
    by_cases c8 : dA = true
    ·subst c8; replace H := iT H; obtain rfl := Option.some.inj H; go_enter Try.func10, Try.ntmps10
     go_wp2_with (first | ((with_reducible refine gD 2 rfl ?_); refine boxE (N := 2) rfl (cs := #[.int .i64 aX, .slice bY aH.length bZ, .int .i64 aY, .slice cG aI.length cH]) (t := 30) ?_; intro cQ hg w9 hbox hb; have aB := aM (hbox); have cS := aM (xge hg); have cT := aM (xge hg); replace HB := xbs hb; clear hb hbox hg) | ((with_reducible refine gD 3 rfl ?_); refine boxE (N := 3) rfl (cs := #[.int .i64 bW, .slice cA aV.length cB, .int .i64 bX, .slice cI aW.length cJ]) (t := 30) ?_; intro cU hg kA hbox hb; have cV := aM (xge hg); have cW := aM (xge hg); replace HB := xbs hb; have aC := nblt aB hg; have aD := nbgt aB hg; replace aB := xbb aB hb; have aE := aM (hbox); clear hb hbox hg; have kT := aC.out; have kU := aD.out; obtain ⟨eC, eD, eE, eF, eG, eH, eI, eJ⟩ := xf4 (w := kA) aB; obtain ⟨eK, eL, eM, eN, eO, eP, eQ, eR⟩ := xf4 (w := kA) aE) | ((with_reducible refine gC 29 rfl ?_); refine goesLY (some 14) rfl Try.func29 #[.slice bY aH.length bZ, .slice cA aV.length cB] ?_; (with_reducible refine (laws_eqRelS.calls k _ _ aH _ _ aV true _ ?side1 ?side2 ?side3 ?side4 A4.out).mono ?_); (case side1 => exact xcb cM); (case side2 => exact cN.out); (case side3 => exact xcb cO); (case side4 => exact cP.out); rintro e kV ⟨rfl, hb⟩; refine ⟨_, rfl, ?_⟩; replace aB := xbb aB hb; replace aE := xbb aE hb; replace HB := xbs hb; (try clear hb); obtain ⟨eS, eT, eU, eV, eW, eX, eY, eZ⟩ := xf4 (w := kV) aB; obtain ⟨fA, fB, fC, fD, fE, fF, fG, fH⟩ := xf4 (w := kV) aE) | ((with_reducible refine gC 9 rfl ?_); refine goesLY (some 25) rfl Try.func9 #[.slice cG aI.length cH, .slice cI aW.length cJ] ?_; (with_reducible refine (laws_eqIntS.calls k _ _ aI _ _ aW true _ ?side1 ?side2 ?side3 ?side4 A7.out).mono ?_); (case side1 => exact xcb dL); (case side2 => exact dM.out); (case side3 => exact xcb dN); (case side4 => exact dO.out); rintro e w' ⟨rfl, ⟨nd, rfl⟩⟩; refine ⟨_, rfl, ?_⟩))
     go_ret
     exact ⟨xerr, xbg⟩
    ·replace c8 := Bool.eq_false_iff.mpr c8; subst c8; replace H := iN H; obtain rfl := Option.some.inj H; go_enter Try.func10, Try.ntmps10
     go_wp2_with (first | ((with_reducible refine gD 2 rfl ?_); refine boxE (N := 2) rfl (cs := #[.int .i64 aX, .slice bY aH.length bZ, .int .i64 aY, .slice cG aI.length cH]) (t := 30) ?_; intro cQ hg mH hbox hb; have aB := aM (hbox); have cS := aM (xge hg); have cT := aM (xge hg); replace HB := xbs hb; clear hb hbox hg) | ((with_reducible refine gD 3 rfl ?_); refine boxE (N := 3) rfl (cs := #[.int .i64 bW, .slice cA aV.length cB, .int .i64 bX, .slice cI aW.length cJ]) (t := 30) ?_; intro cU hg kW hbox hb; have cV := aM (xge hg); have cW := aM (xge hg); replace HB := xbs hb; have aC := nblt aB hg; have aD := nbgt aB hg; replace aB := xbb aB hb; have aE := aM (hbox); clear hb hbox hg; have kX := aC.out; have kY := aD.out; obtain ⟨fI, fJ, fK, fL, fM, fN, fO, fP⟩ := xf4 (w := kW) aB; obtain ⟨fQ, fR, fS, fT, fU, fV, fW, fX⟩ := xf4 (w := kW) aE) | ((with_reducible refine gC 29 rfl ?_); refine goesLY (some 14) rfl Try.func29 #[.slice bY aH.length bZ, .slice cA aV.length cB] ?_; (with_reducible refine (laws_eqRelS.calls k _ _ aH _ _ aV true _ ?side1 ?side2 ?side3 ?side4 A4.out).mono ?_); (case side1 => exact xcb cM); (case side2 => exact cN.out); (case side3 => exact xcb cO); (case side4 => exact cP.out); rintro e kZ ⟨rfl, hb⟩; refine ⟨_, rfl, ?_⟩; replace aB := xbb aB hb; replace aE := xbb aE hb; replace HB := xbs hb; (try clear hb); obtain ⟨fY, fZ, gA, gB, gE, gF, gG, gH⟩ := xf4 (w := kZ) aB; obtain ⟨gI, gJ, gK, gL, gM, gN, gO, gP⟩ := xf4 (w := kZ) aE) | ((with_reducible refine gC 9 rfl ?_); refine goesLY (some 25) rfl Try.func9 #[.slice cG aI.length cH, .slice cI aW.length cJ] ?_; (with_reducible refine (laws_eqIntS.calls k _ _ aI _ _ aW false _ ?side1 ?side2 ?side3 ?side4 A7.out).mono ?_); (case side1 => exact xcb dL); (case side2 => exact dM.out); (case side3 => exact xcb dN); (case side4 => exact dO.out); rintro e w' ⟨rfl, ⟨nd, rfl⟩⟩; refine ⟨_, rfl, ?_⟩))
     go_ret
     exact ⟨xerr, xbg⟩
   ·rw [if_neg c6] at H; obtain ⟨dW, kB⟩ := bF c6; obtain rfl := Option.some.inj H; go_enter Try.func10, Try.ntmps10
    go_wp2_with (first | ((with_reducible refine gD 2 rfl ?_); refine boxE (N := 2) rfl (cs := #[.int .i64 aX, .slice bY aH.length bZ, .int .i64 aY, .slice cG aI.length cH]) (t := 30) ?_; intro cQ hg mI hbox hb; have aB := aM (hbox); have cS := aM (xge hg); have cT := aM (xge hg); replace HB := xbs hb; clear hb hbox hg) | ((with_reducible refine gD 3 rfl ?_); refine boxE (N := 3) rfl (cs := #[.int .i64 bW, .slice cA aV.length cB, .int .i64 bX, .slice cI aW.length cJ]) (t := 30) ?_; intro cU hg lA hbox hb; have cV := aM (xge hg); have cW := aM (xge hg); replace HB := xbs hb; have aC := nblt aB hg; have aD := nbgt aB hg; replace aB := xbb aB hb; have aE := aM (hbox); clear hb hbox hg; have lB := aC.out; have lC := aD.out; obtain ⟨gQ, gR, gS, gT, gU, gV, gW, gX⟩ := xf4 (w := lA) aB; obtain ⟨gY, gZ, hJ, hU, hX, hZ, iA, iB⟩ := xf4 (w := lA) aE) | ((with_reducible refine gC 29 rfl ?_); refine goesLY (some 14) rfl Try.func29 #[.slice bY aH.length bZ, .slice cA aV.length cB] ?_; (with_reducible refine (laws_eqRelS.calls k _ _ aH _ _ aV true _ ?side1 ?side2 ?side3 ?side4 A4.out).mono ?_); (case side1 => exact xcb cM); (case side2 => exact cN.out); (case side3 => exact xcb cO); (case side4 => exact cP.out); rintro e lE ⟨rfl, hb⟩; refine ⟨_, rfl, ?_⟩; replace aB := xbb aB hb; replace aE := xbb aE hb; replace HB := xbs hb; (try clear hb); obtain ⟨iC, iD, iE, iF, iG, iH, iI, iJ⟩ := xf4 (w := lE) aB; obtain ⟨iK, iL, iM, iO, iP, iQ, iR, iS⟩ := xf4 (w := lE) aE))
    go_ret
    exact ⟨xerr, xbg⟩
  ·replace c5 := Bool.eq_false_iff.mpr c5; subst c5; replace H := iN H; obtain rfl := Option.some.inj H; go_enter Try.func10, Try.ntmps10
   go_wp2_with (first | ((with_reducible refine gD 2 rfl ?_); refine boxE (N := 2) rfl (cs := #[.int .i64 aX, .slice bY aH.length bZ, .int .i64 aY, .slice cG aI.length cH]) (t := 30) ?_; intro cQ hg mJ hbox hb; have aB := aM (hbox); have cS := aM (xge hg); have cT := aM (xge hg); replace HB := xbs hb; clear hb hbox hg) | ((with_reducible refine gD 3 rfl ?_); refine boxE (N := 3) rfl (cs := #[.int .i64 bW, .slice cA aV.length cB, .int .i64 bX, .slice cI aW.length cJ]) (t := 30) ?_; intro cU hg lF hbox hb; have cV := aM (xge hg); have cW := aM (xge hg); replace HB := xbs hb; have aC := nblt aB hg; have aD := nbgt aB hg; replace aB := xbb aB hb; have aE := aM (hbox); clear hb hbox hg; have lG := aC.out; have lH := aD.out; obtain ⟨iU, iV, iW, iX, iY, iZ, jA, jB⟩ := xf4 (w := lF) aB; obtain ⟨jC, jD, jE, jF, jG, jH, jI, jJ⟩ := xf4 (w := lF) aE) | ((with_reducible refine gC 29 rfl ?_); refine goesLY (some 14) rfl Try.func29 #[.slice bY aH.length bZ, .slice cA aV.length cB] ?_; (with_reducible refine (laws_eqRelS.calls k _ _ aH _ _ aV false _ ?side1 ?side2 ?side3 ?side4 A4.out).mono ?_); (case side1 => exact xcb cM); (case side2 => exact cN.out); (case side3 => exact xcb cO); (case side4 => exact cP.out); rintro e mK ⟨rfl, hb⟩; refine ⟨_, rfl, ?_⟩; replace aB := xbb aB hb; replace aE := xbb aE hb; replace HB := xbs hb; (try clear hb)))
   go_ret
   exact ⟨xerr, xbg⟩
 ·rw [if_neg c3] at H; obtain ⟨cC, cX⟩ := bF c3; obtain rfl := Option.some.inj H; go_enter Try.func10, Try.ntmps10
  go_wp2_with (first | ((with_reducible refine gD 2 rfl ?_); refine boxE (N := 2) rfl (cs := #[.int .i64 aX, .slice bY aH.length bZ, .int .i64 aY, .slice cG aI.length cH]) (t := 30) ?_; intro cQ hg mL hbox hb; have aB := aM (hbox); have cS := aM (xge hg); have cT := aM (xge hg); replace HB := xbs hb; clear hb hbox hg) | ((with_reducible refine gD 3 rfl ?_); refine boxE (N := 3) rfl (cs := #[.int .i64 bW, .slice cA aV.length cB, .int .i64 bX, .slice cI aW.length cJ]) (t := 30) ?_; intro cU hg lI hbox hb; have cV := aM (xge hg); have cW := aM (xge hg); replace HB := xbs hb; have aC := nblt aB hg; have aD := nbgt aB hg; replace aB := xbb aB hb; have aE := aM (hbox); clear hb hbox hg; have lJ := aC.out; have lK := aD.out; obtain ⟨jK, jL, jM, jN, jO, jP, jQ, jR⟩ := xf4 (w := lI) aB; obtain ⟨jS, jT, jU, jV, jW, jX, jY, jZ⟩ := xf4 (w := lI) aE))
  go_ret
  exact ⟨xerr, xbg⟩

/-! ### laws_markIntS: function 12 -/
def laws_markIntS.l0 : Nat → List Int → Int → Int → Option (Int × List Int)
 | 0, _, _, _ => none
 | k + 1, x0, x1, x5 => if x5 < (x0.length : Int) then (if 0 ≤ x5 then (laws_markIntS.l0 k (x0.set (x5 : Int).toNat x1) (wrap64 (x1 + 1)) (wrap64 (x5 + 1))) else (none)) else (some (x1, x0))
def laws_markIntS.f (k : Nat) (l0 : List Int) (a1 : Int) : Option (Int × List Int) := laws_markIntS.l0 k l0 a1 0
theorem u2_mq2 {p : Prop} (h : p := by repeat' first | (with_reducible first | exact dC _ _ _ | exact LeO.refl _ | exact LeO.none _ | refine LeO.ite ?_ ?_ | refine LeO.bind ?_ (fun _ => ?_)) | exact LeO.none _ | refine LeO.ite ?_ ?_ | refine LeO.bind ?_ (fun _ => ?_)) : p := h
set_option maxRecDepth 100000 in
theorem laws_markIntS.mono_l : ∀ k, (∀ y0 y1 y2, LeO (laws_markIntS.l0 k y0 y1 y2) (laws_markIntS.l0 (k + 1) y0 y1 y2))
 | 0 => fun _ _ _ r h => by simp [laws_markIntS.l0] at h
 | k + 1 => by
  have dC := laws_markIntS.mono_l k
  ·intro y0 y1 y2; unfold laws_markIntS.l0; exact u2_mq2
theorem laws_markIntS.mono : ∀ a0 a1 k, LeO (laws_markIntS.f k a0 a1) (laws_markIntS.f (k + 1) a0 a1) := by
 intro a0 a1 k
 have dC := laws_markIntS.mono_l k
 unfold laws_markIntS.f
 exact u2_mq2
set_option maxHeartbeats 8000000 in
set_option maxRecDepth 100000 in
theorem laws_markIntS.calls (k : Nat) (P0_ : Nat → Prop) (u9000_ : Value) (l0 : List Int) (a1 : Int) (r1 : Int) (r2 : List Int) (w0 w : World) (hB : Below w0.heap.size w0 w) (lT : Kd.R (Kd.int .i64) 3 w w0.heap.size P0_ u9000_ l0) (h : laws_markIntS.f k l0 a1 = some (r1, r2)) :
 Calls Try.prog 12 #[u9000_, .int .i64 a1] w fun e w' => e = .returned (.int .i64 r1) ∧ Kd.R (Kd.int .i64) 3 w' w0.heap.size (fun k_ => (P0_ k_ ∨ w.heap.size ≤ k_)) u9000_ r2 ∧ Below w0.heap.size w0 w' ∧ Kept w w' (fun k_ => P0_ k_) := by
 have lU := aM (show Kd.R (Kd.int .i64) 3 w w0.heap.size (fun k_ => (P0_ k_ ∨ w.heap.size ≤ k_)) u9000_ l0 from Kd.R_mono lT (fun k_ hk => (.inl hk)))
 have HK := aM (Kept.refl w (fun k_ => P0_ k_))
 have HW0 := aM hB.size
 have HB := aM hB
 clear hB
 have H : (laws_markIntS.l0 k l0 a1 0) = some (r1, r2) := h
 clear h
 have H' := aM H
 clear H
 go_enter Try.func12, Try.ntmps12
 go_wp2
 go_loopg [1, 5] k (fun kq v1 v5 w' => ∃ (aU : List Int) (cL : Int) (aA : Int), v1 = .int .i64 cL ∧ v5 = .int .i64 aA ∧ Aside0 (laws_markIntS.l0 kq aU cL aA = some (r1, r2)) ∧ Aside0 (kq ≤ k) ∧ Aside0 (Kd.R (Kd.int .i64) 3 w' w0.heap.size (fun k_ => (P0_ k_ ∨ w.heap.size ≤ k_)) u9000_ aU) ∧ Aside0 (Kept w w' (fun k_ => P0_ k_)) ∧ Aside0 (Below w0.heap.size w0 w'))
 case atStart => exact ⟨(l0), (a1), (0), u2_0, u2_0, H', ⟨Nat.le_refl _⟩, ⟨by (with_reducible repeat (first | apply Kd.R_alloc | apply Kd.R_drewN | apply Kd.R_drew)); exact lU.out⟩, ⟨u2_3⟩, ⟨xbel⟩⟩
 case round =>
  clear H'; try clear c1
  try clear p2
  obtain ⟨aU, cL, aA, rfl, rfl, HA, HK1, cD, HK, HB⟩ := hrel; cases gk with
  | zero => exact absurd HA.out (by simp [laws_markIntS.l0])
  | succ k1 =>
   have H := HA.out; clear HA; simp only [laws_markIntS.l0] at H; by_cases c3 : aA < (aU.length : Int)
   ·rw [if_pos c3] at H; have cC : decide (aA < (aU.length : Int)) = true := decide_eq_true c3; clear c3; by_cases c4 : 0 ≤ aA
    ·rw [if_pos c4] at H; have cY : decide (0 ≤ aA) = true := decide_eq_true c4; clear c4; obtain ⟨dU, hY⟩ : ∃ y_ : List Int, y_ = (aU.set (aA : Int).toNat cL) := ⟨_, rfl⟩; replace H : (laws_markIntS.l0 k1 dU (wrap64 (cL + 1)) (wrap64 (aA + 1))) = some (r1, r2) := u2_4; have dY := aM hY; clear hY; have H' := aM H; clear H; obtain ⟨mM, lV, lW⟩ := Kd.R_slice cD.out; subst lW; have p5 : 0 ≤ (aA : Int) := oda; have q5 : (aA : Int) < ((aU.length : Int) : Int) := oda; obtain ⟨dZ, mN, lL, lM, gl5, cl5, HG5⟩ := Kd.R_form cD.out (by omega); (first | cases lL | (injection lL with ea_ en_ ec_; (first | subst ea_ | (injection ea_ with ea_; subst ea_)); subst ec_; clear en_)); have GB5 := aM lM; have GG5 := aM HG5; clear lM gl5 HG5; have HMgo5 := aM (show (P0_ dZ ∨ w.heap.size ≤ dZ) from (cD.out.1 _ rfl)); obtain ⟨lN, lO⟩ := Kd.R_celln 0 cD.out (aA : Int) p5 q5; replace p5 := eq_true p5; replace q5 := eq_true q5; have kC := Kd.R_putg cD.out (aA : Int) cL; go_wp2_with (first | ((with_reducible refine gate_store (t := 3) (p := 15) rfl ?_); refine store_event (t := 3) (p := 15) (v := ?vo_w8) (w1 := (wr.setCell ⟨dZ, (aA : Int).toNat, none⟩ (.int .i64 cL))) ?hg ?ho ?hn ?hr ?_; (case ho | hg | hn => rfl); (case hr => exact u2_1); intro w8 hw; have hg : wr.grownBy w8 (some dZ) := (by rw [hw]; exact kC.2); have hp_ : Kd.R (Kd.int .i64) 3 w8 w0.heap.size (fun k_ => (P0_ k_ ∨ w.heap.size ≤ k_)) (.slice (some ⟨dZ, 0, none⟩) aU.length lV) dU := (by rw [hw, dY.out]; exact kC.1); clear kC; replace HB := aM ((by rw [hw]; exact below_set (HB.out) GB5.out : Below w0.heap.size w0 w8)); replace HK := aM (Kept.of_grown (S := (fun k_ => P0_ k_)) hg u2_3 (fun k_ e_ => (cD.out.1 k_ e_))); replace cD := aM (hp_); clear hg hw hp_))
     go_roundg k1
     case measure => have := HK1.out; omega
     case rel => exact ⟨(dU), (wrap64 (cL + 1)), (wrap64 (aA + 1)), u2_0, u2_0, H', ⟨by have := HK1.out; omega⟩, ⟨u2_5⟩, ⟨u2_3⟩, ⟨xbel⟩⟩
    ·rw [if_neg c4] at H; exact absurd H (by simp)
   ·rw [if_neg c3] at H; have cC : decide (aA < (aU.length : Int)) = false := decide_eq_false c3; clear c3; simp only [Option.some.injEq, Prod.mk.injEq] at H; obtain ⟨rfl, rfl⟩ := H; obtain ⟨mO, mP, lX⟩ := Kd.R_slice cD.out; subst lX; go_wp2; go_ret
    exact ⟨xerr, u2_5, xbel, u2_3⟩

/-! ### laws_markText: function 44 -/
def laws_markText.l0 : Nat → Int → ByteArray → Option (ByteArray)
 | 0, _, _ => none
 | k + 1, x0, x3 => if x0 > 0 then ((some (([(wrap64 (48 + (Int.tmod x0 10))) % 256] : List Int) : List Int)).bind fun cK => (if (strOfNums cK).size + x3.size ≤ 9223372036854775807 then (laws_markText.l0 k (wrap64 (Int.tdiv x0 10)) ((strOfNums cK) ++ x3)) else (none))) else (if 1 + x3.size ≤ 9223372036854775807 then (some ((⟨#[109]⟩ : ByteArray) ++ x3)) else (none))
def laws_markText.f (k : Nat) (a0 : Int) : Option (ByteArray) := if a0 ≤ 0 then (some (⟨#[109, 48]⟩ : ByteArray)) else (laws_markText.l0 k a0 (⟨#[]⟩ : ByteArray))
theorem u2_mq3 {p : Prop} (h : p := by repeat' first | (with_reducible first | exact dC _ _ | exact LeO.refl _ | exact LeO.none _ | refine LeO.ite ?_ ?_ | refine LeO.bind ?_ (fun _ => ?_)) | exact LeO.none _ | refine LeO.ite ?_ ?_ | refine LeO.bind ?_ (fun _ => ?_)) : p := h
set_option maxRecDepth 100000 in
theorem laws_markText.mono_l : ∀ k, (∀ y0 y1, LeO (laws_markText.l0 k y0 y1) (laws_markText.l0 (k + 1) y0 y1))
 | 0 => fun _ _ r h => by simp [laws_markText.l0] at h
 | k + 1 => by
  have dC := laws_markText.mono_l k
  ·intro y0 y1; unfold laws_markText.l0; exact u2_mq3
theorem laws_markText.mono : ∀ a0 k, LeO (laws_markText.f k a0) (laws_markText.f (k + 1) a0) := by
 intro a0 k
 have dC := laws_markText.mono_l k
 unfold laws_markText.f
 exact u2_mq3
set_option maxHeartbeats 8000000 in
set_option maxRecDepth 100000 in
theorem laws_markText.calls (k : Nat) (a0 : Int) (r : ByteArray) (w : World) (h : laws_markText.f k a0 = some r) :
 Calls Try.prog 44 #[.int .i64 a0] w fun e w' => e = .returned (.string r) ∧ Below w.heap.size w w' := by
 have HB := aM (Below.refl w.heap.size w)
 have H : (if a0 ≤ 0 then (some (⟨#[109, 48]⟩ : ByteArray)) else (laws_markText.l0 k a0 (⟨#[]⟩ : ByteArray))) = some r := h
 clear h
 by_cases c2 : a0 ≤ 0
 ·rw [if_pos c2] at H; have dB : decide (a0 ≤ 0) = true := decide_eq_true c2; clear c2; obtain rfl := Option.some.inj H; go_enter Try.func44, Try.ntmps44
  go_wp2; go_ret
  exact ⟨xerr, xbel⟩
 ·rw [if_neg c2] at H; have dB : decide (a0 ≤ 0) = false := decide_eq_false c2; clear c2; have H' := aM H; clear H; go_enter Try.func44, Try.ntmps44
  go_wp2; go_loopg [0, 3] k (fun kq v0 v3 w' => ∃ (aU : Int) (bP : ByteArray), v0 = .int .i64 aU ∧ v3 = .string bP ∧ Aside0 (laws_markText.l0 kq aU bP = some r) ∧ Aside0 (kq ≤ k) ∧ Aside0 (Below w.heap.size w w'))
  case atStart => exact ⟨(a0), ((⟨#[]⟩ : ByteArray)), u2_0, u2_0, H', ⟨Nat.le_refl _⟩, ⟨xbel⟩⟩
  case round =>
   clear H'; try clear c2
   try clear dB
   try clear p2
   obtain ⟨aU, bP, rfl, rfl, HA, HK1, HB⟩ := hrel; cases gk with
   | zero => exact absurd HA.out (by simp [laws_markText.l0])
   | succ k1 =>
    have H := HA.out; clear HA; simp only [laws_markText.l0] at H; by_cases c3 : aU > 0
    ·rw [if_pos c3] at H; have cC : decide (0 < aU) = true := decide_eq_true c3; clear c3; obtain ⟨cK, hY⟩ : ∃ y_ : List Int, y_ = (([(wrap64 (48 + (Int.tmod aU 10))) % 256] : List Int)) := ⟨_, rfl⟩; replace H : (if (strOfNums cK).size + bP.size ≤ 9223372036854775807 then (laws_markText.l0 k1 (wrap64 (Int.tdiv aU 10)) ((strOfNums cK) ++ bP)) else (none)) = some r := u2_4; have dP := aM hY; clear hY; by_cases c4 : (strOfNums cK).size + bP.size ≤ 9223372036854775807
     ·rw [if_pos c4] at H; have cY := eq_true c4; have lY : decide ((strOfNums cK).size + bP.size ≤ 9223372036854775807) = true := decide_eq_true c4; try have lZ : (9223372036854775807 < (strOfNums cK).size + bP.size) = False := eq_false (Nat.not_lt.2 c4)
      have H' := aM H; clear H; go_wp2_with (first | ((with_reducible refine gD 12 rfl ?_); refine Kd.R_lit (Kd.int .u8) _ 5 ?hg (N := 12) ?hd (xs := ([(wrap64 (48 + (Int.tmod aU 10))) % 256] : List Int)) (inner := [.int .u8 ((wrap64 (48 + (Int.tmod aU 10))) % 256)]) (ok := fun _ => True) (okp := fun _ => True) ?hr ?hp (fun _ hk => hk) trivial (Below.refl _ _) (Nat.le_refl _) (by simp) ?_; (case hd => rfl); (case hg => rfl); (case hr => exact u2_1); (case hp => exact (Reps.one (show Kd.M (Kd.int .u8) _ _ _ ((wrap64 (48 + (Int.tmod aU 10))) % 256) [.int .u8 ((wrap64 (48 + (Int.tmod aU 10))) % 256)] from rfl) (Reps.none _ _))); intro v154 w5 eA hb hg_ hnew_; clear hg_ hnew_; (first | rw [← dP.out] at eA | (simp only [Int.reduceToNat] at eA; rw [← dP.out] at eA)); have eB := aM (Kd.R_lower eA (below_size xbel)); replace HB := xbs hb; clear hb eA; have hcv7 := own_string (P := Try.prog) Try.underlying59 Try.underlying5 Try.underlying9 (Kd.own_of_R eB.out)))
      go_roundg k1
      case measure => have := HK1.out; omega
      case rel => exact ⟨(wrap64 (Int.tdiv aU 10)), ((strOfNums cK) ++ bP), u2_0, u2_0, H', ⟨by have := HK1.out; omega⟩, ⟨xbel⟩⟩
     ·rw [if_neg c4] at H; exact absurd H (by simp)
    ·rw [if_neg c3] at H; have cC : decide (0 < aU) = false := decide_eq_false c3; clear c3; by_cases c8 : 1 + bP.size ≤ 9223372036854775807
     ·rw [if_pos c8] at H; have mA := eq_true c8; have mB : decide (1 + bP.size ≤ 9223372036854775807) = true := decide_eq_true c8; try have mC : (9223372036854775807 < 1 + bP.size) = False := eq_false (Nat.not_lt.2 c8)
      obtain rfl := Option.some.inj H; go_wp2; go_ret
      exact ⟨xerr, xbel⟩
     ·rw [if_neg c8] at H; exact absurd H (by simp)

/-! ### laws_markRelS: function 30 -/
def bumped : Nat → Int → Int
  | 0, a => a
  | n + 1, a => bumped n (wrap64 (a + 1))
def laws_markRelS.l0 (k : Nat) : List S38 → Int → Option Int
  | [], a => some a
  | x :: t, a => (laws_markText.f k (wrap64 (wrap64 (a + 1) + 1))).bind fun _ => laws_markRelS.l0 k t (wrap64 (bumped x.f3.length (wrap64 (wrap64 (wrap64 (a + 1) + 1) + 1)) + 1))
def laws_markRelS.f (k : Nat) (l0 : List S38) (a1 : Int) : Option Int := laws_markRelS.l0 k l0 a1
theorem laws_markRelS.mono_l0 (k : Nat) : ∀ l a, LeO (laws_markRelS.l0 k l a) (laws_markRelS.l0 (k + 1) l a)
  | [], a => LeO.refl _
  | x :: t, a => LeO.bind (laws_markText.mono _ _) fun _ => laws_markRelS.mono_l0 k t _
theorem laws_markRelS.mono : ∀ a0 a1 k, LeO (laws_markRelS.f k a0 a1) (laws_markRelS.f (k + 1) a0 a1) := fun l a k => laws_markRelS.mono_l0 k l a
/-- In a cell's place stands a like one: a number for a number, a string for a string, all else as it was. -/
def LikeV (u v : Value) : Prop := u = v ∨ (∃ k x y, u = .int k x ∧ v = .int k y) ∨ (∃ s t, u = .string s ∧ v = .string t)
theorem LikeV.trans {a b c : Value} (h : LikeV a b) (k : LikeV b c) : LikeV a c := by
  rcases h with rfl | ⟨m, x, y, rfl, rfl⟩ | ⟨s, t, rfl, rfl⟩
  · exact k
  · rcases k with rfl | ⟨m', x', y', h1, rfl⟩ | ⟨s, t, h1, rfl⟩
    · exact .inr (.inl ⟨m, x, y, rfl, rfl⟩)
    · injection h1 with h1 h2; subst h1; exact .inr (.inl ⟨m, x, y', rfl, rfl⟩)
    · cases h1
  · rcases k with rfl | ⟨m', x', y', h1, rfl⟩ | ⟨s', t', h1, rfl⟩
    · exact .inr (.inr ⟨s, t, rfl, rfl⟩)
    · cases h1
    · exact .inr (.inr ⟨s, t', rfl, rfl⟩)
theorem LikeV.int {k : IntKind} {x : Int} {v : Value} (h : LikeV (.int k x) v) : ∃ y, v = .int k y := by
  rcases h with rfl | ⟨m, x', y, h1, rfl⟩ | ⟨s, t, h1, rfl⟩
  · exact ⟨x, rfl⟩
  · injection h1 with h1 h2; subst h1; exact ⟨y, rfl⟩
  · cases h1
theorem LikeV.string {x : ByteArray} {v : Value} (h : LikeV (.string x) v) : ∃ y, v = .string y := by
  rcases h with rfl | ⟨m, x', y, h1, rfl⟩ | ⟨s, t, h1, rfl⟩
  · exact ⟨x, rfl⟩
  · cases h1
  · exact ⟨t, rfl⟩
theorem LikeV.slice {A : Option Addr} {n c : Nat} {v : Value} (h : LikeV (.slice A n c) v) : v = .slice A n c := by
  rcases h with rfl | ⟨m, x', y, h1, rfl⟩ | ⟨s, t, h1, rfl⟩
  · rfl
  · cases h1
  · cases h1
/-- A world behind stores of like cells into blocks of P. -/
structure LikeW (P : Nat → Prop) (w W : World) : Prop where
  size : w.heap.size ≤ W.heap.size
  kept : ∀ i, i < w.heap.size → ¬ P i → W.heap[i]? = w.heap[i]?
  cell : ∀ g j u, w.cell? ⟨g, j, none⟩ = some u → ∃ v, W.cell? ⟨g, j, none⟩ = some v ∧ LikeV u v
  frozen : ∀ g j, g < w.heap.size → W.frozen? ⟨g, j, none⟩ = w.frozen? ⟨g, j, none⟩
theorem LikeW.refl (P : Nat → Prop) (w : World) : LikeW P w w := ⟨Nat.le_refl _, fun _ _ _ => rfl, fun _ _ u h => ⟨u, h, .inl rfl⟩, fun _ _ _ => rfl⟩
theorem LikeW.trans {P Q : Nat → Prop} {w W W2 : World} (h : LikeW P w W) (k : LikeW Q W W2) (hq : ∀ i, Q i → P i) : LikeW P w W2 := by
  refine ⟨Nat.le_trans h.size k.size, fun i hi hp => (k.kept i (Nat.lt_of_lt_of_le hi h.size) (fun hh => hp (hq i hh))).trans (h.kept i hi hp), fun g j u hu => ?_, fun g j hg => (k.frozen g j (Nat.lt_of_lt_of_le hg h.size)).trans (h.frozen g j hg)⟩; obtain ⟨v, hv, h1⟩ := h.cell g j u hu; obtain ⟨v2, hv2, h2⟩ := k.cell g j v hv; exact ⟨v2, hv2, h1.trans h2⟩
theorem LikeW.of_below {w W : World} (P : Nat → Prop) (h : Below w.heap.size w W) : LikeW P w W :=
  ⟨h.size, fun i hi _ => h.block i hi, fun g j u hu => ⟨u, pw_cell_below h hu, .inl rfl⟩, fun g j hg => by simp [World.frozen?, h.block g hg]⟩
theorem LikeW.set {P : Nat → Prop} {w W : World} (h : LikeW P w W) {g j : Nat} {u v : Value} (hp : P g) (hc : W.cell? ⟨g, j, none⟩ = some u) (hl : LikeV u v) : LikeW P w (W.setCell ⟨g, j, none⟩ v) := by
  refine h.trans (Q := P) ⟨by simp [World.setCell], fun i _ hn => Below.heap_setCell W _ v i (fun e => hn (e ▸ hp)), fun g' j' u' hu' => ?_, fun g' j' _ => World.frozen?_setCell ..⟩ (fun _ h => h); by_cases e : g' = g ∧ j' = j
  · obtain ⟨rfl, rfl⟩ := e; rw [hc] at hu'; obtain rfl := Option.some.inj hu'; exact ⟨v, World.cell?_setCell_same W _ v hc, hl⟩
  · refine ⟨u', ?_, .inl rfl⟩; rw [World.cell?_setCell_other W ⟨g, j, none⟩ ⟨g', j', none⟩ v (by simp; intro h1 h2; exact e ⟨h1.symm, h2.symm⟩)]; exact hu'
theorem LikeW.keeps {P : Nat → Prop} {w W : World} (h : LikeW P w W) : Kept w W P := ⟨h.size, h.kept⟩
/-- A row of numbers of the call's own, whatever they are. -/
def IntRow (P : Nat → Prop) (B : Nat) (w : World) (v : Value) (n : Nat) : Prop := ∃ A c, v = .slice A n c ∧ n ≤ 9223372036854775807 ∧ (0 < n → ∃ g, A = some ⟨g, 0, none⟩ ∧ P g ∧ B ≤ g ∧ g < w.heap.size ∧ ∀ j, j < n → (∃ x, w.cell? ⟨g, j, none⟩ = some (.int .i64 x)) ∧ w.frozen? ⟨g, j, none⟩ = false)
theorem IntRow.like {P Q : Nat → Prop} {B n : Nat} {w W : World} {v : Value} (h : IntRow P B w v n) (hl : LikeW Q w W) : IntRow P B W v n := by
  obtain ⟨A, c, rfl, hn, hg⟩ := h; refine ⟨A, c, rfl, hn, fun h0 => ?_⟩; obtain ⟨g, rfl, hp, hb, hlt, hc⟩ := hg h0; refine ⟨g, rfl, hp, hb, Nat.lt_of_lt_of_le hlt hl.size, fun j hj => ?_⟩; obtain ⟨⟨x, hx⟩, hf⟩ := hc j hj; obtain ⟨v, hv, hlv⟩ := hl.cell _ _ _ hx; obtain ⟨y, rfl⟩ := hlv.int; exact ⟨⟨y, hv⟩, (hl.frozen g j hlt).trans hf⟩
theorem IntRow.of_R {P : Nat → Prop} {e B : Nat} {w : World} {v : Value} {xs : List Int} (h : (Kd.int .i64).R e w B P v xs) : IntRow P B w v xs.length := by
  obtain ⟨A, c, rfl, hc, hC⟩ := Kd.R_reads h; refine ⟨A, c, rfl, hC.2.1, fun h0 => ?_⟩; obtain ⟨g, cap, he, hb, hlt, _⟩ := Kd.R_form h h0; injection he with e1 e2 e3
  subst e1; refine ⟨g, rfl, h.1 g rfl, hb, hlt, fun j hj => ?_⟩; obtain ⟨cc, _, hM, hcc, hfr⟩ := Kd.R_elem h 0 (j : Int) (by omega) (by omega); obtain rfl : cc = [.int .i64 (xs.getD (j : Int).toNat 0)] := hM; have h1 := hcc 0 _ rfl; have h2 := hfr 0; simp only [show (Kd.int .i64).sz = 1 from rfl, Nat.mul_one, Nat.add_zero, Int.toNat_natCast] at h1 h2; exact ⟨⟨_, h1⟩, h2⟩
set_option maxHeartbeats 4000000 in
theorem markIntS_like (P : Nat → Prop) (v : Value) (n : Nat) (a1 : Int) (w0 w : World) (hB : Below w0.heap.size w0 w) (hv : IntRow P w0.heap.size w v n) :
    Calls Try.prog 12 #[v, .int .i64 a1] w fun e w' => e = .returned (.int .i64 (bumped n a1)) ∧ LikeW P w w' ∧ Below w0.heap.size w0 w' := by
  obtain ⟨A, c, rfl, hn, hg⟩ := hv; have HG := Aside0.mk hg; have HB := Aside0.mk hB; clear hg hB; go_enter Try.func12, Try.ntmps12
  go_wp2; go_loopg [1, 5] n (fun gg v1 v5 wr => ∃ (i a : Int), v1 = .int .i64 a ∧ v5 = .int .i64 i ∧ 0 ≤ i ∧ i ≤ n ∧ n - i.toNat ≤ gg ∧ Aside0 (bumped (n - i.toNat) a = bumped n a1) ∧ Aside0 (LikeW P w wr) ∧ Aside0 (Below w0.heap.size w0 wr))
  case atStart => exact ⟨0, a1, rfl, rfl, by omega, by omega, by omega, ⟨rfl⟩, ⟨LikeW.refl _ _⟩, HB⟩
  case round =>
    obtain ⟨i, a, rfl, rfl, h0, h1, hgg, AI, HL, HBr⟩ := hrel; by_cases hlt : i < (n : Int)
    · obtain ⟨g, rfl, hp, hbg, hgl, hcell⟩ := HG.out (by omega); obtain ⟨⟨x, hx⟩, hf⟩ := hcell i.toNat (by omega); obtain ⟨u, hu, hlu⟩ := HL.out.cell _ _ _ hx; obtain ⟨y, rfl⟩ := hlu.int; have hfu : wr.frozen? ⟨g, i.toNat, none⟩ = false := (HL.out.frozen g _ hgl).trans hf; have HS := Aside0.mk (HL.out.set (v := .int .i64 a) hp hu (.inr (.inl ⟨_, _, _, rfl, rfl⟩))); have HB2 := Aside0.mk (below_set HBr.out hbg (j := i.toNat) (v := .int .i64 a)); clear hx hf hlu hcell hp hbg hgl; go_wp2_with (first | ((with_reducible refine gate_store (t := 3) (p := 15) rfl ?_); refine store_event (t := 3) (p := 15) (v := ?vo_w8) (w1 := (wr.setCell ⟨g, i.toNat, none⟩ (.int .i64 a))) ?hg ?ho ?hn ?hr ?_; (case ho | hg | hn => rfl); (case hr => exact u2_1); intro w8 hw; replace HS := Aside0.mk (hw ▸ HS.out); replace HB2 := Aside0.mk (hw ▸ HB2.out); clear hw))
      go_roundg (n - (i + 1).toNat)
      case measure => omega
      case rel =>
        refine ⟨i + 1, wrap64 (a + 1), rfl, ?_, by omega, by omega, by omega, ⟨?_⟩, HS, HB2⟩
        · first | rfl | simp
        · rw [← AI.out, show n - i.toNat = (n - (i + 1).toNat) + 1 by omega]; rfl
    · obtain rfl : i = n := by omega
      go_wp2; go_ret
      exact ⟨by rw [← AI.out]; simp [bumped], HL.out, HBr.out⟩
theorem IntRow.mono {P Q : Nat → Prop} {B n : Nat} {w : World} {v : Value} (h : IntRow P B w v n) (hq : ∀ k, P k → Q k) : IntRow Q B w v n := by
  obtain ⟨A, c, rfl, hn, hg⟩ := h; exact ⟨A, c, rfl, hn, fun h0 => (hg h0).imp fun g ⟨h1, h2, h3⟩ => ⟨h1, hq _ h2, h3⟩⟩
/-- An element's five cells, in this world and in each that is like it. -/
theorem like_elem {P : Nat → Prop} {w : World} {g o : Nat} {x0 x1 x4 : Int} {x2 : ByteArray} {A : Option Addr} {n c : Nat} (hg : g < w.heap.size)
    (h0 : w.cell? ⟨g, o, none⟩ = some (.int .i64 x0)) (h1 : w.cell? ⟨g, o + 1, none⟩ = some (.int .i64 x1)) (h2 : w.cell? ⟨g, o + 2, none⟩ = some (.string x2))
    (h3 : w.cell? ⟨g, o + 3, none⟩ = some (.slice A n c)) (h4 : w.cell? ⟨g, o + 4, none⟩ = some (.int .i64 x4)) (hf : ∀ j, w.frozen? ⟨g, o + j, none⟩ = false) :
    ∀ W, LikeW P w W → ∃ y0 y1 y4 y2, W.cell? ⟨g, o, none⟩ = some (.int .i64 y0) ∧ W.cell? ⟨g, o + 1, none⟩ = some (.int .i64 y1) ∧ W.cell? ⟨g, o + 2, none⟩ = some (.string y2) ∧ W.cell? ⟨g, o + 3, none⟩ = some (.slice A n c) ∧ W.cell? ⟨g, o + 4, none⟩ = some (.int .i64 y4) ∧
      W.frozen? ⟨g, o, none⟩ = false ∧ W.frozen? ⟨g, o + 1, none⟩ = false ∧ W.frozen? ⟨g, o + 2, none⟩ = false ∧ W.frozen? ⟨g, o + 4, none⟩ = false := by
  intro W h; obtain ⟨v0, c0, l0⟩ := h.cell _ _ _ h0; obtain ⟨v1, c1, l1⟩ := h.cell _ _ _ h1; obtain ⟨v2, c2, l2⟩ := h.cell _ _ _ h2; obtain ⟨v3, c3, l3⟩ := h.cell _ _ _ h3; obtain ⟨v4, c4, l4⟩ := h.cell _ _ _ h4; obtain ⟨y0, rfl⟩ := l0.int; obtain ⟨y1, rfl⟩ := l1.int; obtain ⟨y2, rfl⟩ := l2.string; obtain rfl := l3.slice; obtain ⟨y4, rfl⟩ := l4.int; exact ⟨y0, y1, y4, y2, c0, c1, c2, c3, c4, (h.frozen g _ hg).trans (hf 0), (h.frozen g _ hg).trans (hf 1), (h.frozen g _ hg).trans (hf 2), (h.frozen g _ hg).trans (hf 4)⟩
set_option maxHeartbeats 8000000 in
theorem laws_markRelS.calls (k : Nat) (P : Nat → Prop) (v : Value) (l0 : List S38) (a1 : Int) (r : Int) (w0 w : World) (hB : Below w0.heap.size w0 w) (ho : Kd.R k38 38 w w0.heap.size P v l0) (h : laws_markRelS.f k l0 a1 = some r) :
    Calls Try.prog 30 #[v, .int .i64 a1] w fun e w' => e = .returned (.int .i64 r) ∧ LikeW P w w' ∧ Below w0.heap.size w0 w' := by
  obtain ⟨A, c, rfl⟩ := Kd.R_slice ho; have hmax := (Kd.R_reads' ho).2.2.2.1; have HO := Aside0.mk ho; have HB := Aside0.mk hB; have H0 := Aside0.mk (show laws_markRelS.l0 k (l0.drop (0 : Int).toNat) a1 = some r from h); clear ho hB h; go_enter Try.func30, Try.ntmps30
  go_wp2; go_loopg [1, 5] l0.length (fun gg v1 v5 wr => ∃ (i a : Int), v1 = .int .i64 a ∧ v5 = .int .i64 i ∧ 0 ≤ i ∧ i ≤ l0.length ∧ l0.length - i.toNat ≤ gg ∧ Aside0 (laws_markRelS.l0 k (l0.drop i.toNat) a = some r) ∧ Aside0 (LikeW P w wr) ∧ Aside0 (Below w0.heap.size w0 wr))
  case atStart => exact ⟨0, a1, rfl, rfl, by omega, by omega, by omega, H0, ⟨LikeW.refl _ _⟩, HB⟩
  case round =>
    clear H0; obtain ⟨i, a, rfl, rfl, h0, h1, hgg, AI, HL, HBr⟩ := hrel; by_cases hlt : i < (l0.length : Int)
    · obtain ⟨g, co, eo, hbg, hgl, _⟩ := Kd.R_form HO.out (by omega); injection eo with e1 e2 e3
      subst e1; subst e3; have hp : P g := HO.out.1 g rfl; have hin : i.toNat < l0.length := by omega
      obtain ⟨ce, hcl, hM, hcc, hfr⟩ := Kd.R_elem HO.out z38 i h0 hlt; obtain ⟨v3, rfl, hR⟩ := k38_openM hM; obtain ⟨A3, c3, rfl⟩ := Kd.R_slice hR; have kE := hcc 0 _ rfl; have kF := hcc 1 _ rfl; have kG := hcc 2 _ rfl; have kH := hcc 3 _ rfl; have kI := hcc 4 _ rfl; simp only [show (k38).sz = 5 from rfl, Nat.add_zero] at kE kF kG kH kI hfr; have HE := Aside0.mk (like_elem (P := P) hgl kE kF kG kH kI hfr); have HI := Aside0.mk ((IntRow.of_R hR).mono (Q := P) fun k h => h.1); have hA := AI.out; rw [List.drop_eq_getElem_cons hin, laws_markRelS.l0] at hA; replace hA := Option.bind_eq_some_iff.1 hA; obtain ⟨t, ht, hA⟩ := hA; have HT := Aside0.mk ht; have hz : l0.getD i.toNat z38 = l0[i.toNat] := by rw [List.getD_eq_getElem?_getD, List.getElem?_eq_getElem hin]; rfl
      rw [← hz, show i.toNat + 1 = (i + 1).toNat by omega] at hA; have HA := Aside0.mk hA; have HP := Aside0.mk hp; have HG := Aside0.mk hbg; clear hA hz; clear AI ht hM hR hcc hfr hcl kE kF kG kH kI hp hbg hin; generalize hx : l0.getD i.toNat z38 = x at HI HE HA; clear hx; obtain ⟨y0, y1, y4, y2, m0, m1, m2, m3, m4, f0, f1, f2, f4⟩ := HE.out _ HL.out; go_wp2_with (first
        | ((with_reducible refine gate_store (t := 3) (p := 16) rfl ?_); refine store_event (t := 3) (p := 16) (v := ?vo1) (w1 := (wr.setCell ⟨g, i.toNat * 5, none⟩ (.int .i64 a))) ?hg ?ho ?hn ?hr ?_; (case ho | hg | hn => rfl); (case hr => exact u2_1); intro w1 hw; have HL1 := Aside0.mk (hw ▸ HL.out.set HP.out m0 (.inr (.inl ⟨_, _, _, rfl, rfl⟩)) : LikeW P w w1); have HB1 := Aside0.mk (hw ▸ below_set HBr.out HG.out : Below w0.heap.size w0 w1); clear hw HL HBr m0 m1 m2 m3 m4 f0 f1 f2 f4; obtain ⟨y0, y1, y4, y2, m0, m1, m2, m3, m4, f0, f1, f2, f4⟩ := HE.out _ HL1.out)
        | ((with_reducible refine gate_store (t := 3) (p := 23) rfl ?_); refine store_event (t := 3) (p := 23) (v := ?vo2) (w1 := (w1.setCell ⟨g, i.toNat * 5 + 1, none⟩ (.int .i64 (wrap64 (a + 1))))) ?hg ?ho ?hn ?hr ?_; (case ho | hg | hn => rfl); (case hr => exact u2_1); intro w2 hw; have HL2 := Aside0.mk (hw ▸ HL1.out.set HP.out m1 (.inr (.inl ⟨_, _, _, rfl, rfl⟩)) : LikeW P w w2); have HB2 := Aside0.mk (hw ▸ below_set HB1.out HG.out : Below w0.heap.size w0 w2); clear hw HL1 HB1 m0 m1 m2 m3 m4 f0 f1 f2 f4; obtain ⟨y0, y1, y4, y2, m0, m1, m2, m3, m4, f0, f1, f2, f4⟩ := HE.out _ HL2.out)
        | (go_at_call 44; (with_reducible refine (laws_markText.calls k _ t _ HT.out).mono ?_); rintro e w3 ⟨rfl, hb⟩; have HL3 := Aside0.mk (HL2.out.trans (Q := P) (LikeW.of_below P hb) (fun _ h => h)); have HB3 := Aside0.mk (below_then HB2.out HB2.out.size hb); clear hb HL2 HB2 m0 m1 m2 m3 m4 f0 f1 f2 f4; obtain ⟨y0, y1, y4, y2, m0, m1, m2, m3, m4, f0, f1, f2, f4⟩ := HE.out _ HL3.out)
        | ((with_reducible refine gate_store (t := 9) (p := 31) rfl ?_); refine store_event (t := 9) (p := 31) (v := ?vo3) (w1 := (w3.setCell ⟨g, i.toNat * 5 + 2, none⟩ (.string t))) ?hg ?ho ?hn ?hr ?_; (case ho | hg | hn => rfl); (case hr => exact u2_1); intro w4 hw; have HL4 := Aside0.mk (hw ▸ HL3.out.set HP.out m2 (.inr (.inr ⟨_, _, rfl, rfl⟩)) : LikeW P w w4); have HB4 := Aside0.mk (hw ▸ below_set HB3.out HG.out : Below w0.heap.size w0 w4); clear hw HL3 HB3 m0 m1 m2 m3 m4 f0 f1 f2 f4; obtain ⟨y0, y1, y4, y2, m0, m1, m2, m3, m4, f0, f1, f2, f4⟩ := HE.out _ HL4.out)
        | (go_at_call 12; (with_reducible refine (markIntS_like P _ x.f3.length (wrap64 (wrap64 (wrap64 (a + 1) + 1) + 1)) w0 w4 HB4.out (HI.out.like HL4.out)).mono ?_); rintro e w5 ⟨rfl, hl, hb⟩; have HL5 := Aside0.mk (HL4.out.trans (Q := P) hl (fun _ h => h)); have HB5 := Aside0.mk hb; clear hl hb HL4 HB4 m0 m1 m2 m3 m4 f0 f1 f2 f4; obtain ⟨y0, y1, y4, y2, m0, m1, m2, m3, m4, f0, f1, f2, f4⟩ := HE.out _ HL5.out)
        | ((with_reducible refine gate_store (t := 3) (p := 45) rfl ?_); refine store_event (t := 3) (p := 45) (v := ?vo4) (w1 := (w5.setCell ⟨g, i.toNat * 5 + 4, none⟩ (.int .i64 (bumped x.f3.length (wrap64 (wrap64 (wrap64 (a + 1) + 1) + 1)))))) ?hg ?ho ?hn ?hr ?_; (case ho | hg | hn => rfl); (case hr => exact u2_1); intro w6 hw; have HL6 := Aside0.mk (hw ▸ HL5.out.set HP.out m4 (.inr (.inl ⟨_, _, _, rfl, rfl⟩)) : LikeW P w w6); have HB6 := Aside0.mk (hw ▸ below_set HB5.out HG.out : Below w0.heap.size w0 w6); clear hw HL5 HB5 m0 m1 m2 m3 m4 f0 f1 f2 f4))
      go_roundg (l0.length - (i + 1).toNat)
      case measure => omega
      case rel => exact ⟨i + 1, _, rfl, by first | rfl | simp, by omega, by omega, by omega, HA, HL6, HB6⟩
    · obtain rfl : i = l0.length := by omega
      have hA := AI.out; simp only [Int.toNat_natCast, List.drop_length, laws_markRelS.l0, Option.some.injEq] at hA; subst hA; go_wp2; go_ret
      exact ⟨rfl, HL.out, HBr.out⟩


/-! ### laws_markRoll: function 11 -/
def laws_markRoll.f (k : Nat) (aX : Int) (aH : List S38) (aY : Int) (aI : List Int) (a1 : Int) : Option Int := (laws_markRelS.f k aH a1).bind fun a => some (bumped aI.length a)
theorem laws_markRoll.mono : ∀ a0 a1 a2 a3 a4 k, LeO (laws_markRoll.f k a0 a1 a2 a3 a4) (laws_markRoll.f (k + 1) a0 a1 a2 a3 a4) := fun _ _ _ _ _ _ => LeO.bind (laws_markRelS.mono _ _ _) fun _ => LeO.refl _
set_option maxHeartbeats 4000000 in
theorem laws_markRoll.calls (k : Nat) (aX : Int) (P1 : Nat → Prop) (u1 : Value) (aH : List S38) (aY : Int) (P3 : Nat → Prop) (u3 : Value) (aI : List Int) (a1 : Int) (r : Int) (w0 w : World) (hB : Below w0.heap.size w0 w) (kJ : Kd.R k38 38 w w0.heap.size P1 u1 aH) (kK : Kd.R (Kd.int .i64) 3 w w0.heap.size P3 u3 aI) (h : laws_markRoll.f k aX aH aY aI a1 = some r) :
    Calls Try.prog 11 #[.agg #[.int .i64 aX, u1, .int .i64 aY, u3], .int .i64 a1] w fun e w' => e = .returned (.int .i64 r) ∧ Below w0.heap.size w0 w' ∧ Kept w w' (fun k_ => P1 k_ ∨ P3 k_) := by
  obtain ⟨a, ha, hr⟩ := Option.bind_eq_some_iff.1 h; obtain rfl := Option.some.inj hr; have H1 := Aside0.mk kJ; have HI := Aside0.mk ((IntRow.of_R kK).mono (Q := fun k_ => P1 k_ ∨ P3 k_) fun _ h => .inr h); have HA := Aside0.mk ha; have HB := Aside0.mk hB; obtain ⟨A1, c1, rfl⟩ := Kd.R_slice kJ; obtain ⟨A3, c3, rfl⟩ := Kd.R_slice kK; clear kJ kK h ha hr hB; have hu := Try.underlying30; go_enter Try.func11, Try.ntmps11
  go_wp2_with (first
    | go_loud ((with_reducible refine gD 2 rfl ?_); refine box_event ?hg (N := 2) ?hd (cs := #[.int .i64 aX, .slice A1 aH.length c1, .int .i64 aY, .slice A3 aI.length c3]) (t := 30) ?hr ?_; (case hd => rfl); (case hg => rfl); (case hr => exact u2_1); intro gb hg w1 hbox hb; have BK := Aside0.mk hbox; have HK := Aside0.mk (LikeW.of_below (fun k_ => P1 k_ ∨ P3 k_) hb); replace H1 := Aside0.mk (Kd.R_below H1.out hb); replace HB := Aside0.mk (below_then HB.out HB.out.size hb); clear hb hg; have m1 : w1.cell? ⟨gb, 1, none⟩ = some (.slice A1 aH.length c1) := (blk_cell hbox 1).trans rfl; have m3 : w1.cell? ⟨gb, 3, none⟩ = some (.slice A3 aI.length c3) := (blk_cell hbox 3).trans rfl; clear hbox)
    | (go_at_call 30; (with_reducible refine (laws_markRelS.calls k P1 _ aH a1 a w0 w1 HB.out H1.out HA.out).mono ?_); rintro e w2 ⟨rfl, hl, hb⟩; have HK2 := Aside0.mk (HK.out.trans (Q := P1) hl (fun _ h => .inl h)); replace HB := Aside0.mk hb; clear m1; obtain ⟨u_, m3', lP⟩ := hl.cell _ _ _ m3; obtain rfl := lP.slice; clear m3 hl hb lP)
    | (go_at_call 12; (with_reducible refine (markIntS_like (fun k_ => P1 k_ ∨ P3 k_) _ aI.length a w0 w2 HB.out (HI.out.like HK2.out)).mono ?_); rintro e w3 ⟨rfl, hl, hb⟩; have HK3 := Aside0.mk (HK2.out.trans hl (fun _ h => h)); replace HB := Aside0.mk hb; clear hl hb m3'))
  go_ret
  exact ⟨rfl, HB.out, HK3.out.keeps⟩


/-! ### spec_l1In: function 22 -/
def spec_l1In.f (a0 : Int) (a1 : Int) (a2 : Int) : Option (Bool) := if a0 ≥ a1 then (some (decide (a0 ≤ a2))) else (some false)
set_option maxHeartbeats 8000000 in
set_option maxRecDepth 100000 in
theorem spec_l1In.calls (a0 : Int) (a1 : Int) (a2 : Int) (r : Bool) (w : World) (h : spec_l1In.f a0 a1 a2 = some r) :
 Calls Try.prog 22 #[.int .i64 a0, .int .i64 a1, .int .i64 a2] w fun e w' => e = .returned (.bool r) ∧ Drawn0 w w' := by
 have H : (if a0 ≥ a1 then (some (decide (a0 ≤ a2))) else (some false)) = some r := h
 clear h
 by_cases c4 : a0 ≥ a1
 ·rw [if_pos c4] at H; have cY : decide (a1 ≤ a0) = true := decide_eq_true c4; clear c4; obtain rfl := Option.some.inj H; go_enter Try.func22, Try.ntmps22
  go_wp2; go_ret
  exact ⟨u2_0, u2_2⟩
 ·rw [if_neg c4] at H; have cY : decide (a1 ≤ a0) = false := decide_eq_false c4; clear c4; obtain rfl := Option.some.inj H; go_enter Try.func22, Try.ntmps22
  go_wp2; go_ret
  exact ⟨u2_0, u2_2⟩

/-! ### spec_l7Of: function 35 -/
def spec_l7Of.f (a0 : Int) : Option (Bool) := if a0 = 1 then (some true) else (if a0 = 3 then (some true) else (some (a0 == 5)))
set_option maxHeartbeats 8000000 in
set_option maxRecDepth 100000 in
theorem spec_l7Of.calls (a0 : Int) (r : Bool) (w : World) (h : spec_l7Of.f a0 = some r) :
 Calls Try.prog 35 #[.int .i64 a0] w fun e w' => e = .returned (.bool r) ∧ Drawn0 w w' := by
 have H : (if a0 = 1 then (some true) else (if a0 = 3 then (some true) else (some (a0 == 5)))) = some r := h
 clear h
 by_cases c2 : a0 = 1
 ·rw [if_pos c2] at H; obtain ⟨dB, kL⟩ := bT c2; clear c2; obtain rfl := Option.some.inj H; go_enter Try.func35, Try.ntmps35
  go_wp2; go_ret
  exact ⟨u2_0, u2_2⟩
 ·rw [if_neg c2] at H; obtain ⟨dB, kL⟩ := bF c2; by_cases c3 : a0 = 3
  ·rw [if_pos c3] at H; obtain ⟨cC, cX⟩ := bT c3; clear c3; obtain rfl := Option.some.inj H; go_enter Try.func35, Try.ntmps35
   go_wp2; go_ret
   exact ⟨u2_0, u2_2⟩
  ·rw [if_neg c3] at H; obtain ⟨cC, cX⟩ := bF c3; obtain rfl := Option.some.inj H; go_enter Try.func35, Try.ntmps35
   go_wp2; go_ret
   exact ⟨u2_0, u2_2⟩

end Go.Proofs.Ytppfnnpfamkclaa.QFnExactRollFind
