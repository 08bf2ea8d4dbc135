-- A walk, by a program of this session.
import Derived.Test.YtoojdlobnbakoaaQFnExactHardSavex0
import Derived.Test.YtoojdlobnbakoaaQFnExactHardSavex3
import Derived.Test.YtoojdlobnbakoaaQFnExactHardSavex4
namespace Go.Proofs.Ytoojdlobnbakoaa.QFnExactHardSave
open Go.RowKit Go.Proofs.YtoojdlobnbakoaaW.PrintWords Go.Proofs.YtoojdlobnbakoaaW.PrintLast Go.Proofs.YtoojdlobnbakoaaW.PrintMore
attribute [local go_sem] max2_int min2_int max_two min_two max_three min_three max_four min_four   -- for this text's walks alone
set_option linter.unusedVariables false
set_option linter.unusedSimpArgs false

theorem u5_0 {p : Prop} (h : p := by first | rfl | (simp; done) | (simp [*]; done)) : p := h
theorem u5_1 {p : Prop} (h : p := by exact (fun k_ hk => Kd.freshB (g := aN) (o := .cells #[.int .i64 aV, .string aX, .string aY] 95 (0, 0)) xblk k_ hk)) : p := h
theorem u5_2 {p : Prop} (h : p := by have := HK1.out; have := HJ14.out; omega) : p := h
theorem u5_3 {p : Prop} (h : p := by (with_reducible repeat (first | apply Kd.R_alloc | apply Kd.R_drewN | apply Kd.R_drew)); exact aA.out) : p := h
theorem u5_4 {p : Prop} (h : p := by exact k95_mkM _ _ _ (⟨aV, aX, aY⟩ : S95)) : p := h
theorem u5_5 {p : Prop} (h : p := by repeat (first | exact Drawn0.refl _ | apply Drawn0.step)) : p := h
theorem u5_6 {p : Prop} (h : p := by first | exact Kd.R_nil _ _ _ _ _ | exact Kd.N_nil _ _ _ _ _ | exact Kd.V_nil _ _ _ _ _ | exact Kd.Q_nil _ _ _ _ _ | exact Kd.S_nil _ _ _ _ _) : p := h
theorem u5_7 {p : Prop} (h : p := by exact k95_mkM _ _ _ (⟨(rd_T95 aC aD).f0, (rd_T95 aC aD).f1, (rd_T95 aC aD).f2⟩ : S95)) : p := h
theorem u5_8 {p : Prop} (h : p := by (with_reducible repeat (first | apply Kd.R_alloc | apply Kd.R_drewN | apply Kd.R_drew)); exact fX.out) : p := h
/-! ### spec_l3Put: function 137 -/
mutual
def spec_l3Put.l0 : Nat → Bool → Int → Int → List (S95) → Int → ByteArray → ByteArray → Int → List (S95) → Option (Int × (List (S95)))
 | 0, _, _, _, _, _, _, _, _, _ => none
 | k + 1, x6, x7, cI, aQ, bG, bQ, bR, bU, bL => if x7 < (aQ.length : Int) then (if x6 = true then (spec_l3Put.j1 k x6 x7 false cI aQ bG bQ bR bU bL) else (if 0 ≤ x7 then (spec_l3Put.j1 k x6 x7 (decide (((rd_T95 aQ x7).f0) ≥ bG)) cI aQ bG bQ bR bU bL) else (none))) else (if x6 = true then (some (bU, bL)) else (if bL.length < 3518437208883 then (some (bU, (bL ++ [(⟨bG, bQ, bR⟩ : S95)]))) else (none)))
def spec_l3Put.j1 : Nat → Bool → Int → Bool → Int → List (S95) → Int → ByteArray → ByteArray → Int → List (S95) → Option (Int × (List (S95)))
 | 0, _, _, _, _, _, _, _, _, _, _ => none
 | k + 1, x6, x7, sC, cI, aQ, bG, bQ, bR, bU, bL => if sC = true then (if bL.length < 3518437208883 then ((some (bL ++ [(⟨bG, bQ, bR⟩ : S95)] : List (S95))).bind fun aZ => (if 0 ≤ x7 then (if x7 < (aQ.length : Int) then (if ((rd_T95 aQ x7).f0) = bG then (spec_l3Put.l0 k true (wrap64 (x7 + 1)) cI aQ bG bQ bR bU aZ) else (if aZ.length < 3518437208883 then (spec_l3Put.l0 k true (wrap64 (x7 + 1)) cI aQ bG bQ bR bU (aZ ++ [(⟨(rd_T95 aQ x7).f0, (rd_T95 aQ x7).f1, (rd_T95 aQ x7).f2⟩ : S95)])) else (none))) else (none)) else (none))) else (none)) else (if 0 ≤ x7 then (if x7 < (aQ.length : Int) then (if ((rd_T95 aQ x7).f0) = bG then (spec_l3Put.l0 k x6 (wrap64 (x7 + 1)) cI aQ bG bQ bR bU bL) else (if bL.length < 3518437208883 then (spec_l3Put.l0 k x6 (wrap64 (x7 + 1)) cI aQ bG bQ bR bU (bL ++ [(⟨(rd_T95 aQ x7).f0, (rd_T95 aQ x7).f1, (rd_T95 aQ x7).f2⟩ : S95)])) else (none))) else (none)) else (none))
end
def spec_l3Put.f (k : Nat) (aI : Int) (aC : List (S95)) (aV : Int) (aX : ByteArray) (aY : ByteArray) : Option (Int × (List (S95))) := spec_l3Put.l0 k false 0 aI aC aV aX aY aI ([] : List (S95))
theorem u5_mq0 {p : Prop} (h : p := by repeat' first | (with_reducible first | exact eL _ _ _ _ _ _ _ _ _ | exact nF _ _ _ _ _ _ _ _ _ _ | exact LeO.refl _ | exact LeO.none _ | refine LeO.ite ?_ ?_ | refine LeO.bind ?_ (fun _ => ?_)) | exact eL _ _ _ _ _ _ _ _ _ | exact nF _ _ _ _ _ _ _ _ _ _ | exact LeO.none _ | refine LeO.ite ?_ ?_ | refine LeO.bind ?_ (fun _ => ?_)) : p := h
set_option maxRecDepth 100000 in
theorem spec_l3Put.mono_l : ∀ k, (∀ y0 y1 y2 y3 y4 y5 y6 y7 y8, LeO (spec_l3Put.l0 k y0 y1 y2 y3 y4 y5 y6 y7 y8) (spec_l3Put.l0 (k + 1) y0 y1 y2 y3 y4 y5 y6 y7 y8)) ∧ (∀ y0 y1 y2 y3 y4 y5 y6 y7 y8 y9, LeO (spec_l3Put.j1 k y0 y1 y2 y3 y4 y5 y6 y7 y8 y9) (spec_l3Put.j1 (k + 1) y0 y1 y2 y3 y4 y5 y6 y7 y8 y9))
 | 0 => ⟨fun _ _ _ _ _ _ _ _ _ r h => by simp [spec_l3Put.l0] at h, fun _ _ _ _ _ _ _ _ _ _ r h => by simp [spec_l3Put.j1] at h⟩
 | k + 1 => by
  obtain ⟨eL, nF⟩ := spec_l3Put.mono_l k; refine ⟨?_, ?_⟩
  ·intro y0 y1 y2 y3 y4 y5 y6 y7 y8; unfold spec_l3Put.l0; exact u5_mq0
  ·intro y0 y1 y2 y3 y4 y5 y6 y7 y8 y9; unfold spec_l3Put.j1; exact u5_mq0
theorem spec_l3Put.mono : ∀ a0 a1 a2 a3 a4 k, LeO (spec_l3Put.f k a0 a1 a2 a3 a4) (spec_l3Put.f (k + 1) a0 a1 a2 a3 a4) := by
 intro a0 a1 a2 a3 a4 k
 obtain ⟨eL, nF⟩ := spec_l3Put.mono_l k
 unfold spec_l3Put.f
 exact u5_mq0
def spec_l3Put.T6 : Bool × List (List Nat × List Nat) := (true, [([], []), ([0], [0]), ([1], [1]), ([2], [2]), ([3, 2], [2, 3]), ([2], [2]), ([4, 5, 2], [2, 4, 5]), ([6, 2], [2, 6]), ([7, 2], [2, 7]), ([2], [2]), ([9, 2], [2, 9]), ([8, 10, 2], [2, 8, 10]), ([2, 11], [2, 11])])
def spec_l3Put.B6 : List Nat := [0, 1, 3, 7, 15, 7, 63, 127, 255, 7, 519, 2047, 4095]
theorem spec_l3Put.tab6 : rtab .any (opsOf Try.f137 6) = spec_l3Put.T6 := by kernel_rfl
theorem spec_l3Put.bits6 : waitsOk spec_l3Put.T6.2 spec_l3Put.B6 = true := by kernel_rfl
def spec_l3Put.T9 : Bool × List (List Nat × List Nat) := (true, [([], []), ([0], [0]), ([], []), ([1, 2], [1, 2]), ([3], [3]), ([4], [4]), ([], []), ([6], [6]), ([5, 7], [5, 7])])
def spec_l3Put.B9 : List Nat := [0, 1, 0, 7, 15, 31, 0, 64, 255]
theorem spec_l3Put.tab9 : rtab .any (opsOf Try.f137 9) = spec_l3Put.T9 := by kernel_rfl
theorem spec_l3Put.bits9 : waitsOk spec_l3Put.T9.2 spec_l3Put.B9 = true := by kernel_rfl
def spec_l3Put.T10 : Bool × List (List Nat × List Nat) := (true, [([], []), ([0], [0]), ([], []), ([2], [2]), ([], []), ([3, 4], [3, 4]), ([5], [5]), ([6], [6]), ([1, 7], [1, 7]), ([0, 1, 2, 3, 4, 5, 6, 7, 8], []), ([9, 8, 8, 0, 1, 2, 3, 4, 5, 6, 7, 8], [8, 9])])
def spec_l3Put.B10 : List Nat := [0, 1, 0, 4, 0, 28, 60, 124, 255, 511, 1023]
theorem spec_l3Put.tab10 : rtab .any (opsOf Try.f137 10) = spec_l3Put.T10 := by kernel_rfl
theorem spec_l3Put.bits10 : waitsOk spec_l3Put.T10.2 spec_l3Put.B10 = true := by kernel_rfl
set_option maxHeartbeats 8000000 in
set_option maxRecDepth 100000 in
theorem spec_l3Put.calls (k : Nat) (aI : Int) (cF : Option Addr) (bK : Nat) (aC : List (S95)) (aV : Int) (aX : ByteArray) (aY : ByteArray) (r1 : Int) (r2 : List (S95)) (w : World) (eB : Kd.C k95 w cF aC.length aC) (eC : aC.length ≤ bK) (h : spec_l3Put.f k aI aC aV aX aY = some (r1, r2)) :
 Calls Try.prog 137 #[.agg #[.int .i64 aI, .slice cF aC.length bK], .agg #[.int .i64 aV, .string aX, .string aY]] w fun e w' => ∃ v1_ : Value, e = .returned (.agg #[.int .i64 r1, v1_]) ∧ Kd.R k95 95 w' w.heap.size (fun _ => True) v1_ r2 ∧ Below w.heap.size w w' := by
 have nG := Try.underlying26
 have nH := Try.underlying95
 have cD := aM eB
 have dM := aM eC
 clear eB eC
 have HB := aM (Below.refl w.heap.size w)
 have H : (spec_l3Put.l0 k false 0 aI aC aV aX aY aI ([] : List (S95))) = some (r1, r2) := h
 clear h
 have H' := aM H
 clear H
 go_enter Try.func137, Try.ntmps137
 go_wp2_with (first | ((with_reducible refine gD 2 rfl ?_); refine boxE (N := 2) rfl (cs := #[.int .i64 aI, .slice cF aC.length bK]) (t := 26) ?_; intro bB hg w3 hbox hb; have aE := aM (hbox); have oM := aM (xge hg); have oN := aM (xge hg); replace HB := xbs hb; clear hb hbox hg) | ((with_reducible refine gD 3 rfl ?_); refine boxE (N := 3) rfl (cs := #[.int .i64 aV, .string aX, .string aY]) (t := 95) ?_; intro aN hg w4 hbox hb; have oO := aM (xge hg); have oP := aM (xge hg); replace HB := xbs hb; have cB := nblt aE hg; have cC := nbgt aE hg; replace aE := xbb aE hb; have aH := aM (hbox); clear hb hbox hg) | ((with_reducible refine gD 4 rfl ?_); refine boxE (N := 4) rfl (cs := #[.int .i64 0, .slice none 0 0]) (t := 26) ?_; intro cJ hg w5 hbox hb; have oQ := aM (xge hg); have oR := aM (xge hg); replace HB := xbs hb; have cK := nblt aE hg; have cL := nbgt aE hg; have cM := nblt aH hg; have cN := nbgt aH hg; replace aE := xbb aE hb; replace aH := xbb aH hb; have aJ := aM (hbox); clear hb hbox hg; have sD := cB.out; have sE := cC.out; have sF := cK.out; have sG := cL.out; obtain ⟨eX, eY, eZ, fA⟩ := xf2 (w := w5) aE) | ((with_reducible refine gD 5 rfl ?_); refine boxE (N := 5) rfl (cs := #[.int .i64 0, .slice none 0 0]) (t := 26) ?_; intro aR hg w9 hbox hb; have oT := aM (xge hg); have oU := aM (xge hg); replace HB := xbs hb; have bH := nblt aE hg; have bI := nbgt aE hg; have bM := nblt aH hg; have bN := nbgt aH hg; have bO := nblt aJ hg; have bP := nbgt aJ hg; replace aE := xbb aE hb; replace aH := xbb aH hb; replace aJ := xbb aJ hb; have aG := aM (hbox); clear hb hbox hg; have oV := bI.out; have oW := bH.out; have oX := bN.out; have oY := bM.out; have gU := bP.out; have gV := bO.out; obtain ⟨cW, cX, cY, cZ⟩ := xf2 (w := w9) aG))
 go_loopg [6, 7] k (fun kq v6 v7 w' => ∃ (dQ : Bool) (aD : Int) (aK : List (S95)) (aU : Value), v6 = .bool dQ ∧ v7 = .int .i64 aD ∧ Aside0 (spec_l3Put.l0 kq dQ aD aI aC aV aX aY aI aK = some (r1, r2)) ∧ Aside0 (kq ≤ k) ∧ Aside0 (Kd.R k95 95 w' w.heap.size (fun k_ => k_ ≠ aN) aU aK) ∧ Aside0 (w'.heap[bB]? = some (.cells #[.int .i64 aI, (.slice cF aC.length bK)] 26 (0, 0))) ∧ Aside0 (w'.heap[aN]? = some (.cells #[.int .i64 aV, .string aX, .string aY] 95 (0, 0))) ∧ Aside0 (w'.heap[cJ]? = some (.cells #[.int .i64 0, (.slice none 0 0)] 26 (0, 0))) ∧ Aside0 (w'.heap[aR]? = some (.cells #[.int .i64 aI, aU] 26 (0, 0))) ∧ Aside0 (Below w.heap.size w w'))
 case atStart => exact ⟨(false), (0), (([] : List (S95))), (.slice none 0 0), u5_0, u5_0, H', ⟨Nat.le_refl _⟩, ⟨u5_6⟩, ⟨xB⟩, ⟨xB⟩, ⟨xB⟩, ⟨xP⟩, ⟨xbg⟩⟩
 case round =>
  clear H'; try clear c1
  try clear p2
  try clear c6
  try clear c7
  try clear c10
  try clear sH
  try clear oZ
  try clear pA
  try clear cW cX
  try clear eX eY
  try clear cY cZ
  try clear eZ fA
  obtain ⟨dQ, aD, aK, aU, rfl, rfl, HA, HK1, aA, aE, aH, aJ, aG, HB⟩ := hrel; cases gk with
  | zero => exact absurd HA.out (by simp [spec_l3Put.l0])
  | succ k1 =>
   have H := HA.out; clear HA; simp only [spec_l3Put.l0] at H; by_cases gN : aD < (aC.length : Int)
   ·rw [if_pos gN] at H; have fY : decide (aD < (aC.length : Int)) = true := decide_eq_true gN; clear gN; have gO := aM H; clear H; have gW := cB.out; have gX := cC.out; have pB := cK.out; have pC := cL.out; have pD := bH.out; have pE := bI.out; obtain ⟨fF, fG, fH, fI⟩ := xf2 (w := wr) aE; go_upto_region 6 with (fail)
    go_cut [30] (fun sI wc => ∃ (kq : Nat) (dR : Bool), sI = .bool dR ∧ Aside0 (spec_l3Put.j1 kq dQ aD dR aI aC aV aX aY aI aK = some (r1, r2)) ∧ Aside0 (kq ≤ k1) ∧ Aside0 (Kd.R k95 95 wc w.heap.size (fun k_ => k_ ≠ aN) aU aK) ∧ Aside0 (wc.heap[bB]? = some (.cells #[.int .i64 aI, (.slice cF aC.length bK)] 26 (0, 0))) ∧ Aside0 (wc.heap[aN]? = some (.cells #[.int .i64 aV, .string aX, .string aY] 95 (0, 0))) ∧ Aside0 (wc.heap[cJ]? = some (.cells #[.int .i64 0, (.slice none 0 0)] 26 (0, 0))) ∧ Aside0 (wc.heap[aR]? = some (.cells #[.int .i64 aI, aU] 26 (0, 0))) ∧ Aside0 (Below w.heap.size w wc))
    case first =>
     have H := gO.out; clear gO; by_cases gY : dQ = true
     ·subst gY; replace H := iT H; have H' := aM H; clear H; try go_wp2
      replace aA := rD aA; replace aE := bD aE; replace aH := bD aH; replace aJ := bD aJ; replace aG := bD aG; replace HB := lD HB; refine st_ 13 (fun w' => True) spec_l3Put.tab6 spec_l3Put.bits6 trivial (fun hHeld HT_ HW_ => ?_); generalize wr.drew = tK at aA aE aH aJ aG HB hHeld ⊢; refine pv_ 0 18 (h := ?_); refine pv_ 1 19 (h := ?_); refine pv_ 2 20 (h := ?_); refine pu_ 3 21 (h := ?_); refine pu_ 4 22 (h := ?_); refine pu_ 5 23 (h := ?_); refine pu_ 6 24 (h := ?_); refine pu_ 7 25 (h := ?_); refine pu_ 8 26 (h := ?_); refine pu_ 9 27 (h := ?_); refine pu_ 10 28 (h := ?_); refine pu_ 11 29 (h := ?_); refine pv_ 12 30 (h := ?_); refine dn_ ?_; try go_wp2
      go_meet
      case rel => exact ⟨_, (false), u5_0, H', ⟨by have := HK1.out; first | omega | exact Nat.le_refl _⟩, ⟨u5_3⟩, ⟨xblk⟩, ⟨xblk⟩, ⟨xblk⟩, ⟨xblk⟩, ⟨xbg⟩⟩
     ·replace gY := Bool.eq_false_iff.mpr gY; subst gY; replace H := iN H; by_cases gZ : 0 ≤ aD
      ·rw [if_pos gZ] at H; have fB : decide (0 ≤ aD) = true := decide_eq_true gZ; clear gZ; (first | rw [fB] | (simp only [i64_w, i32_w]; rw [fB]) | skip); have H' := aM H; clear H; try go_wp2
       replace aA := rD aA; replace aE := bD aE; replace aH := bD aH; replace aJ := bD aJ; replace aG := bD aG; replace HB := lD HB; have p141 : 0 ≤ (aD : Int) := oda; have q141 : aD < (aC.length : Int) := oda; obtain ⟨dP, nI, cP, cQ, cR⟩ := at_T95 cD.out aD p141 q141; have fJ := cR; have fK := cQ; have fL := cP; cases nI
       replace cP := xce HB cP; replace cQ := xce HB cQ; replace cR := xce HB cR; replace p141 := eq_true p141; replace q141 := eq_true q141; refine st_ 13 (fun w' => w'.cell? ⟨bB, 0, none⟩ = some (.int .i64 aI) ∧ w'.cell? ⟨bB, 1, none⟩ = some (.slice (some dP) aC.length bK) ∧ w'.cell? ⟨aN, 0, none⟩ = some (.int .i64 aV) ∧ w'.cell? ⟨aN, 1, none⟩ = some (.string aX) ∧ w'.cell? ⟨aN, 2, none⟩ = some (.string aY) ∧ w'.cell? (dP.add ((aD).toNat * 3)) = some (.int .i64 ((rd_T95 aC aD).f0)) ∧ w'.cell? ⟨(dP.add ((aD).toNat * 3)).block, (dP.add ((aD).toNat * 3)).off + 1, none⟩ = some (.string ((rd_T95 aC aD).f1)) ∧ w'.cell? ⟨(dP.add ((aD).toNat * 3)).block, (dP.add ((aD).toNat * 3)).off + 2, none⟩ = some (.string ((rd_T95 aC aD).f2))) spec_l3Put.tab6 spec_l3Put.bits6 ⟨xc aE 0 rfl, xc aE 1 rfl, xc aH 0 rfl, xc aH 1 rfl, xc aH 2 rfl, (xce HB fL), (xce HB fK), (xce HB fJ)⟩ (fun hHeld HT_ HW_ => ?_); generalize wr.drew = pF at aA aE aH aJ aG HB cP cQ cR hHeld ⊢; refine pv_ 0 18 (h := ?_); refine pv_ 1 19 (h := ?_); refine pv_ 2 20 (h := ?_); refine pv_ 3 21 (h := ?_); refine pv_ 5 23 (h := ?_); refine pv_ 9 27 (h := ?_); refine tk_ 4 22 (h := ?_); refine pv_ 6 24 (h := ?_); refine pv_ 7 25 (h := ?_); refine tk_ 8 26 (h := ?_); refine tk_ 10 28 (h := ?_); refine pv_ 11 29 (h := ?_); refine pv_ 12 30 (h := ?_); refine dn_ ?_; try go_wp2
       go_meet
       case rel => exact ⟨_, (decide (((rd_T95 aC aD).f0) ≥ aV)), u5_0, H', ⟨by have := HK1.out; first | omega | exact Nat.le_refl _⟩, ⟨u5_3⟩, ⟨xblk⟩, ⟨xblk⟩, ⟨xblk⟩, ⟨xblk⟩, ⟨xbg⟩⟩
      ·rw [if_neg gZ] at H; exact absurd H (by simp)
    case rest =>
     clear gO; try clear c1
     try clear p1
     try clear q1
     try clear tL
     try clear c2
     try clear p2
     try clear c6
     try clear c7
     try clear c10
     try clear sH
     try clear oZ
     try clear pA
     try clear gN
     try clear fY
     try clear p14
     try clear q14
     try clear sJ
     try clear tM
     try clear tN
     try clear tO
     try clear gY
     try clear gZ
     try clear fB
     try clear cW cX
     try clear fF fG
     try clear eX eY
     try clear cY cZ
     try clear fH fI
     try clear eZ fA
     try clear cP
     try clear cQ
     try clear cR
     try clear p141
     try clear p2
     try clear q141
     obtain ⟨kq, dR, rfl, HA, HJ14, aA, aE, aH, aJ, aG, HB⟩ := hcut; cases kq with
     | zero => exact absurd HA.out (by simp [spec_l3Put.j1])
     | succ eD =>
      have H := HA.out; clear HA; simp only [spec_l3Put.j1] at H; by_cases jC : dR = true
      ·subst jC; replace H := iT H; by_cases jD : aK.length < 3518437208883
       ·rw [if_pos jD] at H; have LMc25 := aM jD; clear jD; obtain ⟨aZ, eE⟩ : ∃ y_ : List (S95), y_ = (aK ++ [(⟨aV, aX, aY⟩ : S95)]) := ⟨_, rfl⟩; replace H : (if 0 ≤ aD then (if aD < (aC.length : Int) then (if ((rd_T95 aC aD).f0) = aV then (spec_l3Put.l0 eD true (wrap64 (aD + 1)) aI aC aV aX aY aI aZ) else (if aZ.length < 3518437208883 then (spec_l3Put.l0 eD true (wrap64 (aD + 1)) aI aC aV aX aY aI (aZ ++ [(⟨(rd_T95 aC aD).f0, (rd_T95 aC aD).f1, (rd_T95 aC aD).f2⟩ : S95)])) else (none))) else (none)) else (none)) = some (r1, r2) := by first | (rw [eE]; with_reducible exact H) | (have H2_ := oS H; rw [eE]; with_reducible exact H2_) | (have H2_ := oS H; with_reducible exact H2_) | with_reducible exact H | (rw [eE]; exact H) | exact H
        have fZ := aM eE; clear eE; by_cases jE : 0 ≤ aD
        ·rw [if_pos jE] at H; have pG : decide (0 ≤ aD) = true := decide_eq_true jE; clear jE; by_cases jF : aD < (aC.length : Int)
         ·rw [if_pos jF] at H; have pH : decide (aD < (aC.length : Int)) = true := decide_eq_true jF; clear jF; by_cases fE : ((rd_T95 aC aD).f0) = aV
          ·rw [if_pos fE] at H; obtain ⟨gA, hJ⟩ := bT fE; clear fE; have H' := aM H; clear H; have pI := bI.out; have pJ := bH.out; have pK := bN.out; have pL := bM.out; have pM := bP.out; have pN := bO.out; obtain ⟨jG, jH, jI, jJ⟩ := xf2 (w := wc) aG; have pO := cC.out; have pP := cB.out; have pQ := cM.out; have pR := cN.out; obtain ⟨fM, fN, jK, fO, fP, jL⟩ := xf3 (w := wc) aH; try go_wp2_with (first | ((with_reducible refine gate_builtin (b := .append) (xs := #[.tmp 32, .tmp 34]) rfl ?_); at_builtin; refine Kd.R_append k95 (w0 := w) w.heap.size rfl (.tmp 32) (.tmp 34) 24 95 (.agg #[(.int .i64 0), (.string ⟨#[]⟩), (.string ⟨#[]⟩)]) 40 rfl Try.underlying24 info95 rfl (by decide) (by omega) aU aK (⟨aV, aX, aY⟩ : S95) [.int .i64 aV, .string aX, .string aY] (fun k_ => k_ ≠ aN) (fun _ => False) rfl rfl ?aP (fun _ hk => hk.elim) ?aF ?aO ?aB ?aS ?aL ?_; (case aP => exact u5_4); (case aB => exact xbg); (case aF => exact u5_1); (case aO => exact (xr aA)); (case aS => exact (below_size xbg)); (case aL => have := LMc25.out; omega); intro nJ fC ho hb hg hat; rw [← fZ.out] at ho; replace aE := aM (blk_grown (g := bB) (o := .cells #[.int .i64 aI, .slice cF aC.length bK] 26 (0, 0)) xblk hg (Kd.R_ne aA.out aE.out (by decide))); replace aH := aM (blk_grown (g := aN) (o := .cells #[.int .i64 aV, .string aX, .string aY] 95 (0, 0)) xblk hg (Kd.R_away aA.out (fun _ hk => hk))); replace aJ := aM (blk_grown (g := cJ) (o := .cells #[.int .i64 0, .slice none 0 0] 26 (0, 0)) xblk hg (Kd.R_ne aA.out aJ.out (by decide))); replace aG := aM (blk_grown (g := aR) (o := .cells #[.int .i64 aI, aU] 26 (0, 0)) xblk hg (Kd.R_ne aA.out aG.out (by decide))); replace HB := aM (hb); have aW := aM (ho); clear aA; clear ho hb hg hat; obtain ⟨dN, dO, nK⟩ := Kd.R_slice aW.out; subst nK; obtain ⟨jM, jN, jO, jP⟩ := xf2 (w := fC) aG))
           have n0_ : Aside0 (Kd.R k95 95 (fC.setCell ⟨aR, 1, none⟩ (.slice dN aZ.length dO)) w.heap.size (fun k_ => k_ ≠ aN) (.slice dN aZ.length dO) aZ) := ⟨xrs aW⟩; have n1_ : Aside0 ((fC.setCell ⟨aR, 1, none⟩ (.slice dN aZ.length dO)).heap[bB]? = some (.cells #[.int .i64 aI, .slice cF aC.length bK] 26 (0, 0))) := ⟨xB⟩; have n2_ : Aside0 ((fC.setCell ⟨aR, 1, none⟩ (.slice dN aZ.length dO)).heap[aN]? = some (.cells #[.int .i64 aV, .string aX, .string aY] 95 (0, 0))) := ⟨xB⟩; have n3_ : Aside0 ((fC.setCell ⟨aR, 1, none⟩ (.slice dN aZ.length dO)).heap[cJ]? = some (.cells #[.int .i64 0, .slice none 0 0] 26 (0, 0))) := ⟨xB⟩; have n4_ : Aside0 ((fC.setCell ⟨aR, 1, none⟩ (.slice dN aZ.length dO)).heap[aR]? = some (.cells #[.int .i64 aI, .slice dN aZ.length dO] 26 (0, 0))) := ⟨xP⟩; have n5_ : Aside0 (Below w.heap.size w (fC.setCell ⟨aR, 1, none⟩ (.slice dN aZ.length dO))) := ⟨xbg⟩; (try clear aW); (try clear aE); (try clear aH); (try clear aJ); (try clear aG); (try clear HB)
           generalize (fC.setCell ⟨aR, 1, none⟩ (.slice dN aZ.length dO)) = sK at n0_ n1_ n2_ n3_ n4_ n5_ ⊢; have aW := n0_; have aE := n1_; have aH := n2_; have aJ := n3_; have aG := n4_; have HB := n5_; clear n0_ n1_ n2_ n3_ n4_ n5_; replace aW := rD aW; replace aE := bD aE; replace aH := bD aH; replace aJ := bD aJ; replace aG := bD aG; replace HB := lD HB; have p145 : 0 ≤ (aD : Int) := oda; have q145 : aD < (aC.length : Int) := oda; obtain ⟨bC, gP, bV, bW, bX⟩ := at_T95 cD.out aD p145 q145; have dS := bX; have dU := bW; have dV := bV; cases gP
           replace bV := xce HB bV; replace bW := xce HB bW; replace bX := xce HB bX; replace p145 := eq_true p145; replace q145 := eq_true q145; refine st_ 9 (fun w' => w'.cell? ⟨bB, 0, none⟩ = some (.int .i64 aI) ∧ w'.cell? ⟨bB, 1, none⟩ = some (.slice (some bC) aC.length bK) ∧ w'.cell? ⟨aN, 0, none⟩ = some (.int .i64 aV) ∧ w'.cell? ⟨aN, 1, none⟩ = some (.string aX) ∧ w'.cell? ⟨aN, 2, none⟩ = some (.string aY) ∧ w'.cell? (bC.add ((aD).toNat * 3)) = some (.int .i64 ((rd_T95 aC aD).f0)) ∧ w'.cell? ⟨(bC.add ((aD).toNat * 3)).block, (bC.add ((aD).toNat * 3)).off + 1, none⟩ = some (.string ((rd_T95 aC aD).f1)) ∧ w'.cell? ⟨(bC.add ((aD).toNat * 3)).block, (bC.add ((aD).toNat * 3)).off + 2, none⟩ = some (.string ((rd_T95 aC aD).f2))) spec_l3Put.tab9 spec_l3Put.bits9 ⟨xc aE 0 rfl, xc aE 1 rfl, xc aH 0 rfl, xc aH 1 rfl, xc aH 2 rfl, (xce HB dV), (xce HB dU), (xce HB dS)⟩ (fun hHeld HT_ HW_ => ?_); generalize sK.drew = tP at aW aE aH aJ aG HB bV bW bX hHeld ⊢; refine pv_ 0 37 (h := ?_); refine pv_ 2 39 (h := ?_); refine pv_ 6 43 (h := ?_); refine tk_ 1 38 (h := ?_); refine pv_ 3 40 (h := ?_); refine pv_ 4 41 (h := ?_); refine tk_ 5 42 (h := ?_); refine tk_ 7 44 (h := ?_); refine pv_ 8 45 (h := ?_); refine dn_ ?_; try go_wp2
           go_roundg eD
           case measure => have := HK1.out; have := HJ14.out; omega
           case rel => exact ⟨(true), (wrap64 (aD + 1)), (aZ), (.slice dN aZ.length dO), u5_0, u5_0, H', ⟨u5_2⟩, ⟨by (with_reducible repeat (first | apply Kd.R_alloc | apply Kd.R_drewN | apply Kd.R_drew)); exact aW.out⟩, ⟨xblk⟩, ⟨xblk⟩, ⟨xblk⟩, ⟨xblk⟩, ⟨xbg⟩⟩
          ·rw [if_neg fE] at H; obtain ⟨gA, hJ⟩ := bF fE; by_cases jQ : aZ.length < 3518437208883
           ·rw [if_pos jQ] at H; have LMc41 := aM jQ; clear jQ; obtain ⟨gQ, eF⟩ : ∃ y_ : List (S95), y_ = (aZ ++ [(⟨(rd_T95 aC aD).f0, (rd_T95 aC aD).f1, (rd_T95 aC aD).f2⟩ : S95)]) := ⟨_, rfl⟩; replace H : (spec_l3Put.l0 eD true (wrap64 (aD + 1)) aI aC aV aX aY aI gQ) = some (r1, r2) := by first | (rw [eF]; with_reducible exact H) | (have H2_ := oS H; rw [eF]; with_reducible exact H2_) | (have H2_ := oS H; with_reducible exact H2_) | with_reducible exact H | (rw [eF]; exact H) | exact H
            have hU := aM eF; clear eF; have H' := aM H; clear H; have pS := bI.out; have pT := bH.out; have pU := bN.out; have pV := bM.out; have pW := bP.out; have pX := bO.out; obtain ⟨jR, jS, jT, jU⟩ := xf2 (w := wc) aG; have pY := cC.out; have pZ := cB.out; have qA := cM.out; have qB := cN.out; obtain ⟨jV, jW, jX, jY, jZ, kA⟩ := xf3 (w := wc) aH; try go_wp2_with (first | ((with_reducible refine gate_builtin (b := .append) (xs := #[.tmp 32, .tmp 34]) rfl ?_); at_builtin; refine Kd.R_append k95 (w0 := w) w.heap.size rfl (.tmp 32) (.tmp 34) 24 95 (.agg #[(.int .i64 0), (.string ⟨#[]⟩), (.string ⟨#[]⟩)]) 40 rfl Try.underlying24 info95 rfl (by decide) (by omega) aU aK (⟨aV, aX, aY⟩ : S95) [.int .i64 aV, .string aX, .string aY] (fun k_ => k_ ≠ aN) (fun _ => False) rfl rfl ?aP (fun _ hk => hk.elim) ?aF ?aO ?aB ?aS ?aL ?_; (case aP => exact u5_4); (case aB => exact xbg); (case aF => exact u5_1); (case aO => exact (xr aA)); (case aS => exact (below_size xbg)); (case aL => have := LMc25.out; omega); intro nJ gB ho hb hg hat; rw [← fZ.out] at ho; replace aE := aM (blk_grown (g := bB) (o := .cells #[.int .i64 aI, .slice cF aC.length bK] 26 (0, 0)) xblk hg (Kd.R_ne aA.out aE.out (by decide))); replace aH := aM (blk_grown (g := aN) (o := .cells #[.int .i64 aV, .string aX, .string aY] 95 (0, 0)) xblk hg (Kd.R_away aA.out (fun _ hk => hk))); replace aJ := aM (blk_grown (g := cJ) (o := .cells #[.int .i64 0, .slice none 0 0] 26 (0, 0)) xblk hg (Kd.R_ne aA.out aJ.out (by decide))); replace aG := aM (blk_grown (g := aR) (o := .cells #[.int .i64 aI, aU] 26 (0, 0)) xblk hg (Kd.R_ne aA.out aG.out (by decide))); replace HB := aM (hb); have aW := aM (ho); clear aA; clear ho hb hg hat; obtain ⟨cU, cV, nL⟩ := Kd.R_slice aW.out; subst nL; obtain ⟨kB, kC, kE, kF⟩ := xf2 (w := gB) aG))
            have n0_ : Aside0 (Kd.R k95 95 (gB.setCell ⟨aR, 1, none⟩ (.slice cU aZ.length cV)) w.heap.size (fun k_ => k_ ≠ aN) (.slice cU aZ.length cV) aZ) := ⟨xrs aW⟩; have n1_ : Aside0 ((gB.setCell ⟨aR, 1, none⟩ (.slice cU aZ.length cV)).heap[bB]? = some (.cells #[.int .i64 aI, .slice cF aC.length bK] 26 (0, 0))) := ⟨xB⟩; have n2_ : Aside0 ((gB.setCell ⟨aR, 1, none⟩ (.slice cU aZ.length cV)).heap[aN]? = some (.cells #[.int .i64 aV, .string aX, .string aY] 95 (0, 0))) := ⟨xB⟩; have n3_ : Aside0 ((gB.setCell ⟨aR, 1, none⟩ (.slice cU aZ.length cV)).heap[cJ]? = some (.cells #[.int .i64 0, .slice none 0 0] 26 (0, 0))) := ⟨xB⟩; have n4_ : Aside0 ((gB.setCell ⟨aR, 1, none⟩ (.slice cU aZ.length cV)).heap[aR]? = some (.cells #[.int .i64 aI, .slice cU aZ.length cV] 26 (0, 0))) := ⟨xP⟩; have n5_ : Aside0 (Below w.heap.size w (gB.setCell ⟨aR, 1, none⟩ (.slice cU aZ.length cV))) := ⟨xbg⟩; (try clear aW); (try clear aE); (try clear aH); (try clear aJ); (try clear aG); (try clear HB)
            generalize (gB.setCell ⟨aR, 1, none⟩ (.slice cU aZ.length cV)) = sL at n0_ n1_ n2_ n3_ n4_ n5_ ⊢; have aW := n0_; have aE := n1_; have aH := n2_; have aJ := n3_; have aG := n4_; have HB := n5_; clear n0_ n1_ n2_ n3_ n4_ n5_; replace aW := rD aW; replace aE := bD aE; replace aH := bD aH; replace aJ := bD aJ; replace aG := bD aG; replace HB := lD HB; have p145 : 0 ≤ (aD : Int) := oda; have q145 : aD < (aC.length : Int) := oda; obtain ⟨bC, gP, bV, bW, bX⟩ := at_T95 cD.out aD p145 q145; have dS := bX; have dU := bW; have dV := bV; cases gP
            replace bV := xce HB bV; replace bW := xce HB bW; replace bX := xce HB bX; replace p145 := eq_true p145; replace q145 := eq_true q145; refine st_ 9 (fun w' => w'.cell? ⟨bB, 0, none⟩ = some (.int .i64 aI) ∧ w'.cell? ⟨bB, 1, none⟩ = some (.slice (some bC) aC.length bK) ∧ w'.cell? ⟨aN, 0, none⟩ = some (.int .i64 aV) ∧ w'.cell? ⟨aN, 1, none⟩ = some (.string aX) ∧ w'.cell? ⟨aN, 2, none⟩ = some (.string aY) ∧ w'.cell? (bC.add ((aD).toNat * 3)) = some (.int .i64 ((rd_T95 aC aD).f0)) ∧ w'.cell? ⟨(bC.add ((aD).toNat * 3)).block, (bC.add ((aD).toNat * 3)).off + 1, none⟩ = some (.string ((rd_T95 aC aD).f1)) ∧ w'.cell? ⟨(bC.add ((aD).toNat * 3)).block, (bC.add ((aD).toNat * 3)).off + 2, none⟩ = some (.string ((rd_T95 aC aD).f2))) spec_l3Put.tab9 spec_l3Put.bits9 ⟨xc aE 0 rfl, xc aE 1 rfl, xc aH 0 rfl, xc aH 1 rfl, xc aH 2 rfl, (xce HB dV), (xce HB dU), (xce HB dS)⟩ (fun hHeld HT_ HW_ => ?_); generalize sL.drew = sM at aW aE aH aJ aG HB bV bW bX hHeld ⊢; refine pv_ 0 37 (h := ?_); refine pv_ 2 39 (h := ?_); refine pv_ 6 43 (h := ?_); refine tk_ 1 38 (h := ?_); refine pv_ 3 40 (h := ?_); refine pv_ 4 41 (h := ?_); refine tk_ 5 42 (h := ?_); refine tk_ 7 44 (h := ?_); refine pv_ 8 45 (h := ?_); refine dn_ ?_; try go_wp2
            replace aW := rD aW; replace aE := bD aE; replace aH := bD aH; replace aJ := bD aJ; replace aG := bD aG; replace HB := lD HB; have p146 : 0 ≤ (aD : Int) := oda; have q146 : aD < (aC.length : Int) := oda; obtain ⟨hX, nM, dA, dB, dC⟩ := at_T95 cD.out aD p146 q146; have dD := dC; have dE := dB; have dF := dA; obtain rfl : bC = hX := (by injection nM); replace dA := xce HB dA; replace dB := xce HB dB; replace dC := xce HB dC; replace p146 := eq_true p146; replace q146 := eq_true q146; refine start_ (n := 11) (S := fun w' => w'.cell? ⟨aR, 0, none⟩ = some (.int .i64 aI) ∧ w'.cell? ⟨aR, 1, none⟩ = some (.slice cU aZ.length cV) ∧ w'.cell? ⟨bB, 0, none⟩ = some (.int .i64 aI) ∧ w'.cell? ⟨bB, 1, none⟩ = some (.slice (some bC) aC.length bK) ∧ w'.cell? (bC.add ((aD).toNat * 3)) = some (.int .i64 ((rd_T95 aC aD).f0)) ∧ w'.cell? ⟨(bC.add ((aD).toNat * 3)).block, (bC.add ((aD).toNat * 3)).off + 1, none⟩ = some (.string ((rd_T95 aC aD).f1)) ∧ w'.cell? ⟨(bC.add ((aD).toNat * 3)).block, (bC.add ((aD).toNat * 3)).off + 2, none⟩ = some (.string ((rd_T95 aC aD).f2))) (ds := [10]) #[false, false, false, false, false, false, false, false, false, false, false] (by kernel_rfl) rfl rfl ⟨xc aG 0 rfl, xc aG 1 rfl, xc aE 0 rfl, xc aE 1 rfl, (xce HB dF), (xce HB dE), (xce HB dD)⟩ (fun hHeld => ?_); refine with_tabW spec_l3Put.tab10 spec_l3Put.bits10 (fun HT_ HW_ => ?_); generalize sM.drew = tQ at aW aE aH aJ aG HB dA dB dC hHeld ⊢; refine pv_ 0 46 (h := ?_); refine pv_ 2 48 (h := ?_); refine pv_ 4 50 (h := ?_); refine tk_ 1 47 (h := ?_); refine tk_ 3 49 (h := ?_); refine pv_ 5 51 (h := ?_); refine tk_ 6 52 (h := ?_); refine on_ 7 53 (h := fun K hK => ?_); refine value_ (w1 := ?_) (v := ?_) (by rfl) rfl ?_ ?_; rotate_left 2
            ·go_simp
             constructor
             ·rfl
             ·rfl
            refine hK.out _ _ ⟨(blk_cell (blk_alloc aG.out _) 0).trans rfl, (blk_cell (blk_alloc aG.out _) 1).trans rfl, (blk_cell (blk_alloc aE.out _) 0).trans rfl, (blk_cell (blk_alloc aE.out _) 1).trans rfl, (World.cell?_alloc_lt _ _ _ (World.block_lt_of_cell? _ _ ((xce HB dF)))).trans ((xce HB dF)), (World.cell?_alloc_lt _ _ _ (World.block_lt_of_cell? _ _ ((xce HB dE)))).trans ((xce HB dE)), (World.cell?_alloc_lt _ _ _ (World.block_lt_of_cell? _ _ ((xce HB dD)))).trans ((xce HB dD))⟩ (fun hHeld => ?_); clear hK K; refine nm_ (N := 53) ?_; refine on_ 8 54 (h := fun K hK => ?_); refine Kd.R_append_step k95 (w0 := w) w.heap.size (by rfl) (.tmp 47) (.tmp 53) 24 95 (.agg #[(.int .i64 0), (.string ⟨#[]⟩), (.string ⟨#[]⟩)]) 40 rfl Try.underlying24 info95 rfl (by decide) (by omega) (.slice cU aZ.length cV) aZ (⟨(rd_T95 aC aD).f0, (rd_T95 aC aD).f1, (rd_T95 aC aD).f2⟩ : S95) [.int .i64 ((rd_T95 aC aD).f0), .string ((rd_T95 aC aD).f1), .string ((rd_T95 aC aD).f2)] (fun k_ => k_ ≠ aN) (fun _ => False) rfl rfl ?aP (fun _ hk => hk.elim) ?aF ?aO ?aB ?aS ?aL ?_; (case aP => exact u5_7); (case aB => exact xbg); (case aF => exact u5_1); (case aO => exact (xr aW)); (case aS => exact (below_size xbg)); (case aL => have := LMc41.out; omega); intro sN sO ho hb hg hat; rw [← hU.out] at ho; replace aE := aM (blk_grown (g := bB) (o := .cells #[.int .i64 aI, .slice (some bC) aC.length bK] 26 (0, 0)) xblk hg (Kd.R_ne aW.out aE.out (by decide))); replace aH := aM (blk_grown (g := aN) (o := .cells #[.int .i64 aV, .string aX, .string aY] 95 (0, 0)) xblk hg (Kd.R_away aW.out (fun _ hk => hk))); replace aJ := aM (blk_grown (g := cJ) (o := .cells #[.int .i64 0, .slice none 0 0] 26 (0, 0)) xblk hg (Kd.R_ne aW.out aJ.out (by decide))); replace aG := aM (blk_grown (g := aR) (o := .cells #[.int .i64 aI, .slice cU aZ.length cV] 26 (0, 0)) xblk hg (Kd.R_ne aW.out aG.out (by decide))); replace HB := aM (hb); have gE := aM (ho); clear aW ho hb hg hat; obtain ⟨nN, nO, hY⟩ := Kd.R_slice gE.out; (first | subst hY | (injection hY with f1_ f2_ f3_; have f4_ := f1_.symm; have f5_ := f3_.symm; clear f1_ f2_ f3_; subst f4_; subst f5_)); refine hK.out _ _ ⟨xc aG 0 rfl, xc aG 1 rfl, xc aE 0 rfl, xc aE 1 rfl, (xce HB dF), (xce HB dE), (xce HB dD)⟩ (fun hHeld => ?_); clear hK K; refine nm_ (N := 54) ?_; refine pv_ 9 55 (h := ?_); refine last_ (i := 10) (N := none) #[true, true, true, true, true, true, true, true, true, true, true] rfl rfl (one_of HT_.out (by kernel_rfl)) (by decide) (fun K hK => ?_); have hs57 : sO.cell? ⟨aR, 1, none⟩ = some (.slice cU aZ.length cV) := xc aG 1 rfl; have hfs57 := blk_frozen aG.out 1; have hns57_0 := bH.out; have hns57_1 := bM.out; have hns57_2 := bO.out; have hms57_0 := bI.out; have hms57_1 := bN.out; have hms57_2 := bP.out; refine skip_ (w1 := ?_) (by rfl) rfl ?_ ?_; rotate_left
            ·go_simp
             rfl
            refine hK.out _ _ ?_; clear hK K; refine dn_ ?_; try go_wp2
            go_roundg eD
            case measure => have := HK1.out; have := HJ14.out; omega
            case rel => exact ⟨(true), (wrap64 (aD + 1)), (gQ), (.slice nN gQ.length nO), u5_0, u5_0, H', ⟨u5_2⟩, ⟨xrs gE⟩, ⟨xB⟩, ⟨xB⟩, ⟨xB⟩, ⟨xP⟩, ⟨xbg⟩⟩
           ·rw [if_neg jQ] at H; exact absurd H (by simp)
         ·rw [if_neg jF] at H; exact absurd H (by simp)
        ·rw [if_neg jE] at H; exact absurd H (by simp)
       ·rw [if_neg jD] at H; exact absurd H (by simp)
      ·replace jC := Bool.eq_false_iff.mpr jC; subst jC; replace H := iN H; by_cases kG : 0 ≤ aD
       ·rw [if_pos kG] at H; have qC : decide (0 ≤ aD) = true := decide_eq_true kG; clear kG; by_cases kH : aD < (aC.length : Int)
        ·rw [if_pos kH] at H; have qD : decide (aD < (aC.length : Int)) = true := decide_eq_true kH; clear kH; by_cases hZ : ((rd_T95 aC aD).f0) = aV
         ·rw [if_pos hZ] at H; obtain ⟨iA, iB⟩ := bT hZ; clear hZ; have H' := aM H; clear H; try go_wp2
          replace aA := rD aA; replace aE := bD aE; replace aH := bD aH; replace aJ := bD aJ; replace aG := bD aG; replace HB := lD HB; have p150 : 0 ≤ (aD : Int) := oda; have q150 : aD < (aC.length : Int) := oda; obtain ⟨bE, gR, bY, bZ, cA⟩ := at_T95 cD.out aD p150 q150; have dW := cA; have dX := bZ; have dY := bY; cases gR
          replace bY := xce HB bY; replace bZ := xce HB bZ; replace cA := xce HB cA; replace p150 := eq_true p150; replace q150 := eq_true q150; refine st_ 9 (fun w' => w'.cell? ⟨bB, 0, none⟩ = some (.int .i64 aI) ∧ w'.cell? ⟨bB, 1, none⟩ = some (.slice (some bE) aC.length bK) ∧ w'.cell? ⟨aN, 0, none⟩ = some (.int .i64 aV) ∧ w'.cell? ⟨aN, 1, none⟩ = some (.string aX) ∧ w'.cell? ⟨aN, 2, none⟩ = some (.string aY) ∧ w'.cell? (bE.add ((aD).toNat * 3)) = some (.int .i64 ((rd_T95 aC aD).f0)) ∧ w'.cell? ⟨(bE.add ((aD).toNat * 3)).block, (bE.add ((aD).toNat * 3)).off + 1, none⟩ = some (.string ((rd_T95 aC aD).f1)) ∧ w'.cell? ⟨(bE.add ((aD).toNat * 3)).block, (bE.add ((aD).toNat * 3)).off + 2, none⟩ = some (.string ((rd_T95 aC aD).f2))) spec_l3Put.tab9 spec_l3Put.bits9 ⟨xc aE 0 rfl, xc aE 1 rfl, xc aH 0 rfl, xc aH 1 rfl, xc aH 2 rfl, (xce HB dY), (xce HB dX), (xce HB dW)⟩ (fun hHeld HT_ HW_ => ?_); generalize wc.drew = tR at aA aE aH aJ aG HB bY bZ cA hHeld ⊢; refine pv_ 0 37 (h := ?_); refine pv_ 2 39 (h := ?_); refine pv_ 6 43 (h := ?_); refine tk_ 1 38 (h := ?_); refine pv_ 3 40 (h := ?_); refine pv_ 4 41 (h := ?_); refine tk_ 5 42 (h := ?_); refine tk_ 7 44 (h := ?_); refine pv_ 8 45 (h := ?_); refine dn_ ?_; try go_wp2
          go_roundg eD
          case measure => have := HK1.out; have := HJ14.out; omega
          case rel => exact ⟨(dQ), (wrap64 (aD + 1)), (aK), (aU), u5_0, u5_0, H', ⟨u5_2⟩, ⟨u5_3⟩, ⟨xblk⟩, ⟨xblk⟩, ⟨xblk⟩, ⟨xblk⟩, ⟨xbg⟩⟩
         ·rw [if_neg hZ] at H; obtain ⟨iA, iB⟩ := bF hZ; by_cases kI : aK.length < 3518437208883
          ·rw [if_pos kI] at H; have LMc62 := aM kI; clear kI; obtain ⟨gS, eG⟩ : ∃ y_ : List (S95), y_ = (aK ++ [(⟨(rd_T95 aC aD).f0, (rd_T95 aC aD).f1, (rd_T95 aC aD).f2⟩ : S95)]) := ⟨_, rfl⟩; replace H : (spec_l3Put.l0 eD dQ (wrap64 (aD + 1)) aI aC aV aX aY aI gS) = some (r1, r2) := by first | (rw [eG]; with_reducible exact H) | (have H2_ := oS H; rw [eG]; with_reducible exact H2_) | (have H2_ := oS H; with_reducible exact H2_) | with_reducible exact H | (rw [eG]; exact H) | exact H
           have iC := aM eG; clear eG; have H' := aM H; clear H; try go_wp2
           replace aA := rD aA; replace aE := bD aE; replace aH := bD aH; replace aJ := bD aJ; replace aG := bD aG; replace HB := lD HB; have p150 : 0 ≤ (aD : Int) := oda; have q150 : aD < (aC.length : Int) := oda; obtain ⟨bE, gR, bY, bZ, cA⟩ := at_T95 cD.out aD p150 q150; have dW := cA; have dX := bZ; have dY := bY; cases gR
           replace bY := xce HB bY; replace bZ := xce HB bZ; replace cA := xce HB cA; replace p150 := eq_true p150; replace q150 := eq_true q150; refine st_ 9 (fun w' => w'.cell? ⟨bB, 0, none⟩ = some (.int .i64 aI) ∧ w'.cell? ⟨bB, 1, none⟩ = some (.slice (some bE) aC.length bK) ∧ w'.cell? ⟨aN, 0, none⟩ = some (.int .i64 aV) ∧ w'.cell? ⟨aN, 1, none⟩ = some (.string aX) ∧ w'.cell? ⟨aN, 2, none⟩ = some (.string aY) ∧ w'.cell? (bE.add ((aD).toNat * 3)) = some (.int .i64 ((rd_T95 aC aD).f0)) ∧ w'.cell? ⟨(bE.add ((aD).toNat * 3)).block, (bE.add ((aD).toNat * 3)).off + 1, none⟩ = some (.string ((rd_T95 aC aD).f1)) ∧ w'.cell? ⟨(bE.add ((aD).toNat * 3)).block, (bE.add ((aD).toNat * 3)).off + 2, none⟩ = some (.string ((rd_T95 aC aD).f2))) spec_l3Put.tab9 spec_l3Put.bits9 ⟨xc aE 0 rfl, xc aE 1 rfl, xc aH 0 rfl, xc aH 1 rfl, xc aH 2 rfl, (xce HB dY), (xce HB dX), (xce HB dW)⟩ (fun hHeld HT_ HW_ => ?_); generalize wc.drew = sP at aA aE aH aJ aG HB bY bZ cA hHeld ⊢; refine pv_ 0 37 (h := ?_); refine pv_ 2 39 (h := ?_); refine pv_ 6 43 (h := ?_); refine tk_ 1 38 (h := ?_); refine pv_ 3 40 (h := ?_); refine pv_ 4 41 (h := ?_); refine tk_ 5 42 (h := ?_); refine tk_ 7 44 (h := ?_); refine pv_ 8 45 (h := ?_); refine dn_ ?_; try go_wp2
           replace aA := rD aA; replace aE := bD aE; replace aH := bD aH; replace aJ := bD aJ; replace aG := bD aG; replace HB := lD HB; have p151 : 0 ≤ (aD : Int) := oda; have q151 : aD < (aC.length : Int) := oda; obtain ⟨iD, nP, dG, dH, dI⟩ := at_T95 cD.out aD p151 q151; have dJ := dI; have dK := dH; have dL := dG; obtain rfl : bE = iD := (by injection nP); replace dG := xce HB dG; replace dH := xce HB dH; replace dI := xce HB dI; replace p151 := eq_true p151; replace q151 := eq_true q151; refine start_ (n := 11) (S := fun w' => w'.cell? ⟨aR, 0, none⟩ = some (.int .i64 aI) ∧ w'.cell? ⟨aR, 1, none⟩ = some (aU) ∧ w'.cell? ⟨bB, 0, none⟩ = some (.int .i64 aI) ∧ w'.cell? ⟨bB, 1, none⟩ = some (.slice (some bE) aC.length bK) ∧ w'.cell? (bE.add ((aD).toNat * 3)) = some (.int .i64 ((rd_T95 aC aD).f0)) ∧ w'.cell? ⟨(bE.add ((aD).toNat * 3)).block, (bE.add ((aD).toNat * 3)).off + 1, none⟩ = some (.string ((rd_T95 aC aD).f1)) ∧ w'.cell? ⟨(bE.add ((aD).toNat * 3)).block, (bE.add ((aD).toNat * 3)).off + 2, none⟩ = some (.string ((rd_T95 aC aD).f2))) (ds := [10]) #[false, false, false, false, false, false, false, false, false, false, false] (by kernel_rfl) rfl rfl ⟨xc aG 0 rfl, xc aG 1 rfl, xc aE 0 rfl, xc aE 1 rfl, (xce HB dL), (xce HB dK), (xce HB dJ)⟩ (fun hHeld => ?_); refine with_tabW spec_l3Put.tab10 spec_l3Put.bits10 (fun HT_ HW_ => ?_); generalize sP.drew = tS at aA aE aH aJ aG HB dG dH dI hHeld ⊢; refine pv_ 0 46 (h := ?_); refine pv_ 2 48 (h := ?_); refine pv_ 4 50 (h := ?_); refine tk_ 1 47 (h := ?_); refine tk_ 3 49 (h := ?_); refine pv_ 5 51 (h := ?_); refine tk_ 6 52 (h := ?_); refine on_ 7 53 (h := fun K hK => ?_); refine value_ (w1 := ?_) (v := ?_) (by rfl) rfl ?_ ?_; rotate_left 2
           ·go_simp
            constructor
            ·rfl
            ·rfl
           refine hK.out _ _ ⟨(blk_cell (blk_alloc aG.out _) 0).trans rfl, (blk_cell (blk_alloc aG.out _) 1).trans rfl, (blk_cell (blk_alloc aE.out _) 0).trans rfl, (blk_cell (blk_alloc aE.out _) 1).trans rfl, (World.cell?_alloc_lt _ _ _ (World.block_lt_of_cell? _ _ ((xce HB dL)))).trans ((xce HB dL)), (World.cell?_alloc_lt _ _ _ (World.block_lt_of_cell? _ _ ((xce HB dK)))).trans ((xce HB dK)), (World.cell?_alloc_lt _ _ _ (World.block_lt_of_cell? _ _ ((xce HB dJ)))).trans ((xce HB dJ))⟩ (fun hHeld => ?_); clear hK K; refine nm_ (N := 53) ?_; refine on_ 8 54 (h := fun K hK => ?_); refine Kd.R_append_step k95 (w0 := w) w.heap.size (by rfl) (.tmp 47) (.tmp 53) 24 95 (.agg #[(.int .i64 0), (.string ⟨#[]⟩), (.string ⟨#[]⟩)]) 40 rfl Try.underlying24 info95 rfl (by decide) (by omega) aU aK (⟨(rd_T95 aC aD).f0, (rd_T95 aC aD).f1, (rd_T95 aC aD).f2⟩ : S95) [.int .i64 ((rd_T95 aC aD).f0), .string ((rd_T95 aC aD).f1), .string ((rd_T95 aC aD).f2)] (fun k_ => k_ ≠ aN) (fun _ => False) rfl rfl ?aP (fun _ hk => hk.elim) ?aF ?aO ?aB ?aS ?aL ?_; (case aP => exact u5_7); (case aB => exact xbg); (case aF => exact u5_1); (case aO => exact (xr aA)); (case aS => exact (below_size xbg)); (case aL => have := LMc62.out; omega); intro sQ sR ho hb hg hat; rw [← iC.out] at ho; replace aE := aM (blk_grown (g := bB) (o := .cells #[.int .i64 aI, .slice (some bE) aC.length bK] 26 (0, 0)) xblk hg (Kd.R_ne aA.out aE.out (by decide))); replace aH := aM (blk_grown (g := aN) (o := .cells #[.int .i64 aV, .string aX, .string aY] 95 (0, 0)) xblk hg (Kd.R_away aA.out (fun _ hk => hk))); replace aJ := aM (blk_grown (g := cJ) (o := .cells #[.int .i64 0, .slice none 0 0] 26 (0, 0)) xblk hg (Kd.R_ne aA.out aJ.out (by decide))); replace aG := aM (blk_grown (g := aR) (o := .cells #[.int .i64 aI, aU] 26 (0, 0)) xblk hg (Kd.R_ne aA.out aG.out (by decide))); replace HB := aM (hb); have gF := aM (ho); clear aA ho hb hg hat; obtain ⟨nQ, nR, iE⟩ := Kd.R_slice gF.out; (first | subst iE | (injection iE with f1_ f2_ f3_; have f4_ := f1_.symm; have f5_ := f3_.symm; clear f1_ f2_ f3_; subst f4_; subst f5_)); refine hK.out _ _ ⟨xc aG 0 rfl, xc aG 1 rfl, xc aE 0 rfl, xc aE 1 rfl, (xce HB dL), (xce HB dK), (xce HB dJ)⟩ (fun hHeld => ?_); clear hK K; refine nm_ (N := 54) ?_; refine pv_ 9 55 (h := ?_); refine last_ (i := 10) (N := none) #[true, true, true, true, true, true, true, true, true, true, true] rfl rfl (one_of HT_.out (by kernel_rfl)) (by decide) (fun K hK => ?_); have hs67 : sR.cell? ⟨aR, 1, none⟩ = some (aU) := xc aG 1 rfl; have hfs67 := blk_frozen aG.out 1; have hns67_0 := bH.out; have hns67_1 := bM.out; have hns67_2 := bO.out; have hms67_0 := bI.out; have hms67_1 := bN.out; have hms67_2 := bP.out; refine skip_ (w1 := ?_) (by rfl) rfl ?_ ?_; rotate_left
           ·go_simp
            rfl
           refine hK.out _ _ ?_; clear hK K; refine dn_ ?_; try go_wp2
           go_roundg eD
           case measure => have := HK1.out; have := HJ14.out; omega
           case rel => exact ⟨(dQ), (wrap64 (aD + 1)), (gS), (.slice nQ gS.length nR), u5_0, u5_0, H', ⟨u5_2⟩, ⟨xrs gF⟩, ⟨xB⟩, ⟨xB⟩, ⟨xB⟩, ⟨xP⟩, ⟨xbg⟩⟩
          ·rw [if_neg kI] at H; exact absurd H (by simp)
        ·rw [if_neg kH] at H; exact absurd H (by simp)
       ·rw [if_neg kG] at H; exact absurd H (by simp)
   ·rw [if_neg gN] at H; have fY : decide (aD < (aC.length : Int)) = false := decide_eq_false gN; clear gN; by_cases kJ : dQ = true
    ·subst kJ; replace H := iT H; simp only [Option.some.injEq, Prod.mk.injEq] at H; obtain ⟨rfl, rfl⟩ := H; have qE := cB.out; have qF := cC.out; have qG := cK.out; have qH := cL.out; have qI := bH.out; have qJ := bI.out; obtain ⟨kK, kL, kM, kN⟩ := xf2 (w := wr) aE; have qK := bN.out; have qL := bM.out; have qM := bP.out; have qN := bO.out; obtain ⟨kO, kP, kQ, kR⟩ := xf2 (w := wr) aG; have qO := cN.out; have qP := cM.out; obtain ⟨kS, kT, kU, kV⟩ := xf2 (w := wr) aJ; obtain ⟨nS, nT, nU⟩ := Kd.R_slice aA.out; subst nU; go_wp2; refine bodyPost_ret (results_cell_row rfl _ _ cJ 26 #[.int .i64 aI, .slice nS aK.length nT] (0, 0) _ rfl xP Try.underlying26 rfl (by kernel_rfl)) rfl ?_; exact ⟨_, xerr, xrm aA (fun _ _ => trivial), xbg⟩
    ·replace kJ := Bool.eq_false_iff.mpr kJ; subst kJ; replace H := iN H; by_cases kW : aK.length < 3518437208883
     ·rw [if_pos kW] at H; have LMc79 := aM kW; clear kW; obtain ⟨iF, eH⟩ : ∃ y_ : List (S95), y_ = (aK ++ [(⟨aV, aX, aY⟩ : S95)]) := ⟨_, rfl⟩; replace H : (some (aI, iF)) = some (r1, r2) := by first | (rw [eH]; with_reducible exact H) | (have H2_ := oS H; rw [eH]; with_reducible exact H2_) | (have H2_ := oS H; with_reducible exact H2_) | with_reducible exact H | (rw [eH]; exact H) | exact H
      have iG := aM eH; clear eH; simp only [Option.some.injEq, Prod.mk.injEq] at H; obtain ⟨rfl, rfl⟩ := H; have qQ := cB.out; have qR := cC.out; have qS := cK.out; have qT := cL.out; have qU := bH.out; have qV := bI.out; obtain ⟨kX, kY, kZ, lA⟩ := xf2 (w := wr) aE; have qW := bN.out; have qX := bM.out; have qY := bP.out; have qZ := bO.out; obtain ⟨lB, lC, lE, lF⟩ := xf2 (w := wr) aG; have rA := cM.out; have rB := cN.out; obtain ⟨lG, lH, lI, lJ, lK, lL⟩ := xf3 (w := wr) aH; go_wp2_with (first | ((with_reducible refine gate_builtin (b := .append) (xs := #[.tmp 59, .tmp 61]) rfl ?_); at_builtin; refine Kd.R_append k95 (w0 := w) w.heap.size rfl (.tmp 59) (.tmp 61) 24 95 (.agg #[(.int .i64 0), (.string ⟨#[]⟩), (.string ⟨#[]⟩)]) 40 rfl Try.underlying24 info95 rfl (by decide) (by omega) aU aK (⟨aV, aX, aY⟩ : S95) [.int .i64 aV, .string aX, .string aY] (fun k_ => k_ ≠ aN) (fun _ => False) rfl rfl ?aP (fun _ hk => hk.elim) ?aF ?aO ?aB ?aS ?aL ?_; (case aP => exact u5_4); (case aB => exact xbg); (case aF => exact u5_1); (case aO => exact (xr aA)); (case aS => exact (below_size xbg)); (case aL => have := LMc79.out; omega); intro sS rC ho hb hg hat; rw [← iG.out] at ho; replace aE := aM (blk_grown (g := bB) (o := .cells #[.int .i64 aI, .slice cF aC.length bK] 26 (0, 0)) xblk hg (Kd.R_ne aA.out aE.out (by decide))); replace aH := aM (blk_grown (g := aN) (o := .cells #[.int .i64 aV, .string aX, .string aY] 95 (0, 0)) xblk hg (Kd.R_away aA.out (fun _ hk => hk))); replace aJ := aM (blk_grown (g := cJ) (o := .cells #[.int .i64 0, .slice none 0 0] 26 (0, 0)) xblk hg (Kd.R_ne aA.out aJ.out (by decide))); replace aG := aM (blk_grown (g := aR) (o := .cells #[.int .i64 aI, aU] 26 (0, 0)) xblk hg (Kd.R_ne aA.out aG.out (by decide))); replace HB := aM (hb); have gG := aM (ho); clear aA; clear ho hb hg hat; obtain ⟨nV, nW, nX⟩ := Kd.R_slice gG.out; subst nX; obtain ⟨lM, lN, lO, lP⟩ := xf2 (w := rC) aG; obtain ⟨lQ, lR, lS, lT⟩ := xf2 (w := rC) aJ))
      refine bodyPost_ret (results_cell_row rfl _ _ cJ 26 #[.int .i64 aI, .slice nV iF.length nW] (0, 0) _ rfl xP Try.underlying26 rfl (by kernel_rfl)) rfl ?_; exact ⟨_, xerr, xrm gG (fun _ _ => trivial), xbg⟩
     ·rw [if_neg kW] at H; exact absurd H (by simp)

/-! ### spec_DiskSync: function 71 -/
def spec_DiskSync.j0 : Nat → Int → Bool → Int → List (S95) → Option (Int × (List (S95)) × Int)
 | 0, _, _, _, _ => none
 | k + 1, x1, sU, dZ, cE => if sU = true then (some (0, ([] : List (S95)), 1)) else ((spec_l3Find.f k dZ cE x1).bind fun bA => (if bA < 0 then ((spec_l3Copy.f dZ cE).bind fun gH => (some (gH.1, gH.2, 2))) else (if 0 ≤ bA then (if bA < (cE.length : Int) then (if ((rd_T95 cE bA).f1).size + ((rd_T95 cE bA).f2).size ≤ 9223372036854775807 then ((spec_l3Put.f k dZ cE x1 (((rd_T95 cE bA).f1) ++ ((rd_T95 cE bA).f2)) (⟨#[]⟩ : ByteArray)).bind fun gI => (some (gI.1, gI.2, 0))) else (none)) else (none)) else (none))))
def spec_DiskSync.f (k : Nat) (aI : Int) (aC : List (S95)) (a1 : Int) : Option (Int × (List (S95)) × Int) := (spec_DiskOk.f k aI aC).bind fun fD => (if fD = true then ((spec_l3Name.f a1).bind fun eS => (spec_DiskSync.j0 k a1 (!eS) aI aC)) else (spec_DiskSync.j0 k a1 true aI aC))
theorem u5_mq1 {p : Prop} (h : p := by repeat' first | (with_reducible first | exact eL _ _ _ _ | exact spec_DiskOk.mono _ _ _ | exact spec_l3Find.mono _ _ _ _ | exact spec_l3Put.mono _ _ _ _ _ _ | exact LeO.refl _ | exact LeO.none _ | refine LeO.ite ?_ ?_ | refine LeO.bind ?_ (fun _ => ?_)) | exact eL _ _ _ _ | exact spec_DiskOk.mono _ _ _ | exact spec_l3Find.mono _ _ _ _ | exact spec_l3Put.mono _ _ _ _ _ _ | exact LeO.none _ | refine LeO.ite ?_ ?_ | refine LeO.bind ?_ (fun _ => ?_)) : p := h
set_option maxRecDepth 100000 in
theorem spec_DiskSync.mono_l : ∀ k, (∀ y0 y1 y2 y3, LeO (spec_DiskSync.j0 k y0 y1 y2 y3) (spec_DiskSync.j0 (k + 1) y0 y1 y2 y3))
 | 0 => fun _ _ _ _ r h => by simp [spec_DiskSync.j0] at h
 | k + 1 => by
  have eL := spec_DiskSync.mono_l k
  ·intro y0 y1 y2 y3; unfold spec_DiskSync.j0; exact u5_mq1
theorem spec_DiskSync.mono : ∀ a0 a1 a2 k, LeO (spec_DiskSync.f k a0 a1 a2) (spec_DiskSync.f (k + 1) a0 a1 a2) := by
 intro a0 a1 a2 k
 have eL := spec_DiskSync.mono_l k
 unfold spec_DiskSync.f
 exact u5_mq1
set_option maxHeartbeats 8000000 in
set_option maxRecDepth 100000 in
theorem spec_DiskSync.calls (k : Nat) (aI : Int) (cF : Option Addr) (bK : Nat) (aC : List (S95)) (a1 : Int) (r1 : Int) (r2 : List (S95)) (r3 : Int) (w : World) (eB : Kd.C k95 w cF aC.length aC) (eC : aC.length ≤ bK) (h : spec_DiskSync.f k aI aC a1 = some (r1, r2, r3)) :
 Calls Try.prog 71 #[.agg #[.int .i64 aI, .slice cF aC.length bK], .int .i64 a1] w fun e w' => ∃ v1_ : Value, e = .returned (.tuple #[.agg #[.int .i64 r1, v1_], .int .i64 r3]) ∧ Kd.R k95 95 w' w.heap.size (fun _ => True) v1_ r2 ∧ Below w.heap.size w w' := by
 have nG := Try.underlying26
 have nH := Try.underlying95
 have cD := aM eB
 have dM := aM eC
 clear eB eC
 have HB := aM (Below.refl w.heap.size w)
 have H : ((spec_DiskOk.f k aI aC).bind fun fD => (if fD = true then ((spec_l3Name.f a1).bind fun eS => (spec_DiskSync.j0 k a1 (!eS) aI aC)) else (spec_DiskSync.j0 k a1 true aI aC))) = some (r1, r2, r3) := h
 clear h
 have nY := aM H
 clear H
 go_enter Try.func71, Try.ntmps71
 go_upto_region 1 with (first | ((with_reducible refine gD 2 rfl ?_); refine boxE (N := 2) rfl (cs := #[.int .i64 aI, .slice cF aC.length bK]) (t := 26) ?_; intro iH hg w4 hbox hb; have aT := aM (hbox); have rE := aM (xge hg); have rF := aM (xge hg); replace HB := xbs hb; clear hb hbox hg) | ((with_reducible refine gD 4 rfl ?_); refine boxE (N := 4) rfl (cs := #[.int .i64 0, .slice none 0 0]) (t := 26) ?_; intro eM hg w5 hbox hb; have rG := aM (xge hg); have rH := aM (xge hg); replace HB := xbs hb; have cG := nblt aT hg; have cH := nbgt aT hg; replace aT := xbb aT hb; have bJ := aM (hbox); clear hb hbox hg))
 (try simp only [Act.put, List.setIfInBounds_toArray, List.set_cons_zero, List.set_cons_succ])
 go_cut [15] (fun sV wc => ∃ (kq : Nat) (eN : Bool), sV = .bool eN ∧ Aside0 (spec_DiskSync.j0 kq a1 eN aI aC = some (r1, r2, r3)) ∧ Aside0 (kq ≤ k) ∧ Aside0 (wc.heap[iH]? = some (.cells #[.int .i64 aI, (.slice cF aC.length bK)] 26 (0, 0))) ∧ Aside0 (wc.heap[eM]? = some (.cells #[.int .i64 0, (.slice none 0 0)] 26 (0, 0))) ∧ Aside0 (Below w.heap.size w wc))
 case first =>
  have H := nY.out; clear nY; replace H := oB H; obtain ⟨fD, rI, H⟩ := H; (try dsimp only at H); have A6 := aM rI; clear rI
  by_cases c7 : fD = true
  ·subst c7; replace H := iT H; replace H := oB H; obtain ⟨eS, rJ, H⟩ := H; (try dsimp only at H); have A8 := aM rJ; clear rJ
   have H' := aM H; clear H; have sW := cG.out; have sX := cH.out; obtain ⟨fQ, fR, fS, fT⟩ := xf2 (w := w5) aT; go_wp2_with (first | ((with_reducible refine gC 132 rfl ?_); refine goesLY (some 9) rfl Try.func132 #[.agg #[.int .i64 aI, .slice cF aC.length bK]] ?_; (with_reducible refine (spec_DiskOk.calls k aI _ _ aC true _ ?side1 ?side2 A6.out).mono ?_); (case side1 => exact xcb cD); (case side2 => exact dM.out); rintro e sY ⟨rfl, hb⟩; refine ⟨_, rfl, ?_⟩; replace aT := xbb aT hb; replace bJ := xbb bJ hb; replace HB := xbs hb; (try clear hb)) | (go_at_call 133; (with_reducible refine (spec_l3Name.calls a1 eS _ A8.out).mono ?_); rintro e w' ⟨rfl, ⟨nd, rfl⟩⟩))
   go_meet
   case rel => exact ⟨_, (!eS), u5_0, H', ⟨by first | omega | exact Nat.le_refl _⟩, ⟨xblk⟩, ⟨xblk⟩, ⟨xbg⟩⟩
  ·replace c7 := Bool.eq_false_iff.mpr c7; subst c7; replace H := iN H; have H' := aM H; clear H; have gU := cG.out; have gV := cH.out; obtain ⟨cW, cX, cY, cZ⟩ := xf2 (w := w5) aT; go_wp2_with (first | ((with_reducible refine gC 132 rfl ?_); refine goesLY (some 9) rfl Try.func132 #[.agg #[.int .i64 aI, .slice cF aC.length bK]] ?_; (with_reducible refine (spec_DiskOk.calls k aI _ _ aC false _ ?side1 ?side2 A6.out).mono ?_); (case side1 => exact xcb cD); (case side2 => exact dM.out); rintro e tT ⟨rfl, hb⟩; refine ⟨_, rfl, ?_⟩; replace aT := xbb aT hb; replace bJ := xbb bJ hb; replace HB := xbs hb; (try clear hb)))
   go_meet
   case rel => exact ⟨_, (true), u5_0, H', ⟨by first | omega | exact Nat.le_refl _⟩, ⟨xblk⟩, ⟨xblk⟩, ⟨xbg⟩⟩
 case rest =>
  clear nY; try clear c1
  try clear p2
  try clear c7
  try clear c9
  try clear oZ
  try clear pA
  try clear fQ fR
  try clear cW cX
  try clear fS fT
  try clear cY cZ
  obtain ⟨kq, eN, rfl, HA, HJ2, aT, bJ, HB⟩ := hcut; cases kq with
  | zero => exact absurd HA.out (by simp [spec_DiskSync.j0])
  | succ nZ =>
   have H := HA.out; clear HA; simp only [spec_DiskSync.j0] at H; by_cases lU : eN = true
   ·subst lU; replace H := iT H; simp only [Option.some.injEq, Prod.mk.injEq] at H; obtain ⟨rfl, rfl, rfl⟩ := H; have gW := cH.out; have gX := cG.out; obtain ⟨lV, lW, lX, lY⟩ := xf2 (w := wc) bJ; go_wp2; refine bodyPost_ret (results_ct rfl _ _ eM 26 #[.int .i64 0, .slice none 0 0] (0, 0) _ rfl xP Try.underlying26 rfl (by kernel_rfl)) rfl ?_; exact ⟨_, xerr, u5_6, xbg⟩
   ·replace lU := Bool.eq_false_iff.mpr lU; subst lU; replace H := iN H; replace H := oB H; obtain ⟨bA, iI, H⟩ := H; (try dsimp only at H); have rK := aM iI; clear iI
    by_cases gT : bA < 0
    ·rw [if_pos gT] at H; have iJ : decide (bA < 0) = true := decide_eq_true gT; clear gT; replace H := oB H; obtain ⟨⟨iK, iL⟩, iM, H⟩ := H; (try dsimp only at H); have sZ := aM iM; clear iM
     simp only [Option.some.injEq, Prod.mk.injEq] at H; obtain ⟨rfl, rfl, rfl⟩ := H; have rL := cG.out; have rM := cH.out; obtain ⟨lZ, mA, mB, mC⟩ := xf2 (w := wc) aT; go_wp2_with (first | ((with_reducible refine gC 134 rfl ?_); refine goesLY (some 19) rfl Try.func134 #[.agg #[.int .i64 aI, .slice cF aC.length bK], .int .i64 a1] ?_; (with_reducible refine (spec_l3Find.calls nZ aI _ _ aC a1 bA _ ?side1 ?side2 rK.out).mono ?_); (case side1 => exact xcb cD); (case side2 => exact dM.out); rintro e pF ⟨rfl, hb⟩; refine ⟨_, rfl, ?_⟩; replace aT := xbb aT hb; replace bJ := xbb bJ hb; replace HB := xbs hb; (try clear hb); obtain ⟨mD, mE, mF, mG⟩ := xf2 (w := pF) aT) | ((with_reducible refine gC 135 rfl ?_); refine goesLY (some 23) rfl Try.func135 #[.agg #[.int .i64 aI, .slice cF aC.length bK]] ?_; (with_reducible refine (spec_l3Copy.calls aI _ _ aC iK iL _ ?side1 ?side2 sZ.out).mono ?_); (case side1 => exact xcb cD); (case side2 => exact dM.out); rintro e tA ⟨tB, rfl, iO, hb⟩; refine ⟨_, rfl, ?_⟩; have gJ := aM (Kd.R_lower iO (below_size xbg)); replace aT := xbb aT hb; replace bJ := xbb bJ hb; replace HB := xbs hb; (try clear hb iO); obtain ⟨mH, mI, mJ, mK⟩ := xf2 (w := tA) bJ; obtain ⟨oA, oC, oD⟩ := Kd.R_slice gJ.out; subst oD))
     refine bodyPost_ret (results_ct rfl _ _ eM 26 #[.int .i64 iK, .slice oA iL.length oC] (0, 0) _ rfl xP Try.underlying26 rfl (by kernel_rfl)) rfl ?_; exact ⟨_, xerr, xrm gJ (fun _ _ => trivial), xbg⟩
    ·rw [if_neg gT] at H; have iJ : decide (bA < 0) = false := decide_eq_false gT; clear gT; by_cases fE : 0 ≤ bA
     ·rw [if_pos fE] at H; have gA : decide (0 ≤ bA) = true := decide_eq_true fE; clear fE; by_cases mL : bA < (aC.length : Int)
      ·rw [if_pos mL] at H; have rN : decide (bA < (aC.length : Int)) = true := decide_eq_true mL; clear mL; by_cases iP : ((rd_T95 aC bA).f1).size + ((rd_T95 aC bA).f2).size ≤ 9223372036854775807
       ·rw [if_pos iP] at H; have rO := eq_true iP; have rP : decide (((rd_T95 aC bA).f1).size + ((rd_T95 aC bA).f2).size ≤ 9223372036854775807) = true := decide_eq_true iP; try have rQ : (9223372036854775807 < ((rd_T95 aC bA).f1).size + ((rd_T95 aC bA).f2).size) = False := eq_false (Nat.not_lt.2 iP)
        replace H := oB H; obtain ⟨⟨iQ, iR⟩, iS, H⟩ := H; (try dsimp only at H); have tC := aM iS; clear iS
        simp only [Option.some.injEq, Prod.mk.injEq] at H; obtain ⟨rfl, rfl, rfl⟩ := H; have rR := cG.out; have rS := cH.out; obtain ⟨mM, mN, mO, mP⟩ := xf2 (w := wc) aT; go_wp2_with (first | ((with_reducible refine gC 134 rfl ?_); refine goesLY (some 19) rfl Try.func134 #[.agg #[.int .i64 aI, .slice cF aC.length bK], .int .i64 a1] ?_; (with_reducible refine (spec_l3Find.calls nZ aI _ _ aC a1 bA _ ?side1 ?side2 rK.out).mono ?_); (case side1 => exact xcb cD); (case side2 => exact dM.out); rintro e tD ⟨rfl, hb⟩; refine ⟨_, rfl, ?_⟩; replace aT := xbb aT hb; replace bJ := xbb bJ hb; replace HB := xbs hb; (try clear hb); obtain ⟨fM, fN, fO, fP⟩ := xf2 (w := tD) aT; have p164 : 0 ≤ (bA : Int) := oda; have q164 : bA < (aC.length : Int) := oda; obtain ⟨iU, oE, eO, eP, eQ⟩ := at_T95 cD.out bA p164 q164; cases oE; replace eO := xce HB eO; replace eP := xce HB eP; replace eQ := xce HB eQ; replace p164 := eq_true p164; replace q164 := eq_true q164) | ((with_reducible refine gD 7 rfl ?_); refine boxE (N := 7) rfl (cs := #[.int .i64 0, .string (⟨#[]⟩ : ByteArray), .string (⟨#[]⟩ : ByteArray)]) (t := 95) ?_; intro gK hg fC hbox hb; have rT := aM (xge hg); have rU := aM (xge hg); replace HB := xbs hb; have eT := nblt aT hg; have eU := nbgt aT hg; have eV := nblt bJ hg; have eW := nbgt bJ hg; replace aT := xbb aT hb; replace bJ := xbb bJ hb; have gL := aM (hbox); clear hb hbox hg; have rV := eU.out; have rW := eT.out; have rX := eW.out; have rY := eV.out; obtain ⟨mQ, mR, mS, mT, mU, mV⟩ := xf3 (w := fC) gL; obtain ⟨mW, mX, mY, mZ⟩ := xf2 (w := fC) aT) | ((with_reducible refine gC 137 rfl ?_); refine goesLY (some 37) rfl Try.func137 #[.agg #[.int .i64 aI, .slice (some iU) aC.length bK], .agg #[.int .i64 a1, .string (((rd_T95 aC bA).f1) ++ ((rd_T95 aC bA).f2)), .string (⟨#[]⟩ : ByteArray)]] ?_; (with_reducible refine (spec_l3Put.calls nZ aI _ _ aC a1 (((rd_T95 aC bA).f1) ++ ((rd_T95 aC bA).f2)) (⟨#[]⟩ : ByteArray) iQ iR _ ?side1 ?side2 tC.out).mono ?_); (case side1 => exact Kd.C_below cD.out xbg); (case side2 => exact dM.out); rintro e tE ⟨tF, rfl, iO, hb⟩; refine ⟨_, rfl, ?_⟩; have gM := aM (Kd.R_lower (Kd.R_newB iO (g := gK) (o := .cells #[.int .i64 ((rd_T95 aC bA).f0), .string ((rd_T95 aC bA).f1), .string ((rd_T95 aC bA).f2)] 95 (0, 0)) xP) (below_size xbg)); replace aT := xbc aT hb; replace bJ := xbc bJ hb; replace gL := aM (blk_below (g := gK) (o := .cells #[.int .i64 ((rd_T95 aC bA).f0), .string ((rd_T95 aC bA).f1), .string ((rd_T95 aC bA).f2)] 95 (0, 0)) xP hb); replace HB := xbs hb; (try clear hb iO); obtain ⟨nA, nB, nC, nD⟩ := xf2 (w := tE) bJ; obtain ⟨oF, oG, oH⟩ := Kd.R_slice gM.out; subst oH))
        refine bodyPost_ret (results_ct rfl _ _ eM 26 #[.int .i64 iQ, .slice oF iR.length oG] (0, 0) _ rfl xP Try.underlying26 rfl (by kernel_rfl)) rfl ?_; exact ⟨_, xerr, xrm gM (fun _ _ => trivial), xbg⟩
       ·rw [if_neg iP] at H; exact absurd H (by simp)
      ·rw [if_neg mL] at H; exact absurd H (by simp)
     ·rw [if_neg fE] at H; exact absurd H (by simp)

/-! ### spec_Sum: function 173 -/
def spec_Sum.l0 : Nat → List Int → Int → Int → Int → Option (Int)
 | 0, _, _, _, _ => none
 | k + 1, x0, x3, x4, x5 => if x5 < (x0.length : Int) then (if 0 ≤ x5 then (spec_Sum.l0 k x0 (Int.tmod (wrap64 (x3 + (wrap64 (rd x0 x5)))) 65521) (Int.tmod (wrap64 (x4 + (Int.tmod (wrap64 (x3 + (wrap64 (rd x0 x5)))) 65521))) 65521) (wrap64 (x5 + 1))) else (none)) else (some (wrap64 ((wrap64 (65536 * x4)) + x3)))
def spec_Sum.f (k : Nat) (l0 : List Int) : Option (Int) := spec_Sum.l0 k l0 1 0 0
theorem u5_mq2 {p : Prop} (h : p := by repeat' first | (with_reducible first | exact eL _ _ _ _ | exact LeO.refl _ | exact LeO.none _ | refine LeO.ite ?_ ?_ | refine LeO.bind ?_ (fun _ => ?_)) | exact eL _ _ _ _ | exact LeO.none _ | refine LeO.ite ?_ ?_ | refine LeO.bind ?_ (fun _ => ?_)) : p := h
set_option maxRecDepth 100000 in
theorem spec_Sum.mono_l : ∀ k, (∀ y0 y1 y2 y3, LeO (spec_Sum.l0 k y0 y1 y2 y3) (spec_Sum.l0 (k + 1) y0 y1 y2 y3))
 | 0 => fun _ _ _ _ r h => by simp [spec_Sum.l0] at h
 | k + 1 => by
  have eL := spec_Sum.mono_l k
  ·intro y0 y1 y2 y3; unfold spec_Sum.l0; exact u5_mq2
theorem spec_Sum.mono : ∀ a0 k, LeO (spec_Sum.f k a0) (spec_Sum.f (k + 1) a0) := by
 intro a0 k
 have eL := spec_Sum.mono_l k
 unfold spec_Sum.f
 exact u5_mq2
set_option maxHeartbeats 8000000 in
set_option maxRecDepth 100000 in
theorem spec_Sum.calls (k : Nat) (A0 : Option Addr) (c0 : Nat) (l0 : List Int) (r : Int) (w : World) (rZ : Kd.C (Kd.int .u8) w A0 l0.length l0) (sA : l0.length ≤ c0) (h : spec_Sum.f k l0 = some r) :
 Calls Try.prog 173 #[.slice A0 l0.length c0] w fun e w' => e = .returned (.int .i64 r) ∧ Drawn0 w w' := by
 have tG := aM rZ
 have tU := aM sA
 clear rZ sA
 have H : (spec_Sum.l0 k l0 1 0 0) = some r := h
 clear h
 have H' := aM H
 clear H
 go_enter Try.func173, Try.ntmps173
 go_wp2
 go_loopg [3, 4, 5] k (fun kq v3 v4 v5 w' => ∃ (cO : Int) (fU : Int) (cS : Int), v3 = .int .i64 cO ∧ v4 = .int .i64 fU ∧ v5 = .int .i64 cS ∧ Aside0 (spec_Sum.l0 kq l0 cO fU cS = some r) ∧ Aside0 (kq ≤ k) ∧ Drawn0 w w')
 case atStart => exact ⟨(1), (0), (0), u5_0, u5_0, u5_0, H', ⟨Nat.le_refl _⟩, u5_5⟩
 case round =>
  clear H'; try clear c1
  obtain ⟨cO, fU, cS, rfl, rfl, rfl, HA, HK1, ⟨m1, rfl⟩⟩ := hrel; cases gk with
  | zero => exact absurd HA.out (by simp [spec_Sum.l0])
  | succ k1 =>
   have H := HA.out; clear HA; simp only [spec_Sum.l0] at H; by_cases c2 : cS < (l0.length : Int)
   ·rw [if_pos c2] at H; have fV : decide (cS < (l0.length : Int)) = true := decide_eq_true c2; clear c2; by_cases c3 : 0 ≤ cS
    ·rw [if_pos c3] at H; have tH : decide (0 ≤ cS) = true := decide_eq_true c3; clear c3; have H' := aM H; clear H; have p170 : 0 ≤ (cS : Int) := oda; have q170 : cS < (l0.length : Int) := oda; obtain ⟨sB, oI, nE⟩ := Kd.at_int tG.out cS p170 q170; cases oI
     replace p170 := eq_true p170; replace q170 := eq_true q170; go_wp2; go_roundg k1
     case measure => have := HK1.out; omega
     case rel => exact ⟨(Int.tmod (wrap64 (cO + (wrap64 (rd l0 cS)))) 65521), (Int.tmod (wrap64 (fU + (Int.tmod (wrap64 (cO + (wrap64 (rd l0 cS)))) 65521))) 65521), (wrap64 (cS + 1)), u5_0, u5_0, u5_0, H', ⟨by have := HK1.out; omega⟩, u5_5⟩
    ·rw [if_neg c3] at H; exact absurd H (by simp)
   ·rw [if_neg c2] at H; have fV : decide (cS < (l0.length : Int)) = false := decide_eq_false c2; clear c2; obtain rfl := Option.some.inj H; go_wp2; go_ret
    exact ⟨u5_0, u5_5⟩

/-! ### spec_PutNum: function 180 -/
def spec_PutNum.l0 : Nat → Int → List Int → Option (List Int)
 | 0, _, _ => none
 | k + 1, x0, x3 => if x0 > 127 then (if x3.length < 140737488355328 then (spec_PutNum.l0 k (wrap64 (Int.tdiv x0 128)) (x3 ++ [(wrap64 ((Int.tmod x0 128) + 128)) % 256])) else (none)) else (if x3.length < 140737488355328 then (some (x3 ++ [(x0) % 256])) else (none))
def spec_PutNum.f (k : Nat) (a0 : Int) : Option (List Int) := (some (([] : List Int) : List Int)).bind fun eA => (if a0 < 0 then (some eA) else (spec_PutNum.l0 k a0 eA))
theorem u5_mq3 {p : Prop} (h : p := by repeat' first | (with_reducible first | exact eL _ _ | exact LeO.refl _ | exact LeO.none _ | refine LeO.ite ?_ ?_ | refine LeO.bind ?_ (fun _ => ?_)) | exact eL _ _ | exact LeO.none _ | refine LeO.ite ?_ ?_ | refine LeO.bind ?_ (fun _ => ?_)) : p := h
set_option maxRecDepth 100000 in
theorem spec_PutNum.mono_l : ∀ k, (∀ y0 y1, LeO (spec_PutNum.l0 k y0 y1) (spec_PutNum.l0 (k + 1) y0 y1))
 | 0 => fun _ _ r h => by simp [spec_PutNum.l0] at h
 | k + 1 => by
  have eL := spec_PutNum.mono_l k
  ·intro y0 y1; unfold spec_PutNum.l0; exact u5_mq3
theorem spec_PutNum.mono : ∀ a0 k, LeO (spec_PutNum.f k a0) (spec_PutNum.f (k + 1) a0) := by
 intro a0 k
 have eL := spec_PutNum.mono_l k
 unfold spec_PutNum.f
 exact u5_mq3
set_option maxHeartbeats 8000000 in
set_option maxRecDepth 100000 in
theorem spec_PutNum.calls (k : Nat) (a0 : Int) (r : List Int) (w : World) (h : spec_PutNum.f k a0 = some r) :
 Calls Try.prog 180 #[.int .i64 a0] w fun e w' => ∃ v0_ : Value, e = .returned (v0_) ∧ Kd.R (Kd.int .u8) 5 w' w.heap.size (fun _ => True) v0_ r ∧ Below w.heap.size w w' := by
 have HB := aM (Below.refl w.heap.size w)
 have H : ((some (([] : List Int) : List Int)).bind fun eA => (if a0 < 0 then (some eA) else (spec_PutNum.l0 k a0 eA))) = some r := h
 clear h
 obtain ⟨eA, eI⟩ : ∃ y_ : List Int, y_ = (([] : List Int)) := ⟨_, rfl⟩
 replace H : (if a0 < 0 then (some eA) else (spec_PutNum.l0 k a0 eA)) = some r := by first | (rw [eI]; with_reducible exact H) | (have H2_ := oS H; rw [eI]; with_reducible exact H2_) | (have H2_ := oS H; with_reducible exact H2_) | with_reducible exact H | (rw [eI]; exact H) | exact H
 have eR := aM eI
 clear eI
 by_cases c2 : a0 < 0
 ·rw [if_pos c2] at H; have fV : decide (a0 < 0) = true := decide_eq_true c2; clear c2; obtain rfl := Option.some.inj H; go_enter Try.func180, Try.ntmps180
  go_wp2_with (first | ((with_reducible refine gD 4 rfl ?_); refine Kd.R_lit (Kd.int .u8) _ 5 ?hg (N := 4) ?hd (xs := ([] : List Int)) (inner := []) (ok := fun _ => True) (okp := fun _ => True) ?hr ?hp (fun _ hk => hk) trivial (Below.refl _ _) (Nat.le_refl _) (by simp) ?_; (case hd => rfl); (case hg => rfl); (case hr => first | (go_simp; done) | (go_simp; rfl)); (case hp => exact (Reps.none _ _)); intro oJ w3 iV hb hg_ hnew_; clear hg_ hnew_; (first | rw [← eR.out] at iV | (simp only [Int.reduceToNat] at iV; rw [← eR.out] at iV)); have fX := aM (Kd.R_lower iV (below_size xbel)); replace HB := xbs hb; clear hb iV))
  go_ret
  exact ⟨_, xerr, u5_8, xbel⟩
 ·rw [if_neg c2] at H; have fV : decide (a0 < 0) = false := decide_eq_false c2; clear c2; have H' := aM H; clear H; go_enter Try.func180, Try.ntmps180
  go_wp2_with (first | ((with_reducible refine gD 4 rfl ?_); refine Kd.R_lit (Kd.int .u8) _ 5 ?hg (N := 4) ?hd (xs := ([] : List Int)) (inner := []) (ok := fun _ => True) (okp := fun _ => True) ?hr ?hp (fun _ hk => hk) trivial (Below.refl _ _) (Nat.le_refl _) (by simp) ?_; (case hd => rfl); (case hg => rfl); (case hr => first | (go_simp; done) | (go_simp; rfl)); (case hp => exact (Reps.none _ _)); intro oJ w5 iW hb hg_ hnew_; clear hg_ hnew_; (first | rw [← eR.out] at iW | (simp only [Int.reduceToNat] at iW; rw [← eR.out] at iW)); have fX := aM (Kd.R_lower iW (below_size xbel)); replace HB := xbs hb; clear hb iW))
  go_loopg [0, 3] k (fun kq v0 v3 w' => ∃ (cT : Int) (cO : List Int), v0 = .int .i64 cT ∧ Aside0 (spec_PutNum.l0 kq cT cO = some r) ∧ Aside0 (kq ≤ k) ∧ Aside0 (Kd.R (Kd.int .u8) 5 w' w.heap.size (fun _ => True) v3 cO) ∧ Aside0 (Below w.heap.size w w'))
  case atStart => exact ⟨(a0), (eA), u5_0, H', ⟨Nat.le_refl _⟩, ⟨u5_8⟩, ⟨xbel⟩⟩
  case round =>
   clear H'; try clear c1
   try clear c2
   try clear fV
   try clear p2
   obtain ⟨cT, cO, rfl, HA, HK1, fW, HB⟩ := hrel; cases gk with
   | zero => exact absurd HA.out (by simp [spec_PutNum.l0])
   | succ k1 =>
    have H := HA.out; clear HA; simp only [spec_PutNum.l0] at H; by_cases c7 : cT > 127
    ·rw [if_pos c7] at H; have oK : decide (127 < cT) = true := decide_eq_true c7; clear c7; by_cases c8 : cO.length < 140737488355328
     ·rw [if_pos c8] at H; have LMc8 := aM c8; clear c8; obtain ⟨iX, eJ⟩ : ∃ y_ : List Int, y_ = (cO ++ [(wrap64 ((Int.tmod cT 128) + 128)) % 256]) := ⟨_, rfl⟩; replace H : (spec_PutNum.l0 k1 (wrap64 (Int.tdiv cT 128)) iX) = some r := by first | (rw [eJ]; with_reducible exact H) | (have H2_ := oS H; rw [eJ]; with_reducible exact H2_) | (have H2_ := oS H; with_reducible exact H2_) | with_reducible exact H | (rw [eJ]; exact H) | exact H
      have iY := aM eJ; clear eJ; have H' := aM H; clear H; go_wp2_with (first | ((with_reducible refine gate_builtin (b := .append) (xs := #[.tmp 10, .tmp 15]) rfl ?_); at_builtin; refine Kd.R_append (Kd.int .u8) (w0 := w) w.heap.size rfl (.tmp 10) (.tmp 15) 22 5 (.int .u8 0) 1 rfl Try.underlying22 info5 rfl (by decide) (by omega) u3 cO ((wrap64 ((Int.tmod cT 128) + 128)) % 256) [.int .u8 ((wrap64 ((Int.tmod cT 128) + 128)) % 256)] (fun _ => True) (fun _ => False) rfl rfl ?aP (fun _ hk => hk.elim) ?aF ?aO ?aB ?aS ?aL ?_; (case aP => exact rfl); (case aB => exact xbel); (case aF => exact (fun _ _ => trivial)); (case aO => exact (xr fW)); (case aS => exact (below_size xbel)); (case aL => have := LMc8.out; omega); intro tI w9 ho hb hg hat; rw [← iY.out] at ho; replace HB := aM (hb); have iZ := aM (ho); clear fW; clear ho hb hg hat))
      go_roundg k1
      case measure => have := HK1.out; omega
      case rel => exact ⟨(wrap64 (Int.tdiv cT 128)), (iX), u5_0, H', ⟨by have := HK1.out; omega⟩, ⟨by (with_reducible repeat (first | apply Kd.R_alloc | apply Kd.R_drewN | apply Kd.R_drew)); exact iZ.out⟩, ⟨xbel⟩⟩
     ·rw [if_neg c8] at H; exact absurd H (by simp)
    ·rw [if_neg c7] at H; have oK : decide (127 < cT) = false := decide_eq_false c7; clear c7; by_cases c10 : cO.length < 140737488355328
     ·rw [if_pos c10] at H; have LMc10 := aM c10; clear c10; obtain ⟨oL, eK⟩ : ∃ y_ : List Int, y_ = (cO ++ [(cT) % 256]) := ⟨_, rfl⟩; replace H : (some oL) = some r := by first | (rw [eK]; with_reducible exact H) | (have H2_ := oS H; rw [eK]; with_reducible exact H2_) | (have H2_ := oS H; with_reducible exact H2_) | with_reducible exact H | (rw [eK]; exact H) | exact H
      have jA := aM eK; clear eK; obtain rfl := Option.some.inj H; go_wp2_with (first | ((with_reducible refine gate_builtin (b := .append) (xs := #[.tmp 19, .tmp 22]) rfl ?_); at_builtin; refine Kd.R_append (Kd.int .u8) (w0 := w) w.heap.size rfl (.tmp 19) (.tmp 22) 22 5 (.int .u8 0) 1 rfl Try.underlying22 info5 rfl (by decide) (by omega) u3 cO ((cT) % 256) [.int .u8 ((cT) % 256)] (fun _ => True) (fun _ => False) rfl rfl ?aP (fun _ hk => hk.elim) ?aF ?aO ?aB ?aS ?aL ?_; (case aP => exact rfl); (case aB => exact xbel); (case aF => exact (fun _ _ => trivial)); (case aO => exact (xr fW)); (case aS => exact (below_size xbel)); (case aL => have := LMc10.out; omega); intro tJ sY ho hb hg hat; rw [← jA.out] at ho; replace HB := aM (hb); have jB := aM (ho); clear fW; clear ho hb hg hat))
      go_ret
      exact ⟨_, xerr, by (with_reducible repeat (first | apply Kd.R_alloc | apply Kd.R_drewN | apply Kd.R_drew)); exact jB.out, xbel⟩
     ·rw [if_neg c10] at H; exact absurd H (by simp)

end Go.Proofs.Ytoojdlobnbakoaa.QFnExactHardSave
