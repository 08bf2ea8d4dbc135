-- A walk, by a program of this session.
import Derived.Test.YtoojdlobnbakoaaQFnHexx0
import Derived.Test.YtoojdlobnbakoaaQFnHexx1
import Derived.Test.YtoojdlobnbakoaaQFnHexx2
import Derived.Test.YtoojdlobnbakoaaQFnHexx3
import Derived.Test.YtoojdlobnbakoaaQFnHexx4
namespace Go.Proofs.Ytoojdlobnbakoaa.QFnHex
open Go.RowKit Go.Proofs.YtoojdlobnbakoaaW.PrintWords Go.Proofs.YtoojdlobnbakoaaW.PrintLast Go.Proofs.YtoojdlobnbakoaaW.PrintMore
attribute [local go_sem] max2_int min2_int max_two min_two max_three min_three max_four min_four   -- for this text's walks alone
set_option linter.unusedVariables false
set_option linter.unusedSimpArgs false

theorem u5_0 {p : Prop} (h : p := by exact (Kd.R_reads' aG.out).2.1) : p := h
theorem u5_1 {p : Prop} (h : p := by first | rfl | (simp; done) | (simp [*]; done)) : p := h
theorem u5_2 {p : Prop} (h : p := by first | omega | exact Nat.le_refl _) : p := h
theorem u5_3 {p : Prop} (h : p := by (with_reducible repeat (first | apply Kd.R_alloc | apply Kd.R_drewN | apply Kd.R_drew)); exact Kd.R_mono aG.out (fun _ hk => trivial)) : p := h
theorem u5_4 {p : Prop} (h : p := by simp only [putAll, Act.put, List.setIfInBounds_toArray, List.set_cons_zero, List.set_cons_succ]) : p := h
theorem u5_5 {p : Prop} (h : p := by (with_reducible repeat (first | apply Kd.R_alloc | apply Kd.R_drewN | apply Kd.R_drew)); exact Kd.R_mono aA.out (fun _ hk => ⟨hk.1.1.2, ⟨hk.1.2, ⟨hk.2, hk.1.1.1.2⟩⟩⟩)) : p := h
theorem u5_6 {p : Prop} (h : p := by (with_reducible repeat (first | apply Kd.R_alloc | apply Kd.R_drewN | apply Kd.R_drew)); exact Kd.R_mono aC.out (fun _ hk => ⟨hk.1.1.2, ⟨hk.1.2, ⟨hk.2, hk.1.1.1.2⟩⟩⟩)) : p := h
theorem u5_7 {p : Prop} (h : p := by (with_reducible repeat (first | apply Kd.R_alloc | apply Kd.R_drewN | apply Kd.R_drew)); exact Kd.R_mono aE.out (fun _ hk => ⟨hk.1.1.2, ⟨hk.1.2, ⟨hk.2, hk.1.1.1.2⟩⟩⟩)) : p := h
theorem u5_8 {p : Prop} (h : p := by (with_reducible repeat (first | apply Kd.R_alloc | apply Kd.R_drewN | apply Kd.R_drew)); exact Kd.R_mono aU.out (fun _ hk => ⟨hk.1.1.2, ⟨hk.1.2, ⟨hk.2, hk.1.1.1.2⟩⟩⟩)) : p := h
theorem u5_9 {p : Prop} (h : p := by (with_reducible repeat (first | apply Kd.R_alloc | apply Kd.R_drewN | apply Kd.R_drew)); exact Kd.R_mono aB.out (fun _ hk => ⟨hk.1.1.1.2, ⟨hk.1.1.2, ⟨hk.1.2, hk.2⟩⟩⟩)) : p := h
/-! ### laws_FnHex: function 8 -/
def laws_FnHex.j0 : Nat → List Int → List Int → Bool → Option (Bool)
 | 0, _, _, _ => none
 | k + 1, x0, x3, eP => if eP = true then (some false) else ((spec_DrawFromHex.f k x0).bind fun aH => ((impl_FromHex.f k aH).bind fun bK => ((spec_FromHex.f k aH).bind fun cE => ((impl_ShaText.f k (strOfNums x3)).bind fun aK => ((impl_FromHex.f k aK).bind fun bE => (if (bK.2 == cE.2) = true then (if bK.2 = true then ((impl_HexOf.f k bK.1).bind fun bG => (if bG.toList = aH.toList then (if bE.2 = true then ((impl_Sha.f x3).bind fun bB => (some ((strOfNums bE.1).toList == (strOfNums bB).toList))) else (some false)) else (some false))) else (if bE.2 = true then ((impl_Sha.f x3).bind fun bU => (some ((strOfNums bE.1).toList == (strOfNums bU).toList))) else (some false))) else (some false)))))))
def laws_FnHex.f (k : Nat) (l0 : List Int) : Option (Bool) := (laws_big.f l0).bind fun bL => (if bL = true then (some true) else ((spec_DrawHexOf.f k l0).bind fun aD => ((impl_HexOf.f k aD).bind fun aQ => (if (aD.length : Int) > 4000 then (if aQ.toList = ([] : List UInt8) then ((impl_Sha.f aD).bind fun bM => (some ((bM.length : Int) == 0))) else (some false)) else ((impl_FromHex.f k aQ).bind fun aY => (if aY.2 = true then (if (strOfNums aY.1).toList = (strOfNums aD).toList then ((impl_Sha.f aD).bind fun bC => (if (bC.length : Int) = 32 then ((impl_ShaText.f k (strOfNums aD)).bind fun bH => (laws_FnHex.j0 k l0 aD ((bH.size : Int) != 64))) else (laws_FnHex.j0 k l0 aD true))) else (laws_FnHex.j0 k l0 aD true)) else (laws_FnHex.j0 k l0 aD true)))))))
theorem u5_mq0 {p : Prop} (h : p := by repeat' first | (with_reducible first | exact eH _ _ _ | exact impl_FromHex.mono _ _ | exact impl_HexOf.mono _ _ | exact impl_ShaText.mono _ _ | exact spec_DrawFromHex.mono _ _ | exact spec_DrawHexOf.mono _ _ | exact spec_FromHex.mono _ _ | exact LeO.refl _ | exact LeO.none _ | refine LeO.ite ?_ ?_ | refine LeO.bind ?_ (fun _ => ?_)) | exact LeO.none _ | refine LeO.ite ?_ ?_ | refine LeO.bind ?_ (fun _ => ?_)) : p := h
set_option maxRecDepth 100000 in
theorem laws_FnHex.mono_l : ∀ k, (∀ y0 y1 y2, LeO (laws_FnHex.j0 k y0 y1 y2) (laws_FnHex.j0 (k + 1) y0 y1 y2))
 | 0 => fun _ _ _ r h => by simp [laws_FnHex.j0] at h
 | k + 1 => by
  have eH := laws_FnHex.mono_l k
  ·intro y0 y1 y2; unfold laws_FnHex.j0; exact u5_mq0
theorem laws_FnHex.mono : ∀ a0 k, LeO (laws_FnHex.f k a0) (laws_FnHex.f (k + 1) a0) := by
 intro a0 k
 have eH := laws_FnHex.mono_l k
 unfold laws_FnHex.f
 exact u5_mq0
def laws_FnHex.T14 : Bool × List (List Nat × List Nat) := (true, [([], []), ([], []), ([0, 1], [0, 1]), ([2], [2]), ([3], [3]), ([4, 3], [3, 4]), ([5, 3, 3], [3, 5]), ([6], [6]), ([7, 6, 6], [6, 7]), ([6], [6]), ([8, 9, 6], [6, 8, 9]), ([6, 10, 3], [3, 6, 10]), ([3, 11], [3, 11]), ([12, 8], [12]), ([13], [13]), ([13, 14], [13, 14]), ([15, 13], [15]), ([16], [16]), ([17, 16], [16, 17]), ([16], [16]), ([19, 16, 16], [16, 19]), ([20, 16], [16, 20]), ([18, 21, 16], [16, 18, 21]), ([16, 22], [16, 22]), ([23, 20, 0, 1, 2, 3, 4, 5, 6, 7, 8, 9, 10, 11, 12, 13, 14, 15, 16, 17, 18, 19, 20, 21, 22, 23], [23])])
def laws_FnHex.B14 : List Nat := [0, 0, 3, 7, 15, 31, 63, 127, 255, 127, 1023, 2047, 4095, 8191, 16383, 32767, 65535, 131071, 262143, 131071, 655359, 1703935, 4194303, 8388607, 16777215]
set_option maxHeartbeats 8000000 in
set_option maxRecDepth 100000 in
theorem laws_FnHex.calls (k : Nat) (A0 : Option Addr) (c0 : Nat) (l0 : List Int) (r : Bool) (w : World) (dI : Kd.C (Kd.int .u8) w A0 l0.length l0) (dJ : l0.length ≤ c0) (h : laws_FnHex.f k l0 = some r) :
 Calls Try.prog 8 #[.slice A0 l0.length c0] w fun e w' => e = .returned (.bool r) ∧ Below w.heap.size w w' := by
 have bI := aM dI
 have bJ := aM dJ
 clear dI dJ
 have HB := aM (Below.refl w.heap.size w)
 have H : ((laws_big.f l0).bind fun bL => (if bL = true then (some true) else ((spec_DrawHexOf.f k l0).bind fun aD => ((impl_HexOf.f k aD).bind fun aQ => (if (aD.length : Int) > 4000 then (if aQ.toList = ([] : List UInt8) then ((impl_Sha.f aD).bind fun bM => (some ((bM.length : Int) == 0))) else (some false)) else ((impl_FromHex.f k aQ).bind fun aY => (if aY.2 = true then (if (strOfNums aY.1).toList = (strOfNums aD).toList then ((impl_Sha.f aD).bind fun bC => (if (bC.length : Int) = 32 then ((impl_ShaText.f k (strOfNums aD)).bind fun bH => (laws_FnHex.j0 k l0 aD ((bH.size : Int) != 64))) else (laws_FnHex.j0 k l0 aD true))) else (laws_FnHex.j0 k l0 aD true)) else (laws_FnHex.j0 k l0 aD true)))))))) = some r := h
 clear h
 replace H := oB H
 obtain ⟨bL, eI, H⟩ := H
 (try dsimp only at H)
 have A2 := aM eI
 clear eI
 by_cases c3 : bL = true
 ·subst c3; replace H := iT H; obtain rfl := Option.some.inj H; go_enter Try.func8, Try.ntmps8
  go_wp2_with (first | ((with_reducible refine gC 12 rfl ?_); refine goesLY (some 15) rfl Try.func12 #[.slice A0 l0.length c0] ?_; (with_reducible refine (laws_big.calls _ _ l0 true _ ?side1 ?side2 A2.out).mono ?_); (case side1 => repeat (first | exact bI.out | (with_reducible refine Kd.C_alloc ?_ _) | (with_reducible refine Kd.C_drewN ?_ _) | (with_reducible refine Kd.C_drew ?_))); (case side2 => exact bJ.out); rintro e w' ⟨rfl, ⟨nd, rfl⟩⟩; refine ⟨_, rfl, ?_⟩))
  go_ret
  exact ⟨xerr, xbel⟩
 ·replace c3 := Bool.eq_false_iff.mpr c3; subst c3; replace H := iN H; replace H := oB H; obtain ⟨aD, eJ, H⟩ := H; (try dsimp only at H); have A4 := aM eJ; clear eJ; replace H := oB H
  obtain ⟨aQ, eK, H⟩ := H; (try dsimp only at H); have A5 := aM eK; clear eK
  by_cases c6 : (aD.length : Int) > 4000
  ·rw [if_pos c6] at H; have cF : decide (4000 < (aD.length : Int)) = true := decide_eq_true c6; have cG : decide (4000 < aD.length) = true := decide_eq_true (by omega); clear c6; by_cases c7 : aQ.toList = ([] : List UInt8)
   ·rw [if_pos c7] at H; obtain ⟨cH, cI⟩ := bT c7; clear c7; replace H := oB H; obtain ⟨bM, eL, H⟩ := H; (try dsimp only at H); have A8 := aM eL; clear eL
    obtain rfl := Option.some.inj H; go_enter Try.func8, Try.ntmps8
    go_wp2_with (first | ((with_reducible refine gC 12 rfl ?_); refine goesLY (some 15) rfl Try.func12 #[.slice A0 l0.length c0] ?_; (with_reducible refine (laws_big.calls _ _ l0 false _ ?side1 ?side2 A2.out).mono ?_); (case side1 => repeat (first | exact bI.out | (with_reducible refine Kd.C_alloc ?_ _) | (with_reducible refine Kd.C_drewN ?_ _) | (with_reducible refine Kd.C_drew ?_))); (case side2 => exact bJ.out); rintro e w' ⟨rfl, ⟨nd, rfl⟩⟩; refine ⟨_, rfl, ?_⟩) | ((with_reducible refine gC 40 rfl ?_); refine goesLY (some 17) rfl Try.func40 #[.slice A0 l0.length c0] ?_; (with_reducible refine (spec_DrawHexOf.calls k _ _ l0 aD _ ?side1 ?side2 A4.out).mono ?_); (case side1 => repeat (first | exact bI.out | (with_reducible refine Kd.C_alloc ?_ _) | (with_reducible refine Kd.C_drewN ?_ _) | (with_reducible refine Kd.C_drew ?_))); (case side2 => exact bJ.out); rintro e w9 ⟨v258, rfl, aF, hb⟩; refine ⟨_, rfl, ?_⟩; have aG := aM (Kd.R_lower aF (below_size xbel)); replace HB := xbs hb; (try clear hb aF); obtain ⟨dO, dP, dQ⟩ := Kd.R_slice aG.out; subst dQ) | ((with_reducible refine gC 41 rfl ?_); refine goesLY (some 19) rfl Try.func41 #[.slice dO aD.length dP] ?_; (with_reducible refine (impl_HexOf.calls k _ _ aD aQ _ ?side1 ?side2 A5.out).mono ?_); (case side1 => exact xC aG); (case side2 => exact u5_0); rintro e fL ⟨rfl, hb⟩; refine ⟨_, rfl, ?_⟩; replace aG := xrb aG hb; replace HB := xbs hb; (try clear hb)) | (go_at_call 32; (with_reducible refine (impl_Sha.calls _ _ aD bM _ ?side1 ?side2 A8.out).mono ?_); (case side1 => exact xC aG); (case side2 => exact u5_0); rintro e fM ⟨v262, rfl, aF, hb⟩; have cJ := aM (Kd.R_lower (Kd.R_new' aF (Kd.R_lt (xr aG))) (below_size xbel)); replace aG := aM (Kd.R_elder' (xr aG) (Kd.R_base aF) hb); replace HB := xbs hb; (try clear hb aF); obtain ⟨eQ, eR, dR⟩ := Kd.R_slice cJ.out; subst dR))
    go_ret
    exact ⟨xerr, xbel⟩
   ·rw [if_neg c7] at H; obtain ⟨cH, cI⟩ := bF c7; obtain rfl := Option.some.inj H; go_enter Try.func8, Try.ntmps8
    go_wp2_with (first | ((with_reducible refine gC 12 rfl ?_); refine goesLY (some 15) rfl Try.func12 #[.slice A0 l0.length c0] ?_; (with_reducible refine (laws_big.calls _ _ l0 false _ ?side1 ?side2 A2.out).mono ?_); (case side1 => repeat (first | exact bI.out | (with_reducible refine Kd.C_alloc ?_ _) | (with_reducible refine Kd.C_drewN ?_ _) | (with_reducible refine Kd.C_drew ?_))); (case side2 => exact bJ.out); rintro e w' ⟨rfl, ⟨nd, rfl⟩⟩; refine ⟨_, rfl, ?_⟩) | ((with_reducible refine gC 40 rfl ?_); refine goesLY (some 17) rfl Try.func40 #[.slice A0 l0.length c0] ?_; (with_reducible refine (spec_DrawHexOf.calls k _ _ l0 aD _ ?side1 ?side2 A4.out).mono ?_); (case side1 => repeat (first | exact bI.out | (with_reducible refine Kd.C_alloc ?_ _) | (with_reducible refine Kd.C_drewN ?_ _) | (with_reducible refine Kd.C_drew ?_))); (case side2 => exact bJ.out); rintro e fN ⟨v258, rfl, aF, hb⟩; refine ⟨_, rfl, ?_⟩; have aG := aM (Kd.R_lower aF (below_size xbel)); replace HB := xbs hb; (try clear hb aF); obtain ⟨dS, dU, dV⟩ := Kd.R_slice aG.out; subst dV) | ((with_reducible refine gC 41 rfl ?_); refine goesLY (some 19) rfl Try.func41 #[.slice dS aD.length dU] ?_; (with_reducible refine (impl_HexOf.calls k _ _ aD aQ _ ?side1 ?side2 A5.out).mono ?_); (case side1 => exact xC aG); (case side2 => exact u5_0); rintro e fO ⟨rfl, hb⟩; refine ⟨_, rfl, ?_⟩; replace aG := xrb aG hb; replace HB := xbs hb; (try clear hb)))
    go_ret
    exact ⟨xerr, xbel⟩
  ·rw [if_neg c6] at H; have cF : decide (4000 < (aD.length : Int)) = false := decide_eq_false c6; have cG : decide (4000 < aD.length) = false := decide_eq_false (by omega); clear c6; replace H := oB H; obtain ⟨⟨cK, cL⟩, cM, H⟩ := H; (try dsimp only at H); have eS := aM cM; clear cM; have bV := aM H; clear H
   go_enter Try.func8, Try.ntmps8
   go_upto_region 8 with (first | ((with_reducible refine gC 12 rfl ?_); refine goesLY (some 15) rfl Try.func12 #[.slice A0 l0.length c0] ?_; (with_reducible refine (laws_big.calls _ _ l0 false _ ?side1 ?side2 A2.out).mono ?_); (case side1 => repeat (first | exact bI.out | (with_reducible refine Kd.C_alloc ?_ _) | (with_reducible refine Kd.C_drewN ?_ _) | (with_reducible refine Kd.C_drew ?_))); (case side2 => exact bJ.out); rintro e w' ⟨rfl, ⟨nd, rfl⟩⟩; refine ⟨_, rfl, ?_⟩) | ((with_reducible refine gC 40 rfl ?_); refine goesLY (some 17) rfl Try.func40 #[.slice A0 l0.length c0] ?_; (with_reducible refine (spec_DrawHexOf.calls k _ _ l0 aD _ ?side1 ?side2 A4.out).mono ?_); (case side1 => repeat (first | exact bI.out | (with_reducible refine Kd.C_alloc ?_ _) | (with_reducible refine Kd.C_drewN ?_ _) | (with_reducible refine Kd.C_drew ?_))); (case side2 => exact bJ.out); rintro e fP ⟨v258, rfl, aF, hb⟩; refine ⟨_, rfl, ?_⟩; have aG := aM (Kd.R_lower aF (below_size xbel)); replace HB := xbs hb; (try clear hb aF); obtain ⟨aN, aO, dW⟩ := Kd.R_slice aG.out; subst dW) | ((with_reducible refine gC 41 rfl ?_); refine goesLY (some 19) rfl Try.func41 #[.slice aN aD.length aO] ?_; (with_reducible refine (impl_HexOf.calls k _ _ aD aQ _ ?side1 ?side2 A5.out).mono ?_); (case side1 => exact xC aG); (case side2 => exact u5_0); rintro e fQ ⟨rfl, hb⟩; refine ⟨_, rfl, ?_⟩; replace aG := xrb aG hb; replace HB := xbs hb; (try clear hb)) | ((with_reducible refine gC 42 rfl ?_); refine goesLY (some 33) rfl Try.func42 #[.string aQ] ?_; (with_reducible refine (impl_FromHex.calls k aQ cK cL _ eS.out).mono ?_); rintro e fR ⟨v266, rfl, aF, hb⟩; refine ⟨_, rfl, ?_⟩; have aL := aM (Kd.R_lower (Kd.R_new' aF (Kd.R_lt (xr aG))) (below_size xbel)); replace aG := aM (Kd.R_elder' (xr aG) (Kd.R_base aF) hb); replace HB := xbs hb; (try clear hb aF)))
   (try simp only [Act.put, List.setIfInBounds_toArray, List.set_cons_zero, List.set_cons_succ]); go_cut [57] (fun v57 wc => ∃ (kq : Nat) (aW : Bool), v57 = .bool aW ∧ Aside0 (laws_FnHex.j0 kq l0 aD aW = some r) ∧ Aside0 (kq ≤ k) ∧ Aside0 (Kd.R (Kd.int .u8) 5 wc w.heap.size (fun _ => True) (.slice aN aD.length aO) aD) ∧ Aside0 (Below w.heap.size w wc))
   case first =>
    have H := bV.out; clear bV; by_cases cN : cL = true
    ·subst cN; replace H := iT H; by_cases bW : (strOfNums cK).toList = (strOfNums aD).toList
     ·rw [if_pos bW] at H; obtain ⟨aV, bP⟩ := bT bW; clear bW; (first | rw [aV] | (simp only [i64_w, i32_w]; rw [aV]) | skip); replace H := oB H; obtain ⟨bC, cO, H⟩ := H; (try dsimp only at H); have eM := aM cO; clear cO
      by_cases bX : (bC.length : Int) = 32
      ·rw [if_pos bX] at H; obtain ⟨bQ, bR⟩ := bT bX; clear bX; replace H := oB H; obtain ⟨bH, cP, H⟩ := H; (try dsimp only at H); have eT := aM cP; clear cP
       have H' := aM H; clear H; have hcv28 := own_string (P := Try.prog) Try.underlying22 Try.underlying5 Try.underlying9 (Kd.own_of_R aL.out); have hcv29 := own_string (P := Try.prog) Try.underlying22 Try.underlying5 Try.underlying9 (Kd.own_of_R aG.out); go_wp2_with (first | (go_at_call 32; (with_reducible refine (impl_Sha.calls _ _ aD bC _ ?side1 ?side2 eM.out).mono ?_); (case side1 => exact xC aG); (case side2 => exact u5_0); rintro e fS ⟨v269, rfl, aF, hb⟩; have aZ := aM (Kd.R_lower (Kd.R_new' (Kd.R_new' aF (Kd.R_lt (xr aG))) (Kd.R_lt (xr aL))) (below_size xbel)); replace aG := aM (Kd.R_elder' (xr aG) (Kd.R_base aF) hb); replace aL := aM (Kd.R_elder' (xr aL) (Kd.R_base aF) hb); replace HB := xbs hb; (try clear hb aF); obtain ⟨eU, eV, dX⟩ := Kd.R_slice aZ.out; subst dX; have hcv32 := own_string (P := Try.prog) Try.underlying22 Try.underlying5 Try.underlying9 (Kd.own_of_R aG.out)) | (go_at_call 24; (with_reducible refine (impl_ShaText.calls k (strOfNums aD) bH _ eT.out).mono ?_); rintro e fT ⟨rfl, hb⟩; replace aG := xrb aG hb; replace aL := xrb aL hb; replace aZ := xrb aZ hb; replace HB := xbs hb; (try clear hb)))
       go_meet
       case rel => exact ⟨_, (((bH.size : Int) != 64)), u5_1, H', ⟨u5_2⟩, ⟨u5_3⟩, ⟨xbel⟩⟩
      ·rw [if_neg bX] at H; obtain ⟨bQ, bR⟩ := bF bX; have H' := aM H; clear H; have hcv34 := own_string (P := Try.prog) Try.underlying22 Try.underlying5 Try.underlying9 (Kd.own_of_R aL.out); have hcv35 := own_string (P := Try.prog) Try.underlying22 Try.underlying5 Try.underlying9 (Kd.own_of_R aG.out); go_wp2_with (first | (go_at_call 32; (with_reducible refine (impl_Sha.calls _ _ aD bC _ ?side1 ?side2 eM.out).mono ?_); (case side1 => exact xC aG); (case side2 => exact u5_0); rintro e fU ⟨v269, rfl, aF, hb⟩; have aZ := aM (Kd.R_lower (Kd.R_new' (Kd.R_new' aF (Kd.R_lt (xr aG))) (Kd.R_lt (xr aL))) (below_size xbel)); replace aG := aM (Kd.R_elder' (xr aG) (Kd.R_base aF) hb); replace aL := aM (Kd.R_elder' (xr aL) (Kd.R_base aF) hb); replace HB := xbs hb; (try clear hb aF); obtain ⟨eW, eX, dY⟩ := Kd.R_slice aZ.out; subst dY))
       go_meet
       case rel => exact ⟨_, (true), u5_1, H', ⟨u5_2⟩, ⟨u5_3⟩, ⟨xbel⟩⟩
     ·rw [if_neg bW] at H; obtain ⟨aV, bP⟩ := bF bW; (first | rw [aV] | (simp only [i64_w, i32_w]; rw [aV]) | skip); have H' := aM H; clear H; have hcv38 := own_string (P := Try.prog) Try.underlying22 Try.underlying5 Try.underlying9 (Kd.own_of_R aL.out); have hcv39 := own_string (P := Try.prog) Try.underlying22 Try.underlying5 Try.underlying9 (Kd.own_of_R aG.out); go_wp2; go_meet
      case rel => exact ⟨_, (true), u5_1, H', ⟨u5_2⟩, ⟨u5_3⟩, ⟨xbel⟩⟩
    ·replace cN := Bool.eq_false_iff.mpr cN; subst cN; replace H := iN H; have H' := aM H; clear H; go_wp2; go_meet
     case rel => exact ⟨_, (true), u5_1, H', ⟨u5_2⟩, ⟨u5_3⟩, ⟨xbel⟩⟩
   case rest =>
    clear bV; try clear c1
    try clear c2
    try clear p2
    try clear hcv2
    try clear c3
    try clear hcv3
    try clear c4
    try clear c6
    try clear cF
    try clear cG
    try clear c7
    try clear cH
    try clear cI
    try clear c8
    try clear fV
    try clear cN
    try clear bW
    try clear aV
    try clear bP
    try clear bX
    try clear bQ
    try clear bR
    try clear hcv28
    try clear hcv29
    try clear hcv32
    try clear hcv34
    try clear hcv35
    try clear hcv38
    try clear hcv39
    obtain ⟨kq, aW, rfl, HA, HJ17, aB, HB⟩ := hcut; cases kq with
    | zero => exact absurd HA.out (by simp [laws_FnHex.j0])
    | succ aI =>
     have H := HA.out; clear HA; simp only [laws_FnHex.j0] at H; by_cases dK : aW = true
     ·subst dK; replace H := iT H; obtain rfl := Option.some.inj H; go_wp2; go_ret
      exact ⟨xerr, xbel⟩
     ·replace dK := Bool.eq_false_iff.mpr dK; subst dK; replace H := iN H; replace H := oB H; obtain ⟨aH, cQ, H⟩ := H; (try dsimp only at H); have bY := aM cQ; clear cQ; replace H := oB H
      obtain ⟨⟨aJ, aT⟩, cS, H⟩ := H; (try dsimp only at H); have bZ := aM cS; clear cS; replace H := oB H
      obtain ⟨⟨bA, aP⟩, cT, H⟩ := H; (try dsimp only at H); have cA := aM cT; clear cT; replace H := oB H
      obtain ⟨aK, cU, H⟩ := H; (try dsimp only at H); have cB := aM cU; clear cU; replace H := oB H
      obtain ⟨⟨aX, bO⟩, cV, H⟩ := H; (try dsimp only at H); have cC := aM cV; clear cV
      by_cases bN : (aT == aP) = true
      ·rw [if_pos bN] at H; have cW : (aT == aP) = true := bN; (try (have cX : decide (aT = aP) = true := by simpa using bN)); (try (have cY : (aT == aP) = true := by simpa using bN)); clear bN; by_cases dL : aT = true
       ·subst dL; replace H := iT H; replace H := oB H; obtain ⟨bG, cZ, H⟩ := H; (try dsimp only at H); have dZ := aM cZ; clear cZ
        by_cases dA : bG.toList = aH.toList
        ·rw [if_pos dA] at H; obtain ⟨dB, dC⟩ := bT dA; clear dA; by_cases dM : bO = true
         ·subst dM; replace H := iT H; replace H := oB H; obtain ⟨bB, dD, H⟩ := H; (try dsimp only at H); have eN := aM dD; clear dD
          obtain rfl := Option.some.inj H; try go_wp2_with (first | ((with_reducible refine gC 43 rfl ?_); refine goesLY (some 59) rfl Try.func43 #[.slice A0 l0.length c0] ?_; (with_reducible refine (spec_DrawFromHex.calls aI _ _ l0 aH _ ?side1 ?side2 bY.out).mono ?_); (case side1 => exact xcb bI); (case side2 => exact bJ.out); rintro e fW ⟨rfl, hb⟩; refine ⟨_, rfl, ?_⟩; replace aB := xrb aB hb; replace HB := xbs hb; (try clear hb)) | ((with_reducible refine gC 42 rfl ?_); refine goesLY (some 62) rfl Try.func42 #[.string aH] ?_; (with_reducible refine (impl_FromHex.calls aI aH aJ true _ bZ.out).mono ?_); rintro e fX ⟨v275, rfl, aF, hb⟩; refine ⟨_, rfl, ?_⟩; have aA := aM (Kd.R_lower (Kd.R_new' aF (Kd.R_lt (xr aB))) (below_size xbel)); replace aB := aM (Kd.R_elder' (xr aB) (Kd.R_base aF) hb); replace HB := xbs hb; (try clear hb aF)) | ((with_reducible refine gC 44 rfl ?_); refine goesLY (some 67) rfl Try.func44 #[.string aH] ?_; (with_reducible refine (spec_FromHex.calls aI aH bA aP _ cA.out).mono ?_); rintro e fY ⟨v279, rfl, aF, hb⟩; refine ⟨_, rfl, ?_⟩; have aC := aM (Kd.R_lower (Kd.R_new' (Kd.R_new' aF (Kd.R_lt (xr aB))) (Kd.R_lt (xr aA))) (below_size xbel)); replace aB := aM (Kd.R_elder' (xr aB) (Kd.R_base aF) hb); replace aA := aM (Kd.R_elder' (xr aA) (Kd.R_base aF) hb); replace HB := xbs hb; (try clear hb aF); have hcv55 := own_string (P := Try.prog) Try.underlying22 Try.underlying5 Try.underlying9 (Kd.own_of_R aB.out)) | ((with_reducible refine gC 24 rfl ?_); refine goesLY (some 73) rfl Try.func24 #[.string (strOfNums aD)] ?_; (with_reducible refine (impl_ShaText.calls aI (strOfNums aD) aK _ cB.out).mono ?_); rintro e fZ ⟨rfl, hb⟩; refine ⟨_, rfl, ?_⟩; replace aB := xrb aB hb; replace aA := xrb aA hb; replace aC := xrb aC hb; replace HB := xbs hb; (try clear hb)) | ((with_reducible refine gC 42 rfl ?_); refine goesLY (some 74) rfl Try.func42 #[.string aK] ?_; (with_reducible refine (impl_FromHex.calls aI aK aX true _ cC.out).mono ?_); rintro e eY ⟨v284, rfl, aF, hb⟩; refine ⟨_, rfl, ?_⟩; have aE := aM (Kd.R_lower (Kd.R_new' (Kd.R_new' (Kd.R_new' aF (Kd.R_lt (xr aB))) (Kd.R_lt (xr aA))) (Kd.R_lt (xr aC))) (below_size xbel)); replace aB := aM (Kd.R_elder' (xr aB) (Kd.R_base aF) hb); replace aA := aM (Kd.R_elder' (xr aA) (Kd.R_base aF) hb); replace aC := aM (Kd.R_elder' (xr aC) (Kd.R_base aF) hb); replace HB := xbs hb; (try clear hb aF); obtain ⟨aR, aS, eA⟩ := Kd.R_slice aA.out; subst eA))
          replace aB := rD aB; replace aA := rD aA; replace aC := rD aC; replace aE := rD aE; replace HB := lD HB; refine st_ 25 (fun w' => True) laws_FnHex.T14 laws_FnHex.B14 trivial (fun hHeld HT_ HW_ => ?_); generalize eY.drew = gA at aB aA aC aE HB hHeld ⊢; refine pV 0 77 ?_; refine pV 1 78 ?_; refine pV 2 79 ?_; refine pV 3 80 ?_; refine pV 4 81 ?_; refine pV 5 82 ?_; refine pV 6 83 ?_; refine pV 7 84 ?_; refine pV 9 86 ?_; refine oN 8 85 fun K hK => ?_
          refine goesY Try.func41 #[.slice aR aJ.length aS] ?_; with_reducible refine (impl_HexOf.calls aI _ _ aJ bG _ ?side1 ?side2 dZ.out).mono ?_
          (case side1 => exact xC aA); (case side2 => exact (Kd.R_reads' aA.out).2.1); rintro e gB ⟨rfl, hb⟩; refine ⟨_, rfl, ?_⟩; replace aB := xrb aB hb; replace aA := xrb aA hb; replace aC := xrb aC hb; replace aE := xrb aE hb; replace HB := xbs hb; (try clear hb); refine hK.out _ _ trivial (fun hHeld => ?_); clear hK K; refine nm_ (N := 85) ?_; refine pV 10 87 ?_; refine pV 11 88 ?_; refine pV 12 89 ?_; refine pV 13 90 ?_; refine pV 14 91 ?_; refine pV 15 92 ?_; refine pV 16 93 ?_; refine pV 17 94 ?_; refine pV 19 96 ?_; refine join_ (σ := Value) 3 #[true, true, true, true, true, true, true, true, true, true, true, true, true, true, true, true, true, true, true, true, true, true, false, false, false] (fun s_ => [(95, .string (strOfNums aX)), (97, s_), (98, .string (strOfNums bB))]) (fun s_ w' => (Kd.R (Kd.int .u8) 5 w' w.heap.size (fun k_ => some k_ ≠ (v279 : Value).ownBlock ∧ some k_ ≠ (v284 : Value).ownBlock ∧ some k_ ≠ (s_ : Value).ownBlock ∧ some k_ ≠ (.slice aN aD.length aO : Value).ownBlock) (.slice aR aJ.length aS) aJ) ∧ (Kd.R (Kd.int .u8) 5 w' w.heap.size (fun k_ => some k_ ≠ (.slice aR aJ.length aS : Value).ownBlock ∧ some k_ ≠ (v284 : Value).ownBlock ∧ some k_ ≠ (s_ : Value).ownBlock ∧ some k_ ≠ (.slice aN aD.length aO : Value).ownBlock) v279 bA) ∧ (Kd.R (Kd.int .u8) 5 w' w.heap.size (fun k_ => some k_ ≠ (.slice aR aJ.length aS : Value).ownBlock ∧ some k_ ≠ (v279 : Value).ownBlock ∧ some k_ ≠ (s_ : Value).ownBlock ∧ some k_ ≠ (.slice aN aD.length aO : Value).ownBlock) v284 aX) ∧ (Kd.R (Kd.int .u8) 5 w' w.heap.size (fun k_ => some k_ ≠ (.slice aR aJ.length aS : Value).ownBlock ∧ some k_ ≠ (v279 : Value).ownBlock ∧ some k_ ≠ (v284 : Value).ownBlock ∧ some k_ ≠ (.slice aN aD.length aO : Value).ownBlock) s_ bB) ∧ (Kd.R (Kd.int .u8) 5 w' w.heap.size (fun k_ => some k_ ≠ (.slice aR aJ.length aS : Value).ownBlock ∧ some k_ ≠ (v279 : Value).ownBlock ∧ some k_ ≠ (v284 : Value).ownBlock ∧ some k_ ≠ (s_ : Value).ownBlock) (.slice aN aD.length aO) aD) ∧ (Below w.heap.size w w')) ?_ ?_; rotate_left
          ·intro hCont; refine two_ (i := 18) (j := 20) (Ni := some 95) (Nj := some 97) #[true, true, true, true, true, true, true, true, true, true, true, true, true, true, true, true, true, true, true, true, false, false, false, false, false] #[true, true, true, true, true, true, true, true, true, true, true, true, true, true, true, true, true, true, false, true, true, false, false, false, false] rfl rfl rfl rfl (two_of HT_.out (by kernel_rfl)) (by decide) (by decide) (fun K hK => ?_) (fun K hK => ?_)
           ·skip
            have hcv61 := own_string (P := Try.prog) Try.underlying22 Try.underlying5 Try.underlying9 (Kd.own_of_R aE.out); refine value_ (w1 := ?_) (v := ?_) (by rfl) rfl ?_ ?_; rotate_left 2
            ·go_simp
             constructor
             ·rfl
             ·rfl
            clear hcv61; refine hK.out _ _ trivial (fun hHeld => ?_); clear hK K; refine nm_ (N := 95) ?_; refine oN 20 97 fun K hK => ?_
            refine goesY Try.func32 #[.slice aN aD.length aO] ?_; with_reducible refine (impl_Sha.calls _ _ aD bB _ ?side1 ?side2 eN.out).mono ?_
            (case side1 => exact xC aB); (case side2 => exact (Kd.R_reads' aB.out).2.1); rintro e gE ⟨v288, rfl, aF, hb⟩; refine ⟨_, rfl, ?_⟩; have aU := aM (Kd.R_lower (Kd.R_new' (Kd.R_new' (Kd.R_new' (Kd.R_new' aF (Kd.R_lt (xr aB))) (Kd.R_lt (xr aA))) (Kd.R_lt (xr aC))) (Kd.R_lt (xr aE))) (below_size xbel)); replace aB := aM (Kd.R_elder' (xr aB) (Kd.R_base aF) hb); replace aA := aM (Kd.R_elder' (xr aA) (Kd.R_base aF) hb); replace aC := aM (Kd.R_elder' (xr aC) (Kd.R_base aF) hb); replace aE := aM (Kd.R_elder' (xr aE) (Kd.R_base aF) hb); replace HB := xbs hb; (try clear hb aF); refine hK.out _ _ trivial (fun hHeld => ?_); clear hK K; refine nm_ (N := 97) ?_; refine oN 21 98 fun K hK => ?_
            have hcv63 := own_string (P := Try.prog) Try.underlying22 Try.underlying5 Try.underlying9 (Kd.own_of_R aU.out); refine value_ (w1 := ?_) (v := ?_) (by rfl) rfl ?_ ?_; rotate_left 2
            ·go_simp
             constructor
             ·rfl
             ·rfl
            clear hcv63; refine hK.out _ _ trivial (fun hHeld => ?_); clear hK K; refine nm_ (N := 98) ?_; exact norm_ u5_4 (hCont (v288) _ ⟨u5_5, u5_6, u5_7, u5_8, u5_9, xbel⟩)
           ·skip
            refine goesY Try.func32 #[.slice aN aD.length aO] ?_; with_reducible refine (impl_Sha.calls _ _ aD bB _ ?side1 ?side2 eN.out).mono ?_
            (case side1 => exact xC aB); (case side2 => exact (Kd.R_reads' aB.out).2.1); rintro e gF ⟨v288, rfl, aF, hb⟩; refine ⟨_, rfl, ?_⟩; have aU := aM (Kd.R_lower (Kd.R_new' (Kd.R_new' (Kd.R_new' (Kd.R_new' aF (Kd.R_lt (xr aB))) (Kd.R_lt (xr aA))) (Kd.R_lt (xr aC))) (Kd.R_lt (xr aE))) (below_size xbel)); replace aB := aM (Kd.R_elder' (xr aB) (Kd.R_base aF) hb); replace aA := aM (Kd.R_elder' (xr aA) (Kd.R_base aF) hb); replace aC := aM (Kd.R_elder' (xr aC) (Kd.R_base aF) hb); replace aE := aM (Kd.R_elder' (xr aE) (Kd.R_base aF) hb); replace HB := xbs hb; (try clear hb aF); refine hK.out _ _ trivial (fun hHeld => ?_); clear hK K; refine nm_ (N := 97) ?_; refine two_ (i := 18) (j := 21) (Ni := some 95) (Nj := some 98) #[true, true, true, true, true, true, true, true, true, true, true, true, true, true, true, true, true, true, true, true, true, false, false, false, false] #[true, true, true, true, true, true, true, true, true, true, true, true, true, true, true, true, true, true, false, true, true, true, false, false, false] rfl rfl rfl rfl (two_of HT_.out (by kernel_rfl)) (by decide) (by decide) (fun K hK => ?_) (fun K hK => ?_)
            ·skip
             have hcv62 := own_string (P := Try.prog) Try.underlying22 Try.underlying5 Try.underlying9 (Kd.own_of_R aE.out); refine value_ (w1 := ?_) (v := ?_) (by rfl) rfl ?_ ?_; rotate_left 2
             ·go_simp
              constructor
              ·rfl
              ·rfl
             clear hcv62; refine hK.out _ _ trivial (fun hHeld => ?_); clear hK K; refine nm_ (N := 95) ?_; refine oN 21 98 fun K hK => ?_
             have hcv63 := own_string (P := Try.prog) Try.underlying22 Try.underlying5 Try.underlying9 (Kd.own_of_R aU.out); refine value_ (w1 := ?_) (v := ?_) (by rfl) rfl ?_ ?_; rotate_left 2
             ·go_simp
              constructor
              ·rfl
              ·rfl
             clear hcv63; refine hK.out _ _ trivial (fun hHeld => ?_); clear hK K; refine nm_ (N := 98) ?_; exact norm_ u5_4 (hCont (v288) _ ⟨u5_5, u5_6, u5_7, u5_8, u5_9, xbel⟩)
            ·skip
             have hcv62 := own_string (P := Try.prog) Try.underlying22 Try.underlying5 Try.underlying9 (Kd.own_of_R aU.out); refine value_ (w1 := ?_) (v := ?_) (by rfl) rfl ?_ ?_; rotate_left 2
             ·go_simp
              constructor
              ·rfl
              ·rfl
             clear hcv62; refine hK.out _ _ trivial (fun hHeld => ?_); clear hK K; refine nm_ (N := 98) ?_; refine oN 18 95 fun K hK => ?_
             have hcv63 := own_string (P := Try.prog) Try.underlying22 Try.underlying5 Try.underlying9 (Kd.own_of_R aE.out); refine value_ (w1 := ?_) (v := ?_) (by rfl) rfl ?_ ?_; rotate_left 2
             ·go_simp
              constructor
              ·rfl
              ·rfl
             clear hcv63; refine hK.out _ _ trivial (fun hHeld => ?_); clear hK K; refine nm_ (N := 95) ?_; exact norm_ u5_4 (hCont (v288) _ ⟨u5_5, u5_6, u5_7, u5_8, u5_9, xbel⟩)
          rintro v288 cD ⟨h0_, h1_, h2_, h3_, h4_, h5_⟩; have n0_ : Aside0 (Kd.R (Kd.int .u8) 5 cD w.heap.size (fun k_ => some k_ ≠ (v279 : Value).ownBlock ∧ some k_ ≠ (v284 : Value).ownBlock ∧ some k_ ≠ (v288 : Value).ownBlock ∧ some k_ ≠ (.slice aN aD.length aO : Value).ownBlock) (.slice aR aJ.length aS) aJ) := ⟨h0_⟩; have n1_ : Aside0 (Kd.R (Kd.int .u8) 5 cD w.heap.size (fun k_ => some k_ ≠ (.slice aR aJ.length aS : Value).ownBlock ∧ some k_ ≠ (v284 : Value).ownBlock ∧ some k_ ≠ (v288 : Value).ownBlock ∧ some k_ ≠ (.slice aN aD.length aO : Value).ownBlock) v279 bA) := ⟨h1_⟩; have n2_ : Aside0 (Kd.R (Kd.int .u8) 5 cD w.heap.size (fun k_ => some k_ ≠ (.slice aR aJ.length aS : Value).ownBlock ∧ some k_ ≠ (v279 : Value).ownBlock ∧ some k_ ≠ (v288 : Value).ownBlock ∧ some k_ ≠ (.slice aN aD.length aO : Value).ownBlock) v284 aX) := ⟨h2_⟩; have n3_ : Aside0 (Kd.R (Kd.int .u8) 5 cD w.heap.size (fun k_ => some k_ ≠ (.slice aR aJ.length aS : Value).ownBlock ∧ some k_ ≠ (v279 : Value).ownBlock ∧ some k_ ≠ (v284 : Value).ownBlock ∧ some k_ ≠ (.slice aN aD.length aO : Value).ownBlock) v288 bB) := ⟨h3_⟩; have n4_ : Aside0 (Kd.R (Kd.int .u8) 5 cD w.heap.size (fun k_ => some k_ ≠ (.slice aR aJ.length aS : Value).ownBlock ∧ some k_ ≠ (v279 : Value).ownBlock ∧ some k_ ≠ (v284 : Value).ownBlock ∧ some k_ ≠ (v288 : Value).ownBlock) (.slice aN aD.length aO) aD) := ⟨h4_⟩; have n5_ : Aside0 (Below w.heap.size w cD) := ⟨h5_⟩; clear aB aA aC aE HB h0_ h1_ h2_ h3_ h4_ h5_; have aA := n0_; have aC := n1_; have aE := n2_; have aU := n3_; have aB := n4_; have HB := n5_; clear n0_ n1_ n2_ n3_ n4_ n5_; have hHeld := trivial; refine norm_ (a' := ?_) ?_ ?_; rotate_left
          ·simp only [putAll, Act.put, List.setIfInBounds_toArray, List.set_cons_zero, List.set_cons_succ]; rfl
          refine pV 22 99 ?_; refine pV 23 100 ?_; refine pV 24 2 ?_; refine dn_ ?_; try go_wp2
          go_ret
          exact ⟨xerr, xbel⟩
         ·replace dM := Bool.eq_false_iff.mpr dM; subst dM; replace H := iN H; obtain rfl := Option.some.inj H; try go_wp2_with (first | ((with_reducible refine gC 43 rfl ?_); refine goesLY (some 59) rfl Try.func43 #[.slice A0 l0.length c0] ?_; (with_reducible refine (spec_DrawFromHex.calls aI _ _ l0 aH _ ?side1 ?side2 bY.out).mono ?_); (case side1 => exact xcb bI); (case side2 => exact bJ.out); rintro e gG ⟨rfl, hb⟩; refine ⟨_, rfl, ?_⟩; replace aB := xrb aB hb; replace HB := xbs hb; (try clear hb)) | ((with_reducible refine gC 42 rfl ?_); refine goesLY (some 62) rfl Try.func42 #[.string aH] ?_; (with_reducible refine (impl_FromHex.calls aI aH aJ true _ bZ.out).mono ?_); rintro e gH ⟨v275, rfl, aF, hb⟩; refine ⟨_, rfl, ?_⟩; have aA := aM (Kd.R_lower (Kd.R_new' aF (Kd.R_lt (xr aB))) (below_size xbel)); replace aB := aM (Kd.R_elder' (xr aB) (Kd.R_base aF) hb); replace HB := xbs hb; (try clear hb aF)) | ((with_reducible refine gC 44 rfl ?_); refine goesLY (some 67) rfl Try.func44 #[.string aH] ?_; (with_reducible refine (spec_FromHex.calls aI aH bA aP _ cA.out).mono ?_); rintro e gI ⟨v279, rfl, aF, hb⟩; refine ⟨_, rfl, ?_⟩; have aC := aM (Kd.R_lower (Kd.R_new' (Kd.R_new' aF (Kd.R_lt (xr aB))) (Kd.R_lt (xr aA))) (below_size xbel)); replace aB := aM (Kd.R_elder' (xr aB) (Kd.R_base aF) hb); replace aA := aM (Kd.R_elder' (xr aA) (Kd.R_base aF) hb); replace HB := xbs hb; (try clear hb aF); have hcv68 := own_string (P := Try.prog) Try.underlying22 Try.underlying5 Try.underlying9 (Kd.own_of_R aB.out)) | ((with_reducible refine gC 24 rfl ?_); refine goesLY (some 73) rfl Try.func24 #[.string (strOfNums aD)] ?_; (with_reducible refine (impl_ShaText.calls aI (strOfNums aD) aK _ cB.out).mono ?_); rintro e gJ ⟨rfl, hb⟩; refine ⟨_, rfl, ?_⟩; replace aB := xrb aB hb; replace aA := xrb aA hb; replace aC := xrb aC hb; replace HB := xbs hb; (try clear hb)) | ((with_reducible refine gC 42 rfl ?_); refine goesLY (some 74) rfl Try.func42 #[.string aK] ?_; (with_reducible refine (impl_FromHex.calls aI aK aX false _ cC.out).mono ?_); rintro e eZ ⟨v284, rfl, aF, hb⟩; refine ⟨_, rfl, ?_⟩; have aE := aM (Kd.R_lower (Kd.R_new' (Kd.R_new' (Kd.R_new' aF (Kd.R_lt (xr aB))) (Kd.R_lt (xr aA))) (Kd.R_lt (xr aC))) (below_size xbel)); replace aB := aM (Kd.R_elder' (xr aB) (Kd.R_base aF) hb); replace aA := aM (Kd.R_elder' (xr aA) (Kd.R_base aF) hb); replace aC := aM (Kd.R_elder' (xr aC) (Kd.R_base aF) hb); replace HB := xbs hb; (try clear hb aF)))
          replace aB := rD aB; replace aA := rD aA; replace aC := rD aC; replace aE := rD aE; replace HB := lD HB; obtain ⟨eB, eC, dE⟩ := Kd.R_slice aA.out; (first | subst dE | (injection dE with f1_ f2_ f3_; have f4_ := f1_.symm; have f5_ := f3_.symm; clear f1_ f2_ f3_; subst f4_; subst f5_)); refine st_ 25 (fun w' => True) laws_FnHex.T14 laws_FnHex.B14 trivial (fun hHeld HT_ HW_ => ?_); generalize eZ.drew = gK at aB aA aC aE HB hHeld ⊢; refine pV 0 77 ?_; refine pV 1 78 ?_; refine pV 2 79 ?_; refine pV 3 80 ?_; refine pV 4 81 ?_; refine pV 5 82 ?_; refine pV 6 83 ?_; refine pV 7 84 ?_; refine pV 9 86 ?_; refine oN 8 85 fun K hK => ?_
          refine goesY Try.func41 #[.slice eB aJ.length eC] ?_; with_reducible refine (impl_HexOf.calls aI _ _ aJ bG _ ?side1 ?side2 dZ.out).mono ?_
          (case side1 => exact xC aA); (case side2 => exact (Kd.R_reads' aA.out).2.1); rintro e gL ⟨rfl, hb⟩; refine ⟨_, rfl, ?_⟩; replace aB := xrb aB hb; replace aA := xrb aA hb; replace aC := xrb aC hb; replace aE := xrb aE hb; replace HB := xbs hb; (try clear hb); refine hK.out _ _ trivial (fun hHeld => ?_); clear hK K; refine nm_ (N := 85) ?_; refine pV 10 87 ?_; refine pV 11 88 ?_; refine pV 12 89 ?_; refine pV 13 90 ?_; refine pV 14 91 ?_; refine pV 15 92 ?_; refine pV 16 93 ?_; refine pU 17 94 ?_; refine pU 18 95 ?_; refine pU 19 96 ?_; refine pU 20 97 ?_; refine pU 21 98 ?_; refine pU 22 99 ?_; refine pV 23 100 ?_; refine pV 24 2 ?_; refine dn_ ?_; try go_wp2
          go_ret
          exact ⟨xerr, xbel⟩
        ·rw [if_neg dA] at H; obtain ⟨dB, dC⟩ := bF dA; obtain rfl := Option.some.inj H; try go_wp2_with (first | ((with_reducible refine gC 43 rfl ?_); refine goesLY (some 59) rfl Try.func43 #[.slice A0 l0.length c0] ?_; (with_reducible refine (spec_DrawFromHex.calls aI _ _ l0 aH _ ?side1 ?side2 bY.out).mono ?_); (case side1 => exact xcb bI); (case side2 => exact bJ.out); rintro e gM ⟨rfl, hb⟩; refine ⟨_, rfl, ?_⟩; replace aB := xrb aB hb; replace HB := xbs hb; (try clear hb)) | ((with_reducible refine gC 42 rfl ?_); refine goesLY (some 62) rfl Try.func42 #[.string aH] ?_; (with_reducible refine (impl_FromHex.calls aI aH aJ true _ bZ.out).mono ?_); rintro e gN ⟨v275, rfl, aF, hb⟩; refine ⟨_, rfl, ?_⟩; have aA := aM (Kd.R_lower (Kd.R_new' aF (Kd.R_lt (xr aB))) (below_size xbel)); replace aB := aM (Kd.R_elder' (xr aB) (Kd.R_base aF) hb); replace HB := xbs hb; (try clear hb aF)) | ((with_reducible refine gC 44 rfl ?_); refine goesLY (some 67) rfl Try.func44 #[.string aH] ?_; (with_reducible refine (spec_FromHex.calls aI aH bA aP _ cA.out).mono ?_); rintro e gO ⟨v279, rfl, aF, hb⟩; refine ⟨_, rfl, ?_⟩; have aC := aM (Kd.R_lower (Kd.R_new' (Kd.R_new' aF (Kd.R_lt (xr aB))) (Kd.R_lt (xr aA))) (below_size xbel)); replace aB := aM (Kd.R_elder' (xr aB) (Kd.R_base aF) hb); replace aA := aM (Kd.R_elder' (xr aA) (Kd.R_base aF) hb); replace HB := xbs hb; (try clear hb aF); have hcv77 := own_string (P := Try.prog) Try.underlying22 Try.underlying5 Try.underlying9 (Kd.own_of_R aB.out)) | ((with_reducible refine gC 24 rfl ?_); refine goesLY (some 73) rfl Try.func24 #[.string (strOfNums aD)] ?_; (with_reducible refine (impl_ShaText.calls aI (strOfNums aD) aK _ cB.out).mono ?_); rintro e gP ⟨rfl, hb⟩; refine ⟨_, rfl, ?_⟩; replace aB := xrb aB hb; replace aA := xrb aA hb; replace aC := xrb aC hb; replace HB := xbs hb; (try clear hb)) | ((with_reducible refine gC 42 rfl ?_); refine goesLY (some 74) rfl Try.func42 #[.string aK] ?_; (with_reducible refine (impl_FromHex.calls aI aK aX bO _ cC.out).mono ?_); rintro e fA ⟨v284, rfl, aF, hb⟩; refine ⟨_, rfl, ?_⟩; have aE := aM (Kd.R_lower (Kd.R_new' (Kd.R_new' (Kd.R_new' aF (Kd.R_lt (xr aB))) (Kd.R_lt (xr aA))) (Kd.R_lt (xr aC))) (below_size xbel)); replace aB := aM (Kd.R_elder' (xr aB) (Kd.R_base aF) hb); replace aA := aM (Kd.R_elder' (xr aA) (Kd.R_base aF) hb); replace aC := aM (Kd.R_elder' (xr aC) (Kd.R_base aF) hb); replace HB := xbs hb; (try clear hb aF)))
         replace aB := rD aB; replace aA := rD aA; replace aC := rD aC; replace aE := rD aE; replace HB := lD HB; obtain ⟨eD, eE, dF⟩ := Kd.R_slice aA.out; (first | subst dF | (injection dF with f1_ f2_ f3_; have f4_ := f1_.symm; have f5_ := f3_.symm; clear f1_ f2_ f3_; subst f4_; subst f5_)); refine st_ 25 (fun w' => True) laws_FnHex.T14 laws_FnHex.B14 trivial (fun hHeld HT_ HW_ => ?_); generalize fA.drew = gQ at aB aA aC aE HB hHeld ⊢; refine pV 0 77 ?_; refine pV 1 78 ?_; refine pV 2 79 ?_; refine pV 3 80 ?_; refine pV 4 81 ?_; refine pV 5 82 ?_; refine pV 6 83 ?_; refine pV 7 84 ?_; refine pV 9 86 ?_; refine oN 8 85 fun K hK => ?_
         refine goesY Try.func41 #[.slice eD aJ.length eE] ?_; with_reducible refine (impl_HexOf.calls aI _ _ aJ bG _ ?side1 ?side2 dZ.out).mono ?_
         (case side1 => exact xC aA); (case side2 => exact (Kd.R_reads' aA.out).2.1); rintro e gR ⟨rfl, hb⟩; refine ⟨_, rfl, ?_⟩; replace aB := xrb aB hb; replace aA := xrb aA hb; replace aC := xrb aC hb; replace aE := xrb aE hb; replace HB := xbs hb; (try clear hb); refine hK.out _ _ trivial (fun hHeld => ?_); clear hK K; refine nm_ (N := 85) ?_; refine pV 10 87 ?_; refine pV 11 88 ?_; refine pV 12 89 ?_; refine pV 13 90 ?_; refine pU 14 91 ?_; refine pV 15 92 ?_; refine pV 16 93 ?_; refine pU 17 94 ?_; refine pU 18 95 ?_; refine pU 19 96 ?_; refine pU 20 97 ?_; refine pU 21 98 ?_; refine pU 22 99 ?_; refine pV 23 100 ?_; refine pV 24 2 ?_; refine dn_ ?_; try go_wp2
         go_ret
         exact ⟨xerr, xbel⟩
       ·replace dL := Bool.eq_false_iff.mpr dL; subst dL; replace H := iN H; by_cases dN : bO = true
        ·subst dN; replace H := iT H; replace H := oB H; obtain ⟨bU, dG, H⟩ := H; (try dsimp only at H); have fB := aM dG; clear dG
         obtain rfl := Option.some.inj H; try go_wp2_with (first | ((with_reducible refine gC 43 rfl ?_); refine goesLY (some 59) rfl Try.func43 #[.slice A0 l0.length c0] ?_; (with_reducible refine (spec_DrawFromHex.calls aI _ _ l0 aH _ ?side1 ?side2 bY.out).mono ?_); (case side1 => exact xcb bI); (case side2 => exact bJ.out); rintro e gS ⟨rfl, hb⟩; refine ⟨_, rfl, ?_⟩; replace aB := xrb aB hb; replace HB := xbs hb; (try clear hb)) | ((with_reducible refine gC 42 rfl ?_); refine goesLY (some 62) rfl Try.func42 #[.string aH] ?_; (with_reducible refine (impl_FromHex.calls aI aH aJ false _ bZ.out).mono ?_); rintro e gT ⟨v275, rfl, aF, hb⟩; refine ⟨_, rfl, ?_⟩; have aA := aM (Kd.R_lower (Kd.R_new' aF (Kd.R_lt (xr aB))) (below_size xbel)); replace aB := aM (Kd.R_elder' (xr aB) (Kd.R_base aF) hb); replace HB := xbs hb; (try clear hb aF)) | ((with_reducible refine gC 44 rfl ?_); refine goesLY (some 67) rfl Try.func44 #[.string aH] ?_; (with_reducible refine (spec_FromHex.calls aI aH bA aP _ cA.out).mono ?_); rintro e gU ⟨v279, rfl, aF, hb⟩; refine ⟨_, rfl, ?_⟩; have aC := aM (Kd.R_lower (Kd.R_new' (Kd.R_new' aF (Kd.R_lt (xr aB))) (Kd.R_lt (xr aA))) (below_size xbel)); replace aB := aM (Kd.R_elder' (xr aB) (Kd.R_base aF) hb); replace aA := aM (Kd.R_elder' (xr aA) (Kd.R_base aF) hb); replace HB := xbs hb; (try clear hb aF); have hcv88 := own_string (P := Try.prog) Try.underlying22 Try.underlying5 Try.underlying9 (Kd.own_of_R aB.out)) | ((with_reducible refine gC 24 rfl ?_); refine goesLY (some 73) rfl Try.func24 #[.string (strOfNums aD)] ?_; (with_reducible refine (impl_ShaText.calls aI (strOfNums aD) aK _ cB.out).mono ?_); rintro e gV ⟨rfl, hb⟩; refine ⟨_, rfl, ?_⟩; replace aB := xrb aB hb; replace aA := xrb aA hb; replace aC := xrb aC hb; replace HB := xbs hb; (try clear hb)) | ((with_reducible refine gC 42 rfl ?_); refine goesLY (some 74) rfl Try.func42 #[.string aK] ?_; (with_reducible refine (impl_FromHex.calls aI aK aX true _ cC.out).mono ?_); rintro e fC ⟨v284, rfl, aF, hb⟩; refine ⟨_, rfl, ?_⟩; have aE := aM (Kd.R_lower (Kd.R_new' (Kd.R_new' (Kd.R_new' aF (Kd.R_lt (xr aB))) (Kd.R_lt (xr aA))) (Kd.R_lt (xr aC))) (below_size xbel)); replace aB := aM (Kd.R_elder' (xr aB) (Kd.R_base aF) hb); replace aA := aM (Kd.R_elder' (xr aA) (Kd.R_base aF) hb); replace aC := aM (Kd.R_elder' (xr aC) (Kd.R_base aF) hb); replace HB := xbs hb; (try clear hb aF)))
         replace aB := rD aB; replace aA := rD aA; replace aC := rD aC; replace aE := rD aE; replace HB := lD HB; refine st_ 25 (fun w' => True) laws_FnHex.T14 laws_FnHex.B14 trivial (fun hHeld HT_ HW_ => ?_); generalize fC.drew = gW at aB aA aC aE HB hHeld ⊢; refine pV 0 77 ?_; refine pV 1 78 ?_; refine pV 2 79 ?_; refine pV 3 80 ?_; refine pV 4 81 ?_; refine pV 5 82 ?_; refine pV 6 83 ?_; refine pU 7 84 ?_; refine pU 8 85 ?_; refine pU 9 86 ?_; refine pU 10 87 ?_; refine pV 11 88 ?_; refine pV 12 89 ?_; refine pV 13 90 ?_; refine pV 14 91 ?_; refine pV 15 92 ?_; refine pV 16 93 ?_; refine pV 17 94 ?_; refine pV 19 96 ?_
         refine two_ (i := 18) (j := 20) (Ni := some 95) (Nj := some 97) #[true, true, true, true, true, true, true, true, true, true, true, true, true, true, true, true, true, true, true, true, false, false, false, false, false] #[true, true, true, true, true, true, true, true, true, true, true, true, true, true, true, true, true, true, false, true, true, false, false, false, false] rfl rfl rfl rfl (two_of HT_.out (by kernel_rfl)) (by decide) (by decide) (fun K hK => ?_) (fun K hK => ?_)
         ·skip
          have hcv61 := own_string (P := Try.prog) Try.underlying22 Try.underlying5 Try.underlying9 (Kd.own_of_R aE.out); refine value_ (w1 := ?_) (v := ?_) (by rfl) rfl ?_ ?_; rotate_left 2
          ·go_simp
           constructor
           ·rfl
           ·rfl
          clear hcv61; refine hK.out _ _ trivial (fun hHeld => ?_); clear hK K; refine nm_ (N := 95) ?_; refine oN 20 97 fun K hK => ?_
          refine goesY Try.func32 #[.slice aN aD.length aO] ?_; with_reducible refine (impl_Sha.calls _ _ aD bU _ ?side1 ?side2 fB.out).mono ?_
          (case side1 => exact xC aB); (case side2 => exact (Kd.R_reads' aB.out).2.1); rintro e gE ⟨v288, rfl, aF, hb⟩; refine ⟨_, rfl, ?_⟩; have aU := aM (Kd.R_lower (Kd.R_new' (Kd.R_new' (Kd.R_new' (Kd.R_new' aF (Kd.R_lt (xr aB))) (Kd.R_lt (xr aA))) (Kd.R_lt (xr aC))) (Kd.R_lt (xr aE))) (below_size xbel)); replace aB := aM (Kd.R_elder' (xr aB) (Kd.R_base aF) hb); replace aA := aM (Kd.R_elder' (xr aA) (Kd.R_base aF) hb); replace aC := aM (Kd.R_elder' (xr aC) (Kd.R_base aF) hb); replace aE := aM (Kd.R_elder' (xr aE) (Kd.R_base aF) hb); replace HB := xbs hb; (try clear hb aF); refine hK.out _ _ trivial (fun hHeld => ?_); clear hK K; refine nm_ (N := 97) ?_; refine oN 21 98 fun K hK => ?_
          have hcv63 := own_string (P := Try.prog) Try.underlying22 Try.underlying5 Try.underlying9 (Kd.own_of_R aU.out); refine value_ (w1 := ?_) (v := ?_) (by rfl) rfl ?_ ?_; rotate_left 2
          ·go_simp
           constructor
           ·rfl
           ·rfl
          clear hcv63; refine hK.out _ _ trivial (fun hHeld => ?_); clear hK K; refine nm_ (N := 98) ?_; refine pV 22 99 ?_; refine pV 23 100 ?_; refine pV 24 2 ?_; refine dn_ ?_; try go_wp2
          go_ret
          exact ⟨xerr, xbel⟩
         ·skip
          refine goesY Try.func32 #[.slice aN aD.length aO] ?_; with_reducible refine (impl_Sha.calls _ _ aD bU _ ?side1 ?side2 fB.out).mono ?_
          (case side1 => exact xC aB); (case side2 => exact (Kd.R_reads' aB.out).2.1); rintro e gF ⟨v288, rfl, aF, hb⟩; refine ⟨_, rfl, ?_⟩; have aU := aM (Kd.R_lower (Kd.R_new' (Kd.R_new' (Kd.R_new' (Kd.R_new' aF (Kd.R_lt (xr aB))) (Kd.R_lt (xr aA))) (Kd.R_lt (xr aC))) (Kd.R_lt (xr aE))) (below_size xbel)); replace aB := aM (Kd.R_elder' (xr aB) (Kd.R_base aF) hb); replace aA := aM (Kd.R_elder' (xr aA) (Kd.R_base aF) hb); replace aC := aM (Kd.R_elder' (xr aC) (Kd.R_base aF) hb); replace aE := aM (Kd.R_elder' (xr aE) (Kd.R_base aF) hb); replace HB := xbs hb; (try clear hb aF); refine hK.out _ _ trivial (fun hHeld => ?_); clear hK K; refine nm_ (N := 97) ?_; refine two_ (i := 18) (j := 21) (Ni := some 95) (Nj := some 98) #[true, true, true, true, true, true, true, true, true, true, true, true, true, true, true, true, true, true, true, true, true, false, false, false, false] #[true, true, true, true, true, true, true, true, true, true, true, true, true, true, true, true, true, true, false, true, true, true, false, false, false] rfl rfl rfl rfl (two_of HT_.out (by kernel_rfl)) (by decide) (by decide) (fun K hK => ?_) (fun K hK => ?_)
          ·skip
           have hcv62 := own_string (P := Try.prog) Try.underlying22 Try.underlying5 Try.underlying9 (Kd.own_of_R aE.out); refine value_ (w1 := ?_) (v := ?_) (by rfl) rfl ?_ ?_; rotate_left 2
           ·go_simp
            constructor
            ·rfl
            ·rfl
           clear hcv62; refine hK.out _ _ trivial (fun hHeld => ?_); clear hK K; refine nm_ (N := 95) ?_; refine oN 21 98 fun K hK => ?_
           have hcv63 := own_string (P := Try.prog) Try.underlying22 Try.underlying5 Try.underlying9 (Kd.own_of_R aU.out); refine value_ (w1 := ?_) (v := ?_) (by rfl) rfl ?_ ?_; rotate_left 2
           ·go_simp
            constructor
            ·rfl
            ·rfl
           clear hcv63; refine hK.out _ _ trivial (fun hHeld => ?_); clear hK K; refine nm_ (N := 98) ?_; refine pV 22 99 ?_; refine pV 23 100 ?_; refine pV 24 2 ?_; refine dn_ ?_; try go_wp2
           go_ret
           exact ⟨xerr, xbel⟩
          ·skip
           have hcv62 := own_string (P := Try.prog) Try.underlying22 Try.underlying5 Try.underlying9 (Kd.own_of_R aU.out); refine value_ (w1 := ?_) (v := ?_) (by rfl) rfl ?_ ?_; rotate_left 2
           ·go_simp
            constructor
            ·rfl
            ·rfl
           clear hcv62; refine hK.out _ _ trivial (fun hHeld => ?_); clear hK K; refine nm_ (N := 98) ?_; refine oN 18 95 fun K hK => ?_
           have hcv63 := own_string (P := Try.prog) Try.underlying22 Try.underlying5 Try.underlying9 (Kd.own_of_R aE.out); refine value_ (w1 := ?_) (v := ?_) (by rfl) rfl ?_ ?_; rotate_left 2
           ·go_simp
            constructor
            ·rfl
            ·rfl
           clear hcv63; refine hK.out _ _ trivial (fun hHeld => ?_); clear hK K; refine nm_ (N := 95) ?_; refine pV 22 99 ?_; refine pV 23 100 ?_; refine pV 24 2 ?_; refine dn_ ?_; try go_wp2
           go_ret
           exact ⟨xerr, xbel⟩
        ·replace dN := Bool.eq_false_iff.mpr dN; subst dN; replace H := iN H; obtain rfl := Option.some.inj H; try go_wp2_with (first | ((with_reducible refine gC 43 rfl ?_); refine goesLY (some 59) rfl Try.func43 #[.slice A0 l0.length c0] ?_; (with_reducible refine (spec_DrawFromHex.calls aI _ _ l0 aH _ ?side1 ?side2 bY.out).mono ?_); (case side1 => exact xcb bI); (case side2 => exact bJ.out); rintro e gY ⟨rfl, hb⟩; refine ⟨_, rfl, ?_⟩; replace aB := xrb aB hb; replace HB := xbs hb; (try clear hb)) | ((with_reducible refine gC 42 rfl ?_); refine goesLY (some 62) rfl Try.func42 #[.string aH] ?_; (with_reducible refine (impl_FromHex.calls aI aH aJ false _ bZ.out).mono ?_); rintro e gZ ⟨v275, rfl, aF, hb⟩; refine ⟨_, rfl, ?_⟩; have aA := aM (Kd.R_lower (Kd.R_new' aF (Kd.R_lt (xr aB))) (below_size xbel)); replace aB := aM (Kd.R_elder' (xr aB) (Kd.R_base aF) hb); replace HB := xbs hb; (try clear hb aF)) | ((with_reducible refine gC 44 rfl ?_); refine goesLY (some 67) rfl Try.func44 #[.string aH] ?_; (with_reducible refine (spec_FromHex.calls aI aH bA aP _ cA.out).mono ?_); rintro e hJ ⟨v279, rfl, aF, hb⟩; refine ⟨_, rfl, ?_⟩; have aC := aM (Kd.R_lower (Kd.R_new' (Kd.R_new' aF (Kd.R_lt (xr aB))) (Kd.R_lt (xr aA))) (below_size xbel)); replace aB := aM (Kd.R_elder' (xr aB) (Kd.R_base aF) hb); replace aA := aM (Kd.R_elder' (xr aA) (Kd.R_base aF) hb); replace HB := xbs hb; (try clear hb aF); have hcv99 := own_string (P := Try.prog) Try.underlying22 Try.underlying5 Try.underlying9 (Kd.own_of_R aB.out)) | ((with_reducible refine gC 24 rfl ?_); refine goesLY (some 73) rfl Try.func24 #[.string (strOfNums aD)] ?_; (with_reducible refine (impl_ShaText.calls aI (strOfNums aD) aK _ cB.out).mono ?_); rintro e fD ⟨rfl, hb⟩; refine ⟨_, rfl, ?_⟩; replace aB := xrb aB hb; replace aA := xrb aA hb; replace aC := xrb aC hb; replace HB := xbs hb; (try clear hb)) | ((with_reducible refine gC 42 rfl ?_); refine goesLY (some 74) rfl Try.func42 #[.string aK] ?_; (with_reducible refine (impl_FromHex.calls aI aK aX false _ cC.out).mono ?_); rintro e eF ⟨v284, rfl, aF, hb⟩; refine ⟨_, rfl, ?_⟩; have aE := aM (Kd.R_lower (Kd.R_new' (Kd.R_new' (Kd.R_new' aF (Kd.R_lt (xr aB))) (Kd.R_lt (xr aA))) (Kd.R_lt (xr aC))) (below_size xbel)); replace aB := aM (Kd.R_elder' (xr aB) (Kd.R_base aF) hb); replace aA := aM (Kd.R_elder' (xr aA) (Kd.R_base aF) hb); replace aC := aM (Kd.R_elder' (xr aC) (Kd.R_base aF) hb); replace HB := xbs hb; (try clear hb aF)))
         replace aB := rD aB; replace aA := rD aA; replace aC := rD aC; replace aE := rD aE; replace HB := lD HB; refine st_ 25 (fun w' => True) laws_FnHex.T14 laws_FnHex.B14 trivial (fun hHeld HT_ HW_ => ?_); generalize eF.drew = fE at aB aA aC aE HB hHeld ⊢; refine pV 0 77 ?_; refine pV 1 78 ?_; refine pV 2 79 ?_; refine pV 3 80 ?_; refine pV 4 81 ?_; refine pV 5 82 ?_; refine pV 6 83 ?_; refine pU 7 84 ?_; refine pU 8 85 ?_; refine pU 9 86 ?_; refine pU 10 87 ?_; refine pV 11 88 ?_; refine pV 12 89 ?_; refine pV 13 90 ?_; refine pV 14 91 ?_; refine pV 15 92 ?_; refine pV 16 93 ?_; refine pU 17 94 ?_; refine pU 18 95 ?_; refine pU 19 96 ?_; refine pU 20 97 ?_; refine pU 21 98 ?_; refine pU 22 99 ?_; refine pV 23 100 ?_; refine pV 24 2 ?_; refine dn_ ?_; try go_wp2
         go_ret
         exact ⟨xerr, xbel⟩
      ·rw [if_neg bN] at H; have cW : (aT == aP) = false := by simpa using bN
       (try (have cX : decide (aT = aP) = false := by simpa using bN)); (try (have cY : (aT == aP) = false := by simpa using bN)); (try (have eO : ¬ (aT = aP) := by simpa using bN)); clear bN; obtain rfl := Option.some.inj H; try go_wp2_with (first | ((with_reducible refine gC 43 rfl ?_); refine goesLY (some 59) rfl Try.func43 #[.slice A0 l0.length c0] ?_; (with_reducible refine (spec_DrawFromHex.calls aI _ _ l0 aH _ ?side1 ?side2 bY.out).mono ?_); (case side1 => exact xcb bI); (case side2 => exact bJ.out); rintro e fF ⟨rfl, hb⟩; refine ⟨_, rfl, ?_⟩; replace aB := xrb aB hb; replace HB := xbs hb; (try clear hb)) | ((with_reducible refine gC 42 rfl ?_); refine goesLY (some 62) rfl Try.func42 #[.string aH] ?_; (with_reducible refine (impl_FromHex.calls aI aH aJ aT _ bZ.out).mono ?_); rintro e fG ⟨v275, rfl, aF, hb⟩; refine ⟨_, rfl, ?_⟩; have aA := aM (Kd.R_lower (Kd.R_new' aF (Kd.R_lt (xr aB))) (below_size xbel)); replace aB := aM (Kd.R_elder' (xr aB) (Kd.R_base aF) hb); replace HB := xbs hb; (try clear hb aF)) | ((with_reducible refine gC 44 rfl ?_); refine goesLY (some 67) rfl Try.func44 #[.string aH] ?_; (with_reducible refine (spec_FromHex.calls aI aH bA aP _ cA.out).mono ?_); rintro e fH ⟨v279, rfl, aF, hb⟩; refine ⟨_, rfl, ?_⟩; have aC := aM (Kd.R_lower (Kd.R_new' (Kd.R_new' aF (Kd.R_lt (xr aB))) (Kd.R_lt (xr aA))) (below_size xbel)); replace aB := aM (Kd.R_elder' (xr aB) (Kd.R_base aF) hb); replace aA := aM (Kd.R_elder' (xr aA) (Kd.R_base aF) hb); replace HB := xbs hb; (try clear hb aF); have hcv106 := own_string (P := Try.prog) Try.underlying22 Try.underlying5 Try.underlying9 (Kd.own_of_R aB.out)) | ((with_reducible refine gC 24 rfl ?_); refine goesLY (some 73) rfl Try.func24 #[.string (strOfNums aD)] ?_; (with_reducible refine (impl_ShaText.calls aI (strOfNums aD) aK _ cB.out).mono ?_); rintro e fI ⟨rfl, hb⟩; refine ⟨_, rfl, ?_⟩; replace aB := xrb aB hb; replace aA := xrb aA hb; replace aC := xrb aC hb; replace HB := xbs hb; (try clear hb)) | ((with_reducible refine gC 42 rfl ?_); refine goesLY (some 74) rfl Try.func42 #[.string aK] ?_; (with_reducible refine (impl_FromHex.calls aI aK aX bO _ cC.out).mono ?_); rintro e eG ⟨v284, rfl, aF, hb⟩; refine ⟨_, rfl, ?_⟩; have aE := aM (Kd.R_lower (Kd.R_new' (Kd.R_new' (Kd.R_new' aF (Kd.R_lt (xr aB))) (Kd.R_lt (xr aA))) (Kd.R_lt (xr aC))) (below_size xbel)); replace aB := aM (Kd.R_elder' (xr aB) (Kd.R_base aF) hb); replace aA := aM (Kd.R_elder' (xr aA) (Kd.R_base aF) hb); replace aC := aM (Kd.R_elder' (xr aC) (Kd.R_base aF) hb); replace HB := xbs hb; (try clear hb aF)))
       replace aB := rD aB; replace aA := rD aA; replace aC := rD aC; replace aE := rD aE; replace HB := lD HB; refine st_ 25 (fun w' => True) laws_FnHex.T14 laws_FnHex.B14 trivial (fun hHeld HT_ HW_ => ?_); generalize eG.drew = fJ at aB aA aC aE HB hHeld ⊢; refine pV 0 77 ?_; refine pV 1 78 ?_; refine pV 2 79 ?_; refine pV 3 80 ?_; refine pU 4 81 ?_; refine pU 5 82 ?_; refine pU 6 83 ?_; refine pU 7 84 ?_; refine pU 8 85 ?_; refine pU 9 86 ?_; refine pU 10 87 ?_; refine pU 11 88 ?_; refine pV 12 89 ?_; refine pV 13 90 ?_; refine pU 14 91 ?_; refine pV 15 92 ?_; refine pV 16 93 ?_; refine pU 17 94 ?_; refine pU 18 95 ?_; refine pU 19 96 ?_; refine pU 20 97 ?_; refine pU 21 98 ?_; refine pU 22 99 ?_; refine pV 23 100 ?_; refine pV 24 2 ?_; refine dn_ ?_; try go_wp2
       go_ret
       exact ⟨xerr, xbel⟩

/-- THE ONE PURE STATEMENT of laws_FnHex. -/
def laws_FnHex.Pure : Prop := ∀ (l0 : List Int), l0.length ≤ maxLen → l0.length * 1 ≤ 140737488351232 → (∀ x ∈ l0, (Lit.int .u8 x).wf = true) → ∃ k, laws_FnHex.f k l0 = some true
theorem laws_FnHex.walk (P : laws_FnHex.Pure) (A0 : Option Addr) (c0 : Nat) (l0 : List Int) (w : World) (dI : Kd.C (Kd.int .u8) w A0 l0.length l0) (dJ : l0.length ≤ c0) (hm0 : l0.length ≤ maxLen) (hz0 : l0.length * 1 ≤ 140737488351232) (fK : ∀ x ∈ l0, (Lit.int .u8 x).wf = true) :
 Calls Try.prog 8 #[.slice A0 l0.length c0] w fun e w' => e = .returned (.bool true) ∧ Below w.heap.size w w' := by
 obtain ⟨k, h⟩ := P l0 hm0 hz0 fK
 refine (laws_FnHex.calls k A0 c0 l0 true w dI dJ h).mono ?_
 rintro e w' ⟨rfl, hd⟩
 exact ⟨rfl, hd⟩

end Go.Proofs.Ytoojdlobnbakoaa.QFnHex
