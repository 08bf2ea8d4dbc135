-- A walk, by a program of this session.
import Derived.Test.YtppfnnpfamkclaaQFnExactRollFindx0
import Derived.Test.YtppfnnpfamkclaaQFnExactRollFindx1
import Derived.Test.YtppfnnpfamkclaaQFnExactRollFindx2
import Derived.Test.YtppfnnpfamkclaaQFnExactRollFindx5
import Derived.Test.YtppfnnpfamkclaaQFnExactRollFindx7
namespace Go.Proofs.Ytppfnnpfamkclaa.QFnExactRollFind
open Go.RowKit Go.Proofs.YtppfnnpfamkclaaW.PrintWords Go.Proofs.YtppfnnpfamkclaaW.PrintLast Go.Proofs.YtppfnnpfamkclaaW.PrintMore
attribute [local go_sem] max2_int min2_int max_two min_two max_three min_three max_four min_four   -- for this text's walks alone
set_option linter.unusedVariables false
set_option linter.unusedSimpArgs false

theorem u8_0 {p : Prop} (h : p := by (with_reducible repeat (first | apply Kd.S_alloc | apply Kd.S_drewN | apply Kd.S_drew)); exact cA.out) : p := h
theorem u8_1 {p : Prop} (h : p := by first | rfl | (simp; done) | (simp [*]; done)) : p := h
theorem u8_2 {p : Prop} (h : p := by (with_reducible repeat (first | apply Kd.S_alloc | apply Kd.S_drewN | apply Kd.S_drew)); exact aJ.out) : p := h
theorem u8_3 {p : Prop} (h : p := by revert hk_; simp only [and_imp]; intros; assumption) : p := h
theorem u8_4 {p : Prop} (h : p := by (with_reducible repeat (first | apply Kd.S_alloc | apply Kd.S_drewN | apply Kd.S_drew)); exact cO.out) : p := h
theorem u8_5 {p : Prop} (h : p := by exact (Kd.R_reads' aA.out).2.1) : p := h
theorem u8_6 {p : Prop} (h : p := by first | (go_simp; done) | (go_simp; rfl)) : p := h
theorem u8_7 {p : Prop} (h : p := by exact (Kd.R_reads' aB.out).2.1) : p := h
theorem u8_8 {p : Prop} (h : p := by (with_reducible repeat (first | apply Kd.S_alloc | apply Kd.S_drewN | apply Kd.S_drew)); exact dU.out) : p := h
theorem u8_9 {p : Prop} (h : p := by have q_ := hk_.1; revert e_; simp only [and_imp]; intros; exact absurd q_ (by assumption)) : p := h
theorem u8_10 {p : Prop} (h : p := by have q_ := e_; revert hk_; simp only [and_imp]; intros; exact absurd q_ (by assumption)) : p := h
theorem u8_11 {p : Prop} (h : p := by have := HJ11.out; first | omega | exact Nat.le_refl _) : p := h
theorem u8_12 {p : Prop} (h : p := by (with_reducible repeat (first | apply Kd.R_alloc | apply Kd.R_drewN | apply Kd.R_drew)); exact Kd.R_mono aB.out (fun _ hk => hk.1)) : p := h
theorem u8_13 {p : Prop} (h : p := by (with_reducible repeat (first | apply Kd.R_alloc | apply Kd.R_drewN | apply Kd.R_drew)); exact Kd.R_mono aA.out (fun _ hk => hk.1)) : p := h
theorem u8_14 {p : Prop} (h : p := by (try simp only [List.map_toArray, List.map_cons, List.map_nil]); first | done | (rw [show cW.length = aK.length from (Kd.R_reads' aA.out).1.symm] <;> rfl) | rfl | (simp only [List.length_drop, List.length_take]; rfl)) : p := h
theorem u8_15 {p : Prop} (h : p := by rw [show cW.length = aK.length from (Kd.R_reads' aA.out).1.symm]; exact (Kd.R_reads' aA.out).2.1) : p := h
theorem u8_16 {p : Prop} (h : p := by (with_reducible repeat (first | apply Kd.R_alloc | apply Kd.R_drewN | apply Kd.R_drew)); exact Kd.R_mono aX.out (fun _ hk => ⟨hk.2.1, hk.2.2⟩)) : p := h
theorem u8_17 {p : Prop} (h : p := by (with_reducible repeat (first | apply Kd.S_alloc | apply Kd.S_drewN | apply Kd.S_drew)); exact Kd.S_mono cO.out (fun _ hk => ⟨hk.2.2.1, ⟨hk.2.2.2.1, ⟨hk.2.2.2.2.1, ⟨hk.2.2.2.2.2.1, hk.2.2.2.2.2.2⟩⟩⟩⟩)) : p := h
theorem u8_18 {p : Prop} (h : p := by (with_reducible repeat (first | apply Kd.R_alloc | apply Kd.R_drewN | apply Kd.R_drew)); exact Kd.R_mono bP.out (fun _ hk => ⟨hk.2.1, hk.2.2⟩)) : p := h
theorem u8_19 {p : Prop} (h : p := by (with_reducible repeat (first | apply Kd.R_alloc | apply Kd.R_drewN | apply Kd.R_drew)); exact Kd.R_mono cP.out (fun _ hk => ⟨hk.2.1, hk.2.2⟩)) : p := h
theorem u8_20 {p : Prop} (h : p := by (with_reducible repeat (first | apply Kd.R_alloc | apply Kd.R_drewN | apply Kd.R_drew)); exact Kd.R_mono aB.out (fun _ hk => ⟨hk.1, hk.2.2⟩)) : p := h
theorem u8_21 {p : Prop} (h : p := by (with_reducible repeat (first | apply Kd.R_alloc | apply Kd.R_drewN | apply Kd.R_drew)); exact Kd.R_mono aA.out (fun _ hk => ⟨hk.1, hk.2.2⟩)) : p := h
theorem u8_22 {p : Prop} (h : p := by (with_reducible repeat (first | apply Kd.R_alloc | apply Kd.R_drewN | apply Kd.R_drew)); exact Kd.R_mono cQ.out (fun _ hk => ⟨hk.1, hk.2.1⟩)) : p := h
/-! ### laws_FnExactRollFind: function 4 -/
mutual
def laws_FnExactRollFind.j0 : Nat → Int → Bool → Bool → Bool → Int → List (S53) → Int → List Int → Int → Int → ByteArray → List Int → Int → Int → List (S38) → Int → List Int → Int → Int → ByteArray → List Int → Int → Option (Bool)
 | 0, _, _, _, _, _, _, _, _, _, _, _, _, _, _, _, _, _, _, _, _, _, _ => none
 | k + 1, x1, x7, DD, DE, dK, dL, dM, dN, dO, dP, dQ, dR, dS, kL, kM, kN, kO, bQ, bR, bU, cS, bV => if DE = true then (some false) else ((laws_toRoll.f k dK dL dM dN).bind fun kP => ((laws_eqRoll.f k kL kM kN kO kP.1 kP.2.1 kP.2.2.1 kP.2.2.2).bind fun rY => (if rY = true then ((laws_markRoll.f k kL kM kN kO 1).bind fun mS => (if mS < 0 then (laws_FnExactRollFind.j1 k x1 x7 true dK dL dM dN dO dP dQ dR dS bQ bR bU cS bV) else ((laws_eqRel.f k bQ bR bU cS bV dO dP dQ dR dS).bind fun rZ => (if rZ = true then (laws_FnExactRollFind.j1 k x1 x7 (DD != x7) dK dL dM dN dO dP dQ dR dS bQ bR bU cS bV) else (laws_FnExactRollFind.j1 k x1 x7 true dK dL dM dN dO dP dQ dR dS bQ bR bU cS bV))))) else (some false))))
def laws_FnExactRollFind.j1 : Nat → Int → Bool → Bool → Int → List (S53) → Int → List Int → Int → Int → ByteArray → List Int → Int → Int → Int → ByteArray → List Int → Int → Option (Bool)
 | 0, _, _, _, _, _, _, _, _, _, _, _, _, _, _, _, _, _ => none
 | k + 1, x1, x7, DF, dK, dL, dM, dN, dO, dP, dQ, dR, dS, bQ, bR, bU, cS, bV => if DF = true then (some false) else ((laws_markRel.f k bQ bR bU cS bV 1).bind fun eO => ((laws_heldRel.f k bQ bR bU eO.2 bV 1).bind fun eM => (if eM < 0 then (some false) else (if eM = eO.1 then ((laws_toRoll.f k dK dL dM dN).bind fun kQ => ((impl_RollFind.f k kQ.1 kQ.2.1 kQ.2.2.1 kQ.2.2.2 x1).bind fun eP => ((laws_eqRel.f k eP.1 eP.2.1 eP.2.2.1 eP.2.2.2.1 eP.2.2.2.2.1 dO dP dQ dR dS).bind fun sA => (if sA = true then (laws_FnExactRollFind.j2 k eO.1 (eP.2.2.2.2.2 != x7) bQ bR bU eO.2 bV) else (laws_FnExactRollFind.j2 k eO.1 true bQ bR bU eO.2 bV))))) else (some false)))))
def laws_FnExactRollFind.j2 : Nat → Int → Bool → Int → Int → ByteArray → List Int → Int → Option (Bool)
 | 0, _, _, _, _, _, _, _ => none
 | k + 1, DG, DH, bQ, bR, bU, cS, bV => if DH = true then (some false) else ((laws_heldRel.f k bQ bR bU cS bV 1).bind fun eN => (if eN < 0 then (some false) else (if eN = DG then (some true) else (some false))))
end
def laws_FnExactRollFind.f (k : Nat) (aY : Int) (aO : List (S53)) (aZ : Int) (aP : List Int) (a1 : Int) : Option (Bool) := (laws_szRoll.f k aY aO aZ aP 1048576).bind fun eU => (if eU < 0 then (some true) else ((laws_toRoll.f k aY aO aZ aP).bind fun dY => ((spec_RollFind.f k dY.1 dY.2.1 dY.2.2.1 dY.2.2.2 a1).bind fun aL => ((laws_toRoll.f k aY aO aZ aP).bind fun bG => ((impl_RollFind.f k bG.1 bG.2.1 bG.2.2.1 bG.2.2.2 a1).bind fun aN => ((laws_eqRel.f k aN.1 aN.2.1 aN.2.2.1 aN.2.2.2.1 aN.2.2.2.2.1 aL.1 aL.2.1 aL.2.2.1 aL.2.2.2.1 aL.2.2.2.2.1).bind fun nD => (if nD = true then (laws_FnExactRollFind.j0 k a1 aL.2.2.2.2.2 aN.2.2.2.2.2 (aN.2.2.2.2.2 != aL.2.2.2.2.2) aY aO aZ aP aL.1 aL.2.1 aL.2.2.1 aL.2.2.2.1 aL.2.2.2.2.1 bG.1 bG.2.1 bG.2.2.1 bG.2.2.2 aN.1 aN.2.1 aN.2.2.1 aN.2.2.2.1 aN.2.2.2.2.1) else (laws_FnExactRollFind.j0 k a1 aL.2.2.2.2.2 aN.2.2.2.2.2 true aY aO aZ aP aL.1 aL.2.1 aL.2.2.1 aL.2.2.2.1 aL.2.2.2.2.1 bG.1 bG.2.1 bG.2.2.1 bG.2.2.2 aN.1 aN.2.1 aN.2.2.1 aN.2.2.2.1 aN.2.2.2.2.1))))))))
theorem u8_mq0 {p : Prop} (h : p := by repeat' first | (with_reducible first | exact zH _ _ _ _ _ _ _ _ _ _ _ _ _ _ _ _ _ _ _ _ _ _ | exact zI _ _ _ _ _ _ _ _ _ _ _ _ _ _ _ _ _ | exact zJ _ _ _ _ _ _ _ | exact impl_RollFind.mono _ _ _ _ _ _ | exact laws_eqRel.mono _ _ _ _ _ _ _ _ _ _ _ | exact laws_eqRoll.mono _ _ _ _ _ _ _ _ _ | exact laws_heldRel.mono _ _ _ _ _ _ _ | exact laws_markRel.mono _ _ _ _ _ _ _ | exact laws_markRoll.mono _ _ _ _ _ _ | exact laws_szRoll.mono _ _ _ _ _ _ | exact laws_toRoll.mono _ _ _ _ _ | exact spec_RollFind.mono _ _ _ _ _ _ | exact LeO.refl _ | exact LeO.none _ | refine LeO.ite ?_ ?_ | refine LeO.bind ?_ (fun _ => ?_)) | exact LeO.none _ | refine LeO.ite ?_ ?_ | refine LeO.bind ?_ (fun _ => ?_)) : p := h
set_option maxRecDepth 100000 in
theorem laws_FnExactRollFind.mono_l : ∀ k, (∀ y0 y1 y2 y3 y4 y5 y6 y7 y8 y9 sB sC sD sE sF sG sH wA wB wC wD wE, LeO (laws_FnExactRollFind.j0 k y0 y1 y2 y3 y4 y5 y6 y7 y8 y9 sB sC sD sE sF sG sH wA wB wC wD wE) (laws_FnExactRollFind.j0 (k + 1) y0 y1 y2 y3 y4 y5 y6 y7 y8 y9 sB sC sD sE sF sG sH wA wB wC wD wE)) ∧ (∀ y0 y1 y2 y3 y4 y5 y6 y7 y8 y9 sB sC sD sE sF sG sH, LeO (laws_FnExactRollFind.j1 k y0 y1 y2 y3 y4 y5 y6 y7 y8 y9 sB sC sD sE sF sG sH) (laws_FnExactRollFind.j1 (k + 1) y0 y1 y2 y3 y4 y5 y6 y7 y8 y9 sB sC sD sE sF sG sH)) ∧ (∀ y0 y1 y2 y3 y4 y5 y6, LeO (laws_FnExactRollFind.j2 k y0 y1 y2 y3 y4 y5 y6) (laws_FnExactRollFind.j2 (k + 1) y0 y1 y2 y3 y4 y5 y6))
 | 0 => ⟨fun _ _ _ _ _ _ _ _ _ _ _ _ _ _ _ _ _ _ _ _ _ _ r h => by simp [laws_FnExactRollFind.j0] at h, fun _ _ _ _ _ _ _ _ _ _ _ _ _ _ _ _ _ r h => by simp [laws_FnExactRollFind.j1] at h, fun _ _ _ _ _ _ _ r h => by simp [laws_FnExactRollFind.j2] at h⟩
 | k + 1 => by
  obtain ⟨zH, zI, zJ⟩ := laws_FnExactRollFind.mono_l k; refine ⟨?_, ?_, ?_⟩
  ·intro y0 y1 y2 y3 y4 y5 y6 y7 y8 y9 sB sC sD sE sF sG sH wA wB wC wD wE; unfold laws_FnExactRollFind.j0; exact u8_mq0
  ·intro y0 y1 y2 y3 y4 y5 y6 y7 y8 y9 sB sC sD sE sF sG sH; unfold laws_FnExactRollFind.j1; exact u8_mq0
  ·intro y0 y1 y2 y3 y4 y5 y6; unfold laws_FnExactRollFind.j2; exact u8_mq0
theorem laws_FnExactRollFind.mono : ∀ a0 a1 a2 a3 a4 k, LeO (laws_FnExactRollFind.f k a0 a1 a2 a3 a4) (laws_FnExactRollFind.f (k + 1) a0 a1 a2 a3 a4) := by
 intro a0 a1 a2 a3 a4 k
 obtain ⟨zH, zI, zJ⟩ := laws_FnExactRollFind.mono_l k
 unfold laws_FnExactRollFind.f
 exact u8_mq0
set_option maxHeartbeats 8000000 in
set_option maxRecDepth 100000 in
theorem laws_FnExactRollFind.calls (k : Nat) (aY : Int) (cX : Option Addr) (cY : Nat) (aO : List (S53)) (aZ : Int) (cZ : Option Addr) (dA : Nat) (aP : List Int) (a1 : Int) (r : Bool) (w : World) (kR : Kd.C k53 w cX aO.length aO) (kS : aO.length ≤ cY) (kT : Kd.C (Kd.int .i64) w cZ aP.length aP) (kU : aP.length ≤ dA) (h : laws_FnExactRollFind.f k aY aO aZ aP a1 = some r) :
 Calls Try.prog 4 #[.agg #[.int .i64 aY, .slice cX aO.length cY, .int .i64 aZ, .slice cZ aP.length dA], .int .i64 a1] w fun e w' => e = .returned (.bool r) ∧ Below w.heap.size w w' := by
 have DI := Try.underlying25
 have DJ := Try.underlying38
 have DK := Try.underlying30
 have eF := aM kR
 have eG := aM kS
 clear kR kS
 have eH := aM kT
 have eI := aM kU
 clear kT kU
 have HB := aM (Below.refl w.heap.size w)
 have H : ((laws_szRoll.f k aY aO aZ aP 1048576).bind fun eU => (if eU < 0 then (some true) else ((laws_toRoll.f k aY aO aZ aP).bind fun dY => ((spec_RollFind.f k dY.1 dY.2.1 dY.2.2.1 dY.2.2.2 a1).bind fun aL => ((laws_toRoll.f k aY aO aZ aP).bind fun bG => ((impl_RollFind.f k bG.1 bG.2.1 bG.2.2.1 bG.2.2.2 a1).bind fun aN => ((laws_eqRel.f k aN.1 aN.2.1 aN.2.2.1 aN.2.2.2.1 aN.2.2.2.2.1 aL.1 aL.2.1 aL.2.2.1 aL.2.2.2.1 aL.2.2.2.2.1).bind fun nD => (if nD = true then (laws_FnExactRollFind.j0 k a1 aL.2.2.2.2.2 aN.2.2.2.2.2 (aN.2.2.2.2.2 != aL.2.2.2.2.2) aY aO aZ aP aL.1 aL.2.1 aL.2.2.1 aL.2.2.2.1 aL.2.2.2.2.1 bG.1 bG.2.1 bG.2.2.1 bG.2.2.2 aN.1 aN.2.1 aN.2.2.1 aN.2.2.2.1 aN.2.2.2.2.1) else (laws_FnExactRollFind.j0 k a1 aL.2.2.2.2.2 aN.2.2.2.2.2 true aY aO aZ aP aL.1 aL.2.1 aL.2.2.1 aL.2.2.2.1 aL.2.2.2.2.1 bG.1 bG.2.1 bG.2.2.1 bG.2.2.2 aN.1 aN.2.1 aN.2.2.1 aN.2.2.2.1 aN.2.2.2.2.1))))))))) = some r := h
 clear h
 replace H := oB H
 obtain ⟨eU, zK, H⟩ := H
 (try dsimp only at H)
 have A3 := aM zK
 clear zK
 by_cases c4 : eU < 0
 ·rw [if_pos c4] at H; have rM : decide (eU < 0) = true := decide_eq_true c4; clear c4; obtain rfl := Option.some.inj H; go_enter Try.func4, Try.ntmps4
  go_wp2_with (first | ((with_reducible refine gD 2 rfl ?_); refine boxE (N := 2) rfl (cs := #[.int .i64 aY, .slice cX aO.length cY, .int .i64 aZ, .slice cZ aP.length dA]) (t := 25) ?_; intro dD hg w5 hbox hb; have aD := aM (hbox); have tA := aM (xge hg); have tB := aM (xge hg); replace HB := xbs hb; clear hb hbox hg; obtain ⟨kB, kC, kE, kF, kG, kH, kI, kJ⟩ := xf4 (w := w5) aD) | ((with_reducible refine gC 5 rfl ?_); refine goesLY (some 18) rfl Try.func5 #[.agg #[.int .i64 aY, .slice cX aO.length cY, .int .i64 aZ, .slice cZ aP.length dA], .int .i64 1048576] ?_; (with_reducible refine (laws_szRoll.calls k aY _ _ aO aZ _ _ aP 1048576 eU _ ?side1 ?side2 ?side3 ?side4 A3.out).mono ?_); (case side1 => exact xcb eF); (case side2 => exact eG.out); (case side3 => exact xcb eH); (case side4 => exact eI.out); rintro e w7 ⟨rfl, hb⟩; refine ⟨_, rfl, ?_⟩; replace aD := xbb aD hb; replace HB := xbs hb; (try clear hb)))
  go_ret
  exact ⟨xerr, xbg⟩
 ·rw [if_neg c4] at H; have rM : decide (eU < 0) = false := decide_eq_false c4; clear c4; replace H := oB H; obtain ⟨⟨sI, eJ, sJ, dB⟩, zL, H⟩ := H; (try dsimp only at H); have A8 := aM zL; clear zL; replace H := oB H
  obtain ⟨⟨bW, bX, bY, aI, bZ, mT⟩, zM, H⟩ := H; (try dsimp only at H); have A9 := aM zM; clear zM; replace H := oB H
  obtain ⟨⟨dG, cF, dH, bL⟩, tC, H⟩ := H; (try dsimp only at H); have DL := aM tC; clear tC; replace H := oB H
  obtain ⟨⟨bH, bI, bJ, aK, bK, rN⟩, tD, H⟩ := H; (try dsimp only at H); have DM := aM tD; clear tD; have sK := aM H; clear H
  go_enter Try.func4, Try.ntmps4
  go_upto_region 8 with (first | ((with_reducible refine gD 2 rfl ?_); refine boxE (N := 2) rfl (cs := #[.int .i64 aY, .slice cX aO.length cY, .int .i64 aZ, .slice cZ aP.length dA]) (t := 25) ?_; intro dD hg DN hbox hb; have aD := aM (hbox); have tA := aM (xge hg); have tB := aM (xge hg); replace HB := xbs hb; clear hb hbox hg; obtain ⟨eV, eW, eX, eY, eZ, fA, fB, fC⟩ := xf4 (w := DN) aD) | ((with_reducible refine gC 5 rfl ?_); refine goesLY (some 18) rfl Try.func5 #[.agg #[.int .i64 aY, .slice cX aO.length cY, .int .i64 aZ, .slice cZ aP.length dA], .int .i64 1048576] ?_; (with_reducible refine (laws_szRoll.calls k aY _ _ aO aZ _ _ aP 1048576 eU _ ?side1 ?side2 ?side3 ?side4 A3.out).mono ?_); (case side1 => exact xcb eF); (case side2 => exact eG.out); (case side3 => exact xcb eH); (case side4 => exact eI.out); rintro e DO ⟨rfl, hb⟩; refine ⟨_, rfl, ?_⟩; replace aD := xbb aD hb; replace HB := xbs hb; (try clear hb); obtain ⟨fD, fE, fF, fG, fH, fI, fJ, fK⟩ := xf4 (w := DO) aD) | ((with_reducible refine gC 7 rfl ?_); refine goesLY (some 23) rfl Try.func7 #[.agg #[.int .i64 aY, .slice cX aO.length cY, .int .i64 aZ, .slice cZ aP.length dA]] ?_; (with_reducible refine (laws_toRoll.calls k aY _ _ aO aZ _ _ aP sI eJ sJ dB _ ?side1 ?side2 ?side3 ?side4 A8.out).mono ?_); (case side1 => exact xcb eF); (case side2 => exact eG.out); (case side3 => exact xcb eH); (case side4 => exact eI.out); rintro e FJ ⟨v255, v259, rfl, dE, dZ, hb⟩; refine ⟨_, rfl, ?_⟩; have cA := aM (Kd.S_lower dE (below_size xbg)); have bA := aM (Kd.R_lower dZ (below_size xbg)); replace aD := xbb aD hb; replace HB := xbs hb; (try clear hb dE dZ); obtain ⟨mU, mV, wF⟩ := Kd.S_slice cA.out; subst wF; obtain ⟨dW, dX, wG⟩ := Kd.R_slice bA.out; subst wG) | ((with_reducible refine gC 14 rfl ?_); refine goesLY (some 25) rfl Try.func14 #[.agg #[.int .i64 sI, .slice mU eJ.length mV, .int .i64 sJ, .slice dW dB.length dX], .int .i64 a1] ?_; (with_reducible refine (spec_RollFind.calls k sI _ _ eJ sJ _ _ dB a1 bW bX bY aI bZ mT _ ?side1 ?side2 ?side3 ?side4 A9.out).mono ?_); (case side1 => repeat (first | exact (Kd.S_reads' cA.out).2.2 | (with_reducible refine Kd.C_alloc ?_ _) | (with_reducible refine Kd.C_drewN ?_ _) | (with_reducible refine Kd.C_drew ?_))); (case side2 => exact (Kd.S_reads' cA.out).2.1); (case side3 => exact xC bA); (case side4 => exact (Kd.R_reads' bA.out).2.1); rintro e FL ⟨v265, rfl, dE, hb⟩; refine ⟨_, rfl, ?_⟩; replace cA := aM (Kd.S_elder' u8_0 (Kd.R_base dE) hb); have aX := aM (Kd.R_lower (Kd.R_new' dE (Kd.R_lt (xr bA))) (below_size xbg)); replace bA := aM (Kd.R_elder' (xr bA) (Kd.R_base dE) hb); replace aD := xbb aD hb; replace HB := xbs hb; (try clear hb dE)) | ((with_reducible refine gD 6 rfl ?_); refine boxE (N := 6) rfl (cs := #[.int .i64 0, .int .i64 0, .string (⟨#[]⟩ : ByteArray), .slice none 0 0, .int .i64 0]) (t := 38) ?_; intro aH hg zN hbox hb; replace cA := aM (Kd.S_below (Kd.S_elderB u8_0 aH (Nat.le_of_eq hg.symm)) hb); replace bA := xrb bA hb; replace aX := xrb aX hb; have zO := aM (xge hg); have zP := aM (xge hg); replace HB := xbs hb; have bN := nblt aD hg; have bO := nbgt aD hg; replace aD := xbb aD hb; have aC := aM (hbox); clear hb hbox hg; have zQ := bO.out; have zR := bN.out; obtain ⟨fL, fM, fN, fO, fP, fQ, fR, fS, fT, fU⟩ := xf5 (w := zN) aC; obtain ⟨aS, aT, wH⟩ := Kd.R_slice aX.out; subst wH) | ((with_reducible refine gate_store (t := 38) (p := 6) rfl ?_); refine store_event (t := 38) (p := 6) (v := ?vo_w25) (w1 := (((((zN.setCell ⟨aH, 0, none⟩ (.int .i64 bW)).setCell ⟨aH, 1, none⟩ (.int .i64 bX)).setCell ⟨aH, 2, none⟩ (.string bY)).setCell ⟨aH, 3, none⟩ (.slice aS aI.length aT)).setCell ⟨aH, 4, none⟩ (.int .i64 bZ))) ?hg ?ho ?hn ?hr ?_; (case ho | hg | hn => rfl); (case hr => exact u8_6); intro tE hw; replace cA : Aside0 (Kd.S k38 38 tE w.heap.size (fun k_ => some k_ ≠ (.slice dW dB.length dX : Value).ownBlock ∧ some k_ ≠ (.slice aS aI.length aT : Value).ownBlock ∧ k_ ≠ aH) (.slice mU eJ.length mV) eJ) := ⟨(by rw [hw]; exact (by (with_reducible repeat (first | apply Kd.S_alloc | apply Kd.S_drewN | apply Kd.S_drew)); exact Kd.S_mono (Kd.S_far (p := ⟨aH, 4, none⟩) (Kd.S_far (p := ⟨aH, 3, none⟩) (Kd.S_far (p := ⟨aH, 2, none⟩) (Kd.S_far (p := ⟨aH, 1, none⟩) (Kd.S_far (p := ⟨aH, 0, none⟩) (Kd.S_mono cA.out (fun k_ hk => (⟨hk, hk.2⟩ : _ ∧ k_ ≠ aH))) (fun _ hk => hk.2) (.int .i64 bW)) (fun _ hk => hk.2) (.int .i64 bX)) (fun _ hk => hk.2) (.string bY)) (fun _ hk => hk.2) (.slice aS aI.length aT)) (fun _ hk => hk.2) (.int .i64 bZ)) (fun _ hk => ⟨hk.1.1.1, ⟨hk.1.1.2, hk.1.2⟩⟩)))⟩; replace bA : Aside0 (Kd.R (Kd.int .i64) 3 tE w.heap.size (fun k_ => some k_ ≠ (.slice aS aI.length aT : Value).ownBlock) (.slice dW dB.length dX) dB) := xwm hw bA (fun _ hk => hk.2); replace aX : Aside0 (Kd.R (Kd.int .i64) 3 tE w.heap.size (fun k_ => some k_ ≠ (.slice dW dB.length dX : Value).ownBlock) (.slice aS aI.length aT) aI) := xwm hw aX (fun _ hk => hk.2); replace aD := xwc hw aD; replace aC : Aside0 (tE.heap[aH]? = some (.cells #[.int .i64 bW, .int .i64 bX, .string bY, .slice aS aI.length aT, .int .i64 bZ] 38 (0, 0))) := xwp hw; replace HB := xbw hw HB; clear hw; obtain ⟨fV, fW, fX, fY, fZ, gA, gB, gE⟩ := xf4 (w := tE) aD) | ((with_reducible refine gC 7 rfl ?_); refine goesLY (some 29) rfl Try.func7 #[.agg #[.int .i64 aY, .slice cX aO.length cY, .int .i64 aZ, .slice cZ aP.length dA]] ?_; (with_reducible refine (laws_toRoll.calls k aY _ _ aO aZ _ _ aP dG cF dH bL _ ?side1 ?side2 ?side3 ?side4 DL.out).mono ?_); (case side1 => exact xcb eF); (case side2 => exact eG.out); (case side3 => exact xcb eH); (case side4 => exact eI.out); rintro e FM ⟨v272, v276, rfl, dE, dZ, hb⟩; refine ⟨_, rfl, ?_⟩; have cO := aM (Kd.S_lower (Kd.S_newB (Kd.S_new' (Kd.S_new' (Kd.S_new' dE (Kd.S_lt u8_0)) (Kd.R_lt (xr bA))) (Kd.R_lt (xr aX))) (g := aH) (o := .cells #[.int .i64 bW, .int .i64 bX, .string bY, .slice aS aI.length aT, .int .i64 bZ] 38 (0, 0)) xblk) (below_size xbg)); replace cA := aM (Kd.S_mono (Kd.S_told (Kd.S_told (Kd.S_old u8_0 hb) (Kd.S_base dE)) (Kd.R_base dZ)) (fun _ h_ => h_.1)); have bP := aM (Kd.R_lower (Kd.R_new' (Kd.R_new' dZ (Kd.R_lt (xr bA))) (Kd.R_lt (xr aX))) (below_size xbg)); replace bA := aM (Kd.R_elder' (xr bA) (Kd.R_base dZ) hb); replace aX := aM (Kd.R_elder' (xr aX) (Kd.R_base dZ) hb); replace aD := xbb aD hb; replace aC := xbb aC hb; replace HB := xbs hb; (try clear hb dE dZ)) | ((with_reducible refine gD 8 rfl ?_); refine boxE (N := 8) rfl (cs := #[.int .i64 0, .slice none 0 0, .int .i64 0, .slice none 0 0]) (t := 30) ?_; intro bM hg zS hbox hb; replace cA := aM (Kd.S_below u8_0 hb); replace bA := xrb bA hb; replace aX := xrb aX hb; replace cO := aM (Kd.S_below u8_4 hb); replace bP := xrb bP hb; have zT := aM (xge hg); have zU := aM (xge hg); replace HB := xbs hb; have eQ := nblt aD hg; have eR := nbgt aD hg; have cH := nblt aC hg; have cI := nbgt aC hg; replace aD := xbb aD hb; replace aC := xbb aC hb; have aG := aM (hbox); clear hb hbox hg; have zV := eR.out; have zW := eQ.out; have zX := cI.out; have zY := cH.out; obtain ⟨gF, gG, gH, gI, gJ, gK, gL, gM⟩ := xf4 (w := zS) aG; obtain ⟨dI, dJ, wI⟩ := Kd.S_slice cO.out; subst wI; obtain ⟨cC, cD, wJ⟩ := Kd.R_slice bP.out; subst wJ) | ((with_reducible refine gate_store (t := 30) (p := 8) rfl ?_); refine store_event (t := 30) (p := 8) (v := ?vo_w34) (w1 := ((((zS.setCell ⟨bM, 0, none⟩ (.int .i64 dG)).setCell ⟨bM, 1, none⟩ (.slice dI cF.length dJ)).setCell ⟨bM, 2, none⟩ (.int .i64 dH)).setCell ⟨bM, 3, none⟩ (.slice cC bL.length cD))) ?hg ?ho ?hn ?hr ?_; (case ho | hg | hn => rfl); (case hr => exact u8_6); intro sL hw; replace cA : Aside0 (Kd.S k38 38 sL w.heap.size (fun k_ => some k_ ≠ (.slice dW dB.length dX : Value).ownBlock ∧ some k_ ≠ (.slice aS aI.length aT : Value).ownBlock ∧ some k_ ≠ (.slice dI cF.length dJ : Value).ownBlock ∧ some k_ ≠ (.slice cC bL.length cD : Value).ownBlock ∧ k_ ≠ aH) (.slice mU eJ.length mV) eJ) := ⟨(by rw [hw]; exact (by (with_reducible repeat (first | apply Kd.S_alloc | apply Kd.S_drewN | apply Kd.S_drew)); exact Kd.S_mono (Kd.S_far (p := ⟨bM, 3, none⟩) (Kd.S_far (p := ⟨bM, 2, none⟩) (Kd.S_far (p := ⟨bM, 1, none⟩) (Kd.S_far (p := ⟨bM, 0, none⟩) (Kd.S_types cA.out aG.out (by decide)) (fun _ hk => hk.2) (.int .i64 dG)) (fun _ hk => hk.2) (.slice dI cF.length dJ)) (fun _ hk => hk.2) (.int .i64 dH)) (fun _ hk => hk.2) (.slice cC bL.length cD)) (fun _ hk => ⟨hk.1.1.1.1, ⟨hk.1.1.1.2.1, ⟨hk.1.1.2, ⟨hk.1.2, hk.1.1.1.2.2⟩⟩⟩⟩)))⟩; replace bA : Aside0 (Kd.R (Kd.int .i64) 3 sL w.heap.size (fun k_ => some k_ ≠ (.slice aS aI.length aT : Value).ownBlock ∧ some k_ ≠ (.slice cC bL.length cD : Value).ownBlock) (.slice dW dB.length dX) dB) := xwm hw bA (fun _ hk => ⟨hk.1, hk.2⟩); replace aX : Aside0 (Kd.R (Kd.int .i64) 3 sL w.heap.size (fun k_ => some k_ ≠ (.slice dW dB.length dX : Value).ownBlock ∧ some k_ ≠ (.slice cC bL.length cD : Value).ownBlock) (.slice aS aI.length aT) aI) := xwm hw aX (fun _ hk => ⟨hk.1, hk.2⟩); replace cO : Aside0 (Kd.S k38 38 sL w.heap.size (fun k_ => some k_ ≠ (.slice mU eJ.length mV : Value).ownBlock ∧ some k_ ≠ (.slice dW dB.length dX : Value).ownBlock ∧ some k_ ≠ (.slice aS aI.length aT : Value).ownBlock ∧ some k_ ≠ (.slice cC bL.length cD : Value).ownBlock ∧ k_ ≠ aH) (.slice dI cF.length dJ) cF) := ⟨(by rw [hw]; exact (by (with_reducible repeat (first | apply Kd.S_alloc | apply Kd.S_drewN | apply Kd.S_drew)); exact Kd.S_mono (Kd.S_far (p := ⟨bM, 3, none⟩) (Kd.S_far (p := ⟨bM, 2, none⟩) (Kd.S_far (p := ⟨bM, 1, none⟩) (Kd.S_far (p := ⟨bM, 0, none⟩) (Kd.S_types cO.out aG.out (by decide)) (fun _ hk => hk.2) (.int .i64 dG)) (fun _ hk => hk.2) (.slice dI cF.length dJ)) (fun _ hk => hk.2) (.int .i64 dH)) (fun _ hk => hk.2) (.slice cC bL.length cD)) (fun _ hk => ⟨hk.1.1.1.1.2, ⟨hk.1.1.1.2, ⟨hk.1.1.2, ⟨hk.1.1.1.1.1, hk.1.2⟩⟩⟩⟩)))⟩; replace bP : Aside0 (Kd.R (Kd.int .i64) 3 sL w.heap.size (fun k_ => some k_ ≠ (.slice dW dB.length dX : Value).ownBlock ∧ some k_ ≠ (.slice aS aI.length aT : Value).ownBlock) (.slice cC bL.length cD) bL) := xwm hw bP (fun _ hk => ⟨hk.1.2, hk.2⟩); replace aD := xwc hw aD; replace aC := xwc hw aC; replace aG : Aside0 (sL.heap[bM]? = some (.cells #[.int .i64 dG, .slice dI cF.length dJ, .int .i64 dH, .slice cC bL.length cD] 30 (0, 0))) := xwp hw; replace HB := xbw hw HB; clear hw; obtain ⟨gN, gO, gP, gQ, gR, gS, gT, gU⟩ := xf4 (w := sL) aG) | ((with_reducible refine gC 15 rfl ?_); refine goesLY (some 33) rfl Try.func15 #[.agg #[.int .i64 dG, .slice dI cF.length dJ, .int .i64 dH, .slice cC bL.length cD], .int .i64 a1] ?_; (with_reducible refine (impl_RollFind.calls k dG _ _ cF dH _ _ bL a1 bH bI bJ aK bK rN _ ?side1 ?side2 ?side3 ?side4 DM.out).mono ?_); (case side1 => repeat (first | exact (Kd.S_reads' cO.out).2.2 | (with_reducible refine Kd.C_alloc ?_ _) | (with_reducible refine Kd.C_drewN ?_ _) | (with_reducible refine Kd.C_drew ?_))); (case side2 => exact (Kd.S_reads' cO.out).2.1); (case side3 => exact xC bP); (case side4 => exact (Kd.R_reads' bP.out).2.1); rintro e FN ⟨v283, rfl, dE, hb⟩; refine ⟨_, rfl, ?_⟩; replace cA := aM (Kd.S_elder' u8_0 (Kd.R_base dE) hb); replace cO := aM (Kd.S_elder' u8_4 (Kd.R_base dE) hb); have cP := aM (Kd.R_lower (Kd.R_new' (Kd.R_new' (Kd.R_new' dE (Kd.R_lt (xr bA))) (Kd.R_lt (xr aX))) (Kd.R_lt (xr bP))) (below_size xbg)); replace bA := aM (Kd.R_elder' (xr bA) (Kd.R_base dE) hb); replace aX := aM (Kd.R_elder' (xr aX) (Kd.R_base dE) hb); replace bP := aM (Kd.R_elder' (xr bP) (Kd.R_base dE) hb); replace aD := xbb aD hb; replace aC := xbb aC hb; replace aG := xbb aG hb; replace HB := xbs hb; (try clear hb dE)) | ((with_reducible refine gD 9 rfl ?_); refine boxE (N := 9) rfl (cs := #[.int .i64 0, .int .i64 0, .string (⟨#[]⟩ : ByteArray), .slice none 0 0, .int .i64 0]) (t := 38) ?_; intro aW hg zZ hbox hb; replace cA := aM (Kd.S_below (Kd.S_elderB u8_0 aW (Nat.le_of_eq hg.symm)) hb); replace bA := xrb bA hb; replace aX := xrb aX hb; replace cO := aM (Kd.S_below (Kd.S_elderB u8_4 aW (Nat.le_of_eq hg.symm)) hb); replace bP := xrb bP hb; replace cP := xrb cP hb; have AA := aM (xge hg); have AB := aM (xge hg); replace HB := xbs hb; have bC := nblt aD hg; have bE := nbgt aD hg; have aU := nblt aC hg; have aV := nbgt aC hg; have cJ := nblt aG hg; have cK := nbgt aG hg; replace aD := xbb aD hb; replace aC := xbb aC hb; replace aG := xbb aG hb; have aE := aM (hbox); clear hb hbox hg; have AC := bE.out; have AD := bC.out; have AE := aV.out; have AF := aU.out; have AG := cK.out; have AH := cJ.out; obtain ⟨gV, gW, gX, gY, gZ, hJ, hU, hX, hZ, iA⟩ := xf5 (w := zZ) aE; obtain ⟨aQ, aR, wK⟩ := Kd.R_slice cP.out; subst wK) | ((with_reducible refine gate_store (t := 38) (p := 9) rfl ?_); refine store_event (t := 38) (p := 9) (v := ?vo_w43) (w1 := (((((zZ.setCell ⟨aW, 0, none⟩ (.int .i64 bH)).setCell ⟨aW, 1, none⟩ (.int .i64 bI)).setCell ⟨aW, 2, none⟩ (.string bJ)).setCell ⟨aW, 3, none⟩ (.slice aQ aK.length aR)).setCell ⟨aW, 4, none⟩ (.int .i64 bK))) ?hg ?ho ?hn ?hr ?_; (case ho | hg | hn => rfl); (case hr => exact u8_6); intro iB hw; replace cA : Aside0 (Kd.S k38 38 iB w.heap.size (fun k_ => some k_ ≠ (.slice dW dB.length dX : Value).ownBlock ∧ some k_ ≠ (.slice aS aI.length aT : Value).ownBlock ∧ some k_ ≠ (.slice dI cF.length dJ : Value).ownBlock ∧ some k_ ≠ (.slice cC bL.length cD : Value).ownBlock ∧ some k_ ≠ (.slice aQ aK.length aR : Value).ownBlock ∧ k_ ≠ aH ∧ k_ ≠ aW) (.slice mU eJ.length mV) eJ) := ⟨(by rw [hw]; exact (by (with_reducible repeat (first | apply Kd.S_alloc | apply Kd.S_drewN | apply Kd.S_drew)); exact Kd.S_mono (Kd.S_far (p := ⟨aW, 4, none⟩) (Kd.S_far (p := ⟨aW, 3, none⟩) (Kd.S_far (p := ⟨aW, 2, none⟩) (Kd.S_far (p := ⟨aW, 1, none⟩) (Kd.S_far (p := ⟨aW, 0, none⟩) (Kd.S_mono cA.out (fun k_ hk => (⟨hk, hk.2⟩ : _ ∧ k_ ≠ aW))) (fun _ hk => hk.2) (.int .i64 bH)) (fun _ hk => hk.2) (.int .i64 bI)) (fun _ hk => hk.2) (.string bJ)) (fun _ hk => hk.2) (.slice aQ aK.length aR)) (fun _ hk => hk.2) (.int .i64 bK)) (fun _ hk => ⟨hk.1.1.1.1, ⟨hk.1.1.1.2.1, ⟨hk.1.1.1.2.2.1, ⟨hk.1.1.1.2.2.2.1, ⟨hk.1.1.2, ⟨hk.1.1.1.2.2.2.2, hk.1.2⟩⟩⟩⟩⟩⟩)))⟩; replace bA : Aside0 (Kd.R (Kd.int .i64) 3 iB w.heap.size (fun k_ => some k_ ≠ (.slice aS aI.length aT : Value).ownBlock ∧ some k_ ≠ (.slice cC bL.length cD : Value).ownBlock ∧ some k_ ≠ (.slice aQ aK.length aR : Value).ownBlock) (.slice dW dB.length dX) dB) := xwm hw bA (fun _ hk => ⟨hk.1.1, ⟨hk.1.2, hk.2⟩⟩); replace aX : Aside0 (Kd.R (Kd.int .i64) 3 iB w.heap.size (fun k_ => some k_ ≠ (.slice dW dB.length dX : Value).ownBlock ∧ some k_ ≠ (.slice cC bL.length cD : Value).ownBlock ∧ some k_ ≠ (.slice aQ aK.length aR : Value).ownBlock) (.slice aS aI.length aT) aI) := xwm hw aX (fun _ hk => ⟨hk.1.1, ⟨hk.1.2, hk.2⟩⟩); replace cO : Aside0 (Kd.S k38 38 iB w.heap.size (fun k_ => some k_ ≠ (.slice mU eJ.length mV : Value).ownBlock ∧ some k_ ≠ (.slice dW dB.length dX : Value).ownBlock ∧ some k_ ≠ (.slice aS aI.length aT : Value).ownBlock ∧ some k_ ≠ (.slice cC bL.length cD : Value).ownBlock ∧ some k_ ≠ (.slice aQ aK.length aR : Value).ownBlock ∧ k_ ≠ aH ∧ k_ ≠ aW) (.slice dI cF.length dJ) cF) := ⟨(by rw [hw]; exact (by (with_reducible repeat (first | apply Kd.S_alloc | apply Kd.S_drewN | apply Kd.S_drew)); exact Kd.S_mono (Kd.S_far (p := ⟨aW, 4, none⟩) (Kd.S_far (p := ⟨aW, 3, none⟩) (Kd.S_far (p := ⟨aW, 2, none⟩) (Kd.S_far (p := ⟨aW, 1, none⟩) (Kd.S_far (p := ⟨aW, 0, none⟩) (Kd.S_mono cO.out (fun k_ hk => (⟨hk, hk.2⟩ : _ ∧ k_ ≠ aW))) (fun _ hk => hk.2) (.int .i64 bH)) (fun _ hk => hk.2) (.int .i64 bI)) (fun _ hk => hk.2) (.string bJ)) (fun _ hk => hk.2) (.slice aQ aK.length aR)) (fun _ hk => hk.2) (.int .i64 bK)) (fun _ hk => ⟨hk.1.1.1.1, ⟨hk.1.1.1.2.1, ⟨hk.1.1.1.2.2.1, ⟨hk.1.1.1.2.2.2.1, ⟨hk.1.1.2, ⟨hk.1.1.1.2.2.2.2, hk.1.2⟩⟩⟩⟩⟩⟩)))⟩; replace bP : Aside0 (Kd.R (Kd.int .i64) 3 iB w.heap.size (fun k_ => some k_ ≠ (.slice dW dB.length dX : Value).ownBlock ∧ some k_ ≠ (.slice aS aI.length aT : Value).ownBlock ∧ some k_ ≠ (.slice aQ aK.length aR : Value).ownBlock) (.slice cC bL.length cD) bL) := xwm hw bP (fun _ hk => ⟨hk.1.1, ⟨hk.1.2, hk.2⟩⟩); replace cP : Aside0 (Kd.R (Kd.int .i64) 3 iB w.heap.size (fun k_ => some k_ ≠ (.slice dW dB.length dX : Value).ownBlock ∧ some k_ ≠ (.slice aS aI.length aT : Value).ownBlock ∧ some k_ ≠ (.slice cC bL.length cD : Value).ownBlock) (.slice aQ aK.length aR) aK) := xwm hw cP (fun _ hk => ⟨hk.1.1.2, ⟨hk.1.2, hk.2⟩⟩); replace aD := xwc hw aD; replace aC := xwc hw aC; replace aG := xwc hw aG; replace aE : Aside0 (iB.heap[aW]? = some (.cells #[.int .i64 bH, .int .i64 bI, .string bJ, .slice aQ aK.length aR, .int .i64 bK] 38 (0, 0))) := xwp hw; replace HB := xbw hw HB; clear hw))
  (try simp only [Act.put, List.setIfInBounds_toArray, List.set_cons_zero, List.set_cons_succ]); go_cut [44] (fun v44 wc => ∃ (kq : Nat) (iC : Bool), v44 = .bool iC ∧ Aside0 (laws_FnExactRollFind.j0 kq a1 mT rN iC aY aO aZ aP bW bX bY aI bZ dG cF dH bL bH bI bJ aK bK = some r) ∧ Aside0 (kq ≤ k) ∧ Aside0 (Kd.R (Kd.int .i64) 3 wc w.heap.size (fun k_ => some k_ ≠ ((.slice cC bL.length cD) : Value).ownBlock ∧ some k_ ≠ ((.slice aQ aK.length aR) : Value).ownBlock) (.slice aS aI.length aT) aI) ∧ Aside0 (Kd.S k38 38 wc w.heap.size (fun k_ => some k_ ≠ ((.slice aS aI.length aT) : Value).ownBlock ∧ some k_ ≠ ((.slice cC bL.length cD) : Value).ownBlock ∧ some k_ ≠ ((.slice aQ aK.length aR) : Value).ownBlock ∧ k_ ≠ aH ∧ k_ ≠ aW) (.slice dI cF.length dJ) cF) ∧ Aside0 (Kd.R (Kd.int .i64) 3 wc w.heap.size (fun k_ => some k_ ≠ ((.slice aS aI.length aT) : Value).ownBlock ∧ some k_ ≠ ((.slice aQ aK.length aR) : Value).ownBlock) (.slice cC bL.length cD) bL) ∧ Aside0 (Kd.R (Kd.int .i64) 3 wc w.heap.size (fun k_ => some k_ ≠ ((.slice aS aI.length aT) : Value).ownBlock ∧ some k_ ≠ ((.slice cC bL.length cD) : Value).ownBlock) (.slice aQ aK.length aR) aK) ∧ Aside0 (wc.heap[dD]? = some (.cells #[.int .i64 aY, (.slice cX aO.length cY), .int .i64 aZ, (.slice cZ aP.length dA)] 25 (0, 0))) ∧ Aside0 (wc.heap[aH]? = some (.cells #[.int .i64 bW, .int .i64 bX, .string bY, (.slice aS aI.length aT), .int .i64 bZ] 38 (0, 0))) ∧ Aside0 (wc.heap[bM]? = some (.cells #[.int .i64 dG, (.slice dI cF.length dJ), .int .i64 dH, (.slice cC bL.length cD)] 30 (0, 0))) ∧ Aside0 (wc.heap[aW]? = some (.cells #[.int .i64 bH, .int .i64 bI, .string bJ, (.slice aQ aK.length aR), .int .i64 bK] 38 (0, 0))) ∧ Aside0 (Below w.heap.size w wc))
  case first =>
   have H := sK.out; clear sK; replace H := oB H; obtain ⟨nD, tF, H⟩ := H; (try dsimp only at H); have AJ := aM tF; clear tF
   by_cases sM : nD = true
   ·subst sM; replace H := iT H; have H' := aM H; clear H; have AK := bE.out; have AL := bC.out; have AM := aV.out; have AN := aU.out; have AO := cK.out; have AP := cJ.out; obtain ⟨iD, iE, iF, iG, iH, iI, iJ, iK, iL, iM⟩ := xf5 (w := iB) aE; have AQ := bO.out; have AR := bN.out; have AS := cH.out; have AT := cI.out; have iO : iB.cell? ⟨aH, 0, none⟩ = some (.int .i64 bW) := xc aC 0 rfl; have iP : iB.cell? ⟨aH, 1, none⟩ = some (.int .i64 bX) := xc aC 1 rfl; have iQ : iB.cell? ⟨aH, 2, none⟩ = some (.string bY) := xc aC 2 rfl; have iR : iB.cell? ⟨aH, 3, none⟩ = some (.slice aS aI.length aT) := xc aC 3 rfl; have iS : iB.cell? ⟨aH, 4, none⟩ = some (.int .i64 bZ) := xc aC 4 rfl; have iU := blk_frozen aC.out 0; have iV := blk_frozen aC.out 1; have iW := blk_frozen aC.out 2; have iX := blk_frozen aC.out 3; have iY := blk_frozen aC.out 4; go_wp2_with (first | ((with_reducible refine gC 16 rfl ?_); refine goesLY (some 38) rfl Try.func16 #[.agg #[.int .i64 bH, .int .i64 bI, .string bJ, .slice aQ aK.length aR, .int .i64 bK], .agg #[.int .i64 bW, .int .i64 bX, .string bY, .slice aS aI.length aT, .int .i64 bZ]] ?_; (with_reducible refine (laws_eqRel.calls k bH bI bJ _ _ aK bK bW bX bY _ _ aI bZ true _ ?side1 ?side2 ?side3 ?side4 AJ.out).mono ?_); (case side1 => exact xC cP); (case side2 => exact (Kd.R_reads' cP.out).2.1); (case side3 => exact xC aX); (case side4 => exact (Kd.R_reads' aX.out).2.1); rintro e FO ⟨rfl, hb⟩; refine ⟨_, rfl, ?_⟩; replace cA := aM (Kd.S_below u8_0 hb); replace bA := xrb bA hb; replace aX := xrb aX hb; replace cO := aM (Kd.S_below u8_4 hb); replace bP := xrb bP hb; replace cP := xrb cP hb; replace aD := xbb aD hb; replace aC := xbb aC hb; replace aG := xbb aG hb; replace aE := xbb aE hb; replace HB := xbs hb; (try clear hb)))
    go_meet
    case rel => exact ⟨_, ((rN != mT)), u8_1, H', ⟨by first | omega | exact Nat.le_refl _⟩, ⟨u8_16⟩, ⟨u8_17⟩, ⟨u8_18⟩, ⟨u8_19⟩, ⟨xblk⟩, ⟨xblk⟩, ⟨xblk⟩, ⟨xblk⟩, ⟨xbg⟩⟩
   ·replace sM := Bool.eq_false_iff.mpr sM; subst sM; replace H := iN H; have H' := aM H; clear H; have AU := bE.out; have AV := bC.out; have AW := aV.out; have AX := aU.out; have AY := cK.out; have AZ := cJ.out; obtain ⟨iZ, jA, jB, jC, jD, jE, jF, jG, jH, jI⟩ := xf5 (w := iB) aE; have BA := bO.out; have BB := bN.out; have BC := cH.out; have BD := cI.out; have jJ : iB.cell? ⟨aH, 0, none⟩ = some (.int .i64 bW) := xc aC 0 rfl; have jK : iB.cell? ⟨aH, 1, none⟩ = some (.int .i64 bX) := xc aC 1 rfl; have jL : iB.cell? ⟨aH, 2, none⟩ = some (.string bY) := xc aC 2 rfl; have jM : iB.cell? ⟨aH, 3, none⟩ = some (.slice aS aI.length aT) := xc aC 3 rfl; have jN : iB.cell? ⟨aH, 4, none⟩ = some (.int .i64 bZ) := xc aC 4 rfl; have jO := blk_frozen aC.out 0; have jP := blk_frozen aC.out 1; have jQ := blk_frozen aC.out 2; have jR := blk_frozen aC.out 3; have jS := blk_frozen aC.out 4; go_wp2_with (first | ((with_reducible refine gC 16 rfl ?_); refine goesLY (some 38) rfl Try.func16 #[.agg #[.int .i64 bH, .int .i64 bI, .string bJ, .slice aQ aK.length aR, .int .i64 bK], .agg #[.int .i64 bW, .int .i64 bX, .string bY, .slice aS aI.length aT, .int .i64 bZ]] ?_; (with_reducible refine (laws_eqRel.calls k bH bI bJ _ _ aK bK bW bX bY _ _ aI bZ false _ ?side1 ?side2 ?side3 ?side4 AJ.out).mono ?_); (case side1 => exact xC cP); (case side2 => exact (Kd.R_reads' cP.out).2.1); (case side3 => exact xC aX); (case side4 => exact (Kd.R_reads' aX.out).2.1); rintro e FP ⟨rfl, hb⟩; refine ⟨_, rfl, ?_⟩; replace cA := aM (Kd.S_below u8_0 hb); replace bA := xrb bA hb; replace aX := xrb aX hb; replace cO := aM (Kd.S_below u8_4 hb); replace bP := xrb bP hb; replace cP := xrb cP hb; replace aD := xbb aD hb; replace aC := xbb aC hb; replace aG := xbb aG hb; replace aE := xbb aE hb; replace HB := xbs hb; (try clear hb)))
    go_meet
    case rel => exact ⟨_, (true), u8_1, H', ⟨by first | omega | exact Nat.le_refl _⟩, ⟨u8_16⟩, ⟨u8_17⟩, ⟨u8_18⟩, ⟨u8_19⟩, ⟨xblk⟩, ⟨xblk⟩, ⟨xblk⟩, ⟨xblk⟩, ⟨xbg⟩⟩
  case rest =>
   clear sK; try clear c1
   try clear c2
   try clear p2
   try clear c3
   try clear c4
   try clear rM
   try clear c5
   try clear c7
   try clear BE
   try clear BF
   try clear BG
   try clear BH
   try clear BI
   try clear BJ
   try clear BK
   try clear BL
   try clear BM
   try clear sM
   try clear BN
   try clear BO
   try clear BP
   try clear BQ
   try clear BR
   try clear BS
   try clear BT
   try clear BU
   try clear BV
   try clear BW
   try clear eV eW eX eY
   try clear fD fE fF fG
   try clear fL fM fN fO fP
   try clear fV fW fX fY
   try clear gF gG gH gI
   try clear gN gO gP gQ
   try clear gV gW gX gY gZ
   try clear iD iE iF iG iH
   try clear iO iP iQ iR iS
   try clear iZ jA jB jC jD
   try clear jJ jK jL jM jN
   try clear kB kC kE kF
   try clear eZ fA fB fC
   try clear fH fI fJ fK
   try clear fQ fR fS fT fU
   try clear fZ gA gB gE
   try clear gJ gK gL gM
   try clear gR gS gT gU
   try clear hJ hU hX hZ iA
   try clear iI iJ iK iL iM
   try clear iU iV iW iX iY
   try clear jE jF jG jH jI
   try clear jO jP jQ jR jS
   try clear kG kH kI kJ
   obtain ⟨kq, iC, rfl, HA, HJ11, aB, aJ, aF, aA, aD, aC, aG, aE, HB⟩ := hcut; cases kq with
   | zero => exact absurd HA.out (by simp [laws_FnExactRollFind.j0])
   | succ jZ =>
    have H := HA.out; clear HA; simp only [laws_FnExactRollFind.j0] at H; by_cases sX : iC = true
    ·subst sX; replace H := iT H; obtain rfl := Option.some.inj H; go_wp2; go_ret
     exact ⟨xerr, xbg⟩
    ·replace sX := Bool.eq_false_iff.mpr sX; subst sX; replace H := iN H; replace H := oB H; obtain ⟨⟨mW, mX, mY, kA⟩, tG, H⟩ := H; (try dsimp only at H); have BX := aM tG; clear tG; replace H := oB H
     obtain ⟨rY, tH, H⟩ := H; (try dsimp only at H); have BZ := aM tH; clear tH
     by_cases sY : rY = true
     ·subst sY; replace H := iT H; replace H := oB H; obtain ⟨mS, tI, H⟩ := H; (try dsimp only at H); have DP := aM tI; clear tI; have sN := aM H; clear H
      try go_wp2
      replace aB := rD aB; replace aJ := aM (Kd.S_drew aJ.out); replace aF := rD aF; replace aA := rD aA; replace aD := bD aD; replace aC := bD aC; replace aG := bD aG; replace aE := bD aE; replace HB := lD HB; refine start_ (n := 5) (S := fun w' => w'.cell? ⟨bM, 0, none⟩ = some (.int .i64 dG) ∧ w'.cell? ⟨bM, 1, none⟩ = some (.slice dI cF.length dJ) ∧ w'.cell? ⟨bM, 2, none⟩ = some (.int .i64 dH) ∧ w'.cell? ⟨bM, 3, none⟩ = some (.slice cC bL.length cD) ∧ w'.cell? ⟨dD, 0, none⟩ = some (.int .i64 aY) ∧ w'.cell? ⟨dD, 1, none⟩ = some (.slice cX aO.length cY) ∧ w'.cell? ⟨dD, 2, none⟩ = some (.int .i64 aZ) ∧ w'.cell? ⟨dD, 3, none⟩ = some (.slice cZ aP.length dA)) (ds := []) #[false, false, false, false, false] (by kernel_rfl) rfl rfl ⟨xc aG 0 rfl, xc aG 1 rfl, xc aG 2 rfl, xc aG 3 rfl, xc aD 0 rfl, xc aD 1 rfl, xc aD 2 rfl, xc aD 3 rfl⟩ (fun hHeld => ?_); generalize wc.drew = FQ at aB aJ aF aA aD aC aG aE HB hHeld ⊢; refine take_ (i := 0) (N := some 45) (v := ?_) (a' := ?_) #[true, false, false, false, false] rfl rfl (by kernel_rfl) (fun _ _ _ h => h) (Or.inl ⟨by rfl, ?_⟩) hHeld ?_ ?_; rotate_left
      ·rintro w' ⟨s0, s1, s2, s3, s4, s5, s6, s7⟩; go_simp
       with_reducible rfl
      rotate_left
      ·simp only [Act.put, List.setIfInBounds_toArray, List.set_cons_zero, List.set_cons_succ, i64_w, i32_w]; rfl
      refine take_ (i := 1) (N := some 46) (v := ?_) (a' := ?_) #[true, true, false, false, false] rfl rfl (by kernel_rfl) (fun _ _ _ h => h) (Or.inl ⟨by rfl, ?_⟩) hHeld ?_ ?_; rotate_left
      ·rintro w' ⟨s0, s1, s2, s3, s4, s5, s6, s7⟩; go_simp
       with_reducible rfl
      rotate_left
      ·simp only [Act.put, List.setIfInBounds_toArray, List.set_cons_zero, List.set_cons_succ, i64_w, i32_w]; rfl
      refine one_ (i := 2) (N := some 47) #[true, true, true, false, false] rfl rfl (by kernel_rfl) (by decide) (fun K hK => ?_); refine goesY Try.func7 #[.agg #[.int .i64 aY, .slice cX aO.length cY, .int .i64 aZ, .slice cZ aP.length dA]] ?_; with_reducible refine (laws_toRoll.calls jZ aY _ _ aO aZ _ _ aP mW mX mY kA _ ?side1 ?side2 ?side3 ?side4 BX.out).mono ?_
      (case side1 => exact xcb eF); (case side2 => exact eG.out); (case side3 => exact xcb eH); (case side4 => exact eI.out); rintro e FR ⟨v291, v295, rfl, dE, dZ, hb⟩; refine ⟨_, rfl, ?_⟩; have dV := aM (Kd.S_lower (Kd.S_newB (Kd.S_newB (Kd.S_new' (Kd.S_new' (Kd.S_new' (Kd.S_new' dE (Kd.R_lt (xr aB))) (Kd.S_lt u8_2)) (Kd.R_lt (xr aF))) (Kd.R_lt (xr aA))) (g := aH) (o := .cells #[.int .i64 bW, .int .i64 bX, .string bY, .slice aS aI.length aT, .int .i64 bZ] 38 (0, 0)) xblk) (g := aW) (o := .cells #[.int .i64 bH, .int .i64 bI, .string bJ, .slice aQ aK.length aR, .int .i64 bK] 38 (0, 0)) xblk) (below_size xbg)); replace aJ := aM (Kd.S_mono (Kd.S_told (Kd.S_told (Kd.S_old u8_2 hb) (Kd.S_base dE)) (Kd.R_base dZ)) (fun _ h_ => h_.1)); have cB := aM (Kd.R_lower (Kd.R_new' (Kd.R_new' (Kd.R_new' dZ (Kd.R_lt (xr aB))) (Kd.R_lt (xr aF))) (Kd.R_lt (xr aA))) (below_size xbg)); replace aB := aM (Kd.R_elder' (xr aB) (Kd.R_base dZ) hb); replace aF := aM (Kd.R_elder' (xr aF) (Kd.R_base dZ) hb); replace aA := aM (Kd.R_elder' (xr aA) (Kd.R_base dZ) hb); replace aD := xbb aD hb; replace aC := xbb aC hb; replace aG := xbb aG hb; replace aE := xbb aE hb; replace HB := xbs hb; (try clear hb dE dZ); obtain ⟨wL, wM, tJ⟩ := Kd.S_slice dV.out; (first | subst tJ | (injection tJ with f1_ f2_ f3_; have f4_ := f1_.symm; have f5_ := f3_.symm; clear f1_ f2_ f3_; subst f4_; subst f5_)); obtain ⟨sO, sP, tL⟩ := Kd.R_slice cB.out; (first | subst tL | (injection tL with f1_ f2_ f3_; have f4_ := f1_.symm; have f5_ := f3_.symm; clear f1_ f2_ f3_; subst f4_; subst f5_)); refine hK.out _ _ ⟨xc aG 0 rfl, xc aG 1 rfl, xc aG 2 rfl, xc aG 3 rfl, xc aD 0 rfl, xc aD 1 rfl, xc aD 2 rfl, xc aD 3 rfl⟩ (fun hHeld => ?_); clear hK K; refine nm_ (N := 47) ?_; refine one_ (i := 3) (N := some 48) #[true, true, true, true, false] rfl rfl (by kernel_rfl) (by decide) (fun K hK => ?_); refine goesY Try.func10 #[.agg #[.int .i64 dG, .slice dI cF.length dJ, .int .i64 dH, .slice cC bL.length cD], .agg #[.int .i64 mW, .slice wL mX.length wM, .int .i64 mY, .slice sO kA.length sP]] ?_; with_reducible refine (laws_eqRoll.calls jZ dG _ _ cF dH _ _ bL mW _ _ mX mY _ _ kA true _ ?side1 ?side2 ?side3 ?side4 ?side5 ?side6 ?side7 ?side8 BZ.out).mono ?_
      (case side1 => repeat (first | exact (Kd.S_reads' aJ.out).2.2 | (with_reducible refine Kd.C_alloc ?_ _) | (with_reducible refine Kd.C_drewN ?_ _) | (with_reducible refine Kd.C_drew ?_))); (case side2 => exact (Kd.S_reads' aJ.out).2.1); (case side3 => exact xC aF); (case side4 => exact (Kd.R_reads' aF.out).2.1); (case side5 => repeat (first | exact (Kd.S_reads' dV.out).2.2 | (with_reducible refine Kd.C_alloc ?_ _) | (with_reducible refine Kd.C_drewN ?_ _) | (with_reducible refine Kd.C_drew ?_))); (case side6 => exact (Kd.S_reads' dV.out).2.1); (case side7 => exact xC cB); (case side8 => exact (Kd.R_reads' cB.out).2.1); rintro e DQ ⟨rfl, hb⟩; refine ⟨_, rfl, ?_⟩; replace aB := xrb aB hb; replace aJ := aM (Kd.S_below u8_2 hb); replace aF := xrb aF hb; replace aA := xrb aA hb; replace dV := aM (Kd.S_below (by (with_reducible repeat (first | apply Kd.S_alloc | apply Kd.S_drewN | apply Kd.S_drew)); exact dV.out) hb); replace cB := xrb cB hb; replace aD := xbb aD hb; replace aC := xbb aC hb; replace aG := xbb aG hb; replace aE := xbb aE hb; replace HB := xbs hb; (try clear hb); refine hK.out _ _ ⟨xc aG 0 rfl, xc aG 1 rfl, xc aG 2 rfl, xc aG 3 rfl, xc aD 0 rfl, xc aD 1 rfl, xc aD 2 rfl, xc aD 3 rfl⟩ (fun hHeld => ?_); clear hK K; refine nm_ (N := 48) ?_; refine pure_ (i := 4) (N := some 49) (v := ?_) (a' := ?_) #[true, true, true, true, true] rfl rfl (by kernel_rfl) (fun _ _ _ h => h) (Or.inl ⟨by rfl, ?_⟩) ?_ ?_; rotate_left
      ·intro w'; go_simp
       with_reducible rfl
      rotate_left
      ·simp only [Act.put, List.setIfInBounds_toArray, List.set_cons_zero, List.set_cons_succ, i64_w, i32_w]; rfl
      refine done_ (by kernel_rfl) ?_; have CA := eR.out; have CB := eQ.out; have CC := cI.out; have CD := cH.out; have CE := cJ.out; have CF := cK.out; obtain ⟨kV, kW, kX, kY, kZ, lA, lB, lC⟩ := xf4 (w := DQ) aG; go_upto_region 14 with (first | ((with_reducible refine gC 11 rfl ?_); refine goesLY (some 52) rfl Try.func11 #[.agg #[.int .i64 dG, .slice dI cF.length dJ, .int .i64 dH, .slice cC bL.length cD], .int .i64 1] ?_; (with_reducible refine (laws_markRoll.calls jZ dG _ (.slice dI cF.length dJ) cF dH _ (.slice cC bL.length cD) bL 1 mS w _ ?side1 (Kd.R_types (Kd.R_types (Kd.S_R aJ.out) aD.out (by decide)) aG.out (by decide)) (Kd.R_tight rfl aF.out) DP.out).mono ?_); (case side1 => exact xbg); rintro e nC ⟨rfl, hb, hkp⟩; refine ⟨_, rfl, ?_⟩; have n0_ := aM (Kd.R_mono (ok' := fun k_ => some k_ ≠ (.slice aQ aK.length aR : Value).ownBlock ∧ some k_ ≠ (.slice sO kA.length sP : Value).ownBlock) (Kd.R_kept (Kd.R_tight2 rfl aB.out) hkp (fun k_ hk_ hs_ => Or.elim hs_ (fun e_ => u8_9) (fun e_ => u8_10))) (fun k_ hk_ => ⟨u8_3, u8_3⟩)); have n1_ := aM (Kd.R_mono (ok' := fun k_ => some k_ ≠ (.slice aS aI.length aT : Value).ownBlock ∧ some k_ ≠ (.slice sO kA.length sP : Value).ownBlock) (Kd.R_kept (Kd.R_tight2 rfl aA.out) hkp (fun k_ hk_ hs_ => Or.elim hs_ (fun e_ => u8_9) (fun e_ => u8_10))) (fun k_ hk_ => ⟨u8_3, u8_3⟩)); have n2_ := aM (blk_kept xblk hkp (fun hs_ => Or.elim hs_ (fun e_ => by simp at e_) (fun e_ => (Kd.R_ne aF.out aD.out (by decide)) e_))); have n3_ := aM (blk_kept xblk hkp (fun hs_ => Or.elim hs_ (fun e_ => by simp at e_) (fun e_ => (Kd.R_ne aF.out aC.out (by decide)) e_))); have n4_ := aM (blk_kept xblk hkp (fun hs_ => Or.elim hs_ (fun e_ => by simp at e_) (fun e_ => (Kd.R_ne aF.out aG.out (by decide)) e_))); have n5_ := aM (blk_kept xblk hkp (fun hs_ => Or.elim hs_ (fun e_ => by simp at e_) (fun e_ => (Kd.R_ne aF.out aE.out (by decide)) e_))); have n7_ := aM (Kd.R_mono (ok' := fun k_ => some k_ ≠ (.slice aS aI.length aT : Value).ownBlock ∧ some k_ ≠ (.slice aQ aK.length aR : Value).ownBlock) (Kd.R_kept (Kd.R_tight2 rfl cB.out) hkp (fun k_ hk_ hs_ => Or.elim hs_ (fun e_ => u8_9) (fun e_ => u8_10))) (fun k_ hk_ => ⟨u8_3, u8_3⟩)); have n8_ := aM (hb); clear aB; clear aA; clear aD; clear aC; clear aG; clear aE; clear dV; clear cB; clear HB; clear aJ; clear aF; have aB := n0_; have aA := n1_; have aD := n2_; have aC := n3_; have aG := n4_; have aE := n5_; have cB := n7_; have HB := n8_; clear n0_ n1_ n2_ n3_ n4_ n5_ n7_ n8_; (try clear hb); (try clear hkp)))
      (try simp only [Act.put, List.setIfInBounds_toArray, List.set_cons_zero, List.set_cons_succ]); go_cut [65] (fun v65 wc => ∃ (kq : Nat) (jT : Bool), v65 = .bool jT ∧ Aside0 (laws_FnExactRollFind.j1 kq a1 mT jT aY aO aZ aP bW bX bY aI bZ bH bI bJ aK bK = some r) ∧ Aside0 (kq ≤ jZ) ∧ Aside0 (Kd.R (Kd.int .i64) 3 wc w.heap.size (fun k_ => some k_ ≠ ((.slice aQ aK.length aR) : Value).ownBlock) (.slice aS aI.length aT) aI) ∧ Aside0 (Kd.R (Kd.int .i64) 3 wc w.heap.size (fun k_ => some k_ ≠ ((.slice aS aI.length aT) : Value).ownBlock) (.slice aQ aK.length aR) aK) ∧ Aside0 (wc.heap[dD]? = some (.cells #[.int .i64 aY, (.slice cX aO.length cY), .int .i64 aZ, (.slice cZ aP.length dA)] 25 (0, 0))) ∧ Aside0 (wc.heap[aH]? = some (.cells #[.int .i64 bW, .int .i64 bX, .string bY, (.slice aS aI.length aT), .int .i64 bZ] 38 (0, 0))) ∧ Aside0 (wc.heap[aW]? = some (.cells #[.int .i64 bH, .int .i64 bI, .string bJ, (.slice aQ aK.length aR), .int .i64 bK] 38 (0, 0))) ∧ Aside0 (Below w.heap.size w wc))
      case first =>
       have H := sN.out; clear sN; by_cases rP : mS < 0
       ·rw [if_pos rP] at H; have eK : decide (mS < 0) = true := decide_eq_true rP; clear rP; (first | rw [eK] | (simp only [i64_w, i32_w]; rw [eK]) | skip); have H' := aM H; clear H; go_wp2; go_meet
        case rel => exact ⟨_, (true), u8_1, H', ⟨u8_11⟩, ⟨u8_12⟩, ⟨u8_13⟩, ⟨xblk⟩, ⟨xblk⟩, ⟨xblk⟩, ⟨xbg⟩⟩
       ·rw [if_neg rP] at H; have eK : decide (mS < 0) = false := decide_eq_false rP; clear rP; (first | rw [eK] | (simp only [i64_w, i32_w]; rw [eK]) | skip); replace H := oB H; obtain ⟨rZ, tM, H⟩ := H; (try dsimp only at H); have CG := aM tM; clear tM
        by_cases sZ : rZ = true
        ·subst sZ; replace H := iT H; have H' := aM H; clear H; have CH := bE.out; have CI := bC.out; have CJ := aV.out; have CK := aU.out; have CL := cK.out; have CM := cJ.out; obtain ⟨lE, lF, lG, lH, lI, lJ, lK, lL, lM, lN⟩ := xf5 (w := nC) aE; have CN := bO.out; have CO := bN.out; have CP := cH.out; have CQ := cI.out; have lO : nC.cell? ⟨aH, 0, none⟩ = some (.int .i64 bW) := xc aC 0 rfl; have lP : nC.cell? ⟨aH, 1, none⟩ = some (.int .i64 bX) := xc aC 1 rfl; have lQ : nC.cell? ⟨aH, 2, none⟩ = some (.string bY) := xc aC 2 rfl; have lR : nC.cell? ⟨aH, 3, none⟩ = some (.slice aS aI.length aT) := xc aC 3 rfl; have lS : nC.cell? ⟨aH, 4, none⟩ = some (.int .i64 bZ) := xc aC 4 rfl; have lT := blk_frozen aC.out 0; have lU := blk_frozen aC.out 1; have lV := blk_frozen aC.out 2; have lW := blk_frozen aC.out 3; have lX := blk_frozen aC.out 4; go_wp2_with (first | (go_at_call 16; (with_reducible refine (laws_eqRel.calls jZ bH bI bJ _ _ aK bK bW bX bY _ _ aI bZ true _ ?side1 ?side2 ?side3 ?side4 CG.out).mono ?_); (case side1 => exact xC aA); (case side2 => exact u8_5); (case side3 => exact xC aB); (case side4 => exact u8_7); rintro e FS ⟨rfl, hb⟩; replace aB := xrb aB hb; replace aA := xrb aA hb; replace cB := xrb cB hb; replace aD := xbb aD hb; replace aC := xbb aC hb; replace aG := xbb aG hb; replace aE := xbb aE hb; replace HB := xbs hb; (try clear hb)))
         go_meet
         case rel => exact ⟨_, ((rN != mT)), u8_1, H', ⟨u8_11⟩, ⟨u8_12⟩, ⟨u8_13⟩, ⟨xblk⟩, ⟨xblk⟩, ⟨xblk⟩, ⟨xbg⟩⟩
        ·replace sZ := Bool.eq_false_iff.mpr sZ; subst sZ; replace H := iN H; have H' := aM H; clear H; have CR := bE.out; have CS := bC.out; have CT := aV.out; have CU := aU.out; have CV := cK.out; have CW := cJ.out; obtain ⟨lY, lZ, mA, mB, mC, mD, mE, mF, mG, mH⟩ := xf5 (w := nC) aE; have CX := bO.out; have CY := bN.out; have CZ := cH.out; have DA := cI.out; have mI : nC.cell? ⟨aH, 0, none⟩ = some (.int .i64 bW) := xc aC 0 rfl; have mJ : nC.cell? ⟨aH, 1, none⟩ = some (.int .i64 bX) := xc aC 1 rfl; have mK : nC.cell? ⟨aH, 2, none⟩ = some (.string bY) := xc aC 2 rfl; have mL : nC.cell? ⟨aH, 3, none⟩ = some (.slice aS aI.length aT) := xc aC 3 rfl; have mM : nC.cell? ⟨aH, 4, none⟩ = some (.int .i64 bZ) := xc aC 4 rfl; have mN := blk_frozen aC.out 0; have mO := blk_frozen aC.out 1; have mP := blk_frozen aC.out 2; have mQ := blk_frozen aC.out 3; have mR := blk_frozen aC.out 4; go_wp2_with (first | (go_at_call 16; (with_reducible refine (laws_eqRel.calls jZ bH bI bJ _ _ aK bK bW bX bY _ _ aI bZ false _ ?side1 ?side2 ?side3 ?side4 CG.out).mono ?_); (case side1 => exact xC aA); (case side2 => exact u8_5); (case side3 => exact xC aB); (case side4 => exact u8_7); rintro e FT ⟨rfl, hb⟩; replace aB := xrb aB hb; replace aA := xrb aA hb; replace cB := xrb cB hb; replace aD := xbb aD hb; replace aC := xbb aC hb; replace aG := xbb aG hb; replace aE := xbb aE hb; replace HB := xbs hb; (try clear hb)))
         go_meet
         case rel => exact ⟨_, (true), u8_1, H', ⟨u8_11⟩, ⟨u8_12⟩, ⟨u8_13⟩, ⟨xblk⟩, ⟨xblk⟩, ⟨xblk⟩, ⟨xbg⟩⟩
      case rest =>
       clear sN; try clear c1
       try clear c2
       try clear p2
       try clear c3
       try clear c4
       try clear rM
       try clear c5
       try clear c6
       try clear c7
       try clear c8
       try clear c9
       try clear c10
       try clear DR
       try clear BE
       try clear BF
       try clear BG
       try clear BH
       try clear BI
       try clear BJ
       try clear BK
       try clear BL
       try clear BM
       try clear sM
       try clear BN
       try clear BO
       try clear BP
       try clear BQ
       try clear BR
       try clear BS
       try clear BT
       try clear BU
       try clear BV
       try clear BW
       try clear sX
       try clear sY
       try clear DS
       try clear DT
       try clear DU
       try clear rP
       try clear eK
       try clear sZ
       try clear DV
       try clear DW
       try clear DX
       try clear DY
       try clear DZ
       try clear EA
       try clear EB
       try clear EC
       try clear ED
       try clear EE
       try clear eV eW eX eY
       try clear fD fE fF fG
       try clear fL fM fN fO fP
       try clear fV fW fX fY
       try clear gF gG gH gI
       try clear gN gO gP gQ
       try clear gV gW gX gY gZ
       try clear iD iE iF iG iH
       try clear iO iP iQ iR iS
       try clear iZ jA jB jC jD
       try clear jJ jK jL jM jN
       try clear kB kC kE kF
       try clear kV kW kX kY
       try clear lE lF lG lH lI
       try clear lO lP lQ lR lS
       try clear lY lZ mA mB mC
       try clear mI mJ mK mL mM
       try clear eZ fA fB fC
       try clear fH fI fJ fK
       try clear fQ fR fS fT fU
       try clear fZ gA gB gE
       try clear gJ gK gL gM
       try clear gR gS gT gU
       try clear hJ hU hX hZ iA
       try clear iI iJ iK iL iM
       try clear iU iV iW iX iY
       try clear jE jF jG jH jI
       try clear jO jP jQ jR jS
       try clear kG kH kI kJ
       try clear kZ lA lB lC
       try clear lJ lK lL lM lN
       try clear lT lU lV lW lX
       try clear mD mE mF mG mH
       try clear mN mO mP mQ mR
       try clear p2
       obtain ⟨kq, jT, rfl, HA, HJ66, aB, aA, aD, aC, aE, HB⟩ := hcut; cases kq with
       | zero => exact absurd HA.out (by simp [laws_FnExactRollFind.j1])
       | succ eL =>
        have H := HA.out; clear HA; simp only [laws_FnExactRollFind.j1] at H; by_cases tN : jT = true
        ·subst tN; replace H := iT H; obtain rfl := Option.some.inj H; go_wp2; go_ret
         exact ⟨xerr, xbg⟩
        ·replace tN := Bool.eq_false_iff.mpr tN; subst tN; replace H := iN H; replace H := oB H; obtain ⟨⟨mZ, cW⟩, tO, H⟩ := H; (try dsimp only at H); have wN := aM tO; clear tO; replace H := oB H
         obtain ⟨eM, tP, H⟩ := H; (try dsimp only at H); have wO := aM tP; clear tP
         by_cases kK : eM < 0
         ·rw [if_pos kK] at H; have nE : decide (eM < 0) = true := decide_eq_true kK; clear kK; obtain rfl := Option.some.inj H; have wP := bE.out; have wQ := bC.out; have wR := aV.out; have wS := aU.out; obtain ⟨nF, nG, nH, nI, nJ, nK, nL, nM, nN, nO⟩ := xf5 (w := wc) aE; go_wp2_with (first | ((with_reducible refine gC 17 rfl ?_); refine goesLY (some 68) rfl Try.func17 #[.agg #[.int .i64 bH, .int .i64 bI, .string bJ, .slice aQ aK.length aR, .int .i64 bK], .int .i64 1] ?_; (with_reducible refine (laws_markRel.calls eL bH bI bJ (fun k_ => some k_ = (.slice aQ aK.length aR : Value).ownBlock) (.slice aQ aK.length aR) aK bK 1 mZ cW w _ ?side1 ?side2 wN.out).mono ?_); (case side1 => exact xbg); (case side2 => exact Kd.R_tight rfl aA.out); rintro e wT ⟨rfl, hY, hb, hkp⟩; refine ⟨_, rfl, ?_⟩; have n0_ := aM (Kd.R_mono (ok' := fun k_ => some k_ ≠ (.slice aQ aK.length aR : Value).ownBlock) (Kd.R_keptB (aB.out) hkp (fun k_ hk_ hs_ => (hk_) hs_)) (fun k_ hk_ => hk_.1)); have n1_ := aM (Kd.R_reok rfl hY (fun k_ e_ => aA.out.1 k_ e_)); have n2_ := aM (blk_kept xblk hkp (fun hs_ => (fun e_ => (Kd.R_ne aA.out aD.out (by decide)) e_) hs_)); have n3_ := aM (blk_kept xblk hkp (fun hs_ => (fun e_ => (Kd.R_ne aA.out aC.out (by decide)) e_) hs_)); have n4_ := aM (blk_kept xblk hkp (fun hs_ => (fun e_ => (Kd.R_ne aA.out aE.out (by decide)) e_) hs_)); have n5_ := aM (hb); clear aB; clear aA; clear aD; clear aC; clear aE; clear HB; have aB := n0_; have aA := n1_; have aD := n2_; have aC := n3_; have aE := n4_; have HB := n5_; clear n0_ n1_ n2_ n3_ n4_ n5_; (try clear hb); (try clear hkp); (try clear hY); obtain ⟨nP, nQ, nR, nS, nT, nU, nV, nW, nX, nY⟩ := xf5 (w := wT) aE) | ((with_reducible refine gC 18 rfl ?_); refine goesL_ (some 71) rfl rfl Try.func18 (by kernel_rfl) rfl #[.agg #[.int .i64 bH, .int .i64 bI, .string bJ, .slice aQ cW.length aR, .int .i64 bK], .int .i64 1] rfl u8_14 ?_; (with_reducible refine (laws_heldRel.calls eL bH bI bJ _ _ cW bK 1 eM _ ?side1 ?side2 wO.out).mono ?_); (case side1 => exact xC aA); (case side2 => exact u8_15); rintro e EF ⟨rfl, hb⟩; refine ⟨_, rfl, ?_⟩; replace aB := xrb aB hb; replace aA := xrb aA hb; replace aD := xbb aD hb; replace aC := xbb aC hb; replace aE := xbb aE hb; replace HB := xbs hb; (try clear hb)))
          go_ret
          exact ⟨xerr, xbg⟩
         ·rw [if_neg kK] at H; have nE : decide (eM < 0) = false := decide_eq_false kK; clear kK; by_cases nA : eM = mZ
          ·rw [if_pos nA] at H; obtain ⟨nZ, oA⟩ := bT nA; clear nA; replace H := oB H; obtain ⟨⟨sQ, oC, sR, jU⟩, rQ, H⟩ := H; (try dsimp only at H); have wU := aM rQ; clear rQ; replace H := oB H
           obtain ⟨⟨jV, jW, jX, dC, jY, tQ⟩, rR, H⟩ := H; (try dsimp only at H); have wV := aM rR; clear rR; have oD := aM H; clear H; have wW := bE.out; have wX := bC.out; have wY := aV.out; have wZ := aU.out; obtain ⟨oE, oF, oG, oH, oI, oJ, oK, oL, oM, oO⟩ := xf5 (w := wc) aE
           go_upto_region 25 with (first | ((with_reducible refine gC 17 rfl ?_); refine goesLY (some 68) rfl Try.func17 #[.agg #[.int .i64 bH, .int .i64 bI, .string bJ, .slice aQ aK.length aR, .int .i64 bK], .int .i64 1] ?_; (with_reducible refine (laws_markRel.calls eL bH bI bJ (fun k_ => some k_ = (.slice aQ aK.length aR : Value).ownBlock) (.slice aQ aK.length aR) aK bK 1 mZ cW w _ ?side1 ?side2 wN.out).mono ?_); (case side1 => exact xbg); (case side2 => exact Kd.R_tight rfl aA.out); rintro e xA ⟨rfl, hY, hb, hkp⟩; refine ⟨_, rfl, ?_⟩; have n0_ := aM (Kd.R_mono (ok' := fun k_ => some k_ ≠ (.slice aQ aK.length aR : Value).ownBlock) (Kd.R_keptB (aB.out) hkp (fun k_ hk_ hs_ => (hk_) hs_)) (fun k_ hk_ => hk_.1)); have n1_ := aM (Kd.R_reok rfl hY (fun k_ e_ => aA.out.1 k_ e_)); have n2_ := aM (blk_kept xblk hkp (fun hs_ => (fun e_ => (Kd.R_ne aA.out aD.out (by decide)) e_) hs_)); have n3_ := aM (blk_kept xblk hkp (fun hs_ => (fun e_ => (Kd.R_ne aA.out aC.out (by decide)) e_) hs_)); have n4_ := aM (blk_kept xblk hkp (fun hs_ => (fun e_ => (Kd.R_ne aA.out aE.out (by decide)) e_) hs_)); have n5_ := aM (hb); clear aB; clear aA; clear aD; clear aC; clear aE; clear HB; have aB := n0_; have aA := n1_; have aD := n2_; have aC := n3_; have aE := n4_; have HB := n5_; clear n0_ n1_ n2_ n3_ n4_ n5_; (try clear hb); (try clear hkp); (try clear hY); obtain ⟨oP, oQ, oR, oT, oU, oV, oW, oX, oY, oZ⟩ := xf5 (w := xA) aE) | ((with_reducible refine gC 18 rfl ?_); refine goesL_ (some 71) rfl rfl Try.func18 (by kernel_rfl) rfl #[.agg #[.int .i64 bH, .int .i64 bI, .string bJ, .slice aQ cW.length aR, .int .i64 bK], .int .i64 1] rfl u8_14 ?_; (with_reducible refine (laws_heldRel.calls eL bH bI bJ _ _ cW bK 1 eM _ ?side1 ?side2 wO.out).mono ?_); (case side1 => exact xC aA); (case side2 => exact u8_15); rintro e xD ⟨rfl, hb⟩; refine ⟨_, rfl, ?_⟩; replace aB := xrb aB hb; replace aA := xrb aA hb; replace aD := xbb aD hb; replace aC := xbb aC hb; replace aE := xbb aE hb; replace HB := xbs hb; (try clear hb); have xE := bN.out; have xF := bO.out; obtain ⟨pA, pB, pC, pD, pE, pF, pG, pH⟩ := xf4 (w := xD) aD) | ((with_reducible refine gC 7 rfl ?_); refine goesLY (some 79) rfl Try.func7 #[.agg #[.int .i64 aY, .slice cX aO.length cY, .int .i64 aZ, .slice cZ aP.length dA]] ?_; (with_reducible refine (laws_toRoll.calls eL aY _ _ aO aZ _ _ aP sQ oC sR jU _ ?side1 ?side2 ?side3 ?side4 wU.out).mono ?_); (case side1 => exact xcb eF); (case side2 => exact eG.out); (case side3 => exact xcb eH); (case side4 => exact eI.out); rintro e EG ⟨v305, v309, rfl, dE, dZ, hb⟩; refine ⟨_, rfl, ?_⟩; have dU := aM (Kd.S_lower (Kd.S_newB (Kd.S_newB (Kd.S_new' (Kd.S_new' dE (Kd.R_lt (xr aB))) (Kd.R_lt (xr aA))) (g := aH) (o := .cells #[.int .i64 bW, .int .i64 bX, .string bY, .slice aS aI.length aT, .int .i64 bZ] 38 (0, 0)) xblk) (g := aW) (o := .cells #[.int .i64 bH, .int .i64 bI, .string bJ, .slice aQ aK.length aR, .int .i64 bK] 38 (0, 0)) xblk) (below_size xbg)); have cT := aM (Kd.R_lower (Kd.R_new' (Kd.R_new' dZ (Kd.R_lt (xr aB))) (Kd.R_lt (xr aA))) (below_size xbg)); replace aB := aM (Kd.R_elder' (xr aB) (Kd.R_base dZ) hb); replace aA := aM (Kd.R_elder' (xr aA) (Kd.R_base dZ) hb); replace aD := xbb aD hb; replace aC := xbb aC hb; replace aE := xbb aE hb; replace HB := xbs hb; (try clear hb dE dZ); obtain ⟨rS, rT, tR⟩ := Kd.S_slice dU.out; subst tR; obtain ⟨eS, eT, tS⟩ := Kd.R_slice cT.out; subst tS) | ((with_reducible refine gC 15 rfl ?_); refine goesLY (some 81) rfl Try.func15 #[.agg #[.int .i64 sQ, .slice rS oC.length rT, .int .i64 sR, .slice eS jU.length eT], .int .i64 a1] ?_; (with_reducible refine (impl_RollFind.calls eL sQ _ _ oC sR _ _ jU a1 jV jW jX dC jY tQ _ ?side1 ?side2 ?side3 ?side4 wV.out).mono ?_); (case side1 => repeat (first | exact (Kd.S_reads' dU.out).2.2 | (with_reducible refine Kd.C_alloc ?_ _) | (with_reducible refine Kd.C_drewN ?_ _) | (with_reducible refine Kd.C_drew ?_))); (case side2 => exact (Kd.S_reads' dU.out).2.1); (case side3 => exact xC cT); (case side4 => exact (Kd.R_reads' cT.out).2.1); rintro e EH ⟨v315, rfl, dE, hb⟩; refine ⟨_, rfl, ?_⟩; replace dU := aM (Kd.S_elder' u8_8 (Kd.R_base dE) hb); have cQ := aM (Kd.R_lower (Kd.R_new' (Kd.R_new' (Kd.R_new' dE (Kd.R_lt (xr aB))) (Kd.R_lt (xr aA))) (Kd.R_lt (xr cT))) (below_size xbg)); replace aB := aM (Kd.R_elder' (xr aB) (Kd.R_base dE) hb); replace aA := aM (Kd.R_elder' (xr aA) (Kd.R_base dE) hb); replace cT := aM (Kd.R_elder' (xr cT) (Kd.R_base dE) hb); replace aD := xbb aD hb; replace aC := xbb aC hb; replace aE := xbb aE hb; replace HB := xbs hb; (try clear hb dE)) | ((with_reducible refine gD 14 rfl ?_); refine boxE (N := 14) rfl (cs := #[.int .i64 0, .int .i64 0, .string (⟨#[]⟩ : ByteArray), .slice none 0 0, .int .i64 0]) (t := 38) ?_; intro cN hg tT hbox hb; replace aB := xrb aB hb; replace aA := xrb aA hb; replace dU := aM (Kd.S_below (Kd.S_elderB u8_8 cN (Nat.le_of_eq hg.symm)) hb); replace cT := xrb cT hb; replace cQ := xrb cQ hb; have DB := aM (xge hg); have DC := aM (xge hg); replace HB := xbs hb; have eA := nblt aD hg; have eB := nbgt aD hg; have eC := nblt aC hg; have eD := nbgt aC hg; have cL := nblt aE hg; have cM := nbgt aE hg; replace aD := xbb aD hb; replace aC := xbb aC hb; replace aE := xbb aE hb; have cG := aM (hbox); clear hb hbox hg; have xG := eB.out; have xH := eA.out; have xI := eD.out; have xJ := eC.out; have xL := cM.out; have xM := cL.out; obtain ⟨pI, pJ, pK, pL, pM, pN, pO, pP, pQ, pR⟩ := xf5 (w := tT) cG; obtain ⟨cU, cV, tU⟩ := Kd.R_slice cQ.out; subst tU) | ((with_reducible refine gate_store (t := 38) (p := 14) rfl ?_); refine store_event (t := 38) (p := 14) (v := ?vo_w129) (w1 := (((((tT.setCell ⟨cN, 0, none⟩ (.int .i64 jV)).setCell ⟨cN, 1, none⟩ (.int .i64 jW)).setCell ⟨cN, 2, none⟩ (.string jX)).setCell ⟨cN, 3, none⟩ (.slice cU dC.length cV)).setCell ⟨cN, 4, none⟩ (.int .i64 jY))) ?hg ?ho ?hn ?hr ?_; (case ho | hg | hn => rfl); (case hr => exact u8_6); intro dF hw; replace aB : Aside0 (Kd.R (Kd.int .i64) 3 dF w.heap.size (fun k_ => some k_ ≠ (.slice aQ aK.length aR : Value).ownBlock ∧ some k_ ≠ (.slice eS jU.length eT : Value).ownBlock ∧ some k_ ≠ (.slice cU dC.length cV : Value).ownBlock) (.slice aS aI.length aT) aI) := xwm hw aB (fun _ hk => ⟨hk.1.1, ⟨hk.1.2, hk.2⟩⟩); replace aA : Aside0 (Kd.R (Kd.int .i64) 3 dF w.heap.size (fun k_ => some k_ ≠ (.slice aS aI.length aT : Value).ownBlock ∧ some k_ ≠ (.slice eS jU.length eT : Value).ownBlock ∧ some k_ ≠ (.slice cU dC.length cV : Value).ownBlock) (.slice aQ aK.length aR) cW) := xwm hw aA (fun _ hk => ⟨hk.1.1, ⟨hk.1.2, hk.2⟩⟩); replace dU : Aside0 (Kd.S k38 38 dF w.heap.size (fun k_ => some k_ ≠ (.slice aS aI.length aT : Value).ownBlock ∧ some k_ ≠ (.slice aQ aK.length aR : Value).ownBlock ∧ some k_ ≠ (.slice eS jU.length eT : Value).ownBlock ∧ some k_ ≠ (.slice cU dC.length cV : Value).ownBlock ∧ k_ ≠ aH ∧ k_ ≠ aW ∧ k_ ≠ cN) (.slice rS oC.length rT) oC) := ⟨(by rw [hw]; exact (by (with_reducible repeat (first | apply Kd.S_alloc | apply Kd.S_drewN | apply Kd.S_drew)); exact Kd.S_mono (Kd.S_far (p := ⟨cN, 4, none⟩) (Kd.S_far (p := ⟨cN, 3, none⟩) (Kd.S_far (p := ⟨cN, 2, none⟩) (Kd.S_far (p := ⟨cN, 1, none⟩) (Kd.S_far (p := ⟨cN, 0, none⟩) (Kd.S_mono dU.out (fun k_ hk => (⟨hk, hk.2⟩ : _ ∧ k_ ≠ cN))) (fun _ hk => hk.2) (.int .i64 jV)) (fun _ hk => hk.2) (.int .i64 jW)) (fun _ hk => hk.2) (.string jX)) (fun _ hk => hk.2) (.slice cU dC.length cV)) (fun _ hk => hk.2) (.int .i64 jY)) (fun _ hk => ⟨hk.1.1.1.1.1.1.2, ⟨hk.1.1.1.1.1.2, ⟨hk.1.1.1.1.1.1.1, ⟨hk.1.1.2, ⟨hk.1.1.1.1.2, ⟨hk.1.1.1.2, hk.1.2⟩⟩⟩⟩⟩⟩)))⟩; replace cT : Aside0 (Kd.R (Kd.int .i64) 3 dF w.heap.size (fun k_ => some k_ ≠ (.slice aS aI.length aT : Value).ownBlock ∧ some k_ ≠ (.slice aQ aK.length aR : Value).ownBlock ∧ some k_ ≠ (.slice cU dC.length cV : Value).ownBlock) (.slice eS jU.length eT) jU) := xwm hw cT (fun _ hk => ⟨hk.1.1.2, ⟨hk.1.2, hk.2⟩⟩); replace cQ : Aside0 (Kd.R (Kd.int .i64) 3 dF w.heap.size (fun k_ => some k_ ≠ (.slice aS aI.length aT : Value).ownBlock ∧ some k_ ≠ (.slice aQ aK.length aR : Value).ownBlock ∧ some k_ ≠ (.slice eS jU.length eT : Value).ownBlock) (.slice cU dC.length cV) dC) := xwm hw cQ (fun _ hk => ⟨hk.1.1.2, ⟨hk.1.2, hk.2⟩⟩); replace aD := xwc hw aD; replace aC := xwc hw aC; replace aE := xwc hw aE; replace cG : Aside0 (dF.heap[cN]? = some (.cells #[.int .i64 jV, .int .i64 jW, .string jX, .slice cU dC.length cV, .int .i64 jY] 38 (0, 0))) := xwp hw; replace HB := xbw hw HB; clear hw))
           (try simp only [Act.put, List.setIfInBounds_toArray, List.set_cons_zero, List.set_cons_succ]); go_cut [92] (fun v92 wc => ∃ (kq : Nat) (eE : Bool), v92 = .bool eE ∧ Aside0 (laws_FnExactRollFind.j2 kq mZ eE bH bI bJ cW bK = some r) ∧ Aside0 (kq ≤ eL) ∧ Aside0 (Kd.R (Kd.int .i64) 3 wc w.heap.size (fun k_ => some k_ ≠ ((.slice aQ aK.length aR) : Value).ownBlock ∧ some k_ ≠ ((.slice cU dC.length cV) : Value).ownBlock) (.slice aS aI.length aT) aI) ∧ Aside0 (Kd.R (Kd.int .i64) 3 wc w.heap.size (fun k_ => some k_ ≠ ((.slice aS aI.length aT) : Value).ownBlock ∧ some k_ ≠ ((.slice cU dC.length cV) : Value).ownBlock) (.slice aQ aK.length aR) cW) ∧ Aside0 (Kd.R (Kd.int .i64) 3 wc w.heap.size (fun k_ => some k_ ≠ ((.slice aS aI.length aT) : Value).ownBlock ∧ some k_ ≠ ((.slice aQ aK.length aR) : Value).ownBlock) (.slice cU dC.length cV) dC) ∧ Aside0 (wc.heap[dD]? = some (.cells #[.int .i64 aY, (.slice cX aO.length cY), .int .i64 aZ, (.slice cZ aP.length dA)] 25 (0, 0))) ∧ Aside0 (wc.heap[aH]? = some (.cells #[.int .i64 bW, .int .i64 bX, .string bY, (.slice aS aI.length aT), .int .i64 bZ] 38 (0, 0))) ∧ Aside0 (wc.heap[aW]? = some (.cells #[.int .i64 bH, .int .i64 bI, .string bJ, (.slice aQ aK.length aR), .int .i64 bK] 38 (0, 0))) ∧ Aside0 (wc.heap[cN]? = some (.cells #[.int .i64 jV, .int .i64 jW, .string jX, (.slice cU dC.length cV), .int .i64 jY] 38 (0, 0))) ∧ Aside0 (Below w.heap.size w wc))
           case first =>
            have H := oD.out; clear oD; replace H := oB H; obtain ⟨sA, rU, H⟩ := H; (try dsimp only at H); have tV := aM rU; clear rU
            by_cases pS : sA = true
            ·subst pS; replace H := iT H; have H' := aM H; clear H; have xN := eB.out; have xO := eA.out; have xQ := eD.out; have xR := eC.out; have xS := cM.out; have xT := cL.out; obtain ⟨pT, pW, pX, pY, pZ, qA, qB, qC, qD, qE⟩ := xf5 (w := dF) cG; have xU := bO.out; have xV := bN.out; have xW := aU.out; have xX := aV.out; have qF : dF.cell? ⟨aH, 0, none⟩ = some (.int .i64 bW) := xc aC 0 rfl; have qG : dF.cell? ⟨aH, 1, none⟩ = some (.int .i64 bX) := xc aC 1 rfl; have qH : dF.cell? ⟨aH, 2, none⟩ = some (.string bY) := xc aC 2 rfl; have qI : dF.cell? ⟨aH, 3, none⟩ = some (.slice aS aI.length aT) := xc aC 3 rfl; have qJ : dF.cell? ⟨aH, 4, none⟩ = some (.int .i64 bZ) := xc aC 4 rfl; have qK := blk_frozen aC.out 0; have qL := blk_frozen aC.out 1; have qM := blk_frozen aC.out 2; have qN := blk_frozen aC.out 3; have qO := blk_frozen aC.out 4; go_wp2_with (first | ((with_reducible refine gC 16 rfl ?_); refine goesLY (some 86) rfl Try.func16 #[.agg #[.int .i64 jV, .int .i64 jW, .string jX, .slice cU dC.length cV, .int .i64 jY], .agg #[.int .i64 bW, .int .i64 bX, .string bY, .slice aS aI.length aT, .int .i64 bZ]] ?_; (with_reducible refine (laws_eqRel.calls eL jV jW jX _ _ dC jY bW bX bY _ _ aI bZ true _ ?side1 ?side2 ?side3 ?side4 tV.out).mono ?_); (case side1 => exact xC cQ); (case side2 => exact (Kd.R_reads' cQ.out).2.1); (case side3 => exact xC aB); (case side4 => exact u8_7); rintro e EI ⟨rfl, hb⟩; refine ⟨_, rfl, ?_⟩; replace aB := xrb aB hb; replace aA := xrb aA hb; replace dU := aM (Kd.S_below u8_8 hb); replace cT := xrb cT hb; replace cQ := xrb cQ hb; replace aD := xbb aD hb; replace aC := xbb aC hb; replace aE := xbb aE hb; replace cG := xbb cG hb; replace HB := xbs hb; (try clear hb)))
             go_meet
             case rel => exact ⟨_, ((tQ != mT)), u8_1, H', ⟨by have := HJ11.out; have := HJ66.out; first | omega | exact Nat.le_refl _⟩, ⟨u8_20⟩, ⟨u8_21⟩, ⟨u8_22⟩, ⟨xblk⟩, ⟨xblk⟩, ⟨xblk⟩, ⟨xblk⟩, ⟨xbg⟩⟩
            ·replace pS := Bool.eq_false_iff.mpr pS; subst pS; replace H := iN H; have H' := aM H; clear H; have xY := eB.out; have xZ := eA.out; have yA := eD.out; have yB := eC.out; have yC := cM.out; have yD := cL.out; obtain ⟨qP, qQ, qR, qS, qT, qU, qV, qW, qX, qY⟩ := xf5 (w := dF) cG; have yE := bO.out; have yF := bN.out; have yG := aU.out; have yH := aV.out; have qZ : dF.cell? ⟨aH, 0, none⟩ = some (.int .i64 bW) := xc aC 0 rfl; have rA : dF.cell? ⟨aH, 1, none⟩ = some (.int .i64 bX) := xc aC 1 rfl; have rB : dF.cell? ⟨aH, 2, none⟩ = some (.string bY) := xc aC 2 rfl; have rC : dF.cell? ⟨aH, 3, none⟩ = some (.slice aS aI.length aT) := xc aC 3 rfl; have rE : dF.cell? ⟨aH, 4, none⟩ = some (.int .i64 bZ) := xc aC 4 rfl; have rF := blk_frozen aC.out 0; have rG := blk_frozen aC.out 1; have rH := blk_frozen aC.out 2; have rI := blk_frozen aC.out 3; have rJ := blk_frozen aC.out 4; go_wp2_with (first | ((with_reducible refine gC 16 rfl ?_); refine goesLY (some 86) rfl Try.func16 #[.agg #[.int .i64 jV, .int .i64 jW, .string jX, .slice cU dC.length cV, .int .i64 jY], .agg #[.int .i64 bW, .int .i64 bX, .string bY, .slice aS aI.length aT, .int .i64 bZ]] ?_; (with_reducible refine (laws_eqRel.calls eL jV jW jX _ _ dC jY bW bX bY _ _ aI bZ false _ ?side1 ?side2 ?side3 ?side4 tV.out).mono ?_); (case side1 => exact xC cQ); (case side2 => exact (Kd.R_reads' cQ.out).2.1); (case side3 => exact xC aB); (case side4 => exact u8_7); rintro e EJ ⟨rfl, hb⟩; refine ⟨_, rfl, ?_⟩; replace aB := xrb aB hb; replace aA := xrb aA hb; replace dU := aM (Kd.S_below u8_8 hb); replace cT := xrb cT hb; replace cQ := xrb cQ hb; replace aD := xbb aD hb; replace aC := xbb aC hb; replace aE := xbb aE hb; replace cG := xbb cG hb; replace HB := xbs hb; (try clear hb)))
             go_meet
             case rel => exact ⟨_, (true), u8_1, H', ⟨by have := HJ11.out; have := HJ66.out; first | omega | exact Nat.le_refl _⟩, ⟨u8_20⟩, ⟨u8_21⟩, ⟨u8_22⟩, ⟨xblk⟩, ⟨xblk⟩, ⟨xblk⟩, ⟨xblk⟩, ⟨xbg⟩⟩
           case rest =>
            clear oD; try clear c1
            try clear c2
            try clear p2
            try clear c3
            try clear c4
            try clear rM
            try clear c5
            try clear c6
            try clear c7
            try clear c8
            try clear c9
            try clear c10
            try clear DR
            try clear FU
            try clear FV
            try clear BE
            try clear BF
            try clear BG
            try clear FW
            try clear FX
            try clear BH
            try clear BI
            try clear BJ
            try clear BK
            try clear BL
            try clear BM
            try clear sM
            try clear BN
            try clear BO
            try clear BP
            try clear BQ
            try clear BR
            try clear BS
            try clear BT
            try clear BU
            try clear BV
            try clear BW
            try clear sX
            try clear sY
            try clear DS
            try clear DT
            try clear DU
            try clear rP
            try clear eK
            try clear sZ
            try clear DV
            try clear DW
            try clear DX
            try clear DY
            try clear DZ
            try clear EA
            try clear EB
            try clear EC
            try clear ED
            try clear EE
            try clear tN
            try clear kK
            try clear nE
            try clear EK
            try clear EL
            try clear nA
            try clear nZ
            try clear oA
            try clear EM
            try clear EN
            try clear EO
            try clear EP
            try clear EQ
            try clear ER
            try clear pS
            try clear ES
            try clear ET
            try clear EU
            try clear EV
            try clear EW
            try clear EX
            try clear EY
            try clear EZ
            try clear FA
            try clear FB
            try clear nF nG nH nI nJ
            try clear nP nQ nR nS nT
            try clear oE oF oG oH oI
            try clear oP oQ oR oT oU
            try clear pA pB pC pD
            try clear pI pJ pK pL pM
            try clear pT pW pX pY pZ
            try clear qF qG qH qI qJ
            try clear qP qQ qR qS qT
            try clear qZ rA rB rC rE
            try clear eV eW eX eY
            try clear fD fE fF fG
            try clear fL fM fN fO fP
            try clear fV fW fX fY
            try clear gF gG gH gI
            try clear gN gO gP gQ
            try clear gV gW gX gY gZ
            try clear iD iE iF iG iH
            try clear iO iP iQ iR iS
            try clear iZ jA jB jC jD
            try clear jJ jK jL jM jN
            try clear kB kC kE kF
            try clear kV kW kX kY
            try clear lE lF lG lH lI
            try clear lO lP lQ lR lS
            try clear lY lZ mA mB mC
            try clear mI mJ mK mL mM
            try clear nK nL nM nN nO
            try clear nU nV nW nX nY
            try clear oJ oK oL oM oO
            try clear oV oW oX oY oZ
            try clear pE pF pG pH
            try clear pN pO pP pQ pR
            try clear qA qB qC qD qE
            try clear qK qL qM qN qO
            try clear qU qV qW qX qY
            try clear rF rG rH rI rJ
            try clear eZ fA fB fC
            try clear fH fI fJ fK
            try clear fQ fR fS fT fU
            try clear fZ gA gB gE
            try clear gJ gK gL gM
            try clear gR gS gT gU
            try clear hJ hU hX hZ iA
            try clear iI iJ iK iL iM
            try clear iU iV iW iX iY
            try clear jE jF jG jH jI
            try clear jO jP jQ jR jS
            try clear kG kH kI kJ
            try clear kZ lA lB lC
            try clear lJ lK lL lM lN
            try clear lT lU lV lW lX
            try clear mD mE mF mG mH
            try clear mN mO mP mQ mR
            try clear p2
            obtain ⟨kq, eE, rfl, HA, HJ109, aB, aA, cE, aD, aC, aE, cG, HB⟩ := hcut; have bB := (Kd.R_reads' aA.out).1; rw [bB] at aA; (try simp only [bB]); (try simp only [bB] at aD); (try simp only [bB] at aC); (try simp only [bB] at aE); (try simp only [bB] at cG); (try simp only [bB] at aB); (try simp only [bB] at cE); cases kq with
            | zero => exact absurd HA.out (by simp [laws_FnExactRollFind.j2])
            | succ rK =>
             have H := HA.out; clear HA; simp only [laws_FnExactRollFind.j2] at H; by_cases rO : eE = true
             ·subst rO; replace H := iT H; obtain rfl := Option.some.inj H; go_wp2; go_ret
              exact ⟨xerr, xbg⟩
             ·replace rO := Bool.eq_false_iff.mpr rO; subst rO; replace H := iN H; replace H := oB H; obtain ⟨eN, rV, H⟩ := H; (try dsimp only at H); have sS := aM rV; clear rV
              by_cases nB : eN < 0
              ·rw [if_pos nB] at H; have sU : decide (eN < 0) = true := decide_eq_true nB; clear nB; obtain rfl := Option.some.inj H; have yI := bE.out; have yJ := bC.out; have yK := aV.out; have yL := aU.out; have yM := cL.out; have yN := cM.out; obtain ⟨tW, tX, tY, tZ, uA, uB, uC, uD, uE, uF⟩ := xf5 (w := wc) aE; go_wp2_with (first | ((with_reducible refine gC 18 rfl ?_); refine goesLY (some 95) rfl Try.func18 #[.agg #[.int .i64 bH, .int .i64 bI, .string bJ, .slice aQ cW.length aR, .int .i64 bK], .int .i64 1] ?_; (with_reducible refine (laws_heldRel.calls rK bH bI bJ _ _ cW bK 1 eN _ ?side1 ?side2 sS.out).mono ?_); (case side1 => exact xC aA); (case side2 => exact u8_5); rintro e FC ⟨rfl, hb⟩; refine ⟨_, rfl, ?_⟩; replace aB := xrb aB hb; replace aA := xrb aA hb; replace cE := xrb cE hb; replace aD := xbb aD hb; replace aC := xbb aC hb; replace aE := xbb aE hb; replace cG := xbb cG hb; replace HB := xbs hb; (try clear hb)))
               go_ret
               exact ⟨xerr, xbg⟩
              ·rw [if_neg nB] at H; have sU : decide (eN < 0) = false := decide_eq_false nB; clear nB; by_cases rL : eN = mZ
               ·rw [if_pos rL] at H; obtain ⟨sV, sW⟩ := bT rL; clear rL; obtain rfl := Option.some.inj H; have yO := bE.out; have yP := bC.out; have yQ := aV.out; have yR := aU.out; have yS := cL.out; have yT := cM.out; obtain ⟨uG, uH, uI, uJ, uK, uL, uM, uN, uO, uP⟩ := xf5 (w := wc) aE; go_wp2_with (first | ((with_reducible refine gC 18 rfl ?_); refine goesLY (some 95) rfl Try.func18 #[.agg #[.int .i64 bH, .int .i64 bI, .string bJ, .slice aQ cW.length aR, .int .i64 bK], .int .i64 1] ?_; (with_reducible refine (laws_heldRel.calls rK bH bI bJ _ _ cW bK 1 eN _ ?side1 ?side2 sS.out).mono ?_); (case side1 => exact xC aA); (case side2 => exact u8_5); rintro e FD ⟨rfl, hb⟩; refine ⟨_, rfl, ?_⟩; replace aB := xrb aB hb; replace aA := xrb aA hb; replace cE := xrb cE hb; replace aD := xbb aD hb; replace aC := xbb aC hb; replace aE := xbb aE hb; replace cG := xbb cG hb; replace HB := xbs hb; (try clear hb)))
                go_ret
                exact ⟨xerr, xbg⟩
               ·rw [if_neg rL] at H; obtain ⟨sV, sW⟩ := bF rL; obtain rfl := Option.some.inj H; have yU := bE.out; have yV := bC.out; have yW := aV.out; have yX := aU.out; have yY := cL.out; have yZ := cM.out; obtain ⟨uQ, uR, uS, uT, uU, uV, uW, uX, uY, uZ⟩ := xf5 (w := wc) aE; go_wp2_with (first | ((with_reducible refine gC 18 rfl ?_); refine goesLY (some 95) rfl Try.func18 #[.agg #[.int .i64 bH, .int .i64 bI, .string bJ, .slice aQ cW.length aR, .int .i64 bK], .int .i64 1] ?_; (with_reducible refine (laws_heldRel.calls rK bH bI bJ _ _ cW bK 1 eN _ ?side1 ?side2 sS.out).mono ?_); (case side1 => exact xC aA); (case side2 => exact u8_5); rintro e FE ⟨rfl, hb⟩; refine ⟨_, rfl, ?_⟩; replace aB := xrb aB hb; replace aA := xrb aA hb; replace cE := xrb cE hb; replace aD := xbb aD hb; replace aC := xbb aC hb; replace aE := xbb aE hb; replace cG := xbb cG hb; replace HB := xbs hb; (try clear hb)))
                go_ret
                exact ⟨xerr, xbg⟩
          ·rw [if_neg nA] at H; obtain ⟨nZ, oA⟩ := bF nA; obtain rfl := Option.some.inj H; have zA := bE.out; have zB := bC.out; have zC := aV.out; have zD := aU.out; obtain ⟨vA, vB, vC, vD, vE, vF, vG, vH, vI, vJ⟩ := xf5 (w := wc) aE; go_wp2_with (first | ((with_reducible refine gC 17 rfl ?_); refine goesLY (some 68) rfl Try.func17 #[.agg #[.int .i64 bH, .int .i64 bI, .string bJ, .slice aQ aK.length aR, .int .i64 bK], .int .i64 1] ?_; (with_reducible refine (laws_markRel.calls eL bH bI bJ (fun k_ => some k_ = (.slice aQ aK.length aR : Value).ownBlock) (.slice aQ aK.length aR) aK bK 1 mZ cW w _ ?side1 ?side2 wN.out).mono ?_); (case side1 => exact xbg); (case side2 => exact Kd.R_tight rfl aA.out); rintro e zE ⟨rfl, hY, hb, hkp⟩; refine ⟨_, rfl, ?_⟩; have n0_ := aM (Kd.R_mono (ok' := fun k_ => some k_ ≠ (.slice aQ aK.length aR : Value).ownBlock) (Kd.R_keptB (aB.out) hkp (fun k_ hk_ hs_ => (hk_) hs_)) (fun k_ hk_ => hk_.1)); have n1_ := aM (Kd.R_reok rfl hY (fun k_ e_ => aA.out.1 k_ e_)); have n2_ := aM (blk_kept xblk hkp (fun hs_ => (fun e_ => (Kd.R_ne aA.out aD.out (by decide)) e_) hs_)); have n3_ := aM (blk_kept xblk hkp (fun hs_ => (fun e_ => (Kd.R_ne aA.out aC.out (by decide)) e_) hs_)); have n4_ := aM (blk_kept xblk hkp (fun hs_ => (fun e_ => (Kd.R_ne aA.out aE.out (by decide)) e_) hs_)); have n5_ := aM (hb); clear aB; clear aA; clear aD; clear aC; clear aE; clear HB; have aB := n0_; have aA := n1_; have aD := n2_; have aC := n3_; have aE := n4_; have HB := n5_; clear n0_ n1_ n2_ n3_ n4_ n5_; (try clear hb); (try clear hkp); (try clear hY); obtain ⟨vK, vL, vM, vN, vO, vP, vQ, vR, vS, vT⟩ := xf5 (w := zE) aE) | ((with_reducible refine gC 18 rfl ?_); refine goesL_ (some 71) rfl rfl Try.func18 (by kernel_rfl) rfl #[.agg #[.int .i64 bH, .int .i64 bI, .string bJ, .slice aQ cW.length aR, .int .i64 bK], .int .i64 1] rfl u8_14 ?_; (with_reducible refine (laws_heldRel.calls eL bH bI bJ _ _ cW bK 1 eM _ ?side1 ?side2 wO.out).mono ?_); (case side1 => exact xC aA); (case side2 => exact u8_15); rintro e FF ⟨rfl, hb⟩; refine ⟨_, rfl, ?_⟩; replace aB := xrb aB hb; replace aA := xrb aA hb; replace aD := xbb aD hb; replace aC := xbb aC hb; replace aE := xbb aE hb; replace HB := xbs hb; (try clear hb)))
           go_ret
           exact ⟨xerr, xbg⟩
     ·replace sY := Bool.eq_false_iff.mpr sY; subst sY; replace H := iN H; obtain rfl := Option.some.inj H; try go_wp2
      replace aB := rD aB; replace aJ := aM (Kd.S_drew aJ.out); replace aF := rD aF; replace aA := rD aA; replace aD := bD aD; replace aC := bD aC; replace aG := bD aG; replace aE := bD aE; replace HB := lD HB; refine start_ (n := 5) (S := fun w' => w'.cell? ⟨bM, 0, none⟩ = some (.int .i64 dG) ∧ w'.cell? ⟨bM, 1, none⟩ = some (.slice dI cF.length dJ) ∧ w'.cell? ⟨bM, 2, none⟩ = some (.int .i64 dH) ∧ w'.cell? ⟨bM, 3, none⟩ = some (.slice cC bL.length cD) ∧ w'.cell? ⟨dD, 0, none⟩ = some (.int .i64 aY) ∧ w'.cell? ⟨dD, 1, none⟩ = some (.slice cX aO.length cY) ∧ w'.cell? ⟨dD, 2, none⟩ = some (.int .i64 aZ) ∧ w'.cell? ⟨dD, 3, none⟩ = some (.slice cZ aP.length dA)) (ds := []) #[false, false, false, false, false] (by kernel_rfl) rfl rfl ⟨xc aG 0 rfl, xc aG 1 rfl, xc aG 2 rfl, xc aG 3 rfl, xc aD 0 rfl, xc aD 1 rfl, xc aD 2 rfl, xc aD 3 rfl⟩ (fun hHeld => ?_); generalize wc.drew = FG at aB aJ aF aA aD aC aG aE HB hHeld ⊢; refine take_ (i := 0) (N := some 45) (v := ?_) (a' := ?_) #[true, false, false, false, false] rfl rfl (by kernel_rfl) (fun _ _ _ h => h) (Or.inl ⟨by rfl, ?_⟩) hHeld ?_ ?_; rotate_left
      ·rintro w' ⟨s0, s1, s2, s3, s4, s5, s6, s7⟩; go_simp
       with_reducible rfl
      rotate_left
      ·simp only [Act.put, List.setIfInBounds_toArray, List.set_cons_zero, List.set_cons_succ, i64_w, i32_w]; rfl
      refine take_ (i := 1) (N := some 46) (v := ?_) (a' := ?_) #[true, true, false, false, false] rfl rfl (by kernel_rfl) (fun _ _ _ h => h) (Or.inl ⟨by rfl, ?_⟩) hHeld ?_ ?_; rotate_left
      ·rintro w' ⟨s0, s1, s2, s3, s4, s5, s6, s7⟩; go_simp
       with_reducible rfl
      rotate_left
      ·simp only [Act.put, List.setIfInBounds_toArray, List.set_cons_zero, List.set_cons_succ, i64_w, i32_w]; rfl
      refine one_ (i := 2) (N := some 47) #[true, true, true, false, false] rfl rfl (by kernel_rfl) (by decide) (fun K hK => ?_); refine goesY Try.func7 #[.agg #[.int .i64 aY, .slice cX aO.length cY, .int .i64 aZ, .slice cZ aP.length dA]] ?_; with_reducible refine (laws_toRoll.calls jZ aY _ _ aO aZ _ _ aP mW mX mY kA _ ?side1 ?side2 ?side3 ?side4 BX.out).mono ?_
      (case side1 => exact xcb eF); (case side2 => exact eG.out); (case side3 => exact xcb eH); (case side4 => exact eI.out); rintro e FH ⟨v291, v295, rfl, dE, dZ, hb⟩; refine ⟨_, rfl, ?_⟩; have dV := aM (Kd.S_lower (Kd.S_newB (Kd.S_newB (Kd.S_new' (Kd.S_new' (Kd.S_new' (Kd.S_new' dE (Kd.R_lt (xr aB))) (Kd.S_lt u8_2)) (Kd.R_lt (xr aF))) (Kd.R_lt (xr aA))) (g := aH) (o := .cells #[.int .i64 bW, .int .i64 bX, .string bY, .slice aS aI.length aT, .int .i64 bZ] 38 (0, 0)) xblk) (g := aW) (o := .cells #[.int .i64 bH, .int .i64 bI, .string bJ, .slice aQ aK.length aR, .int .i64 bK] 38 (0, 0)) xblk) (below_size xbg)); replace aJ := aM (Kd.S_mono (Kd.S_told (Kd.S_told (Kd.S_old u8_2 hb) (Kd.S_base dE)) (Kd.R_base dZ)) (fun _ h_ => h_.1)); have cB := aM (Kd.R_lower (Kd.R_new' (Kd.R_new' (Kd.R_new' dZ (Kd.R_lt (xr aB))) (Kd.R_lt (xr aF))) (Kd.R_lt (xr aA))) (below_size xbg)); replace aB := aM (Kd.R_elder' (xr aB) (Kd.R_base dZ) hb); replace aF := aM (Kd.R_elder' (xr aF) (Kd.R_base dZ) hb); replace aA := aM (Kd.R_elder' (xr aA) (Kd.R_base dZ) hb); replace aD := xbb aD hb; replace aC := xbb aC hb; replace aG := xbb aG hb; replace aE := xbb aE hb; replace HB := xbs hb; (try clear hb dE dZ); obtain ⟨vU, vV, rW⟩ := Kd.S_slice dV.out; (first | subst rW | (injection rW with f1_ f2_ f3_; have f4_ := f1_.symm; have f5_ := f3_.symm; clear f1_ f2_ f3_; subst f4_; subst f5_)); obtain ⟨vW, vX, rX⟩ := Kd.R_slice cB.out; (first | subst rX | (injection rX with f1_ f2_ f3_; have f4_ := f1_.symm; have f5_ := f3_.symm; clear f1_ f2_ f3_; subst f4_; subst f5_)); refine hK.out _ _ ⟨xc aG 0 rfl, xc aG 1 rfl, xc aG 2 rfl, xc aG 3 rfl, xc aD 0 rfl, xc aD 1 rfl, xc aD 2 rfl, xc aD 3 rfl⟩ (fun hHeld => ?_); clear hK K; refine nm_ (N := 47) ?_; refine one_ (i := 3) (N := some 48) #[true, true, true, true, false] rfl rfl (by kernel_rfl) (by decide) (fun K hK => ?_); refine goesY Try.func10 #[.agg #[.int .i64 dG, .slice dI cF.length dJ, .int .i64 dH, .slice cC bL.length cD], .agg #[.int .i64 mW, .slice vU mX.length vV, .int .i64 mY, .slice vW kA.length vX]] ?_; with_reducible refine (laws_eqRoll.calls jZ dG _ _ cF dH _ _ bL mW _ _ mX mY _ _ kA false _ ?side1 ?side2 ?side3 ?side4 ?side5 ?side6 ?side7 ?side8 BZ.out).mono ?_
      (case side1 => repeat (first | exact (Kd.S_reads' aJ.out).2.2 | (with_reducible refine Kd.C_alloc ?_ _) | (with_reducible refine Kd.C_drewN ?_ _) | (with_reducible refine Kd.C_drew ?_))); (case side2 => exact (Kd.S_reads' aJ.out).2.1); (case side3 => exact xC aF); (case side4 => exact (Kd.R_reads' aF.out).2.1); (case side5 => repeat (first | exact (Kd.S_reads' dV.out).2.2 | (with_reducible refine Kd.C_alloc ?_ _) | (with_reducible refine Kd.C_drewN ?_ _) | (with_reducible refine Kd.C_drew ?_))); (case side6 => exact (Kd.S_reads' dV.out).2.1); (case side7 => exact xC cB); (case side8 => exact (Kd.R_reads' cB.out).2.1); rintro e FI ⟨rfl, hb⟩; refine ⟨_, rfl, ?_⟩; replace aB := xrb aB hb; replace aJ := aM (Kd.S_below u8_2 hb); replace aF := xrb aF hb; replace aA := xrb aA hb; replace cB := xrb cB hb; replace aD := xbb aD hb; replace aC := xbb aC hb; replace aG := xbb aG hb; replace aE := xbb aE hb; replace HB := xbs hb; (try clear hb); refine hK.out _ _ ⟨xc aG 0 rfl, xc aG 1 rfl, xc aG 2 rfl, xc aG 3 rfl, xc aD 0 rfl, xc aD 1 rfl, xc aD 2 rfl, xc aD 3 rfl⟩ (fun hHeld => ?_); clear hK K; refine nm_ (N := 48) ?_; refine pure_ (i := 4) (N := some 49) (v := ?_) (a' := ?_) #[true, true, true, true, true] rfl rfl (by kernel_rfl) (fun _ _ _ h => h) (Or.inl ⟨by rfl, ?_⟩) ?_ ?_; rotate_left
      ·intro w'; go_simp
       with_reducible rfl
      rotate_left
      ·simp only [Act.put, List.setIfInBounds_toArray, List.set_cons_zero, List.set_cons_succ, i64_w, i32_w]; rfl
      refine done_ (by kernel_rfl) ?_; try go_wp2
      go_ret
      exact ⟨xerr, xbg⟩

/-- THE ONE PURE STATEMENT of laws_FnExactRollFind. -/
def Q53 (x : S53) : Prop := (Lit.int .i64 x.f0).wf = true ∧ (Lit.int .i64 x.f1).wf = true ∧ x.f2.size ≤ 140737488351232 ∧ (x.f3.length ≤ maxLen ∧ x.f3.length * 8 ≤ 140737488351232 ∧ ∀ x' ∈ x.f3, (Lit.int .i64 x').wf = true) ∧ (Lit.int .i64 x.f4).wf = true
def Q25 (x : S25) : Prop := (Lit.int .i64 x.f0).wf = true ∧ (x.f1.length ≤ maxLen ∧ x.f1.length * 64 ≤ 140737488351232 ∧ ∀ x' ∈ x.f1, Q53 x') ∧ (Lit.int .i64 x.f2).wf = true ∧ (x.f3.length ≤ maxLen ∧ x.f3.length * 8 ≤ 140737488351232 ∧ ∀ x' ∈ x.f3, (Lit.int .i64 x').wf = true)
def laws_FnExactRollFind.Pure : Prop := ∀ (aY : Int) (aO : List (S53)) (aZ : Int) (aP : List Int) (a1 : Int), (Lit.int .i64 aY).wf = true → aO.length ≤ maxLen → aO.length * 64 ≤ 140737488351232 → (∀ x ∈ aO, Q53 x) → (Lit.int .i64 aZ).wf = true → aP.length ≤ maxLen → aP.length * 8 ≤ 140737488351232 → (∀ x ∈ aP, (Lit.int .i64 x).wf = true) → (Lit.int .i64 a1).wf = true → ∃ k, laws_FnExactRollFind.f k aY aO aZ aP a1 = some true
theorem laws_FnExactRollFind.walk (P : laws_FnExactRollFind.Pure) (aY : Int) (cX : Option Addr) (cY : Nat) (aO : List (S53)) (aZ : Int) (cZ : Option Addr) (dA : Nat) (aP : List Int) (a1 : Int) (w : World) (zF : (Lit.int .i64 aY).wf = true) (kR : Kd.C k53 w cX aO.length aO) (kS : aO.length ≤ cY) (hm0_1 : aO.length ≤ maxLen) (hz0_1 : aO.length * 64 ≤ 140737488351232) (vY : ∀ x ∈ aO, Q53 x) (zG : (Lit.int .i64 aZ).wf = true) (kT : Kd.C (Kd.int .i64) w cZ aP.length aP) (kU : aP.length ≤ dA) (hm0_3 : aP.length ≤ maxLen) (hz0_3 : aP.length * 8 ≤ 140737488351232) (vZ : ∀ x ∈ aP, (Lit.int .i64 x).wf = true) (w1 : (Lit.int .i64 a1).wf = true) :
 Calls Try.prog 4 #[.agg #[.int .i64 aY, .slice cX aO.length cY, .int .i64 aZ, .slice cZ aP.length dA], .int .i64 a1] w fun e w' => e = .returned (.bool true) ∧ Below w.heap.size w w' := by
 obtain ⟨k, h⟩ := P aY aO aZ aP a1 zF hm0_1 hz0_1 vY zG hm0_3 hz0_3 vZ w1
 refine (laws_FnExactRollFind.calls k aY cX cY aO aZ cZ dA aP a1 true w kR kS kT kU h).mono ?_
 rintro e w' ⟨rfl, hd⟩
 exact ⟨rfl, hd⟩

end Go.Proofs.Ytppfnnpfamkclaa.QFnExactRollFind
