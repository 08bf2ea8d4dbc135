-- A walk, by a program of this session.
import Derived.Test.YtppfnnpfamkclaaQFnExactRollLacksx0
import Derived.Test.YtppfnnpfamkclaaQFnExactRollLacksx6
namespace Go.Proofs.Ytppfnnpfamkclaa.QFnExactRollLacks
open Go.RowKit Go.Proofs.YtppfnnpfamkclaaW.PrintWords Go.Proofs.YtppfnnpfamkclaaW.PrintLast Go.Proofs.YtppfnnpfamkclaaW.PrintMore
attribute [local go_sem] max2_int min2_int max_two min_two max_three min_three max_four min_four   -- for this text's walks alone
set_option linter.unusedVariables false
set_option linter.unusedSimpArgs false

theorem u7_0 {p : Prop} (h : p := by first | rfl | (simp; done) | (simp [*]; done)) : p := h
theorem u7_1 {p : Prop} (h : p := by first | (go_simp; done) | (go_simp; rfl)) : p := h
theorem u7_2 {p : Prop} (h : p := by repeat (first | (with_reducible first | exact HK.out | apply Kept.alloc | apply Kept.drewN | apply Kept.drew) | exact HK.out)) : p := h
theorem u7_3 {p : Prop} (h : p := by repeat (first | exact Drawn0.refl _ | apply Drawn0.step)) : p := h
theorem u7_4 {p : Prop} (h : p := by first | (rw [hY]; with_reducible exact H) | (have H2_ := oS H; rw [hY]; with_reducible exact H2_) | (have H2_ := oS H; with_reducible exact H2_) | with_reducible exact H | (rw [hY]; exact H) | exact H) : p := h
theorem u7_5 {p : Prop} (h : p := by (with_reducible repeat (first | apply Kd.R_alloc | apply Kd.R_drewN | apply Kd.R_drew)); exact aV.out) : p := h
/-! ### laws_eqRoll: function 10 -/
def laws_eqRoll.f (k : Nat) (aK : Int) (aF : List (S38)) (aL : Int) (aG : List Int) (aP : Int) (aI : List (S38)) (aQ : Int) (aJ : List Int) : Option (Bool) := if aK = aP then ((laws_eqRelS.f k aF aI).bind fun bO => (if bO = true then (if aL = aQ then ((laws_eqIntS.f k aG aJ).bind fun bP => (if bP = true then (some true) else (some false))) else (some false)) else (some false))) else (some false)
theorem u7_mq0 {p : Prop} (h : p := by repeat' first | (with_reducible first | exact laws_eqIntS.mono _ _ _ | exact laws_eqRelS.mono _ _ _ | exact LeO.refl _ | exact LeO.none _ | refine LeO.ite ?_ ?_ | refine LeO.bind ?_ (fun _ => ?_)) | exact LeO.none _ | refine LeO.ite ?_ ?_ | refine LeO.bind ?_ (fun _ => ?_)) : p := h
theorem laws_eqRoll.mono : ∀ a0 a1 a2 a3 a4 a5 a6 a7 k, LeO (laws_eqRoll.f k a0 a1 a2 a3 a4 a5 a6 a7) (laws_eqRoll.f (k + 1) a0 a1 a2 a3 a4 a5 a6 a7) := by
 intro a0 a1 a2 a3 a4 a5 a6 a7 k
 unfold laws_eqRoll.f
 exact u7_mq0
set_option maxHeartbeats 8000000 in
set_option maxRecDepth 100000 in
theorem laws_eqRoll.calls (k : Nat) (aK : Int) (aR : Option Addr) (aS : Nat) (aF : List (S38)) (aL : Int) (aW : Option Addr) (aX : Nat) (aG : List Int) (aP : Int) (aT : Option Addr) (aU : Nat) (aI : List (S38)) (aQ : Int) (aY : Option Addr) (aZ : Nat) (aJ : List Int) (r : Bool) (w : World) (bR : Kd.C k38 w aR aF.length aF) (bU : aF.length ≤ aS) (bV : Kd.C (Kd.int .i64) w aW aG.length aG) (bW : aG.length ≤ aX) (bX : Kd.C k38 w aT aI.length aI) (bY : aI.length ≤ aU) (bZ : Kd.C (Kd.int .i64) w aY aJ.length aJ) (cA : aJ.length ≤ aZ) (h : laws_eqRoll.f k aK aF aL aG aP aI aQ aJ = some r) :
 Calls Try.prog 10 #[.agg #[.int .i64 aK, .slice aR aF.length aS, .int .i64 aL, .slice aW aG.length aX], .agg #[.int .i64 aP, .slice aT aI.length aU, .int .i64 aQ, .slice aY aJ.length aZ]] w fun e w' => e = .returned (.bool r) ∧ Below w.heap.size w w' := by
 have kG := Try.underlying30
 have bC := aM bR
 have bE := aM bU
 clear bR bU
 have cB := aM bV
 have cC := aM bW
 clear bV bW
 have bG := aM bX
 have bH := aM bY
 clear bX bY
 have cD := aM bZ
 have cE := aM cA
 clear bZ cA
 have HB := aM (Below.refl w.heap.size w)
 have H : (if aK = aP then ((laws_eqRelS.f k aF aI).bind fun bO => (if bO = true then (if aL = aQ then ((laws_eqIntS.f k aG aJ).bind fun bP => (if bP = true then (some true) else (some false))) else (some false)) else (some false))) else (some false)) = some r := h
 clear h
 by_cases c3 : aK = aP
 ·rw [if_pos c3] at H; obtain ⟨bB, iP⟩ := bT c3; clear c3; replace H := oB H; obtain ⟨bO, jD, H⟩ := H; (try dsimp only at H); have A4 := aM jD; clear jD
  by_cases c5 : bO = true
  ·subst c5; replace H := iT H; by_cases c6 : aL = aQ
   ·rw [if_pos c6] at H; obtain ⟨iQ, iR⟩ := bT c6; clear c6; replace H := oB H; obtain ⟨bP, jE, H⟩ := H; (try dsimp only at H); have A7 := aM jE; clear jE
    by_cases c8 : bP = true
    ·subst c8; replace H := iT H; obtain rfl := Option.some.inj H; go_enter Try.func10, Try.ntmps10
     go_wp2_with (first | ((with_reducible refine gD 2 rfl ?_); refine boxE (N := 2) rfl (cs := #[.int .i64 aK, .slice aR aF.length aS, .int .i64 aL, .slice aW aG.length aX]) (t := 30) ?_; intro bI hg w9 hbox hb; have aA := aM (hbox); have bJ := aM (xge hg); have bK := aM (xge hg); replace HB := xbs hb; clear hb hbox hg) | ((with_reducible refine gD 3 rfl ?_); refine boxE (N := 3) rfl (cs := #[.int .i64 aP, .slice aT aI.length aU, .int .i64 aQ, .slice aY aJ.length aZ]) (t := 30) ?_; intro bL hg jF hbox hb; have bM := aM (xge hg); have bN := aM (xge hg); replace HB := xbs hb; have aB := nblt aA hg; have aC := nbgt aA hg; replace aA := xbb aA hb; have aE := aM (hbox); clear hb hbox hg; have jG := aB.out; have jH := aC.out; obtain ⟨cQ, cS, cT, cU, cV, cW, cX, cY⟩ := xf4 (w := jF) aA; obtain ⟨cZ, dA, dB, dC, dD, dE, dF, dG⟩ := xf4 (w := jF) aE) | ((with_reducible refine gC 29 rfl ?_); refine goesLY (some 14) rfl Try.func29 #[.slice aR aF.length aS, .slice aT aI.length aU] ?_; (with_reducible refine (laws_eqRelS.calls k _ _ aF _ _ aI true _ ?side1 ?side2 ?side3 ?side4 A4.out).mono ?_); (case side1 => exact xcb bC); (case side2 => exact bE.out); (case side3 => exact xcb bG); (case side4 => exact bH.out); rintro e jI ⟨rfl, hb⟩; refine ⟨_, rfl, ?_⟩; replace aA := xbb aA hb; replace aE := xbb aE hb; replace HB := xbs hb; (try clear hb); obtain ⟨dH, dI, dJ, dK, dL, dM, dN, dO⟩ := xf4 (w := jI) aA; obtain ⟨dP, dQ, dR, dS, dU, dV, dW, dX⟩ := xf4 (w := jI) aE) | ((with_reducible refine gC 9 rfl ?_); refine goesLY (some 25) rfl Try.func9 #[.slice aW aG.length aX, .slice aY aJ.length aZ] ?_; (with_reducible refine (laws_eqIntS.calls k _ _ aG _ _ aJ true _ ?side1 ?side2 ?side3 ?side4 A7.out).mono ?_); (case side1 => exact xcb cB); (case side2 => exact cC.out); (case side3 => exact xcb cD); (case side4 => exact cE.out); rintro e w' ⟨rfl, ⟨nd, rfl⟩⟩; refine ⟨_, rfl, ?_⟩))
     go_ret
     exact ⟨xerr, xbg⟩
    ·replace c8 := Bool.eq_false_iff.mpr c8; subst c8; replace H := iN H; obtain rfl := Option.some.inj H; go_enter Try.func10, Try.ntmps10
     go_wp2_with (first | ((with_reducible refine gD 2 rfl ?_); refine boxE (N := 2) rfl (cs := #[.int .i64 aK, .slice aR aF.length aS, .int .i64 aL, .slice aW aG.length aX]) (t := 30) ?_; intro bI hg kR hbox hb; have aA := aM (hbox); have bJ := aM (xge hg); have bK := aM (xge hg); replace HB := xbs hb; clear hb hbox hg) | ((with_reducible refine gD 3 rfl ?_); refine boxE (N := 3) rfl (cs := #[.int .i64 aP, .slice aT aI.length aU, .int .i64 aQ, .slice aY aJ.length aZ]) (t := 30) ?_; intro bL hg jJ hbox hb; have bM := aM (xge hg); have bN := aM (xge hg); replace HB := xbs hb; have aB := nblt aA hg; have aC := nbgt aA hg; replace aA := xbb aA hb; have aE := aM (hbox); clear hb hbox hg; have jK := aB.out; have jL := aC.out; obtain ⟨dY, dZ, eA, eB, eC, eD, eE, eF⟩ := xf4 (w := jJ) aA; obtain ⟨eG, eH, eI, eJ, eK, eL, eM, eN⟩ := xf4 (w := jJ) aE) | ((with_reducible refine gC 29 rfl ?_); refine goesLY (some 14) rfl Try.func29 #[.slice aR aF.length aS, .slice aT aI.length aU] ?_; (with_reducible refine (laws_eqRelS.calls k _ _ aF _ _ aI true _ ?side1 ?side2 ?side3 ?side4 A4.out).mono ?_); (case side1 => exact xcb bC); (case side2 => exact bE.out); (case side3 => exact xcb bG); (case side4 => exact bH.out); rintro e jM ⟨rfl, hb⟩; refine ⟨_, rfl, ?_⟩; replace aA := xbb aA hb; replace aE := xbb aE hb; replace HB := xbs hb; (try clear hb); obtain ⟨eO, eP, eQ, eR, eS, eT, eU, eV⟩ := xf4 (w := jM) aA; obtain ⟨eW, eX, eY, eZ, fA, fB, fC, fD⟩ := xf4 (w := jM) aE) | ((with_reducible refine gC 9 rfl ?_); refine goesLY (some 25) rfl Try.func9 #[.slice aW aG.length aX, .slice aY aJ.length aZ] ?_; (with_reducible refine (laws_eqIntS.calls k _ _ aG _ _ aJ false _ ?side1 ?side2 ?side3 ?side4 A7.out).mono ?_); (case side1 => exact xcb cB); (case side2 => exact cC.out); (case side3 => exact xcb cD); (case side4 => exact cE.out); rintro e w' ⟨rfl, ⟨nd, rfl⟩⟩; refine ⟨_, rfl, ?_⟩))
     go_ret
     exact ⟨xerr, xbg⟩
   ·rw [if_neg c6] at H; obtain ⟨iQ, iR⟩ := bF c6; obtain rfl := Option.some.inj H; go_enter Try.func10, Try.ntmps10
    go_wp2_with (first | ((with_reducible refine gD 2 rfl ?_); refine boxE (N := 2) rfl (cs := #[.int .i64 aK, .slice aR aF.length aS, .int .i64 aL, .slice aW aG.length aX]) (t := 30) ?_; intro bI hg kS hbox hb; have aA := aM (hbox); have bJ := aM (xge hg); have bK := aM (xge hg); replace HB := xbs hb; clear hb hbox hg) | ((with_reducible refine gD 3 rfl ?_); refine boxE (N := 3) rfl (cs := #[.int .i64 aP, .slice aT aI.length aU, .int .i64 aQ, .slice aY aJ.length aZ]) (t := 30) ?_; intro bL hg jN hbox hb; have bM := aM (xge hg); have bN := aM (xge hg); replace HB := xbs hb; have aB := nblt aA hg; have aC := nbgt aA hg; replace aA := xbb aA hb; have aE := aM (hbox); clear hb hbox hg; have jO := aB.out; have jP := aC.out; obtain ⟨fE, fF, fG, fH, fI, fJ, fK, fL⟩ := xf4 (w := jN) aA; obtain ⟨fM, fN, fO, fP, fQ, fR, fS, fT⟩ := xf4 (w := jN) aE) | ((with_reducible refine gC 29 rfl ?_); refine goesLY (some 14) rfl Try.func29 #[.slice aR aF.length aS, .slice aT aI.length aU] ?_; (with_reducible refine (laws_eqRelS.calls k _ _ aF _ _ aI true _ ?side1 ?side2 ?side3 ?side4 A4.out).mono ?_); (case side1 => exact xcb bC); (case side2 => exact bE.out); (case side3 => exact xcb bG); (case side4 => exact bH.out); rintro e jQ ⟨rfl, hb⟩; refine ⟨_, rfl, ?_⟩; replace aA := xbb aA hb; replace aE := xbb aE hb; replace HB := xbs hb; (try clear hb); obtain ⟨fU, fV, fW, fX, fY, fZ, gA, gB⟩ := xf4 (w := jQ) aA; obtain ⟨gE, gF, gG, gH, gI, gJ, gK, gL⟩ := xf4 (w := jQ) aE))
    go_ret
    exact ⟨xerr, xbg⟩
  ·replace c5 := Bool.eq_false_iff.mpr c5; subst c5; replace H := iN H; obtain rfl := Option.some.inj H; go_enter Try.func10, Try.ntmps10
   go_wp2_with (first | ((with_reducible refine gD 2 rfl ?_); refine boxE (N := 2) rfl (cs := #[.int .i64 aK, .slice aR aF.length aS, .int .i64 aL, .slice aW aG.length aX]) (t := 30) ?_; intro bI hg kT hbox hb; have aA := aM (hbox); have bJ := aM (xge hg); have bK := aM (xge hg); replace HB := xbs hb; clear hb hbox hg) | ((with_reducible refine gD 3 rfl ?_); refine boxE (N := 3) rfl (cs := #[.int .i64 aP, .slice aT aI.length aU, .int .i64 aQ, .slice aY aJ.length aZ]) (t := 30) ?_; intro bL hg jR hbox hb; have bM := aM (xge hg); have bN := aM (xge hg); replace HB := xbs hb; have aB := nblt aA hg; have aC := nbgt aA hg; replace aA := xbb aA hb; have aE := aM (hbox); clear hb hbox hg; have jS := aB.out; have jT := aC.out; obtain ⟨gM, gN, gO, gP, gQ, gR, gS, gT⟩ := xf4 (w := jR) aA; obtain ⟨gU, gV, gW, gX, gY, gZ, hJ, hU⟩ := xf4 (w := jR) aE) | ((with_reducible refine gC 29 rfl ?_); refine goesLY (some 14) rfl Try.func29 #[.slice aR aF.length aS, .slice aT aI.length aU] ?_; (with_reducible refine (laws_eqRelS.calls k _ _ aF _ _ aI false _ ?side1 ?side2 ?side3 ?side4 A4.out).mono ?_); (case side1 => exact xcb bC); (case side2 => exact bE.out); (case side3 => exact xcb bG); (case side4 => exact bH.out); rintro e kU ⟨rfl, hb⟩; refine ⟨_, rfl, ?_⟩; replace aA := xbb aA hb; replace aE := xbb aE hb; replace HB := xbs hb; (try clear hb)))
   go_ret
   exact ⟨xerr, xbg⟩
 ·rw [if_neg c3] at H; obtain ⟨bB, iP⟩ := bF c3; obtain rfl := Option.some.inj H; go_enter Try.func10, Try.ntmps10
  go_wp2_with (first | ((with_reducible refine gD 2 rfl ?_); refine boxE (N := 2) rfl (cs := #[.int .i64 aK, .slice aR aF.length aS, .int .i64 aL, .slice aW aG.length aX]) (t := 30) ?_; intro bI hg kV hbox hb; have aA := aM (hbox); have bJ := aM (xge hg); have bK := aM (xge hg); replace HB := xbs hb; clear hb hbox hg) | ((with_reducible refine gD 3 rfl ?_); refine boxE (N := 3) rfl (cs := #[.int .i64 aP, .slice aT aI.length aU, .int .i64 aQ, .slice aY aJ.length aZ]) (t := 30) ?_; intro bL hg jU hbox hb; have bM := aM (xge hg); have bN := aM (xge hg); replace HB := xbs hb; have aB := nblt aA hg; have aC := nbgt aA hg; replace aA := xbb aA hb; have aE := aM (hbox); clear hb hbox hg; have jV := aB.out; have jW := aC.out; obtain ⟨hX, hZ, iA, iB, iC, iD, iE, iF⟩ := xf4 (w := jU) aA; obtain ⟨iG, iH, iI, iJ, iK, iL, iM, iO⟩ := xf4 (w := jU) aE))
  go_ret
  exact ⟨xerr, xbg⟩

/-! ### laws_markIntS: function 12 -/
def laws_markIntS.l0 : Nat → List Int → Int → Int → Option (Int × List Int)
 | 0, _, _, _ => none
 | k + 1, x0, x1, x5 => if x5 < (x0.length : Int) then (if 0 ≤ x5 then (laws_markIntS.l0 k (x0.set (x5 : Int).toNat x1) (wrap64 (x1 + 1)) (wrap64 (x5 + 1))) else (none)) else (some (x1, x0))
def laws_markIntS.f (k : Nat) (l0 : List Int) (a1 : Int) : Option (Int × List Int) := laws_markIntS.l0 k l0 a1 0
theorem u7_mq1 {p : Prop} (h : p := by repeat' first | (with_reducible first | exact cG _ _ _ | exact LeO.refl _ | exact LeO.none _ | refine LeO.ite ?_ ?_ | refine LeO.bind ?_ (fun _ => ?_)) | exact LeO.none _ | refine LeO.ite ?_ ?_ | refine LeO.bind ?_ (fun _ => ?_)) : p := h
set_option maxRecDepth 100000 in
theorem laws_markIntS.mono_l : ∀ k, (∀ y0 y1 y2, LeO (laws_markIntS.l0 k y0 y1 y2) (laws_markIntS.l0 (k + 1) y0 y1 y2))
 | 0 => fun _ _ _ r h => by simp [laws_markIntS.l0] at h
 | k + 1 => by
  have cG := laws_markIntS.mono_l k
  ·intro y0 y1 y2; unfold laws_markIntS.l0; exact u7_mq1
theorem laws_markIntS.mono : ∀ a0 a1 k, LeO (laws_markIntS.f k a0 a1) (laws_markIntS.f (k + 1) a0 a1) := by
 intro a0 a1 k
 have cG := laws_markIntS.mono_l k
 unfold laws_markIntS.f
 exact u7_mq1
set_option maxHeartbeats 8000000 in
set_option maxRecDepth 100000 in
theorem laws_markIntS.calls (k : Nat) (P0_ : Nat → Prop) (u9000_ : Value) (l0 : List Int) (a1 : Int) (r1 : Int) (r2 : List Int) (w0 w : World) (hB : Below w0.heap.size w0 w) (kH : Kd.R (Kd.int .i64) 3 w w0.heap.size P0_ u9000_ l0) (h : laws_markIntS.f k l0 a1 = some (r1, r2)) :
 Calls Try.prog 12 #[u9000_, .int .i64 a1] w fun e w' => e = .returned (.int .i64 r1) ∧ Kd.R (Kd.int .i64) 3 w' w0.heap.size (fun k_ => (P0_ k_ ∨ w.heap.size ≤ k_)) u9000_ r2 ∧ Below w0.heap.size w0 w' ∧ Kept w w' (fun k_ => P0_ k_) := by
 have kI := aM (show Kd.R (Kd.int .i64) 3 w w0.heap.size (fun k_ => (P0_ k_ ∨ w.heap.size ≤ k_)) u9000_ l0 from Kd.R_mono kH (fun k_ hk => (.inl hk)))
 have HK := aM (Kept.refl w (fun k_ => P0_ k_))
 have HW0 := aM hB.size
 have HB := aM hB
 clear hB
 have H : (laws_markIntS.l0 k l0 a1 0) = some (r1, r2) := h
 clear h
 have H' := aM H
 clear H
 go_enter Try.func12, Try.ntmps12
 go_wp2
 go_loopg [1, 5] k (fun kq v1 v5 w' => ∃ (aH : List Int) (aN : Int) (aD : Int), v1 = .int .i64 aN ∧ v5 = .int .i64 aD ∧ Aside0 (laws_markIntS.l0 kq aH aN aD = some (r1, r2)) ∧ Aside0 (kq ≤ k) ∧ Aside0 (Kd.R (Kd.int .i64) 3 w' w0.heap.size (fun k_ => (P0_ k_ ∨ w.heap.size ≤ k_)) u9000_ aH) ∧ Aside0 (Kept w w' (fun k_ => P0_ k_)) ∧ Aside0 (Below w0.heap.size w0 w'))
 case atStart => exact ⟨(l0), (a1), (0), u7_0, u7_0, H', ⟨Nat.le_refl _⟩, ⟨by (with_reducible repeat (first | apply Kd.R_alloc | apply Kd.R_drewN | apply Kd.R_drew)); exact kI.out⟩, ⟨u7_2⟩, ⟨xbel⟩⟩
 case round =>
  clear H'; try clear c1
  try clear p2
  obtain ⟨aH, aN, aD, rfl, rfl, HA, HK1, aV, HK, HB⟩ := hrel; cases gk with
  | zero => exact absurd HA.out (by simp [laws_markIntS.l0])
  | succ k1 =>
   have H := HA.out; clear HA; simp only [laws_markIntS.l0] at H; by_cases c3 : aD < (aH.length : Int)
   ·rw [if_pos c3] at H; have bB : decide (aD < (aH.length : Int)) = true := decide_eq_true c3; clear c3; by_cases c4 : 0 ≤ aD
    ·rw [if_pos c4] at H; have cJ : decide (0 ≤ aD) = true := decide_eq_true c4; clear c4; obtain ⟨cH, hY⟩ : ∃ y_ : List Int, y_ = (aH.set (aD : Int).toNat aN) := ⟨_, rfl⟩; replace H : (laws_markIntS.l0 k1 cH (wrap64 (aN + 1)) (wrap64 (aD + 1))) = some (r1, r2) := u7_4; have cK := aM hY; clear hY; have H' := aM H; clear H; obtain ⟨kW, kJ, kK⟩ := Kd.R_slice aV.out; subst kK; have p5 : 0 ≤ (aD : Int) := oda; have q5 : (aD : Int) < ((aH.length : Int) : Int) := oda; obtain ⟨cL, kX, jX, jY, gl5, cl5, HG5⟩ := Kd.R_form aV.out (by omega); (first | cases jX | (injection jX with ea_ en_ ec_; (first | subst ea_ | (injection ea_ with ea_; subst ea_)); subst ec_; clear en_)); have GB5 := aM jY; have GG5 := aM HG5; clear jY gl5 HG5; have HMgo5 := aM (show (P0_ cL ∨ w.heap.size ≤ cL) from (aV.out.1 _ rfl)); obtain ⟨jZ, kA⟩ := Kd.R_celln 0 aV.out (aD : Int) p5 q5; replace p5 := eq_true p5; replace q5 := eq_true q5; have iS := Kd.R_putg aV.out (aD : Int) aN; go_wp2_with (first | ((with_reducible refine gate_store (t := 3) (p := 15) rfl ?_); refine store_event (t := 3) (p := 15) (v := ?vo_w8) (w1 := (wr.setCell ⟨cL, (aD : Int).toNat, none⟩ (.int .i64 aN))) ?hg ?ho ?hn ?hr ?_; (case ho | hg | hn => rfl); (case hr => exact u7_1); intro w8 hw; have hg : wr.grownBy w8 (some cL) := (by rw [hw]; exact iS.2); have hp_ : Kd.R (Kd.int .i64) 3 w8 w0.heap.size (fun k_ => (P0_ k_ ∨ w.heap.size ≤ k_)) (.slice (some ⟨cL, 0, none⟩) aH.length kJ) cH := (by rw [hw, cK.out]; exact iS.1); clear iS; replace HB := aM ((by rw [hw]; exact below_set (HB.out) GB5.out : Below w0.heap.size w0 w8)); replace HK := aM (Kept.of_grown (S := (fun k_ => P0_ k_)) hg u7_2 (fun k_ e_ => (aV.out.1 k_ e_))); replace aV := aM (hp_); clear hg hw hp_))
     go_roundg k1
     case measure => have := HK1.out; omega
     case rel => exact ⟨(cH), (wrap64 (aN + 1)), (wrap64 (aD + 1)), u7_0, u7_0, H', ⟨by have := HK1.out; omega⟩, ⟨u7_5⟩, ⟨u7_2⟩, ⟨xbel⟩⟩
    ·rw [if_neg c4] at H; exact absurd H (by simp)
   ·rw [if_neg c3] at H; have bB : decide (aD < (aH.length : Int)) = false := decide_eq_false c3; clear c3; simp only [Option.some.injEq, Prod.mk.injEq] at H; obtain ⟨rfl, rfl⟩ := H; obtain ⟨kY, kZ, kL⟩ := Kd.R_slice aV.out; subst kL; go_wp2; go_ret
    exact ⟨xerr, u7_5, xbel, u7_2⟩

/-! ### laws_markText: function 44 -/
def laws_markText.l0 : Nat → Int → ByteArray → Option (ByteArray)
 | 0, _, _ => none
 | k + 1, x0, x3 => if x0 > 0 then ((some (([(wrap64 (48 + (Int.tmod x0 10))) % 256] : List Int) : List Int)).bind fun bA => (if (strOfNums bA).size + x3.size ≤ 9223372036854775807 then (laws_markText.l0 k (wrap64 (Int.tdiv x0 10)) ((strOfNums bA) ++ x3)) else (none))) else (if 1 + x3.size ≤ 9223372036854775807 then (some ((⟨#[109]⟩ : ByteArray) ++ x3)) else (none))
def laws_markText.f (k : Nat) (a0 : Int) : Option (ByteArray) := if a0 ≤ 0 then (some (⟨#[109, 48]⟩ : ByteArray)) else (laws_markText.l0 k a0 (⟨#[]⟩ : ByteArray))
theorem u7_mq2 {p : Prop} (h : p := by repeat' first | (with_reducible first | exact cG _ _ | exact LeO.refl _ | exact LeO.none _ | refine LeO.ite ?_ ?_ | refine LeO.bind ?_ (fun _ => ?_)) | exact LeO.none _ | refine LeO.ite ?_ ?_ | refine LeO.bind ?_ (fun _ => ?_)) : p := h
set_option maxRecDepth 100000 in
theorem laws_markText.mono_l : ∀ k, (∀ y0 y1, LeO (laws_markText.l0 k y0 y1) (laws_markText.l0 (k + 1) y0 y1))
 | 0 => fun _ _ r h => by simp [laws_markText.l0] at h
 | k + 1 => by
  have cG := laws_markText.mono_l k
  ·intro y0 y1; unfold laws_markText.l0; exact u7_mq2
theorem laws_markText.mono : ∀ a0 k, LeO (laws_markText.f k a0) (laws_markText.f (k + 1) a0) := by
 intro a0 k
 have cG := laws_markText.mono_l k
 unfold laws_markText.f
 exact u7_mq2
set_option maxHeartbeats 8000000 in
set_option maxRecDepth 100000 in
theorem laws_markText.calls (k : Nat) (a0 : Int) (r : ByteArray) (w : World) (h : laws_markText.f k a0 = some r) :
 Calls Try.prog 44 #[.int .i64 a0] w fun e w' => e = .returned (.string r) ∧ Below w.heap.size w w' := by
 have HB := aM (Below.refl w.heap.size w)
 have H : (if a0 ≤ 0 then (some (⟨#[109, 48]⟩ : ByteArray)) else (laws_markText.l0 k a0 (⟨#[]⟩ : ByteArray))) = some r := h
 clear h
 by_cases c2 : a0 ≤ 0
 ·rw [if_pos c2] at H; have cM : decide (a0 ≤ 0) = true := decide_eq_true c2; clear c2; obtain rfl := Option.some.inj H; go_enter Try.func44, Try.ntmps44
  go_wp2; go_ret
  exact ⟨xerr, xbel⟩
 ·rw [if_neg c2] at H; have cM : decide (a0 ≤ 0) = false := decide_eq_false c2; clear c2; have H' := aM H; clear H; go_enter Try.func44, Try.ntmps44
  go_wp2; go_loopg [0, 3] k (fun kq v0 v3 w' => ∃ (aH : Int) (aO : ByteArray), v0 = .int .i64 aH ∧ v3 = .string aO ∧ Aside0 (laws_markText.l0 kq aH aO = some r) ∧ Aside0 (kq ≤ k) ∧ Aside0 (Below w.heap.size w w'))
  case atStart => exact ⟨(a0), ((⟨#[]⟩ : ByteArray)), u7_0, u7_0, H', ⟨Nat.le_refl _⟩, ⟨xbel⟩⟩
  case round =>
   clear H'; try clear c2
   try clear cM
   try clear p2
   obtain ⟨aH, aO, rfl, rfl, HA, HK1, HB⟩ := hrel; cases gk with
   | zero => exact absurd HA.out (by simp [laws_markText.l0])
   | succ k1 =>
    have H := HA.out; clear HA; simp only [laws_markText.l0] at H; by_cases c3 : aH > 0
    ·rw [if_pos c3] at H; have bB : decide (0 < aH) = true := decide_eq_true c3; clear c3; obtain ⟨bA, hY⟩ : ∃ y_ : List Int, y_ = (([(wrap64 (48 + (Int.tmod aH 10))) % 256] : List Int)) := ⟨_, rfl⟩; replace H : (if (strOfNums bA).size + aO.size ≤ 9223372036854775807 then (laws_markText.l0 k1 (wrap64 (Int.tdiv aH 10)) ((strOfNums bA) ++ aO)) else (none)) = some r := u7_4; have cF := aM hY; clear hY; by_cases c4 : (strOfNums bA).size + aO.size ≤ 9223372036854775807
     ·rw [if_pos c4] at H; have cJ := eq_true c4; have kM : decide ((strOfNums bA).size + aO.size ≤ 9223372036854775807) = true := decide_eq_true c4; try have kN : (9223372036854775807 < (strOfNums bA).size + aO.size) = False := eq_false (Nat.not_lt.2 c4)
      have H' := aM H; clear H; go_wp2_with (first | ((with_reducible refine gD 12 rfl ?_); refine Kd.R_lit (Kd.int .u8) _ 5 ?hg (N := 12) ?hd (xs := ([(wrap64 (48 + (Int.tmod aH 10))) % 256] : List Int)) (inner := [.int .u8 ((wrap64 (48 + (Int.tmod aH 10))) % 256)]) (ok := fun _ => True) (okp := fun _ => True) ?hr ?hp (fun _ hk => hk) trivial (Below.refl _ _) (Nat.le_refl _) (by simp) ?_; (case hd => rfl); (case hg => rfl); (case hr => exact u7_1); (case hp => exact (Reps.one (show Kd.M (Kd.int .u8) _ _ _ ((wrap64 (48 + (Int.tmod aH 10))) % 256) [.int .u8 ((wrap64 (48 + (Int.tmod aH 10))) % 256)] from rfl) (Reps.none _ _))); intro v234 w5 cN hb hg_ hnew_; clear hg_ hnew_; (first | rw [← cF.out] at cN | (simp only [Int.reduceToNat] at cN; rw [← cF.out] at cN)); have cO := aM (Kd.R_lower cN (below_size xbel)); replace HB := xbs hb; clear hb cN; have hcv7 := own_string (P := Try.prog) Try.underlying59 Try.underlying5 Try.underlying9 (Kd.own_of_R cO.out)))
      go_roundg k1
      case measure => have := HK1.out; omega
      case rel => exact ⟨(wrap64 (Int.tdiv aH 10)), ((strOfNums bA) ++ aO), u7_0, u7_0, H', ⟨by have := HK1.out; omega⟩, ⟨xbel⟩⟩
     ·rw [if_neg c4] at H; exact absurd H (by simp)
    ·rw [if_neg c3] at H; have bB : decide (0 < aH) = false := decide_eq_false c3; clear c3; by_cases c8 : 1 + aO.size ≤ 9223372036854775807
     ·rw [if_pos c8] at H; have kO := eq_true c8; have kP : decide (1 + aO.size ≤ 9223372036854775807) = true := decide_eq_true c8; try have kQ : (9223372036854775807 < 1 + aO.size) = False := eq_false (Nat.not_lt.2 c8)
      obtain rfl := Option.some.inj H; go_wp2; go_ret
      exact ⟨xerr, xbel⟩
     ·rw [if_neg c8] at H; exact absurd H (by simp)

/-! ### laws_markRelS: function 30 -/
def bumped : Nat → Int → Int
  | 0, a => a
  | n + 1, a => bumped n (wrap64 (a + 1))
def laws_markRelS.l0 (k : Nat) : List S38 → Int → Option Int
  | [], a => some a
  | x :: t, a => (laws_markText.f k (wrap64 (wrap64 (a + 1) + 1))).bind fun _ => laws_markRelS.l0 k t (wrap64 (bumped x.f3.length (wrap64 (wrap64 (wrap64 (a + 1) + 1) + 1)) + 1))
def laws_markRelS.f (k : Nat) (l0 : List S38) (a1 : Int) : Option Int := laws_markRelS.l0 k l0 a1
theorem laws_markRelS.mono_l0 (k : Nat) : ∀ l a, LeO (laws_markRelS.l0 k l a) (laws_markRelS.l0 (k + 1) l a)
  | [], a => LeO.refl _
  | x :: t, a => LeO.bind (laws_markText.mono _ _) fun _ => laws_markRelS.mono_l0 k t _
theorem laws_markRelS.mono : ∀ a0 a1 k, LeO (laws_markRelS.f k a0 a1) (laws_markRelS.f (k + 1) a0 a1) := fun l a k => laws_markRelS.mono_l0 k l a
/-- In a cell's place stands a like one: a number for a number, a string for a string, all else as it was. -/
def LikeV (u v : Value) : Prop := u = v ∨ (∃ k x y, u = .int k x ∧ v = .int k y) ∨ (∃ s t, u = .string s ∧ v = .string t)
theorem LikeV.trans {a b c : Value} (h : LikeV a b) (k : LikeV b c) : LikeV a c := by
  rcases h with rfl | ⟨m, x, y, rfl, rfl⟩ | ⟨s, t, rfl, rfl⟩
  · exact k
  · rcases k with rfl | ⟨m', x', y', h1, rfl⟩ | ⟨s, t, h1, rfl⟩
    · exact .inr (.inl ⟨m, x, y, rfl, rfl⟩)
    · injection h1 with h1 h2; subst h1; exact .inr (.inl ⟨m, x, y', rfl, rfl⟩)
    · cases h1
  · rcases k with rfl | ⟨m', x', y', h1, rfl⟩ | ⟨s', t', h1, rfl⟩
    · exact .inr (.inr ⟨s, t, rfl, rfl⟩)
    · cases h1
    · exact .inr (.inr ⟨s, t', rfl, rfl⟩)
theorem LikeV.int {k : IntKind} {x : Int} {v : Value} (h : LikeV (.int k x) v) : ∃ y, v = .int k y := by
  rcases h with rfl | ⟨m, x', y, h1, rfl⟩ | ⟨s, t, h1, rfl⟩
  · exact ⟨x, rfl⟩
  · injection h1 with h1 h2; subst h1; exact ⟨y, rfl⟩
  · cases h1
theorem LikeV.string {x : ByteArray} {v : Value} (h : LikeV (.string x) v) : ∃ y, v = .string y := by
  rcases h with rfl | ⟨m, x', y, h1, rfl⟩ | ⟨s, t, h1, rfl⟩
  · exact ⟨x, rfl⟩
  · cases h1
  · exact ⟨t, rfl⟩
theorem LikeV.slice {A : Option Addr} {n c : Nat} {v : Value} (h : LikeV (.slice A n c) v) : v = .slice A n c := by
  rcases h with rfl | ⟨m, x', y, h1, rfl⟩ | ⟨s, t, h1, rfl⟩
  · rfl
  · cases h1
  · cases h1
/-- A world behind stores of like cells into blocks of P. -/
structure LikeW (P : Nat → Prop) (w W : World) : Prop where
  size : w.heap.size ≤ W.heap.size
  kept : ∀ i, i < w.heap.size → ¬ P i → W.heap[i]? = w.heap[i]?
  cell : ∀ g j u, w.cell? ⟨g, j, none⟩ = some u → ∃ v, W.cell? ⟨g, j, none⟩ = some v ∧ LikeV u v
  frozen : ∀ g j, g < w.heap.size → W.frozen? ⟨g, j, none⟩ = w.frozen? ⟨g, j, none⟩
theorem LikeW.refl (P : Nat → Prop) (w : World) : LikeW P w w := ⟨Nat.le_refl _, fun _ _ _ => rfl, fun _ _ u h => ⟨u, h, .inl rfl⟩, fun _ _ _ => rfl⟩
theorem LikeW.trans {P Q : Nat → Prop} {w W W2 : World} (h : LikeW P w W) (k : LikeW Q W W2) (hq : ∀ i, Q i → P i) : LikeW P w W2 := by
  refine ⟨Nat.le_trans h.size k.size, fun i hi hp => (k.kept i (Nat.lt_of_lt_of_le hi h.size) (fun hh => hp (hq i hh))).trans (h.kept i hi hp), fun g j u hu => ?_, fun g j hg => (k.frozen g j (Nat.lt_of_lt_of_le hg h.size)).trans (h.frozen g j hg)⟩; obtain ⟨v, hv, h1⟩ := h.cell g j u hu; obtain ⟨v2, hv2, h2⟩ := k.cell g j v hv; exact ⟨v2, hv2, h1.trans h2⟩
theorem LikeW.of_below {w W : World} (P : Nat → Prop) (h : Below w.heap.size w W) : LikeW P w W :=
  ⟨h.size, fun i hi _ => h.block i hi, fun g j u hu => ⟨u, pw_cell_below h hu, .inl rfl⟩, fun g j hg => by simp [World.frozen?, h.block g hg]⟩
theorem LikeW.set {P : Nat → Prop} {w W : World} (h : LikeW P w W) {g j : Nat} {u v : Value} (hp : P g) (hc : W.cell? ⟨g, j, none⟩ = some u) (hl : LikeV u v) : LikeW P w (W.setCell ⟨g, j, none⟩ v) := by
  refine h.trans (Q := P) ⟨by simp [World.setCell], fun i _ hn => Below.heap_setCell W _ v i (fun e => hn (e ▸ hp)), fun g' j' u' hu' => ?_, fun g' j' _ => World.frozen?_setCell ..⟩ (fun _ h => h); by_cases e : g' = g ∧ j' = j
  · obtain ⟨rfl, rfl⟩ := e; rw [hc] at hu'; obtain rfl := Option.some.inj hu'; exact ⟨v, World.cell?_setCell_same W _ v hc, hl⟩
  · refine ⟨u', ?_, .inl rfl⟩; rw [World.cell?_setCell_other W ⟨g, j, none⟩ ⟨g', j', none⟩ v (by simp; intro h1 h2; exact e ⟨h1.symm, h2.symm⟩)]; exact hu'
theorem LikeW.keeps {P : Nat → Prop} {w W : World} (h : LikeW P w W) : Kept w W P := ⟨h.size, h.kept⟩
/-- A row of numbers of the call's own, whatever they are. -/
def IntRow (P : Nat → Prop) (B : Nat) (w : World) (v : Value) (n : Nat) : Prop := ∃ A c, v = .slice A n c ∧ n ≤ 9223372036854775807 ∧ (0 < n → ∃ g, A = some ⟨g, 0, none⟩ ∧ P g ∧ B ≤ g ∧ g < w.heap.size ∧ ∀ j, j < n → (∃ x, w.cell? ⟨g, j, none⟩ = some (.int .i64 x)) ∧ w.frozen? ⟨g, j, none⟩ = false)
theorem IntRow.like {P Q : Nat → Prop} {B n : Nat} {w W : World} {v : Value} (h : IntRow P B w v n) (hl : LikeW Q w W) : IntRow P B W v n := by
  obtain ⟨A, c, rfl, hn, hg⟩ := h; refine ⟨A, c, rfl, hn, fun h0 => ?_⟩; obtain ⟨g, rfl, hp, hb, hlt, hc⟩ := hg h0; refine ⟨g, rfl, hp, hb, Nat.lt_of_lt_of_le hlt hl.size, fun j hj => ?_⟩; obtain ⟨⟨x, hx⟩, hf⟩ := hc j hj; obtain ⟨v, hv, hlv⟩ := hl.cell _ _ _ hx; obtain ⟨y, rfl⟩ := hlv.int; exact ⟨⟨y, hv⟩, (hl.frozen g j hlt).trans hf⟩
theorem IntRow.of_R {P : Nat → Prop} {e B : Nat} {w : World} {v : Value} {xs : List Int} (h : (Kd.int .i64).R e w B P v xs) : IntRow P B w v xs.length := by
  obtain ⟨A, c, rfl, hc, hC⟩ := Kd.R_reads h; refine ⟨A, c, rfl, hC.2.1, fun h0 => ?_⟩; obtain ⟨g, cap, he, hb, hlt, _⟩ := Kd.R_form h h0; injection he with e1 e2 e3
  subst e1; refine ⟨g, rfl, h.1 g rfl, hb, hlt, fun j hj => ?_⟩; obtain ⟨cc, _, hM, hcc, hfr⟩ := Kd.R_elem h 0 (j : Int) (by omega) (by omega); obtain rfl : cc = [.int .i64 (xs.getD (j : Int).toNat 0)] := hM; have h1 := hcc 0 _ rfl; have h2 := hfr 0; simp only [show (Kd.int .i64).sz = 1 from rfl, Nat.mul_one, Nat.add_zero, Int.toNat_natCast] at h1 h2; exact ⟨⟨_, h1⟩, h2⟩
set_option maxHeartbeats 4000000 in
theorem markIntS_like (P : Nat → Prop) (v : Value) (n : Nat) (a1 : Int) (w0 w : World) (hB : Below w0.heap.size w0 w) (hv : IntRow P w0.heap.size w v n) :
    Calls Try.prog 12 #[v, .int .i64 a1] w fun e w' => e = .returned (.int .i64 (bumped n a1)) ∧ LikeW P w w' ∧ Below w0.heap.size w0 w' := by
  obtain ⟨A, c, rfl, hn, hg⟩ := hv; have HG := Aside0.mk hg; have HB := Aside0.mk hB; clear hg hB; go_enter Try.func12, Try.ntmps12
  go_wp2; go_loopg [1, 5] n (fun gg v1 v5 wr => ∃ (i a : Int), v1 = .int .i64 a ∧ v5 = .int .i64 i ∧ 0 ≤ i ∧ i ≤ n ∧ n - i.toNat ≤ gg ∧ Aside0 (bumped (n - i.toNat) a = bumped n a1) ∧ Aside0 (LikeW P w wr) ∧ Aside0 (Below w0.heap.size w0 wr))
  case atStart => exact ⟨0, a1, rfl, rfl, by omega, by omega, by omega, ⟨rfl⟩, ⟨LikeW.refl _ _⟩, HB⟩
  case round =>
    obtain ⟨i, a, rfl, rfl, h0, h1, hgg, AI, HL, HBr⟩ := hrel; by_cases hlt : i < (n : Int)
    · obtain ⟨g, rfl, hp, hbg, hgl, hcell⟩ := HG.out (by omega); obtain ⟨⟨x, hx⟩, hf⟩ := hcell i.toNat (by omega); obtain ⟨u, hu, hlu⟩ := HL.out.cell _ _ _ hx; obtain ⟨y, rfl⟩ := hlu.int; have hfu : wr.frozen? ⟨g, i.toNat, none⟩ = false := (HL.out.frozen g _ hgl).trans hf; have HS := Aside0.mk (HL.out.set (v := .int .i64 a) hp hu (.inr (.inl ⟨_, _, _, rfl, rfl⟩))); have HB2 := Aside0.mk (below_set HBr.out hbg (j := i.toNat) (v := .int .i64 a)); clear hx hf hlu hcell hp hbg hgl; go_wp2_with (first | ((with_reducible refine gate_store (t := 3) (p := 15) rfl ?_); refine store_event (t := 3) (p := 15) (v := ?vo_w8) (w1 := (wr.setCell ⟨g, i.toNat, none⟩ (.int .i64 a))) ?hg ?ho ?hn ?hr ?_; (case ho | hg | hn => rfl); (case hr => exact u7_1); intro w8 hw; replace HS := Aside0.mk (hw ▸ HS.out); replace HB2 := Aside0.mk (hw ▸ HB2.out); clear hw))
      go_roundg (n - (i + 1).toNat)
      case measure => omega
      case rel =>
        refine ⟨i + 1, wrap64 (a + 1), rfl, ?_, by omega, by omega, by omega, ⟨?_⟩, HS, HB2⟩
        · first | rfl | simp
        · rw [← AI.out, show n - i.toNat = (n - (i + 1).toNat) + 1 by omega]; rfl
    · obtain rfl : i = n := by omega
      go_wp2; go_ret
      exact ⟨by rw [← AI.out]; simp [bumped], HL.out, HBr.out⟩
theorem IntRow.mono {P Q : Nat → Prop} {B n : Nat} {w : World} {v : Value} (h : IntRow P B w v n) (hq : ∀ k, P k → Q k) : IntRow Q B w v n := by
  obtain ⟨A, c, rfl, hn, hg⟩ := h; exact ⟨A, c, rfl, hn, fun h0 => (hg h0).imp fun g ⟨h1, h2, h3⟩ => ⟨h1, hq _ h2, h3⟩⟩
/-- An element's five cells, in this world and in each that is like it. -/
theorem like_elem {P : Nat → Prop} {w : World} {g o : Nat} {x0 x1 x4 : Int} {x2 : ByteArray} {A : Option Addr} {n c : Nat} (hg : g < w.heap.size)
    (h0 : w.cell? ⟨g, o, none⟩ = some (.int .i64 x0)) (h1 : w.cell? ⟨g, o + 1, none⟩ = some (.int .i64 x1)) (h2 : w.cell? ⟨g, o + 2, none⟩ = some (.string x2))
    (h3 : w.cell? ⟨g, o + 3, none⟩ = some (.slice A n c)) (h4 : w.cell? ⟨g, o + 4, none⟩ = some (.int .i64 x4)) (hf : ∀ j, w.frozen? ⟨g, o + j, none⟩ = false) :
    ∀ W, LikeW P w W → ∃ y0 y1 y4 y2, W.cell? ⟨g, o, none⟩ = some (.int .i64 y0) ∧ W.cell? ⟨g, o + 1, none⟩ = some (.int .i64 y1) ∧ W.cell? ⟨g, o + 2, none⟩ = some (.string y2) ∧ W.cell? ⟨g, o + 3, none⟩ = some (.slice A n c) ∧ W.cell? ⟨g, o + 4, none⟩ = some (.int .i64 y4) ∧
      W.frozen? ⟨g, o, none⟩ = false ∧ W.frozen? ⟨g, o + 1, none⟩ = false ∧ W.frozen? ⟨g, o + 2, none⟩ = false ∧ W.frozen? ⟨g, o + 4, none⟩ = false := by
  intro W h; obtain ⟨v0, c0, l0⟩ := h.cell _ _ _ h0; obtain ⟨v1, c1, l1⟩ := h.cell _ _ _ h1; obtain ⟨v2, c2, l2⟩ := h.cell _ _ _ h2; obtain ⟨v3, c3, l3⟩ := h.cell _ _ _ h3; obtain ⟨v4, c4, l4⟩ := h.cell _ _ _ h4; obtain ⟨y0, rfl⟩ := l0.int; obtain ⟨y1, rfl⟩ := l1.int; obtain ⟨y2, rfl⟩ := l2.string; obtain rfl := l3.slice; obtain ⟨y4, rfl⟩ := l4.int; exact ⟨y0, y1, y4, y2, c0, c1, c2, c3, c4, (h.frozen g _ hg).trans (hf 0), (h.frozen g _ hg).trans (hf 1), (h.frozen g _ hg).trans (hf 2), (h.frozen g _ hg).trans (hf 4)⟩
set_option maxHeartbeats 8000000 in
theorem laws_markRelS.calls (k : Nat) (P : Nat → Prop) (v : Value) (l0 : List S38) (a1 : Int) (r : Int) (w0 w : World) (hB : Below w0.heap.size w0 w) (ho : Kd.R k38 38 w w0.heap.size P v l0) (h : laws_markRelS.f k l0 a1 = some r) :
    Calls Try.prog 30 #[v, .int .i64 a1] w fun e w' => e = .returned (.int .i64 r) ∧ LikeW P w w' ∧ Below w0.heap.size w0 w' := by
  obtain ⟨A, c, rfl⟩ := Kd.R_slice ho; have hmax := (Kd.R_reads' ho).2.2.2.1; have HO := Aside0.mk ho; have HB := Aside0.mk hB; have H0 := Aside0.mk (show laws_markRelS.l0 k (l0.drop (0 : Int).toNat) a1 = some r from h); clear ho hB h; go_enter Try.func30, Try.ntmps30
  go_wp2; go_loopg [1, 5] l0.length (fun gg v1 v5 wr => ∃ (i a : Int), v1 = .int .i64 a ∧ v5 = .int .i64 i ∧ 0 ≤ i ∧ i ≤ l0.length ∧ l0.length - i.toNat ≤ gg ∧ Aside0 (laws_markRelS.l0 k (l0.drop i.toNat) a = some r) ∧ Aside0 (LikeW P w wr) ∧ Aside0 (Below w0.heap.size w0 wr))
  case atStart => exact ⟨0, a1, rfl, rfl, by omega, by omega, by omega, H0, ⟨LikeW.refl _ _⟩, HB⟩
  case round =>
    clear H0; obtain ⟨i, a, rfl, rfl, h0, h1, hgg, AI, HL, HBr⟩ := hrel; by_cases hlt : i < (l0.length : Int)
    · obtain ⟨g, co, eo, hbg, hgl, _⟩ := Kd.R_form HO.out (by omega); injection eo with e1 e2 e3
      subst e1; subst e3; have hp : P g := HO.out.1 g rfl; have hin : i.toNat < l0.length := by omega
      obtain ⟨ce, hcl, hM, hcc, hfr⟩ := Kd.R_elem HO.out z38 i h0 hlt; obtain ⟨v3, rfl, hR⟩ := k38_openM hM; obtain ⟨A3, c3, rfl⟩ := Kd.R_slice hR; have iU := hcc 0 _ rfl; have iV := hcc 1 _ rfl; have iW := hcc 2 _ rfl; have iX := hcc 3 _ rfl; have iY := hcc 4 _ rfl; simp only [show (k38).sz = 5 from rfl, Nat.add_zero] at iU iV iW iX iY hfr; have HE := Aside0.mk (like_elem (P := P) hgl iU iV iW iX iY hfr); have HI := Aside0.mk ((IntRow.of_R hR).mono (Q := P) fun k h => h.1); have hA := AI.out; rw [List.drop_eq_getElem_cons hin, laws_markRelS.l0] at hA; replace hA := Option.bind_eq_some_iff.1 hA; obtain ⟨t, ht, hA⟩ := hA; have HT := Aside0.mk ht; have hz : l0.getD i.toNat z38 = l0[i.toNat] := by rw [List.getD_eq_getElem?_getD, List.getElem?_eq_getElem hin]; rfl
      rw [← hz, show i.toNat + 1 = (i + 1).toNat by omega] at hA; have HA := Aside0.mk hA; have HP := Aside0.mk hp; have HG := Aside0.mk hbg; clear hA hz; clear AI ht hM hR hcc hfr hcl iU iV iW iX iY hp hbg hin; generalize hx : l0.getD i.toNat z38 = x at HI HE HA; clear hx; obtain ⟨y0, y1, y4, y2, m0, m1, m2, m3, m4, f0, f1, f2, f4⟩ := HE.out _ HL.out; go_wp2_with (first
        | ((with_reducible refine gate_store (t := 3) (p := 16) rfl ?_); refine store_event (t := 3) (p := 16) (v := ?vo1) (w1 := (wr.setCell ⟨g, i.toNat * 5, none⟩ (.int .i64 a))) ?hg ?ho ?hn ?hr ?_; (case ho | hg | hn => rfl); (case hr => exact u7_1); intro w1 hw; have HL1 := Aside0.mk (hw ▸ HL.out.set HP.out m0 (.inr (.inl ⟨_, _, _, rfl, rfl⟩)) : LikeW P w w1); have HB1 := Aside0.mk (hw ▸ below_set HBr.out HG.out : Below w0.heap.size w0 w1); clear hw HL HBr m0 m1 m2 m3 m4 f0 f1 f2 f4; obtain ⟨y0, y1, y4, y2, m0, m1, m2, m3, m4, f0, f1, f2, f4⟩ := HE.out _ HL1.out)
        | ((with_reducible refine gate_store (t := 3) (p := 23) rfl ?_); refine store_event (t := 3) (p := 23) (v := ?vo2) (w1 := (w1.setCell ⟨g, i.toNat * 5 + 1, none⟩ (.int .i64 (wrap64 (a + 1))))) ?hg ?ho ?hn ?hr ?_; (case ho | hg | hn => rfl); (case hr => exact u7_1); intro w2 hw; have HL2 := Aside0.mk (hw ▸ HL1.out.set HP.out m1 (.inr (.inl ⟨_, _, _, rfl, rfl⟩)) : LikeW P w w2); have HB2 := Aside0.mk (hw ▸ below_set HB1.out HG.out : Below w0.heap.size w0 w2); clear hw HL1 HB1 m0 m1 m2 m3 m4 f0 f1 f2 f4; obtain ⟨y0, y1, y4, y2, m0, m1, m2, m3, m4, f0, f1, f2, f4⟩ := HE.out _ HL2.out)
        | (go_at_call 44; (with_reducible refine (laws_markText.calls k _ t _ HT.out).mono ?_); rintro e w3 ⟨rfl, hb⟩; have HL3 := Aside0.mk (HL2.out.trans (Q := P) (LikeW.of_below P hb) (fun _ h => h)); have HB3 := Aside0.mk (below_then HB2.out HB2.out.size hb); clear hb HL2 HB2 m0 m1 m2 m3 m4 f0 f1 f2 f4; obtain ⟨y0, y1, y4, y2, m0, m1, m2, m3, m4, f0, f1, f2, f4⟩ := HE.out _ HL3.out)
        | ((with_reducible refine gate_store (t := 9) (p := 31) rfl ?_); refine store_event (t := 9) (p := 31) (v := ?vo3) (w1 := (w3.setCell ⟨g, i.toNat * 5 + 2, none⟩ (.string t))) ?hg ?ho ?hn ?hr ?_; (case ho | hg | hn => rfl); (case hr => exact u7_1); intro w4 hw; have HL4 := Aside0.mk (hw ▸ HL3.out.set HP.out m2 (.inr (.inr ⟨_, _, rfl, rfl⟩)) : LikeW P w w4); have HB4 := Aside0.mk (hw ▸ below_set HB3.out HG.out : Below w0.heap.size w0 w4); clear hw HL3 HB3 m0 m1 m2 m3 m4 f0 f1 f2 f4; obtain ⟨y0, y1, y4, y2, m0, m1, m2, m3, m4, f0, f1, f2, f4⟩ := HE.out _ HL4.out)
        | (go_at_call 12; (with_reducible refine (markIntS_like P _ x.f3.length (wrap64 (wrap64 (wrap64 (a + 1) + 1) + 1)) w0 w4 HB4.out (HI.out.like HL4.out)).mono ?_); rintro e w5 ⟨rfl, hl, hb⟩; have HL5 := Aside0.mk (HL4.out.trans (Q := P) hl (fun _ h => h)); have HB5 := Aside0.mk hb; clear hl hb HL4 HB4 m0 m1 m2 m3 m4 f0 f1 f2 f4; obtain ⟨y0, y1, y4, y2, m0, m1, m2, m3, m4, f0, f1, f2, f4⟩ := HE.out _ HL5.out)
        | ((with_reducible refine gate_store (t := 3) (p := 45) rfl ?_); refine store_event (t := 3) (p := 45) (v := ?vo4) (w1 := (w5.setCell ⟨g, i.toNat * 5 + 4, none⟩ (.int .i64 (bumped x.f3.length (wrap64 (wrap64 (wrap64 (a + 1) + 1) + 1)))))) ?hg ?ho ?hn ?hr ?_; (case ho | hg | hn => rfl); (case hr => exact u7_1); intro w6 hw; have HL6 := Aside0.mk (hw ▸ HL5.out.set HP.out m4 (.inr (.inl ⟨_, _, _, rfl, rfl⟩)) : LikeW P w w6); have HB6 := Aside0.mk (hw ▸ below_set HB5.out HG.out : Below w0.heap.size w0 w6); clear hw HL5 HB5 m0 m1 m2 m3 m4 f0 f1 f2 f4))
      go_roundg (l0.length - (i + 1).toNat)
      case measure => omega
      case rel => exact ⟨i + 1, _, rfl, by first | rfl | simp, by omega, by omega, by omega, HA, HL6, HB6⟩
    · obtain rfl : i = l0.length := by omega
      have hA := AI.out; simp only [Int.toNat_natCast, List.drop_length, laws_markRelS.l0, Option.some.injEq] at hA; subst hA; go_wp2; go_ret
      exact ⟨rfl, HL.out, HBr.out⟩


/-! ### laws_markRoll: function 11 -/
def laws_markRoll.f (k : Nat) (aK : Int) (aF : List S38) (aL : Int) (aG : List Int) (a1 : Int) : Option Int := (laws_markRelS.f k aF a1).bind fun a => some (bumped aG.length a)
theorem laws_markRoll.mono : ∀ a0 a1 a2 a3 a4 k, LeO (laws_markRoll.f k a0 a1 a2 a3 a4) (laws_markRoll.f (k + 1) a0 a1 a2 a3 a4) := fun _ _ _ _ _ _ => LeO.bind (laws_markRelS.mono _ _ _) fun _ => LeO.refl _
set_option maxHeartbeats 4000000 in
theorem laws_markRoll.calls (k : Nat) (aK : Int) (P1 : Nat → Prop) (u1 : Value) (aF : List S38) (aL : Int) (P3 : Nat → Prop) (u3 : Value) (aG : List Int) (a1 : Int) (r : Int) (w0 w : World) (hB : Below w0.heap.size w0 w) (iZ : Kd.R k38 38 w w0.heap.size P1 u1 aF) (jA : Kd.R (Kd.int .i64) 3 w w0.heap.size P3 u3 aG) (h : laws_markRoll.f k aK aF aL aG a1 = some r) :
    Calls Try.prog 11 #[.agg #[.int .i64 aK, u1, .int .i64 aL, u3], .int .i64 a1] w fun e w' => e = .returned (.int .i64 r) ∧ Below w0.heap.size w0 w' ∧ Kept w w' (fun k_ => P1 k_ ∨ P3 k_) := by
  obtain ⟨a, ha, hr⟩ := Option.bind_eq_some_iff.1 h; obtain rfl := Option.some.inj hr; have H1 := Aside0.mk iZ; have HI := Aside0.mk ((IntRow.of_R jA).mono (Q := fun k_ => P1 k_ ∨ P3 k_) fun _ h => .inr h); have HA := Aside0.mk ha; have HB := Aside0.mk hB; obtain ⟨A1, c1, rfl⟩ := Kd.R_slice iZ; obtain ⟨A3, c3, rfl⟩ := Kd.R_slice jA; clear iZ jA h ha hr hB; have hu := Try.underlying30; go_enter Try.func11, Try.ntmps11
  go_wp2_with (first
    | go_loud ((with_reducible refine gD 2 rfl ?_); refine box_event ?hg (N := 2) ?hd (cs := #[.int .i64 aK, .slice A1 aF.length c1, .int .i64 aL, .slice A3 aG.length c3]) (t := 30) ?hr ?_; (case hd => rfl); (case hg => rfl); (case hr => exact u7_1); intro gb hg w1 hbox hb; have BK := Aside0.mk hbox; have HK := Aside0.mk (LikeW.of_below (fun k_ => P1 k_ ∨ P3 k_) hb); replace H1 := Aside0.mk (Kd.R_below H1.out hb); replace HB := Aside0.mk (below_then HB.out HB.out.size hb); clear hb hg; have m1 : w1.cell? ⟨gb, 1, none⟩ = some (.slice A1 aF.length c1) := (blk_cell hbox 1).trans rfl; have m3 : w1.cell? ⟨gb, 3, none⟩ = some (.slice A3 aG.length c3) := (blk_cell hbox 3).trans rfl; clear hbox)
    | (go_at_call 30; (with_reducible refine (laws_markRelS.calls k P1 _ aF a1 a w0 w1 HB.out H1.out HA.out).mono ?_); rintro e w2 ⟨rfl, hl, hb⟩; have HK2 := Aside0.mk (HK.out.trans (Q := P1) hl (fun _ h => .inl h)); replace HB := Aside0.mk hb; clear m1; obtain ⟨u_, m3', kB⟩ := hl.cell _ _ _ m3; obtain rfl := kB.slice; clear m3 hl hb kB)
    | (go_at_call 12; (with_reducible refine (markIntS_like (fun k_ => P1 k_ ∨ P3 k_) _ aG.length a w0 w2 HB.out (HI.out.like HK2.out)).mono ?_); rintro e w3 ⟨rfl, hl, hb⟩; have HK3 := Aside0.mk (HK2.out.trans hl (fun _ h => h)); replace HB := Aside0.mk hb; clear hl hb m3'))
  go_ret
  exact ⟨rfl, HB.out, HK3.out.keeps⟩


/-! ### laws_heldIntS: function 13 -/
def laws_heldIntS.l0 : Nat → List Int → Int → Int → Option (Int)
 | 0, _, _, _ => none
 | k + 1, x0, x1, x5 => if x5 < (x0.length : Int) then (if 0 ≤ x5 then (if (rd x0 x5) = x1 then (laws_heldIntS.l0 k x0 (wrap64 (x1 + 1)) (wrap64 (x5 + 1))) else (some (-1))) else (none)) else (some x1)
def laws_heldIntS.f (k : Nat) (l0 : List Int) (a1 : Int) : Option (Int) := laws_heldIntS.l0 k l0 a1 0
set_option maxRecDepth 100000 in
theorem laws_heldIntS.mono_l : ∀ k, (∀ y0 y1 y2, LeO (laws_heldIntS.l0 k y0 y1 y2) (laws_heldIntS.l0 (k + 1) y0 y1 y2))
 | 0 => fun _ _ _ r h => by simp [laws_heldIntS.l0] at h
 | k + 1 => by
  have cG := laws_heldIntS.mono_l k
  ·intro y0 y1 y2; unfold laws_heldIntS.l0; exact u7_mq1
theorem laws_heldIntS.mono : ∀ a0 a1 k, LeO (laws_heldIntS.f k a0 a1) (laws_heldIntS.f (k + 1) a0 a1) := by
 intro a0 a1 k
 have cG := laws_heldIntS.mono_l k
 unfold laws_heldIntS.f
 exact u7_mq1
set_option maxHeartbeats 8000000 in
set_option maxRecDepth 100000 in
theorem laws_heldIntS.calls (k : Nat) (A0 : Option Addr) (c0 : Nat) (l0 : List Int) (a1 : Int) (r : Int) (w : World) (kC : Kd.C (Kd.int .i64) w A0 l0.length l0) (kE : l0.length ≤ c0) (h : laws_heldIntS.f k l0 a1 = some r) :
 Calls Try.prog 13 #[.slice A0 l0.length c0, .int .i64 a1] w fun e w' => e = .returned (.int .i64 r) ∧ Drawn0 w w' := by
 have kF := aM kC
 have lA := aM kE
 clear kC kE
 have H : (laws_heldIntS.l0 k l0 a1 0) = some r := h
 clear h
 have H' := aM H
 clear H
 go_enter Try.func13, Try.ntmps13
 go_wp2
 go_loopg [1, 5] k (fun kq v1 v5 w' => ∃ (aN : Int) (aD : Int), v1 = .int .i64 aN ∧ v5 = .int .i64 aD ∧ Aside0 (laws_heldIntS.l0 kq l0 aN aD = some r) ∧ Aside0 (kq ≤ k) ∧ Drawn0 w w')
 case atStart => exact ⟨(a1), (0), u7_0, u7_0, H', ⟨Nat.le_refl _⟩, u7_3⟩
 case round =>
  clear H'; try clear c1
  try clear p2
  obtain ⟨aN, aD, rfl, rfl, HA, HK1, ⟨m1, rfl⟩⟩ := hrel; cases gk with
  | zero => exact absurd HA.out (by simp [laws_heldIntS.l0])
  | succ k1 =>
   have H := HA.out; clear HA; simp only [laws_heldIntS.l0] at H; by_cases c3 : aD < (l0.length : Int)
   ·rw [if_pos c3] at H; have bB : decide (aD < (l0.length : Int)) = true := decide_eq_true c3; clear c3; by_cases c4 : 0 ≤ aD
    ·rw [if_pos c4] at H; have cJ : decide (0 ≤ aD) = true := decide_eq_true c4; clear c4; by_cases c5 : (rd l0 aD) = aN
     ·rw [if_pos c5] at H; obtain ⟨jB, jC⟩ := bT c5; clear c5; have H' := aM H; clear H; have p236 : 0 ≤ (aD : Int) := oda; have q236 : aD < (l0.length : Int) := oda; obtain ⟨cP, cI, bQ⟩ := Kd.at_int kF.out aD p236 q236; cases cI
      replace p236 := eq_true p236; replace q236 := eq_true q236; go_wp2; go_roundg k1
      case measure => have := HK1.out; omega
      case rel => exact ⟨(wrap64 (aN + 1)), (wrap64 (aD + 1)), u7_0, u7_0, H', ⟨by have := HK1.out; omega⟩, u7_3⟩
     ·rw [if_neg c5] at H; obtain ⟨jB, jC⟩ := bF c5; obtain rfl := Option.some.inj H; have p236 : 0 ≤ (aD : Int) := oda; have q236 : aD < (l0.length : Int) := oda; obtain ⟨cP, cI, bQ⟩ := Kd.at_int kF.out aD p236 q236; cases cI
      replace p236 := eq_true p236; replace q236 := eq_true q236; go_wp2; go_ret
      exact ⟨u7_0, u7_3⟩
    ·rw [if_neg c4] at H; exact absurd H (by simp)
   ·rw [if_neg c3] at H; have bB : decide (aD < (l0.length : Int)) = false := decide_eq_false c3; clear c3; obtain rfl := Option.some.inj H; go_wp2; go_ret
    exact ⟨u7_0, u7_3⟩

end Go.Proofs.Ytppfnnpfamkclaa.QFnExactRollLacks
