-- A walk, by a program of this session.
import Derived.Test.YtocpomkfilpflaaQFnExactHardLoadx0
import Derived.Test.YtocpomkfilpflaaQFnExactHardLoadx3
import Derived.Test.YtocpomkfilpflaaQFnExactHardLoadx9
import Derived.Test.YtocpomkfilpflaaQFnExactHardLoadx15
import Derived.Test.YtocpomkfilpflaaQFnExactHardLoadx16
import Derived.Test.YtocpomkfilpflaaQFnExactHardLoadx17
namespace Go.Proofs.Ytocpomkfilpflaa.QFnExactHardLoad
open Go.RowKit Go.Proofs.YtocpomkfilpflaaW.PrintWords Go.Proofs.YtocpomkfilpflaaW.PrintLast Go.Proofs.YtocpomkfilpflaaW.PrintMore
attribute [local go_sem] max2_int min2_int max_two min_two max_three min_three max_four min_four   -- for this text's walks alone
set_option linter.unusedVariables false
set_option linter.unusedSimpArgs false

theorem u18_0 {p : Prop} (h : p := by first | rfl | (simp; done) | (simp [*]; done)) : p := h
theorem u18_1 {p : Prop} (h : p := by exact (Kd.R_reads' aA.out).2.1) : p := h
theorem u18_2 {p : Prop} (h : p := by exact (Kd.R_reads' aC.out).2.1) : p := h
theorem u18_3 {p : Prop} (h : p := by have := HJ11.out; first | omega | exact Nat.le_refl _) : p := h
theorem u18_4 {p : Prop} (h : p := by (with_reducible repeat (first | apply Kd.R_alloc | apply Kd.R_drewN | apply Kd.R_drew)); exact aC.out) : p := h
theorem u18_5 {p : Prop} (h : p := by (with_reducible repeat (first | apply Kd.R_alloc | apply Kd.R_drewN | apply Kd.R_drew)); exact Kd.R_mono aB.out (fun _ hk => trivial)) : p := h
theorem u18_6 {p : Prop} (h : p := by (with_reducible repeat (first | apply Kd.R_alloc | apply Kd.R_drewN | apply Kd.R_drew)); exact aA.out) : p := h
theorem u18_7 {p : Prop} (h : p := by (try simp only [List.map_toArray, List.map_cons, List.map_nil]); first | done | (rw [show bX.length = aQ.length from (Kd.R_reads' aA.out).1.symm] <;> rfl) | rfl | (simp only [List.length_drop, List.length_take]; rfl)) : p := h
theorem u18_8 {p : Prop} (h : p := by rw [show bX.length = aQ.length from (Kd.R_reads' aA.out).1.symm]; exact (Kd.R_reads' aA.out).2.1) : p := h
theorem u18_9 {p : Prop} (h : p := by (with_reducible repeat (first | apply Kd.R_alloc | apply Kd.R_drewN | apply Kd.R_drew)); exact Kd.R_mono aZ.out (fun _ hk => hk.2)) : p := h
theorem u18_10 {p : Prop} (h : p := by (with_reducible repeat (first | apply Kd.R_alloc | apply Kd.R_drewN | apply Kd.R_drew)); exact Kd.R_mono bP.out (fun _ hk => trivial)) : p := h
theorem u18_11 {p : Prop} (h : p := by (with_reducible repeat (first | apply Kd.R_alloc | apply Kd.R_drewN | apply Kd.R_drew)); exact Kd.R_mono bY.out (fun _ hk => hk.2)) : p := h
theorem u18_12 {p : Prop} (h : p := by (try simp only [aH]); (with_reducible repeat (first | apply Kd.R_alloc | apply Kd.R_drewN | apply Kd.R_drew)); exact aC.out) : p := h
theorem u18_13 {p : Prop} (h : p := by (try simp only [aH]); (with_reducible repeat (first | apply Kd.R_alloc | apply Kd.R_drewN | apply Kd.R_drew)); exact Kd.R_mono aB.out (fun _ hk => trivial)) : p := h
theorem u18_14 {p : Prop} (h : p := by (try simp only [aH]); (with_reducible repeat (first | apply Kd.R_alloc | apply Kd.R_drewN | apply Kd.R_drew)); exact aA.out) : p := h
theorem u18_15 {p : Prop} (h : p := by (try simp only [aH]); (with_reducible repeat (first | apply Kd.R_alloc | apply Kd.R_drewN | apply Kd.R_drew)); exact Kd.R_mono bZ.out (fun _ hk => ⟨hk.1.2, hk.2⟩)) : p := h
/-! ### laws_FnExactHardLoad: function 5 -/
mutual
def laws_FnExactHardLoad.j0 : Nat → Int → Int → Int → Bool → Int → List (S108) → Int → Int → List (S36) → Int → List (S112) → Int → Int → List (S36) → Option (Bool)
 | 0, _, _, _, _, _, _, _, _, _, _, _, _, _, _ => none
 | k + 1, x1, x7, wG, wH, cD, cE, cF, cG, cH, fW, fX, bH, bI, bQ => if wH = true then (some false) else ((laws_toDisk.f k cD cE).bind fun lG => ((laws_eqDisk.f k fW fX lG.1 lG.2).bind fun lP => (if lP = true then ((laws_markDisk.f k fW fX 1).bind fun mI => (if mI.1 < 0 then (laws_FnExactHardLoad.j1 k x1 x7 true cD cE cF cG cH bH bI bQ) else ((laws_eqHard.f k bH bI bQ cF cG cH).bind fun lQ => (if lQ = true then (laws_FnExactHardLoad.j1 k x1 x7 (wG != x7) cD cE cF cG cH bH bI bQ) else (laws_FnExactHardLoad.j1 k x1 x7 true cD cE cF cG cH bH bI bQ))))) else (some false))))
def laws_FnExactHardLoad.j1 : Nat → Int → Int → Bool → Int → List (S108) → Int → Int → List (S36) → Int → Int → List (S36) → Option (Bool)
 | 0, _, _, _, _, _, _, _, _, _, _, _ => none
 | k + 1, x1, x7, wI, cD, cE, cF, cG, cH, bH, bI, bQ => if wI = true then (some false) else ((laws_markHard.f k bH bI bQ 1).bind fun dI => ((laws_heldHard.f k bH bI dI.2 1).bind fun dG => (if dG < 0 then (some false) else (if dG = dI.1 then ((laws_toDisk.f k cD cE).bind fun lH => ((impl_HardLoad.f k lH.1 lH.2 x1).bind fun fY => ((laws_eqHard.f k fY.1 fY.2.1 fY.2.2.1 cF cG cH).bind fun lR => (if lR = true then (laws_FnExactHardLoad.j2 k dI.1 (fY.2.2.2 != x7) bH bI dI.2) else (laws_FnExactHardLoad.j2 k dI.1 true bH bI dI.2))))) else (some false)))))
def laws_FnExactHardLoad.j2 : Nat → Int → Bool → Int → Int → List (S36) → Option (Bool)
 | 0, _, _, _, _, _ => none
 | k + 1, wJ, wK, bH, bI, bQ => if wK = true then (some false) else ((laws_heldHard.f k bH bI bQ 1).bind fun dH => (if dH < 0 then (some false) else (if dH = wJ then (some true) else (some false))))
end
def laws_FnExactHardLoad.f (k : Nat) (aP : Int) (aI : List (S108)) (a1 : Int) : Option (Bool) := (laws_szDisk.f k aP aI 1048576).bind fun dJ => (if dJ < 0 then (some true) else ((laws_toDisk.f k aP aI).bind fun fN => ((spec_HardLoad.f k fN.1 fN.2 a1).bind fun aT => ((laws_toDisk.f k aP aI).bind fun bU => ((impl_HardLoad.f k bU.1 bU.2 a1).bind fun aU => ((laws_eqHard.f k aU.1 aU.2.1 aU.2.2.1 aT.1 aT.2.1 aT.2.2.1).bind fun iH => (if iH = true then (laws_FnExactHardLoad.j0 k a1 aT.2.2.2 aU.2.2.2 (aU.2.2.2 != aT.2.2.2) aP aI aT.1 aT.2.1 aT.2.2.1 bU.1 bU.2 aU.1 aU.2.1 aU.2.2.1) else (laws_FnExactHardLoad.j0 k a1 aT.2.2.2 aU.2.2.2 true aP aI aT.1 aT.2.1 aT.2.2.1 bU.1 bU.2 aU.1 aU.2.1 aU.2.2.1))))))))
theorem u18_mq0 {p : Prop} (h : p := by repeat' first | (with_reducible first | exact oM _ _ _ _ _ _ _ _ _ _ _ _ _ _ | exact oN _ _ _ _ _ _ _ _ _ _ _ | exact oO _ _ _ _ _ | exact impl_HardLoad.mono _ _ _ _ | exact laws_eqDisk.mono _ _ _ _ _ | exact laws_eqHard.mono _ _ _ _ _ _ _ | exact laws_heldHard.mono _ _ _ _ _ | exact laws_markDisk.mono _ _ _ _ | exact laws_markHard.mono _ _ _ _ _ | exact laws_szDisk.mono _ _ _ _ | exact laws_toDisk.mono _ _ _ | exact spec_HardLoad.mono _ _ _ _ | exact LeO.refl _ | exact LeO.none _ | refine LeO.ite ?_ ?_ | refine LeO.bind ?_ (fun _ => ?_)) | exact oM _ _ _ _ _ _ _ _ _ _ _ _ _ _ | exact oN _ _ _ _ _ _ _ _ _ _ _ | exact oO _ _ _ _ _ | exact impl_HardLoad.mono _ _ _ _ | exact laws_eqDisk.mono _ _ _ _ _ | exact laws_eqHard.mono _ _ _ _ _ _ _ | exact laws_heldHard.mono _ _ _ _ _ | exact laws_markDisk.mono _ _ _ _ | exact laws_markHard.mono _ _ _ _ _ | exact laws_szDisk.mono _ _ _ _ | exact laws_toDisk.mono _ _ _ | exact spec_HardLoad.mono _ _ _ _ | exact LeO.none _ | refine LeO.ite ?_ ?_ | refine LeO.bind ?_ (fun _ => ?_)) : p := h
set_option maxRecDepth 100000 in
theorem laws_FnExactHardLoad.mono_l : ∀ k, (∀ y0 y1 y2 y3 y4 y5 y6 y7 y8 y9 lS oP oQ oR, LeO (laws_FnExactHardLoad.j0 k y0 y1 y2 y3 y4 y5 y6 y7 y8 y9 lS oP oQ oR) (laws_FnExactHardLoad.j0 (k + 1) y0 y1 y2 y3 y4 y5 y6 y7 y8 y9 lS oP oQ oR)) ∧ (∀ y0 y1 y2 y3 y4 y5 y6 y7 y8 y9 lS, LeO (laws_FnExactHardLoad.j1 k y0 y1 y2 y3 y4 y5 y6 y7 y8 y9 lS) (laws_FnExactHardLoad.j1 (k + 1) y0 y1 y2 y3 y4 y5 y6 y7 y8 y9 lS)) ∧ (∀ y0 y1 y2 y3 y4, LeO (laws_FnExactHardLoad.j2 k y0 y1 y2 y3 y4) (laws_FnExactHardLoad.j2 (k + 1) y0 y1 y2 y3 y4))
 | 0 => ⟨fun _ _ _ _ _ _ _ _ _ _ _ _ _ _ r h => by simp [laws_FnExactHardLoad.j0] at h, fun _ _ _ _ _ _ _ _ _ _ _ r h => by simp [laws_FnExactHardLoad.j1] at h, fun _ _ _ _ _ r h => by simp [laws_FnExactHardLoad.j2] at h⟩
 | k + 1 => by
  obtain ⟨oM, oN, oO⟩ := laws_FnExactHardLoad.mono_l k; refine ⟨?_, ?_, ?_⟩
  ·intro y0 y1 y2 y3 y4 y5 y6 y7 y8 y9 lS oP oQ oR; unfold laws_FnExactHardLoad.j0; exact u18_mq0
  ·intro y0 y1 y2 y3 y4 y5 y6 y7 y8 y9 lS; unfold laws_FnExactHardLoad.j1; exact u18_mq0
  ·intro y0 y1 y2 y3 y4; unfold laws_FnExactHardLoad.j2; exact u18_mq0
theorem laws_FnExactHardLoad.mono : ∀ a0 a1 a2 k, LeO (laws_FnExactHardLoad.f k a0 a1 a2) (laws_FnExactHardLoad.f (k + 1) a0 a1 a2) := by
 intro a0 a1 a2 k
 obtain ⟨oM, oN, oO⟩ := laws_FnExactHardLoad.mono_l k
 unfold laws_FnExactHardLoad.f
 exact u18_mq0
set_option maxHeartbeats 8000000 in
set_option maxRecDepth 100000 in
theorem laws_FnExactHardLoad.calls (k : Nat) (aP : Int) (bV : Option Addr) (bW : Nat) (aI : List (S108)) (a1 : Int) (r : Bool) (w : World) (fZ : Kd.C k108 w bV aI.length aI) (gA : aI.length ≤ bW) (h : laws_FnExactHardLoad.f k aP aI a1 = some r) :
 Calls Try.prog 5 #[.agg #[.int .i64 aP, .slice bV aI.length bW], .int .i64 a1] w fun e w' => e = .returned (.bool r) ∧ Below w.heap.size w w' := by
 have wL := Try.underlying50
 have wM := Try.underlying28
 have wN := Try.underlying55
 have dC := aM fZ
 have dD := aM gA
 clear fZ gA
 have HB := aM (Below.refl w.heap.size w)
 have H : ((laws_szDisk.f k aP aI 1048576).bind fun dJ => (if dJ < 0 then (some true) else ((laws_toDisk.f k aP aI).bind fun fN => ((spec_HardLoad.f k fN.1 fN.2 a1).bind fun aT => ((laws_toDisk.f k aP aI).bind fun bU => ((impl_HardLoad.f k bU.1 bU.2 a1).bind fun aU => ((laws_eqHard.f k aU.1 aU.2.1 aU.2.2.1 aT.1 aT.2.1 aT.2.2.1).bind fun iH => (if iH = true then (laws_FnExactHardLoad.j0 k a1 aT.2.2.2 aU.2.2.2 (aU.2.2.2 != aT.2.2.2) aP aI aT.1 aT.2.1 aT.2.2.1 bU.1 bU.2 aU.1 aU.2.1 aU.2.2.1) else (laws_FnExactHardLoad.j0 k a1 aT.2.2.2 aU.2.2.2 true aP aI aT.1 aT.2.1 aT.2.2.1 bU.1 bU.2 aU.1 aU.2.1 aU.2.2.1))))))))) = some r := h
 clear h
 replace H := oB H
 obtain ⟨dJ, sJ, H⟩ := H
 (try dsimp only at H)
 have A3 := aM sJ
 clear sJ
 by_cases c4 : dJ < 0
 ·rw [if_pos c4] at H; have kP : decide (dJ < 0) = true := decide_eq_true c4; clear c4; obtain rfl := Option.some.inj H; go_enter Try.func5, Try.ntmps5
  go_wp2_with (first | ((with_reducible refine gD 2 rfl ?_); refine boxE (N := 2) rfl (cs := #[.int .i64 aP, .slice bV aI.length bW]) (t := 50) ?_; intro cW hg w5 hbox hb; have aD := aM (hbox); have mJ := aM (xge hg); have mK := aM (xge hg); replace HB := xbs hb; clear hb hbox hg; obtain ⟨fS, fT, fU, fV⟩ := xf2 (w := w5) aD) | ((with_reducible refine gC 20 rfl ?_); refine goesLY (some 18) rfl Try.func20 #[.agg #[.int .i64 aP, .slice bV aI.length bW], .int .i64 1048576] ?_; (with_reducible refine (laws_szDisk.calls k aP _ _ aI 1048576 dJ _ ?side1 ?side2 A3.out).mono ?_); (case side1 => exact xcb dC); (case side2 => exact dD.out); rintro e w7 ⟨rfl, hb⟩; refine ⟨_, rfl, ?_⟩; replace aD := xbb aD hb; replace HB := xbs hb; (try clear hb)))
  go_ret
  exact ⟨xerr, xbg⟩
 ·rw [if_neg c4] at H; have kP : decide (dJ < 0) = false := decide_eq_false c4; clear c4; replace H := oB H; obtain ⟨⟨lT, lU⟩, sK, H⟩ := H; (try dsimp only at H); have A8 := aM sK; clear sK; replace H := oB H
  obtain ⟨⟨cA, cB, bJ, iB⟩, sL, H⟩ := H; (try dsimp only at H); have A9 := aM sL; clear sL; replace H := oB H
  obtain ⟨⟨cI, bR⟩, mL, H⟩ := H; (try dsimp only at H); have wO := aM mL; clear mL; replace H := oB H
  obtain ⟨⟨aV, aW, aQ, kQ⟩, mM, H⟩ := H; (try dsimp only at H); have wP := aM mM; clear mM; have lV := aM H; clear H
  go_enter Try.func5, Try.ntmps5
  go_upto_region 8 with (first | ((with_reducible refine gD 2 rfl ?_); refine boxE (N := 2) rfl (cs := #[.int .i64 aP, .slice bV aI.length bW]) (t := 50) ?_; intro cW hg wQ hbox hb; have aD := aM (hbox); have mJ := aM (xge hg); have mK := aM (xge hg); replace HB := xbs hb; clear hb hbox hg; obtain ⟨dK, dL, dM, dN⟩ := xf2 (w := wQ) aD) | ((with_reducible refine gC 20 rfl ?_); refine goesLY (some 18) rfl Try.func20 #[.agg #[.int .i64 aP, .slice bV aI.length bW], .int .i64 1048576] ?_; (with_reducible refine (laws_szDisk.calls k aP _ _ aI 1048576 dJ _ ?side1 ?side2 A3.out).mono ?_); (case side1 => exact xcb dC); (case side2 => exact dD.out); rintro e wR ⟨rfl, hb⟩; refine ⟨_, rfl, ?_⟩; replace aD := xbb aD hb; replace HB := xbs hb; (try clear hb); obtain ⟨dO, dP, dQ, dR⟩ := xf2 (w := wR) aD) | ((with_reducible refine gC 22 rfl ?_); refine goesLY (some 23) rfl Try.func22 #[.agg #[.int .i64 aP, .slice bV aI.length bW]] ?_; (with_reducible refine (laws_toDisk.calls k aP _ _ aI lT lU _ ?side1 ?side2 A8.out).mono ?_); (case side1 => exact xcb dC); (case side2 => exact dD.out); rintro e zH ⟨wS, rfl, cN, hb⟩; refine ⟨_, rfl, ?_⟩; have bA := aM (Kd.R_lower cN (below_size xbg)); replace aD := xbb aD hb; replace HB := xbs hb; (try clear hb cN); obtain ⟨oT, oU, oV⟩ := Kd.R_slice bA.out; subst oV) | ((with_reducible refine gC 21 rfl ?_); refine goesLY (some 25) rfl Try.func21 #[.agg #[.int .i64 lT, .slice oT lU.length oU], .int .i64 a1] ?_; (with_reducible refine (spec_HardLoad.calls k lT _ _ lU a1 cA cB bJ iB _ ?side1 ?side2 A9.out).mono ?_); (case side1 => exact xC bA); (case side2 => exact (Kd.R_reads' bA.out).2.1); rintro e zI ⟨wT, rfl, cN, hb⟩; refine ⟨_, rfl, ?_⟩; replace bA := xrb bA hb; have aZ := aM (Kd.R_lower cN (below_size xbg)); replace aD := xbb aD hb; replace HB := xbs hb; (try clear hb cN)) | ((with_reducible refine gD 6 rfl ?_); refine boxE (N := 6) rfl (cs := #[.int .i64 0, .int .i64 0, .slice none 0 0]) (t := 28) ?_; intro gB hg sM hbox hb; replace bA := xrb bA hb; replace aZ := xrb aZ hb; have sN := aM (xge hg); have sO := aM (xge hg); replace HB := xbs hb; have bB := nblt aD hg; have bC := nbgt aD hg; replace aD := xbb aD hb; have aF := aM (hbox); clear hb hbox hg; have sP := bC.out; have sQ := bB.out; obtain ⟨dS, dU, dV, dW, dX, dY⟩ := xf3 (w := sM) aF; obtain ⟨cJ, cK, oW⟩ := Kd.R_slice aZ.out; subst oW; obtain ⟨dZ, eA, eB, eC⟩ := xf2 (w := sM) aD) | ((with_reducible refine gC 22 rfl ?_); refine goesLY (some 29) rfl Try.func22 #[.agg #[.int .i64 aP, .slice bV aI.length bW]] ?_; (with_reducible refine (laws_toDisk.calls k aP _ _ aI cI bR _ ?side1 ?side2 wO.out).mono ?_); (case side1 => exact Kd.C_below dC.out xbg); (case side2 => exact dD.out); rintro e zJ ⟨wU, rfl, cN, hb⟩; refine ⟨_, rfl, ?_⟩; replace aZ := xrB aZ hb; have bP := aM (Kd.R_lower (Kd.R_new' cN (Kd.R_lt (xrs bA))) (below_size xbg)); replace bA := aM (Kd.R_elder' (xrs bA) (Kd.R_base cN) hb); replace aD := xbc aD hb; replace aF := aM (blk_below (g := gB) (o := .cells #[.int .i64 cA, .int .i64 cB, .slice cJ bJ.length cK] 28 (0, 0)) xP hb); replace HB := xbs hb; (try clear hb cN)) | ((with_reducible refine gD 8 rfl ?_); refine boxE (N := 8) rfl (cs := #[.int .i64 0, .slice none 0 0]) (t := 55) ?_; intro cX hg wV hbox hb; replace bA := xrb bA hb; replace aZ := xrb aZ hb; replace bP := xrb bP hb; have sR := aM (xge hg); have sS := aM (xge hg); replace HB := xbs hb; have cO := nblt aD hg; have cP := nbgt aD hg; have bE := nblt aF hg; have bG := nbgt aF hg; replace aD := xbb aD hb; replace aF := xbb aF hb; have aE := aM (hbox); clear hb hbox hg; have sU := cP.out; have sV := cO.out; have sW := bG.out; have sX := bE.out; obtain ⟨eD, eE, eF, eG⟩ := xf2 (w := wV) aE; obtain ⟨cL, cM, oX⟩ := Kd.R_slice bP.out; subst oX) | ((with_reducible refine gC 23 rfl ?_); refine goesLY (some 33) rfl Try.func23 #[.agg #[.int .i64 cI, .slice cL bR.length cM], .int .i64 a1] ?_; (with_reducible refine (impl_HardLoad.calls k cI _ _ bR a1 aV aW aQ kQ _ ?side1 ?side2 wP.out).mono ?_); (case side1 => exact (Kd.R_reads' (xrs bP)).2.2); (case side2 => exact (Kd.R_reads' bP.out).2.1); rintro e zK ⟨wW, rfl, cN, hb⟩; refine ⟨_, rfl, ?_⟩; replace bA := xrB bA hb; replace bP := xrB bP hb; have bY := aM (Kd.R_lower (Kd.R_new' cN (Kd.R_lt (xrs aZ))) (below_size xbg)); replace aZ := aM (Kd.R_elder' (xrs aZ) (Kd.R_base cN) hb); replace aD := xbc aD hb; replace aF := xbc aF hb; replace aE := aM (blk_below (g := cX) (o := .cells #[.int .i64 cI, .slice cL bR.length cM] 55 (0, 0)) xP hb); replace HB := xbs hb; (try clear hb cN)) | ((with_reducible refine gD 9 rfl ?_); refine boxE (N := 9) rfl (cs := #[.int .i64 0, .int .i64 0, .slice none 0 0]) (t := 28) ?_; intro fO hg mN hbox hb; replace bA := xrb bA hb; replace aZ := xrb aZ hb; replace bP := xrb bP hb; replace bY := xrb bY hb; have sY := aM (xge hg); have sZ := aM (xge hg); replace HB := xbs hb; have aR := nblt aD hg; have aS := nbgt aD hg; have aK := nblt aF hg; have aL := nbgt aF hg; have aN := nblt aE hg; have aO := nbgt aE hg; replace aD := xbb aD hb; replace aF := xbb aF hb; replace aE := xbb aE hb; have aG := aM (hbox); clear hb hbox hg; have tA := aS.out; have tB := aR.out; have tC := aL.out; have tD := aK.out; have tE := aO.out; have tF := aN.out; obtain ⟨eH, eI, eJ, eK, eL, eM⟩ := xf3 (w := mN) aG; obtain ⟨aX, aY, oY⟩ := Kd.R_slice bY.out; subst oY))
  (try simp only [Act.put, List.setIfInBounds_toArray, List.set_cons_zero, List.set_cons_succ]); go_cut [44] (fun wX wc => ∃ (kq : Nat) (eN : Bool), wX = .bool eN ∧ Aside0 (laws_FnExactHardLoad.j0 kq a1 iB kQ eN aP aI cA cB bJ cI bR aV aW aQ = some r) ∧ Aside0 (kq ≤ k) ∧ Aside0 (Kd.R k36 36 wc w.heap.size (fun k_ => some k_ ≠ ((.slice aX aQ.length aY) : Value).ownBlock) (.slice cJ bJ.length cK) bJ) ∧ Aside0 (Kd.R k112 112 wc w.heap.size (fun _ => True) (.slice cL bR.length cM) bR) ∧ Aside0 (Kd.R k36 36 wc w.heap.size (fun k_ => some k_ ≠ ((.slice cJ bJ.length cK) : Value).ownBlock) (.slice aX aQ.length aY) aQ) ∧ Aside0 (wc.heap[cW]? = some (.cells #[.int .i64 aP, (.slice bV aI.length bW)] 50 (0, 0))) ∧ Aside0 (wc.heap[gB]? = some (.cells #[.int .i64 cA, .int .i64 cB, (.slice cJ bJ.length cK)] 28 (0, 0))) ∧ Aside0 (wc.heap[cX]? = some (.cells #[.int .i64 cI, (.slice cL bR.length cM)] 55 (0, 0))) ∧ Aside0 (wc.heap[fO]? = some (.cells #[.int .i64 aV, .int .i64 aW, (.slice aX aQ.length aY)] 28 (0, 0))) ∧ Aside0 (Below w.heap.size w wc))
  case first =>
   have H := lV.out; clear lV; replace H := oB H; obtain ⟨iH, mO, H⟩ := H; (try dsimp only at H); have tG := aM mO; clear mO
   by_cases lW : iH = true
   ·subst lW; replace H := iT H; have H' := aM H; clear H; have tH := aS.out; have tI := aR.out; have tJ := aL.out; have tK := aK.out; have tL := aO.out; have tM := aN.out; obtain ⟨eO, eP, eQ, eR, eS, eT⟩ := xf3 (w := mN) aG; have tN := bC.out; have tO := bB.out; have tP := bE.out; have tQ := bG.out; obtain ⟨eU, eV, eW, eX, eY, eZ⟩ := xf3 (w := mN) aF; go_wp2_with (first | ((with_reducible refine gC 24 rfl ?_); refine goesLY (some 38) rfl Try.func24 #[.agg #[.int .i64 aV, .int .i64 aW, .slice aX aQ.length aY], .agg #[.int .i64 cA, .int .i64 cB, .slice cJ bJ.length cK]] ?_; (with_reducible refine (laws_eqHard.calls k aV aW _ _ aQ cA cB _ _ bJ true _ ?side1 ?side2 ?side3 ?side4 tG.out).mono ?_); (case side1 => exact (Kd.R_reads' (xrs bY)).2.2); (case side2 => exact (Kd.R_reads' bY.out).2.1); (case side3 => exact (Kd.R_reads' (xrs aZ)).2.2); (case side4 => exact (Kd.R_reads' aZ.out).2.1); rintro e zL ⟨rfl, hb⟩; refine ⟨_, rfl, ?_⟩; replace bA := xrB bA hb; replace aZ := xrB aZ hb; replace bP := xrB bP hb; replace bY := xrB bY hb; replace aD := xbc aD hb; replace aF := xbc aF hb; replace aE := xbc aE hb; replace aG := aM (blk_below (g := fO) (o := .cells #[.int .i64 aV, .int .i64 aW, .slice aX aQ.length aY] 28 (0, 0)) xP hb); replace HB := xbs hb; (try clear hb)))
    go_meet
    case rel => exact ⟨_, ((kQ != iB)), u18_0, H', ⟨by first | omega | exact Nat.le_refl _⟩, ⟨u18_9⟩, ⟨u18_10⟩, ⟨u18_11⟩, ⟨xblk⟩, ⟨xblk⟩, ⟨xblk⟩, ⟨xblk⟩, ⟨xbg⟩⟩
   ·replace lW := Bool.eq_false_iff.mpr lW; subst lW; replace H := iN H; have H' := aM H; clear H; have tR := aS.out; have tS := aR.out; have tT := aL.out; have tU := aK.out; have tV := aO.out; have tW := aN.out; obtain ⟨fA, fB, fC, fD, fE, fF⟩ := xf3 (w := mN) aG; have tX := bC.out; have tY := bB.out; have tZ := bE.out; have uA := bG.out; obtain ⟨fG, fH, fI, fJ, fK, fL⟩ := xf3 (w := mN) aF; go_wp2_with (first | ((with_reducible refine gC 24 rfl ?_); refine goesLY (some 38) rfl Try.func24 #[.agg #[.int .i64 aV, .int .i64 aW, .slice aX aQ.length aY], .agg #[.int .i64 cA, .int .i64 cB, .slice cJ bJ.length cK]] ?_; (with_reducible refine (laws_eqHard.calls k aV aW _ _ aQ cA cB _ _ bJ false _ ?side1 ?side2 ?side3 ?side4 tG.out).mono ?_); (case side1 => exact (Kd.R_reads' (xrs bY)).2.2); (case side2 => exact (Kd.R_reads' bY.out).2.1); (case side3 => exact (Kd.R_reads' (xrs aZ)).2.2); (case side4 => exact (Kd.R_reads' aZ.out).2.1); rintro e zM ⟨rfl, hb⟩; refine ⟨_, rfl, ?_⟩; replace bA := xrB bA hb; replace aZ := xrB aZ hb; replace bP := xrB bP hb; replace bY := xrB bY hb; replace aD := xbc aD hb; replace aF := xbc aF hb; replace aE := xbc aE hb; replace aG := aM (blk_below (g := fO) (o := .cells #[.int .i64 aV, .int .i64 aW, .slice aX aQ.length aY] 28 (0, 0)) xP hb); replace HB := xbs hb; (try clear hb)))
    go_meet
    case rel => exact ⟨_, (true), u18_0, H', ⟨by first | omega | exact Nat.le_refl _⟩, ⟨u18_9⟩, ⟨u18_10⟩, ⟨u18_11⟩, ⟨xblk⟩, ⟨xblk⟩, ⟨xblk⟩, ⟨xblk⟩, ⟨xbg⟩⟩
  case rest =>
   clear lV; try clear c2
   try clear p2
   try clear c3
   try clear c4
   try clear kP
   try clear c5
   try clear uB
   try clear uC
   try clear uD
   try clear uE
   try clear uF
   try clear uG
   try clear uH
   try clear uI
   try clear uJ
   try clear uK
   try clear lW
   try clear uL
   try clear uM
   try clear uN
   try clear uO
   try clear uP
   try clear uQ
   try clear uR
   try clear uS
   try clear uT
   try clear uU
   try clear dK dL
   try clear dO dP
   try clear dS dU dV
   try clear dZ eA
   try clear eD eE
   try clear eH eI eJ
   try clear eO eP eQ
   try clear eU eV eW
   try clear fA fB fC
   try clear fG fH fI
   try clear fS fT
   try clear dM dN
   try clear dQ dR
   try clear dW dX dY
   try clear eB eC
   try clear eF eG
   try clear eK eL eM
   try clear eR eS eT
   try clear eX eY eZ
   try clear fD fE fF
   try clear fJ fK fL
   try clear fU fV
   obtain ⟨kq, eN, rfl, HA, HJ11, aC, aB, aA, aD, aF, aE, aG, HB⟩ := hcut; cases kq with
   | zero => exact absurd HA.out (by simp [laws_FnExactHardLoad.j0])
   | succ fP =>
    have H := HA.out; clear HA; simp only [laws_FnExactHardLoad.j0] at H; by_cases mF : eN = true
    ·subst mF; replace H := iT H; obtain rfl := Option.some.inj H; go_wp2; go_ret
     exact ⟨xerr, xbg⟩
    ·replace mF := Bool.eq_false_iff.mpr mF; subst mF; replace H := iN H; replace H := oB H; obtain ⟨⟨iC, iD⟩, mP, H⟩ := H; (try dsimp only at H); have uV := aM mP; clear mP; replace H := oB H
     obtain ⟨lP, mQ, H⟩ := H; (try dsimp only at H); have uW := aM mQ; clear mQ
     by_cases mG : lP = true
     ·subst mG; replace H := iT H; replace H := oB H; obtain ⟨⟨kR, iI⟩, mR, H⟩ := H; (try dsimp only at H); have wY := aM mR; clear mR; have lX := aM H; clear H
      try go_wp2
      replace aC := rD aC; replace aB := rD aB; replace aA := rD aA; replace aD := bD aD; replace aF := bD aF; replace aE := bD aE; replace aG := bD aG; replace HB := lD HB; refine start_ (n := 5) (S := fun w' => w'.cell? ⟨cX, 0, none⟩ = some (.int .i64 cI) ∧ w'.cell? ⟨cX, 1, none⟩ = some (.slice cL bR.length cM) ∧ w'.cell? ⟨cW, 0, none⟩ = some (.int .i64 aP) ∧ w'.cell? ⟨cW, 1, none⟩ = some (.slice bV aI.length bW)) (ds := []) #[false, false, false, false, false] (by kernel_rfl) rfl rfl ⟨xc aE 0 rfl, xc aE 1 rfl, xc aD 0 rfl, xc aD 1 rfl⟩ (fun hHeld => ?_); generalize wc.drew = zN at aC aB aA aD aF aE aG HB hHeld ⊢; refine take_ (i := 0) (N := some 45) (v := ?_) (a' := ?_) #[true, false, false, false, false] rfl rfl (by kernel_rfl) (fun _ _ _ h => h) (Or.inl ⟨by rfl, ?_⟩) hHeld ?_ ?_; rotate_left
      ·rintro w' ⟨s0, s1, s2, s3⟩; go_simp
       with_reducible rfl
      rotate_left
      ·simp only [Act.put, List.setIfInBounds_toArray, List.set_cons_zero, List.set_cons_succ, i64_w, i32_w]; rfl
      refine take_ (i := 1) (N := some 46) (v := ?_) (a' := ?_) #[true, true, false, false, false] rfl rfl (by kernel_rfl) (fun _ _ _ h => h) (Or.inl ⟨by rfl, ?_⟩) hHeld ?_ ?_; rotate_left
      ·rintro w' ⟨s0, s1, s2, s3⟩; go_simp
       with_reducible rfl
      rotate_left
      ·simp only [Act.put, List.setIfInBounds_toArray, List.set_cons_zero, List.set_cons_succ, i64_w, i32_w]; rfl
      refine one_ (i := 2) (N := some 47) #[true, true, true, false, false] rfl rfl (by kernel_rfl) (by decide) (fun K hK => ?_); refine goesY Try.func22 #[.agg #[.int .i64 aP, .slice bV aI.length bW]] ?_; with_reducible refine (laws_toDisk.calls fP aP _ _ aI iC iD _ ?side1 ?side2 uV.out).mono ?_
      (case side1 => exact xcb dC); (case side2 => exact dD.out); rintro e zO ⟨oZ, rfl, cN, hb⟩; refine ⟨_, rfl, ?_⟩; replace aC := xrb aC hb; replace aA := xrb aA hb; have bK := aM (Kd.R_lower (Kd.R_new' cN (Kd.R_lt (xr aB))) (below_size xbg)); replace aB := aM (Kd.R_elder' (xr aB) (Kd.R_base cN) hb); replace aD := xbb aD hb; replace aF := xbb aF hb; replace aE := xbb aE hb; replace aG := xbb aG hb; replace HB := xbs hb; (try clear hb cN); obtain ⟨pA, pB, mS⟩ := Kd.R_slice bK.out; (first | subst mS | (injection mS with f1_ f2_ f3_; have f4_ := f1_.symm; have f5_ := f3_.symm; clear f1_ f2_ f3_; subst f4_; subst f5_)); refine hK.out _ _ ⟨xc aE 0 rfl, xc aE 1 rfl, xc aD 0 rfl, xc aD 1 rfl⟩ (fun hHeld => ?_); clear hK K; refine nm_ (N := 47) ?_; refine one_ (i := 3) (N := some 48) #[true, true, true, true, false] rfl rfl (by kernel_rfl) (by decide) (fun K hK => ?_); refine goesY Try.func25 #[.agg #[.int .i64 cI, .slice cL bR.length cM], .agg #[.int .i64 iC, .slice pA iD.length pB]] ?_; with_reducible refine (laws_eqDisk.calls fP cI _ _ bR iC _ _ iD true _ ?side1 ?side2 ?side3 ?side4 uW.out).mono ?_
      (case side1 => exact xC aB); (case side2 => exact (Kd.R_reads' aB.out).2.1); (case side3 => exact xC bK); (case side4 => exact (Kd.R_reads' bK.out).2.1); rintro e wZ ⟨rfl, hb⟩; refine ⟨_, rfl, ?_⟩; replace aC := xrb aC hb; replace aB := xrb aB hb; replace aA := xrb aA hb; replace bK := xrb bK hb; replace aD := xbb aD hb; replace aF := xbb aF hb; replace aE := xbb aE hb; replace aG := xbb aG hb; replace HB := xbs hb; (try clear hb); refine hK.out _ _ ⟨xc aE 0 rfl, xc aE 1 rfl, xc aD 0 rfl, xc aD 1 rfl⟩ (fun hHeld => ?_); clear hK K; refine nm_ (N := 48) ?_; refine pure_ (i := 4) (N := some 49) (v := ?_) (a' := ?_) #[true, true, true, true, true] rfl rfl (by kernel_rfl) (fun _ _ _ h => h) (Or.inl ⟨by rfl, ?_⟩) ?_ ?_; rotate_left
      ·intro w'; go_simp
       with_reducible rfl
      rotate_left
      ·simp only [Act.put, List.setIfInBounds_toArray, List.set_cons_zero, List.set_cons_succ, i64_w, i32_w]; rfl
      refine done_ (by kernel_rfl) ?_; have uX := cP.out; have uY := cO.out; have uZ := bG.out; have vA := bE.out; have vB := aN.out; have vC := aO.out; obtain ⟨gE, gF, gG, gH⟩ := xf2 (w := wZ) aE; go_upto_region 14 with (first | ((with_reducible refine gC 26 rfl ?_); refine goesLY (some 52) rfl Try.func26 #[.agg #[.int .i64 cI, .slice cL bR.length cM], .int .i64 1] ?_; (with_reducible refine (laws_markDisk.calls fP cI (fun k_ => some k_ = (.slice cL bR.length cM : Value).ownBlock) (.slice cL bR.length cM) bR 1 kR iI w _ ?side1 ?side2 wY.out).mono ?_); (case side1 => exact xbg); (case side2 => exact Kd.R_tight rfl aB.out); rintro e oL ⟨rfl, iJ, hb, hkp⟩; refine ⟨_, rfl, ?_⟩; have n0_ := aM (Kd.R_mono (ok' := fun k_ => some k_ ≠ (.slice aX aQ.length aY : Value).ownBlock) (Kd.R_keptB ((Kd.R_apart' aC.out (Kd.R_typed aB.out) (by decide))) hkp (fun k_ hk_ hs_ => (hk_.2) hs_)) (fun k_ hk_ => hk_.1.1)); have n1_ := aM (Kd.R_reok rfl iJ (fun k_ e_ => aB.out.1 k_ e_)); have n2_ := aM (Kd.R_mono (ok' := fun k_ => some k_ ≠ (.slice cJ bJ.length cK : Value).ownBlock) (Kd.R_keptB ((Kd.R_apart' aA.out (Kd.R_typed aB.out) (by decide))) hkp (fun k_ hk_ hs_ => (hk_.2) hs_)) (fun k_ hk_ => hk_.1.1)); have n3_ := aM (blk_kept xblk hkp (fun hs_ => (fun e_ => (Kd.R_ne aB.out aD.out (by decide)) e_) hs_)); have n4_ := aM (blk_kept xblk hkp (fun hs_ => (fun e_ => (Kd.R_ne aB.out aF.out (by decide)) e_) hs_)); have n5_ := aM (blk_kept xblk hkp (fun hs_ => (fun e_ => (Kd.R_ne aB.out aE.out (by decide)) e_) hs_)); have n6_ := aM (blk_kept xblk hkp (fun hs_ => (fun e_ => (Kd.R_ne aB.out aG.out (by decide)) e_) hs_)); have n7_ := aM (Kd.R_mono (ok' := fun k_ => some k_ ≠ (.slice cL bR.length cM : Value).ownBlock) (Kd.R_keptB (bK.out) hkp (fun k_ hk_ hs_ => (hk_.2) hs_)) (fun k_ hk_ => hk_.1.2)); have n8_ := aM (hb); clear aC; clear aB; clear aA; clear aD; clear aF; clear aE; clear aG; clear bK; clear HB; have aC := n0_; have aB := n1_; have aA := n2_; have aD := n3_; have aF := n4_; have aE := n5_; have aG := n6_; have bK := n7_; have HB := n8_; clear n0_ n1_ n2_ n3_ n4_ n5_ n6_ n7_ n8_; (try clear hb); (try clear hkp); (try clear iJ)))
      (try simp only [Act.put, List.setIfInBounds_toArray, List.set_cons_zero, List.set_cons_succ]); go_cut [65] (fun xA wc => ∃ (kq : Nat) (fM : Bool), xA = .bool fM ∧ Aside0 (laws_FnExactHardLoad.j1 kq a1 iB fM aP aI cA cB bJ aV aW aQ = some r) ∧ Aside0 (kq ≤ fP) ∧ Aside0 (Kd.R k36 36 wc w.heap.size (fun k_ => some k_ ≠ ((.slice aX aQ.length aY) : Value).ownBlock) (.slice cJ bJ.length cK) bJ) ∧ Aside0 (Kd.R k112 112 wc w.heap.size (fun _ => True) (.slice cL bR.length cM) iI) ∧ Aside0 (Kd.R k36 36 wc w.heap.size (fun k_ => some k_ ≠ ((.slice cJ bJ.length cK) : Value).ownBlock) (.slice aX aQ.length aY) aQ) ∧ Aside0 (wc.heap[cW]? = some (.cells #[.int .i64 aP, (.slice bV aI.length bW)] 50 (0, 0))) ∧ Aside0 (wc.heap[gB]? = some (.cells #[.int .i64 cA, .int .i64 cB, (.slice cJ bJ.length cK)] 28 (0, 0))) ∧ Aside0 (wc.heap[cX]? = some (.cells #[.int .i64 cI, (.slice cL bR.length cM)] 55 (0, 0))) ∧ Aside0 (wc.heap[fO]? = some (.cells #[.int .i64 aV, .int .i64 aW, (.slice aX aQ.length aY)] 28 (0, 0))) ∧ Aside0 (Below w.heap.size w wc))
      case first =>
       have H := lX.out; clear lX; by_cases lI : kR < 0
       ·rw [if_pos lI] at H; have dE : decide (kR < 0) = true := decide_eq_true lI; clear lI; (first | rw [dE] | (simp only [i64_w, i32_w]; rw [dE]) | skip); have H' := aM H; clear H; go_wp2; go_meet
        case rel => exact ⟨_, (true), u18_0, H', ⟨u18_3⟩, ⟨u18_4⟩, ⟨u18_5⟩, ⟨u18_6⟩, ⟨xblk⟩, ⟨xblk⟩, ⟨xblk⟩, ⟨xblk⟩, ⟨xbg⟩⟩
       ·rw [if_neg lI] at H; have dE : decide (kR < 0) = false := decide_eq_false lI; clear lI; (first | rw [dE] | (simp only [i64_w, i32_w]; rw [dE]) | skip); replace H := oB H; obtain ⟨lQ, mT, H⟩ := H; (try dsimp only at H); have vD := aM mT; clear mT
        by_cases mH : lQ = true
        ·subst mH; replace H := iT H; have H' := aM H; clear H; have vE := aS.out; have vF := aR.out; have vG := aL.out; have vH := aK.out; have vI := aO.out; have vJ := aN.out; obtain ⟨gI, gJ, gK, gL, gM, gN⟩ := xf3 (w := oL) aG; have vK := bC.out; have vL := bB.out; have vM := bE.out; have vN := bG.out; obtain ⟨gO, gP, gQ, gR, gS, gT⟩ := xf3 (w := oL) aF; go_wp2_with (first | (go_at_call 24; (with_reducible refine (laws_eqHard.calls fP aV aW _ _ aQ cA cB _ _ bJ true _ ?side1 ?side2 ?side3 ?side4 vD.out).mono ?_); (case side1 => exact xC aA); (case side2 => exact u18_1); (case side3 => exact xC aC); (case side4 => exact u18_2); rintro e zP ⟨rfl, hb⟩; replace aC := xrb aC hb; replace aB := xrb aB hb; replace aA := xrb aA hb; replace bK := xrb bK hb; replace aD := xbb aD hb; replace aF := xbb aF hb; replace aE := xbb aE hb; replace aG := xbb aG hb; replace HB := xbs hb; (try clear hb)))
         go_meet
         case rel => exact ⟨_, ((kQ != iB)), u18_0, H', ⟨u18_3⟩, ⟨u18_4⟩, ⟨u18_5⟩, ⟨u18_6⟩, ⟨xblk⟩, ⟨xblk⟩, ⟨xblk⟩, ⟨xblk⟩, ⟨xbg⟩⟩
        ·replace mH := Bool.eq_false_iff.mpr mH; subst mH; replace H := iN H; have H' := aM H; clear H; have vO := aS.out; have vP := aR.out; have vQ := aL.out; have vR := aK.out; have vS := aO.out; have vT := aN.out; obtain ⟨gU, gV, gW, gX, gY, gZ⟩ := xf3 (w := oL) aG; have vU := bC.out; have vV := bB.out; have vW := bE.out; have vX := bG.out; obtain ⟨hJ, hU, hX, hY, hZ, iA⟩ := xf3 (w := oL) aF; go_wp2_with (first | (go_at_call 24; (with_reducible refine (laws_eqHard.calls fP aV aW _ _ aQ cA cB _ _ bJ false _ ?side1 ?side2 ?side3 ?side4 vD.out).mono ?_); (case side1 => exact xC aA); (case side2 => exact u18_1); (case side3 => exact xC aC); (case side4 => exact u18_2); rintro e zQ ⟨rfl, hb⟩; replace aC := xrb aC hb; replace aB := xrb aB hb; replace aA := xrb aA hb; replace bK := xrb bK hb; replace aD := xbb aD hb; replace aF := xbb aF hb; replace aE := xbb aE hb; replace aG := xbb aG hb; replace HB := xbs hb; (try clear hb)))
         go_meet
         case rel => exact ⟨_, (true), u18_0, H', ⟨u18_3⟩, ⟨u18_4⟩, ⟨u18_5⟩, ⟨u18_6⟩, ⟨xblk⟩, ⟨xblk⟩, ⟨xblk⟩, ⟨xblk⟩, ⟨xbg⟩⟩
      case rest =>
       clear lX; try clear c2
       try clear p2
       try clear c3
       try clear c4
       try clear kP
       try clear c5
       try clear c6
       try clear c7
       try clear c8
       try clear uB
       try clear uC
       try clear uD
       try clear uE
       try clear uF
       try clear xD
       try clear xE
       try clear uG
       try clear uH
       try clear uI
       try clear uJ
       try clear uK
       try clear lW
       try clear uL
       try clear uM
       try clear uN
       try clear uO
       try clear uP
       try clear uQ
       try clear uR
       try clear uS
       try clear uT
       try clear uU
       try clear mF
       try clear mG
       try clear xF
       try clear xG
       try clear xH
       try clear lI
       try clear dE
       try clear mH
       try clear xI
       try clear xJ
       try clear xL
       try clear xM
       try clear xN
       try clear xO
       try clear xQ
       try clear xR
       try clear xS
       try clear xT
       try clear dK dL
       try clear dO dP
       try clear dS dU dV
       try clear dZ eA
       try clear eD eE
       try clear eH eI eJ
       try clear eO eP eQ
       try clear eU eV eW
       try clear fA fB fC
       try clear fG fH fI
       try clear gE gF
       try clear fS fT
       try clear gI gJ gK
       try clear gO gP gQ
       try clear gU gV gW
       try clear hJ hU hX
       try clear dM dN
       try clear dQ dR
       try clear dW dX dY
       try clear eB eC
       try clear eF eG
       try clear eK eL eM
       try clear eR eS eT
       try clear eX eY eZ
       try clear fD fE fF
       try clear fJ fK fL
       try clear gG gH
       try clear fU fV
       try clear gL gM gN
       try clear gR gS gT
       try clear gX gY gZ
       try clear hY hZ iA
       try clear p2
       obtain ⟨kq, fM, rfl, HA, HJ60, aC, aB, aA, aD, aF, aE, aG, HB⟩ := hcut; have aH := (Kd.R_reads' aB.out).1; rw [aH] at aB; (try simp only [aH]); (try simp only [aH] at aD); (try simp only [aH] at aF); (try simp only [aH] at aE); (try simp only [aH] at aG); (try simp only [aH] at aC); (try simp only [aH] at aA); cases kq with
       | zero => exact absurd HA.out (by simp [laws_FnExactHardLoad.j1])
       | succ dF =>
        have H := HA.out; clear HA; simp only [laws_FnExactHardLoad.j1] at H; by_cases mU : fM = true
        ·subst mU; replace H := iT H; obtain rfl := Option.some.inj H; go_wp2; go_ret
         exact ⟨xerr, xbg⟩
        ·replace mU := Bool.eq_false_iff.mpr mU; subst mU; replace H := iN H; replace H := oB H; obtain ⟨⟨iE, bX⟩, mV, H⟩ := H; (try dsimp only at H); have pC := aM mV; clear mV; replace H := oB H
         obtain ⟨dG, mW, H⟩ := H; (try dsimp only at H); have pD := aM mW; clear mW
         by_cases lY : dG < 0
         ·rw [if_pos lY] at H; have lJ : decide (dG < 0) = true := decide_eq_true lY; clear lY; obtain rfl := Option.some.inj H; have vY := aS.out; have vZ := aR.out; have wA := aL.out; have wB := aK.out; have wC := aO.out; have wD := aN.out; obtain ⟨kS, kT, kU, kV, kW, kX⟩ := xf3 (w := wc) aG; go_wp2_with (first | ((with_reducible refine gC 27 rfl ?_); refine goesLY (some 68) rfl Try.func27 #[.agg #[.int .i64 aV, .int .i64 aW, .slice aX aQ.length aY], .int .i64 1] ?_; (with_reducible refine (laws_markHard.calls dF aV aW (fun k_ => some k_ = (.slice aX aQ.length aY : Value).ownBlock) (.slice aX aQ.length aY) aQ 1 iE bX w _ ?side1 ?side2 pC.out).mono ?_); (case side1 => exact xbg); (case side2 => exact Kd.R_tight rfl aA.out); rintro e xU ⟨rfl, iJ, hb, hkp⟩; refine ⟨_, rfl, ?_⟩; have n0_ := aM (Kd.R_mono (ok' := fun k_ => some k_ ≠ (.slice aX aQ.length aY : Value).ownBlock) (Kd.R_keptB (aC.out) hkp (fun k_ hk_ hs_ => (hk_) hs_)) (fun k_ hk_ => hk_.1)); have n1_ := aM (Kd.R_mono (ok' := fun k_ => True) (Kd.R_keptB ((Kd.R_apart' aB.out (Kd.R_typed aA.out) (by decide))) hkp (fun k_ hk_ hs_ => (hk_.2) hs_)) (fun k_ hk_ => trivial)); have n2_ := aM (Kd.R_reok rfl iJ (fun k_ e_ => aA.out.1 k_ e_)); have n3_ := aM (blk_kept xblk hkp (fun hs_ => (fun e_ => (Kd.R_ne aA.out aD.out (by decide)) e_) hs_)); have n4_ := aM (blk_kept xblk hkp (fun hs_ => (fun e_ => (Kd.R_ne aA.out aF.out (by decide)) e_) hs_)); have n5_ := aM (blk_kept xblk hkp (fun hs_ => (fun e_ => (Kd.R_ne aA.out aE.out (by decide)) e_) hs_)); have n6_ := aM (blk_kept xblk hkp (fun hs_ => (fun e_ => (Kd.R_ne aA.out aG.out (by decide)) e_) hs_)); have n7_ := aM (hb); clear aC; clear aB; clear aA; clear aD; clear aF; clear aE; clear aG; clear HB; have aC := n0_; have aB := n1_; have aA := n2_; have aD := n3_; have aF := n4_; have aE := n5_; have aG := n6_; have HB := n7_; clear n0_ n1_ n2_ n3_ n4_ n5_ n6_ n7_; (try clear hb); (try clear hkp); (try clear iJ); obtain ⟨kY, kZ, lA, lB, lC, lE⟩ := xf3 (w := xU) aG) | ((with_reducible refine gC 28 rfl ?_); refine goesL_ (some 71) rfl rfl Try.func28 (by kernel_rfl) rfl #[.agg #[.int .i64 aV, .int .i64 aW, .slice aX bX.length aY], .int .i64 1] rfl u18_7 ?_; (with_reducible refine (laws_heldHard.calls dF aV aW _ _ bX 1 dG _ ?side1 ?side2 pD.out).mono ?_); (case side1 => exact xC aA); (case side2 => exact u18_8); rintro e xV ⟨rfl, hb⟩; refine ⟨_, rfl, ?_⟩; replace aC := xrb aC hb; replace aB := xrb aB hb; replace aA := xrb aA hb; replace aD := xbb aD hb; replace aF := xbb aF hb; replace aE := xbb aE hb; replace aG := xbb aG hb; replace HB := xbs hb; (try clear hb)))
          go_ret
          exact ⟨xerr, xbg⟩
         ·rw [if_neg lY] at H; have lJ : decide (dG < 0) = false := decide_eq_false lY; clear lY; by_cases iF : dG = iE
          ·rw [if_pos iF] at H; obtain ⟨iK, iL⟩ := bT iF; clear iF; replace H := oB H; obtain ⟨⟨lZ, mA⟩, lK, H⟩ := H; (try dsimp only at H); have pE := aM lK; clear lK; replace H := oB H
           obtain ⟨⟨fQ, fR, dA, mX⟩, lL, H⟩ := H; (try dsimp only at H); have pF := aM lL; clear lL; have iM := aM H; clear H; have pG := aS.out; have pH := aR.out; have pI := aL.out; have pJ := aK.out; have pK := aO.out; have pL := aN.out; obtain ⟨iO, iP, iQ, iR, iS, iU⟩ := xf3 (w := wc) aG
           go_upto_region 25 with (first | ((with_reducible refine gC 27 rfl ?_); refine goesLY (some 68) rfl Try.func27 #[.agg #[.int .i64 aV, .int .i64 aW, .slice aX aQ.length aY], .int .i64 1] ?_; (with_reducible refine (laws_markHard.calls dF aV aW (fun k_ => some k_ = (.slice aX aQ.length aY : Value).ownBlock) (.slice aX aQ.length aY) aQ 1 iE bX w _ ?side1 ?side2 pC.out).mono ?_); (case side1 => exact xbg); (case side2 => exact Kd.R_tight rfl aA.out); rintro e pM ⟨rfl, iJ, hb, hkp⟩; refine ⟨_, rfl, ?_⟩; have n0_ := aM (Kd.R_mono (ok' := fun k_ => some k_ ≠ (.slice aX aQ.length aY : Value).ownBlock) (Kd.R_keptB (aC.out) hkp (fun k_ hk_ hs_ => (hk_) hs_)) (fun k_ hk_ => hk_.1)); have n1_ := aM (Kd.R_mono (ok' := fun k_ => True) (Kd.R_keptB ((Kd.R_apart' aB.out (Kd.R_typed aA.out) (by decide))) hkp (fun k_ hk_ hs_ => (hk_.2) hs_)) (fun k_ hk_ => trivial)); have n2_ := aM (Kd.R_reok rfl iJ (fun k_ e_ => aA.out.1 k_ e_)); have n3_ := aM (blk_kept xblk hkp (fun hs_ => (fun e_ => (Kd.R_ne aA.out aD.out (by decide)) e_) hs_)); have n4_ := aM (blk_kept xblk hkp (fun hs_ => (fun e_ => (Kd.R_ne aA.out aF.out (by decide)) e_) hs_)); have n5_ := aM (blk_kept xblk hkp (fun hs_ => (fun e_ => (Kd.R_ne aA.out aE.out (by decide)) e_) hs_)); have n6_ := aM (blk_kept xblk hkp (fun hs_ => (fun e_ => (Kd.R_ne aA.out aG.out (by decide)) e_) hs_)); have n7_ := aM (hb); clear aC; clear aB; clear aA; clear aD; clear aF; clear aE; clear aG; clear HB; have aC := n0_; have aB := n1_; have aA := n2_; have aD := n3_; have aF := n4_; have aE := n5_; have aG := n6_; have HB := n7_; clear n0_ n1_ n2_ n3_ n4_ n5_ n6_ n7_; (try clear hb); (try clear hkp); (try clear iJ); obtain ⟨iV, iW, iX, iY, iZ, jA⟩ := xf3 (w := pM) aG) | ((with_reducible refine gC 28 rfl ?_); refine goesL_ (some 71) rfl rfl Try.func28 (by kernel_rfl) rfl #[.agg #[.int .i64 aV, .int .i64 aW, .slice aX bX.length aY], .int .i64 1] rfl u18_7 ?_; (with_reducible refine (laws_heldHard.calls dF aV aW _ _ bX 1 dG _ ?side1 ?side2 pD.out).mono ?_); (case side1 => exact xC aA); (case side2 => exact u18_8); rintro e pN ⟨rfl, hb⟩; refine ⟨_, rfl, ?_⟩; replace aC := xrb aC hb; replace aB := xrb aB hb; replace aA := xrb aA hb; replace aD := xbb aD hb; replace aF := xbb aF hb; replace aE := xbb aE hb; replace aG := xbb aG hb; replace HB := xbs hb; (try clear hb); have pO := bB.out; have pP := bC.out; have pQ := cO.out; have pR := cP.out; obtain ⟨jB, jC, jD, jE⟩ := xf2 (w := pN) aD) | ((with_reducible refine gC 22 rfl ?_); refine goesLY (some 79) rfl Try.func22 #[.agg #[.int .i64 aP, .slice bV aI.length bW]] ?_; (with_reducible refine (laws_toDisk.calls dF aP _ _ aI lZ mA _ ?side1 ?side2 pE.out).mono ?_); (case side1 => exact xcb dC); (case side2 => exact dD.out); rintro e xW ⟨xX, rfl, cN, hb⟩; refine ⟨_, rfl, ?_⟩; replace aC := xrb aC hb; replace aA := xrb aA hb; have cC := aM (Kd.R_lower (Kd.R_new' cN (Kd.R_lt (xr aB))) (below_size xbg)); replace aB := aM (Kd.R_elder' (xr aB) (Kd.R_base cN) hb); replace aD := xbb aD hb; replace aF := xbb aF hb; replace aE := xbb aE hb; replace aG := xbb aG hb; replace HB := xbs hb; (try clear hb cN); obtain ⟨mY, mZ, nA⟩ := Kd.R_slice cC.out; subst nA) | ((with_reducible refine gC 23 rfl ?_); refine goesLY (some 81) rfl Try.func23 #[.agg #[.int .i64 lZ, .slice mY mA.length mZ], .int .i64 a1] ?_; (with_reducible refine (impl_HardLoad.calls dF lZ _ _ mA a1 fQ fR dA mX _ ?side1 ?side2 pF.out).mono ?_); (case side1 => exact xC cC); (case side2 => exact (Kd.R_reads' cC.out).2.1); rintro e xY ⟨xZ, rfl, cN, hb⟩; refine ⟨_, rfl, ?_⟩; replace aB := xrb aB hb; replace cC := xrb cC hb; have bZ := aM (Kd.R_lower (Kd.R_new' (Kd.R_new' cN (Kd.R_lt (xr aC))) (Kd.R_lt (xr aA))) (below_size xbg)); replace aC := aM (Kd.R_elder' (xr aC) (Kd.R_base cN) hb); replace aA := aM (Kd.R_elder' (xr aA) (Kd.R_base cN) hb); replace aD := xbb aD hb; replace aF := xbb aF hb; replace aE := xbb aE hb; replace aG := xbb aG hb; replace HB := xbs hb; (try clear hb cN)) | ((with_reducible refine gD 14 rfl ?_); refine boxE (N := 14) rfl (cs := #[.int .i64 0, .int .i64 0, .slice none 0 0]) (t := 28) ?_; intro jF hg jG hbox hb; replace aC := xrb aC hb; replace aB := xrb aB hb; replace aA := xrb aA hb; replace cC := xrb cC hb; replace bZ := xrb bZ hb; have wE := aM (xge hg); have wF := aM (xge hg); replace HB := xbs hb; have cQ := nblt aD hg; have cR := nbgt aD hg; have cS := nblt aF hg; have cT := nbgt aF hg; have cU := nblt aE hg; have cV := nbgt aE hg; have bM := nblt aG hg; have bN := nbgt aG hg; replace aD := xbb aD hb; replace aF := xbb aF hb; replace aE := xbb aE hb; replace aG := xbb aG hb; have bO := aM (hbox); clear hb hbox hg; have pS := cR.out; have pT := cQ.out; have pU := cT.out; have pV := cS.out; have pW := cV.out; have pX := cU.out; have pY := bN.out; have pZ := bM.out; obtain ⟨jH, jI, jJ, jK, jL, jM⟩ := xf3 (w := jG) bO; obtain ⟨cY, cZ, nB⟩ := Kd.R_slice bZ.out; subst nB))
           (try simp only [Act.put, List.setIfInBounds_toArray, List.set_cons_zero, List.set_cons_succ]); go_cut [92] (fun yA wc => ∃ (kq : Nat) (dB : Bool), yA = .bool dB ∧ Aside0 (laws_FnExactHardLoad.j2 kq iE dB aV aW bX = some r) ∧ Aside0 (kq ≤ dF) ∧ Aside0 (Kd.R k36 36 wc w.heap.size (fun k_ => some k_ ≠ ((.slice aX aQ.length aY) : Value).ownBlock ∧ some k_ ≠ ((.slice cY dA.length cZ) : Value).ownBlock) (.slice cJ bJ.length cK) bJ) ∧ Aside0 (Kd.R k112 112 wc w.heap.size (fun _ => True) (.slice cL iI.length cM) iI) ∧ Aside0 (Kd.R k36 36 wc w.heap.size (fun k_ => some k_ ≠ ((.slice cJ bJ.length cK) : Value).ownBlock ∧ some k_ ≠ ((.slice cY dA.length cZ) : Value).ownBlock) (.slice aX aQ.length aY) bX) ∧ Aside0 (Kd.R k36 36 wc w.heap.size (fun k_ => some k_ ≠ ((.slice cJ bJ.length cK) : Value).ownBlock ∧ some k_ ≠ ((.slice aX aQ.length aY) : Value).ownBlock) (.slice cY dA.length cZ) dA) ∧ Aside0 (wc.heap[cW]? = some (.cells #[.int .i64 aP, (.slice bV aI.length bW)] 50 (0, 0))) ∧ Aside0 (wc.heap[gB]? = some (.cells #[.int .i64 cA, .int .i64 cB, (.slice cJ bJ.length cK)] 28 (0, 0))) ∧ Aside0 (wc.heap[cX]? = some (.cells #[.int .i64 cI, (.slice cL iI.length cM)] 55 (0, 0))) ∧ Aside0 (wc.heap[fO]? = some (.cells #[.int .i64 aV, .int .i64 aW, (.slice aX aQ.length aY)] 28 (0, 0))) ∧ Aside0 (wc.heap[jF]? = some (.cells #[.int .i64 fQ, .int .i64 fR, (.slice cY dA.length cZ)] 28 (0, 0))) ∧ Aside0 (Below w.heap.size w wc))
           case first =>
            have H := iM.out; clear iM; replace H := oB H; obtain ⟨lR, lM, H⟩ := H; (try dsimp only at H); have nC := aM lM; clear lM
            by_cases jN : lR = true
            ·subst jN; replace H := iT H; have H' := aM H; clear H; have qA := cR.out; have qB := cQ.out; have qC := cT.out; have qD := cS.out; have qE := cV.out; have qF := cU.out; have qG := bN.out; have qH := bM.out; obtain ⟨jO, jP, jQ, jR, jS, jT⟩ := xf3 (w := jG) bO; have qI := bC.out; have qJ := bB.out; have qK := bE.out; have qL := bG.out; have qM := aK.out; have qN := aL.out; obtain ⟨jU, jV, jW, jX, jY, jZ⟩ := xf3 (w := jG) aF; go_wp2_with (first | ((with_reducible refine gC 24 rfl ?_); refine goesLY (some 86) rfl Try.func24 #[.agg #[.int .i64 fQ, .int .i64 fR, .slice cY dA.length cZ], .agg #[.int .i64 cA, .int .i64 cB, .slice cJ bJ.length cK]] ?_; (with_reducible refine (laws_eqHard.calls dF fQ fR _ _ dA cA cB _ _ bJ true _ ?side1 ?side2 ?side3 ?side4 nC.out).mono ?_); (case side1 => exact (Kd.R_reads' (xrs bZ)).2.2); (case side2 => exact (Kd.R_reads' bZ.out).2.1); (case side3 => exact (Kd.R_reads' (xrs aC)).2.2); (case side4 => exact u18_2); rintro e yB ⟨rfl, hb⟩; refine ⟨_, rfl, ?_⟩; replace aC := xrB aC hb; replace aB := xrB aB hb; replace aA := xrB aA hb; replace cC := xrB cC hb; replace bZ := xrB bZ hb; replace aD := xbc aD hb; replace aF := xbc aF hb; replace aE := xbc aE hb; replace aG := xbc aG hb; replace bO := aM (blk_below (g := jF) (o := .cells #[.int .i64 fQ, .int .i64 fR, .slice cY dA.length cZ] 28 (0, 0)) xP hb); replace HB := xbs hb; (try clear hb)))
             go_meet
             case rel => exact ⟨_, ((mX != iB)), u18_0, H', ⟨by have := HJ11.out; have := HJ60.out; first | omega | exact Nat.le_refl _⟩, ⟨u18_12⟩, ⟨u18_13⟩, ⟨u18_14⟩, ⟨u18_15⟩, ⟨by (try simp only [aH]); refine bS ?_; exact aD.out⟩, ⟨by (try simp only [aH]); refine bS ?_; exact aF.out⟩, ⟨by (try simp only [aH]); refine bS ?_; exact aE.out⟩, ⟨by (try simp only [aH]); refine bS ?_; exact aG.out⟩, ⟨by (try simp only [aH]); refine bS ?_; exact bO.out⟩, ⟨xbg⟩⟩
            ·replace jN := Bool.eq_false_iff.mpr jN; subst jN; replace H := iN H; have H' := aM H; clear H; have qO := cR.out; have qP := cQ.out; have qQ := cT.out; have qR := cS.out; have qS := cV.out; have qT := cU.out; have qU := bN.out; have qV := bM.out; obtain ⟨kA, kB, kC, kE, kF, kG⟩ := xf3 (w := jG) bO; have qW := bC.out; have qX := bB.out; have qY := bE.out; have qZ := bG.out; have rA := aK.out; have rB := aL.out; obtain ⟨kH, kI, kJ, kK, kL, kM⟩ := xf3 (w := jG) aF; go_wp2_with (first | ((with_reducible refine gC 24 rfl ?_); refine goesLY (some 86) rfl Try.func24 #[.agg #[.int .i64 fQ, .int .i64 fR, .slice cY dA.length cZ], .agg #[.int .i64 cA, .int .i64 cB, .slice cJ bJ.length cK]] ?_; (with_reducible refine (laws_eqHard.calls dF fQ fR _ _ dA cA cB _ _ bJ false _ ?side1 ?side2 ?side3 ?side4 nC.out).mono ?_); (case side1 => exact (Kd.R_reads' (xrs bZ)).2.2); (case side2 => exact (Kd.R_reads' bZ.out).2.1); (case side3 => exact (Kd.R_reads' (xrs aC)).2.2); (case side4 => exact u18_2); rintro e yC ⟨rfl, hb⟩; refine ⟨_, rfl, ?_⟩; replace aC := xrB aC hb; replace aB := xrB aB hb; replace aA := xrB aA hb; replace cC := xrB cC hb; replace bZ := xrB bZ hb; replace aD := xbc aD hb; replace aF := xbc aF hb; replace aE := xbc aE hb; replace aG := xbc aG hb; replace bO := aM (blk_below (g := jF) (o := .cells #[.int .i64 fQ, .int .i64 fR, .slice cY dA.length cZ] 28 (0, 0)) xP hb); replace HB := xbs hb; (try clear hb)))
             go_meet
             case rel => exact ⟨_, (true), u18_0, H', ⟨by have := HJ11.out; have := HJ60.out; first | omega | exact Nat.le_refl _⟩, ⟨u18_12⟩, ⟨u18_13⟩, ⟨u18_14⟩, ⟨u18_15⟩, ⟨by (try simp only [aH]); refine bS ?_; exact aD.out⟩, ⟨by (try simp only [aH]); refine bS ?_; exact aF.out⟩, ⟨by (try simp only [aH]); refine bS ?_; exact aE.out⟩, ⟨by (try simp only [aH]); refine bS ?_; exact aG.out⟩, ⟨by (try simp only [aH]); refine bS ?_; exact bO.out⟩, ⟨xbg⟩⟩
           case rest =>
            clear iM; try clear c1
            try clear c2
            try clear p2
            try clear c3
            try clear c4
            try clear kP
            try clear c5
            try clear c6
            try clear c7
            try clear c8
            try clear c9
            try clear c10
            try clear zR
            try clear zS
            try clear zT
            try clear zU
            try clear uB
            try clear uC
            try clear uD
            try clear uE
            try clear uF
            try clear xD
            try clear xE
            try clear uG
            try clear uH
            try clear uI
            try clear uJ
            try clear uK
            try clear lW
            try clear uL
            try clear uM
            try clear uN
            try clear uO
            try clear uP
            try clear uQ
            try clear uR
            try clear uS
            try clear uT
            try clear uU
            try clear mF
            try clear mG
            try clear xF
            try clear xG
            try clear xH
            try clear lI
            try clear dE
            try clear mH
            try clear xI
            try clear xJ
            try clear xL
            try clear xM
            try clear xN
            try clear xO
            try clear xQ
            try clear xR
            try clear xS
            try clear xT
            try clear mU
            try clear lY
            try clear lJ
            try clear zV
            try clear zW
            try clear zX
            try clear iF
            try clear iK
            try clear iL
            try clear yD
            try clear yE
            try clear yF
            try clear yG
            try clear yH
            try clear yI
            try clear yJ
            try clear yK
            try clear yL
            try clear jN
            try clear yM
            try clear yN
            try clear yO
            try clear yP
            try clear yQ
            try clear yR
            try clear yS
            try clear yT
            try clear yU
            try clear yV
            try clear yW
            try clear yX
            try clear yY
            try clear yZ
            try clear iO iP iQ
            try clear iV iW iX
            try clear jB jC
            try clear jH jI jJ
            try clear jO jP jQ
            try clear jU jV jW
            try clear kA kB kC
            try clear kH kI kJ
            try clear dK dL
            try clear dO dP
            try clear dS dU dV
            try clear dZ eA
            try clear eD eE
            try clear eH eI eJ
            try clear eO eP eQ
            try clear eU eV eW
            try clear fA fB fC
            try clear fG fH fI
            try clear gE gF
            try clear fS fT
            try clear gI gJ gK
            try clear gO gP gQ
            try clear gU gV gW
            try clear hJ hU hX
            try clear kS kT kU
            try clear kY kZ lA
            try clear iR iS iU
            try clear iY iZ jA
            try clear jD jE
            try clear jK jL jM
            try clear jR jS jT
            try clear jX jY jZ
            try clear kE kF kG
            try clear kK kL kM
            try clear dM dN
            try clear dQ dR
            try clear dW dX dY
            try clear eB eC
            try clear eF eG
            try clear eK eL eM
            try clear eR eS eT
            try clear eX eY eZ
            try clear fD fE fF
            try clear fJ fK fL
            try clear gG gH
            try clear fU fV
            try clear gL gM gN
            try clear gR gS gT
            try clear gX gY gZ
            try clear hY hZ iA
            try clear kV kW kX
            try clear lB lC lE
            try clear p2
            obtain ⟨kq, dB, rfl, HA, HJ103, aC, aB, aA, bL, aD, aF, aE, aG, bO, HB⟩ := hcut; have aJ := (Kd.R_reads' aA.out).1; rw [aJ] at aA; (try simp only [aJ]); (try simp only [aJ] at aD); (try simp only [aJ] at aF); (try simp only [aJ] at aE); (try simp only [aJ] at aG); (try simp only [aJ] at bO); (try simp only [aJ] at aC); (try simp only [aJ] at aB); (try simp only [aJ] at bL); cases kq with
            | zero => exact absurd HA.out (by simp [laws_FnExactHardLoad.j2])
            | succ kN =>
             have H := HA.out; clear HA; simp only [laws_FnExactHardLoad.j2] at H; by_cases lF : dB = true
             ·subst lF; replace H := iT H; obtain rfl := Option.some.inj H; go_wp2; go_ret
              exact ⟨xerr, xbg⟩
             ·replace lF := Bool.eq_false_iff.mpr lF; subst lF; replace H := iN H; replace H := oB H; obtain ⟨dH, lN, H⟩ := H; (try dsimp only at H); have mB := aM lN; clear lN
              by_cases iG : dH < 0
              ·rw [if_pos iG] at H; have mC : decide (dH < 0) = true := decide_eq_true iG; clear iG; obtain rfl := Option.some.inj H; have rC := aS.out; have rE := aR.out; have rF := aL.out; have rG := aK.out; have rH := aO.out; have rI := aN.out; have rJ := bM.out; have rK := bN.out; obtain ⟨nD, nE, nF, nG, nH, nI⟩ := xf3 (w := wc) aG; go_wp2_with (first | ((with_reducible refine gC 28 rfl ?_); refine goesLY (some 95) rfl Try.func28 #[.agg #[.int .i64 aV, .int .i64 aW, .slice aX bX.length aY], .int .i64 1] ?_; (with_reducible refine (laws_heldHard.calls kN aV aW _ _ bX 1 dH _ ?side1 ?side2 mB.out).mono ?_); (case side1 => exact xC aA); (case side2 => exact u18_1); rintro e zA ⟨rfl, hb⟩; refine ⟨_, rfl, ?_⟩; replace aC := xrb aC hb; replace aB := xrb aB hb; replace aA := xrb aA hb; replace bL := xrb bL hb; replace aD := xbb aD hb; replace aF := xbb aF hb; replace aE := xbb aE hb; replace aG := xbb aG hb; replace bO := xbb bO hb; replace HB := xbs hb; (try clear hb)))
               go_ret
               exact ⟨xerr, xbg⟩
              ·rw [if_neg iG] at H; have mC : decide (dH < 0) = false := decide_eq_false iG; clear iG; by_cases kO : dH = iE
               ·rw [if_pos kO] at H; obtain ⟨mD, mE⟩ := bT kO; clear kO; obtain rfl := Option.some.inj H; have rL := aS.out; have rM := aR.out; have rN := aL.out; have rO := aK.out; have rP := aO.out; have rQ := aN.out; have rR := bM.out; have rS := bN.out; obtain ⟨nJ, nK, nL, nM, nN, nO⟩ := xf3 (w := wc) aG; go_wp2_with (first | ((with_reducible refine gC 28 rfl ?_); refine goesLY (some 95) rfl Try.func28 #[.agg #[.int .i64 aV, .int .i64 aW, .slice aX bX.length aY], .int .i64 1] ?_; (with_reducible refine (laws_heldHard.calls kN aV aW _ _ bX 1 dH _ ?side1 ?side2 mB.out).mono ?_); (case side1 => exact xC aA); (case side2 => exact u18_1); rintro e zB ⟨rfl, hb⟩; refine ⟨_, rfl, ?_⟩; replace aC := xrb aC hb; replace aB := xrb aB hb; replace aA := xrb aA hb; replace bL := xrb bL hb; replace aD := xbb aD hb; replace aF := xbb aF hb; replace aE := xbb aE hb; replace aG := xbb aG hb; replace bO := xbb bO hb; replace HB := xbs hb; (try clear hb)))
                go_ret
                exact ⟨xerr, xbg⟩
               ·rw [if_neg kO] at H; obtain ⟨mD, mE⟩ := bF kO; obtain rfl := Option.some.inj H; have rT := aS.out; have rU := aR.out; have rV := aL.out; have rW := aK.out; have rX := aO.out; have rY := aN.out; have rZ := bM.out; have sA := bN.out; obtain ⟨nP, nQ, nR, nS, nT, nU⟩ := xf3 (w := wc) aG; go_wp2_with (first | ((with_reducible refine gC 28 rfl ?_); refine goesLY (some 95) rfl Try.func28 #[.agg #[.int .i64 aV, .int .i64 aW, .slice aX bX.length aY], .int .i64 1] ?_; (with_reducible refine (laws_heldHard.calls kN aV aW _ _ bX 1 dH _ ?side1 ?side2 mB.out).mono ?_); (case side1 => exact xC aA); (case side2 => exact u18_1); rintro e zC ⟨rfl, hb⟩; refine ⟨_, rfl, ?_⟩; replace aC := xrb aC hb; replace aB := xrb aB hb; replace aA := xrb aA hb; replace bL := xrb bL hb; replace aD := xbb aD hb; replace aF := xbb aF hb; replace aE := xbb aE hb; replace aG := xbb aG hb; replace bO := xbb bO hb; replace HB := xbs hb; (try clear hb)))
                go_ret
                exact ⟨xerr, xbg⟩
          ·rw [if_neg iF] at H; obtain ⟨iK, iL⟩ := bF iF; obtain rfl := Option.some.inj H; have sB := aS.out; have sC := aR.out; have sD := aL.out; have sE := aK.out; have sF := aO.out; have sG := aN.out; obtain ⟨nV, nW, nX, nY, nZ, oA⟩ := xf3 (w := wc) aG; go_wp2_with (first | ((with_reducible refine gC 27 rfl ?_); refine goesLY (some 68) rfl Try.func27 #[.agg #[.int .i64 aV, .int .i64 aW, .slice aX aQ.length aY], .int .i64 1] ?_; (with_reducible refine (laws_markHard.calls dF aV aW (fun k_ => some k_ = (.slice aX aQ.length aY : Value).ownBlock) (.slice aX aQ.length aY) aQ 1 iE bX w _ ?side1 ?side2 pC.out).mono ?_); (case side1 => exact xbg); (case side2 => exact Kd.R_tight rfl aA.out); rintro e sH ⟨rfl, iJ, hb, hkp⟩; refine ⟨_, rfl, ?_⟩; have n0_ := aM (Kd.R_mono (ok' := fun k_ => some k_ ≠ (.slice aX aQ.length aY : Value).ownBlock) (Kd.R_keptB (aC.out) hkp (fun k_ hk_ hs_ => (hk_) hs_)) (fun k_ hk_ => hk_.1)); have n1_ := aM (Kd.R_mono (ok' := fun k_ => True) (Kd.R_keptB ((Kd.R_apart' aB.out (Kd.R_typed aA.out) (by decide))) hkp (fun k_ hk_ hs_ => (hk_.2) hs_)) (fun k_ hk_ => trivial)); have n2_ := aM (Kd.R_reok rfl iJ (fun k_ e_ => aA.out.1 k_ e_)); have n3_ := aM (blk_kept xblk hkp (fun hs_ => (fun e_ => (Kd.R_ne aA.out aD.out (by decide)) e_) hs_)); have n4_ := aM (blk_kept xblk hkp (fun hs_ => (fun e_ => (Kd.R_ne aA.out aF.out (by decide)) e_) hs_)); have n5_ := aM (blk_kept xblk hkp (fun hs_ => (fun e_ => (Kd.R_ne aA.out aE.out (by decide)) e_) hs_)); have n6_ := aM (blk_kept xblk hkp (fun hs_ => (fun e_ => (Kd.R_ne aA.out aG.out (by decide)) e_) hs_)); have n7_ := aM (hb); clear aC; clear aB; clear aA; clear aD; clear aF; clear aE; clear aG; clear HB; have aC := n0_; have aB := n1_; have aA := n2_; have aD := n3_; have aF := n4_; have aE := n5_; have aG := n6_; have HB := n7_; clear n0_ n1_ n2_ n3_ n4_ n5_ n6_ n7_; (try clear hb); (try clear hkp); (try clear iJ); obtain ⟨oC, oD, oE, oF, oG, oH⟩ := xf3 (w := sH) aG) | ((with_reducible refine gC 28 rfl ?_); refine goesL_ (some 71) rfl rfl Try.func28 (by kernel_rfl) rfl #[.agg #[.int .i64 aV, .int .i64 aW, .slice aX bX.length aY], .int .i64 1] rfl u18_7 ?_; (with_reducible refine (laws_heldHard.calls dF aV aW _ _ bX 1 dG _ ?side1 ?side2 pD.out).mono ?_); (case side1 => exact xC aA); (case side2 => exact u18_8); rintro e zD ⟨rfl, hb⟩; refine ⟨_, rfl, ?_⟩; replace aC := xrb aC hb; replace aB := xrb aB hb; replace aA := xrb aA hb; replace aD := xbb aD hb; replace aF := xbb aF hb; replace aE := xbb aE hb; replace aG := xbb aG hb; replace HB := xbs hb; (try clear hb)))
           go_ret
           exact ⟨xerr, xbg⟩
     ·replace mG := Bool.eq_false_iff.mpr mG; subst mG; replace H := iN H; obtain rfl := Option.some.inj H; try go_wp2
      replace aC := rD aC; replace aB := rD aB; replace aA := rD aA; replace aD := bD aD; replace aF := bD aF; replace aE := bD aE; replace aG := bD aG; replace HB := lD HB; refine start_ (n := 5) (S := fun w' => w'.cell? ⟨cX, 0, none⟩ = some (.int .i64 cI) ∧ w'.cell? ⟨cX, 1, none⟩ = some (.slice cL bR.length cM) ∧ w'.cell? ⟨cW, 0, none⟩ = some (.int .i64 aP) ∧ w'.cell? ⟨cW, 1, none⟩ = some (.slice bV aI.length bW)) (ds := []) #[false, false, false, false, false] (by kernel_rfl) rfl rfl ⟨xc aE 0 rfl, xc aE 1 rfl, xc aD 0 rfl, xc aD 1 rfl⟩ (fun hHeld => ?_); generalize wc.drew = zE at aC aB aA aD aF aE aG HB hHeld ⊢; refine take_ (i := 0) (N := some 45) (v := ?_) (a' := ?_) #[true, false, false, false, false] rfl rfl (by kernel_rfl) (fun _ _ _ h => h) (Or.inl ⟨by rfl, ?_⟩) hHeld ?_ ?_; rotate_left
      ·rintro w' ⟨s0, s1, s2, s3⟩; go_simp
       with_reducible rfl
      rotate_left
      ·simp only [Act.put, List.setIfInBounds_toArray, List.set_cons_zero, List.set_cons_succ, i64_w, i32_w]; rfl
      refine take_ (i := 1) (N := some 46) (v := ?_) (a' := ?_) #[true, true, false, false, false] rfl rfl (by kernel_rfl) (fun _ _ _ h => h) (Or.inl ⟨by rfl, ?_⟩) hHeld ?_ ?_; rotate_left
      ·rintro w' ⟨s0, s1, s2, s3⟩; go_simp
       with_reducible rfl
      rotate_left
      ·simp only [Act.put, List.setIfInBounds_toArray, List.set_cons_zero, List.set_cons_succ, i64_w, i32_w]; rfl
      refine one_ (i := 2) (N := some 47) #[true, true, true, false, false] rfl rfl (by kernel_rfl) (by decide) (fun K hK => ?_); refine goesY Try.func22 #[.agg #[.int .i64 aP, .slice bV aI.length bW]] ?_; with_reducible refine (laws_toDisk.calls fP aP _ _ aI iC iD _ ?side1 ?side2 uV.out).mono ?_
      (case side1 => exact xcb dC); (case side2 => exact dD.out); rintro e zF ⟨oZ, rfl, cN, hb⟩; refine ⟨_, rfl, ?_⟩; replace aC := xrb aC hb; replace aA := xrb aA hb; have bK := aM (Kd.R_lower (Kd.R_new' cN (Kd.R_lt (xr aB))) (below_size xbg)); replace aB := aM (Kd.R_elder' (xr aB) (Kd.R_base cN) hb); replace aD := xbb aD hb; replace aF := xbb aF hb; replace aE := xbb aE hb; replace aG := xbb aG hb; replace HB := xbs hb; (try clear hb cN); obtain ⟨oI, oJ, lO⟩ := Kd.R_slice bK.out; (first | subst lO | (injection lO with f1_ f2_ f3_; have f4_ := f1_.symm; have f5_ := f3_.symm; clear f1_ f2_ f3_; subst f4_; subst f5_)); refine hK.out _ _ ⟨xc aE 0 rfl, xc aE 1 rfl, xc aD 0 rfl, xc aD 1 rfl⟩ (fun hHeld => ?_); clear hK K; refine nm_ (N := 47) ?_; refine one_ (i := 3) (N := some 48) #[true, true, true, true, false] rfl rfl (by kernel_rfl) (by decide) (fun K hK => ?_); refine goesY Try.func25 #[.agg #[.int .i64 cI, .slice cL bR.length cM], .agg #[.int .i64 iC, .slice oI iD.length oJ]] ?_; with_reducible refine (laws_eqDisk.calls fP cI _ _ bR iC _ _ iD false _ ?side1 ?side2 ?side3 ?side4 uW.out).mono ?_
      (case side1 => exact xC aB); (case side2 => exact (Kd.R_reads' aB.out).2.1); (case side3 => exact xC bK); (case side4 => exact (Kd.R_reads' bK.out).2.1); rintro e zG ⟨rfl, hb⟩; refine ⟨_, rfl, ?_⟩; replace aC := xrb aC hb; replace aB := xrb aB hb; replace aA := xrb aA hb; replace bK := xrb bK hb; replace aD := xbb aD hb; replace aF := xbb aF hb; replace aE := xbb aE hb; replace aG := xbb aG hb; replace HB := xbs hb; (try clear hb); refine hK.out _ _ ⟨xc aE 0 rfl, xc aE 1 rfl, xc aD 0 rfl, xc aD 1 rfl⟩ (fun hHeld => ?_); clear hK K; refine nm_ (N := 48) ?_; refine pure_ (i := 4) (N := some 49) (v := ?_) (a' := ?_) #[true, true, true, true, true] rfl rfl (by kernel_rfl) (fun _ _ _ h => h) (Or.inl ⟨by rfl, ?_⟩) ?_ ?_; rotate_left
      ·intro w'; go_simp
       with_reducible rfl
      rotate_left
      ·simp only [Act.put, List.setIfInBounds_toArray, List.set_cons_zero, List.set_cons_succ, i64_w, i32_w]; rfl
      refine done_ (by kernel_rfl) ?_; try go_wp2
      go_ret
      exact ⟨xerr, xbg⟩

/-- THE ONE PURE STATEMENT of laws_FnExactHardLoad. -/
def Q108 (x : S108) : Prop := (Lit.int .i64 x.f0).wf = true ∧ x.f1.size ≤ 140737488351232 ∧ x.f2.size ≤ 140737488351232
def Q50 (x : S50) : Prop := (Lit.int .i64 x.f0).wf = true ∧ (x.f1.length ≤ maxLen ∧ x.f1.length * 40 ≤ 140737488351232 ∧ ∀ x' ∈ x.f1, Q108 x')
def laws_FnExactHardLoad.Pure : Prop := ∀ (aP : Int) (aI : List (S108)) (a1 : Int), (Lit.int .i64 aP).wf = true → aI.length ≤ maxLen → aI.length * 40 ≤ 140737488351232 → (∀ x ∈ aI, Q108 x) → (Lit.int .i64 a1).wf = true → ∃ k, laws_FnExactHardLoad.f k aP aI a1 = some true
theorem laws_FnExactHardLoad.walk (P : laws_FnExactHardLoad.Pure) (aP : Int) (bV : Option Addr) (bW : Nat) (aI : List (S108)) (a1 : Int) (w : World) (sI : (Lit.int .i64 aP).wf = true) (fZ : Kd.C k108 w bV aI.length aI) (gA : aI.length ≤ bW) (hm0_1 : aI.length ≤ maxLen) (hz0_1 : aI.length * 40 ≤ 140737488351232) (oK : ∀ x ∈ aI, Q108 x) (w1 : (Lit.int .i64 a1).wf = true) :
 Calls Try.prog 5 #[.agg #[.int .i64 aP, .slice bV aI.length bW], .int .i64 a1] w fun e w' => e = .returned (.bool true) ∧ Below w.heap.size w w' := by
 obtain ⟨k, h⟩ := P aP aI a1 sI hm0_1 hz0_1 oK w1
 refine (laws_FnExactHardLoad.calls k aP bV bW aI a1 true w fZ gA h).mono ?_
 rintro e w' ⟨rfl, hd⟩
 exact ⟨rfl, hd⟩

end Go.Proofs.Ytocpomkfilpflaa.QFnExactHardLoad
