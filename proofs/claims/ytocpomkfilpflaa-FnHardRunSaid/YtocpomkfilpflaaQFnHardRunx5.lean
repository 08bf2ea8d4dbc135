-- A walk, by a program of this session.
import Derived.Test.YtocpomkfilpflaaQFnHardRunx0
import Derived.Test.YtocpomkfilpflaaQFnHardRunx3
import Derived.Test.YtocpomkfilpflaaQFnHardRunx4
namespace Go.Proofs.Ytocpomkfilpflaa.QFnHardRun
open Go.RowKit Go.Proofs.YtocpomkfilpflaaW.PrintWords Go.Proofs.YtocpomkfilpflaaW.PrintLast Go.Proofs.YtocpomkfilpflaaW.PrintMore
attribute [local go_sem] max2_int min2_int max_two min_two max_three min_three max_four min_four   -- for this text's walks alone
set_option linter.unusedVariables false
set_option linter.unusedSimpArgs false

theorem u5_0 {p : Prop} (h : p := by first | rfl | (simp; done) | (simp [*]; done)) : p := h
theorem u5_1 {p : Prop} (h : p := by first | omega | exact Nat.le_refl _) : p := h
theorem u5_2 {p : Prop} (h : p := by first | (rw [hY]; with_reducible exact H) | (have H2_ := oS H; rw [hY]; with_reducible exact H2_) | (have H2_ := oS H; with_reducible exact H2_) | with_reducible exact H | (rw [hY]; exact H) | exact H) : p := h
theorem u5_3 {p : Prop} (h : p := by repeat (first | exact Drawn0.refl _ | apply Drawn0.step)) : p := h
theorem u5_4 {p : Prop} (h : p := by (with_reducible repeat (first | apply Kd.R_alloc | apply Kd.R_drewN | apply Kd.R_drew)); exact bE.out) : p := h
/-! ### spec_HardApply: function 33 -/
def spec_HardApply.j0 : Nat → Bool → Int → Int → List (S36) → Int → Int → List (S36) → Option (Int × Int × (List (S36)) × Bool)
 | 0, _, _, _, _, _, _, _ => none
 | k + 1, x7, cM, cN, cO, cP, cQ, cS => if x7 = true then ((spec_HardOk.f k cP cQ cS).bind fun sR => (if sR = true then (some (cP, cQ, cS, true)) else ((spec_l6Copy.f cM cN cO).bind fun dB => (some (dB.1, dB.2.1, dB.2.2, false))))) else ((spec_l6Copy.f cM cN cO).bind fun dC => (some (dC.1, dC.2.1, dC.2.2, false)))
def spec_HardApply.f (k : Nat) (aH : Int) (aK : Int) (aE : List (S36)) (bU : Int) (bG : Int) (bI : Int) (bB : Int) (bJ : Int) (bK : Int) (bL : Int) (bM : Int) (bN : Int) (bO : ByteArray) : Option (Int × Int × (List (S36)) × Bool) := (spec_HardOk.f k aH aK aE).bind fun dD => (if dD = true then ((spec_l6Copy.f aH aK aE).bind fun aD => ((spec_RecOk.f k bU bG bI bB bJ bK bL bM bN bO).bind fun bW => (if bU = 1 then (if bW = true then (if bG > aH then (spec_HardApply.j0 k true aH aK aE bG bI aD.2.2) else (if bG = aH then (if aK = 0 then (spec_HardApply.j0 k true aH aK aE bG bI aD.2.2) else (spec_HardApply.j0 k (aK == bI) aH aK aE bG bI aD.2.2)) else (spec_HardApply.j0 k false aH aK aE bG bI aD.2.2))) else (spec_HardApply.j0 k false aH aK aE bG bI aD.2.2)) else (if bU = 2 then (if bW = true then (if aD.2.2.length < 2513169434916 then (spec_HardApply.j0 k (bB == (wrap64 ((aE.length : Int) + 1))) aH aK aE aD.1 aD.2.1 (aD.2.2 ++ [(⟨bJ, (⟨bK, bL, bM, bN, bO⟩ : S34)⟩ : S36)])) else (none)) else (if aD.2.2.length < 2513169434916 then (spec_HardApply.j0 k false aH aK aE aD.1 aD.2.1 (aD.2.2 ++ [(⟨bJ, (⟨bK, bL, bM, bN, bO⟩ : S34)⟩ : S36)])) else (none))) else (if bU = 3 then (if bW = true then (if bB ≤ (aE.length : Int) then (if 0 ≤ bB then (if bB ≤ (aD.2.2.length : Int) then (spec_HardApply.j0 k (decide (bB ≤ (aE.length : Int))) aH aK aE aD.1 aD.2.1 (aD.2.2.take (bB : Int).toNat)) else (none)) else (none)) else (spec_HardApply.j0 k (decide (bB ≤ (aE.length : Int))) aH aK aE aD.1 aD.2.1 aD.2.2)) else (spec_HardApply.j0 k false aH aK aE aD.1 aD.2.1 aD.2.2)) else (spec_HardApply.j0 k bW aH aK aE aD.1 aD.2.1 aD.2.2)))))) else (some (0, 0, ([] : List (S36)), false)))
theorem u5_mq0 {p : Prop} (h : p := by repeat' first | (with_reducible first | exact AG _ _ _ _ _ _ _ | exact spec_HardOk.mono _ _ _ _ | exact spec_RecOk.mono _ _ _ _ _ _ _ _ _ _ _ | exact LeO.refl _ | exact LeO.none _ | refine LeO.ite ?_ ?_ | refine LeO.bind ?_ (fun _ => ?_)) | exact LeO.none _ | refine LeO.ite ?_ ?_ | refine LeO.bind ?_ (fun _ => ?_)) : p := h
set_option maxRecDepth 100000 in
theorem spec_HardApply.mono_l : ∀ k, (∀ y0 y1 y2 y3 y4 y5 y6, LeO (spec_HardApply.j0 k y0 y1 y2 y3 y4 y5 y6) (spec_HardApply.j0 (k + 1) y0 y1 y2 y3 y4 y5 y6))
 | 0 => fun _ _ _ _ _ _ _ r h => by simp [spec_HardApply.j0] at h
 | k + 1 => by
  have AG := spec_HardApply.mono_l k
  ·intro y0 y1 y2 y3 y4 y5 y6; unfold spec_HardApply.j0; exact u5_mq0
theorem spec_HardApply.mono : ∀ a0 a1 a2 a3 a4 a5 a6 a7 a8 a9 wX wY wZ k, LeO (spec_HardApply.f k a0 a1 a2 a3 a4 a5 a6 a7 a8 a9 wX wY wZ) (spec_HardApply.f (k + 1) a0 a1 a2 a3 a4 a5 a6 a7 a8 a9 wX wY wZ) := by
 intro a0 a1 a2 a3 a4 a5 a6 a7 a8 a9 wX wY wZ k
 have AG := spec_HardApply.mono_l k
 unfold spec_HardApply.f
 exact u5_mq0
set_option maxHeartbeats 8000000 in
set_option maxRecDepth 100000 in
theorem spec_HardApply.calls (k : Nat) (aH : Int) (aK : Int) (cC : Option Addr) (cD : Nat) (aE : List (S36)) (bU : Int) (bG : Int) (bI : Int) (bB : Int) (bJ : Int) (bK : Int) (bL : Int) (bM : Int) (bN : Int) (bO : ByteArray) (r1 : Int) (r2 : Int) (r3 : List (S36)) (r4 : Bool) (w : World) (rY : Kd.C k36 w cC aE.length aE) (rZ : aE.length ≤ cD) (h : spec_HardApply.f k aH aK aE bU bG bI bB bJ bK bL bM bN bO = some (r1, r2, r3, r4)) :
 Calls Try.prog 33 #[.agg #[.int .i64 aH, .int .i64 aK, .slice cC aE.length cD], .agg #[.int .i64 bU, .int .i64 bG, .int .i64 bI, .int .i64 bB, .int .i64 bJ, .int .i64 bK, .int .i64 bL, .int .i64 bM, .int .i64 bN, .string bO]] w fun e w' => ∃ v2_ : Value, e = .returned (.tuple #[.agg #[.int .i64 r1, .int .i64 r2, v2_], .bool r4]) ∧ Kd.R k36 36 w' w.heap.size (fun _ => True) v2_ r3 ∧ Below w.heap.size w w' := by
 have EI := Try.underlying28
 have EJ := Try.underlying38
 have EK := Try.underlying36
 have cI := aM rY
 have cJ := aM rZ
 clear rY rZ
 have HB := aM (Below.refl w.heap.size w)
 have H : ((spec_HardOk.f k aH aK aE).bind fun dD => (if dD = true then ((spec_l6Copy.f aH aK aE).bind fun aD => ((spec_RecOk.f k bU bG bI bB bJ bK bL bM bN bO).bind fun bW => (if bU = 1 then (if bW = true then (if bG > aH then (spec_HardApply.j0 k true aH aK aE bG bI aD.2.2) else (if bG = aH then (if aK = 0 then (spec_HardApply.j0 k true aH aK aE bG bI aD.2.2) else (spec_HardApply.j0 k (aK == bI) aH aK aE bG bI aD.2.2)) else (spec_HardApply.j0 k false aH aK aE bG bI aD.2.2))) else (spec_HardApply.j0 k false aH aK aE bG bI aD.2.2)) else (if bU = 2 then (if bW = true then (if aD.2.2.length < 2513169434916 then (spec_HardApply.j0 k (bB == (wrap64 ((aE.length : Int) + 1))) aH aK aE aD.1 aD.2.1 (aD.2.2 ++ [(⟨bJ, (⟨bK, bL, bM, bN, bO⟩ : S34)⟩ : S36)])) else (none)) else (if aD.2.2.length < 2513169434916 then (spec_HardApply.j0 k false aH aK aE aD.1 aD.2.1 (aD.2.2 ++ [(⟨bJ, (⟨bK, bL, bM, bN, bO⟩ : S34)⟩ : S36)])) else (none))) else (if bU = 3 then (if bW = true then (if bB ≤ (aE.length : Int) then (if 0 ≤ bB then (if bB ≤ (aD.2.2.length : Int) then (spec_HardApply.j0 k (decide (bB ≤ (aE.length : Int))) aH aK aE aD.1 aD.2.1 (aD.2.2.take (bB : Int).toNat)) else (none)) else (none)) else (spec_HardApply.j0 k (decide (bB ≤ (aE.length : Int))) aH aK aE aD.1 aD.2.1 aD.2.2)) else (spec_HardApply.j0 k false aH aK aE aD.1 aD.2.1 aD.2.2)) else (spec_HardApply.j0 k bW aH aK aE aD.1 aD.2.1 aD.2.2)))))) else (some (0, 0, ([] : List (S36)), false)))) = some (r1, r2, r3, r4) := h
 clear h
 replace H := oB H
 obtain ⟨dD, tE, H⟩ := H
 (try dsimp only at H)
 have A3 := aM tE
 clear tE
 by_cases c4 : dD = true
 ·subst c4; replace H := iT H; replace H := oB H; obtain ⟨⟨bZ, cA, bH⟩, AH, H⟩ := H; (try dsimp only at H); have A5 := aM AH; clear AH
  replace H := oB H; obtain ⟨bW, AJ, H⟩ := H; (try dsimp only at H); have A6 := aM AJ; clear AJ; have xA := aM H; clear H
  go_enter Try.func33, Try.ntmps33
  go_upto_block 0 with (first | ((with_reducible refine gD 2 rfl ?_); (try (refine gate_guard (by rfl) ?_; dsimp only)); refine boxE (N := 2) rfl (cs := #[.int .i64 aH, .int .i64 aK, .slice cC aE.length cD]) (t := 28) ?_; intro cT hg w8 hbox hb; have aC := aM (hbox); have tF := aM (xge hg); have tG := aM (xge hg); replace HB := xbs hb; clear hb hbox hg) | ((with_reducible refine gD 3 rfl ?_); (try (refine gate_guard (by rfl) ?_; dsimp only)); refine boxE (N := 3) rfl (cs := #[.int .i64 bU, .int .i64 bG, .int .i64 bI, .int .i64 bB, .int .i64 bJ, .int .i64 bK, .int .i64 bL, .int .i64 bM, .int .i64 bN, .string bO]) (t := 38) ?_; intro cU hg w9 hbox hb; have tH := aM (xge hg); have tI := aM (xge hg); replace HB := xbs hb; have aN := nblt aC hg; have aQ := nbgt aC hg; replace aC := xbb aC hb; have aA := aM (hbox); clear hb hbox hg) | ((with_reducible refine gD 4 rfl ?_); (try (refine gate_guard (by rfl) ?_; dsimp only)); refine boxE (N := 4) rfl (cs := #[.int .i64 0, .int .i64 0, .slice none 0 0]) (t := 28) ?_; intro cB hg EL hbox hb; have tJ := aM (xge hg); have tL := aM (xge hg); replace HB := xbs hb; have aR := nblt aC hg; have aT := nbgt aC hg; have aI := nblt aA hg; have aJ := nbgt aA hg; replace aC := xbb aC hb; replace aA := xbb aA hb; have aW := aM (hbox); clear hb hbox hg; have AK := aN.out; have AL := aQ.out; have AM := aR.out; have AN := aT.out; obtain ⟨fW, fX, fY, fZ, gA, gB⟩ := xf3 (w := EL) aC) | ((with_reducible refine gC 65 rfl ?_); refine goesLY (some 9) rfl Try.func65 #[.agg #[.int .i64 aH, .int .i64 aK, .slice cC aE.length cD]] ?_; (with_reducible refine (spec_HardOk.calls k aH aK _ _ aE true _ ?side1 ?side2 A3.out).mono ?_); (case side1 => exact xcb cI); (case side2 => exact cJ.out); rintro e EM ⟨rfl, hb⟩; refine ⟨_, rfl, ?_⟩; replace aC := xbb aC hb; replace aA := xbb aA hb; replace aW := xbb aW hb; replace HB := xbs hb; (try clear hb); obtain ⟨gE, gF, gG, gH, gI, gJ⟩ := xf3 (w := EM) aC) | ((with_reducible refine gC 66 rfl ?_); refine goesLY (some 13) rfl Try.func66 #[.agg #[.int .i64 aH, .int .i64 aK, .slice cC aE.length cD]] ?_; (with_reducible refine (spec_l6Copy.calls aH aK _ _ aE bZ cA bH _ ?side1 ?side2 A5.out).mono ?_); (case side1 => exact xcb cI); (case side2 => exact cJ.out); rintro e FI ⟨v156, rfl, fV, hb⟩; refine ⟨_, rfl, ?_⟩; have bE := aM (Kd.R_lower fV (below_size xbg)); replace aC := xbb aC hb; replace aA := xbb aA hb; replace aW := xbb aW hb; replace HB := xbs hb; (try clear hb fV)) | ((with_reducible refine gD 6 rfl ?_); (try (refine gate_guard (by rfl) ?_; dsimp only)); refine boxE (N := 6) rfl (cs := #[.int .i64 0, .int .i64 0, .slice none 0 0]) (t := 28) ?_; intro cV hg AO hbox hb; replace bE := xrb bE hb; have AP := aM (xge hg); have AQ := aM (xge hg); replace HB := xbs hb; have aU := nblt aC hg; have aV := nbgt aC hg; have aX := nblt aA hg; have aY := nbgt aA hg; have aZ := nblt aW hg; have bA := nbgt aW hg; replace aC := xbb aC hb; replace aA := xbb aA hb; replace aW := xbb aW hb; have bC := aM (hbox); clear hb hbox hg; have AR := aV.out; have AS := aU.out; have AT := aY.out; have AU := aX.out; have AV := bA.out; have AW := aZ.out; obtain ⟨gK, gL, gM, gN, gO, gP⟩ := xf3 (w := AO) bC; obtain ⟨bX, bY, xD⟩ := Kd.R_slice bE.out; subst xD; have AX := aI.out; have AY := aJ.out; obtain ⟨gQ, gR, gS, gT, gU, gV, gW, gX, gY, gZ, hJ, hU, hX, hZ, iA, iB, iC, iD, iE, iF⟩ := xf10 (w := AO) aA) | ((with_reducible refine gC 15 rfl ?_); refine goesLY (some 15) rfl Try.func15 #[.agg #[.int .i64 bU, .int .i64 bG, .int .i64 bI, .int .i64 bB, .int .i64 bJ, .int .i64 bK, .int .i64 bL, .int .i64 bM, .int .i64 bN, .string bO]] ?_; (with_reducible refine (spec_RecOk.calls k bU bG bI bB bJ bK bL bM bN bO bW _ A6.out).mono ?_); rintro e cE ⟨rfl, hb⟩; refine ⟨_, rfl, ?_⟩; replace bE := xrB bE hb; replace aC := xbc aC hb; replace aA := xbc aA hb; replace aW := xbc aW hb; replace bC := aM (blk_below (g := cV) (o := .cells #[.int .i64 bZ, .int .i64 cA, .slice bX bH.length bY] 28 (0, 0)) xP hb); replace HB := xbs hb; (try clear hb); obtain ⟨iG, iH, iI, iJ, iK, iL, iM, iO, iP, iQ, iR, iS, iU, iV, iW, iX, iY, iZ, jA, jB⟩ := xf10 (w := cE) aA))
  (try simp only [Act.put, List.setIfInBounds_toArray, List.set_cons_zero, List.set_cons_succ]); go_cut [7] (fun v7 wc => ∃ (kq : Nat) (jC : Bool) (bP : Int) (bQ : Int) (bR : List (S36)) (cH : Value), v7 = .bool jC ∧ Aside0 (spec_HardApply.j0 kq jC aH aK aE bP bQ bR = some (r1, r2, r3, r4)) ∧ Aside0 (kq ≤ k) ∧ Aside0 (Kd.R k36 36 wc w.heap.size (fun _ => True) cH bR) ∧ Aside0 (wc.heap[cT]? = some (.cells #[.int .i64 aH, .int .i64 aK, (.slice cC aE.length cD)] 28 (0, 0))) ∧ Aside0 (wc.heap[cU]? = some (.cells #[.int .i64 bU, .int .i64 bG, .int .i64 bI, .int .i64 bB, .int .i64 bJ, .int .i64 bK, .int .i64 bL, .int .i64 bM, .int .i64 bN, .string bO] 38 (0, 0))) ∧ Aside0 (wc.heap[cB]? = some (.cells #[.int .i64 0, .int .i64 0, (.slice none 0 0)] 28 (0, 0))) ∧ Aside0 (wc.heap[cV]? = some (.cells #[.int .i64 bP, .int .i64 bQ, cH] 28 (0, 0))) ∧ Aside0 (Below w.heap.size w wc))
  case first =>
   have H := xA.out; clear xA; by_cases tA : bU = 1
   ·rw [if_pos tA] at H; obtain ⟨cG, sA⟩ := bT tA; clear tA; (first | rw [cG] | (simp only [i64_w, i32_w]; rw [cG]) | skip); by_cases tM : bW = true
    ·subst tM; replace H := iT H; by_cases sS : bG > aH
     ·rw [if_pos sS] at H; have sB : decide (aH < bG) = true := decide_eq_true sS; clear sS; have H' := aM H; clear H; have AZ := aQ.out; have BA := aN.out; have BB := aI.out; have BC := aJ.out; have BD := aX.out; have BE := aY.out; obtain ⟨jD, jE, jF, jG, jH, jI, jJ, jK, jL, jM, jN, jO, jP, jQ, jR, jS, jT, jU, jV, jW⟩ := xf10 (w := cE) aA; have BF := aR.out; have BG := aT.out; have BH := aU.out; have BI := aV.out; obtain ⟨jX, jY, jZ, kA, kB, kC⟩ := xf3 (w := cE) aC; have BJ := bA.out; have BK := aZ.out; obtain ⟨kE, kF, kG, kH, kI, kJ⟩ := xf3 (w := cE) bC; go_wp2; go_meet
      case rel => exact ⟨_, (true), (bG), (bI), (bH), (.slice bX bH.length bY), u5_0, H', ⟨u5_1⟩, ⟨xrm bE (fun _ _ => trivial)⟩, ⟨xB⟩, ⟨xB⟩, ⟨xB⟩, ⟨xP⟩, ⟨xbg⟩⟩
     ·rw [if_neg sS] at H; have sB : decide (aH < bG) = false := decide_eq_false sS; clear sS; by_cases tB : bG = aH
      ·rw [if_pos tB] at H; obtain ⟨sC, sD⟩ := bT tB; clear tB; by_cases tC : aK = 0
       ·rw [if_pos tC] at H; obtain ⟨sE, sF⟩ := bT tC; clear tC; have H' := aM H; clear H; have BL := aQ.out; have BM := aN.out; have BN := aI.out; have BO := aJ.out; have BP := aX.out; have BQ := aY.out; obtain ⟨kK, kL, kM, kN, kO, kP, kQ, kR, kS, kT, kU, kV, kW, kX, kY, kZ, lA, lB, lC, lE⟩ := xf10 (w := cE) aA; have BR := aR.out; have BS := aT.out; have BT := aU.out; have BU := aV.out; obtain ⟨lF, lG, lH, lI, lJ, lK⟩ := xf3 (w := cE) aC; have BV := bA.out; have BW := aZ.out; obtain ⟨lL, lM, lN, lO, lP, lQ⟩ := xf3 (w := cE) bC; go_wp2; go_meet
        case rel => exact ⟨_, (true), (bG), (bI), (bH), (.slice bX bH.length bY), u5_0, H', ⟨u5_1⟩, ⟨xrm bE (fun _ _ => trivial)⟩, ⟨xB⟩, ⟨xB⟩, ⟨xB⟩, ⟨xP⟩, ⟨xbg⟩⟩
       ·rw [if_neg tC] at H; obtain ⟨sE, sF⟩ := bF tC; have H' := aM H; clear H; have BX := aQ.out; have BZ := aN.out; have CA := aI.out; have CB := aJ.out; have CC := aX.out; have CD := aY.out; obtain ⟨lR, lS, lT, lU, lV, lW, lX, lY, lZ, mA, mB, mC, mD, mE, mF, mG, mH, mI, mJ, mK⟩ := xf10 (w := cE) aA; have CE := aR.out; have CF := aT.out; have CG := aU.out; have CH := aV.out; obtain ⟨mL, mM, mN, mO, mP, mQ⟩ := xf3 (w := cE) aC; have CI := bA.out; have CJ := aZ.out; obtain ⟨mR, mS, mT, mU, mV, mW⟩ := xf3 (w := cE) bC; go_wp2; go_meet
        case rel => exact ⟨_, ((aK == bI)), (bG), (bI), (bH), (.slice bX bH.length bY), u5_0, H', ⟨u5_1⟩, ⟨xrm bE (fun _ _ => trivial)⟩, ⟨xB⟩, ⟨xB⟩, ⟨xB⟩, ⟨xP⟩, ⟨xbg⟩⟩
      ·rw [if_neg tB] at H; obtain ⟨sC, sD⟩ := bF tB; have H' := aM H; clear H; have CK := aQ.out; have CL := aN.out; have CM := aI.out; have CN := aJ.out; have CO := aX.out; have CP := aY.out; obtain ⟨mX, mY, mZ, nA, nB, nC, nD, nE, nF, nG, nH, nI, nJ, nK, nL, nM, nN, nO, nP, nQ⟩ := xf10 (w := cE) aA; have CQ := aR.out; have CR := aT.out; have CS := aU.out; have CT := aV.out; obtain ⟨nR, nS, nT, nU, nV, nW⟩ := xf3 (w := cE) aC; have CU := bA.out; have CV := aZ.out; obtain ⟨nX, nY, nZ, oA, oC, oD⟩ := xf3 (w := cE) bC; go_wp2; go_meet
       case rel => exact ⟨_, (false), (bG), (bI), (bH), (.slice bX bH.length bY), u5_0, H', ⟨u5_1⟩, ⟨xrm bE (fun _ _ => trivial)⟩, ⟨xB⟩, ⟨xB⟩, ⟨xB⟩, ⟨xP⟩, ⟨xbg⟩⟩
    ·replace tM := Bool.eq_false_iff.mpr tM; subst tM; replace H := iN H; have H' := aM H; clear H; have CW := aQ.out; have CX := aN.out; have CY := aI.out; have CZ := aJ.out; have DA := aX.out; have DB := aY.out; obtain ⟨oE, oF, oG, oH, oI, oJ, oK, oL, oM, oO, oP, oQ, oR, oT, oU, oV, oW, oX, oY, oZ⟩ := xf10 (w := cE) aA; have DC := aV.out; have DD := aU.out; have DE := bA.out; have DF := aZ.out; obtain ⟨pA, pB, pC, pD, pE, pF⟩ := xf3 (w := cE) bC; go_wp2; go_meet
     case rel => exact ⟨_, (false), (bG), (bI), (bH), (.slice bX bH.length bY), u5_0, H', ⟨u5_1⟩, ⟨xrm bE (fun _ _ => trivial)⟩, ⟨xB⟩, ⟨xB⟩, ⟨xB⟩, ⟨xP⟩, ⟨xbg⟩⟩
   ·rw [if_neg tA] at H; obtain ⟨cG, sA⟩ := bF tA; (first | rw [cG] | (simp only [i64_w, i32_w]; rw [cG]) | skip); by_cases tD : bU = 2
    ·rw [if_pos tD] at H; obtain ⟨sG, sH⟩ := bT tD; clear tD; by_cases tN : bW = true
     ·subst tN; replace H := iT H; by_cases tO : bH.length < 2513169434916
      ·rw [if_pos tO] at H; have LMc77 := aM tO; clear tO; obtain ⟨sU, hY⟩ : ∃ y_ : List (S36), y_ = (bH ++ [(⟨bJ, (⟨bK, bL, bM, bN, bO⟩ : S34)⟩ : S36)]) := ⟨_, rfl⟩; replace H : (spec_HardApply.j0 k (bB == (wrap64 ((aE.length : Int) + 1))) aH aK aE bZ cA sU) = some (r1, r2, r3, r4) := u5_2; have tP := aM hY; clear hY; have H' := aM H; clear H; have DG := aQ.out; have DH := aN.out; have DI := aI.out; have DJ := aJ.out; have DK := aX.out; have DL := aY.out; obtain ⟨pG, pH, pI, pJ, pK, pL, pM, pN, pO, pP, pQ, pR, pS, pT, pW, pX, pY, pZ, qA, qB⟩ := xf10 (w := cE) aA; have DM := aR.out; have DN := aT.out; have DO := aU.out; have DP := aV.out; obtain ⟨qC, qD, qE, qF, qG, qH⟩ := xf3 (w := cE) aC; have DQ := bA.out; have DR := aZ.out; obtain ⟨qI, qJ, qK, qL, qM, qN⟩ := xf3 (w := cE) bC; go_wp2_with (first | ((with_reducible refine gate_builtin (b := .append) (xs := #[.tmp 66, .tmp 69]) rfl ?_); (try (refine gate_guard (by rfl) ?_; dsimp only)); at_builtin; refine Kd.R_append k36 (w0 := w) w.heap.size rfl (.tmp 66) (.tmp 69) 26 36 (.agg #[(.int .i64 0), (.int .i64 0), (.int .i64 0), (.int .i64 0), (.int .i64 0), (.string ⟨#[]⟩)]) 56 rfl Try.underlying26 info36 rfl (by decide) (by omega) (.slice bX bH.length bY) bH (⟨bJ, (⟨bK, bL, bM, bN, bO⟩ : S34)⟩ : S36) [.int .i64 bJ, .int .i64 bK, .int .i64 bL, .int .i64 bM, .int .i64 bN, .string bO] (fun _ => True) (fun _ => False) rfl rfl ?aP (fun _ hk => hk.elim) ?aF ?aO ?aB ?aS ?aL ?_; (case aP => exact k36_mkM _ _ _ (⟨bJ, (⟨bK, bL, bM, bN, bO⟩ : S34)⟩ : S36)); (case aB => exact xbg); (case aF => exact (fun _ _ => trivial)); (case aO => exact (xr bE)); (case aS => exact (below_size xbg)); (case aL => have := LMc77.out; omega); intro v161 EN ho hb hg hat; rw [← tP.out] at ho; replace aC := aM (blk_grown (g := cT) (o := .cells #[.int .i64 aH, .int .i64 aK, .slice cC aE.length cD] 28 (0, 0)) xblk hg (Kd.R_ne bE.out aC.out (by decide))); replace aA := aM (blk_grown (g := cU) (o := .cells #[.int .i64 bU, .int .i64 bG, .int .i64 bI, .int .i64 bB, .int .i64 bJ, .int .i64 bK, .int .i64 bL, .int .i64 bM, .int .i64 bN, .string bO] 38 (0, 0)) xblk hg (Kd.R_ne bE.out aA.out (by decide))); replace aW := aM (blk_grown (g := cB) (o := .cells #[.int .i64 0, .int .i64 0, .slice none 0 0] 28 (0, 0)) xblk hg (Kd.R_ne bE.out aW.out (by decide))); replace bC := aM (blk_grown (g := cV) (o := .cells #[.int .i64 bZ, .int .i64 cA, .slice bX bH.length bY] 28 (0, 0)) xblk hg (Kd.R_ne bE.out bC.out (by decide))); replace HB := aM (hb); have sI := aM (ho); clear bE; clear ho hb hg hat; obtain ⟨xE, xF, xG⟩ := Kd.R_slice sI.out; subst xG; obtain ⟨qO, qP, qQ, qR, qS, qT⟩ := xf3 (w := EN) bC))
       go_meet
       case rel => exact ⟨_, ((bB == (wrap64 ((aE.length : Int) + 1)))), (bZ), (cA), (sU), (.slice xE sU.length xF), u5_0, H', ⟨u5_1⟩, ⟨xrm sI (fun _ _ => trivial)⟩, ⟨xB⟩, ⟨xB⟩, ⟨xB⟩, ⟨xP⟩, ⟨xbg⟩⟩
      ·rw [if_neg tO] at H; exact absurd H (by simp)
     ·replace tN := Bool.eq_false_iff.mpr tN; subst tN; replace H := iN H; by_cases tQ : bH.length < 2513169434916
      ·rw [if_pos tQ] at H; have LMc90 := aM tQ; clear tQ; obtain ⟨sV, hY⟩ : ∃ y_ : List (S36), y_ = (bH ++ [(⟨bJ, (⟨bK, bL, bM, bN, bO⟩ : S34)⟩ : S36)]) := ⟨_, rfl⟩; replace H : (spec_HardApply.j0 k false aH aK aE bZ cA sV) = some (r1, r2, r3, r4) := u5_2; have tR := aM hY; clear hY; have H' := aM H; clear H; have DS := aV.out; have DT := aU.out; have DU := aY.out; have DV := aX.out; have DW := bA.out; have DX := aZ.out; obtain ⟨qU, qV, qW, qX, qY, qZ⟩ := xf3 (w := cE) bC; have DY := aQ.out; have DZ := aN.out; have EA := aI.out; have EB := aJ.out; obtain ⟨rA, rB, rC, rE, rF, rG, rH, rI, rJ, rK⟩ := xe10 (w := cE) aA; have rL := blk_frozen aA.out 0; have rM := blk_frozen aA.out 1; have rN := blk_frozen aA.out 2; have rO := blk_frozen aA.out 3; have rP := blk_frozen aA.out 4; have rQ := blk_frozen aA.out 5; have rR := blk_frozen aA.out 6; have rS := blk_frozen aA.out 7; have rT := blk_frozen aA.out 8; have rU := blk_frozen aA.out 9; go_wp2_with (first | ((with_reducible refine gate_builtin (b := .append) (xs := #[.tmp 66, .tmp 69]) rfl ?_); (try (refine gate_guard (by rfl) ?_; dsimp only)); at_builtin; refine Kd.R_append k36 (w0 := w) w.heap.size rfl (.tmp 66) (.tmp 69) 26 36 (.agg #[(.int .i64 0), (.int .i64 0), (.int .i64 0), (.int .i64 0), (.int .i64 0), (.string ⟨#[]⟩)]) 56 rfl Try.underlying26 info36 rfl (by decide) (by omega) (.slice bX bH.length bY) bH (⟨bJ, (⟨bK, bL, bM, bN, bO⟩ : S34)⟩ : S36) [.int .i64 bJ, .int .i64 bK, .int .i64 bL, .int .i64 bM, .int .i64 bN, .string bO] (fun _ => True) (fun _ => False) rfl rfl ?aP (fun _ hk => hk.elim) ?aF ?aO ?aB ?aS ?aL ?_; (case aP => exact k36_mkM _ _ _ (⟨bJ, (⟨bK, bL, bM, bN, bO⟩ : S34)⟩ : S36)); (case aB => exact xbg); (case aF => exact (fun _ _ => trivial)); (case aO => exact (xr bE)); (case aS => exact (below_size xbg)); (case aL => have := LMc90.out; omega); intro v164 EO ho hb hg hat; rw [← tR.out] at ho; replace aC := aM (blk_grown (g := cT) (o := .cells #[.int .i64 aH, .int .i64 aK, .slice cC aE.length cD] 28 (0, 0)) xblk hg (Kd.R_ne bE.out aC.out (by decide))); replace aA := aM (blk_grown (g := cU) (o := .cells #[.int .i64 bU, .int .i64 bG, .int .i64 bI, .int .i64 bB, .int .i64 bJ, .int .i64 bK, .int .i64 bL, .int .i64 bM, .int .i64 bN, .string bO] 38 (0, 0)) xblk hg (Kd.R_ne bE.out aA.out (by decide))); replace aW := aM (blk_grown (g := cB) (o := .cells #[.int .i64 0, .int .i64 0, .slice none 0 0] 28 (0, 0)) xblk hg (Kd.R_ne bE.out aW.out (by decide))); replace bC := aM (blk_grown (g := cV) (o := .cells #[.int .i64 bZ, .int .i64 cA, .slice bX bH.length bY] 28 (0, 0)) xblk hg (Kd.R_ne bE.out bC.out (by decide))); replace HB := aM (hb); have sJ := aM (ho); clear bE; clear ho hb hg hat; obtain ⟨xH, xI, xJ⟩ := Kd.R_slice sJ.out; subst xJ; obtain ⟨dE, dF, dG, dH, dI, dJ⟩ := xf3 (w := EO) bC))
       go_meet
       case rel => exact ⟨_, (false), (bZ), (cA), (sV), (.slice xH sV.length xI), u5_0, H', ⟨u5_1⟩, ⟨xrm sJ (fun _ _ => trivial)⟩, ⟨xB⟩, ⟨xB⟩, ⟨xB⟩, ⟨xP⟩, ⟨xbg⟩⟩
      ·rw [if_neg tQ] at H; exact absurd H (by simp)
    ·rw [if_neg tD] at H; obtain ⟨sG, sH⟩ := bF tD; by_cases cY : bU = 3
     ·rw [if_pos cY] at H; obtain ⟨dK, dL⟩ := bT cY; clear cY; by_cases dM : bW = true
      ·subst dM; replace H := iT H; by_cases cL : bB ≤ (aE.length : Int)
       ·rw [if_pos cL] at H; have dN : decide (bB ≤ (aE.length : Int)) = true := decide_eq_true cL; clear cL; by_cases cZ : 0 ≤ bB
        ·rw [if_pos cZ] at H; have sW := eq_true cZ; have sX : decide (0 ≤ bB) = true := decide_eq_true cZ; clear cZ; by_cases dA : bB ≤ (bH.length : Int)
         ·rw [if_pos dA] at H; have sY := eq_true dA; have sZ : decide (bB ≤ (bH.length : Int)) = true := decide_eq_true dA; clear dA; obtain ⟨rV, hY⟩ : ∃ y_ : List (S36), y_ = (bH.take (bB : Int).toNat) := ⟨_, rfl⟩; replace H : (spec_HardApply.j0 k (decide (bB ≤ (aE.length : Int))) aH aK aE bZ cA rV) = some (r1, r2, r3, r4) := u5_2; have sK := aM hY; clear hY; have H' := aM H; clear H; have xL := aQ.out; have xM := aN.out; have xN := aI.out; have xO := aJ.out; have xQ := aX.out; have xR := aY.out; obtain ⟨dO, dP, dQ, dR, dS, dU, dV, dW, dX, dY, dZ, eA, eB, eC, eD, eE, eF, eG, eH, eI⟩ := xf10 (w := cE) aA; have xS := aR.out; have xT := aT.out; have xU := aU.out; have xV := aV.out; obtain ⟨eJ, eK, eL, eM, eN, eO⟩ := xf3 (w := cE) aC; have xW := bA.out; have xX := aZ.out; obtain ⟨eP, eQ, eR, eS, eT, eU⟩ := xf3 (w := cE) bC; have q115 : (bB : Int) ≤ ((bH.length : Int) : Int) := oda; obtain ⟨i0115, hi0115, _, hsz115, _⟩ := info_parts info36; have hcut115 := cut_to (P := Try.prog) 26 36 .i64 Try.underlying26 hi0115 bX bH.length bY bB (oda) q115 (Kd.R_reads' bE.out).2.1; have cW := Kd.R_take (m := (bB : Int).toNat) bE.out (by omega); have hY : rV.length = (bB : Int).toNat := (by rw [sK.out, List.length_take]; omega); rw [← sK.out] at cW; rw [← hY] at cW hcut115; clear hY hi0115 hsz115 bE; have tS := aM cW; clear cW; replace q115 := eq_true q115; go_wp2; go_meet
          case rel => exact ⟨_, (decide (bB ≤ (aE.length : Int))), (bZ), (cA), (rV), (.slice bX rV.length bY), u5_0, H', ⟨u5_1⟩, ⟨xrm tS (fun _ _ => trivial)⟩, ⟨xB⟩, ⟨xB⟩, ⟨xB⟩, ⟨xP⟩, ⟨xbg⟩⟩
         ·rw [if_neg dA] at H; exact absurd H (by simp)
        ·rw [if_neg cZ] at H; exact absurd H (by simp)
       ·rw [if_neg cL] at H; have dN : decide (bB ≤ (aE.length : Int)) = false := decide_eq_false cL; clear cL; have H' := aM H; clear H; have xY := aQ.out; have xZ := aN.out; have yA := aI.out; have yB := aJ.out; have yC := aX.out; have yD := aY.out; obtain ⟨eV, eW, eX, eY, eZ, fA, fB, fC, fD, fE, fF, fG, fH, fI, fJ, fK, fL, fM, fN, fO⟩ := xf10 (w := cE) aA; have yE := aR.out; have yF := aT.out; have yG := aU.out; have yH := aV.out; obtain ⟨fP, fQ, fR, fS, fT, fU⟩ := xf3 (w := cE) aC; go_wp2; go_meet
        case rel => exact ⟨_, (decide (bB ≤ (aE.length : Int))), (bZ), (cA), (bH), (.slice bX bH.length bY), u5_0, H', ⟨u5_1⟩, ⟨u5_4⟩, ⟨xblk⟩, ⟨xblk⟩, ⟨xblk⟩, ⟨xblk⟩, ⟨xbg⟩⟩
      ·replace dM := Bool.eq_false_iff.mpr dM; subst dM; replace H := iN H; have H' := aM H; clear H; go_wp2; go_meet
       case rel => exact ⟨_, (false), (bZ), (cA), (bH), (.slice bX bH.length bY), u5_0, H', ⟨u5_1⟩, ⟨u5_4⟩, ⟨xblk⟩, ⟨xblk⟩, ⟨xblk⟩, ⟨xblk⟩, ⟨xbg⟩⟩
     ·rw [if_neg cY] at H; obtain ⟨dK, dL⟩ := bF cY; have H' := aM H; clear H; go_wp2; go_meet
      case rel => exact ⟨_, (bW), (bZ), (cA), (bH), (.slice bX bH.length bY), u5_0, H', ⟨u5_1⟩, ⟨u5_4⟩, ⟨xblk⟩, ⟨xblk⟩, ⟨xblk⟩, ⟨xblk⟩, ⟨xbg⟩⟩
  case rest =>
   clear xA; try clear c1
   try clear q1
   try clear c2
   try clear p2
   try clear c3
   try clear c4
   try clear c5
   try clear c6
   try clear p6
   try clear c7
   try clear c8
   try clear c9
   try clear c10
   try clear FJ
   try clear q11
   try clear FL
   try clear FM
   try clear FN
   try clear FO
   try clear FP
   try clear FQ
   try clear tA
   try clear cG
   try clear sA
   try clear tM
   try clear sS
   try clear sB
   try clear FR
   try clear FS
   try clear FT
   try clear FU
   try clear FV
   try clear FW
   try clear FX
   try clear tB
   try clear sC
   try clear sD
   try clear tC
   try clear sE
   try clear sF
   try clear FY
   try clear FZ
   try clear GA
   try clear GB
   try clear GC
   try clear GD
   try clear GE
   try clear GF
   try clear GG
   try clear GH
   try clear GI
   try clear GJ
   try clear GK
   try clear GL
   try clear GM
   try clear GN
   try clear GO
   try clear p64
   try clear GP
   try clear GQ
   try clear GR
   try clear GS
   try clear GT
   try clear GU
   try clear GV
   try clear tD
   try clear sG
   try clear sH
   try clear tN
   try clear tO
   try clear GW
   try clear GX
   try clear GY
   try clear GZ
   try clear HC
   try clear HD
   try clear tQ
   try clear HE
   try clear HF
   try clear HG
   try clear HH
   try clear HI
   try clear cY
   try clear dK
   try clear dL
   try clear dM
   try clear cL
   try clear dN
   try clear cZ
   try clear sW
   try clear sX
   try clear dA
   try clear sY
   try clear sZ
   try clear EP
   try clear EQ
   try clear ER
   try clear ES
   try clear ET
   try clear EU
   try clear q115
   try clear EV
   try clear EW
   try clear EX
   try clear EY
   try clear EZ
   try clear dE dF dG
   try clear dO dP dQ dR dS dU dV dW dX dY
   try clear eJ eK eL
   try clear eP eQ eR
   try clear eV eW eX eY eZ fA fB fC fD fE
   try clear fP fQ fR
   try clear fW fX fY
   try clear gE gF gG
   try clear gK gL gM
   try clear gQ gR gS gT gU gV gW gX gY gZ
   try clear iG iH iI iJ iK iL iM iO iP iQ
   try clear jD jE jF jG jH jI jJ jK jL jM
   try clear jX jY jZ
   try clear kE kF kG
   try clear kK kL kM kN kO kP kQ kR kS kT
   try clear lF lG lH
   try clear lL lM lN
   try clear lR lS lT lU lV lW lX lY lZ mA
   try clear mL mM mN
   try clear mR mS mT
   try clear mX mY mZ nA nB nC nD nE nF nG
   try clear nR nS nT
   try clear nX nY nZ
   try clear oE oF oG oH oI oJ oK oL oM oO
   try clear pA pB pC
   try clear pG pH pI pJ pK pL pM pN pO pP
   try clear qC qD qE
   try clear qI qJ qK
   try clear qO qP qQ
   try clear qU qV qW
   try clear rA rB rC rE rF rG rH rI rJ rK
   try clear dH dI dJ
   try clear dZ eA eB eC eD eE eF eG eH eI
   try clear eM eN eO
   try clear eS eT eU
   try clear fF fG fH fI fJ fK fL fM fN fO
   try clear fS fT fU
   try clear fZ gA gB
   try clear gH gI gJ
   try clear gN gO gP
   try clear hJ hU hX hZ iA iB iC iD iE iF
   try clear iR iS iU iV iW iX iY iZ jA jB
   try clear jN jO jP jQ jR jS jT jU jV jW
   try clear kA kB kC
   try clear kH kI kJ
   try clear kU kV kW kX kY kZ lA lB lC lE
   try clear lI lJ lK
   try clear lO lP lQ
   try clear mB mC mD mE mF mG mH mI mJ mK
   try clear mO mP mQ
   try clear mU mV mW
   try clear nH nI nJ nK nL nM nN nO nP nQ
   try clear nU nV nW
   try clear oA oC oD
   try clear oP oQ oR oT oU oV oW oX oY oZ
   try clear pD pE pF
   try clear pQ pR pS pT pW pX pY pZ qA qB
   try clear qF qG qH
   try clear qL qM qN
   try clear qR qS qT
   try clear qX qY qZ
   try clear rL rM rN rO rP rQ rR rS rT rU
   try clear q115
   obtain ⟨kq, jC, bP, bQ, bR, cH, rfl, HA, HJ6, aG, aC, aA, aW, bC, HB⟩ := hcut; cases kq with
   | zero => exact absurd HA.out (by simp [spec_HardApply.j0])
   | succ EC =>
    have H := HA.out; clear HA; simp only [spec_HardApply.j0] at H; by_cases rW : jC = true
    ·subst rW; replace H := iT H; replace H := oB H; obtain ⟨sR, sL, H⟩ := H; (try dsimp only at H); have tT := aM sL; clear sL
     by_cases rX : sR = true
     ·subst rX; replace H := iT H; simp only [Option.some.injEq, Prod.mk.injEq] at H; obtain ⟨rfl, rfl, rfl, rfl⟩ := H; have yI := aV.out; have yJ := aU.out; have yK := aY.out; have yL := aX.out; have yM := bA.out; have yN := aZ.out; obtain ⟨tU, tV, tW, tX, tY, tZ⟩ := xf3 (w := wc) bC; obtain ⟨uA, uB, uC⟩ := Kd.R_slice aG.out; subst uC; go_wp2_with (first | (go_at_call 65; (with_reducible refine (spec_HardOk.calls EC bP bQ _ _ bR true _ ?side1 ?side2 tT.out).mono ?_); (case side1 => exact xC aG); (case side2 => exact (Kd.R_reads' aG.out).2.1); rintro e uD ⟨rfl, hb⟩; replace aG := xrb aG hb; replace aC := xbb aC hb; replace aA := xbb aA hb; replace aW := xbb aW hb; replace bC := xbb bC hb; replace HB := xbs hb; (try clear hb); obtain ⟨uE, uF, uG, uH, uI, uJ⟩ := xf3 (w := uD) bC; have yO := aT.out; have yP := aR.out; have yQ := aJ.out; have yR := aI.out; obtain ⟨uK, uL, uM, uN, uO, uP⟩ := xf3 (w := uD) aW))
      refine bodyPost_ret (results_ct rfl _ _ cB 28 #[.int .i64 bP, .int .i64 bQ, .slice uA bR.length uB] (0, 0) _ rfl xP Try.underlying28 rfl (by kernel_rfl)) rfl ?_; exact ⟨_, xerr, xrm aG (fun _ _ => trivial), xbg⟩
     ·replace rX := Bool.eq_false_iff.mpr rX; subst rX; replace H := iN H; replace H := oB H; obtain ⟨⟨uQ, uR, uS⟩, sM, H⟩ := H; (try dsimp only at H); have yS := aM sM; clear sM
      simp only [Option.some.injEq, Prod.mk.injEq] at H; obtain ⟨rfl, rfl, rfl, rfl⟩ := H; have yT := aV.out; have yU := aU.out; have yV := aY.out; have yW := aX.out; have yX := bA.out; have yY := aZ.out; obtain ⟨uT, uU, uV, uW, uX, uY⟩ := xf3 (w := wc) bC; obtain ⟨ED, EE, uZ⟩ := Kd.R_slice aG.out; subst uZ; go_wp2_with (first | (go_at_call 65; (with_reducible refine (spec_HardOk.calls EC bP bQ _ _ bR false _ ?side1 ?side2 tT.out).mono ?_); (case side1 => exact xC aG); (case side2 => exact (Kd.R_reads' aG.out).2.1); rintro e yZ ⟨rfl, hb⟩; replace aG := xrb aG hb; replace aC := xbb aC hb; replace aA := xbb aA hb; replace aW := xbb aW hb; replace bC := xbb bC hb; replace HB := xbs hb; (try clear hb); have zA := aN.out; have zB := aQ.out; have zC := aR.out; have zD := aT.out; obtain ⟨vA, vB, vC, vD, vE, vF⟩ := xf3 (w := yZ) aC) | ((with_reducible refine gC 66 rfl ?_); refine goesLY (some 98) rfl Try.func66 #[.agg #[.int .i64 aH, .int .i64 aK, .slice cC aE.length cD]] ?_; (with_reducible refine (spec_l6Copy.calls aH aK _ _ aE uQ uR uS _ ?side1 ?side2 yS.out).mono ?_); (case side1 => exact xcb cI); (case side2 => exact cJ.out); rintro e zE ⟨v173, rfl, fV, hb⟩; refine ⟨_, rfl, ?_⟩; have sN := aM (Kd.R_lower (Kd.R_new' fV (Kd.R_lt (xr aG))) (below_size xbg)); replace aG := aM (Kd.R_elder' (xr aG) (Kd.R_base fV) hb); replace aC := xbb aC hb; replace aA := xbb aA hb; replace aW := xbb aW hb; replace bC := xbb bC hb; replace HB := xbs hb; (try clear hb fV); have zF := aJ.out; have zG := aI.out; obtain ⟨vG, vH, vI, vJ, vK, vL⟩ := xf3 (w := zE) aW; obtain ⟨vM, vN, vO⟩ := Kd.R_slice sN.out; subst vO))
      refine bodyPost_ret (results_ct rfl _ _ cB 28 #[.int .i64 uQ, .int .i64 uR, .slice vM uS.length vN] (0, 0) _ rfl xP Try.underlying28 rfl (by kernel_rfl)) rfl ?_; exact ⟨_, xerr, xrm sN (fun _ _ => trivial), xbg⟩
    ·replace rW := Bool.eq_false_iff.mpr rW; subst rW; replace H := iN H; replace H := oB H; obtain ⟨⟨vP, vQ, vR⟩, sO, H⟩ := H; (try dsimp only at H); have zH := aM sO; clear sO
     simp only [Option.some.injEq, Prod.mk.injEq] at H; obtain ⟨rfl, rfl, rfl, rfl⟩ := H; have zI := aN.out; have zJ := aQ.out; have zK := aR.out; have zL := aT.out; have zM := aU.out; have zN := aV.out; obtain ⟨vS, vT, vU, vV, vW, vX⟩ := xf3 (w := wc) aC; go_wp2_with (first | ((with_reducible refine gC 66 rfl ?_); refine goesLY (some 98) rfl Try.func66 #[.agg #[.int .i64 aH, .int .i64 aK, .slice cC aE.length cD]] ?_; (with_reducible refine (spec_l6Copy.calls aH aK _ _ aE vP vQ vR _ ?side1 ?side2 zH.out).mono ?_); (case side1 => exact xcb cI); (case side2 => exact cJ.out); rintro e zO ⟨v178, rfl, fV, hb⟩; refine ⟨_, rfl, ?_⟩; have sP := aM (Kd.R_lower (Kd.R_new' fV (Kd.R_lt (xr aG))) (below_size xbg)); replace aG := aM (Kd.R_elder' (xr aG) (Kd.R_base fV) hb); replace aC := xbb aC hb; replace aA := xbb aA hb; replace aW := xbb aW hb; replace bC := xbb bC hb; replace HB := xbs hb; (try clear hb fV); have zP := aJ.out; have zQ := aI.out; have zR := aZ.out; have zS := bA.out; obtain ⟨vY, vZ, wA, wB, wC, wD⟩ := xf3 (w := zO) aW; obtain ⟨wE, wF, wG⟩ := Kd.R_slice sP.out; subst wG))
     refine bodyPost_ret (results_ct rfl _ _ cB 28 #[.int .i64 vP, .int .i64 vQ, .slice wE vR.length wF] (0, 0) _ rfl xP Try.underlying28 rfl (by kernel_rfl)) rfl ?_; exact ⟨_, xerr, xrm sP (fun _ _ => trivial), xbg⟩
 ·replace c4 := Bool.eq_false_iff.mpr c4; subst c4; replace H := iN H; simp only [Option.some.injEq, Prod.mk.injEq] at H; obtain ⟨rfl, rfl, rfl, rfl⟩ := H; go_enter Try.func33, Try.ntmps33
  go_wp2_with (first | ((with_reducible refine gD 2 rfl ?_); (try (refine gate_guard (by rfl) ?_; dsimp only)); refine boxE (N := 2) rfl (cs := #[.int .i64 aH, .int .i64 aK, .slice cC aE.length cD]) (t := 28) ?_; intro cT hg FA hbox hb; have aC := aM (hbox); have tF := aM (xge hg); have tG := aM (xge hg); replace HB := xbs hb; clear hb hbox hg) | ((with_reducible refine gD 3 rfl ?_); (try (refine gate_guard (by rfl) ?_; dsimp only)); refine boxE (N := 3) rfl (cs := #[.int .i64 bU, .int .i64 bG, .int .i64 bI, .int .i64 bB, .int .i64 bJ, .int .i64 bK, .int .i64 bL, .int .i64 bM, .int .i64 bN, .string bO]) (t := 38) ?_; intro cU hg FB hbox hb; have tH := aM (xge hg); have tI := aM (xge hg); replace HB := xbs hb; have aN := nblt aC hg; have aQ := nbgt aC hg; replace aC := xbb aC hb; have aA := aM (hbox); clear hb hbox hg) | ((with_reducible refine gD 4 rfl ?_); (try (refine gate_guard (by rfl) ?_; dsimp only)); refine boxE (N := 4) rfl (cs := #[.int .i64 0, .int .i64 0, .slice none 0 0]) (t := 28) ?_; intro cB hg zT hbox hb; have tJ := aM (xge hg); have tL := aM (xge hg); replace HB := xbs hb; have aR := nblt aC hg; have aT := nbgt aC hg; have aI := nblt aA hg; have aJ := nbgt aA hg; replace aC := xbb aC hb; replace aA := xbb aA hb; have aW := aM (hbox); clear hb hbox hg; have zU := aN.out; have zV := aQ.out; have zW := aR.out; have zX := aT.out; obtain ⟨wH, wI, wJ, wK, wL, wM⟩ := xf3 (w := zT) aC) | ((with_reducible refine gC 65 rfl ?_); refine goesLY (some 9) rfl Try.func65 #[.agg #[.int .i64 aH, .int .i64 aK, .slice cC aE.length cD]] ?_; (with_reducible refine (spec_HardOk.calls k aH aK _ _ aE false _ ?side1 ?side2 A3.out).mono ?_); (case side1 => exact xcb cI); (case side2 => exact cJ.out); rintro e zY ⟨rfl, hb⟩; refine ⟨_, rfl, ?_⟩; replace aC := xbb aC hb; replace aA := xbb aA hb; replace aW := xbb aW hb; replace HB := xbs hb; (try clear hb); have zZ := aJ.out; have AA := aI.out; obtain ⟨wN, wO, wP, wQ, wR, wS⟩ := xf3 (w := zY) aW))
  refine bodyPost_ret (results_ct rfl _ _ cB 28 #[.int .i64 0, .int .i64 0, .slice none 0 0] (0, 0) _ rfl xP Try.underlying28 rfl (by kernel_rfl)) rfl ?_; exact ⟨_, xerr, by first | exact Kd.R_nil _ _ _ _ _ | exact Kd.N_nil _ _ _ _ _ | exact Kd.V_nil _ _ _ _ _ | exact Kd.Q_nil _ _ _ _ _ | exact Kd.S_nil _ _ _ _ _, xbg⟩

/-! ### spec_l1PickInt: function 51 -/
def spec_l1PickInt.f (s0_0 : List Int) (s0_1 : Int) (s0_2 : Int) (l1 : List Int) : Option (Int × Int × Int) := (spec_l1Below.f s0_0 s0_1 s0_2 (l1.length : Int)).bind fun bV => (if 0 ≤ bV.1 then (if bV.1 < (l1.length : Int) then (some (rd l1 bV.1, bV.2.1, bV.2.2)) else (none)) else (none))
set_option maxHeartbeats 8000000 in
set_option maxRecDepth 100000 in
theorem spec_l1PickInt.calls (g : Nat) (s0_0 : List Int) (s0_1 : Int) (s0_2 : Int) (A1 : Option Addr) (c1 : Nat) (l1 : List Int) (r1 : Int) (r2 : Int) (r3 : Int) (w0 w : World) (hI : IsS99 w0 w g s0_0 s0_1 s0_2) (hB : Below w0.heap.size w0 w) (EF : Kd.C (Kd.int .i64) w A1 l1.length l1) (EG : l1.length ≤ c1) (AB : ∀ ad, A1 = some ad → 0 < l1.length → ad.block ≠ g) (h : spec_l1PickInt.f s0_0 s0_1 s0_2 l1 = some (r1, r2, r3)) :
 Calls Try.prog 51 #[.pointer (some ⟨g, 0, none⟩), .slice A1 l1.length c1] w fun e w' => e = .returned (.int .i64 r1) ∧ IsS99 w0 w' g s0_0 r2 r3 ∧ Below w0.heap.size w0 w' ∧ KeepBut w w' g none := by
 have FC := aM EF
 have HJ := aM EG
 clear EF EG
 have HI0 := aM hI
 have HK := aM (KeepBut.refl w g none)
 have HL := aM hB.size
 clear hI
 have HW0 := aM hB.size
 have HB := aM hB
 clear hB
 have H : ((spec_l1Below.f s0_0 s0_1 s0_2 (l1.length : Int)).bind fun bV => (if 0 ≤ bV.1 then (if bV.1 < (l1.length : Int) then (some (rd l1 bV.1, bV.2.1, bV.2.2)) else (none)) else (none))) = some (r1, r2, r3) := h
 clear h
 replace H := oB H
 obtain ⟨⟨cK, AC, AD⟩, tE, H⟩ := H
 (try dsimp only at H)
 have A3 := aM tE
 clear tE
 by_cases c4 : 0 ≤ cK
 ·rw [if_pos c4] at H; have FD : decide (0 ≤ cK) = true := decide_eq_true c4; clear c4; by_cases c5 : cK < (l1.length : Int)
  ·rw [if_pos c5] at H; have FE : decide (cK < (l1.length : Int)) = true := decide_eq_true c5; clear c5; simp only [Option.some.injEq, Prod.mk.injEq] at H; obtain ⟨rfl, rfl, rfl⟩ := H; go_enter Try.func51, Try.ntmps51
   go_wp2_with (first | ((with_reducible refine gC 31 rfl ?_); refine goesLY (some 9) rfl Try.func31 #[.pointer (some ⟨g, 0, none⟩), .int .i64 (l1.length : Int)] ?_; (with_reducible refine (spec_l1Below.calls g s0_0 s0_1 s0_2 (l1.length : Int) cK AC AD w0 _ ?side1 ?side2 A3.out).mono ?_); (case side1 => exact IsS99.s); (case side2 => exact IsS99.B); rintro e w6 ⟨rfl, hi, hb, hk⟩; refine ⟨_, rfl, ?_⟩; replace HK := xhk HK hk; replace HB := aM (hb); replace HI0 := aM (hi); (try clear hb hk hi); have p183 : 0 ≤ (cK : Int) := oda; have q183 : cK < (l1.length : Int) := oda; obtain ⟨wT, AE, cX⟩ := Kd.at_int FC.out cK p183 q183; cases AE; replace cX := keep_cell HK.out cX (by first | (rw [add_block]; exact AB _ rfl (by omega)) | exact AB _ rfl (by omega) | exact AB wT rfl (by omega)); replace p183 := eq_true p183; replace q183 := eq_true q183))
   go_ret
   exact ⟨xerr, IsS99.s, IsS99.B, xK⟩
  ·rw [if_neg c5] at H; exact absurd H (by simp)
 ·rw [if_neg c4] at H; exact absurd H (by simp)

/-! ### spec_l1Max: function 72 -/
def spec_l1Max.f (a0 : Int) (a1 : Int) : Option (Int) := if a0 > a1 then (some a0) else (some a1)
set_option maxHeartbeats 8000000 in
set_option maxRecDepth 100000 in
theorem spec_l1Max.calls (a0 : Int) (a1 : Int) (r : Int) (w : World) (h : spec_l1Max.f a0 a1 = some r) :
 Calls Try.prog 72 #[.int .i64 a0, .int .i64 a1] w fun e w' => e = .returned (.int .i64 r) ∧ Drawn0 w w' := by
 have H : (if a0 > a1 then (some a0) else (some a1)) = some r := h
 clear h
 by_cases c3 : a0 > a1
 ·rw [if_pos c3] at H; have wU : decide (a1 < a0) = true := decide_eq_true c3; clear c3; obtain rfl := Option.some.inj H; go_enter Try.func72, Try.ntmps72
  go_wp2; go_ret
  exact ⟨u5_0, u5_3⟩
 ·rw [if_neg c3] at H; have wU : decide (a1 < a0) = false := decide_eq_false c3; clear c3; obtain rfl := Option.some.inj H; go_enter Try.func72, Try.ntmps72
  go_wp2; go_ret
  exact ⟨u5_0, u5_3⟩

/-! ### spec_l2Low: function 107 -/
def spec_l2Low.f (a0 : Int) : Option (Int) := some (Go.bits .and .i64 a0 4294967295)
set_option maxHeartbeats 8000000 in
set_option maxRecDepth 100000 in
theorem spec_l2Low.calls (a0 : Int) (r : Int) (w : World) (h : spec_l2Low.f a0 = some r) :
 Calls Try.prog 107 #[.int .i64 a0] w fun e w' => e = .returned (.int .i64 r) ∧ Drawn0 w w' := by
 have H : (some (Go.bits .and .i64 a0 4294967295)) = some r := h
 clear h
 obtain rfl := Option.some.inj H
 go_enter Try.func107, Try.ntmps107
 go_wp2
 go_ret
 exact ⟨u5_0, u5_3⟩

/-! ### spec_l2Turn: function 106 -/
def spec_l2Turn.f (a0 : Int) (a1 : Int) : Option (Int) := if 0 ≤ a1 then (if 0 ≤ (wrap64 (32 - a1)) then ((spec_l2Low.f (Go.bits .or .i64 (shr .i64 a0 a1) (shl .i64 a0 (wrap64 (32 - a1))))).bind fun cF => (some cF)) else (none)) else (none)
set_option maxHeartbeats 8000000 in
set_option maxRecDepth 100000 in
theorem spec_l2Turn.calls (a0 : Int) (a1 : Int) (r : Int) (w : World) (h : spec_l2Turn.f a0 a1 = some r) :
 Calls Try.prog 106 #[.int .i64 a0, .int .i64 a1] w fun e w' => e = .returned (.int .i64 r) ∧ Drawn0 w w' := by
 have H : (if 0 ≤ a1 then (if 0 ≤ (wrap64 (32 - a1)) then ((spec_l2Low.f (Go.bits .or .i64 (shr .i64 a0 a1) (shl .i64 a0 (wrap64 (32 - a1))))).bind fun cF => (some cF)) else (none)) else (none)) = some r := h
 clear h
 by_cases c3 : 0 ≤ a1
 ·rw [if_pos c3] at H; have wU := eq_true c3; have FF : decide (0 ≤ a1) = true := decide_eq_true c3; clear c3; obtain ⟨ji4, hji4⟩ : ∃ j_ : Int, (shr .i64 a0 a1) = j_ := ⟨_, rfl⟩; replace H : (if 0 ≤ (wrap64 (32 - a1)) then ((spec_l2Low.f (Go.bits .or .i64 (ji4) (shl .i64 a0 (wrap64 (32 - a1))))).bind fun cF => (some cF)) else (none)) = some r := by first | (rw [hji4] at H; exact H) | (simp only [hji4] at H ⊢; exact H)
  have hji4_ : (a0 / 2 ^ min a1.toNat 64) = ji4 := hji4; have hji4z : a1 ≤ 64 → (a0 / 2 ^ a1.toNat) = ji4 := shr_small hji4; obtain ⟨ji5, hji5⟩ : ∃ j_ : Int, (wrap64 (32 - a1)) = j_ := ⟨_, rfl⟩; replace H : (if 0 ≤ (ji5) then ((spec_l2Low.f (Go.bits .or .i64 (ji4) (shl .i64 a0 (ji5)))).bind fun cF => (some cF)) else (none)) = some r := by first | (rw [hji5] at H; exact H) | (simp only [hji5] at H ⊢; exact H)
  have hji5w : (IntKind.i64.wrap (32 - a1)) = ji5 := (i64_w _).trans hji5; by_cases c6 : 0 ≤ (ji5)
  ·rw [if_pos c6] at H; have FG := eq_true c6; have FH : decide (0 ≤ (ji5)) = true := decide_eq_true c6; clear c6; obtain ⟨ji7, hji7⟩ : ∃ j_ : Int, (shl .i64 a0 (ji5)) = j_ := ⟨_, rfl⟩; replace H : ((spec_l2Low.f (Go.bits .or .i64 (ji4) (ji7))).bind fun cF => (some cF)) = some r := by first | (rw [hji7] at H; exact H) | (simp only [hji7] at H ⊢; exact H)
   have hji7_ : (IntKind.i64.wrap (a0 * 2 ^ min (ji5).toNat 64)) = ji7 := hji7; have hji7z : (ji5) ≤ 64 → (IntKind.i64.wrap (a0 * 2 ^ (ji5).toNat)) = ji7 := shl_small hji7; have hji7y : (wrap64 (a0 * 2 ^ min (ji5).toNat 64)) = ji7 := (i64_w _).symm.trans hji7_; have hji7x : (ji5) ≤ 64 → (wrap64 (a0 * 2 ^ (ji5).toNat)) = ji7 := fun h_ => (i64_w _).symm.trans (hji7z h_)
   replace H := oB H; obtain ⟨cF, EH, H⟩ := H; (try dsimp only at H); have A8 := aM EH; clear EH
   obtain rfl := Option.some.inj H; go_enter Try.func106, Try.ntmps106
   iterate 6 ((try go_quiet (first | (go_at_call 107; (with_reducible refine (spec_l2Low.calls (Go.bits .or .i64 (ji4) (ji7)) cF _ A8.out).mono ?_); rintro e w' ⟨rfl, ⟨nd, rfl⟩⟩; (try first | exact ⟨rfl, _, World.drewN_drewN _ _ _⟩ | exact ⟨rfl, _, Eq.trans (World.drewN_drewN _ _ _) (congrArg (World.drewN _) (Nat.add_assoc _ _ _))⟩)))); (try go_wp2_with (first | (go_at_call 107; (with_reducible refine (spec_l2Low.calls (Go.bits .or .i64 (ji4) (ji7)) cF _ A8.out).mono ?_); rintro e w' ⟨rfl, ⟨nd, rfl⟩⟩; (try first | exact ⟨rfl, _, World.drewN_drewN _ _ _⟩ | exact ⟨rfl, _, Eq.trans (World.drewN_drewN _ _ _) (congrArg (World.drewN _) (Nat.add_assoc _ _ _))⟩)))))
   go_ret
   exact ⟨by first | rfl | (simp; done) | (simp only [← hji4, ← hji5, ← hji7] <;> (first | rfl | simp)) | (simp [*]; done), u5_3⟩
  ·rw [if_neg c6] at H; exact absurd H (by simp)
 ·rw [if_neg c3] at H; exact absurd H (by simp)

/-! ### spec_l2Keys: function 108 -/
def spec_l2Keys.f  : Option (List Int) := some (([1116352408, 1899447441, 3049323471, 3921009573, 961987163, 1508970993, 2453635748, 2870763221, 3624381080, 310598401, 607225278, 1426881987, 1925078388, 2162078206, 2614888103, 3248222580, 3835390401, 4022224774, 264347078, 604807628, 770255983, 1249150122, 1555081692, 1996064986, 2554220882, 2821834349, 2952996808, 3210313671, 3336571891, 3584528711, 113926993, 338241895, 666307205, 773529912, 1294757372, 1396182291, 1695183700, 1986661051, 2177026350, 2456956037, 2730485921, 2820302411, 3259730800, 3345764771, 3516065817, 3600352804, 4094571909, 275423344, 430227734, 506948616, 659060556, 883997877, 958139571, 1322822218, 1537002063, 1747873779, 1955562222, 2024104815, 2227730452, 2361852424, 2428436474, 2756734187, 3204031479, 3329325298] : List Int))
set_option maxHeartbeats 8000000 in
set_option maxRecDepth 100000 in
theorem spec_l2Keys.calls  (r : List Int) (w : World) (h : spec_l2Keys.f  = some r) :
 Calls Try.prog 108 #[] w fun e w' => ∃ v0_ : Value, e = .returned (v0_) ∧ Kd.R (Kd.int .i64) 3 w' w.heap.size (fun _ => True) v0_ r ∧ Below w.heap.size w w' := by
 have HB := aM (Below.refl w.heap.size w)
 have H : (some (([1116352408, 1899447441, 3049323471, 3921009573, 961987163, 1508970993, 2453635748, 2870763221, 3624381080, 310598401, 607225278, 1426881987, 1925078388, 2162078206, 2614888103, 3248222580, 3835390401, 4022224774, 264347078, 604807628, 770255983, 1249150122, 1555081692, 1996064986, 2554220882, 2821834349, 2952996808, 3210313671, 3336571891, 3584528711, 113926993, 338241895, 666307205, 773529912, 1294757372, 1396182291, 1695183700, 1986661051, 2177026350, 2456956037, 2730485921, 2820302411, 3259730800, 3345764771, 3516065817, 3600352804, 4094571909, 275423344, 430227734, 506948616, 659060556, 883997877, 958139571, 1322822218, 1537002063, 1747873779, 1955562222, 2024104815, 2227730452, 2361852424, 2428436474, 2756734187, 3204031479, 3329325298] : List Int))) = some r := h
 clear h
 obtain ⟨AF, hY⟩ : ∃ y_ : List Int, y_ = (([1116352408, 1899447441, 3049323471, 3921009573, 961987163, 1508970993, 2453635748, 2870763221, 3624381080, 310598401, 607225278, 1426881987, 1925078388, 2162078206, 2614888103, 3248222580, 3835390401, 4022224774, 264347078, 604807628, 770255983, 1249150122, 1555081692, 1996064986, 2554220882, 2821834349, 2952996808, 3210313671, 3336571891, 3584528711, 113926993, 338241895, 666307205, 773529912, 1294757372, 1396182291, 1695183700, 1986661051, 2177026350, 2456956037, 2730485921, 2820302411, 3259730800, 3345764771, 3516065817, 3600352804, 4094571909, 275423344, 430227734, 506948616, 659060556, 883997877, 958139571, 1322822218, 1537002063, 1747873779, 1955562222, 2024104815, 2227730452, 2361852424, 2428436474, 2756734187, 3204031479, 3329325298] : List Int)) := ⟨_, rfl⟩
 replace H : (some AF) = some r := u5_2
 have sQ := aM hY
 clear hY
 obtain rfl := Option.some.inj H
 go_enter Try.func108, Try.ntmps108
 go_wp2_with (first | ((with_reducible refine gD 1 rfl ?_); refine Kd.R_lit (Kd.int .i64) _ 3 ?hg (N := 1) ?hd (xs := ([1116352408, 1899447441, 3049323471, 3921009573, 961987163, 1508970993, 2453635748, 2870763221, 3624381080, 310598401, 607225278, 1426881987, 1925078388, 2162078206, 2614888103, 3248222580, 3835390401, 4022224774, 264347078, 604807628, 770255983, 1249150122, 1555081692, 1996064986, 2554220882, 2821834349, 2952996808, 3210313671, 3336571891, 3584528711, 113926993, 338241895, 666307205, 773529912, 1294757372, 1396182291, 1695183700, 1986661051, 2177026350, 2456956037, 2730485921, 2820302411, 3259730800, 3345764771, 3516065817, 3600352804, 4094571909, 275423344, 430227734, 506948616, 659060556, 883997877, 958139571, 1322822218, 1537002063, 1747873779, 1955562222, 2024104815, 2227730452, 2361852424, 2428436474, 2756734187, 3204031479, 3329325298] : List Int)) (inner := [.int .i64 1116352408, .int .i64 1899447441, .int .i64 3049323471, .int .i64 3921009573, .int .i64 961987163, .int .i64 1508970993, .int .i64 2453635748, .int .i64 2870763221, .int .i64 3624381080, .int .i64 310598401, .int .i64 607225278, .int .i64 1426881987, .int .i64 1925078388, .int .i64 2162078206, .int .i64 2614888103, .int .i64 3248222580, .int .i64 3835390401, .int .i64 4022224774, .int .i64 264347078, .int .i64 604807628, .int .i64 770255983, .int .i64 1249150122, .int .i64 1555081692, .int .i64 1996064986, .int .i64 2554220882, .int .i64 2821834349, .int .i64 2952996808, .int .i64 3210313671, .int .i64 3336571891, .int .i64 3584528711, .int .i64 113926993, .int .i64 338241895, .int .i64 666307205, .int .i64 773529912, .int .i64 1294757372, .int .i64 1396182291, .int .i64 1695183700, .int .i64 1986661051, .int .i64 2177026350, .int .i64 2456956037, .int .i64 2730485921, .int .i64 2820302411, .int .i64 3259730800, .int .i64 3345764771, .int .i64 3516065817, .int .i64 3600352804, .int .i64 4094571909, .int .i64 275423344, .int .i64 430227734, .int .i64 506948616, .int .i64 659060556, .int .i64 883997877, .int .i64 958139571, .int .i64 1322822218, .int .i64 1537002063, .int .i64 1747873779, .int .i64 1955562222, .int .i64 2024104815, .int .i64 2227730452, .int .i64 2361852424, .int .i64 2428436474, .int .i64 2756734187, .int .i64 3204031479, .int .i64 3329325298]) (ok := fun _ => True) (okp := fun _ => True) ?hr ?hp (fun _ hk => hk) trivial (Below.refl _ _) (Nat.le_refl _) (by simp) ?_; (case hd => rfl); (case hg => rfl); (case hr => first | (go_simp; done) | (go_simp; rfl)); (case hp => exact (Reps.one (show Kd.M (Kd.int .i64) _ _ _ 1116352408 [.int .i64 1116352408] from rfl) (Reps.one (show Kd.M (Kd.int .i64) _ _ _ 1899447441 [.int .i64 1899447441] from rfl) (Reps.one (show Kd.M (Kd.int .i64) _ _ _ 3049323471 [.int .i64 3049323471] from rfl) (Reps.one (show Kd.M (Kd.int .i64) _ _ _ 3921009573 [.int .i64 3921009573] from rfl) (Reps.one (show Kd.M (Kd.int .i64) _ _ _ 961987163 [.int .i64 961987163] from rfl) (Reps.one (show Kd.M (Kd.int .i64) _ _ _ 1508970993 [.int .i64 1508970993] from rfl) (Reps.one (show Kd.M (Kd.int .i64) _ _ _ 2453635748 [.int .i64 2453635748] from rfl) (Reps.one (show Kd.M (Kd.int .i64) _ _ _ 2870763221 [.int .i64 2870763221] from rfl) (Reps.one (show Kd.M (Kd.int .i64) _ _ _ 3624381080 [.int .i64 3624381080] from rfl) (Reps.one (show Kd.M (Kd.int .i64) _ _ _ 310598401 [.int .i64 310598401] from rfl) (Reps.one (show Kd.M (Kd.int .i64) _ _ _ 607225278 [.int .i64 607225278] from rfl) (Reps.one (show Kd.M (Kd.int .i64) _ _ _ 1426881987 [.int .i64 1426881987] from rfl) (Reps.one (show Kd.M (Kd.int .i64) _ _ _ 1925078388 [.int .i64 1925078388] from rfl) (Reps.one (show Kd.M (Kd.int .i64) _ _ _ 2162078206 [.int .i64 2162078206] from rfl) (Reps.one (show Kd.M (Kd.int .i64) _ _ _ 2614888103 [.int .i64 2614888103] from rfl) (Reps.one (show Kd.M (Kd.int .i64) _ _ _ 3248222580 [.int .i64 3248222580] from rfl) (Reps.one (show Kd.M (Kd.int .i64) _ _ _ 3835390401 [.int .i64 3835390401] from rfl) (Reps.one (show Kd.M (Kd.int .i64) _ _ _ 4022224774 [.int .i64 4022224774] from rfl) (Reps.one (show Kd.M (Kd.int .i64) _ _ _ 264347078 [.int .i64 264347078] from rfl) (Reps.one (show Kd.M (Kd.int .i64) _ _ _ 604807628 [.int .i64 604807628] from rfl) (Reps.one (show Kd.M (Kd.int .i64) _ _ _ 770255983 [.int .i64 770255983] from rfl) (Reps.one (show Kd.M (Kd.int .i64) _ _ _ 1249150122 [.int .i64 1249150122] from rfl) (Reps.one (show Kd.M (Kd.int .i64) _ _ _ 1555081692 [.int .i64 1555081692] from rfl) (Reps.one (show Kd.M (Kd.int .i64) _ _ _ 1996064986 [.int .i64 1996064986] from rfl) (Reps.one (show Kd.M (Kd.int .i64) _ _ _ 2554220882 [.int .i64 2554220882] from rfl) (Reps.one (show Kd.M (Kd.int .i64) _ _ _ 2821834349 [.int .i64 2821834349] from rfl) (Reps.one (show Kd.M (Kd.int .i64) _ _ _ 2952996808 [.int .i64 2952996808] from rfl) (Reps.one (show Kd.M (Kd.int .i64) _ _ _ 3210313671 [.int .i64 3210313671] from rfl) (Reps.one (show Kd.M (Kd.int .i64) _ _ _ 3336571891 [.int .i64 3336571891] from rfl) (Reps.one (show Kd.M (Kd.int .i64) _ _ _ 3584528711 [.int .i64 3584528711] from rfl) (Reps.one (show Kd.M (Kd.int .i64) _ _ _ 113926993 [.int .i64 113926993] from rfl) (Reps.one (show Kd.M (Kd.int .i64) _ _ _ 338241895 [.int .i64 338241895] from rfl) (Reps.one (show Kd.M (Kd.int .i64) _ _ _ 666307205 [.int .i64 666307205] from rfl) (Reps.one (show Kd.M (Kd.int .i64) _ _ _ 773529912 [.int .i64 773529912] from rfl) (Reps.one (show Kd.M (Kd.int .i64) _ _ _ 1294757372 [.int .i64 1294757372] from rfl) (Reps.one (show Kd.M (Kd.int .i64) _ _ _ 1396182291 [.int .i64 1396182291] from rfl) (Reps.one (show Kd.M (Kd.int .i64) _ _ _ 1695183700 [.int .i64 1695183700] from rfl) (Reps.one (show Kd.M (Kd.int .i64) _ _ _ 1986661051 [.int .i64 1986661051] from rfl) (Reps.one (show Kd.M (Kd.int .i64) _ _ _ 2177026350 [.int .i64 2177026350] from rfl) (Reps.one (show Kd.M (Kd.int .i64) _ _ _ 2456956037 [.int .i64 2456956037] from rfl) (Reps.one (show Kd.M (Kd.int .i64) _ _ _ 2730485921 [.int .i64 2730485921] from rfl) (Reps.one (show Kd.M (Kd.int .i64) _ _ _ 2820302411 [.int .i64 2820302411] from rfl) (Reps.one (show Kd.M (Kd.int .i64) _ _ _ 3259730800 [.int .i64 3259730800] from rfl) (Reps.one (show Kd.M (Kd.int .i64) _ _ _ 3345764771 [.int .i64 3345764771] from rfl) (Reps.one (show Kd.M (Kd.int .i64) _ _ _ 3516065817 [.int .i64 3516065817] from rfl) (Reps.one (show Kd.M (Kd.int .i64) _ _ _ 3600352804 [.int .i64 3600352804] from rfl) (Reps.one (show Kd.M (Kd.int .i64) _ _ _ 4094571909 [.int .i64 4094571909] from rfl) (Reps.one (show Kd.M (Kd.int .i64) _ _ _ 275423344 [.int .i64 275423344] from rfl) (Reps.one (show Kd.M (Kd.int .i64) _ _ _ 430227734 [.int .i64 430227734] from rfl) (Reps.one (show Kd.M (Kd.int .i64) _ _ _ 506948616 [.int .i64 506948616] from rfl) (Reps.one (show Kd.M (Kd.int .i64) _ _ _ 659060556 [.int .i64 659060556] from rfl) (Reps.one (show Kd.M (Kd.int .i64) _ _ _ 883997877 [.int .i64 883997877] from rfl) (Reps.one (show Kd.M (Kd.int .i64) _ _ _ 958139571 [.int .i64 958139571] from rfl) (Reps.one (show Kd.M (Kd.int .i64) _ _ _ 1322822218 [.int .i64 1322822218] from rfl) (Reps.one (show Kd.M (Kd.int .i64) _ _ _ 1537002063 [.int .i64 1537002063] from rfl) (Reps.one (show Kd.M (Kd.int .i64) _ _ _ 1747873779 [.int .i64 1747873779] from rfl) (Reps.one (show Kd.M (Kd.int .i64) _ _ _ 1955562222 [.int .i64 1955562222] from rfl) (Reps.one (show Kd.M (Kd.int .i64) _ _ _ 2024104815 [.int .i64 2024104815] from rfl) (Reps.one (show Kd.M (Kd.int .i64) _ _ _ 2227730452 [.int .i64 2227730452] from rfl) (Reps.one (show Kd.M (Kd.int .i64) _ _ _ 2361852424 [.int .i64 2361852424] from rfl) (Reps.one (show Kd.M (Kd.int .i64) _ _ _ 2428436474 [.int .i64 2428436474] from rfl) (Reps.one (show Kd.M (Kd.int .i64) _ _ _ 2756734187 [.int .i64 2756734187] from rfl) (Reps.one (show Kd.M (Kd.int .i64) _ _ _ 3204031479 [.int .i64 3204031479] from rfl) (Reps.one (show Kd.M (Kd.int .i64) _ _ _ 3329325298 [.int .i64 3329325298] from rfl) (Reps.none _ _)))))))))))))))))))))))))))))))))))))))))))))))))))))))))))))))))); intro v186 w1 wV hb hg_ hnew_; clear hg_ hnew_; (first | rw [← sQ.out] at wV | (simp only [Int.reduceToNat] at wV; rw [← sQ.out] at wV)); have wW := aM (Kd.R_lower wV (below_size xbel)); replace HB := xbs hb; clear hb wV))
 go_ret
 exact ⟨_, xerr, by (with_reducible repeat (first | apply Kd.R_alloc | apply Kd.R_drewN | apply Kd.R_drew)); exact wW.out, xbel⟩

end Go.Proofs.Ytocpomkfilpflaa.QFnHardRun
