-- A walk, by a program of this session.
import Derived.Test.YtocpomkfilpflaaQFnExactHardLoadx0
import Derived.Test.YtocpomkfilpflaaQFnExactHardLoadx3
import Derived.Test.YtocpomkfilpflaaQFnExactHardLoadx4
namespace Go.Proofs.Ytocpomkfilpflaa.QFnExactHardLoad
open Go.RowKit Go.Proofs.YtocpomkfilpflaaW.PrintWords Go.Proofs.YtocpomkfilpflaaW.PrintLast Go.Proofs.YtocpomkfilpflaaW.PrintMore
attribute [local go_sem] max2_int min2_int max_two min_two max_three min_three max_four min_four   -- for this text's walks alone
set_option linter.unusedVariables false
set_option linter.unusedSimpArgs false

theorem u5_0 {p : Prop} (h : p := by first | rfl | (simp; done) | (simp [*]; done)) : p := h
theorem u5_1 {p : Prop} (h : p := by first | omega | exact Nat.le_refl _) : p := h
theorem u5_2 {p : Prop} (h : p := by (with_reducible repeat (first | apply Kd.R_alloc | apply Kd.R_drewN | apply Kd.R_drew)); exact bE.out) : p := h
/-! ### spec_HardApply: function 33 -/
def spec_HardApply.j0 : Nat → Bool → Int → Int → List (S36) → Int → Int → List (S36) → Option (Int × Int × (List (S36)) × Bool)
 | 0, _, _, _, _, _, _, _ => none
 | k + 1, x7, cM, cN, cO, cP, cQ, cR => if x7 = true then ((spec_HardOk.f k cP cQ cR).bind fun sL => (if sL = true then (some (cP, cQ, cR, true)) else ((spec_l6Copy.f cM cN cO).bind fun cZ => (some (cZ.1, cZ.2.1, cZ.2.2, false))))) else ((spec_l6Copy.f cM cN cO).bind fun dA => (some (dA.1, dA.2.1, dA.2.2, false)))
def spec_HardApply.f (k : Nat) (aH : Int) (aK : Int) (aE : List (S36)) (bU : Int) (bG : Int) (bI : Int) (bB : Int) (bJ : Int) (bK : Int) (bL : Int) (bM : Int) (bN : Int) (bO : ByteArray) : Option (Int × Int × (List (S36)) × Bool) := (spec_HardOk.f k aH aK aE).bind fun dB => (if dB = true then ((spec_l6Copy.f aH aK aE).bind fun aD => ((spec_RecOk.f k bU bG bI bB bJ bK bL bM bN bO).bind fun bV => (if bU = 1 then (if bV = true then (if bG > aH then (spec_HardApply.j0 k true aH aK aE bG bI aD.2.2) else (if bG = aH then (if aK = 0 then (spec_HardApply.j0 k true aH aK aE bG bI aD.2.2) else (spec_HardApply.j0 k (aK == bI) aH aK aE bG bI aD.2.2)) else (spec_HardApply.j0 k false aH aK aE bG bI aD.2.2))) else (spec_HardApply.j0 k false aH aK aE bG bI aD.2.2)) else (if bU = 2 then (if bV = true then (if aD.2.2.length < 2513169434916 then (spec_HardApply.j0 k (bB == (wrap64 ((aE.length : Int) + 1))) aH aK aE aD.1 aD.2.1 (aD.2.2 ++ [(⟨bJ, (⟨bK, bL, bM, bN, bO⟩ : S34)⟩ : S36)])) else (none)) else (if aD.2.2.length < 2513169434916 then (spec_HardApply.j0 k false aH aK aE aD.1 aD.2.1 (aD.2.2 ++ [(⟨bJ, (⟨bK, bL, bM, bN, bO⟩ : S34)⟩ : S36)])) else (none))) else (if bU = 3 then (if bV = true then (if bB ≤ (aE.length : Int) then (if 0 ≤ bB then (if bB ≤ (aD.2.2.length : Int) then (spec_HardApply.j0 k (decide (bB ≤ (aE.length : Int))) aH aK aE aD.1 aD.2.1 (aD.2.2.take (bB : Int).toNat)) else (none)) else (none)) else (spec_HardApply.j0 k (decide (bB ≤ (aE.length : Int))) aH aK aE aD.1 aD.2.1 aD.2.2)) else (spec_HardApply.j0 k false aH aK aE aD.1 aD.2.1 aD.2.2)) else (spec_HardApply.j0 k bV aH aK aE aD.1 aD.2.1 aD.2.2)))))) else (some (0, 0, ([] : List (S36)), false)))
theorem u5_mq0 {p : Prop} (h : p := by repeat' first | (with_reducible first | exact wL _ _ _ _ _ _ _ | exact spec_HardOk.mono _ _ _ _ | exact spec_RecOk.mono _ _ _ _ _ _ _ _ _ _ _ | exact LeO.refl _ | exact LeO.none _ | refine LeO.ite ?_ ?_ | refine LeO.bind ?_ (fun _ => ?_)) | exact wL _ _ _ _ _ _ _ | exact spec_HardOk.mono _ _ _ _ | exact spec_RecOk.mono _ _ _ _ _ _ _ _ _ _ _ | exact LeO.none _ | refine LeO.ite ?_ ?_ | refine LeO.bind ?_ (fun _ => ?_)) : p := h
set_option maxRecDepth 100000 in
theorem spec_HardApply.mono_l : ∀ k, (∀ y0 y1 y2 y3 y4 y5 y6, LeO (spec_HardApply.j0 k y0 y1 y2 y3 y4 y5 y6) (spec_HardApply.j0 (k + 1) y0 y1 y2 y3 y4 y5 y6))
 | 0 => fun _ _ _ _ _ _ _ r h => by simp [spec_HardApply.j0] at h
 | k + 1 => by
  have wL := spec_HardApply.mono_l k
  ·intro y0 y1 y2 y3 y4 y5 y6; unfold spec_HardApply.j0; exact u5_mq0
theorem spec_HardApply.mono : ∀ a0 a1 a2 a3 a4 a5 a6 a7 a8 a9 wM wN wO k, LeO (spec_HardApply.f k a0 a1 a2 a3 a4 a5 a6 a7 a8 a9 wM wN wO) (spec_HardApply.f (k + 1) a0 a1 a2 a3 a4 a5 a6 a7 a8 a9 wM wN wO) := by
 intro a0 a1 a2 a3 a4 a5 a6 a7 a8 a9 wM wN wO k
 have wL := spec_HardApply.mono_l k
 unfold spec_HardApply.f
 exact u5_mq0
set_option maxHeartbeats 8000000 in
set_option maxRecDepth 100000 in
theorem spec_HardApply.calls (k : Nat) (aH : Int) (aK : Int) (cB : Option Addr) (cC : Nat) (aE : List (S36)) (bU : Int) (bG : Int) (bI : Int) (bB : Int) (bJ : Int) (bK : Int) (bL : Int) (bM : Int) (bN : Int) (bO : ByteArray) (r1 : Int) (r2 : Int) (r3 : List (S36)) (r4 : Bool) (w : World) (rS : Kd.C k36 w cB aE.length aE) (rT : aE.length ≤ cC) (h : spec_HardApply.f k aH aK aE bU bG bI bB bJ bK bL bM bN bO = some (r1, r2, r3, r4)) :
 Calls Try.prog 33 #[.agg #[.int .i64 aH, .int .i64 aK, .slice cB aE.length cC], .agg #[.int .i64 bU, .int .i64 bG, .int .i64 bI, .int .i64 bB, .int .i64 bJ, .int .i64 bK, .int .i64 bL, .int .i64 bM, .int .i64 bN, .string bO]] w fun e w' => ∃ v2_ : Value, e = .returned (.tuple #[.agg #[.int .i64 r1, .int .i64 r2, v2_], .bool r4]) ∧ Kd.R k36 36 w' w.heap.size (fun _ => True) v2_ r3 ∧ Below w.heap.size w w' := by
 have DP := Try.underlying28
 have DQ := Try.underlying38
 have DR := Try.underlying36
 have cG := aM rS
 have cH := aM rT
 clear rS rT
 have HB := aM (Below.refl w.heap.size w)
 have H : ((spec_HardOk.f k aH aK aE).bind fun dB => (if dB = true then ((spec_l6Copy.f aH aK aE).bind fun aD => ((spec_RecOk.f k bU bG bI bB bJ bK bL bM bN bO).bind fun bV => (if bU = 1 then (if bV = true then (if bG > aH then (spec_HardApply.j0 k true aH aK aE bG bI aD.2.2) else (if bG = aH then (if aK = 0 then (spec_HardApply.j0 k true aH aK aE bG bI aD.2.2) else (spec_HardApply.j0 k (aK == bI) aH aK aE bG bI aD.2.2)) else (spec_HardApply.j0 k false aH aK aE bG bI aD.2.2))) else (spec_HardApply.j0 k false aH aK aE bG bI aD.2.2)) else (if bU = 2 then (if bV = true then (if aD.2.2.length < 2513169434916 then (spec_HardApply.j0 k (bB == (wrap64 ((aE.length : Int) + 1))) aH aK aE aD.1 aD.2.1 (aD.2.2 ++ [(⟨bJ, (⟨bK, bL, bM, bN, bO⟩ : S34)⟩ : S36)])) else (none)) else (if aD.2.2.length < 2513169434916 then (spec_HardApply.j0 k false aH aK aE aD.1 aD.2.1 (aD.2.2 ++ [(⟨bJ, (⟨bK, bL, bM, bN, bO⟩ : S34)⟩ : S36)])) else (none))) else (if bU = 3 then (if bV = true then (if bB ≤ (aE.length : Int) then (if 0 ≤ bB then (if bB ≤ (aD.2.2.length : Int) then (spec_HardApply.j0 k (decide (bB ≤ (aE.length : Int))) aH aK aE aD.1 aD.2.1 (aD.2.2.take (bB : Int).toNat)) else (none)) else (none)) else (spec_HardApply.j0 k (decide (bB ≤ (aE.length : Int))) aH aK aE aD.1 aD.2.1 aD.2.2)) else (spec_HardApply.j0 k false aH aK aE aD.1 aD.2.1 aD.2.2)) else (spec_HardApply.j0 k bV aH aK aE aD.1 aD.2.1 aD.2.2)))))) else (some (0, 0, ([] : List (S36)), false)))) = some (r1, r2, r3, r4) := h
 clear h
 replace H := oB H
 obtain ⟨dB, zQ, H⟩ := H
 (try dsimp only at H)
 have A3 := aM zQ
 clear zQ
 by_cases c4 : dB = true
 ·subst c4; replace H := iT H; replace H := oB H; obtain ⟨⟨bY, bZ, bH⟩, zR, H⟩ := H; (try dsimp only at H); have A5 := aM zR; clear zR
  replace H := oB H; obtain ⟨bV, zS, H⟩ := H; (try dsimp only at H); have A6 := aM zS; clear zS; have wP := aM H; clear H
  go_enter Try.func33, Try.ntmps33
  go_upto_block 0 with (first | ((with_reducible refine gD 2 rfl ?_); (try (refine gate_guard (by rfl) ?_; dsimp only)); refine boxE (N := 2) rfl (cs := #[.int .i64 aH, .int .i64 aK, .slice cB aE.length cC]) (t := 28) ?_; intro cS hg w8 hbox hb; have aC := aM (hbox); have sY := aM (xge hg); have sZ := aM (xge hg); replace HB := xbs hb; clear hb hbox hg) | ((with_reducible refine gD 3 rfl ?_); (try (refine gate_guard (by rfl) ?_; dsimp only)); refine boxE (N := 3) rfl (cs := #[.int .i64 bU, .int .i64 bG, .int .i64 bI, .int .i64 bB, .int .i64 bJ, .int .i64 bK, .int .i64 bL, .int .i64 bM, .int .i64 bN, .string bO]) (t := 38) ?_; intro cT hg w9 hbox hb; have tA := aM (xge hg); have tB := aM (xge hg); replace HB := xbs hb; have aN := nblt aC hg; have aQ := nbgt aC hg; replace aC := xbb aC hb; have aA := aM (hbox); clear hb hbox hg) | ((with_reducible refine gD 4 rfl ?_); (try (refine gate_guard (by rfl) ?_; dsimp only)); refine boxE (N := 4) rfl (cs := #[.int .i64 0, .int .i64 0, .slice none 0 0]) (t := 28) ?_; intro cA hg DS hbox hb; have tC := aM (xge hg); have tD := aM (xge hg); replace HB := xbs hb; have aR := nblt aC hg; have aT := nbgt aC hg; have aI := nblt aA hg; have aJ := nbgt aA hg; replace aC := xbb aC hb; replace aA := xbb aA hb; have aW := aM (hbox); clear hb hbox hg; have zT := aN.out; have zU := aQ.out; have zV := aR.out; have zW := aT.out; obtain ⟨fU, fV, fW, fX, fY, fZ⟩ := xf3 (w := DS) aC) | ((with_reducible refine gC 65 rfl ?_); refine goesLY (some 9) rfl Try.func65 #[.agg #[.int .i64 aH, .int .i64 aK, .slice cB aE.length cC]] ?_; (with_reducible refine (spec_HardOk.calls k aH aK _ _ aE true _ ?side1 ?side2 A3.out).mono ?_); (case side1 => exact xcb cG); (case side2 => exact cH.out); rintro e DT ⟨rfl, hb⟩; refine ⟨_, rfl, ?_⟩; replace aC := xbb aC hb; replace aA := xbb aA hb; replace aW := xbb aW hb; replace HB := xbs hb; (try clear hb); obtain ⟨gA, gB, gE, gF, gG, gH⟩ := xf3 (w := DT) aC) | ((with_reducible refine gC 66 rfl ?_); refine goesLY (some 13) rfl Try.func66 #[.agg #[.int .i64 aH, .int .i64 aK, .slice cB aE.length cC]] ?_; (with_reducible refine (spec_l6Copy.calls aH aK _ _ aE bY bZ bH _ ?side1 ?side2 A5.out).mono ?_); (case side1 => exact xcb cG); (case side2 => exact cH.out); rintro e EO ⟨DU, rfl, fT, hb⟩; refine ⟨_, rfl, ?_⟩; have bE := aM (Kd.R_lower fT (below_size xbg)); replace aC := xbb aC hb; replace aA := xbb aA hb; replace aW := xbb aW hb; replace HB := xbs hb; (try clear hb fT)) | ((with_reducible refine gD 6 rfl ?_); (try (refine gate_guard (by rfl) ?_; dsimp only)); refine boxE (N := 6) rfl (cs := #[.int .i64 0, .int .i64 0, .slice none 0 0]) (t := 28) ?_; intro cU hg zX hbox hb; replace bE := xrb bE hb; have zY := aM (xge hg); have zZ := aM (xge hg); replace HB := xbs hb; have aU := nblt aC hg; have aV := nbgt aC hg; have aX := nblt aA hg; have aY := nbgt aA hg; have aZ := nblt aW hg; have bA := nbgt aW hg; replace aC := xbb aC hb; replace aA := xbb aA hb; replace aW := xbb aW hb; have bC := aM (hbox); clear hb hbox hg; have AA := aV.out; have AB := aU.out; have AC := aY.out; have AD := aX.out; have AE := bA.out; have AF := aZ.out; obtain ⟨gI, gJ, gK, gL, gM, gN⟩ := xf3 (w := zX) bC; obtain ⟨bW, bX, wQ⟩ := Kd.R_slice bE.out; subst wQ; have AG := aI.out; have AH := aJ.out; obtain ⟨gO, gP, gQ, gR, gS, gT, gU, gV, gW, gX, gY, gZ, hJ, hU, hX, hY, hZ, iA, iB, iC⟩ := xf10 (w := zX) aA) | ((with_reducible refine gC 15 rfl ?_); refine goesLY (some 15) rfl Try.func15 #[.agg #[.int .i64 bU, .int .i64 bG, .int .i64 bI, .int .i64 bB, .int .i64 bJ, .int .i64 bK, .int .i64 bL, .int .i64 bM, .int .i64 bN, .string bO]] ?_; (with_reducible refine (spec_RecOk.calls k bU bG bI bB bJ bK bL bM bN bO bV _ A6.out).mono ?_); rintro e cD ⟨rfl, hb⟩; refine ⟨_, rfl, ?_⟩; replace bE := xrB bE hb; replace aC := xbc aC hb; replace aA := xbc aA hb; replace aW := xbc aW hb; replace bC := aM (blk_below (g := cU) (o := .cells #[.int .i64 bY, .int .i64 bZ, .slice bW bH.length bX] 28 (0, 0)) xP hb); replace HB := xbs hb; (try clear hb); obtain ⟨iD, iE, iF, iG, iH, iI, iJ, iK, iL, iM, iO, iP, iQ, iR, iS, iU, iV, iW, iX, iY⟩ := xf10 (w := cD) aA))
  (try simp only [Act.put, List.setIfInBounds_toArray, List.set_cons_zero, List.set_cons_succ]); go_cut [7] (fun v7 wc => ∃ (kq : Nat) (iZ : Bool) (bP : Int) (bQ : Int) (bR : List (S36)) (cF : Value), v7 = .bool iZ ∧ Aside0 (spec_HardApply.j0 kq iZ aH aK aE bP bQ bR = some (r1, r2, r3, r4)) ∧ Aside0 (kq ≤ k) ∧ Aside0 (Kd.R k36 36 wc w.heap.size (fun _ => True) cF bR) ∧ Aside0 (wc.heap[cS]? = some (.cells #[.int .i64 aH, .int .i64 aK, (.slice cB aE.length cC)] 28 (0, 0))) ∧ Aside0 (wc.heap[cT]? = some (.cells #[.int .i64 bU, .int .i64 bG, .int .i64 bI, .int .i64 bB, .int .i64 bJ, .int .i64 bK, .int .i64 bL, .int .i64 bM, .int .i64 bN, .string bO] 38 (0, 0))) ∧ Aside0 (wc.heap[cA]? = some (.cells #[.int .i64 0, .int .i64 0, (.slice none 0 0)] 28 (0, 0))) ∧ Aside0 (wc.heap[cU]? = some (.cells #[.int .i64 bP, .int .i64 bQ, cF] 28 (0, 0))) ∧ Aside0 (Below w.heap.size w wc))
  case first =>
   have H := wP.out; clear wP; by_cases sU : bU = 1
   ·rw [if_pos sU] at H; obtain ⟨cE, rU⟩ := bT sU; clear sU; (first | rw [cE] | (simp only [i64_w, i32_w]; rw [cE]) | skip); by_cases tE : bV = true
    ·subst tE; replace H := iT H; by_cases sM : bG > aH
     ·rw [if_pos sM] at H; have rV : decide (aH < bG) = true := decide_eq_true sM; clear sM; have H' := aM H; clear H; have AJ := aQ.out; have AK := aN.out; have AL := aI.out; have AM := aJ.out; have AN := aX.out; have AO := aY.out; obtain ⟨jA, jB, jC, jD, jE, jF, jG, jH, jI, jJ, jK, jL, jM, jN, jO, jP, jQ, jR, jS, jT⟩ := xf10 (w := cD) aA; have AP := aR.out; have AQ := aT.out; have AR := aU.out; have AS := aV.out; obtain ⟨jU, jV, jW, jX, jY, jZ⟩ := xf3 (w := cD) aC; have AT := bA.out; have AU := aZ.out; obtain ⟨kA, kB, kC, kE, kF, kG⟩ := xf3 (w := cD) bC; go_wp2; go_meet
      case rel => exact ⟨_, (true), (bG), (bI), (bH), (.slice bW bH.length bX), u5_0, H', ⟨u5_1⟩, ⟨xrm bE (fun _ _ => trivial)⟩, ⟨xB⟩, ⟨xB⟩, ⟨xB⟩, ⟨xP⟩, ⟨xbg⟩⟩
     ·rw [if_neg sM] at H; have rV : decide (aH < bG) = false := decide_eq_false sM; clear sM; by_cases sV : bG = aH
      ·rw [if_pos sV] at H; obtain ⟨rW, rX⟩ := bT sV; clear sV; by_cases sW : aK = 0
       ·rw [if_pos sW] at H; obtain ⟨rY, rZ⟩ := bT sW; clear sW; have H' := aM H; clear H; have AV := aQ.out; have AW := aN.out; have AX := aI.out; have AY := aJ.out; have AZ := aX.out; have BA := aY.out; obtain ⟨kH, kI, kJ, kK, kL, kM, kN, kO, kP, kQ, kR, kS, kT, kU, kV, kW, kX, kY, kZ, lA⟩ := xf10 (w := cD) aA; have BB := aR.out; have BC := aT.out; have BD := aU.out; have BE := aV.out; obtain ⟨lB, lC, lE, lF, lG, lH⟩ := xf3 (w := cD) aC; have BF := bA.out; have BG := aZ.out; obtain ⟨lI, lJ, lK, lL, lM, lN⟩ := xf3 (w := cD) bC; go_wp2; go_meet
        case rel => exact ⟨_, (true), (bG), (bI), (bH), (.slice bW bH.length bX), u5_0, H', ⟨u5_1⟩, ⟨xrm bE (fun _ _ => trivial)⟩, ⟨xB⟩, ⟨xB⟩, ⟨xB⟩, ⟨xP⟩, ⟨xbg⟩⟩
       ·rw [if_neg sW] at H; obtain ⟨rY, rZ⟩ := bF sW; have H' := aM H; clear H; have BH := aQ.out; have BI := aN.out; have BJ := aI.out; have BK := aJ.out; have BL := aX.out; have BM := aY.out; obtain ⟨lO, lP, lQ, lR, lS, lT, lU, lV, lW, lX, lY, lZ, mA, mB, mC, mD, mE, mF, mG, mH⟩ := xf10 (w := cD) aA; have BN := aR.out; have BO := aT.out; have BP := aU.out; have BQ := aV.out; obtain ⟨mI, mJ, mK, mL, mM, mN⟩ := xf3 (w := cD) aC; have BR := bA.out; have BS := aZ.out; obtain ⟨mO, mP, mQ, mR, mS, mT⟩ := xf3 (w := cD) bC; go_wp2; go_meet
        case rel => exact ⟨_, ((aK == bI)), (bG), (bI), (bH), (.slice bW bH.length bX), u5_0, H', ⟨u5_1⟩, ⟨xrm bE (fun _ _ => trivial)⟩, ⟨xB⟩, ⟨xB⟩, ⟨xB⟩, ⟨xP⟩, ⟨xbg⟩⟩
      ·rw [if_neg sV] at H; obtain ⟨rW, rX⟩ := bF sV; have H' := aM H; clear H; have BT := aQ.out; have BU := aN.out; have BV := aI.out; have BW := aJ.out; have BX := aX.out; have BZ := aY.out; obtain ⟨mU, mV, mW, mX, mY, mZ, nA, nB, nC, nD, nE, nF, nG, nH, nI, nJ, nK, nL, nM, nN⟩ := xf10 (w := cD) aA; have CA := aR.out; have CB := aT.out; have CC := aU.out; have CD := aV.out; obtain ⟨nO, nP, nQ, nR, nS, nT⟩ := xf3 (w := cD) aC; have CE := bA.out; have CF := aZ.out; obtain ⟨nU, nV, nW, nX, nY, nZ⟩ := xf3 (w := cD) bC; go_wp2; go_meet
       case rel => exact ⟨_, (false), (bG), (bI), (bH), (.slice bW bH.length bX), u5_0, H', ⟨u5_1⟩, ⟨xrm bE (fun _ _ => trivial)⟩, ⟨xB⟩, ⟨xB⟩, ⟨xB⟩, ⟨xP⟩, ⟨xbg⟩⟩
    ·replace tE := Bool.eq_false_iff.mpr tE; subst tE; replace H := iN H; have H' := aM H; clear H; have CG := aQ.out; have CH := aN.out; have CI := aI.out; have CJ := aJ.out; have CK := aX.out; have CL := aY.out; obtain ⟨oA, oC, oD, oE, oF, oG, oH, oI, oJ, oK, oL, oM, oN, oO, oP, oQ, oR, oT, oU, oV⟩ := xf10 (w := cD) aA; have CM := aV.out; have CN := aU.out; have CO := bA.out; have CP := aZ.out; obtain ⟨oW, oX, oY, oZ, pA, pB⟩ := xf3 (w := cD) bC; go_wp2; go_meet
     case rel => exact ⟨_, (false), (bG), (bI), (bH), (.slice bW bH.length bX), u5_0, H', ⟨u5_1⟩, ⟨xrm bE (fun _ _ => trivial)⟩, ⟨xB⟩, ⟨xB⟩, ⟨xB⟩, ⟨xP⟩, ⟨xbg⟩⟩
   ·rw [if_neg sU] at H; obtain ⟨cE, rU⟩ := bF sU; (first | rw [cE] | (simp only [i64_w, i32_w]; rw [cE]) | skip); by_cases sX : bU = 2
    ·rw [if_pos sX] at H; obtain ⟨sA, sB⟩ := bT sX; clear sX; by_cases tF : bV = true
     ·subst tF; replace H := iT H; by_cases tG : bH.length < 2513169434916
      ·rw [if_pos tG] at H; have LMc77 := aM tG; clear tG; obtain ⟨sN, cI⟩ : ∃ y_ : List (S36), y_ = (bH ++ [(⟨bJ, (⟨bK, bL, bM, bN, bO⟩ : S34)⟩ : S36)]) := ⟨_, rfl⟩; replace H : (spec_HardApply.j0 k (bB == (wrap64 ((aE.length : Int) + 1))) aH aK aE bY bZ sN) = some (r1, r2, r3, r4) := by first | (rw [cI]; with_reducible exact H) | (have H2_ := oS H; rw [cI]; with_reducible exact H2_) | (have H2_ := oS H; with_reducible exact H2_) | with_reducible exact H | (rw [cI]; exact H) | exact H
       have tH := aM cI; clear cI; have H' := aM H; clear H; have CQ := aQ.out; have CR := aN.out; have CS := aI.out; have CT := aJ.out; have CU := aX.out; have CV := aY.out; obtain ⟨pC, pD, pE, pF, pG, pH, pI, pJ, pK, pL, pM, pN, pO, pP, pQ, pR, pS, pT, pU, pV⟩ := xf10 (w := cD) aA; have CW := aR.out; have CX := aT.out; have CY := aU.out; have CZ := aV.out; obtain ⟨pW, pX, pY, pZ, qA, qB⟩ := xf3 (w := cD) aC; have DA := bA.out; have DB := aZ.out; obtain ⟨qC, qD, qE, qF, qG, qH⟩ := xf3 (w := cD) bC; go_wp2_with (first | ((with_reducible refine gate_builtin (b := .append) (xs := #[.tmp 66, .tmp 69]) rfl ?_); (try (refine gate_guard (by rfl) ?_; dsimp only)); at_builtin; refine Kd.R_append k36 (w0 := w) w.heap.size rfl (.tmp 66) (.tmp 69) 26 36 (.agg #[(.int .i64 0), (.int .i64 0), (.int .i64 0), (.int .i64 0), (.int .i64 0), (.string ⟨#[]⟩)]) 56 rfl Try.underlying26 info36 rfl (by decide) (by omega) (.slice bW bH.length bX) bH (⟨bJ, (⟨bK, bL, bM, bN, bO⟩ : S34)⟩ : S36) [.int .i64 bJ, .int .i64 bK, .int .i64 bL, .int .i64 bM, .int .i64 bN, .string bO] (fun _ => True) (fun _ => False) rfl rfl ?aP (fun _ hk => hk.elim) ?aF ?aO ?aB ?aS ?aL ?_; (case aP => exact k36_mkM _ _ _ (⟨bJ, (⟨bK, bL, bM, bN, bO⟩ : S34)⟩ : S36)); (case aB => exact xbg); (case aF => exact (fun _ _ => trivial)); (case aO => exact (xr bE)); (case aS => exact (below_size xbg)); (case aL => have := LMc77.out; omega); intro DV DW ho hb hg hat; rw [← tH.out] at ho; replace aC := aM (blk_grown (g := cS) (o := .cells #[.int .i64 aH, .int .i64 aK, .slice cB aE.length cC] 28 (0, 0)) xblk hg (Kd.R_ne bE.out aC.out (by decide))); replace aA := aM (blk_grown (g := cT) (o := .cells #[.int .i64 bU, .int .i64 bG, .int .i64 bI, .int .i64 bB, .int .i64 bJ, .int .i64 bK, .int .i64 bL, .int .i64 bM, .int .i64 bN, .string bO] 38 (0, 0)) xblk hg (Kd.R_ne bE.out aA.out (by decide))); replace aW := aM (blk_grown (g := cA) (o := .cells #[.int .i64 0, .int .i64 0, .slice none 0 0] 28 (0, 0)) xblk hg (Kd.R_ne bE.out aW.out (by decide))); replace bC := aM (blk_grown (g := cU) (o := .cells #[.int .i64 bY, .int .i64 bZ, .slice bW bH.length bX] 28 (0, 0)) xblk hg (Kd.R_ne bE.out bC.out (by decide))); replace HB := aM (hb); have sC := aM (ho); clear bE; clear ho hb hg hat; obtain ⟨wR, wS, wT⟩ := Kd.R_slice sC.out; subst wT; obtain ⟨qI, qJ, qK, qL, qM, qN⟩ := xf3 (w := DW) bC))
       go_meet
       case rel => exact ⟨_, ((bB == (wrap64 ((aE.length : Int) + 1)))), (bY), (bZ), (sN), (.slice wR sN.length wS), u5_0, H', ⟨u5_1⟩, ⟨xrm sC (fun _ _ => trivial)⟩, ⟨xB⟩, ⟨xB⟩, ⟨xB⟩, ⟨xP⟩, ⟨xbg⟩⟩
      ·rw [if_neg tG] at H; exact absurd H (by simp)
     ·replace tF := Bool.eq_false_iff.mpr tF; subst tF; replace H := iN H; by_cases tI : bH.length < 2513169434916
      ·rw [if_pos tI] at H; have LMc90 := aM tI; clear tI; obtain ⟨sO, cJ⟩ : ∃ y_ : List (S36), y_ = (bH ++ [(⟨bJ, (⟨bK, bL, bM, bN, bO⟩ : S34)⟩ : S36)]) := ⟨_, rfl⟩; replace H : (spec_HardApply.j0 k false aH aK aE bY bZ sO) = some (r1, r2, r3, r4) := by first | (rw [cJ]; with_reducible exact H) | (have H2_ := oS H; rw [cJ]; with_reducible exact H2_) | (have H2_ := oS H; with_reducible exact H2_) | with_reducible exact H | (rw [cJ]; exact H) | exact H
       have tJ := aM cJ; clear cJ; have H' := aM H; clear H; have DC := aV.out; have DD := aU.out; have DE := aY.out; have DF := aX.out; have DG := bA.out; have DH := aZ.out; obtain ⟨qO, qP, qQ, qR, qS, qT⟩ := xf3 (w := cD) bC; have DI := aQ.out; have DJ := aN.out; have DK := aI.out; have DL := aJ.out; obtain ⟨qU, qV, qW, qX, qY, qZ, rA, rB, rC, rE⟩ := xe10 (w := cD) aA; have rF := blk_frozen aA.out 0; have rG := blk_frozen aA.out 1; have rH := blk_frozen aA.out 2; have rI := blk_frozen aA.out 3; have rJ := blk_frozen aA.out 4; have rK := blk_frozen aA.out 5; have rL := blk_frozen aA.out 6; have rM := blk_frozen aA.out 7; have rN := blk_frozen aA.out 8; have rO := blk_frozen aA.out 9; go_wp2_with (first | ((with_reducible refine gate_builtin (b := .append) (xs := #[.tmp 66, .tmp 69]) rfl ?_); (try (refine gate_guard (by rfl) ?_; dsimp only)); at_builtin; refine Kd.R_append k36 (w0 := w) w.heap.size rfl (.tmp 66) (.tmp 69) 26 36 (.agg #[(.int .i64 0), (.int .i64 0), (.int .i64 0), (.int .i64 0), (.int .i64 0), (.string ⟨#[]⟩)]) 56 rfl Try.underlying26 info36 rfl (by decide) (by omega) (.slice bW bH.length bX) bH (⟨bJ, (⟨bK, bL, bM, bN, bO⟩ : S34)⟩ : S36) [.int .i64 bJ, .int .i64 bK, .int .i64 bL, .int .i64 bM, .int .i64 bN, .string bO] (fun _ => True) (fun _ => False) rfl rfl ?aP (fun _ hk => hk.elim) ?aF ?aO ?aB ?aS ?aL ?_; (case aP => exact k36_mkM _ _ _ (⟨bJ, (⟨bK, bL, bM, bN, bO⟩ : S34)⟩ : S36)); (case aB => exact xbg); (case aF => exact (fun _ _ => trivial)); (case aO => exact (xr bE)); (case aS => exact (below_size xbg)); (case aL => have := LMc90.out; omega); intro DX DY ho hb hg hat; rw [← tJ.out] at ho; replace aC := aM (blk_grown (g := cS) (o := .cells #[.int .i64 aH, .int .i64 aK, .slice cB aE.length cC] 28 (0, 0)) xblk hg (Kd.R_ne bE.out aC.out (by decide))); replace aA := aM (blk_grown (g := cT) (o := .cells #[.int .i64 bU, .int .i64 bG, .int .i64 bI, .int .i64 bB, .int .i64 bJ, .int .i64 bK, .int .i64 bL, .int .i64 bM, .int .i64 bN, .string bO] 38 (0, 0)) xblk hg (Kd.R_ne bE.out aA.out (by decide))); replace aW := aM (blk_grown (g := cA) (o := .cells #[.int .i64 0, .int .i64 0, .slice none 0 0] 28 (0, 0)) xblk hg (Kd.R_ne bE.out aW.out (by decide))); replace bC := aM (blk_grown (g := cU) (o := .cells #[.int .i64 bY, .int .i64 bZ, .slice bW bH.length bX] 28 (0, 0)) xblk hg (Kd.R_ne bE.out bC.out (by decide))); replace HB := aM (hb); have sD := aM (ho); clear bE; clear ho hb hg hat; obtain ⟨wU, wV, wW⟩ := Kd.R_slice sD.out; subst wW; obtain ⟨dC, dD, dE, dF, dG, dH⟩ := xf3 (w := DY) bC))
       go_meet
       case rel => exact ⟨_, (false), (bY), (bZ), (sO), (.slice wU sO.length wV), u5_0, H', ⟨u5_1⟩, ⟨xrm sD (fun _ _ => trivial)⟩, ⟨xB⟩, ⟨xB⟩, ⟨xB⟩, ⟨xP⟩, ⟨xbg⟩⟩
      ·rw [if_neg tI] at H; exact absurd H (by simp)
    ·rw [if_neg sX] at H; obtain ⟨sA, sB⟩ := bF sX; by_cases cW : bU = 3
     ·rw [if_pos cW] at H; obtain ⟨dI, dJ⟩ := bT cW; clear cW; by_cases dK : bV = true
      ·subst dK; replace H := iT H; by_cases cL : bB ≤ (aE.length : Int)
       ·rw [if_pos cL] at H; have dL : decide (bB ≤ (aE.length : Int)) = true := decide_eq_true cL; clear cL; by_cases cX : 0 ≤ bB
        ·rw [if_pos cX] at H; have sP := eq_true cX; have sQ : decide (0 ≤ bB) = true := decide_eq_true cX; clear cX; by_cases cY : bB ≤ (bH.length : Int)
         ·rw [if_pos cY] at H; have sR := eq_true cY; have sS : decide (bB ≤ (bH.length : Int)) = true := decide_eq_true cY; clear cY; obtain ⟨rP, cK⟩ : ∃ y_ : List (S36), y_ = (bH.take (bB : Int).toNat) := ⟨_, rfl⟩; replace H : (spec_HardApply.j0 k (decide (bB ≤ (aE.length : Int))) aH aK aE bY bZ rP) = some (r1, r2, r3, r4) := by first | (rw [cK]; with_reducible exact H) | (have H2_ := oS H; rw [cK]; with_reducible exact H2_) | (have H2_ := oS H; with_reducible exact H2_) | with_reducible exact H | (rw [cK]; exact H) | exact H
          have sE := aM cK; clear cK; have H' := aM H; clear H; have wX := aQ.out; have wY := aN.out; have wZ := aI.out; have xA := aJ.out; have xD := aX.out; have xE := aY.out; obtain ⟨dM, dN, dO, dP, dQ, dR, dS, dU, dV, dW, dX, dY, dZ, eA, eB, eC, eD, eE, eF, eG⟩ := xf10 (w := cD) aA; have xF := aR.out; have xG := aT.out; have xH := aU.out; have xI := aV.out; obtain ⟨eH, eI, eJ, eK, eL, eM⟩ := xf3 (w := cD) aC; have xJ := bA.out; have xL := aZ.out; obtain ⟨eN, eO, eP, eQ, eR, eS⟩ := xf3 (w := cD) bC; have q115 : (bB : Int) ≤ ((bH.length : Int) : Int) := oda; obtain ⟨i0115, hi0115, _, hsz115, _⟩ := info_parts info36; have hcut115 := cut_to (P := Try.prog) 26 36 .i64 Try.underlying26 hi0115 bW bH.length bX bB (oda) q115 (Kd.R_reads' bE.out).2.1; have cV := Kd.R_take (m := (bB : Int).toNat) bE.out (by omega); have sF : rP.length = (bB : Int).toNat := (by rw [sE.out, List.length_take]; omega); rw [← sE.out] at cV; rw [← sF] at cV hcut115; clear sF hi0115 hsz115 bE; have tK := aM cV; clear cV; replace q115 := eq_true q115; go_wp2; go_meet
          case rel => exact ⟨_, (decide (bB ≤ (aE.length : Int))), (bY), (bZ), (rP), (.slice bW rP.length bX), u5_0, H', ⟨u5_1⟩, ⟨xrm tK (fun _ _ => trivial)⟩, ⟨xB⟩, ⟨xB⟩, ⟨xB⟩, ⟨xP⟩, ⟨xbg⟩⟩
         ·rw [if_neg cY] at H; exact absurd H (by simp)
        ·rw [if_neg cX] at H; exact absurd H (by simp)
       ·rw [if_neg cL] at H; have dL : decide (bB ≤ (aE.length : Int)) = false := decide_eq_false cL; clear cL; have H' := aM H; clear H; have xM := aQ.out; have xN := aN.out; have xO := aI.out; have xQ := aJ.out; have xR := aX.out; have xS := aY.out; obtain ⟨eT, eU, eV, eW, eX, eY, eZ, fA, fB, fC, fD, fE, fF, fG, fH, fI, fJ, fK, fL, fM⟩ := xf10 (w := cD) aA; have xT := aR.out; have xU := aT.out; have xV := aU.out; have xW := aV.out; obtain ⟨fN, fO, fP, fQ, fR, fS⟩ := xf3 (w := cD) aC; go_wp2; go_meet
        case rel => exact ⟨_, (decide (bB ≤ (aE.length : Int))), (bY), (bZ), (bH), (.slice bW bH.length bX), u5_0, H', ⟨u5_1⟩, ⟨u5_2⟩, ⟨xblk⟩, ⟨xblk⟩, ⟨xblk⟩, ⟨xblk⟩, ⟨xbg⟩⟩
      ·replace dK := Bool.eq_false_iff.mpr dK; subst dK; replace H := iN H; have H' := aM H; clear H; go_wp2; go_meet
       case rel => exact ⟨_, (false), (bY), (bZ), (bH), (.slice bW bH.length bX), u5_0, H', ⟨u5_1⟩, ⟨u5_2⟩, ⟨xblk⟩, ⟨xblk⟩, ⟨xblk⟩, ⟨xblk⟩, ⟨xbg⟩⟩
     ·rw [if_neg cW] at H; obtain ⟨dI, dJ⟩ := bF cW; have H' := aM H; clear H; go_wp2; go_meet
      case rel => exact ⟨_, (bV), (bY), (bZ), (bH), (.slice bW bH.length bX), u5_0, H', ⟨u5_1⟩, ⟨u5_2⟩, ⟨xblk⟩, ⟨xblk⟩, ⟨xblk⟩, ⟨xblk⟩, ⟨xbg⟩⟩
  case rest =>
   clear wP; try clear c1
   try clear q1
   try clear c2
   try clear p2
   try clear c3
   try clear c4
   try clear c5
   try clear c6
   try clear p6
   try clear c7
   try clear c8
   try clear c9
   try clear c10
   try clear EP
   try clear q11
   try clear EQ
   try clear ER
   try clear ES
   try clear ET
   try clear EU
   try clear EV
   try clear sU
   try clear cE
   try clear rU
   try clear tE
   try clear sM
   try clear rV
   try clear EW
   try clear EX
   try clear EY
   try clear EZ
   try clear FA
   try clear FB
   try clear FC
   try clear sV
   try clear rW
   try clear rX
   try clear sW
   try clear rY
   try clear rZ
   try clear FD
   try clear FE
   try clear FF
   try clear FG
   try clear FH
   try clear FI
   try clear FJ
   try clear FL
   try clear FM
   try clear FN
   try clear FO
   try clear FP
   try clear FQ
   try clear FR
   try clear FS
   try clear FT
   try clear FU
   try clear p64
   try clear FV
   try clear FW
   try clear FX
   try clear FY
   try clear FZ
   try clear GA
   try clear GB
   try clear sX
   try clear sA
   try clear sB
   try clear tF
   try clear tG
   try clear GC
   try clear GD
   try clear GE
   try clear GF
   try clear GG
   try clear GH
   try clear tI
   try clear GI
   try clear GJ
   try clear GK
   try clear GL
   try clear GM
   try clear cW
   try clear dI
   try clear dJ
   try clear dK
   try clear cL
   try clear dL
   try clear cX
   try clear sP
   try clear sQ
   try clear cY
   try clear sR
   try clear sS
   try clear DZ
   try clear EA
   try clear EB
   try clear EC
   try clear ED
   try clear EE
   try clear q115
   try clear EF
   try clear EG
   try clear EH
   try clear EI
   try clear EJ
   try clear dC dD dE
   try clear dM dN dO dP dQ dR dS dU dV dW
   try clear eH eI eJ
   try clear eN eO eP
   try clear eT eU eV eW eX eY eZ fA fB fC
   try clear fN fO fP
   try clear fU fV fW
   try clear gA gB gE
   try clear gI gJ gK
   try clear gO gP gQ gR gS gT gU gV gW gX
   try clear iD iE iF iG iH iI iJ iK iL iM
   try clear jA jB jC jD jE jF jG jH jI jJ
   try clear jU jV jW
   try clear kA kB kC
   try clear kH kI kJ kK kL kM kN kO kP kQ
   try clear lB lC lE
   try clear lI lJ lK
   try clear lO lP lQ lR lS lT lU lV lW lX
   try clear mI mJ mK
   try clear mO mP mQ
   try clear mU mV mW mX mY mZ nA nB nC nD
   try clear nO nP nQ
   try clear nU nV nW
   try clear oA oC oD oE oF oG oH oI oJ oK
   try clear oW oX oY
   try clear pC pD pE pF pG pH pI pJ pK pL
   try clear pW pX pY
   try clear qC qD qE
   try clear qI qJ qK
   try clear qO qP qQ
   try clear qU qV qW qX qY qZ rA rB rC rE
   try clear dF dG dH
   try clear dX dY dZ eA eB eC eD eE eF eG
   try clear eK eL eM
   try clear eQ eR eS
   try clear fD fE fF fG fH fI fJ fK fL fM
   try clear fQ fR fS
   try clear fX fY fZ
   try clear gF gG gH
   try clear gL gM gN
   try clear gY gZ hJ hU hX hY hZ iA iB iC
   try clear iO iP iQ iR iS iU iV iW iX iY
   try clear jK jL jM jN jO jP jQ jR jS jT
   try clear jX jY jZ
   try clear kE kF kG
   try clear kR kS kT kU kV kW kX kY kZ lA
   try clear lF lG lH
   try clear lL lM lN
   try clear lY lZ mA mB mC mD mE mF mG mH
   try clear mL mM mN
   try clear mR mS mT
   try clear nE nF nG nH nI nJ nK nL nM nN
   try clear nR nS nT
   try clear nX nY nZ
   try clear oL oM oN oO oP oQ oR oT oU oV
   try clear oZ pA pB
   try clear pM pN pO pP pQ pR pS pT pU pV
   try clear pZ qA qB
   try clear qF qG qH
   try clear qL qM qN
   try clear qR qS qT
   try clear rF rG rH rI rJ rK rL rM rN rO
   try clear q115
   obtain ⟨kq, iZ, bP, bQ, bR, cF, rfl, HA, HJ6, aG, aC, aA, aW, bC, HB⟩ := hcut; cases kq with
   | zero => exact absurd HA.out (by simp [spec_HardApply.j0])
   | succ DM =>
    have H := HA.out; clear HA; simp only [spec_HardApply.j0] at H; by_cases rQ : iZ = true
    ·subst rQ; replace H := iT H; replace H := oB H; obtain ⟨sL, sG, H⟩ := H; (try dsimp only at H); have tL := aM sG; clear sG
     by_cases rR : sL = true
     ·subst rR; replace H := iT H; simp only [Option.some.injEq, Prod.mk.injEq] at H; obtain ⟨rfl, rfl, rfl, rfl⟩ := H; have xX := aV.out; have xY := aU.out; have xZ := aY.out; have yA := aX.out; have yB := bA.out; have yC := aZ.out; obtain ⟨tM, tN, tO, tP, tQ, tR⟩ := xf3 (w := wc) bC; obtain ⟨tS, tT, tU⟩ := Kd.R_slice aG.out; subst tU; go_wp2_with (first | (go_at_call 65; (with_reducible refine (spec_HardOk.calls DM bP bQ _ _ bR true _ ?side1 ?side2 tL.out).mono ?_); (case side1 => exact xC aG); (case side2 => exact (Kd.R_reads' aG.out).2.1); rintro e tV ⟨rfl, hb⟩; replace aG := xrb aG hb; replace aC := xbb aC hb; replace aA := xbb aA hb; replace aW := xbb aW hb; replace bC := xbb bC hb; replace HB := xbs hb; (try clear hb); obtain ⟨tW, tX, tY, tZ, uA, uB⟩ := xf3 (w := tV) bC; have yD := aT.out; have yE := aR.out; have yF := aJ.out; have yG := aI.out; obtain ⟨uC, uD, uE, uF, uG, uH⟩ := xf3 (w := tV) aW))
      refine bodyPost_ret (results_ct rfl _ _ cA 28 #[.int .i64 bP, .int .i64 bQ, .slice tS bR.length tT] (0, 0) _ rfl xP Try.underlying28 rfl (by kernel_rfl)) rfl ?_; exact ⟨_, xerr, xrm aG (fun _ _ => trivial), xbg⟩
     ·replace rR := Bool.eq_false_iff.mpr rR; subst rR; replace H := iN H; replace H := oB H; obtain ⟨⟨uI, uJ, uK⟩, sH, H⟩ := H; (try dsimp only at H); have yH := aM sH; clear sH
      simp only [Option.some.injEq, Prod.mk.injEq] at H; obtain ⟨rfl, rfl, rfl, rfl⟩ := H; have yI := aV.out; have yJ := aU.out; have yK := aY.out; have yL := aX.out; have yM := bA.out; have yN := aZ.out; obtain ⟨uL, uM, uN, uO, uP, uQ⟩ := xf3 (w := wc) bC; obtain ⟨DN, DO, uR⟩ := Kd.R_slice aG.out; subst uR; go_wp2_with (first | (go_at_call 65; (with_reducible refine (spec_HardOk.calls DM bP bQ _ _ bR false _ ?side1 ?side2 tL.out).mono ?_); (case side1 => exact xC aG); (case side2 => exact (Kd.R_reads' aG.out).2.1); rintro e yO ⟨rfl, hb⟩; replace aG := xrb aG hb; replace aC := xbb aC hb; replace aA := xbb aA hb; replace aW := xbb aW hb; replace bC := xbb bC hb; replace HB := xbs hb; (try clear hb); have yP := aN.out; have yQ := aQ.out; have yR := aR.out; have yS := aT.out; obtain ⟨uS, uT, uU, uV, uW, uX⟩ := xf3 (w := yO) aC) | ((with_reducible refine gC 66 rfl ?_); refine goesLY (some 98) rfl Try.func66 #[.agg #[.int .i64 aH, .int .i64 aK, .slice cB aE.length cC]] ?_; (with_reducible refine (spec_l6Copy.calls aH aK _ _ aE uI uJ uK _ ?side1 ?side2 yH.out).mono ?_); (case side1 => exact xcb cG); (case side2 => exact cH.out); rintro e yT ⟨EK, rfl, fT, hb⟩; refine ⟨_, rfl, ?_⟩; have sI := aM (Kd.R_lower (Kd.R_new' fT (Kd.R_lt (xr aG))) (below_size xbg)); replace aG := aM (Kd.R_elder' (xr aG) (Kd.R_base fT) hb); replace aC := xbb aC hb; replace aA := xbb aA hb; replace aW := xbb aW hb; replace bC := xbb bC hb; replace HB := xbs hb; (try clear hb fT); have yU := aJ.out; have yV := aI.out; obtain ⟨uY, uZ, vA, vB, vC, vD⟩ := xf3 (w := yT) aW; obtain ⟨vE, vF, vG⟩ := Kd.R_slice sI.out; subst vG))
      refine bodyPost_ret (results_ct rfl _ _ cA 28 #[.int .i64 uI, .int .i64 uJ, .slice vE uK.length vF] (0, 0) _ rfl xP Try.underlying28 rfl (by kernel_rfl)) rfl ?_; exact ⟨_, xerr, xrm sI (fun _ _ => trivial), xbg⟩
    ·replace rQ := Bool.eq_false_iff.mpr rQ; subst rQ; replace H := iN H; replace H := oB H; obtain ⟨⟨vH, vI, vJ⟩, sJ, H⟩ := H; (try dsimp only at H); have yW := aM sJ; clear sJ
     simp only [Option.some.injEq, Prod.mk.injEq] at H; obtain ⟨rfl, rfl, rfl, rfl⟩ := H; have yX := aN.out; have yY := aQ.out; have yZ := aR.out; have zA := aT.out; have zB := aU.out; have zC := aV.out; obtain ⟨vK, vL, vM, vN, vO, vP⟩ := xf3 (w := wc) aC; go_wp2_with (first | ((with_reducible refine gC 66 rfl ?_); refine goesLY (some 98) rfl Try.func66 #[.agg #[.int .i64 aH, .int .i64 aK, .slice cB aE.length cC]] ?_; (with_reducible refine (spec_l6Copy.calls aH aK _ _ aE vH vI vJ _ ?side1 ?side2 yW.out).mono ?_); (case side1 => exact xcb cG); (case side2 => exact cH.out); rintro e zD ⟨EL, rfl, fT, hb⟩; refine ⟨_, rfl, ?_⟩; have sK := aM (Kd.R_lower (Kd.R_new' fT (Kd.R_lt (xr aG))) (below_size xbg)); replace aG := aM (Kd.R_elder' (xr aG) (Kd.R_base fT) hb); replace aC := xbb aC hb; replace aA := xbb aA hb; replace aW := xbb aW hb; replace bC := xbb bC hb; replace HB := xbs hb; (try clear hb fT); have zE := aJ.out; have zF := aI.out; have zG := aZ.out; have zH := bA.out; obtain ⟨vQ, vR, vS, vT, vU, vV⟩ := xf3 (w := zD) aW; obtain ⟨vW, vX, vY⟩ := Kd.R_slice sK.out; subst vY))
     refine bodyPost_ret (results_ct rfl _ _ cA 28 #[.int .i64 vH, .int .i64 vI, .slice vW vJ.length vX] (0, 0) _ rfl xP Try.underlying28 rfl (by kernel_rfl)) rfl ?_; exact ⟨_, xerr, xrm sK (fun _ _ => trivial), xbg⟩
 ·replace c4 := Bool.eq_false_iff.mpr c4; subst c4; replace H := iN H; simp only [Option.some.injEq, Prod.mk.injEq] at H; obtain ⟨rfl, rfl, rfl, rfl⟩ := H; go_enter Try.func33, Try.ntmps33
  go_wp2_with (first | ((with_reducible refine gD 2 rfl ?_); (try (refine gate_guard (by rfl) ?_; dsimp only)); refine boxE (N := 2) rfl (cs := #[.int .i64 aH, .int .i64 aK, .slice cB aE.length cC]) (t := 28) ?_; intro cS hg EM hbox hb; have aC := aM (hbox); have sY := aM (xge hg); have sZ := aM (xge hg); replace HB := xbs hb; clear hb hbox hg) | ((with_reducible refine gD 3 rfl ?_); (try (refine gate_guard (by rfl) ?_; dsimp only)); refine boxE (N := 3) rfl (cs := #[.int .i64 bU, .int .i64 bG, .int .i64 bI, .int .i64 bB, .int .i64 bJ, .int .i64 bK, .int .i64 bL, .int .i64 bM, .int .i64 bN, .string bO]) (t := 38) ?_; intro cT hg EN hbox hb; have tA := aM (xge hg); have tB := aM (xge hg); replace HB := xbs hb; have aN := nblt aC hg; have aQ := nbgt aC hg; replace aC := xbb aC hb; have aA := aM (hbox); clear hb hbox hg) | ((with_reducible refine gD 4 rfl ?_); (try (refine gate_guard (by rfl) ?_; dsimp only)); refine boxE (N := 4) rfl (cs := #[.int .i64 0, .int .i64 0, .slice none 0 0]) (t := 28) ?_; intro cA hg zI hbox hb; have tC := aM (xge hg); have tD := aM (xge hg); replace HB := xbs hb; have aR := nblt aC hg; have aT := nbgt aC hg; have aI := nblt aA hg; have aJ := nbgt aA hg; replace aC := xbb aC hb; replace aA := xbb aA hb; have aW := aM (hbox); clear hb hbox hg; have zJ := aN.out; have zK := aQ.out; have zL := aR.out; have zM := aT.out; obtain ⟨vZ, wA, wB, wC, wD, wE⟩ := xf3 (w := zI) aC) | ((with_reducible refine gC 65 rfl ?_); refine goesLY (some 9) rfl Try.func65 #[.agg #[.int .i64 aH, .int .i64 aK, .slice cB aE.length cC]] ?_; (with_reducible refine (spec_HardOk.calls k aH aK _ _ aE false _ ?side1 ?side2 A3.out).mono ?_); (case side1 => exact xcb cG); (case side2 => exact cH.out); rintro e zN ⟨rfl, hb⟩; refine ⟨_, rfl, ?_⟩; replace aC := xbb aC hb; replace aA := xbb aA hb; replace aW := xbb aW hb; replace HB := xbs hb; (try clear hb); have zO := aJ.out; have zP := aI.out; obtain ⟨wF, wG, wH, wI, wJ, wK⟩ := xf3 (w := zN) aW))
  refine bodyPost_ret (results_ct rfl _ _ cA 28 #[.int .i64 0, .int .i64 0, .slice none 0 0] (0, 0) _ rfl xP Try.underlying28 rfl (by kernel_rfl)) rfl ?_; exact ⟨_, xerr, by first | exact Kd.R_nil _ _ _ _ _ | exact Kd.N_nil _ _ _ _ _ | exact Kd.V_nil _ _ _ _ _ | exact Kd.Q_nil _ _ _ _ _ | exact Kd.S_nil _ _ _ _ _, xbg⟩

end Go.Proofs.Ytocpomkfilpflaa.QFnExactHardLoad
