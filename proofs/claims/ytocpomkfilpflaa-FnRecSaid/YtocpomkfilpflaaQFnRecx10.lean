-- A walk, by a program of this session.
import Derived.Test.YtocpomkfilpflaaQFnRecx0
import Derived.Test.YtocpomkfilpflaaQFnRecx8
import Derived.Test.YtocpomkfilpflaaQFnRecx9
namespace Go.Proofs.Ytocpomkfilpflaa.QFnRec
open Go.RowKit Go.Proofs.YtocpomkfilpflaaW.PrintWords Go.Proofs.YtocpomkfilpflaaW.PrintLast Go.Proofs.YtocpomkfilpflaaW.PrintMore
attribute [local go_sem] max2_int min2_int max_two min_two max_three min_three max_four min_four   -- for this text's walks alone
set_option linter.unusedVariables false
set_option linter.unusedSimpArgs false

theorem u10_0 {p : Prop} (h : p := by first | rfl | (simp; done) | (simp [*]; done)) : p := h
theorem u10_1 {p : Prop} (h : p := by first | omega | exact Nat.le_refl _) : p := h
theorem u10_2 {p : Prop} (h : p := by first | (rw [hY]; with_reducible exact H) | (have H2_ := oS H; rw [hY]; with_reducible exact H2_) | (have H2_ := oS H; with_reducible exact H2_) | with_reducible exact H | (rw [hY]; exact H) | exact H) : p := h
theorem u10_3 {p : Prop} (h : p := by (with_reducible repeat (first | apply Kd.R_alloc | apply Kd.R_drewN | apply Kd.R_drew)); exact bE.out) : p := h
/-! ### spec_HardApply: function 33 -/
def spec_HardApply.j0 : Nat → Bool → Int → Int → List (S36) → Int → Int → List (S36) → Option (Int × Int × (List (S36)) × Bool)
 | 0, _, _, _, _, _, _, _ => none
 | k + 1, x7, cJ, cK, cL, cM, cN, cO => if x7 = true then ((spec_HardOk.f k cM cN cO).bind fun sM => (if sM = true then (some (cM, cN, cO, true)) else ((spec_l6Copy.f cJ cK cL).bind fun cX => (some (cX.1, cX.2.1, cX.2.2, false))))) else ((spec_l6Copy.f cJ cK cL).bind fun cY => (some (cY.1, cY.2.1, cY.2.2, false)))
def spec_HardApply.f (k : Nat) (aH : Int) (aK : Int) (aE : List (S36)) (bU : Int) (bG : Int) (bI : Int) (bB : Int) (bJ : Int) (bK : Int) (bL : Int) (bM : Int) (bN : Int) (bO : ByteArray) : Option (Int × Int × (List (S36)) × Bool) := (spec_HardOk.f k aH aK aE).bind fun cZ => (if cZ = true then ((spec_l6Copy.f aH aK aE).bind fun aD => ((spec_RecOk.f k bU bG bI bB bJ bK bL bM bN bO).bind fun bV => (if bU = 1 then (if bV = true then (if bG > aH then (spec_HardApply.j0 k true aH aK aE bG bI aD.2.2) else (if bG = aH then (if aK = 0 then (spec_HardApply.j0 k true aH aK aE bG bI aD.2.2) else (spec_HardApply.j0 k (aK == bI) aH aK aE bG bI aD.2.2)) else (spec_HardApply.j0 k false aH aK aE bG bI aD.2.2))) else (spec_HardApply.j0 k false aH aK aE bG bI aD.2.2)) else (if bU = 2 then (if bV = true then (if aD.2.2.length < 2513169434916 then (spec_HardApply.j0 k (bB == (wrap64 ((aE.length : Int) + 1))) aH aK aE aD.1 aD.2.1 (aD.2.2 ++ [(⟨bJ, (⟨bK, bL, bM, bN, bO⟩ : S34)⟩ : S36)])) else (none)) else (if aD.2.2.length < 2513169434916 then (spec_HardApply.j0 k false aH aK aE aD.1 aD.2.1 (aD.2.2 ++ [(⟨bJ, (⟨bK, bL, bM, bN, bO⟩ : S34)⟩ : S36)])) else (none))) else (if bU = 3 then (if bV = true then (if bB ≤ (aE.length : Int) then (if 0 ≤ bB then (if bB ≤ (aD.2.2.length : Int) then (spec_HardApply.j0 k (decide (bB ≤ (aE.length : Int))) aH aK aE aD.1 aD.2.1 (aD.2.2.take (bB : Int).toNat)) else (none)) else (none)) else (spec_HardApply.j0 k (decide (bB ≤ (aE.length : Int))) aH aK aE aD.1 aD.2.1 aD.2.2)) else (spec_HardApply.j0 k false aH aK aE aD.1 aD.2.1 aD.2.2)) else (spec_HardApply.j0 k bV aH aK aE aD.1 aD.2.1 aD.2.2)))))) else (some (0, 0, ([] : List (S36)), false)))
theorem u10_mq0 {p : Prop} (h : p := by repeat' first | (with_reducible first | exact zR _ _ _ _ _ _ _ | exact spec_HardOk.mono _ _ _ _ | exact spec_RecOk.mono _ _ _ _ _ _ _ _ _ _ _ | exact LeO.refl _ | exact LeO.none _ | refine LeO.ite ?_ ?_ | refine LeO.bind ?_ (fun _ => ?_)) | exact LeO.none _ | refine LeO.ite ?_ ?_ | refine LeO.bind ?_ (fun _ => ?_)) : p := h
set_option maxRecDepth 100000 in
theorem spec_HardApply.mono_l : ∀ k, (∀ y0 y1 y2 y3 y4 y5 y6, LeO (spec_HardApply.j0 k y0 y1 y2 y3 y4 y5 y6) (spec_HardApply.j0 (k + 1) y0 y1 y2 y3 y4 y5 y6))
 | 0 => fun _ _ _ _ _ _ _ r h => by simp [spec_HardApply.j0] at h
 | k + 1 => by
  have zR := spec_HardApply.mono_l k
  ·intro y0 y1 y2 y3 y4 y5 y6; unfold spec_HardApply.j0; exact u10_mq0
theorem spec_HardApply.mono : ∀ a0 a1 a2 a3 a4 a5 a6 a7 a8 a9 wN wO wP k, LeO (spec_HardApply.f k a0 a1 a2 a3 a4 a5 a6 a7 a8 a9 wN wO wP) (spec_HardApply.f (k + 1) a0 a1 a2 a3 a4 a5 a6 a7 a8 a9 wN wO wP) := by
 intro a0 a1 a2 a3 a4 a5 a6 a7 a8 a9 wN wO wP k
 have zR := spec_HardApply.mono_l k
 unfold spec_HardApply.f
 exact u10_mq0
set_option maxHeartbeats 8000000 in
set_option maxRecDepth 100000 in
theorem spec_HardApply.calls (k : Nat) (aH : Int) (aK : Int) (cB : Option Addr) (cC : Nat) (aE : List (S36)) (bU : Int) (bG : Int) (bI : Int) (bB : Int) (bJ : Int) (bK : Int) (bL : Int) (bM : Int) (bN : Int) (bO : ByteArray) (r1 : Int) (r2 : Int) (r3 : List (S36)) (r4 : Bool) (w : World) (rU : Kd.C k36 w cB aE.length aE) (rV : aE.length ≤ cC) (h : spec_HardApply.f k aH aK aE bU bG bI bB bJ bK bL bM bN bO = some (r1, r2, r3, r4)) :
 Calls Try.prog 33 #[.agg #[.int .i64 aH, .int .i64 aK, .slice cB aE.length cC], .agg #[.int .i64 bU, .int .i64 bG, .int .i64 bI, .int .i64 bB, .int .i64 bJ, .int .i64 bK, .int .i64 bL, .int .i64 bM, .int .i64 bN, .string bO]] w fun e w' => ∃ v2_ : Value, e = .returned (.tuple #[.agg #[.int .i64 r1, .int .i64 r2, v2_], .bool r4]) ∧ Kd.R k36 36 w' w.heap.size (fun _ => True) v2_ r3 ∧ Below w.heap.size w w' := by
 have DR := Try.underlying28
 have DS := Try.underlying38
 have DT := Try.underlying36
 have cG := aM rU
 have cH := aM rV
 clear rU rV
 have HB := aM (Below.refl w.heap.size w)
 have H : ((spec_HardOk.f k aH aK aE).bind fun cZ => (if cZ = true then ((spec_l6Copy.f aH aK aE).bind fun aD => ((spec_RecOk.f k bU bG bI bB bJ bK bL bM bN bO).bind fun bV => (if bU = 1 then (if bV = true then (if bG > aH then (spec_HardApply.j0 k true aH aK aE bG bI aD.2.2) else (if bG = aH then (if aK = 0 then (spec_HardApply.j0 k true aH aK aE bG bI aD.2.2) else (spec_HardApply.j0 k (aK == bI) aH aK aE bG bI aD.2.2)) else (spec_HardApply.j0 k false aH aK aE bG bI aD.2.2))) else (spec_HardApply.j0 k false aH aK aE bG bI aD.2.2)) else (if bU = 2 then (if bV = true then (if aD.2.2.length < 2513169434916 then (spec_HardApply.j0 k (bB == (wrap64 ((aE.length : Int) + 1))) aH aK aE aD.1 aD.2.1 (aD.2.2 ++ [(⟨bJ, (⟨bK, bL, bM, bN, bO⟩ : S34)⟩ : S36)])) else (none)) else (if aD.2.2.length < 2513169434916 then (spec_HardApply.j0 k false aH aK aE aD.1 aD.2.1 (aD.2.2 ++ [(⟨bJ, (⟨bK, bL, bM, bN, bO⟩ : S34)⟩ : S36)])) else (none))) else (if bU = 3 then (if bV = true then (if bB ≤ (aE.length : Int) then (if 0 ≤ bB then (if bB ≤ (aD.2.2.length : Int) then (spec_HardApply.j0 k (decide (bB ≤ (aE.length : Int))) aH aK aE aD.1 aD.2.1 (aD.2.2.take (bB : Int).toNat)) else (none)) else (none)) else (spec_HardApply.j0 k (decide (bB ≤ (aE.length : Int))) aH aK aE aD.1 aD.2.1 aD.2.2)) else (spec_HardApply.j0 k false aH aK aE aD.1 aD.2.1 aD.2.2)) else (spec_HardApply.j0 k bV aH aK aE aD.1 aD.2.1 aD.2.2)))))) else (some (0, 0, ([] : List (S36)), false)))) = some (r1, r2, r3, r4) := h
 clear h
 replace H := oB H
 obtain ⟨cZ, zS, H⟩ := H
 (try dsimp only at H)
 have A3 := aM zS
 clear zS
 by_cases c4 : cZ = true
 ·subst c4; replace H := iT H; replace H := oB H; obtain ⟨⟨bY, bZ, bH⟩, zT, H⟩ := H; (try dsimp only at H); have A5 := aM zT; clear zT
  replace H := oB H; obtain ⟨bV, zU, H⟩ := H; (try dsimp only at H); have A6 := aM zU; clear zU; have wQ := aM H; clear H
  go_enter Try.func33, Try.ntmps33
  go_upto_block 0 with (first | ((with_reducible refine gD 2 rfl ?_); (try (refine gate_guard (by rfl) ?_; dsimp only)); refine boxE (N := 2) rfl (cs := #[.int .i64 aH, .int .i64 aK, .slice cB aE.length cC]) (t := 28) ?_; intro cP hg w8 hbox hb; have aC := aM (hbox); have sZ := aM (xge hg); have tA := aM (xge hg); replace HB := xbs hb; clear hb hbox hg) | ((with_reducible refine gD 3 rfl ?_); (try (refine gate_guard (by rfl) ?_; dsimp only)); refine boxE (N := 3) rfl (cs := #[.int .i64 bU, .int .i64 bG, .int .i64 bI, .int .i64 bB, .int .i64 bJ, .int .i64 bK, .int .i64 bL, .int .i64 bM, .int .i64 bN, .string bO]) (t := 38) ?_; intro cQ hg w9 hbox hb; have tB := aM (xge hg); have tC := aM (xge hg); replace HB := xbs hb; have aN := nblt aC hg; have aQ := nbgt aC hg; replace aC := xbb aC hb; have aA := aM (hbox); clear hb hbox hg) | ((with_reducible refine gD 4 rfl ?_); (try (refine gate_guard (by rfl) ?_; dsimp only)); refine boxE (N := 4) rfl (cs := #[.int .i64 0, .int .i64 0, .slice none 0 0]) (t := 28) ?_; intro cA hg DU hbox hb; have tD := aM (xge hg); have tE := aM (xge hg); replace HB := xbs hb; have aR := nblt aC hg; have aT := nbgt aC hg; have aI := nblt aA hg; have aJ := nbgt aA hg; replace aC := xbb aC hb; replace aA := xbb aA hb; have aW := aM (hbox); clear hb hbox hg; have zV := aN.out; have zW := aQ.out; have zX := aR.out; have zY := aT.out; obtain ⟨fS, fT, fU, fV, fW, fX⟩ := xf3 (w := DU) aC) | ((with_reducible refine gC 65 rfl ?_); refine goesLY (some 9) rfl Try.func65 #[.agg #[.int .i64 aH, .int .i64 aK, .slice cB aE.length cC]] ?_; (with_reducible refine (spec_HardOk.calls k aH aK _ _ aE true _ ?side1 ?side2 A3.out).mono ?_); (case side1 => exact xcb cG); (case side2 => exact cH.out); rintro e DV ⟨rfl, hb⟩; refine ⟨_, rfl, ?_⟩; replace aC := xbb aC hb; replace aA := xbb aA hb; replace aW := xbb aW hb; replace HB := xbs hb; (try clear hb); obtain ⟨fY, fZ, gA, gB, gE, gF⟩ := xf3 (w := DV) aC) | ((with_reducible refine gC 66 rfl ?_); refine goesLY (some 13) rfl Try.func66 #[.agg #[.int .i64 aH, .int .i64 aK, .slice cB aE.length cC]] ?_; (with_reducible refine (spec_l6Copy.calls aH aK _ _ aE bY bZ bH _ ?side1 ?side2 A5.out).mono ?_); (case side1 => exact xcb cG); (case side2 => exact cH.out); rintro e EL ⟨v425, rfl, fR, hb⟩; refine ⟨_, rfl, ?_⟩; have bE := aM (Kd.R_lower fR (below_size xbg)); replace aC := xbb aC hb; replace aA := xbb aA hb; replace aW := xbb aW hb; replace HB := xbs hb; (try clear hb fR)) | ((with_reducible refine gD 6 rfl ?_); (try (refine gate_guard (by rfl) ?_; dsimp only)); refine boxE (N := 6) rfl (cs := #[.int .i64 0, .int .i64 0, .slice none 0 0]) (t := 28) ?_; intro cS hg zZ hbox hb; replace bE := xrb bE hb; have AA := aM (xge hg); have AB := aM (xge hg); replace HB := xbs hb; have aU := nblt aC hg; have aV := nbgt aC hg; have aX := nblt aA hg; have aY := nbgt aA hg; have aZ := nblt aW hg; have bA := nbgt aW hg; replace aC := xbb aC hb; replace aA := xbb aA hb; replace aW := xbb aW hb; have bC := aM (hbox); clear hb hbox hg; have AC := aV.out; have AD := aU.out; have AE := aY.out; have AF := aX.out; have AG := bA.out; have AH := aZ.out; obtain ⟨gG, gH, gI, gJ, gK, gL⟩ := xf3 (w := zZ) bC; obtain ⟨bW, bX, wR⟩ := Kd.R_slice bE.out; subst wR; have AJ := aI.out; have AK := aJ.out; obtain ⟨gM, gN, gO, gP, gQ, gR, gS, gT, gU, gV, gW, gX, gY, gZ, hJ, hU, hX, hZ, iA, iB⟩ := xf10 (w := zZ) aA) | ((with_reducible refine gC 15 rfl ?_); refine goesLY (some 15) rfl Try.func15 #[.agg #[.int .i64 bU, .int .i64 bG, .int .i64 bI, .int .i64 bB, .int .i64 bJ, .int .i64 bK, .int .i64 bL, .int .i64 bM, .int .i64 bN, .string bO]] ?_; (with_reducible refine (spec_RecOk.calls k bU bG bI bB bJ bK bL bM bN bO bV _ A6.out).mono ?_); rintro e cD ⟨rfl, hb⟩; refine ⟨_, rfl, ?_⟩; replace bE := xrB bE hb; replace aC := xbc aC hb; replace aA := xbc aA hb; replace aW := xbc aW hb; replace bC := aM (blk_below (g := cS) (o := .cells #[.int .i64 bY, .int .i64 bZ, .slice bW bH.length bX] 28 (0, 0)) xP hb); replace HB := xbs hb; (try clear hb); obtain ⟨iC, iD, iE, iF, iG, iH, iI, iJ, iK, iL, iM, iO, iP, iQ, iR, iS, iU, iV, iW, iX⟩ := xf10 (w := cD) aA))
  (try simp only [Act.put, List.setIfInBounds_toArray, List.set_cons_zero, List.set_cons_succ]); go_cut [7] (fun v7 wc => ∃ (kq : Nat) (iY : Bool) (bP : Int) (bQ : Int) (bR : List (S36)) (cF : Value), v7 = .bool iY ∧ Aside0 (spec_HardApply.j0 kq iY aH aK aE bP bQ bR = some (r1, r2, r3, r4)) ∧ Aside0 (kq ≤ k) ∧ Aside0 (Kd.R k36 36 wc w.heap.size (fun _ => True) cF bR) ∧ Aside0 (wc.heap[cP]? = some (.cells #[.int .i64 aH, .int .i64 aK, (.slice cB aE.length cC)] 28 (0, 0))) ∧ Aside0 (wc.heap[cQ]? = some (.cells #[.int .i64 bU, .int .i64 bG, .int .i64 bI, .int .i64 bB, .int .i64 bJ, .int .i64 bK, .int .i64 bL, .int .i64 bM, .int .i64 bN, .string bO] 38 (0, 0))) ∧ Aside0 (wc.heap[cA]? = some (.cells #[.int .i64 0, .int .i64 0, (.slice none 0 0)] 28 (0, 0))) ∧ Aside0 (wc.heap[cS]? = some (.cells #[.int .i64 bP, .int .i64 bQ, cF] 28 (0, 0))) ∧ Aside0 (Below w.heap.size w wc))
  case first =>
   have H := wQ.out; clear wQ; by_cases sV : bU = 1
   ·rw [if_pos sV] at H; obtain ⟨cE, rW⟩ := bT sV; clear sV; (first | rw [cE] | (simp only [i64_w, i32_w]; rw [cE]) | skip); by_cases tF : bV = true
    ·subst tF; replace H := iT H; by_cases sN : bG > aH
     ·rw [if_pos sN] at H; have rX : decide (aH < bG) = true := decide_eq_true sN; clear sN; have H' := aM H; clear H; have AL := aQ.out; have AM := aN.out; have AN := aI.out; have AO := aJ.out; have AP := aX.out; have AQ := aY.out; obtain ⟨iZ, jA, jB, jC, jD, jE, jF, jG, jH, jI, jJ, jK, jL, jM, jN, jO, jP, jQ, jR, jS⟩ := xf10 (w := cD) aA; have AR := aR.out; have AS := aT.out; have AT := aU.out; have AU := aV.out; obtain ⟨jT, jU, jV, jW, jX, jY⟩ := xf3 (w := cD) aC; have AV := bA.out; have AW := aZ.out; obtain ⟨jZ, kA, kB, kC, kE, kF⟩ := xf3 (w := cD) bC; go_wp2; go_meet
      case rel => exact ⟨_, (true), (bG), (bI), (bH), (.slice bW bH.length bX), u10_0, H', ⟨u10_1⟩, ⟨xrm bE (fun _ _ => trivial)⟩, ⟨xB⟩, ⟨xB⟩, ⟨xB⟩, ⟨xP⟩, ⟨xbg⟩⟩
     ·rw [if_neg sN] at H; have rX : decide (aH < bG) = false := decide_eq_false sN; clear sN; by_cases sW : bG = aH
      ·rw [if_pos sW] at H; obtain ⟨rY, rZ⟩ := bT sW; clear sW; by_cases sX : aK = 0
       ·rw [if_pos sX] at H; obtain ⟨sA, sB⟩ := bT sX; clear sX; have H' := aM H; clear H; have AX := aQ.out; have AY := aN.out; have AZ := aI.out; have BA := aJ.out; have BB := aX.out; have BC := aY.out; obtain ⟨kG, kH, kI, kJ, kK, kL, kM, kN, kO, kP, kQ, kR, kS, kT, kU, kV, kW, kX, kY, kZ⟩ := xf10 (w := cD) aA; have BD := aR.out; have BE := aT.out; have BF := aU.out; have BG := aV.out; obtain ⟨lA, lB, lC, lE, lF, lG⟩ := xf3 (w := cD) aC; have BH := bA.out; have BI := aZ.out; obtain ⟨lH, lI, lJ, lK, lL, lM⟩ := xf3 (w := cD) bC; go_wp2; go_meet
        case rel => exact ⟨_, (true), (bG), (bI), (bH), (.slice bW bH.length bX), u10_0, H', ⟨u10_1⟩, ⟨xrm bE (fun _ _ => trivial)⟩, ⟨xB⟩, ⟨xB⟩, ⟨xB⟩, ⟨xP⟩, ⟨xbg⟩⟩
       ·rw [if_neg sX] at H; obtain ⟨sA, sB⟩ := bF sX; have H' := aM H; clear H; have BJ := aQ.out; have BK := aN.out; have BL := aI.out; have BM := aJ.out; have BN := aX.out; have BO := aY.out; obtain ⟨lN, lO, lP, lQ, lR, lS, lT, lU, lV, lW, lX, lY, lZ, mA, mB, mC, mD, mE, mF, mG⟩ := xf10 (w := cD) aA; have BP := aR.out; have BQ := aT.out; have BR := aU.out; have BS := aV.out; obtain ⟨mH, mI, mJ, mK, mL, mM⟩ := xf3 (w := cD) aC; have BT := bA.out; have BU := aZ.out; obtain ⟨mN, mO, mP, mQ, mR, mS⟩ := xf3 (w := cD) bC; go_wp2; go_meet
        case rel => exact ⟨_, ((aK == bI)), (bG), (bI), (bH), (.slice bW bH.length bX), u10_0, H', ⟨u10_1⟩, ⟨xrm bE (fun _ _ => trivial)⟩, ⟨xB⟩, ⟨xB⟩, ⟨xB⟩, ⟨xP⟩, ⟨xbg⟩⟩
      ·rw [if_neg sW] at H; obtain ⟨rY, rZ⟩ := bF sW; have H' := aM H; clear H; have BV := aQ.out; have BW := aN.out; have BX := aI.out; have BZ := aJ.out; have CA := aX.out; have CB := aY.out; obtain ⟨mT, mU, mV, mW, mX, mY, mZ, nA, nB, nC, nD, nE, nF, nG, nH, nI, nJ, nK, nL, nM⟩ := xf10 (w := cD) aA; have CC := aR.out; have CD := aT.out; have CE := aU.out; have CF := aV.out; obtain ⟨nN, nO, nP, nQ, nR, nS⟩ := xf3 (w := cD) aC; have CG := bA.out; have CH := aZ.out; obtain ⟨nT, nU, nV, nW, nX, nY⟩ := xf3 (w := cD) bC; go_wp2; go_meet
       case rel => exact ⟨_, (false), (bG), (bI), (bH), (.slice bW bH.length bX), u10_0, H', ⟨u10_1⟩, ⟨xrm bE (fun _ _ => trivial)⟩, ⟨xB⟩, ⟨xB⟩, ⟨xB⟩, ⟨xP⟩, ⟨xbg⟩⟩
    ·replace tF := Bool.eq_false_iff.mpr tF; subst tF; replace H := iN H; have H' := aM H; clear H; have CI := aQ.out; have CJ := aN.out; have CK := aI.out; have CL := aJ.out; have CM := aX.out; have CN := aY.out; obtain ⟨nZ, oA, oC, oD, oE, oF, oG, oH, oI, oJ, oK, oL, oM, oO, oP, oQ, oR, oT, oU, oV⟩ := xf10 (w := cD) aA; have CO := aV.out; have CP := aU.out; have CQ := bA.out; have CR := aZ.out; obtain ⟨oW, oX, oY, oZ, pA, pB⟩ := xf3 (w := cD) bC; go_wp2; go_meet
     case rel => exact ⟨_, (false), (bG), (bI), (bH), (.slice bW bH.length bX), u10_0, H', ⟨u10_1⟩, ⟨xrm bE (fun _ _ => trivial)⟩, ⟨xB⟩, ⟨xB⟩, ⟨xB⟩, ⟨xP⟩, ⟨xbg⟩⟩
   ·rw [if_neg sV] at H; obtain ⟨cE, rW⟩ := bF sV; (first | rw [cE] | (simp only [i64_w, i32_w]; rw [cE]) | skip); by_cases sY : bU = 2
    ·rw [if_pos sY] at H; obtain ⟨sC, sD⟩ := bT sY; clear sY; by_cases tG : bV = true
     ·subst tG; replace H := iT H; by_cases tH : bH.length < 2513169434916
      ·rw [if_pos tH] at H; have LMc77 := aM tH; clear tH; obtain ⟨sO, hY⟩ : ∃ y_ : List (S36), y_ = (bH ++ [(⟨bJ, (⟨bK, bL, bM, bN, bO⟩ : S34)⟩ : S36)]) := ⟨_, rfl⟩; replace H : (spec_HardApply.j0 k (bB == (wrap64 ((aE.length : Int) + 1))) aH aK aE bY bZ sO) = some (r1, r2, r3, r4) := u10_2; have tI := aM hY; clear hY; have H' := aM H; clear H; have CS := aQ.out; have CT := aN.out; have CU := aI.out; have CV := aJ.out; have CW := aX.out; have CX := aY.out; obtain ⟨pC, pD, pE, pF, pG, pH, pI, pJ, pK, pL, pM, pN, pO, pP, pQ, pR, pS, pT, pW, pX⟩ := xf10 (w := cD) aA; have CY := aR.out; have CZ := aT.out; have DA := aU.out; have DB := aV.out; obtain ⟨pY, pZ, qA, qB, qC, qD⟩ := xf3 (w := cD) aC; have DC := bA.out; have DD := aZ.out; obtain ⟨qE, qF, qG, qH, qI, qJ⟩ := xf3 (w := cD) bC; go_wp2_with (first | ((with_reducible refine gate_builtin (b := .append) (xs := #[.tmp 66, .tmp 69]) rfl ?_); (try (refine gate_guard (by rfl) ?_; dsimp only)); at_builtin; refine Kd.R_append k36 (w0 := w) w.heap.size rfl (.tmp 66) (.tmp 69) 26 36 (.agg #[(.int .i64 0), (.int .i64 0), (.int .i64 0), (.int .i64 0), (.int .i64 0), (.string ⟨#[]⟩)]) 56 rfl Try.underlying26 info36 rfl (by decide) (by omega) (.slice bW bH.length bX) bH (⟨bJ, (⟨bK, bL, bM, bN, bO⟩ : S34)⟩ : S36) [.int .i64 bJ, .int .i64 bK, .int .i64 bL, .int .i64 bM, .int .i64 bN, .string bO] (fun _ => True) (fun _ => False) rfl rfl ?aP (fun _ hk => hk.elim) ?aF ?aO ?aB ?aS ?aL ?_; (case aP => exact k36_mkM _ _ _ (⟨bJ, (⟨bK, bL, bM, bN, bO⟩ : S34)⟩ : S36)); (case aB => exact xbg); (case aF => exact (fun _ _ => trivial)); (case aO => exact (xr bE)); (case aS => exact (below_size xbg)); (case aL => have := LMc77.out; omega); intro v430 DW ho hb hg hat; rw [← tI.out] at ho; replace aC := aM (blk_grown (g := cP) (o := .cells #[.int .i64 aH, .int .i64 aK, .slice cB aE.length cC] 28 (0, 0)) xblk hg (Kd.R_ne bE.out aC.out (by decide))); replace aA := aM (blk_grown (g := cQ) (o := .cells #[.int .i64 bU, .int .i64 bG, .int .i64 bI, .int .i64 bB, .int .i64 bJ, .int .i64 bK, .int .i64 bL, .int .i64 bM, .int .i64 bN, .string bO] 38 (0, 0)) xblk hg (Kd.R_ne bE.out aA.out (by decide))); replace aW := aM (blk_grown (g := cA) (o := .cells #[.int .i64 0, .int .i64 0, .slice none 0 0] 28 (0, 0)) xblk hg (Kd.R_ne bE.out aW.out (by decide))); replace bC := aM (blk_grown (g := cS) (o := .cells #[.int .i64 bY, .int .i64 bZ, .slice bW bH.length bX] 28 (0, 0)) xblk hg (Kd.R_ne bE.out bC.out (by decide))); replace HB := aM (hb); have sE := aM (ho); clear bE; clear ho hb hg hat; obtain ⟨wS, wT, wU⟩ := Kd.R_slice sE.out; subst wU; obtain ⟨qK, qL, qM, qN, qO, qP⟩ := xf3 (w := DW) bC))
       go_meet
       case rel => exact ⟨_, ((bB == (wrap64 ((aE.length : Int) + 1)))), (bY), (bZ), (sO), (.slice wS sO.length wT), u10_0, H', ⟨u10_1⟩, ⟨xrm sE (fun _ _ => trivial)⟩, ⟨xB⟩, ⟨xB⟩, ⟨xB⟩, ⟨xP⟩, ⟨xbg⟩⟩
      ·rw [if_neg tH] at H; exact absurd H (by simp)
     ·replace tG := Bool.eq_false_iff.mpr tG; subst tG; replace H := iN H; by_cases tJ : bH.length < 2513169434916
      ·rw [if_pos tJ] at H; have LMc90 := aM tJ; clear tJ; obtain ⟨sP, hY⟩ : ∃ y_ : List (S36), y_ = (bH ++ [(⟨bJ, (⟨bK, bL, bM, bN, bO⟩ : S34)⟩ : S36)]) := ⟨_, rfl⟩; replace H : (spec_HardApply.j0 k false aH aK aE bY bZ sP) = some (r1, r2, r3, r4) := u10_2; have tL := aM hY; clear hY; have H' := aM H; clear H; have DE := aV.out; have DF := aU.out; have DG := aY.out; have DH := aX.out; have DI := bA.out; have DJ := aZ.out; obtain ⟨qQ, qR, qS, qT, qU, qV⟩ := xf3 (w := cD) bC; have DK := aQ.out; have DL := aN.out; have DM := aI.out; have DN := aJ.out; obtain ⟨qW, qX, qY, qZ, rA, rB, rC, rE, rF, rG⟩ := xe10 (w := cD) aA; have rH := blk_frozen aA.out 0; have rI := blk_frozen aA.out 1; have rJ := blk_frozen aA.out 2; have rK := blk_frozen aA.out 3; have rL := blk_frozen aA.out 4; have rM := blk_frozen aA.out 5; have rN := blk_frozen aA.out 6; have rO := blk_frozen aA.out 7; have rP := blk_frozen aA.out 8; have rQ := blk_frozen aA.out 9; go_wp2_with (first | ((with_reducible refine gate_builtin (b := .append) (xs := #[.tmp 66, .tmp 69]) rfl ?_); (try (refine gate_guard (by rfl) ?_; dsimp only)); at_builtin; refine Kd.R_append k36 (w0 := w) w.heap.size rfl (.tmp 66) (.tmp 69) 26 36 (.agg #[(.int .i64 0), (.int .i64 0), (.int .i64 0), (.int .i64 0), (.int .i64 0), (.string ⟨#[]⟩)]) 56 rfl Try.underlying26 info36 rfl (by decide) (by omega) (.slice bW bH.length bX) bH (⟨bJ, (⟨bK, bL, bM, bN, bO⟩ : S34)⟩ : S36) [.int .i64 bJ, .int .i64 bK, .int .i64 bL, .int .i64 bM, .int .i64 bN, .string bO] (fun _ => True) (fun _ => False) rfl rfl ?aP (fun _ hk => hk.elim) ?aF ?aO ?aB ?aS ?aL ?_; (case aP => exact k36_mkM _ _ _ (⟨bJ, (⟨bK, bL, bM, bN, bO⟩ : S34)⟩ : S36)); (case aB => exact xbg); (case aF => exact (fun _ _ => trivial)); (case aO => exact (xr bE)); (case aS => exact (below_size xbg)); (case aL => have := LMc90.out; omega); intro v433 DX ho hb hg hat; rw [← tL.out] at ho; replace aC := aM (blk_grown (g := cP) (o := .cells #[.int .i64 aH, .int .i64 aK, .slice cB aE.length cC] 28 (0, 0)) xblk hg (Kd.R_ne bE.out aC.out (by decide))); replace aA := aM (blk_grown (g := cQ) (o := .cells #[.int .i64 bU, .int .i64 bG, .int .i64 bI, .int .i64 bB, .int .i64 bJ, .int .i64 bK, .int .i64 bL, .int .i64 bM, .int .i64 bN, .string bO] 38 (0, 0)) xblk hg (Kd.R_ne bE.out aA.out (by decide))); replace aW := aM (blk_grown (g := cA) (o := .cells #[.int .i64 0, .int .i64 0, .slice none 0 0] 28 (0, 0)) xblk hg (Kd.R_ne bE.out aW.out (by decide))); replace bC := aM (blk_grown (g := cS) (o := .cells #[.int .i64 bY, .int .i64 bZ, .slice bW bH.length bX] 28 (0, 0)) xblk hg (Kd.R_ne bE.out bC.out (by decide))); replace HB := aM (hb); have sF := aM (ho); clear bE; clear ho hb hg hat; obtain ⟨wV, wW, wX⟩ := Kd.R_slice sF.out; subst wX; obtain ⟨dA, dB, dC, dD, dE, dF⟩ := xf3 (w := DX) bC))
       go_meet
       case rel => exact ⟨_, (false), (bY), (bZ), (sP), (.slice wV sP.length wW), u10_0, H', ⟨u10_1⟩, ⟨xrm sF (fun _ _ => trivial)⟩, ⟨xB⟩, ⟨xB⟩, ⟨xB⟩, ⟨xP⟩, ⟨xbg⟩⟩
      ·rw [if_neg tJ] at H; exact absurd H (by simp)
    ·rw [if_neg sY] at H; obtain ⟨sC, sD⟩ := bF sY; by_cases cU : bU = 3
     ·rw [if_pos cU] at H; obtain ⟨dG, dH⟩ := bT cU; clear cU; by_cases dI : bV = true
      ·subst dI; replace H := iT H; by_cases cI : bB ≤ (aE.length : Int)
       ·rw [if_pos cI] at H; have dJ : decide (bB ≤ (aE.length : Int)) = true := decide_eq_true cI; clear cI; by_cases cV : 0 ≤ bB
        ·rw [if_pos cV] at H; have sQ := eq_true cV; have sR : decide (0 ≤ bB) = true := decide_eq_true cV; clear cV; by_cases cW : bB ≤ (bH.length : Int)
         ·rw [if_pos cW] at H; have sS := eq_true cW; have sU : decide (bB ≤ (bH.length : Int)) = true := decide_eq_true cW; clear cW; obtain ⟨rR, hY⟩ : ∃ y_ : List (S36), y_ = (bH.take (bB : Int).toNat) := ⟨_, rfl⟩; replace H : (spec_HardApply.j0 k (decide (bB ≤ (aE.length : Int))) aH aK aE bY bZ rR) = some (r1, r2, r3, r4) := u10_2; have sG := aM hY; clear hY; have H' := aM H; clear H; have wY := aQ.out; have wZ := aN.out; have xA := aI.out; have xD := aJ.out; have xE := aX.out; have xF := aY.out; obtain ⟨dK, dL, dM, dN, dO, dP, dQ, dR, dS, dU, dV, dW, dX, dY, dZ, eA, eB, eC, eD, eE⟩ := xf10 (w := cD) aA; have xG := aR.out; have xH := aT.out; have xI := aU.out; have xJ := aV.out; obtain ⟨eF, eG, eH, eI, eJ, eK⟩ := xf3 (w := cD) aC; have xL := bA.out; have xM := aZ.out; obtain ⟨eL, eM, eN, eO, eP, eQ⟩ := xf3 (w := cD) bC; have q115 : (bB : Int) ≤ ((bH.length : Int) : Int) := oda; obtain ⟨i0115, hi0115, _, hsz115, _⟩ := info_parts info36; have hcut115 := cut_to (P := Try.prog) 26 36 .i64 Try.underlying26 hi0115 bW bH.length bX bB (oda) q115 (Kd.R_reads' bE.out).2.1; have cT := Kd.R_take (m := (bB : Int).toNat) bE.out (by omega); have hY : rR.length = (bB : Int).toNat := (by rw [sG.out, List.length_take]; omega); rw [← sG.out] at cT; rw [← hY] at cT hcut115; clear hY hi0115 hsz115 bE; have tM := aM cT; clear cT; replace q115 := eq_true q115; go_wp2; go_meet
          case rel => exact ⟨_, (decide (bB ≤ (aE.length : Int))), (bY), (bZ), (rR), (.slice bW rR.length bX), u10_0, H', ⟨u10_1⟩, ⟨xrm tM (fun _ _ => trivial)⟩, ⟨xB⟩, ⟨xB⟩, ⟨xB⟩, ⟨xP⟩, ⟨xbg⟩⟩
         ·rw [if_neg cW] at H; exact absurd H (by simp)
        ·rw [if_neg cV] at H; exact absurd H (by simp)
       ·rw [if_neg cI] at H; have dJ : decide (bB ≤ (aE.length : Int)) = false := decide_eq_false cI; clear cI; have H' := aM H; clear H; have xN := aQ.out; have xO := aN.out; have xQ := aI.out; have xR := aJ.out; have xS := aX.out; have xT := aY.out; obtain ⟨eR, eS, eT, eU, eV, eW, eX, eY, eZ, fA, fB, fC, fD, fE, fF, fG, fH, fI, fJ, fK⟩ := xf10 (w := cD) aA; have xU := aR.out; have xV := aT.out; have xW := aU.out; have xX := aV.out; obtain ⟨fL, fM, fN, fO, fP, fQ⟩ := xf3 (w := cD) aC; go_wp2; go_meet
        case rel => exact ⟨_, (decide (bB ≤ (aE.length : Int))), (bY), (bZ), (bH), (.slice bW bH.length bX), u10_0, H', ⟨u10_1⟩, ⟨u10_3⟩, ⟨xblk⟩, ⟨xblk⟩, ⟨xblk⟩, ⟨xblk⟩, ⟨xbg⟩⟩
      ·replace dI := Bool.eq_false_iff.mpr dI; subst dI; replace H := iN H; have H' := aM H; clear H; go_wp2; go_meet
       case rel => exact ⟨_, (false), (bY), (bZ), (bH), (.slice bW bH.length bX), u10_0, H', ⟨u10_1⟩, ⟨u10_3⟩, ⟨xblk⟩, ⟨xblk⟩, ⟨xblk⟩, ⟨xblk⟩, ⟨xbg⟩⟩
     ·rw [if_neg cU] at H; obtain ⟨dG, dH⟩ := bF cU; have H' := aM H; clear H; go_wp2; go_meet
      case rel => exact ⟨_, (bV), (bY), (bZ), (bH), (.slice bW bH.length bX), u10_0, H', ⟨u10_1⟩, ⟨u10_3⟩, ⟨xblk⟩, ⟨xblk⟩, ⟨xblk⟩, ⟨xblk⟩, ⟨xbg⟩⟩
  case rest =>
   clear wQ; try clear c1
   try clear q1
   try clear c2
   try clear p2
   try clear c3
   try clear c4
   try clear c5
   try clear c6
   try clear p6
   try clear c7
   try clear c8
   try clear c9
   try clear c10
   try clear EM
   try clear q11
   try clear EN
   try clear EO
   try clear EP
   try clear EQ
   try clear ER
   try clear ES
   try clear sV
   try clear cE
   try clear rW
   try clear tF
   try clear sN
   try clear rX
   try clear ET
   try clear EU
   try clear EV
   try clear EW
   try clear EX
   try clear EY
   try clear EZ
   try clear sW
   try clear rY
   try clear rZ
   try clear sX
   try clear sA
   try clear sB
   try clear FA
   try clear FB
   try clear FC
   try clear FD
   try clear FE
   try clear FF
   try clear FG
   try clear FH
   try clear FI
   try clear FJ
   try clear FL
   try clear FM
   try clear FN
   try clear FO
   try clear FP
   try clear FQ
   try clear FR
   try clear p64
   try clear FS
   try clear FT
   try clear FU
   try clear FV
   try clear FW
   try clear FX
   try clear FY
   try clear sY
   try clear sC
   try clear sD
   try clear tG
   try clear tH
   try clear FZ
   try clear GA
   try clear GB
   try clear GC
   try clear GD
   try clear GE
   try clear tJ
   try clear GF
   try clear GG
   try clear GH
   try clear GI
   try clear GJ
   try clear cU
   try clear dG
   try clear dH
   try clear dI
   try clear cI
   try clear dJ
   try clear cV
   try clear sQ
   try clear sR
   try clear cW
   try clear sS
   try clear sU
   try clear DY
   try clear DZ
   try clear EA
   try clear EB
   try clear EC
   try clear ED
   try clear q115
   try clear EE
   try clear EF
   try clear EG
   try clear EH
   try clear EI
   try clear dA dB dC
   try clear dK dL dM dN dO dP dQ dR dS dU
   try clear eF eG eH
   try clear eL eM eN
   try clear eR eS eT eU eV eW eX eY eZ fA
   try clear fL fM fN
   try clear fS fT fU
   try clear fY fZ gA
   try clear gG gH gI
   try clear gM gN gO gP gQ gR gS gT gU gV
   try clear iC iD iE iF iG iH iI iJ iK iL
   try clear iZ jA jB jC jD jE jF jG jH jI
   try clear jT jU jV
   try clear jZ kA kB
   try clear kG kH kI kJ kK kL kM kN kO kP
   try clear lA lB lC
   try clear lH lI lJ
   try clear lN lO lP lQ lR lS lT lU lV lW
   try clear mH mI mJ
   try clear mN mO mP
   try clear mT mU mV mW mX mY mZ nA nB nC
   try clear nN nO nP
   try clear nT nU nV
   try clear nZ oA oC oD oE oF oG oH oI oJ
   try clear oW oX oY
   try clear pC pD pE pF pG pH pI pJ pK pL
   try clear pY pZ qA
   try clear qE qF qG
   try clear qK qL qM
   try clear qQ qR qS
   try clear qW qX qY qZ rA rB rC rE rF rG
   try clear dD dE dF
   try clear dV dW dX dY dZ eA eB eC eD eE
   try clear eI eJ eK
   try clear eO eP eQ
   try clear fB fC fD fE fF fG fH fI fJ fK
   try clear fO fP fQ
   try clear fV fW fX
   try clear gB gE gF
   try clear gJ gK gL
   try clear gW gX gY gZ hJ hU hX hZ iA iB
   try clear iM iO iP iQ iR iS iU iV iW iX
   try clear jJ jK jL jM jN jO jP jQ jR jS
   try clear jW jX jY
   try clear kC kE kF
   try clear kQ kR kS kT kU kV kW kX kY kZ
   try clear lE lF lG
   try clear lK lL lM
   try clear lX lY lZ mA mB mC mD mE mF mG
   try clear mK mL mM
   try clear mQ mR mS
   try clear nD nE nF nG nH nI nJ nK nL nM
   try clear nQ nR nS
   try clear nW nX nY
   try clear oK oL oM oO oP oQ oR oT oU oV
   try clear oZ pA pB
   try clear pM pN pO pP pQ pR pS pT pW pX
   try clear qB qC qD
   try clear qH qI qJ
   try clear qN qO qP
   try clear qT qU qV
   try clear rH rI rJ rK rL rM rN rO rP rQ
   try clear q115
   obtain ⟨kq, iY, bP, bQ, bR, cF, rfl, HA, HJ6, aG, aC, aA, aW, bC, HB⟩ := hcut; cases kq with
   | zero => exact absurd HA.out (by simp [spec_HardApply.j0])
   | succ DO =>
    have H := HA.out; clear HA; simp only [spec_HardApply.j0] at H; by_cases rS : iY = true
    ·subst rS; replace H := iT H; replace H := oB H; obtain ⟨sM, sH, H⟩ := H; (try dsimp only at H); have tN := aM sH; clear sH
     by_cases rT : sM = true
     ·subst rT; replace H := iT H; simp only [Option.some.injEq, Prod.mk.injEq] at H; obtain ⟨rfl, rfl, rfl, rfl⟩ := H; have xY := aV.out; have xZ := aU.out; have yA := aY.out; have yB := aX.out; have yC := bA.out; have yD := aZ.out; obtain ⟨tO, tP, tQ, tR, tS, tT⟩ := xf3 (w := wc) bC; obtain ⟨tU, tV, tW⟩ := Kd.R_slice aG.out; subst tW; go_wp2_with (first | (go_at_call 65; (with_reducible refine (spec_HardOk.calls DO bP bQ _ _ bR true _ ?side1 ?side2 tN.out).mono ?_); (case side1 => exact xC aG); (case side2 => exact (Kd.R_reads' aG.out).2.1); rintro e tX ⟨rfl, hb⟩; replace aG := xrb aG hb; replace aC := xbb aC hb; replace aA := xbb aA hb; replace aW := xbb aW hb; replace bC := xbb bC hb; replace HB := xbs hb; (try clear hb); obtain ⟨tY, tZ, uA, uB, uC, uD⟩ := xf3 (w := tX) bC; have yE := aT.out; have yF := aR.out; have yG := aJ.out; have yH := aI.out; obtain ⟨uE, uF, uG, uH, uI, uJ⟩ := xf3 (w := tX) aW))
      refine bodyPost_ret (results_ct rfl _ _ cA 28 #[.int .i64 bP, .int .i64 bQ, .slice tU bR.length tV] (0, 0) _ rfl xP Try.underlying28 rfl (by kernel_rfl)) rfl ?_; exact ⟨_, xerr, xrm aG (fun _ _ => trivial), xbg⟩
     ·replace rT := Bool.eq_false_iff.mpr rT; subst rT; replace H := iN H; replace H := oB H; obtain ⟨⟨uK, uL, uM⟩, sI, H⟩ := H; (try dsimp only at H); have yI := aM sI; clear sI
      simp only [Option.some.injEq, Prod.mk.injEq] at H; obtain ⟨rfl, rfl, rfl, rfl⟩ := H; have yJ := aV.out; have yK := aU.out; have yL := aY.out; have yM := aX.out; have yN := bA.out; have yO := aZ.out; obtain ⟨uN, uO, uP, uQ, uR, uS⟩ := xf3 (w := wc) bC; obtain ⟨DP, DQ, uT⟩ := Kd.R_slice aG.out; subst uT; go_wp2_with (first | (go_at_call 65; (with_reducible refine (spec_HardOk.calls DO bP bQ _ _ bR false _ ?side1 ?side2 tN.out).mono ?_); (case side1 => exact xC aG); (case side2 => exact (Kd.R_reads' aG.out).2.1); rintro e yP ⟨rfl, hb⟩; replace aG := xrb aG hb; replace aC := xbb aC hb; replace aA := xbb aA hb; replace aW := xbb aW hb; replace bC := xbb bC hb; replace HB := xbs hb; (try clear hb); have yQ := aN.out; have yR := aQ.out; have yS := aR.out; have yT := aT.out; obtain ⟨uU, uV, uW, uX, uY, uZ⟩ := xf3 (w := yP) aC) | ((with_reducible refine gC 66 rfl ?_); refine goesLY (some 98) rfl Try.func66 #[.agg #[.int .i64 aH, .int .i64 aK, .slice cB aE.length cC]] ?_; (with_reducible refine (spec_l6Copy.calls aH aK _ _ aE uK uL uM _ ?side1 ?side2 yI.out).mono ?_); (case side1 => exact xcb cG); (case side2 => exact cH.out); rintro e yU ⟨v442, rfl, fR, hb⟩; refine ⟨_, rfl, ?_⟩; have sJ := aM (Kd.R_lower (Kd.R_new' fR (Kd.R_lt (xr aG))) (below_size xbg)); replace aG := aM (Kd.R_elder' (xr aG) (Kd.R_base fR) hb); replace aC := xbb aC hb; replace aA := xbb aA hb; replace aW := xbb aW hb; replace bC := xbb bC hb; replace HB := xbs hb; (try clear hb fR); have yV := aJ.out; have yW := aI.out; obtain ⟨vA, vB, vC, vD, vE, vF⟩ := xf3 (w := yU) aW; obtain ⟨vG, vH, vI⟩ := Kd.R_slice sJ.out; subst vI))
      refine bodyPost_ret (results_ct rfl _ _ cA 28 #[.int .i64 uK, .int .i64 uL, .slice vG uM.length vH] (0, 0) _ rfl xP Try.underlying28 rfl (by kernel_rfl)) rfl ?_; exact ⟨_, xerr, xrm sJ (fun _ _ => trivial), xbg⟩
    ·replace rS := Bool.eq_false_iff.mpr rS; subst rS; replace H := iN H; replace H := oB H; obtain ⟨⟨vJ, vK, vL⟩, sK, H⟩ := H; (try dsimp only at H); have yX := aM sK; clear sK
     simp only [Option.some.injEq, Prod.mk.injEq] at H; obtain ⟨rfl, rfl, rfl, rfl⟩ := H; have yY := aN.out; have yZ := aQ.out; have zA := aR.out; have zB := aT.out; have zC := aU.out; have zD := aV.out; obtain ⟨vM, vN, vO, vP, vQ, vR⟩ := xf3 (w := wc) aC; go_wp2_with (first | ((with_reducible refine gC 66 rfl ?_); refine goesLY (some 98) rfl Try.func66 #[.agg #[.int .i64 aH, .int .i64 aK, .slice cB aE.length cC]] ?_; (with_reducible refine (spec_l6Copy.calls aH aK _ _ aE vJ vK vL _ ?side1 ?side2 yX.out).mono ?_); (case side1 => exact xcb cG); (case side2 => exact cH.out); rintro e zE ⟨v447, rfl, fR, hb⟩; refine ⟨_, rfl, ?_⟩; have sL := aM (Kd.R_lower (Kd.R_new' fR (Kd.R_lt (xr aG))) (below_size xbg)); replace aG := aM (Kd.R_elder' (xr aG) (Kd.R_base fR) hb); replace aC := xbb aC hb; replace aA := xbb aA hb; replace aW := xbb aW hb; replace bC := xbb bC hb; replace HB := xbs hb; (try clear hb fR); have zF := aJ.out; have zG := aI.out; have zH := aZ.out; have zI := bA.out; obtain ⟨vS, vT, vU, vV, vW, vX⟩ := xf3 (w := zE) aW; obtain ⟨vY, vZ, wA⟩ := Kd.R_slice sL.out; subst wA))
     refine bodyPost_ret (results_ct rfl _ _ cA 28 #[.int .i64 vJ, .int .i64 vK, .slice vY vL.length vZ] (0, 0) _ rfl xP Try.underlying28 rfl (by kernel_rfl)) rfl ?_; exact ⟨_, xerr, xrm sL (fun _ _ => trivial), xbg⟩
 ·replace c4 := Bool.eq_false_iff.mpr c4; subst c4; replace H := iN H; simp only [Option.some.injEq, Prod.mk.injEq] at H; obtain ⟨rfl, rfl, rfl, rfl⟩ := H; go_enter Try.func33, Try.ntmps33
  go_wp2_with (first | ((with_reducible refine gD 2 rfl ?_); (try (refine gate_guard (by rfl) ?_; dsimp only)); refine boxE (N := 2) rfl (cs := #[.int .i64 aH, .int .i64 aK, .slice cB aE.length cC]) (t := 28) ?_; intro cP hg EJ hbox hb; have aC := aM (hbox); have sZ := aM (xge hg); have tA := aM (xge hg); replace HB := xbs hb; clear hb hbox hg) | ((with_reducible refine gD 3 rfl ?_); (try (refine gate_guard (by rfl) ?_; dsimp only)); refine boxE (N := 3) rfl (cs := #[.int .i64 bU, .int .i64 bG, .int .i64 bI, .int .i64 bB, .int .i64 bJ, .int .i64 bK, .int .i64 bL, .int .i64 bM, .int .i64 bN, .string bO]) (t := 38) ?_; intro cQ hg EK hbox hb; have tB := aM (xge hg); have tC := aM (xge hg); replace HB := xbs hb; have aN := nblt aC hg; have aQ := nbgt aC hg; replace aC := xbb aC hb; have aA := aM (hbox); clear hb hbox hg) | ((with_reducible refine gD 4 rfl ?_); (try (refine gate_guard (by rfl) ?_; dsimp only)); refine boxE (N := 4) rfl (cs := #[.int .i64 0, .int .i64 0, .slice none 0 0]) (t := 28) ?_; intro cA hg zJ hbox hb; have tD := aM (xge hg); have tE := aM (xge hg); replace HB := xbs hb; have aR := nblt aC hg; have aT := nbgt aC hg; have aI := nblt aA hg; have aJ := nbgt aA hg; replace aC := xbb aC hb; replace aA := xbb aA hb; have aW := aM (hbox); clear hb hbox hg; have zK := aN.out; have zL := aQ.out; have zM := aR.out; have zN := aT.out; obtain ⟨wB, wC, wD, wE, wF, wG⟩ := xf3 (w := zJ) aC) | ((with_reducible refine gC 65 rfl ?_); refine goesLY (some 9) rfl Try.func65 #[.agg #[.int .i64 aH, .int .i64 aK, .slice cB aE.length cC]] ?_; (with_reducible refine (spec_HardOk.calls k aH aK _ _ aE false _ ?side1 ?side2 A3.out).mono ?_); (case side1 => exact xcb cG); (case side2 => exact cH.out); rintro e zO ⟨rfl, hb⟩; refine ⟨_, rfl, ?_⟩; replace aC := xbb aC hb; replace aA := xbb aA hb; replace aW := xbb aW hb; replace HB := xbs hb; (try clear hb); have zP := aJ.out; have zQ := aI.out; obtain ⟨wH, wI, wJ, wK, wL, wM⟩ := xf3 (w := zO) aW))
  refine bodyPost_ret (results_ct rfl _ _ cA 28 #[.int .i64 0, .int .i64 0, .slice none 0 0] (0, 0) _ rfl xP Try.underlying28 rfl (by kernel_rfl)) rfl ?_; exact ⟨_, xerr, by first | exact Kd.R_nil _ _ _ _ _ | exact Kd.N_nil _ _ _ _ _ | exact Kd.V_nil _ _ _ _ _ | exact Kd.Q_nil _ _ _ _ _ | exact Kd.S_nil _ _ _ _ _, xbg⟩

end Go.Proofs.Ytocpomkfilpflaa.QFnRec
