-- A walk, by a program of this session.
import Derived.Test.YtoojdlobnbakoaaQFnExactHardSavex0
import Derived.Test.YtoojdlobnbakoaaQFnExactHardSavex1
import Derived.Test.YtoojdlobnbakoaaQFnExactHardSavex2
import Derived.Test.YtoojdlobnbakoaaQFnExactHardSavex8
import Derived.Test.YtoojdlobnbakoaaQFnExactHardSavex9
import Derived.Test.YtoojdlobnbakoaaQFnExactHardSavex10
namespace Go.Proofs.Ytoojdlobnbakoaa.QFnExactHardSave
open Go.RowKit Go.Proofs.YtoojdlobnbakoaaW.PrintWords Go.Proofs.YtoojdlobnbakoaaW.PrintLast Go.Proofs.YtoojdlobnbakoaaW.PrintMore
attribute [local go_sem] max2_int min2_int max_two min_two max_three min_three max_four min_four   -- for this text's walks alone
set_option linter.unusedVariables false
set_option linter.unusedSimpArgs false

attribute [local go_sem high] eqA127 eqA129
theorem u11_0 {p : Prop} (h : p := by first | rfl | (simp; done) | (simp [*]; done)) : p := h
theorem u11_1 {p : Prop} (h : p := by first | omega | exact Nat.le_refl _) : p := h
/-! ### impl_CmdOk: function 196 -/
mutual
def impl_CmdOk.j2 : Nat → Bool → Int → Int → Int → Int → ByteArray → Option (Bool)
 | 0, _, _, _, _, _, _ => none
 | k + 1, x4, bB, bC, bE, bM, bN => if x4 = true then (some (bB == 0 && (bC == 0 && (bE == 0 && (bM == 0 && (bN.toList == ([] : List UInt8))))))) else (some false)
def impl_CmdOk.j0 : Nat → Bool → Int → Int → Int → Int → ByteArray → Option (Bool)
 | 0, _, _, _, _, _, _ => none
 | k + 1, x4, bB, bC, bE, bM, bN => impl_CmdOk.j2 k x4 bB bC bE 0 (⟨#[]⟩ : ByteArray)
def impl_CmdOk.j1 : Nat → Bool → Bool → Int → Int → Int → Int → ByteArray → Option (Bool)
 | 0, _, _, _, _, _, _, _ => none
 | k + 1, x4, wL, bB, bC, bE, bM, bN => if wL = true then (impl_CmdOk.j2 k x4 bB bC bE bM bN) else (some false)
end
def impl_CmdOk.f (k : Nat) (aE : Int) (aG : Int) (aD : Int) (aA : Int) (aC : ByteArray) : Option (Bool) := (impl_isRelease.f aG).bind fun bA => (if aE = 1 then (impl_CmdOk.j2 k (aG == 0) 0 0 aD aA aC) else (if aE = 2 then (if bA = true then ((impl_isSize.f aA).bind fun gP => (if gP = true then (impl_CmdOk.j0 k ((aC.size : Int) == 32) 0 0 aD aA aC) else (impl_CmdOk.j0 k false 0 0 aD aA aC))) else (impl_CmdOk.j0 k false 0 0 aD aA aC)) else (if aE = 3 then (if bA = true then ((impl_isNode.f aD).bind fun gL => (impl_CmdOk.j2 k gL 0 0 0 aA aC)) else (impl_CmdOk.j2 k false 0 0 0 aA aC)) else (if aE = 4 then (impl_CmdOk.j1 k bA (aE == 4) 0 0 aD aA aC) else (impl_CmdOk.j1 k bA (aE == 5) 0 0 aD aA aC)))))
theorem u11_mq0 {p : Prop} (h : p := by repeat' first | (with_reducible first | exact iA _ _ _ _ _ _ | exact tZ _ _ _ _ _ _ | exact uA _ _ _ _ _ _ _ | exact LeO.refl _ | exact LeO.none _ | refine LeO.ite ?_ ?_ | refine LeO.bind ?_ (fun _ => ?_)) | exact iA _ _ _ _ _ _ | exact tZ _ _ _ _ _ _ | exact uA _ _ _ _ _ _ _ | exact LeO.none _ | refine LeO.ite ?_ ?_ | refine LeO.bind ?_ (fun _ => ?_)) : p := h
set_option maxRecDepth 100000 in
theorem impl_CmdOk.mono_l : ∀ k, (∀ y0 y1 y2 y3 y4 y5, LeO (impl_CmdOk.j2 k y0 y1 y2 y3 y4 y5) (impl_CmdOk.j2 (k + 1) y0 y1 y2 y3 y4 y5)) ∧ (∀ y0 y1 y2 y3 y4 y5, LeO (impl_CmdOk.j0 k y0 y1 y2 y3 y4 y5) (impl_CmdOk.j0 (k + 1) y0 y1 y2 y3 y4 y5)) ∧ (∀ y0 y1 y2 y3 y4 y5 y6, LeO (impl_CmdOk.j1 k y0 y1 y2 y3 y4 y5 y6) (impl_CmdOk.j1 (k + 1) y0 y1 y2 y3 y4 y5 y6))
 | 0 => ⟨fun _ _ _ _ _ _ r h => by simp [impl_CmdOk.j2] at h, fun _ _ _ _ _ _ r h => by simp [impl_CmdOk.j0] at h, fun _ _ _ _ _ _ _ r h => by simp [impl_CmdOk.j1] at h⟩
 | k + 1 => by
  obtain ⟨iA, tZ, uA⟩ := impl_CmdOk.mono_l k; refine ⟨?_, ?_, ?_⟩
  ·intro y0 y1 y2 y3 y4 y5; unfold impl_CmdOk.j2; exact u11_mq0
  ·intro y0 y1 y2 y3 y4 y5; unfold impl_CmdOk.j0; exact u11_mq0
  ·intro y0 y1 y2 y3 y4 y5 y6; unfold impl_CmdOk.j1; exact u11_mq0
theorem impl_CmdOk.mono : ∀ a0 a1 a2 a3 a4 k, LeO (impl_CmdOk.f k a0 a1 a2 a3 a4) (impl_CmdOk.f (k + 1) a0 a1 a2 a3 a4) := by
 intro a0 a1 a2 a3 a4 k
 obtain ⟨iA, tZ, uA⟩ := impl_CmdOk.mono_l k
 unfold impl_CmdOk.f
 exact u11_mq0
set_option maxHeartbeats 8000000 in
set_option maxRecDepth 100000 in
theorem impl_CmdOk.calls (k : Nat) (aE : Int) (aG : Int) (aD : Int) (aA : Int) (aC : ByteArray) (r : Bool) (w : World) (h : impl_CmdOk.f k aE aG aD aA aC = some r) :
 Calls Try.prog 196 #[.agg #[.int .i64 aE, .int .i64 aG, .int .i64 aD, .int .i64 aA, .string aC]] w fun e w' => e = .returned (.bool r) ∧ Below w.heap.size w w' := by
 have iW := Try.underlying127
 have HB := aM (Below.refl w.heap.size w)
 have H : ((impl_isRelease.f aG).bind fun bA => (if aE = 1 then (impl_CmdOk.j2 k (aG == 0) 0 0 aD aA aC) else (if aE = 2 then (if bA = true then ((impl_isSize.f aA).bind fun gP => (if gP = true then (impl_CmdOk.j0 k ((aC.size : Int) == 32) 0 0 aD aA aC) else (impl_CmdOk.j0 k false 0 0 aD aA aC))) else (impl_CmdOk.j0 k false 0 0 aD aA aC)) else (if aE = 3 then (if bA = true then ((impl_isNode.f aD).bind fun gL => (impl_CmdOk.j2 k gL 0 0 0 aA aC)) else (impl_CmdOk.j2 k false 0 0 0 aA aC)) else (if aE = 4 then (impl_CmdOk.j1 k bA (aE == 4) 0 0 aD aA aC) else (impl_CmdOk.j1 k bA (aE == 5) 0 0 aD aA aC)))))) = some r := h
 clear h
 replace H := oB H
 obtain ⟨bA, iX, H⟩ := H
 (try dsimp only at H)
 have A2 := aM iX
 clear iX
 have uB := aM H
 clear H
 go_enter Try.func196, Try.ntmps196
 go_upto_block 0 with (first | ((with_reducible refine gD 1 rfl ?_); (try (refine gate_guard (by rfl) ?_; dsimp only)); refine boxE (N := 1) rfl (cs := #[.int .i64 aE, .int .i64 aG, .int .i64 aD, .int .i64 aA, .string aC]) (t := 127) ?_; intro gQ hg w4 hbox hb; have aU := aM (hbox); have vH := aM (xge hg); have vI := aM (xge hg); replace HB := xbs hb; clear hb hbox hg; obtain ⟨eQ, eR, eS, eT, eU, eV, eW, eX, eY, eZ⟩ := xf5 (w := w4) aU) | ((with_reducible refine gD 3 rfl ?_); (try (refine gate_guard (by rfl) ?_; dsimp only)); refine boxE (N := 3) rfl (cs := #[.int .i64 0, .int .i64 0, .int .i64 0, .int .i64 0, .string (⟨#[]⟩ : ByteArray)]) (t := 127) ?_; intro bG hg w6 hbox hb; have vJ := aM (xge hg); have vK := aM (xge hg); replace HB := xbs hb; have aJ := nblt aU hg; have aK := nbgt aU hg; replace aU := xbb aU hb; have aZ := aM (hbox); clear hb hbox hg; have wM := aK.out; have wN := aJ.out; obtain ⟨fA, fB, fC, fD, fE, fF, fG, fH, fI, fJ⟩ := xf5 (w := w6) aZ) | ((with_reducible refine gate_store (t := 127) (p := 3) rfl ?_); refine store_event (t := 127) (p := 3) (v := ?vo_w9) (w1 := (((((w6.setCell ⟨bG, 0, none⟩ (.int .i64 aE)).setCell ⟨bG, 1, none⟩ (.int .i64 aG)).setCell ⟨bG, 2, none⟩ (.int .i64 aD)).setCell ⟨bG, 3, none⟩ (.int .i64 aA)).setCell ⟨bG, 4, none⟩ (.string aC))) ?hg ?ho ?hn ?hr ?_; (case ho | hg | hn => rfl); (case hr => first | (go_simp; done) | (go_simp; rfl)); intro w9 hw; replace aU := xwc hw aU; replace aZ : Aside0 (w9.heap[bG]? = some (.cells #[.int .i64 aE, .int .i64 aG, .int .i64 aD, .int .i64 aA, .string aC] 127 (0, 0))) := xwp hw; replace HB := xbw hw HB; clear hw; obtain ⟨cK, cL, cM, cN, cO, cP, cQ, cR, cS, cT⟩ := xf5 (w := w9) aZ; obtain ⟨bO, bP, bQ, bR, bU, bV, bW, bX, bY, bZ⟩ := xf5 (w := w9) aU) | ((with_reducible refine gC 96 rfl ?_); refine goesLY (some 10) rfl Try.func96 #[.int .i64 aG] ?_; (with_reducible refine (impl_isRelease.calls aG bA _ A2.out).mono ?_); rintro e w' ⟨rfl, ⟨nd, rfl⟩⟩; refine ⟨_, rfl, ?_⟩))
 (try simp only [Act.put, List.setIfInBounds_toArray, List.set_cons_zero, List.set_cons_succ])
 go_cut [4] (fun v4 wc => ∃ (kq : Nat) (hJ : Bool) (bI : Int) (bJ : Int) (bK : ByteArray), v4 = .bool hJ ∧ Aside0 (impl_CmdOk.j2 kq hJ 0 0 bI bJ bK = some r) ∧ Aside0 (kq ≤ k) ∧ Aside0 (wc.heap[gQ]? = some (.cells #[.int .i64 aE, .int .i64 aG, .int .i64 aD, .int .i64 aA, .string aC] 127 (0, 0))) ∧ Aside0 (wc.heap[bG]? = some (.cells #[.int .i64 0, .int .i64 0, .int .i64 bI, .int .i64 bJ, .string bK] 127 (0, 0))) ∧ Aside0 (Below w.heap.size w wc))
 case first =>
  have H := uB.out; clear uB; by_cases hX : aE = 1
  ·rw [if_pos hX] at H; obtain ⟨bL, fK⟩ := bT hX; clear hX; (first | rw [bL] | (simp only [i64_w, i32_w]; rw [bL]) | skip); have H' := aM H; clear H; have vL := aJ.out; have vM := aK.out; obtain ⟨cU, cV, cW, cX, cY, cZ, dA, dB, dC, dD⟩ := xf5 (w := w9) aU; go_wp2; go_meet
   case rel => exact ⟨_, ((aG == 0)), (aD), (aA), (aC), u11_0, H', ⟨u11_1⟩, ⟨xB⟩, ⟨xP⟩, ⟨xbg⟩⟩
  ·rw [if_neg hX] at H; obtain ⟨bL, fK⟩ := bF hX; (first | rw [bL] | (simp only [i64_w, i32_w]; rw [bL]) | skip); by_cases hY : aE = 2
   ·rw [if_pos hY] at H; obtain ⟨fL, fM⟩ := bT hY; clear hY; have iB := aM H; clear H; go_upto_region 9 with (fail)
    go_cut [4] (fun v4 wc => ∃ (kq : Nat) (fN : Bool), v4 = .bool fN ∧ Aside0 (impl_CmdOk.j0 kq fN 0 0 aD aA aC = some r) ∧ Aside0 (kq ≤ k) ∧ Aside0 (wc.heap[gQ]? = some (.cells #[.int .i64 aE, .int .i64 aG, .int .i64 aD, .int .i64 aA, .string aC] 127 (0, 0))) ∧ Aside0 (wc.heap[bG]? = some (.cells #[.int .i64 0, .int .i64 0, .int .i64 aD, .int .i64 aA, .string aC] 127 (0, 0))) ∧ Aside0 (Below w.heap.size w wc))
    case first =>
     have H := iB.out; clear iB; by_cases iC : bA = true
     ·subst iC; replace H := iT H; replace H := oB H; obtain ⟨gP, iY, H⟩ := H; (try dsimp only at H); have vN := aM iY; clear iY
      by_cases iD : gP = true
      ·subst iD; replace H := iT H; have H' := aM H; clear H; have vO := aJ.out; have vP := aK.out; obtain ⟨dE, dF, dG, dH, dI, dJ, dK, dL, dM, dN⟩ := xf5 (w := w9) aU; go_wp2_with (first | (go_at_call 97; (with_reducible refine (impl_isSize.calls aA true _ vN.out).mono ?_); rintro e w' ⟨rfl, ⟨nd, rfl⟩⟩))
       go_meet
       case rel => exact ⟨_, (((aC.size : Int) == 32)), u11_0, H', ⟨u11_1⟩, ⟨xB⟩, ⟨xP⟩, ⟨xbg⟩⟩
      ·replace iD := Bool.eq_false_iff.mpr iD; subst iD; replace H := iN H; have H' := aM H; clear H; have vQ := aJ.out; have vR := aK.out; obtain ⟨cA, cB, cC, cD, cE, cF, cG, cH, cI, cJ⟩ := xf5 (w := w9) aU; go_wp2_with (first | (go_at_call 97; (with_reducible refine (impl_isSize.calls aA false _ vN.out).mono ?_); rintro e w' ⟨rfl, ⟨nd, rfl⟩⟩))
       go_meet
       case rel => exact ⟨_, (false), u11_0, H', ⟨u11_1⟩, ⟨xB⟩, ⟨xP⟩, ⟨xbg⟩⟩
     ·replace iC := Bool.eq_false_iff.mpr iC; subst iC; replace H := iN H; have H' := aM H; clear H; go_wp2; go_meet
      case rel => exact ⟨_, (false), u11_0, H', ⟨u11_1⟩, ⟨xB⟩, ⟨xP⟩, ⟨xbg⟩⟩
    case rest =>
     clear iB; try clear c1
     try clear c2
     try clear p2
     try clear c7
     try clear c9
     try clear hX
     try clear bL
     try clear fK
     try clear vS
     try clear hY
     try clear fL
     try clear fM
     try clear iC
     try clear iD
     try clear iE
     try clear vT
     try clear cK cL cM cN cO
     try clear bO bP bQ bR bU
     try clear cU cV cW cX cY
     try clear dE dF dG dH dI
     try clear cA cB cC cD cE
     try clear eQ eR eS eT eU
     try clear fA fB fC fD fE
     try clear cP cQ cR cS cT
     try clear bV bW bX bY bZ
     try clear cZ dA dB dC dD
     try clear dJ dK dL dM dN
     try clear cF cG cH cI cJ
     try clear eV eW eX eY eZ
     try clear fF fG fH fI fJ
     obtain ⟨kq, fN, rfl, HA, HJ15, aU, aZ, HB⟩ := hcut; cases kq with
     | zero => exact absurd HA.out (by simp [impl_CmdOk.j0])
     | succ wO =>
      have H := HA.out; clear HA; simp only [impl_CmdOk.j0] at H; have H' := aM H; clear H; have vU := aK.out; have vV := aJ.out; obtain ⟨dO, dP, dQ, dR, dS, dU, dV, dW, dX, dY⟩ := xf5 (w := wc) aZ; go_wp2; go_meet
      case rel => exact ⟨_, (fN), (aD), (0), ((⟨#[]⟩ : ByteArray)), u11_0, H', ⟨by have := HJ15.out; first | omega | exact Nat.le_refl _⟩, ⟨xB⟩, ⟨xP⟩, ⟨xbg⟩⟩
   ·rw [if_neg hY] at H; obtain ⟨fL, fM⟩ := bF hY; by_cases iF : aE = 3
    ·rw [if_pos iF] at H; obtain ⟨gR, gS⟩ := bT iF; clear iF; by_cases iV : bA = true
     ·subst iV; replace H := iT H; replace H := oB H; obtain ⟨gL, iZ, H⟩ := H; (try dsimp only at H); have wP := aM iZ; clear iZ
      have H' := aM H; clear H; have vW := aJ.out; have vX := aK.out; obtain ⟨fO, fP, fQ, fR, fS, fT, fU, fV, fW, fX⟩ := xf5 (w := w9) aU; go_wp2_with (first | (go_at_call 199; (with_reducible refine (impl_isNode.calls aD gL _ wP.out).mono ?_); rintro e w' ⟨rfl, ⟨nd, rfl⟩⟩; obtain ⟨dZ, eA, eB, eC, eD, eE, eF, eG, eH, eI⟩ := xf5 (w := w9) aZ))
      go_meet
      case rel => exact ⟨_, (gL), (0), (aA), (aC), u11_0, H', ⟨u11_1⟩, ⟨xB⟩, ⟨xP⟩, ⟨xbg⟩⟩
     ·replace iV := Bool.eq_false_iff.mpr iV; subst iV; replace H := iN H; have H' := aM H; clear H; have vY := aK.out; have vZ := aJ.out; obtain ⟨fY, fZ, gA, gB, gE, gF, gG, gH, gI, gJ⟩ := xf5 (w := w9) aZ; go_wp2; go_meet
      case rel => exact ⟨_, (false), (0), (aA), (aC), u11_0, H', ⟨u11_1⟩, ⟨xB⟩, ⟨xP⟩, ⟨xbg⟩⟩
    ·rw [if_neg iF] at H; obtain ⟨gR, gS⟩ := bF iF; have iG := aM H; clear H; go_upto_if 43 with (fail)
     go_cut [43] (fun wQ wc => ∃ (kq : Nat) (eJ : Bool), wQ = .bool eJ ∧ Aside0 (impl_CmdOk.j1 kq bA eJ 0 0 aD aA aC = some r) ∧ Aside0 (kq ≤ k) ∧ Aside0 (wc.heap[gQ]? = some (.cells #[.int .i64 aE, .int .i64 aG, .int .i64 aD, .int .i64 aA, .string aC] 127 (0, 0))) ∧ Aside0 (wc.heap[bG]? = some (.cells #[.int .i64 0, .int .i64 0, .int .i64 aD, .int .i64 aA, .string aC] 127 (0, 0))) ∧ Aside0 (Below w.heap.size w wc))
     case first =>
      have H := iG.out; clear iG; by_cases gM : aE = 4
      ·rw [if_pos gM] at H; obtain ⟨bH, eK⟩ := bT gM; clear gM; (first | rw [bH] | (simp only [i64_w, i32_w]; rw [bH]) | skip); have H' := aM H; clear H; go_wp2; go_meet
       case rel => exact ⟨_, ((aE == 4)), u11_0, H', ⟨u11_1⟩, ⟨xB⟩, ⟨xP⟩, ⟨xbg⟩⟩
      ·rw [if_neg gM] at H; obtain ⟨bH, eK⟩ := bF gM; (first | rw [bH] | (simp only [i64_w, i32_w]; rw [bH]) | skip); have H' := aM H; clear H; go_wp2; go_meet
       case rel => exact ⟨_, ((aE == 5)), u11_0, H', ⟨u11_1⟩, ⟨xB⟩, ⟨xP⟩, ⟨xbg⟩⟩
     case rest =>
      clear iG; try clear c1
      try clear c2
      try clear p2
      try clear c3
      try clear c7
      try clear c9
      try clear hX
      try clear bL
      try clear fK
      try clear vS
      try clear hY
      try clear fL
      try clear fM
      try clear iC
      try clear iD
      try clear iE
      try clear vT
      try clear wR
      try clear iF
      try clear gR
      try clear gS
      try clear iV
      try clear wS
      try clear wT
      try clear gM
      try clear bH
      try clear eK
      try clear cK cL cM cN cO
      try clear bO bP bQ bR bU
      try clear cU cV cW cX cY
      try clear dE dF dG dH dI
      try clear cA cB cC cD cE
      try clear dO dP dQ dR dS
      try clear fO fP fQ fR fS
      try clear dZ eA eB eC eD
      try clear fY fZ gA gB gE
      try clear eQ eR eS eT eU
      try clear fA fB fC fD fE
      try clear cP cQ cR cS cT
      try clear bV bW bX bY bZ
      try clear cZ dA dB dC dD
      try clear dJ dK dL dM dN
      try clear cF cG cH cI cJ
      try clear dU dV dW dX dY
      try clear fT fU fV fW fX
      try clear eE eF eG eH eI
      try clear gF gG gH gI gJ
      try clear eV eW eX eY eZ
      try clear fF fG fH fI fJ
      try clear p2
      obtain ⟨kq, eJ, rfl, HA, HJ33, aU, aZ, HB⟩ := hcut; cases kq with
      | zero => exact absurd HA.out (by simp [impl_CmdOk.j1])
      | succ wU =>
       have H := HA.out; clear HA; simp only [impl_CmdOk.j1] at H; by_cases jA : eJ = true
       ·subst jA; replace H := iT H; have H' := aM H; clear H; go_wp2; go_meet
        case rel => exact ⟨_, (bA), (aD), (aA), (aC), u11_0, H', ⟨by have := HJ33.out; first | omega | exact Nat.le_refl _⟩, ⟨xblk⟩, ⟨xblk⟩, ⟨xbg⟩⟩
       ·replace jA := Bool.eq_false_iff.mpr jA; subst jA; replace H := iN H; obtain rfl := Option.some.inj H; go_wp2; go_ret
        exact ⟨xerr, xbg⟩
 case rest =>
  clear uB; try clear c1
  try clear c2
  try clear p2
  try clear c3
  try clear c7
  try clear c9
  try clear hX
  try clear bL
  try clear fK
  try clear vS
  try clear hY
  try clear fL
  try clear fM
  try clear iC
  try clear iD
  try clear iE
  try clear vT
  try clear wR
  try clear iF
  try clear gR
  try clear gS
  try clear iV
  try clear wS
  try clear wT
  try clear gM
  try clear bH
  try clear eK
  try clear jA
  try clear cK cL cM cN cO
  try clear bO bP bQ bR bU
  try clear cU cV cW cX cY
  try clear dE dF dG dH dI
  try clear cA cB cC cD cE
  try clear dO dP dQ dR dS
  try clear fO fP fQ fR fS
  try clear dZ eA eB eC eD
  try clear fY fZ gA gB gE
  try clear eQ eR eS eT eU
  try clear fA fB fC fD fE
  try clear cP cQ cR cS cT
  try clear bV bW bX bY bZ
  try clear cZ dA dB dC dD
  try clear dJ dK dL dM dN
  try clear cF cG cH cI cJ
  try clear dU dV dW dX dY
  try clear fT fU fV fW fX
  try clear eE eF eG eH eI
  try clear gF gG gH gI gJ
  try clear eV eW eX eY eZ
  try clear fF fG fH fI fJ
  try clear p2
  obtain ⟨kq, hJ, bI, bJ, bK, rfl, HA, HJ2, aU, aZ, HB⟩ := hcut; cases kq with
  | zero => exact absurd HA.out (by simp [impl_CmdOk.j2])
  | succ xS =>
   have H := HA.out; clear HA; simp only [impl_CmdOk.j2] at H; by_cases hU : hJ = true
   ·subst hU; replace H := iT H; obtain rfl := Option.some.inj H; have wA := aK.out; have wB := aJ.out; obtain ⟨kA, kB, kC, kE, kF, kG, kH, kI, kJ, kK⟩ := xf5 (w := wc) aZ; go_wp2; go_ret
    exact ⟨xerr, xbg⟩
   ·replace hU := Bool.eq_false_iff.mpr hU; subst hU; replace H := iN H; obtain rfl := Option.some.inj H; go_wp2; go_ret
    exact ⟨xerr, xbg⟩

/-! ### impl_entryOk: function 195 -/
def impl_entryOk.f (k : Nat) (aE : Int) (aG : Int) (aD : Int) (aA : Int) (aC : Int) (aI : ByteArray) : Option (Bool) := (impl_within.f aE 1 1000000000).bind fun gT => (if gT = true then ((impl_CmdOk.f k aG aD aA aC aI).bind fun gU => (some gU)) else (some false))
theorem u11_mq1 {p : Prop} (h : p := by repeat' first | (with_reducible first | exact impl_CmdOk.mono _ _ _ _ _ _ | exact LeO.refl _ | exact LeO.none _ | refine LeO.ite ?_ ?_ | refine LeO.bind ?_ (fun _ => ?_)) | exact impl_CmdOk.mono _ _ _ _ _ _ | exact LeO.none _ | refine LeO.ite ?_ ?_ | refine LeO.bind ?_ (fun _ => ?_)) : p := h
theorem impl_entryOk.mono : ∀ a0 a1 a2 a3 a4 a5 k, LeO (impl_entryOk.f k a0 a1 a2 a3 a4 a5) (impl_entryOk.f (k + 1) a0 a1 a2 a3 a4 a5) := by
 intro a0 a1 a2 a3 a4 a5 k
 unfold impl_entryOk.f
 exact u11_mq1
set_option maxHeartbeats 8000000 in
set_option maxRecDepth 100000 in
theorem impl_entryOk.calls (k : Nat) (aE : Int) (aG : Int) (aD : Int) (aA : Int) (aC : Int) (aI : ByteArray) (r : Bool) (w : World) (h : impl_entryOk.f k aE aG aD aA aC aI = some r) :
 Calls Try.prog 195 #[.agg #[.int .i64 aE, .int .i64 aG, .int .i64 aD, .int .i64 aA, .int .i64 aC, .string aI]] w fun e w' => e = .returned (.bool r) ∧ Below w.heap.size w w' := by
 have jB := Try.underlying129
 have iW := Try.underlying127
 have HB := aM (Below.refl w.heap.size w)
 have H : ((impl_within.f aE 1 1000000000).bind fun gT => (if gT = true then ((impl_CmdOk.f k aG aD aA aC aI).bind fun gU => (some gU)) else (some false))) = some r := h
 clear h
 replace H := oB H
 obtain ⟨gT, iX, H⟩ := H
 (try dsimp only at H)
 have A2 := aM iX
 clear iX
 by_cases c3 : gT = true
 ·subst c3; replace H := iT H; replace H := oB H; obtain ⟨gU, wC, H⟩ := H; (try dsimp only at H); have A4 := aM wC; clear wC
  obtain rfl := Option.some.inj H; go_enter Try.func195, Try.ntmps195
  go_wp2_with (first | ((with_reducible refine gD 1 rfl ?_); refine boxE (N := 1) rfl (cs := #[.int .i64 aE, .int .i64 aG, .int .i64 aD, .int .i64 aA, .int .i64 aC, .string aI]) (t := 129) ?_; intro jC hg w5 hbox hb; have eL := aM (hbox); have jD := aM (xge hg); have jE := aM (xge hg); replace HB := xbs hb; clear hb hbox hg; obtain ⟨uC, uD, uE, uF, uG, uH, uI, uJ, uK, uL, uM, uN⟩ := xf6 (w := w5) eL) | ((with_reducible refine gC 99 rfl ?_); refine goesLY (some 5) rfl Try.func99 #[.int .i64 aE, .int .i64 1, .int .i64 1000000000] ?_; (with_reducible refine (impl_within.calls aE 1 1000000000 true _ A2.out).mono ?_); rintro e w' ⟨rfl, ⟨nd, rfl⟩⟩; refine ⟨_, rfl, ?_⟩) | (go_at_call 196; (with_reducible refine (impl_CmdOk.calls k aG aD aA aC aI gU _ A4.out).mono ?_); rintro e w7 ⟨rfl, hb⟩; replace eL := xbb eL hb; replace HB := xbs hb; (try clear hb)))
  go_ret
  exact ⟨xerr, xbg⟩
 ·replace c3 := Bool.eq_false_iff.mpr c3; subst c3; replace H := iN H; obtain rfl := Option.some.inj H; go_enter Try.func195, Try.ntmps195
  go_wp2_with (first | ((with_reducible refine gD 1 rfl ?_); refine boxE (N := 1) rfl (cs := #[.int .i64 aE, .int .i64 aG, .int .i64 aD, .int .i64 aA, .int .i64 aC, .string aI]) (t := 129) ?_; intro jC hg w8 hbox hb; have eL := aM (hbox); have jD := aM (xge hg); have jE := aM (xge hg); replace HB := xbs hb; clear hb hbox hg; obtain ⟨iH, iI, iJ, iK, iL, iM, iO, iP, iQ, iR, iS, iU⟩ := xf6 (w := w8) eL) | ((with_reducible refine gC 99 rfl ?_); refine goesLY (some 5) rfl Try.func99 #[.int .i64 aE, .int .i64 1, .int .i64 1000000000] ?_; (with_reducible refine (impl_within.calls aE 1 1000000000 false _ A2.out).mono ?_); rintro e w' ⟨rfl, ⟨nd, rfl⟩⟩; refine ⟨_, rfl, ?_⟩))
  go_ret
  exact ⟨xerr, xbg⟩

/-! ### impl_RecOk: function 183 -/
def impl_RecOk.f (k : Nat) (aE : Int) (aG : Int) (aD : Int) (aA : Int) (aC : Int) (aI : Int) (aN : Int) (aP : Int) (aQ : Int) (aT : ByteArray) : Option (Bool) := if aE = 1 then ((impl_isWhole.f aG).bind fun gV => (if gV = true then ((impl_within.f aD 0 5).bind fun gW => (if gW = true then (if aA = 0 then (some (aC == 0 && ((aI == 0 && (aN == 0 && (aP == 0 && (aQ == 0 && (aT.toList == ([] : List UInt8))))))))) else (some false)) else (some false))) else (some false))) else (if aE = 2 then ((impl_within.f aA 1 80).bind fun gX => (if gX = true then ((impl_entryOk.f k aC aI aN aP aQ aT).bind fun gY => (if gY = true then (if aG = 0 then (some (aD == 0)) else (some false)) else (some false))) else (some false))) else (if aE = 3 then ((impl_within.f aA 0 80).bind fun gZ => (if gZ = true then (if aG = 0 then (if aD = 0 then (some (aC == 0 && ((aI == 0 && (aN == 0 && (aP == 0 && (aQ == 0 && (aT.toList == ([] : List UInt8))))))))) else (some false)) else (some false)) else (some false))) else (some false)))
theorem u11_mq2 {p : Prop} (h : p := by repeat' first | (with_reducible first | exact impl_entryOk.mono _ _ _ _ _ _ _ | exact LeO.refl _ | exact LeO.none _ | refine LeO.ite ?_ ?_ | refine LeO.bind ?_ (fun _ => ?_)) | exact impl_entryOk.mono _ _ _ _ _ _ _ | exact LeO.none _ | refine LeO.ite ?_ ?_ | refine LeO.bind ?_ (fun _ => ?_)) : p := h
theorem impl_RecOk.mono : ∀ a0 a1 a2 a3 a4 a5 a6 a7 a8 a9 k, LeO (impl_RecOk.f k a0 a1 a2 a3 a4 a5 a6 a7 a8 a9) (impl_RecOk.f (k + 1) a0 a1 a2 a3 a4 a5 a6 a7 a8 a9) := by
 intro a0 a1 a2 a3 a4 a5 a6 a7 a8 a9 k
 unfold impl_RecOk.f
 exact u11_mq2
set_option maxHeartbeats 8000000 in
set_option maxRecDepth 100000 in
theorem impl_RecOk.calls (k : Nat) (aE : Int) (aG : Int) (aD : Int) (aA : Int) (aC : Int) (aI : Int) (aN : Int) (aP : Int) (aQ : Int) (aT : ByteArray) (r : Bool) (w : World) (h : impl_RecOk.f k aE aG aD aA aC aI aN aP aQ aT = some r) :
 Calls Try.prog 183 #[.agg #[.int .i64 aE, .int .i64 aG, .int .i64 aD, .int .i64 aA, .int .i64 aC, .int .i64 aI, .int .i64 aN, .int .i64 aP, .int .i64 aQ, .string aT]] w fun e w' => e = .returned (.bool r) ∧ Below w.heap.size w w' := by
 have wD := Try.underlying131
 have jB := Try.underlying129
 have HB := aM (Below.refl w.heap.size w)
 have H : (if aE = 1 then ((impl_isWhole.f aG).bind fun gV => (if gV = true then ((impl_within.f aD 0 5).bind fun gW => (if gW = true then (if aA = 0 then (some (aC == 0 && ((aI == 0 && (aN == 0 && (aP == 0 && (aQ == 0 && (aT.toList == ([] : List UInt8))))))))) else (some false)) else (some false))) else (some false))) else (if aE = 2 then ((impl_within.f aA 1 80).bind fun gX => (if gX = true then ((impl_entryOk.f k aC aI aN aP aQ aT).bind fun gY => (if gY = true then (if aG = 0 then (some (aD == 0)) else (some false)) else (some false))) else (some false))) else (if aE = 3 then ((impl_within.f aA 0 80).bind fun gZ => (if gZ = true then (if aG = 0 then (if aD = 0 then (some (aC == 0 && ((aI == 0 && (aN == 0 && (aP == 0 && (aQ == 0 && (aT.toList == ([] : List UInt8))))))))) else (some false)) else (some false)) else (some false))) else (some false)))) = some r := h
 clear h
 by_cases c2 : aE = 1
 ·rw [if_pos c2] at H; obtain ⟨uO, uP⟩ := bT c2; clear c2; replace H := oB H; obtain ⟨gV, wE, H⟩ := H; (try dsimp only at H); have A3 := aM wE; clear wE
  by_cases c4 : gV = true
  ·subst c4; replace H := iT H; replace H := oB H; obtain ⟨gW, wF, H⟩ := H; (try dsimp only at H); have A5 := aM wF; clear wF
   by_cases c6 : gW = true
   ·subst c6; replace H := iT H; by_cases c7 : aA = 0
    ·rw [if_pos c7] at H; obtain ⟨uQ, uR⟩ := bT c7; clear c7; obtain rfl := Option.some.inj H; go_enter Try.func183, Try.ntmps183
     go_wp2_with (first | ((with_reducible refine gD 1 rfl ?_); refine boxE (N := 1) rfl (cs := #[.int .i64 aE, .int .i64 aG, .int .i64 aD, .int .i64 aA, .int .i64 aC, .int .i64 aI, .int .i64 aN, .int .i64 aP, .int .i64 aQ, .string aT]) (t := 131) ?_; intro aV hg w8 hbox hb; have aH := aM (hbox); have aW := aM (xge hg); have aX := aM (xge hg); replace HB := xbs hb; clear hb hbox hg; obtain ⟨iH, iI, iJ, iK, iL, iM, uS, uT, uU, uV, iO, iP, iQ, iR, iS, iU, uW, uX, uY, uZ⟩ := xf10 (w := w8) aH) | ((with_reducible refine gC 194 rfl ?_); refine goesLY (some 9) rfl Try.func194 #[.int .i64 aG] ?_; (with_reducible refine (impl_isWhole.calls aG true _ A3.out).mono ?_); rintro e w' ⟨rfl, ⟨nd, rfl⟩⟩; refine ⟨_, rfl, ?_⟩) | (go_at_call 99; (with_reducible refine (impl_within.calls aD 0 5 true _ A5.out).mono ?_); rintro e w' ⟨rfl, ⟨nd, rfl⟩⟩))
     go_ret
     exact ⟨xerr, xbg⟩
    ·rw [if_neg c7] at H; obtain ⟨uQ, uR⟩ := bF c7; obtain rfl := Option.some.inj H; go_enter Try.func183, Try.ntmps183
     go_wp2_with (first | ((with_reducible refine gD 1 rfl ?_); refine boxE (N := 1) rfl (cs := #[.int .i64 aE, .int .i64 aG, .int .i64 aD, .int .i64 aA, .int .i64 aC, .int .i64 aI, .int .i64 aN, .int .i64 aP, .int .i64 aQ, .string aT]) (t := 131) ?_; intro aV hg wG hbox hb; have aH := aM (hbox); have aW := aM (xge hg); have aX := aM (xge hg); replace HB := xbs hb; clear hb hbox hg; obtain ⟨bO, bP, bQ, bR, bU, kL, kM, kN, kO, kP, bV, bW, bX, bY, bZ, kQ, kR, kS, kT, kU⟩ := xf10 (w := wG) aH) | ((with_reducible refine gC 194 rfl ?_); refine goesLY (some 9) rfl Try.func194 #[.int .i64 aG] ?_; (with_reducible refine (impl_isWhole.calls aG true _ A3.out).mono ?_); rintro e w' ⟨rfl, ⟨nd, rfl⟩⟩; refine ⟨_, rfl, ?_⟩) | (go_at_call 99; (with_reducible refine (impl_within.calls aD 0 5 true _ A5.out).mono ?_); rintro e w' ⟨rfl, ⟨nd, rfl⟩⟩))
     go_ret
     exact ⟨xerr, xbg⟩
   ·replace c6 := Bool.eq_false_iff.mpr c6; subst c6; replace H := iN H; obtain rfl := Option.some.inj H; go_enter Try.func183, Try.ntmps183
    go_wp2_with (first | ((with_reducible refine gD 1 rfl ?_); refine boxE (N := 1) rfl (cs := #[.int .i64 aE, .int .i64 aG, .int .i64 aD, .int .i64 aA, .int .i64 aC, .int .i64 aI, .int .i64 aN, .int .i64 aP, .int .i64 aQ, .string aT]) (t := 131) ?_; intro aV hg wV hbox hb; have aH := aM (hbox); have aW := aM (xge hg); have aX := aM (xge hg); replace HB := xbs hb; clear hb hbox hg; obtain ⟨kV, kW, kX, kY, kZ, lA, lB, lC, lE, lF, lG, lH, lI, lJ, lK, lL, lM, lN, lO, lP⟩ := xf10 (w := wV) aH) | ((with_reducible refine gC 194 rfl ?_); refine goesLY (some 9) rfl Try.func194 #[.int .i64 aG] ?_; (with_reducible refine (impl_isWhole.calls aG true _ A3.out).mono ?_); rintro e w' ⟨rfl, ⟨nd, rfl⟩⟩; refine ⟨_, rfl, ?_⟩) | (go_at_call 99; (with_reducible refine (impl_within.calls aD 0 5 false _ A5.out).mono ?_); rintro e w' ⟨rfl, ⟨nd, rfl⟩⟩))
    go_ret
    exact ⟨xerr, xbg⟩
  ·replace c4 := Bool.eq_false_iff.mpr c4; subst c4; replace H := iN H; obtain rfl := Option.some.inj H; go_enter Try.func183, Try.ntmps183
   go_wp2_with (first | ((with_reducible refine gD 1 rfl ?_); refine boxE (N := 1) rfl (cs := #[.int .i64 aE, .int .i64 aG, .int .i64 aD, .int .i64 aA, .int .i64 aC, .int .i64 aI, .int .i64 aN, .int .i64 aP, .int .i64 aQ, .string aT]) (t := 131) ?_; intro aV hg wW hbox hb; have aH := aM (hbox); have aW := aM (xge hg); have aX := aM (xge hg); replace HB := xbs hb; clear hb hbox hg; obtain ⟨lQ, lR, lS, lT, lU, lV, lW, lX, lY, lZ, mA, mB, mC, mD, mE, mF, mG, mH, mI, mJ⟩ := xf10 (w := wW) aH) | ((with_reducible refine gC 194 rfl ?_); refine goesLY (some 9) rfl Try.func194 #[.int .i64 aG] ?_; (with_reducible refine (impl_isWhole.calls aG false _ A3.out).mono ?_); rintro e w' ⟨rfl, ⟨nd, rfl⟩⟩; refine ⟨_, rfl, ?_⟩))
   go_ret
   exact ⟨xerr, xbg⟩
 ·rw [if_neg c2] at H; obtain ⟨uO, uP⟩ := bF c2; by_cases jF : aE = 2
  ·rw [if_pos jF] at H; obtain ⟨jG, jH⟩ := bT jF; clear jF; replace H := oB H; obtain ⟨gX, jI, H⟩ := H; (try dsimp only at H); have mK := aM jI; clear jI
   by_cases mL : gX = true
   ·subst mL; replace H := iT H; replace H := oB H; obtain ⟨gY, jJ, H⟩ := H; (try dsimp only at H); have vA := aM jJ; clear jJ
    by_cases iE : gY = true
    ·subst iE; replace H := iT H; by_cases jK : aG = 0
     ·rw [if_pos jK] at H; obtain ⟨jL, jM⟩ := bT jK; clear jK; obtain rfl := Option.some.inj H; go_enter Try.func183, Try.ntmps183
      go_wp2_with (first | ((with_reducible refine gD 1 rfl ?_); refine boxE (N := 1) rfl (cs := #[.int .i64 aE, .int .i64 aG, .int .i64 aD, .int .i64 aA, .int .i64 aC, .int .i64 aI, .int .i64 aN, .int .i64 aP, .int .i64 aQ, .string aT]) (t := 131) ?_; intro aV hg wX hbox hb; have aH := aM (hbox); have aW := aM (xge hg); have aX := aM (xge hg); replace HB := xbs hb; clear hb hbox hg; obtain ⟨cA, cB, cC, cD, cE, mM, mN, mO, mP, mQ, cF, cG, cH, cI, cJ, mR, mS, mT, mU, mV⟩ := xf10 (w := wX) aH) | ((with_reducible refine gC 99 rfl ?_); refine goesLY (some 30) rfl Try.func99 #[.int .i64 aA, .int .i64 1, .int .i64 80] ?_; (with_reducible refine (impl_within.calls aA 1 80 true _ mK.out).mono ?_); rintro e w' ⟨rfl, ⟨nd, rfl⟩⟩; refine ⟨_, rfl, ?_⟩) | (go_at_call 195; (with_reducible refine (impl_entryOk.calls k aC aI aN aP aQ aT true _ vA.out).mono ?_); rintro e wY ⟨rfl, hb⟩; replace aH := xbb aH hb; replace HB := xbs hb; (try clear hb); obtain ⟨dO, dP, dQ, dR, dS, mW, mX, mY, mZ, nA, dU, dV, dW, dX, dY, nB, nC, nD, nE, nF⟩ := xf10 (w := wY) aH))
      go_ret
      exact ⟨xerr, xbg⟩
     ·rw [if_neg jK] at H; obtain ⟨jL, jM⟩ := bF jK; obtain rfl := Option.some.inj H; go_enter Try.func183, Try.ntmps183
      go_wp2_with (first | ((with_reducible refine gD 1 rfl ?_); refine boxE (N := 1) rfl (cs := #[.int .i64 aE, .int .i64 aG, .int .i64 aD, .int .i64 aA, .int .i64 aC, .int .i64 aI, .int .i64 aN, .int .i64 aP, .int .i64 aQ, .string aT]) (t := 131) ?_; intro aV hg wZ hbox hb; have aH := aM (hbox); have aW := aM (xge hg); have aX := aM (xge hg); replace HB := xbs hb; clear hb hbox hg; obtain ⟨nG, nH, nI, nJ, nK, nL, nM, nN, nO, nP, nQ, nR, nS, nT, nU, nV, nW, nX, nY, nZ⟩ := xf10 (w := wZ) aH) | ((with_reducible refine gC 99 rfl ?_); refine goesLY (some 30) rfl Try.func99 #[.int .i64 aA, .int .i64 1, .int .i64 80] ?_; (with_reducible refine (impl_within.calls aA 1 80 true _ mK.out).mono ?_); rintro e w' ⟨rfl, ⟨nd, rfl⟩⟩; refine ⟨_, rfl, ?_⟩) | (go_at_call 195; (with_reducible refine (impl_entryOk.calls k aC aI aN aP aQ aT true _ vA.out).mono ?_); rintro e xA ⟨rfl, hb⟩; replace aH := xbb aH hb; replace HB := xbs hb; (try clear hb); obtain ⟨oA, oC, oD, oE, oF, oG, oH, oI, oJ, oK, oL, oM, oN, oO, oP, oQ, oR, oT, oU, oV⟩ := xf10 (w := xA) aH))
      go_ret
      exact ⟨xerr, xbg⟩
    ·replace iE := Bool.eq_false_iff.mpr iE; subst iE; replace H := iN H; obtain rfl := Option.some.inj H; go_enter Try.func183, Try.ntmps183
     go_wp2_with (first | ((with_reducible refine gD 1 rfl ?_); refine boxE (N := 1) rfl (cs := #[.int .i64 aE, .int .i64 aG, .int .i64 aD, .int .i64 aA, .int .i64 aC, .int .i64 aI, .int .i64 aN, .int .i64 aP, .int .i64 aQ, .string aT]) (t := 131) ?_; intro aV hg xD hbox hb; have aH := aM (hbox); have aW := aM (xge hg); have aX := aM (xge hg); replace HB := xbs hb; clear hb hbox hg; obtain ⟨dZ, eA, eB, eC, eD, oW, oX, oY, oZ, pA, eE, eF, eG, eH, eI, pB, pC, pD, pE, pF⟩ := xf10 (w := xD) aH) | ((with_reducible refine gC 99 rfl ?_); refine goesLY (some 30) rfl Try.func99 #[.int .i64 aA, .int .i64 1, .int .i64 80] ?_; (with_reducible refine (impl_within.calls aA 1 80 true _ mK.out).mono ?_); rintro e w' ⟨rfl, ⟨nd, rfl⟩⟩; refine ⟨_, rfl, ?_⟩) | (go_at_call 195; (with_reducible refine (impl_entryOk.calls k aC aI aN aP aQ aT false _ vA.out).mono ?_); rintro e xT ⟨rfl, hb⟩; replace aH := xbb aH hb; replace HB := xbs hb; (try clear hb)))
     go_ret
     exact ⟨xerr, xbg⟩
   ·replace mL := Bool.eq_false_iff.mpr mL; subst mL; replace H := iN H; obtain rfl := Option.some.inj H; go_enter Try.func183, Try.ntmps183
    go_wp2_with (first | ((with_reducible refine gD 1 rfl ?_); refine boxE (N := 1) rfl (cs := #[.int .i64 aE, .int .i64 aG, .int .i64 aD, .int .i64 aA, .int .i64 aC, .int .i64 aI, .int .i64 aN, .int .i64 aP, .int .i64 aQ, .string aT]) (t := 131) ?_; intro aV hg xE hbox hb; have aH := aM (hbox); have aW := aM (xge hg); have aX := aM (xge hg); replace HB := xbs hb; clear hb hbox hg; obtain ⟨pG, pH, pI, pJ, pK, pL, pM, pN, pO, pP, pQ, pR, pS, pT, pU, pV, pW, pX, pY, pZ⟩ := xf10 (w := xE) aH) | ((with_reducible refine gC 99 rfl ?_); refine goesLY (some 30) rfl Try.func99 #[.int .i64 aA, .int .i64 1, .int .i64 80] ?_; (with_reducible refine (impl_within.calls aA 1 80 false _ mK.out).mono ?_); rintro e w' ⟨rfl, ⟨nd, rfl⟩⟩; refine ⟨_, rfl, ?_⟩))
    go_ret
    exact ⟨xerr, xbg⟩
  ·rw [if_neg jF] at H; obtain ⟨jG, jH⟩ := bF jF; by_cases gM : aE = 3
   ·rw [if_pos gM] at H; obtain ⟨bH, eK⟩ := bT gM; clear gM; replace H := oB H; obtain ⟨gZ, jN, H⟩ := H; (try dsimp only at H); have qA := aM jN; clear jN
    by_cases hU : gZ = true
    ·subst hU; replace H := iT H; by_cases jO : aG = 0
     ·rw [if_pos jO] at H; obtain ⟨jP, jQ⟩ := bT jO; clear jO; by_cases jR : aD = 0
      ·rw [if_pos jR] at H; obtain ⟨jS, jT⟩ := bT jR; clear jR; obtain rfl := Option.some.inj H; go_enter Try.func183, Try.ntmps183
       go_wp2_with (first | ((with_reducible refine gD 1 rfl ?_); refine boxE (N := 1) rfl (cs := #[.int .i64 aE, .int .i64 aG, .int .i64 aD, .int .i64 aA, .int .i64 aC, .int .i64 aI, .int .i64 aN, .int .i64 aP, .int .i64 aQ, .string aT]) (t := 131) ?_; intro aV hg xF hbox hb; have aH := aM (hbox); have aW := aM (xge hg); have aX := aM (xge hg); replace HB := xbs hb; clear hb hbox hg; obtain ⟨qB, qC, qD, qE, qF, qG, qH, qI, qJ, qK, qL, qM, qN, qO, qP, qQ, qR, qS, qT, qU⟩ := xf10 (w := xF) aH) | ((with_reducible refine gC 99 rfl ?_); refine goesLY (some 50) rfl Try.func99 #[.int .i64 aA, .int .i64 0, .int .i64 80] ?_; (with_reducible refine (impl_within.calls aA 0 80 true _ qA.out).mono ?_); rintro e w' ⟨rfl, ⟨nd, rfl⟩⟩; refine ⟨_, rfl, ?_⟩))
       go_ret
       exact ⟨xerr, xbg⟩
      ·rw [if_neg jR] at H; obtain ⟨jS, jT⟩ := bF jR; obtain rfl := Option.some.inj H; go_enter Try.func183, Try.ntmps183
       go_wp2_with (first | ((with_reducible refine gD 1 rfl ?_); refine boxE (N := 1) rfl (cs := #[.int .i64 aE, .int .i64 aG, .int .i64 aD, .int .i64 aA, .int .i64 aC, .int .i64 aI, .int .i64 aN, .int .i64 aP, .int .i64 aQ, .string aT]) (t := 131) ?_; intro aV hg xG hbox hb; have aH := aM (hbox); have aW := aM (xge hg); have aX := aM (xge hg); replace HB := xbs hb; clear hb hbox hg; obtain ⟨qV, qW, qX, qY, qZ, rA, rB, rC, rE, rF, rG, rH, rI, rJ, rK, rL, rM, rN, rO, rP⟩ := xf10 (w := xG) aH) | ((with_reducible refine gC 99 rfl ?_); refine goesLY (some 50) rfl Try.func99 #[.int .i64 aA, .int .i64 0, .int .i64 80] ?_; (with_reducible refine (impl_within.calls aA 0 80 true _ qA.out).mono ?_); rintro e w' ⟨rfl, ⟨nd, rfl⟩⟩; refine ⟨_, rfl, ?_⟩))
       go_ret
       exact ⟨xerr, xbg⟩
     ·rw [if_neg jO] at H; obtain ⟨jP, jQ⟩ := bF jO; obtain rfl := Option.some.inj H; go_enter Try.func183, Try.ntmps183
      go_wp2_with (first | ((with_reducible refine gD 1 rfl ?_); refine boxE (N := 1) rfl (cs := #[.int .i64 aE, .int .i64 aG, .int .i64 aD, .int .i64 aA, .int .i64 aC, .int .i64 aI, .int .i64 aN, .int .i64 aP, .int .i64 aQ, .string aT]) (t := 131) ?_; intro aV hg xH hbox hb; have aH := aM (hbox); have aW := aM (xge hg); have aX := aM (xge hg); replace HB := xbs hb; clear hb hbox hg; obtain ⟨rQ, rR, rS, rT, rU, rV, rW, rX, rY, rZ, sA, sB, sC, sD, sE, sF, sG, sH, sI, sJ⟩ := xf10 (w := xH) aH) | ((with_reducible refine gC 99 rfl ?_); refine goesLY (some 50) rfl Try.func99 #[.int .i64 aA, .int .i64 0, .int .i64 80] ?_; (with_reducible refine (impl_within.calls aA 0 80 true _ qA.out).mono ?_); rintro e w' ⟨rfl, ⟨nd, rfl⟩⟩; refine ⟨_, rfl, ?_⟩))
      go_ret
      exact ⟨xerr, xbg⟩
    ·replace hU := Bool.eq_false_iff.mpr hU; subst hU; replace H := iN H; obtain rfl := Option.some.inj H; go_enter Try.func183, Try.ntmps183
     go_wp2_with (first | ((with_reducible refine gD 1 rfl ?_); refine boxE (N := 1) rfl (cs := #[.int .i64 aE, .int .i64 aG, .int .i64 aD, .int .i64 aA, .int .i64 aC, .int .i64 aI, .int .i64 aN, .int .i64 aP, .int .i64 aQ, .string aT]) (t := 131) ?_; intro aV hg xI hbox hb; have aH := aM (hbox); have aW := aM (xge hg); have aX := aM (xge hg); replace HB := xbs hb; clear hb hbox hg; obtain ⟨sK, sL, sM, sN, sO, sP, sQ, sR, sS, sU, sV, sW, sX, sY, sZ, tA, tB, tC, tD, tE⟩ := xf10 (w := xI) aH) | ((with_reducible refine gC 99 rfl ?_); refine goesLY (some 50) rfl Try.func99 #[.int .i64 aA, .int .i64 0, .int .i64 80] ?_; (with_reducible refine (impl_within.calls aA 0 80 false _ qA.out).mono ?_); rintro e w' ⟨rfl, ⟨nd, rfl⟩⟩; refine ⟨_, rfl, ?_⟩))
     go_ret
     exact ⟨xerr, xbg⟩
   ·rw [if_neg gM] at H; obtain ⟨bH, eK⟩ := bF gM; obtain rfl := Option.some.inj H; go_enter Try.func183, Try.ntmps183
    go_wp2_with (first | ((with_reducible refine gD 1 rfl ?_); refine boxE (N := 1) rfl (cs := #[.int .i64 aE, .int .i64 aG, .int .i64 aD, .int .i64 aA, .int .i64 aC, .int .i64 aI, .int .i64 aN, .int .i64 aP, .int .i64 aQ, .string aT]) (t := 131) ?_; intro aV hg xJ hbox hb; have aH := aM (hbox); have aW := aM (xge hg); have aX := aM (xge hg); replace HB := xbs hb; clear hb hbox hg; obtain ⟨tF, tG, tH, tI, tJ, tK, tL, tM, tN, tO, tP, tQ, tR, tS, tT, tU, tV, tW, tX, tY⟩ := xf10 (w := xJ) aH))
    go_ret
    exact ⟨xerr, xbg⟩

/-! ### impl_putNums: function 184 -/
def impl_putNums.l0 : Nat → List Int → List Int → Int → Int → Option (List Int)
 | 0, _, _, _, _ => none
 | k + 1, x3, x7, x8, x9 => if x9 < x8 then (if 0 ≤ x9 then (if x9 < (x7.length : Int) then ((impl_PutNum.f k (rd x7 x9)).bind fun eM => (if x3.length + eM.length < 140737488355328 then (impl_putNums.l0 k (x3 ++ eM) x7 x8 (wrap64 (x9 + 1))) else (none))) else (none)) else (none)) else (some x3)
def impl_putNums.f (k : Nat) (l0 : List Int) : Option (List Int) := impl_putNums.l0 k (([] : List Int)) l0 (l0.length : Int) 0
theorem u11_mq3 {p : Prop} (h : p := by repeat' first | (with_reducible first | exact iA _ _ _ _ | exact impl_PutNum.mono _ _ | exact LeO.refl _ | exact LeO.none _ | refine LeO.ite ?_ ?_ | refine LeO.bind ?_ (fun _ => ?_)) | exact iA _ _ _ _ | exact impl_PutNum.mono _ _ | exact LeO.none _ | refine LeO.ite ?_ ?_ | refine LeO.bind ?_ (fun _ => ?_)) : p := h
set_option maxRecDepth 100000 in
theorem impl_putNums.mono_l : ∀ k, (∀ y0 y1 y2 y3, LeO (impl_putNums.l0 k y0 y1 y2 y3) (impl_putNums.l0 (k + 1) y0 y1 y2 y3))
 | 0 => fun _ _ _ _ r h => by simp [impl_putNums.l0] at h
 | k + 1 => by
  have iA := impl_putNums.mono_l k
  ·intro y0 y1 y2 y3; unfold impl_putNums.l0; exact u11_mq3
theorem impl_putNums.mono : ∀ a0 k, LeO (impl_putNums.f k a0) (impl_putNums.f (k + 1) a0) := by
 intro a0 k
 have iA := impl_putNums.mono_l k
 unfold impl_putNums.f
 exact u11_mq3
set_option maxHeartbeats 8000000 in
set_option maxRecDepth 100000 in
theorem impl_putNums.calls (k : Nat) (A0 : Option Addr) (c0 : Nat) (l0 : List Int) (r : List Int) (w : World) (wH : Kd.C (Kd.int .i64) w A0 l0.length l0) (wI : l0.length ≤ c0) (h : impl_putNums.f k l0 = some r) :
 Calls Try.prog 184 #[.slice A0 l0.length c0] w fun e w' => ∃ v0_ : Value, e = .returned (v0_) ∧ Kd.R (Kd.int .u8) 5 w' w.heap.size (fun _ => True) v0_ r ∧ Below w.heap.size w w' := by
 have xL := aM wH
 have xU := aM wI
 clear wH wI
 have HB := aM (Below.refl w.heap.size w)
 have H : (impl_putNums.l0 k (([] : List Int)) l0 (l0.length : Int) 0) = some r := h
 clear h
 obtain ⟨jU, eN⟩ : ∃ y_ : List Int, y_ = (([] : List Int)) := ⟨_, rfl⟩
 replace H : (impl_putNums.l0 k jU l0 (l0.length : Int) 0) = some r := by first | (rw [eN]; with_reducible exact H) | (have H2_ := oS H; rw [eN]; with_reducible exact H2_) | (have H2_ := oS H; with_reducible exact H2_) | with_reducible exact H | (rw [eN]; exact H) | exact H
 have hZ := aM eN
 clear eN
 have H' := aM H
 clear H
 go_enter Try.func184, Try.ntmps184
 go_wp2_with (first | ((with_reducible refine gD 6 rfl ?_); refine Kd.R_lit (Kd.int .u8) _ 5 ?hg (N := 6) ?hd (xs := ([] : List Int)) (inner := []) (ok := fun _ => True) (okp := fun _ => True) ?hr ?hp (fun _ hk => hk) trivial (Below.refl _ _) (Nat.le_refl _) (by simp) ?_; (case hd => rfl); (case hg => rfl); (case hr => first | (go_simp; done) | (go_simp; rfl)); (case hp => exact (Reps.none _ _)); intro xM w2 jV hb hg_ hnew_; clear hg_ hnew_; (first | rw [← hZ.out] at jV | (simp only [Int.reduceToNat] at jV; rw [← hZ.out] at jV)); have jW := aM (Kd.R_lower jV (below_size xbel)); replace HB := xbs hb; clear hb jV))
 go_loopg [3, 9] k (fun kq v3 v9 w' => ∃ (gN : List Int) (aY : Int), v9 = .int .i64 aY ∧ Aside0 (impl_putNums.l0 kq gN l0 (l0.length : Int) aY = some r) ∧ Aside0 (kq ≤ k) ∧ Aside0 (Kd.R (Kd.int .u8) 5 w' w.heap.size (fun _ => True) v3 gN) ∧ Aside0 (Below w.heap.size w w'))
 case atStart => exact ⟨(jU), (0), u11_0, H', ⟨Nat.le_refl _⟩, ⟨by (with_reducible repeat (first | apply Kd.R_alloc | apply Kd.R_drewN | apply Kd.R_drew)); exact jW.out⟩, ⟨xbel⟩⟩
 case round =>
  clear H'; try clear c1
  try clear p2
  obtain ⟨gN, aY, rfl, HA, HK1, gO, HB⟩ := hrel; cases gk with
  | zero => exact absurd HA.out (by simp [impl_putNums.l0])
  | succ k1 =>
   have H := HA.out; clear HA; simp only [impl_putNums.l0] at H; by_cases c4 : aY < (l0.length : Int)
   ·rw [if_pos c4] at H; have vB : decide (aY < (l0.length : Int)) = true := decide_eq_true c4; clear c4; by_cases c5 : 0 ≤ aY
    ·rw [if_pos c5] at H; have xN : decide (0 ≤ aY) = true := decide_eq_true c5; clear c5; by_cases c6 : aY < (l0.length : Int)
     ·rw [if_pos c6] at H; have xO : decide (aY < (l0.length : Int)) = true := decide_eq_true c6; clear c6; replace H := oB H; obtain ⟨eM, wJ, H⟩ := H; (try dsimp only at H); have A7 := aM wJ; clear wJ
      by_cases c8 : gN.length + eM.length < 140737488355328
      ·rw [if_pos c8] at H; have LMc8 := aM c8; clear c8; obtain ⟨jX, eO⟩ : ∃ y_ : List Int, y_ = (gN ++ eM) := ⟨_, rfl⟩; replace H : (impl_putNums.l0 k1 jX l0 (l0.length : Int) (wrap64 (aY + 1))) = some r := by first | (rw [eO]; with_reducible exact H) | (have H2_ := oS H; rw [eO]; with_reducible exact H2_) | (have H2_ := oS H; with_reducible exact H2_) | with_reducible exact H | (rw [eO]; exact H) | exact H
       have jY := aM eO; clear eO; have H' := aM H; clear H; have p547 : 0 ≤ (aY : Int) := oda; have q547 : aY < (l0.length : Int) := oda; obtain ⟨wK, vC, gK⟩ := Kd.at_int xL.out aY p547 q547; cases vC
       replace gK := xce HB gK; replace p547 := eq_true p547; replace q547 := eq_true q547; go_wp2_with (first | ((with_reducible refine gC 142 rfl ?_); refine goesLY (some 15) rfl Try.func142 #[.int .i64 (rd l0 aY)] ?_; (with_reducible refine (impl_PutNum.calls k1 (rd l0 aY) eM _ A7.out).mono ?_); rintro e w9 ⟨xQ, rfl, vD, hb⟩; refine ⟨_, rfl, ?_⟩; have eP := aM (Kd.R_lower (Kd.R_new' vD (Kd.R_lt (xr gO))) (below_size xbel)); replace gO := aM (Kd.R_elder' (xr gO) (Kd.R_base vD) hb); replace HB := xbs hb; (try clear hb vD); obtain ⟨vE, vF, vG⟩ := Kd.R_slice eP.out; subst vG) | ((with_reducible refine gate_builtin (b := .append) (xs := #[.tmp 13, .tmp 15]) rfl ?_); at_builtin; refine Kd.R_append_rows (Kd.int .u8) (w0 := w) w.heap.size rfl (.tmp 13) (.tmp 15) 22 5 (.int .u8 0) 1 rfl Try.underlying22 info5 rfl (by decide) (by omega) u3 gN eM _ _ _ (fun k_ => some k_ ≠ (.slice vE eM.length vF : Value).ownBlock) (fun _ => False) rfl rfl ?aO ?aR (fun _ _ h => h) (fun _ h => h.elim) ?aF ?aB ?aS ?aL ?_; (case aR => repeat (first | exact (Kd.R_reads' eP.out).2.2 | (with_reducible refine Kd.C_alloc ?_ _) | (with_reducible refine Kd.C_drewN ?_ _) | (with_reducible refine Kd.C_drew ?_))); (case aB => exact xbel); (case aF => exact (fun k_ hk => Kd.fresh' (Kd.R_lt (xr eP)) k_ hk)); (case aO => exact (by (with_reducible repeat (first | apply Kd.R_alloc | apply Kd.R_drewN | apply Kd.R_drew)); exact Kd.R_mono gO.out (fun _ hk => hk.2))); (case aS => exact (below_size xbel)); (case aL => have := LMc8.out; omega); intro xR wG ho hb hg hat; rw [← jY.out] at ho; replace eP := aM (Kd.R_after (ok := (fun _ => True)) (xr eP) hg hat); replace HB := aM (hb); have jZ := aM (ho); clear gO; clear ho hb hg hat))
       go_roundg k1
       case measure => have := HK1.out; omega
       case rel => exact ⟨(jX), (wrap64 (aY + 1)), u11_0, H', ⟨by have := HK1.out; omega⟩, ⟨by (with_reducible repeat (first | apply Kd.R_alloc | apply Kd.R_drewN | apply Kd.R_drew)); exact Kd.R_mono jZ.out (fun _ hk => trivial)⟩, ⟨xbel⟩⟩
      ·rw [if_neg c8] at H; exact absurd H (by simp)
     ·rw [if_neg c6] at H; exact absurd H (by simp)
    ·rw [if_neg c5] at H; exact absurd H (by simp)
   ·rw [if_neg c4] at H; have vB : decide (aY < (l0.length : Int)) = false := decide_eq_false c4; clear c4; obtain rfl := Option.some.inj H; go_wp2; go_ret
    exact ⟨_, xerr, by (with_reducible repeat (first | apply Kd.R_alloc | apply Kd.R_drewN | apply Kd.R_drew)); exact gO.out, xbel⟩

end Go.Proofs.Ytoojdlobnbakoaa.QFnExactHardSave
