-- A walk, by a program of this session.
import Derived.Test.YtocpomkfilpflaaQFnExactHardLoadx0
import Derived.Test.YtocpomkfilpflaaQFnExactHardLoadx1
import Derived.Test.YtocpomkfilpflaaQFnExactHardLoadx9
namespace Go.Proofs.Ytocpomkfilpflaa.QFnExactHardLoad
open Go.RowKit Go.Proofs.YtocpomkfilpflaaW.PrintWords Go.Proofs.YtocpomkfilpflaaW.PrintLast Go.Proofs.YtocpomkfilpflaaW.PrintMore
attribute [local go_sem] max2_int min2_int max_two min_two max_three min_three max_four min_four   -- for this text's walks alone
set_option linter.unusedVariables false
set_option linter.unusedSimpArgs false

attribute [local go_sem high] eqA34
theorem u10_0 {p : Prop} (h : p := by first | rfl | (simp; done) | (simp [*]; done)) : p := h
theorem u10_1 {p : Prop} (h : p := by first | omega | exact Nat.le_refl _) : p := h
theorem u10_2 {p : Prop} (h : p := by first | (go_simp; done) | (go_simp; rfl)) : p := h
theorem u10_3 {p : Prop} (h : p := by first | rfl | (simp [errW_none, errW_some] <;> rfl) | (simp [*, errW_none, errW_some] <;> rfl)) : p := h
theorem u10_4 {p : Prop} (h : p := by repeat (first | exact Drawn0.refl _ | apply Drawn0.step)) : p := h
theorem u10_5 {p : Prop} (h : p := by (try simp only [List.map_toArray, List.map_cons, List.map_nil]); first | done | (simp only [hji12]; rfl) | rfl | (simp only [List.length_drop, List.length_take]; rfl)) : p := h
/-! ### impl_CmdOk: function 36 -/
mutual
def impl_CmdOk.j2 : Nat → Bool → Int → Int → Int → Int → ByteArray → Option (Bool)
 | 0, _, _, _, _, _, _ => none
 | k + 1, x4, aZ, bA, bB, bK, bL => if x4 = true then (some (aZ == 0 && (bA == 0 && (bB == 0 && (bK == 0 && (bL.toList == ([] : List UInt8))))))) else (some false)
def impl_CmdOk.j0 : Nat → Bool → Int → Int → Int → Int → ByteArray → Option (Bool)
 | 0, _, _, _, _, _, _ => none
 | k + 1, x4, aZ, bA, bB, bK, bL => impl_CmdOk.j2 k x4 aZ bA bB 0 (⟨#[]⟩ : ByteArray)
def impl_CmdOk.j1 : Nat → Bool → Bool → Int → Int → Int → Int → ByteArray → Option (Bool)
 | 0, _, _, _, _, _, _, _ => none
 | k + 1, x4, oZ, aZ, bA, bB, bK, bL => if oZ = true then (impl_CmdOk.j2 k x4 aZ bA bB bK bL) else (some false)
end
def impl_CmdOk.f (k : Nat) (aE : Int) (aI : Int) (aJ : Int) (aG : Int) (aH : ByteArray) : Option (Bool) := (impl_isRelease.f aI).bind fun aY => (if aE = 1 then (impl_CmdOk.j2 k (aI == 0) 0 0 aJ aG aH) else (if aE = 2 then (if aY = true then ((impl_isSize.f aG).bind fun gQ => (if gQ = true then (impl_CmdOk.j0 k ((aH.size : Int) == 32) 0 0 aJ aG aH) else (impl_CmdOk.j0 k false 0 0 aJ aG aH))) else (impl_CmdOk.j0 k false 0 0 aJ aG aH)) else (if aE = 3 then (if aY = true then ((impl_isNode.f aJ).bind fun gP => (impl_CmdOk.j2 k gP 0 0 0 aG aH)) else (impl_CmdOk.j2 k false 0 0 0 aG aH)) else (if aE = 4 then (impl_CmdOk.j1 k aY (aE == 4) 0 0 aJ aG aH) else (impl_CmdOk.j1 k aY (aE == 5) 0 0 aJ aG aH)))))
theorem u10_mq0 {p : Prop} (h : p := by repeat' first | (with_reducible first | exact iO _ _ _ _ _ _ | exact lW _ _ _ _ _ _ | exact lX _ _ _ _ _ _ _ | exact LeO.refl _ | exact LeO.none _ | refine LeO.ite ?_ ?_ | refine LeO.bind ?_ (fun _ => ?_)) | exact iO _ _ _ _ _ _ | exact lW _ _ _ _ _ _ | exact lX _ _ _ _ _ _ _ | exact LeO.none _ | refine LeO.ite ?_ ?_ | refine LeO.bind ?_ (fun _ => ?_)) : p := h
set_option maxRecDepth 100000 in
theorem impl_CmdOk.mono_l : ∀ k, (∀ y0 y1 y2 y3 y4 y5, LeO (impl_CmdOk.j2 k y0 y1 y2 y3 y4 y5) (impl_CmdOk.j2 (k + 1) y0 y1 y2 y3 y4 y5)) ∧ (∀ y0 y1 y2 y3 y4 y5, LeO (impl_CmdOk.j0 k y0 y1 y2 y3 y4 y5) (impl_CmdOk.j0 (k + 1) y0 y1 y2 y3 y4 y5)) ∧ (∀ y0 y1 y2 y3 y4 y5 y6, LeO (impl_CmdOk.j1 k y0 y1 y2 y3 y4 y5 y6) (impl_CmdOk.j1 (k + 1) y0 y1 y2 y3 y4 y5 y6))
 | 0 => ⟨fun _ _ _ _ _ _ r h => by simp [impl_CmdOk.j2] at h, fun _ _ _ _ _ _ r h => by simp [impl_CmdOk.j0] at h, fun _ _ _ _ _ _ _ r h => by simp [impl_CmdOk.j1] at h⟩
 | k + 1 => by
  obtain ⟨iO, lW, lX⟩ := impl_CmdOk.mono_l k; refine ⟨?_, ?_, ?_⟩
  ·intro y0 y1 y2 y3 y4 y5; unfold impl_CmdOk.j2; exact u10_mq0
  ·intro y0 y1 y2 y3 y4 y5; unfold impl_CmdOk.j0; exact u10_mq0
  ·intro y0 y1 y2 y3 y4 y5 y6; unfold impl_CmdOk.j1; exact u10_mq0
theorem impl_CmdOk.mono : ∀ a0 a1 a2 a3 a4 k, LeO (impl_CmdOk.f k a0 a1 a2 a3 a4) (impl_CmdOk.f (k + 1) a0 a1 a2 a3 a4) := by
 intro a0 a1 a2 a3 a4 k
 obtain ⟨iO, lW, lX⟩ := impl_CmdOk.mono_l k
 unfold impl_CmdOk.f
 exact u10_mq0
set_option maxHeartbeats 8000000 in
set_option maxRecDepth 100000 in
theorem impl_CmdOk.calls (k : Nat) (aE : Int) (aI : Int) (aJ : Int) (aG : Int) (aH : ByteArray) (r : Bool) (w : World) (h : impl_CmdOk.f k aE aI aJ aG aH = some r) :
 Calls Try.prog 36 #[.agg #[.int .i64 aE, .int .i64 aI, .int .i64 aJ, .int .i64 aG, .string aH]] w fun e w' => e = .returned (.bool r) ∧ Below w.heap.size w w' := by
 have jK := Try.underlying34
 have HB := aM (Below.refl w.heap.size w)
 have H : ((impl_isRelease.f aI).bind fun aY => (if aE = 1 then (impl_CmdOk.j2 k (aI == 0) 0 0 aJ aG aH) else (if aE = 2 then (if aY = true then ((impl_isSize.f aG).bind fun gQ => (if gQ = true then (impl_CmdOk.j0 k ((aH.size : Int) == 32) 0 0 aJ aG aH) else (impl_CmdOk.j0 k false 0 0 aJ aG aH))) else (impl_CmdOk.j0 k false 0 0 aJ aG aH)) else (if aE = 3 then (if aY = true then ((impl_isNode.f aJ).bind fun gP => (impl_CmdOk.j2 k gP 0 0 0 aG aH)) else (impl_CmdOk.j2 k false 0 0 0 aG aH)) else (if aE = 4 then (impl_CmdOk.j1 k aY (aE == 4) 0 0 aJ aG aH) else (impl_CmdOk.j1 k aY (aE == 5) 0 0 aJ aG aH)))))) = some r := h
 clear h
 replace H := oB H
 obtain ⟨aY, iF, H⟩ := H
 (try dsimp only at H)
 have A2 := aM iF
 clear iF
 have lY := aM H
 clear H
 go_enter Try.func36, Try.ntmps36
 go_upto_block 0 with (first | ((with_reducible refine gD 1 rfl ?_); (try (refine gate_guard (by rfl) ?_; dsimp only)); refine boxE (N := 1) rfl (cs := #[.int .i64 aE, .int .i64 aI, .int .i64 aJ, .int .i64 aG, .string aH]) (t := 34) ?_; intro gR hg w4 hbox hb; have aN := aM (hbox); have nE := aM (xge hg); have nF := aM (xge hg); replace HB := xbs hb; clear hb hbox hg; obtain ⟨eI, eJ, eK, eL, eM, eN, eO, eP, eQ, eR⟩ := xf5 (w := w4) aN) | ((with_reducible refine gD 3 rfl ?_); (try (refine gate_guard (by rfl) ?_; dsimp only)); refine boxE (N := 3) rfl (cs := #[.int .i64 0, .int .i64 0, .int .i64 0, .int .i64 0, .string (⟨#[]⟩ : ByteArray)]) (t := 34) ?_; intro bC hg w6 hbox hb; have nG := aM (xge hg); have nH := aM (xge hg); replace HB := xbs hb; have aK := nblt aN hg; have aL := nbgt aN hg; replace aN := xbb aN hb; have aW := aM (hbox); clear hb hbox hg; have pA := aL.out; have pB := aK.out; obtain ⟨eS, eT, eU, eV, eW, eX, eY, eZ, fA, fB⟩ := xf5 (w := w6) aW) | ((with_reducible refine gate_store (t := 34) (p := 3) rfl ?_); refine store_event (t := 34) (p := 3) (v := ?vo_w9) (w1 := (((((w6.setCell ⟨bC, 0, none⟩ (.int .i64 aE)).setCell ⟨bC, 1, none⟩ (.int .i64 aI)).setCell ⟨bC, 2, none⟩ (.int .i64 aJ)).setCell ⟨bC, 3, none⟩ (.int .i64 aG)).setCell ⟨bC, 4, none⟩ (.string aH))) ?hg ?ho ?hn ?hr ?_; (case ho | hg | hn => rfl); (case hr => exact u10_2); intro w9 hw; replace aN := xwc hw aN; replace aW : Aside0 (w9.heap[bC]? = some (.cells #[.int .i64 aE, .int .i64 aI, .int .i64 aJ, .int .i64 aG, .string aH] 34 (0, 0))) := xwp hw; replace HB := xbw hw HB; clear hw; obtain ⟨bP, bQ, bR, bU, bV, bW, bX, bY, bZ, cA⟩ := xf5 (w := w9) aW; obtain ⟨cB, cC, cD, cE, cF, cG, cH, cI, cJ, cK⟩ := xf5 (w := w9) aN) | ((with_reducible refine gC 68 rfl ?_); refine goesLY (some 10) rfl Try.func68 #[.int .i64 aI] ?_; (with_reducible refine (impl_isRelease.calls aI aY _ A2.out).mono ?_); rintro e w' ⟨rfl, ⟨nd, rfl⟩⟩; refine ⟨_, rfl, ?_⟩))
 (try simp only [Act.put, List.setIfInBounds_toArray, List.set_cons_zero, List.set_cons_succ])
 go_cut [4] (fun v4 wc => ∃ (kq : Nat) (hX : Bool) (bG : Int) (bH : Int) (bI : ByteArray), v4 = .bool hX ∧ Aside0 (impl_CmdOk.j2 kq hX 0 0 bG bH bI = some r) ∧ Aside0 (kq ≤ k) ∧ Aside0 (wc.heap[gR]? = some (.cells #[.int .i64 aE, .int .i64 aI, .int .i64 aJ, .int .i64 aG, .string aH] 34 (0, 0))) ∧ Aside0 (wc.heap[bC]? = some (.cells #[.int .i64 0, .int .i64 0, .int .i64 bG, .int .i64 bH, .string bI] 34 (0, 0))) ∧ Aside0 (Below w.heap.size w wc))
 case first =>
  have H := lY.out; clear lY; by_cases iG : aE = 1
  ·rw [if_pos iG] at H; obtain ⟨bJ, fD⟩ := bT iG; clear iG; (first | rw [bJ] | (simp only [i64_w, i32_w]; rw [bJ]) | skip); have H' := aM H; clear H; have nI := aK.out; have nJ := aL.out; obtain ⟨cL, cM, cN, cO, cP, cQ, cR, cS, cT, cU⟩ := xf5 (w := w9) aN; go_wp2; go_meet
   case rel => exact ⟨_, ((aI == 0)), (aJ), (aG), (aH), u10_0, H', ⟨u10_1⟩, ⟨xB⟩, ⟨xP⟩, ⟨xbg⟩⟩
  ·rw [if_neg iG] at H; obtain ⟨bJ, fD⟩ := bF iG; (first | rw [bJ] | (simp only [i64_w, i32_w]; rw [bJ]) | skip); by_cases iH : aE = 2
   ·rw [if_pos iH] at H; obtain ⟨fE, fF⟩ := bT iH; clear iH; have iP := aM H; clear H; go_upto_region 9 with (fail)
    go_cut [4] (fun v4 wc => ∃ (kq : Nat) (fG : Bool), v4 = .bool fG ∧ Aside0 (impl_CmdOk.j0 kq fG 0 0 aJ aG aH = some r) ∧ Aside0 (kq ≤ k) ∧ Aside0 (wc.heap[gR]? = some (.cells #[.int .i64 aE, .int .i64 aI, .int .i64 aJ, .int .i64 aG, .string aH] 34 (0, 0))) ∧ Aside0 (wc.heap[bC]? = some (.cells #[.int .i64 0, .int .i64 0, .int .i64 aJ, .int .i64 aG, .string aH] 34 (0, 0))) ∧ Aside0 (Below w.heap.size w wc))
    case first =>
     have H := iP.out; clear iP; by_cases iQ : aY = true
     ·subst iQ; replace H := iT H; replace H := oB H; obtain ⟨gQ, jL, H⟩ := H; (try dsimp only at H); have nK := aM jL; clear jL
      by_cases iR : gQ = true
      ·subst iR; replace H := iT H; have H' := aM H; clear H; have nL := aK.out; have nM := aL.out; obtain ⟨cV, cW, cX, cY, cZ, dA, dB, dC, dD, dE⟩ := xf5 (w := w9) aN; go_wp2_with (first | (go_at_call 69; (with_reducible refine (impl_isSize.calls aG true _ nK.out).mono ?_); rintro e w' ⟨rfl, ⟨nd, rfl⟩⟩))
       go_meet
       case rel => exact ⟨_, (((aH.size : Int) == 32)), u10_0, H', ⟨u10_1⟩, ⟨xB⟩, ⟨xP⟩, ⟨xbg⟩⟩
      ·replace iR := Bool.eq_false_iff.mpr iR; subst iR; replace H := iN H; have H' := aM H; clear H; have nN := aK.out; have nO := aL.out; obtain ⟨dF, dG, dH, dI, dJ, dK, dL, dM, dN, dO⟩ := xf5 (w := w9) aN; go_wp2_with (first | (go_at_call 69; (with_reducible refine (impl_isSize.calls aG false _ nK.out).mono ?_); rintro e w' ⟨rfl, ⟨nd, rfl⟩⟩))
       go_meet
       case rel => exact ⟨_, (false), u10_0, H', ⟨u10_1⟩, ⟨xB⟩, ⟨xP⟩, ⟨xbg⟩⟩
     ·replace iQ := Bool.eq_false_iff.mpr iQ; subst iQ; replace H := iN H; have H' := aM H; clear H; go_wp2; go_meet
      case rel => exact ⟨_, (false), u10_0, H', ⟨u10_1⟩, ⟨xB⟩, ⟨xP⟩, ⟨xbg⟩⟩
    case rest =>
     clear iP; try clear c1
     try clear c2
     try clear p2
     try clear c3
     try clear c6
     try clear c7
     try clear iG
     try clear bJ
     try clear fD
     try clear nP
     try clear iH
     try clear fE
     try clear fF
     try clear iQ
     try clear iR
     try clear nQ
     try clear nR
     try clear bP bQ bR bU bV
     try clear cB cC cD cE cF
     try clear cL cM cN cO cP
     try clear cV cW cX cY cZ
     try clear dF dG dH dI dJ
     try clear eI eJ eK eL eM
     try clear eS eT eU eV eW
     try clear bW bX bY bZ cA
     try clear cG cH cI cJ cK
     try clear cQ cR cS cT cU
     try clear dA dB dC dD dE
     try clear dK dL dM dN dO
     try clear eN eO eP eQ eR
     try clear eX eY eZ fA fB
     obtain ⟨kq, fG, rfl, HA, HJ15, aN, aW, HB⟩ := hcut; cases kq with
     | zero => exact absurd HA.out (by simp [impl_CmdOk.j0])
     | succ pC =>
      have H := HA.out; clear HA; simp only [impl_CmdOk.j0] at H; have H' := aM H; clear H; have nS := aL.out; have nT := aK.out; obtain ⟨fH, fI, fJ, fK, fL, fM, fN, fO, fP, fQ⟩ := xf5 (w := wc) aW; go_wp2; go_meet
      case rel => exact ⟨_, (fG), (aJ), (0), ((⟨#[]⟩ : ByteArray)), u10_0, H', ⟨by have := HJ15.out; first | omega | exact Nat.le_refl _⟩, ⟨xB⟩, ⟨xP⟩, ⟨xbg⟩⟩
   ·rw [if_neg iH] at H; obtain ⟨fE, fF⟩ := bF iH; by_cases iS : aE = 3
    ·rw [if_pos iS] at H; obtain ⟨gS, gT⟩ := bT iS; clear iS; by_cases jJ : aY = true
     ·subst jJ; replace H := iT H; replace H := oB H; obtain ⟨gP, jM, H⟩ := H; (try dsimp only at H); have pD := aM jM; clear jM
      have H' := aM H; clear H; have nU := aK.out; have nV := aL.out; obtain ⟨fR, fS, fT, fU, fV, fW, fX, fY, fZ, gA⟩ := xf5 (w := w9) aN; go_wp2_with (first | (go_at_call 70; (with_reducible refine (impl_isNode.calls aJ gP _ pD.out).mono ?_); rintro e w' ⟨rfl, ⟨nd, rfl⟩⟩; obtain ⟨dP, dQ, dR, dS, dU, dV, dW, dX, dY, dZ⟩ := xf5 (w := w9) aW))
      go_meet
      case rel => exact ⟨_, (gP), (0), (aG), (aH), u10_0, H', ⟨u10_1⟩, ⟨xB⟩, ⟨xP⟩, ⟨xbg⟩⟩
     ·replace jJ := Bool.eq_false_iff.mpr jJ; subst jJ; replace H := iN H; have H' := aM H; clear H; have nW := aL.out; have nX := aK.out; obtain ⟨gB, gE, gF, gG, gH, gI, gJ, gK, gL, gM⟩ := xf5 (w := w9) aW; go_wp2; go_meet
      case rel => exact ⟨_, (false), (0), (aG), (aH), u10_0, H', ⟨u10_1⟩, ⟨xB⟩, ⟨xP⟩, ⟨xbg⟩⟩
    ·rw [if_neg iS] at H; obtain ⟨gS, gT⟩ := bF iS; have iU := aM H; clear H; go_upto_if 43 with (fail)
     go_cut [43] (fun pE wc => ∃ (kq : Nat) (eA : Bool), pE = .bool eA ∧ Aside0 (impl_CmdOk.j1 kq aY eA 0 0 aJ aG aH = some r) ∧ Aside0 (kq ≤ k) ∧ Aside0 (wc.heap[gR]? = some (.cells #[.int .i64 aE, .int .i64 aI, .int .i64 aJ, .int .i64 aG, .string aH] 34 (0, 0))) ∧ Aside0 (wc.heap[bC]? = some (.cells #[.int .i64 0, .int .i64 0, .int .i64 aJ, .int .i64 aG, .string aH] 34 (0, 0))) ∧ Aside0 (Below w.heap.size w wc))
     case first =>
      have H := iU.out; clear iU; by_cases iV : aE = 4
      ·rw [if_pos iV] at H; obtain ⟨bN, gU⟩ := bT iV; clear iV; (first | rw [bN] | (simp only [i64_w, i32_w]; rw [bN]) | skip); have H' := aM H; clear H; go_wp2; go_meet
       case rel => exact ⟨_, ((aE == 4)), u10_0, H', ⟨u10_1⟩, ⟨xB⟩, ⟨xP⟩, ⟨xbg⟩⟩
      ·rw [if_neg iV] at H; obtain ⟨bN, gU⟩ := bF iV; (first | rw [bN] | (simp only [i64_w, i32_w]; rw [bN]) | skip); have H' := aM H; clear H; go_wp2; go_meet
       case rel => exact ⟨_, ((aE == 5)), u10_0, H', ⟨u10_1⟩, ⟨xB⟩, ⟨xP⟩, ⟨xbg⟩⟩
     case rest =>
      clear iU; try clear c1
      try clear c2
      try clear p2
      try clear c3
      try clear c6
      try clear c7
      try clear iG
      try clear bJ
      try clear fD
      try clear nP
      try clear iH
      try clear fE
      try clear fF
      try clear iQ
      try clear iR
      try clear nQ
      try clear nR
      try clear pF
      try clear iS
      try clear gS
      try clear gT
      try clear jJ
      try clear pG
      try clear pH
      try clear iV
      try clear bN
      try clear gU
      try clear bP bQ bR bU bV
      try clear cB cC cD cE cF
      try clear cL cM cN cO cP
      try clear cV cW cX cY cZ
      try clear dF dG dH dI dJ
      try clear fH fI fJ fK fL
      try clear fR fS fT fU fV
      try clear dP dQ dR dS dU
      try clear gB gE gF gG gH
      try clear eI eJ eK eL eM
      try clear eS eT eU eV eW
      try clear bW bX bY bZ cA
      try clear cG cH cI cJ cK
      try clear cQ cR cS cT cU
      try clear dA dB dC dD dE
      try clear dK dL dM dN dO
      try clear fM fN fO fP fQ
      try clear fW fX fY fZ gA
      try clear dV dW dX dY dZ
      try clear gI gJ gK gL gM
      try clear eN eO eP eQ eR
      try clear eX eY eZ fA fB
      try clear p2
      obtain ⟨kq, eA, rfl, HA, HJ33, aN, aW, HB⟩ := hcut; cases kq with
      | zero => exact absurd HA.out (by simp [impl_CmdOk.j1])
      | succ pI =>
       have H := HA.out; clear HA; simp only [impl_CmdOk.j1] at H; by_cases hU : eA = true
       ·subst hU; replace H := iT H; have H' := aM H; clear H; go_wp2; go_meet
        case rel => exact ⟨_, (aY), (aJ), (aG), (aH), u10_0, H', ⟨by have := HJ33.out; first | omega | exact Nat.le_refl _⟩, ⟨xblk⟩, ⟨xblk⟩, ⟨xbg⟩⟩
       ·replace hU := Bool.eq_false_iff.mpr hU; subst hU; replace H := iN H; obtain rfl := Option.some.inj H; go_wp2; go_ret
        exact ⟨xerr, xbg⟩
 case rest =>
  clear lY; try clear c1
  try clear c2
  try clear p2
  try clear c3
  try clear c6
  try clear c7
  try clear iG
  try clear bJ
  try clear fD
  try clear nP
  try clear iH
  try clear fE
  try clear fF
  try clear iQ
  try clear iR
  try clear nQ
  try clear nR
  try clear pF
  try clear iS
  try clear gS
  try clear gT
  try clear jJ
  try clear pG
  try clear pH
  try clear iV
  try clear bN
  try clear gU
  try clear hU
  try clear bP bQ bR bU bV
  try clear cB cC cD cE cF
  try clear cL cM cN cO cP
  try clear cV cW cX cY cZ
  try clear dF dG dH dI dJ
  try clear fH fI fJ fK fL
  try clear fR fS fT fU fV
  try clear dP dQ dR dS dU
  try clear gB gE gF gG gH
  try clear eI eJ eK eL eM
  try clear eS eT eU eV eW
  try clear bW bX bY bZ cA
  try clear cG cH cI cJ cK
  try clear cQ cR cS cT cU
  try clear dA dB dC dD dE
  try clear dK dL dM dN dO
  try clear fM fN fO fP fQ
  try clear fW fX fY fZ gA
  try clear dV dW dX dY dZ
  try clear gI gJ gK gL gM
  try clear eN eO eP eQ eR
  try clear eX eY eZ fA fB
  try clear p2
  obtain ⟨kq, hX, bG, bH, bI, rfl, HA, HJ2, aN, aW, HB⟩ := hcut; cases kq with
  | zero => exact absurd HA.out (by simp [impl_CmdOk.j2])
  | succ pO =>
   have H := HA.out; clear HA; simp only [impl_CmdOk.j2] at H; by_cases jV : hX = true
   ·subst jV; replace H := iT H; obtain rfl := Option.some.inj H; have nY := aL.out; have nZ := aK.out; obtain ⟨hY, hZ, iA, jW, jX, iB, iC, iD, jY, jZ⟩ := xf5 (w := wc) aW; go_wp2; go_ret
    exact ⟨xerr, xbg⟩
   ·replace jV := Bool.eq_false_iff.mpr jV; subst jV; replace H := iN H; obtain rfl := Option.some.inj H; go_wp2; go_ret
    exact ⟨xerr, xbg⟩

/-! ### impl_lastTerm: function 37 -/
def impl_lastTerm.f (l0 : List (S36)) : Option (Int) := if (l0.length : Int) = 0 then (some 0) else (if 0 ≤ (wrap64 ((l0.length : Int) - 1)) then (if (wrap64 ((l0.length : Int) - 1)) < (l0.length : Int) then (some ((rd_T36 l0 (wrap64 ((l0.length : Int) - 1))).f0)) else (none)) else (none))
set_option maxHeartbeats 8000000 in
set_option maxRecDepth 100000 in
theorem impl_lastTerm.calls (A0 : Option Addr) (c0 : Nat) (l0 : List (S36)) (r : Int) (w : World) (oA : Kd.C k36 w A0 l0.length l0) (oC : l0.length ≤ c0) (h : impl_lastTerm.f l0 = some r) :
 Calls Try.prog 37 #[.slice A0 l0.length c0] w fun e w' => e = .returned (.int .i64 r) ∧ Drawn0 w w' := by
 have pJ := aM oA
 have pP := aM oC
 clear oA oC
 have H : (if (l0.length : Int) = 0 then (some 0) else (if 0 ≤ (wrap64 ((l0.length : Int) - 1)) then (if (wrap64 ((l0.length : Int) - 1)) < (l0.length : Int) then (some ((rd_T36 l0 (wrap64 ((l0.length : Int) - 1))).f0)) else (none)) else (none))) = some r := h
 clear h
 by_cases c2 : (l0.length : Int) = 0
 ·rw [if_pos c2] at H; obtain ⟨lZ, mA⟩ := bT c2; clear c2; obtain rfl := Option.some.inj H; go_enter Try.func37, Try.ntmps37
  go_wp2; go_ret
  exact ⟨u10_0, u10_4⟩
 ·rw [if_neg c2] at H; obtain ⟨lZ, mA⟩ := bF c2; have pK : ¬ (l0 = []) := fun h_ => c2 (by rw [h_]; rfl)
  obtain ⟨ji3, hji3⟩ : ∃ j_ : Int, (wrap64 ((l0.length : Int) - 1)) = j_ := ⟨_, rfl⟩; replace H : (if 0 ≤ (ji3) then (if (ji3) < (l0.length : Int) then (some ((rd_T36 l0 (ji3)).f0)) else (none)) else (none)) = some r := by first | (rw [hji3] at H; exact H) | (simp only [hji3] at H ⊢; exact H)
  have hji3w : (IntKind.i64.wrap ((l0.length : Int) - 1)) = ji3 := (i64_w _).trans hji3; by_cases c4 : 0 ≤ (ji3)
  ·rw [if_pos c4] at H; have jN : decide (0 ≤ (ji3)) = true := decide_eq_true c4; clear c4; by_cases c5 : (ji3) < (l0.length : Int)
   ·rw [if_pos c5] at H; have mB : decide ((ji3) < (l0.length : Int)) = true := decide_eq_true c5; clear c5; obtain rfl := Option.some.inj H; have p297 : 0 ≤ ((ji3) : Int) := oda; have q297 : (ji3) < (l0.length : Int) := oda; obtain ⟨oD, mC, kA, kB, kC, kE, kF, kG⟩ := at_T36 pJ.out (ji3) p297 q297; cases mC
    replace p297 := eq_true p297; replace q297 := eq_true q297; go_enter Try.func37, Try.ntmps37
    go_wp2; go_ret
    exact ⟨by first | rfl | (simp; done) | (simp only [← hji3] <;> (first | rfl | simp)) | (simp [*]; done), u10_4⟩
   ·rw [if_neg c5] at H; exact absurd H (by simp)
  ·rw [if_neg c4] at H; exact absurd H (by simp)

/-! ### impl_isWhole: function 38 -/
def impl_isWhole.f (a0 : Int) : Option (Bool) := (impl_within.f a0 0 1000000000).bind fun gV => (some gV)
set_option maxHeartbeats 8000000 in
set_option maxRecDepth 100000 in
theorem impl_isWhole.calls (a0 : Int) (r : Bool) (w : World) (h : impl_isWhole.f a0 = some r) :
 Calls Try.prog 38 #[.int .i64 a0] w fun e w' => e = .returned (.bool r) ∧ Drawn0 w w' := by
 have H : ((impl_within.f a0 0 1000000000).bind fun gV => (some gV)) = some r := h
 clear h
 replace H := oB H
 obtain ⟨gV, iF, H⟩ := H
 (try dsimp only at H)
 have A2 := aM iF
 clear iF
 obtain rfl := Option.some.inj H
 go_enter Try.func38, Try.ntmps38
 go_wp2_with (first | ((with_reducible refine gC 35 rfl ?_); refine goesLY (some 4) rfl Try.func35 #[.int .i64 a0, .int .i64 0, .int .i64 1000000000] ?_; (with_reducible refine (impl_within.calls a0 0 1000000000 gV _ A2.out).mono ?_); rintro e w' ⟨rfl, ⟨nd, rfl⟩⟩; refine ⟨_, rfl, ?_⟩))
 go_ret
 exact ⟨u10_0, u10_4⟩

/-! ### impl_HardOk: function 11 -/
def impl_HardOk.l0 : Nat → List (S36) → Int → Int → Int → Int → List (S36) → Option (Bool)
 | 0, _, _, _, _, _, _ => none
 | k + 1, x6, x7, x8, eB, gN, bM => if x8 < x7 then (if 0 ≤ x8 then (if x8 < (x6.length : Int) then ((impl_CmdOk.f k ((rd_T36 x6 x8).f1.f0) ((rd_T36 x6 x8).f1.f1) ((rd_T36 x6 x8).f1.f2) ((rd_T36 x6 x8).f1.f3) ((rd_T36 x6 x8).f1.f4)).bind fun iW => (if iW = true then (if x8 ≤ (bM.length : Int) then ((impl_lastTerm.f (bM.take (x8 : Int).toNat)).bind fun eC => ((impl_within.f ((rd_T36 x6 x8).f0) (mx 1 eC) eB).bind fun fC => (if fC = true then (impl_HardOk.l0 k x6 x7 (wrap64 (x8 + 1)) eB gN bM) else (some false)))) else (none)) else (some false))) else (none)) else (none)) else ((impl_isWhole.f eB).bind fun iX => (if iX = true then ((impl_within.f gN 0 5).bind fun iY => (if iY = true then (some (decide ((bM.length : Int) ≤ 80))) else (some false))) else (some false)))
def impl_HardOk.f (k : Nat) (aE : Int) (aI : Int) (aA : List (S36)) : Option (Bool) := impl_HardOk.l0 k aA (aA.length : Int) 0 aE aI aA
theorem u10_mq1 {p : Prop} (h : p := by repeat' first | (with_reducible first | exact iO _ _ _ _ _ _ | exact impl_CmdOk.mono _ _ _ _ _ _ | exact LeO.refl _ | exact LeO.none _ | refine LeO.ite ?_ ?_ | refine LeO.bind ?_ (fun _ => ?_)) | exact iO _ _ _ _ _ _ | exact impl_CmdOk.mono _ _ _ _ _ _ | exact LeO.none _ | refine LeO.ite ?_ ?_ | refine LeO.bind ?_ (fun _ => ?_)) : p := h
set_option maxRecDepth 100000 in
theorem impl_HardOk.mono_l : ∀ k, (∀ y0 y1 y2 y3 y4 y5, LeO (impl_HardOk.l0 k y0 y1 y2 y3 y4 y5) (impl_HardOk.l0 (k + 1) y0 y1 y2 y3 y4 y5))
 | 0 => fun _ _ _ _ _ _ r h => by simp [impl_HardOk.l0] at h
 | k + 1 => by
  have iO := impl_HardOk.mono_l k
  ·intro y0 y1 y2 y3 y4 y5; unfold impl_HardOk.l0; exact u10_mq1
theorem impl_HardOk.mono : ∀ a0 a1 a2 k, LeO (impl_HardOk.f k a0 a1 a2) (impl_HardOk.f (k + 1) a0 a1 a2) := by
 intro a0 a1 a2 k
 have iO := impl_HardOk.mono_l k
 unfold impl_HardOk.f
 exact u10_mq1
def impl_HardOk.T4 : Bool × List (List Nat × List Nat) := (true, [([], []), ([0], [0]), ([1], [1]), ([2], [2]), ([3, 2], [3]), ([4], [4]), ([5, 4], [4, 5]), ([4], [4]), ([7, 4], [4, 7]), ([4], [4]), ([8, 9, 4], [4, 8, 9]), ([10, 4, 4], [4, 10]), ([11, 4], [4, 11]), ([4], [4]), ([13, 4], [4, 13]), ([6, 12, 14, 11, 4], [4, 6, 12, 14]), ([15, 4], [4, 15]), ([4, 16], [4, 16])])
def impl_HardOk.B4 : List Nat := [0, 1, 3, 7, 15, 31, 63, 31, 159, 31, 927, 1951, 3999, 31, 8223, 32767, 65535, 131071]
theorem impl_HardOk.tab4 : rtab .any (opsOf Try.f11 4) = impl_HardOk.T4 := by kernel_rfl
theorem impl_HardOk.bits4 : waitsOk impl_HardOk.T4.2 impl_HardOk.B4 = true := by kernel_rfl
set_option maxHeartbeats 8000000 in
set_option maxRecDepth 100000 in
theorem impl_HardOk.calls (k : Nat) (aE : Int) (aI : Int) (iE : Option Addr) (bE : Nat) (aA : List (S36)) (r : Bool) (w : World) (iI : Kd.C k36 w iE aA.length aA) (iJ : aA.length ≤ bE) (h : impl_HardOk.f k aE aI aA = some r) :
 Calls Try.prog 11 #[.agg #[.int .i64 aE, .int .i64 aI, .slice iE aA.length bE]] w fun e w' => e = .returned (.bool r) ∧ Below w.heap.size w w' := by
 have pL := Try.underlying28
 have mD := Try.underlying36
 have jK := Try.underlying34
 have eE := aM iI
 have iK := aM iJ
 clear iI iJ
 have HB := aM (Below.refl w.heap.size w)
 have H : (impl_HardOk.l0 k aA (aA.length : Int) 0 aE aI aA) = some r := h
 clear h
 have H' := aM H
 clear H
 go_enter Try.func11, Try.ntmps11
 go_wp2_with (first | ((with_reducible refine gD 1 rfl ?_); (try (refine gate_guard (by rfl) ?_; dsimp only)); refine boxE (N := 1) rfl (cs := #[.int .i64 aE, .int .i64 aI, .slice iE aA.length bE]) (t := 28) ?_; intro bO hg w2 hbox hb; have aD := aM (hbox); have oE := aM (xge hg); have oF := aM (xge hg); replace HB := xbs hb; clear hb hbox hg; obtain ⟨iZ, jA, jB, jC, jD, jE⟩ := xf3 (w := w2) aD))
 go_loopg [8] k (fun kq v8 w' => ∃ (aC : Int), v8 = .int .i64 aC ∧ Aside0 (impl_HardOk.l0 kq aA (aA.length : Int) aC aE aI aA = some r) ∧ Aside0 (kq ≤ k) ∧ Aside0 (w'.heap[bO]? = some (.cells #[.int .i64 aE, .int .i64 aI, (.slice iE aA.length bE)] 28 (0, 0))) ∧ Aside0 (Below w.heap.size w w'))
 case atStart => exact ⟨(0), u10_0, H', ⟨Nat.le_refl _⟩, ⟨xblk⟩, ⟨xbg⟩⟩
 case round =>
  clear H'; try clear c1
  try clear p2
  try clear iZ jA jB jC jD jE
  obtain ⟨aC, rfl, HA, HK1, aD, HB⟩ := hrel; cases gk with
  | zero => exact absurd HA.out (by simp [impl_HardOk.l0])
  | succ k1 =>
   have H := HA.out; clear HA; simp only [impl_HardOk.l0] at H; by_cases c4 : aC < (aA.length : Int)
   ·rw [if_pos c4] at H; have jN : decide (aC < (aA.length : Int)) = true := decide_eq_true c4; clear c4; by_cases c5 : 0 ≤ aC
    ·rw [if_pos c5] at H; have mB : decide (0 ≤ aC) = true := decide_eq_true c5; clear c5; by_cases c6 : aC < (aA.length : Int)
     ·rw [if_pos c6] at H; have pM : decide (aC < (aA.length : Int)) = true := decide_eq_true c6; clear c6; replace H := oB H; obtain ⟨iW, oG, H⟩ := H; (try dsimp only at H); have A7 := aM oG; clear oG
      by_cases c8 : iW = true
      ·subst c8; replace H := iT H; have pN := eq_true (oda : 0 ≤ aC); by_cases c10 : aC ≤ (aA.length : Int)
       ·rw [if_pos c10] at H; have oH := eq_true c10; have oI : decide (aC ≤ (aA.length : Int)) = true := decide_eq_true c10; clear c10; obtain ⟨eD, eF⟩ : ∃ y_ : List (S36), y_ = (aA.take (aC : Int).toNat) := ⟨_, rfl⟩; replace H : ((impl_lastTerm.f eD).bind fun eC => ((impl_within.f ((rd_T36 aA aC).f0) (mx 1 eC) aE).bind fun fC => (if fC = true then (impl_HardOk.l0 k1 aA (aA.length : Int) (wrap64 (aC + 1)) aE aI aA) else (some false)))) = some r := by first | (rw [eF]; with_reducible exact H) | (have H2_ := oS H; rw [eF]; with_reducible exact H2_) | (have H2_ := oS H; with_reducible exact H2_) | with_reducible exact H | (rw [eF]; exact H) | exact H
        have gO := aM eF; clear eF; replace H := oB H; obtain ⟨eC, jO, H⟩ := H; (try dsimp only at H); have mE := aM jO; clear jO
        obtain ⟨ji12, hji12⟩ : ∃ j_ : Int, (mx 1 eC) = j_ := ⟨_, rfl⟩; replace H : ((impl_within.f ((rd_T36 aA aC).f0) (ji12) aE).bind fun fC => (if fC = true then (impl_HardOk.l0 k1 aA (aA.length : Int) (wrap64 (aC + 1)) aE aI aA) else (some false))) = some r := by first | (rw [hji12] at H; exact H) | (simp only [hji12] at H ⊢; exact H)
        (try rw [hji12] at A7); (try rw [hji12] at mE); (try (have hji12l : 1 ≤ ji12 := by (rw [← hji12]; unfold mx; (repeat' split) <;> omega))); (try (have hji12m : 0 ≤ ji12 := by omega)); have hji12_ : (if 1 < eC then eC else 1) = ji12 := hji12; replace H := oB H; obtain ⟨fC, jP, H⟩ := H; (try dsimp only at H); have oJ := aM jP; clear jP
        by_cases kH : fC = true
        ·subst kH; replace H := iT H; have H' := aM H; clear H; have p302 : 0 ≤ (aC : Int) := oda; have q302 : aC < (aA.length : Int) := oda; obtain ⟨aX, gW, aO, aP, aQ, aR, aS, aT⟩ := at_T36 eE.out aC p302 q302; cases gW
         replace aO := xce HB aO; replace aP := xce HB aP; replace aQ := xce HB aQ; replace aR := xce HB aR; replace aS := xce HB aS; replace aT := xce HB aT; replace p302 := eq_true p302; replace q302 := eq_true q302; try go_wp2_with (first | ((with_reducible refine gD 4 rfl ?_); (try (refine gate_guard (by rfl) ?_; dsimp only)); refine boxE (N := 4) rfl (cs := #[.int .i64 0, .int .i64 0, .int .i64 0, .int .i64 0, .int .i64 0, .string (⟨#[]⟩ : ByteArray)]) (t := 36) ?_; intro aF hg oK hbox hb; have iL := aM (xge hg); have iM := aM (xge hg); replace HB := xbs hb; have aU := nblt aD hg; have aV := nbgt aD hg; replace aD := xbb aD hb; have aB := aM (hbox); clear hb hbox hg; have oL := aV.out; have oM := aU.out; obtain ⟨kI, kJ, kK, kL, kM, kN, kO, kP, kQ, kR, kS, kT⟩ := xf6 (w := oK) aB) | ((with_reducible refine gate_store (t := 36) (p := 4) rfl ?_); refine store_event (t := 36) (p := 4) (v := ?vo_w18) (w1 := ((((((oK.setCell ⟨aF, 0, none⟩ (.int .i64 ((rd_T36 aA aC).f0))).setCell ⟨aF, 1, none⟩ (.int .i64 ((rd_T36 aA aC).f1.f0))).setCell ⟨aF, 2, none⟩ (.int .i64 ((rd_T36 aA aC).f1.f1))).setCell ⟨aF, 3, none⟩ (.int .i64 ((rd_T36 aA aC).f1.f2))).setCell ⟨aF, 4, none⟩ (.int .i64 ((rd_T36 aA aC).f1.f3))).setCell ⟨aF, 5, none⟩ (.string ((rd_T36 aA aC).f1.f4)))) ?hg ?ho ?hn ?hr ?_; (case ho | hg | hn => rfl); (case hr => exact u10_2); intro oN hw; replace aD := xwc hw aD; replace aB : Aside0 (oN.heap[aF]? = some (.cells #[.int .i64 ((rd_T36 aA aC).f0), .int .i64 ((rd_T36 aA aC).f1.f0), .int .i64 ((rd_T36 aA aC).f1.f1), .int .i64 ((rd_T36 aA aC).f1.f2), .int .i64 ((rd_T36 aA aC).f1.f3), .string ((rd_T36 aA aC).f1.f4)] 36 (0, 0))) := xwp hw; replace HB := xbw hw HB; clear hw))
         replace aD := bD aD; replace aB := bD aB; replace HB := lD HB; refine st_ 18 (fun w' => w'.cell? ⟨aF, 0, none⟩ = some (.int .i64 ((rd_T36 aA aC).f0)) ∧ w'.cell? ⟨aF, 1, none⟩ = some (.int .i64 ((rd_T36 aA aC).f1.f0)) ∧ w'.cell? ⟨aF, 2, none⟩ = some (.int .i64 ((rd_T36 aA aC).f1.f1)) ∧ w'.cell? ⟨aF, 3, none⟩ = some (.int .i64 ((rd_T36 aA aC).f1.f2)) ∧ w'.cell? ⟨aF, 4, none⟩ = some (.int .i64 ((rd_T36 aA aC).f1.f3)) ∧ w'.cell? ⟨aF, 5, none⟩ = some (.string ((rd_T36 aA aC).f1.f4)) ∧ w'.cell? ⟨bO, 0, none⟩ = some (.int .i64 aE) ∧ w'.cell? ⟨bO, 1, none⟩ = some (.int .i64 aI) ∧ w'.cell? ⟨bO, 2, none⟩ = some (.slice (some aX) aA.length bE)) impl_HardOk.tab4 impl_HardOk.bits4 ⟨xc aB 0 rfl, xc aB 1 rfl, xc aB 2 rfl, xc aB 3 rfl, xc aB 4 rfl, xc aB 5 rfl, xc aD 0 rfl, xc aD 1 rfl, xc aD 2 rfl⟩ (fun hHeld HT_ HW_ => ?_); generalize oN.drew = pQ at aD aB HB hHeld ⊢; refine pv_ 0 13 (h := ?_); refine tk_ 1 14 (h := ?_); refine on_ 2 15 (h := fun K hK => ?_); refine goesY Try.func36 #[.agg #[.int .i64 ((rd_T36 aA aC).f1.f0), .int .i64 ((rd_T36 aA aC).f1.f1), .int .i64 ((rd_T36 aA aC).f1.f2), .int .i64 ((rd_T36 aA aC).f1.f3), .string ((rd_T36 aA aC).f1.f4)]] ?_; with_reducible refine (impl_CmdOk.calls k1 ((rd_T36 aA aC).f1.f0) ((rd_T36 aA aC).f1.f1) ((rd_T36 aA aC).f1.f2) ((rd_T36 aA aC).f1.f3) ((rd_T36 aA aC).f1.f4) true _ A7.out).mono ?_
         rintro e pR ⟨rfl, hb⟩; refine ⟨_, rfl, ?_⟩; replace aD := xbb aD hb; replace aB := xbb aB hb; replace HB := xbs hb; (try clear hb); have q21 : (aC : Int) ≤ ((aA.length : Int) : Int) := oda; obtain ⟨i021, hi021, _, hsz21, _⟩ := info_parts info36; have hroom21 : aA.length ≤ bE := iK.out; have hC21 : Kd.C k36 _ (some aX) aA.length aA := eE.out; have hcut21 := cut_to (P := Try.prog) 26 36 .i64 Try.underlying26 hi021 (some aX) aA.length bE aC (oda) q21 hroom21; have jF := Kd.C_take (m := (aC : Int).toNat) hC21 (by omega); have jG : eD.length = (aC : Int).toNat := (by rw [gO.out, List.length_take]; omega); rw [← gO.out] at jF; rw [← jG] at hcut21; have gX := aM jF; have gY := aM (show eD.length ≤ bE from by omega); clear jF hC21 hroom21 hi021 hsz21; have KY21 := aM jG; clear jG; replace q21 := eq_true q21; refine hK.out _ _ ⟨xc aB 0 rfl, xc aB 1 rfl, xc aB 2 rfl, xc aB 3 rfl, xc aB 4 rfl, xc aB 5 rfl, xc aD 0 rfl, xc aD 1 rfl, xc aD 2 rfl⟩ (fun hHeld => ?_); clear hK K; refine nm_ (N := 15) ?_; refine pv_ 3 16 (h := ?_); refine pv_ 4 17 (h := ?_); refine pv_ 5 18 (h := ?_); refine pv_ 7 20 (h := ?_); refine pv_ 9 22 (h := ?_); refine pv_ 13 26 (h := ?_); refine tk_ 6 19 (h := ?_); refine tk_ 8 21 (h := ?_); refine pv_ 10 23 (h := ?_); refine tk_ 14 27 (h := ?_); refine on_ 11 24 (h := fun K hK => ?_); refine goesY Try.func37 #[.slice (some aX) eD.length bE] ?_; with_reducible refine (impl_lastTerm.calls _ _ eD eC _ ?side1 ?side2 mE.out).mono ?_
         (case side1 => exact xcb gX); (case side2 => exact gY.out); rintro e w' ⟨rfl, ⟨nd, rfl⟩⟩; refine ⟨_, rfl, ?_⟩; refine hK.out _ _ ⟨xc aB 0 rfl, xc aB 1 rfl, xc aB 2 rfl, xc aB 3 rfl, xc aB 4 rfl, xc aB 5 rfl, xc aD 0 rfl, xc aD 1 rfl, xc aD 2 rfl⟩ (fun hHeld => ?_); clear hK K; refine nm_ (N := 24) ?_; refine pv_ 12 25 (h := ?_); refine on_ 15 28 (h := fun K hK => ?_); refine goes_ Try.func35 (by kernel_rfl) rfl #[.int .i64 ((rd_T36 aA aC).f0), .int .i64 ji12, .int .i64 aE] (by rfl) rfl rfl u10_5 ?_; with_reducible refine (impl_within.calls ((rd_T36 aA aC).f0) ji12 aE true _ oJ.out).mono ?_
         rintro e w' ⟨rfl, ⟨nd, rfl⟩⟩; refine ⟨_, rfl, ?_⟩; refine hK.out _ _ ⟨xc aB 0 rfl, xc aB 1 rfl, xc aB 2 rfl, xc aB 3 rfl, xc aB 4 rfl, xc aB 5 rfl, xc aD 0 rfl, xc aD 1 rfl, xc aD 2 rfl⟩ (fun hHeld => ?_); clear hK K; refine nm_ (N := 28) ?_; refine pv_ 16 29 (h := ?_); refine pv_ 17 30 (h := ?_); refine dn_ ?_; try go_wp2
         go_roundg k1
         case measure => have := HK1.out; omega
         case rel => exact ⟨(wrap64 (aC + 1)), u10_0, H', ⟨by have := HK1.out; omega⟩, ⟨xblk⟩, ⟨xbg⟩⟩
        ·replace kH := Bool.eq_false_iff.mpr kH; subst kH; replace H := iN H; obtain rfl := Option.some.inj H; have p302 : 0 ≤ (aC : Int) := oda; have q302 : aC < (aA.length : Int) := oda; obtain ⟨aX, gW, aO, aP, aQ, aR, aS, aT⟩ := at_T36 eE.out aC p302 q302; cases gW
         replace aO := xce HB aO; replace aP := xce HB aP; replace aQ := xce HB aQ; replace aR := xce HB aR; replace aS := xce HB aS; replace aT := xce HB aT; replace p302 := eq_true p302; replace q302 := eq_true q302; try go_wp2_with (first | ((with_reducible refine gD 4 rfl ?_); (try (refine gate_guard (by rfl) ?_; dsimp only)); refine boxE (N := 4) rfl (cs := #[.int .i64 0, .int .i64 0, .int .i64 0, .int .i64 0, .int .i64 0, .string (⟨#[]⟩ : ByteArray)]) (t := 36) ?_; intro aF hg oO hbox hb; have iL := aM (xge hg); have iM := aM (xge hg); replace HB := xbs hb; have aU := nblt aD hg; have aV := nbgt aD hg; replace aD := xbb aD hb; have aB := aM (hbox); clear hb hbox hg; have oP := aV.out; have oQ := aU.out; obtain ⟨kU, kV, kW, kX, kY, kZ, lA, lB, lC, lE, lF, lG⟩ := xf6 (w := oO) aB) | ((with_reducible refine gate_store (t := 36) (p := 4) rfl ?_); refine store_event (t := 36) (p := 4) (v := ?vo_w25) (w1 := ((((((oO.setCell ⟨aF, 0, none⟩ (.int .i64 ((rd_T36 aA aC).f0))).setCell ⟨aF, 1, none⟩ (.int .i64 ((rd_T36 aA aC).f1.f0))).setCell ⟨aF, 2, none⟩ (.int .i64 ((rd_T36 aA aC).f1.f1))).setCell ⟨aF, 3, none⟩ (.int .i64 ((rd_T36 aA aC).f1.f2))).setCell ⟨aF, 4, none⟩ (.int .i64 ((rd_T36 aA aC).f1.f3))).setCell ⟨aF, 5, none⟩ (.string ((rd_T36 aA aC).f1.f4)))) ?hg ?ho ?hn ?hr ?_; (case ho | hg | hn => rfl); (case hr => exact u10_2); intro oR hw; replace aD := xwc hw aD; replace aB : Aside0 (oR.heap[aF]? = some (.cells #[.int .i64 ((rd_T36 aA aC).f0), .int .i64 ((rd_T36 aA aC).f1.f0), .int .i64 ((rd_T36 aA aC).f1.f1), .int .i64 ((rd_T36 aA aC).f1.f2), .int .i64 ((rd_T36 aA aC).f1.f3), .string ((rd_T36 aA aC).f1.f4)] 36 (0, 0))) := xwp hw; replace HB := xbw hw HB; clear hw))
         replace aD := bD aD; replace aB := bD aB; replace HB := lD HB; refine st_ 18 (fun w' => w'.cell? ⟨aF, 0, none⟩ = some (.int .i64 ((rd_T36 aA aC).f0)) ∧ w'.cell? ⟨aF, 1, none⟩ = some (.int .i64 ((rd_T36 aA aC).f1.f0)) ∧ w'.cell? ⟨aF, 2, none⟩ = some (.int .i64 ((rd_T36 aA aC).f1.f1)) ∧ w'.cell? ⟨aF, 3, none⟩ = some (.int .i64 ((rd_T36 aA aC).f1.f2)) ∧ w'.cell? ⟨aF, 4, none⟩ = some (.int .i64 ((rd_T36 aA aC).f1.f3)) ∧ w'.cell? ⟨aF, 5, none⟩ = some (.string ((rd_T36 aA aC).f1.f4)) ∧ w'.cell? ⟨bO, 0, none⟩ = some (.int .i64 aE) ∧ w'.cell? ⟨bO, 1, none⟩ = some (.int .i64 aI) ∧ w'.cell? ⟨bO, 2, none⟩ = some (.slice (some aX) aA.length bE)) impl_HardOk.tab4 impl_HardOk.bits4 ⟨xc aB 0 rfl, xc aB 1 rfl, xc aB 2 rfl, xc aB 3 rfl, xc aB 4 rfl, xc aB 5 rfl, xc aD 0 rfl, xc aD 1 rfl, xc aD 2 rfl⟩ (fun hHeld HT_ HW_ => ?_); generalize oR.drew = pS at aD aB HB hHeld ⊢; refine pv_ 0 13 (h := ?_); refine tk_ 1 14 (h := ?_); refine on_ 2 15 (h := fun K hK => ?_); refine goesY Try.func36 #[.agg #[.int .i64 ((rd_T36 aA aC).f1.f0), .int .i64 ((rd_T36 aA aC).f1.f1), .int .i64 ((rd_T36 aA aC).f1.f2), .int .i64 ((rd_T36 aA aC).f1.f3), .string ((rd_T36 aA aC).f1.f4)]] ?_; with_reducible refine (impl_CmdOk.calls k1 ((rd_T36 aA aC).f1.f0) ((rd_T36 aA aC).f1.f1) ((rd_T36 aA aC).f1.f2) ((rd_T36 aA aC).f1.f3) ((rd_T36 aA aC).f1.f4) true _ A7.out).mono ?_
         rintro e pT ⟨rfl, hb⟩; refine ⟨_, rfl, ?_⟩; replace aD := xbb aD hb; replace aB := xbb aB hb; replace HB := xbs hb; (try clear hb); have q28 : (aC : Int) ≤ ((aA.length : Int) : Int) := oda; obtain ⟨i028, hi028, _, hsz28, _⟩ := info_parts info36; have hroom28 : aA.length ≤ bE := iK.out; have hC28 : Kd.C k36 _ (some aX) aA.length aA := eE.out; have hcut28 := cut_to (P := Try.prog) 26 36 .i64 Try.underlying26 hi028 (some aX) aA.length bE aC (oda) q28 hroom28; have jH := Kd.C_take (m := (aC : Int).toNat) hC28 (by omega); have jI : eD.length = (aC : Int).toNat := (by rw [gO.out, List.length_take]; omega); rw [← gO.out] at jH; rw [← jI] at hcut28; have gX := aM jH; have gY := aM (show eD.length ≤ bE from by omega); clear jH hC28 hroom28 hi028 hsz28; have KY28 := aM jI; clear jI; replace q28 := eq_true q28; refine hK.out _ _ ⟨xc aB 0 rfl, xc aB 1 rfl, xc aB 2 rfl, xc aB 3 rfl, xc aB 4 rfl, xc aB 5 rfl, xc aD 0 rfl, xc aD 1 rfl, xc aD 2 rfl⟩ (fun hHeld => ?_); clear hK K; refine nm_ (N := 15) ?_; refine pv_ 3 16 (h := ?_); refine pv_ 4 17 (h := ?_); refine pv_ 5 18 (h := ?_); refine pv_ 7 20 (h := ?_); refine pv_ 9 22 (h := ?_); refine pv_ 13 26 (h := ?_); refine tk_ 6 19 (h := ?_); refine tk_ 8 21 (h := ?_); refine pv_ 10 23 (h := ?_); refine tk_ 14 27 (h := ?_); refine on_ 11 24 (h := fun K hK => ?_); refine goesY Try.func37 #[.slice (some aX) eD.length bE] ?_; with_reducible refine (impl_lastTerm.calls _ _ eD eC _ ?side1 ?side2 mE.out).mono ?_
         (case side1 => exact xcb gX); (case side2 => exact gY.out); rintro e w' ⟨rfl, ⟨nd, rfl⟩⟩; refine ⟨_, rfl, ?_⟩; refine hK.out _ _ ⟨xc aB 0 rfl, xc aB 1 rfl, xc aB 2 rfl, xc aB 3 rfl, xc aB 4 rfl, xc aB 5 rfl, xc aD 0 rfl, xc aD 1 rfl, xc aD 2 rfl⟩ (fun hHeld => ?_); clear hK K; refine nm_ (N := 24) ?_; refine pv_ 12 25 (h := ?_); refine on_ 15 28 (h := fun K hK => ?_); refine goes_ Try.func35 (by kernel_rfl) rfl #[.int .i64 ((rd_T36 aA aC).f0), .int .i64 ji12, .int .i64 aE] (by rfl) rfl rfl u10_5 ?_; with_reducible refine (impl_within.calls ((rd_T36 aA aC).f0) ji12 aE false _ oJ.out).mono ?_
         rintro e w' ⟨rfl, ⟨nd, rfl⟩⟩; refine ⟨_, rfl, ?_⟩; refine hK.out _ _ ⟨xc aB 0 rfl, xc aB 1 rfl, xc aB 2 rfl, xc aB 3 rfl, xc aB 4 rfl, xc aB 5 rfl, xc aD 0 rfl, xc aD 1 rfl, xc aD 2 rfl⟩ (fun hHeld => ?_); clear hK K; refine nm_ (N := 28) ?_; refine pv_ 16 29 (h := ?_); refine pv_ 17 30 (h := ?_); refine dn_ ?_; try go_wp2
         go_ret
         exact ⟨by first | rfl | (simp [errW_none, errW_some] <;> rfl) | (simp only [← hji12]; first | rfl | (simp [errW_none, errW_some] <;> rfl)) | (simp [*, errW_none, errW_some] <;> rfl), xbg⟩
       ·rw [if_neg c10] at H; exact absurd H (by simp)
      ·replace c8 := Bool.eq_false_iff.mpr c8; subst c8; replace H := iN H; obtain rfl := Option.some.inj H; have p302 : 0 ≤ (aC : Int) := oda; have q302 : aC < (aA.length : Int) := oda; obtain ⟨aX, gW, aO, aP, aQ, aR, aS, aT⟩ := at_T36 eE.out aC p302 q302; cases gW
       replace aO := xce HB aO; replace aP := xce HB aP; replace aQ := xce HB aQ; replace aR := xce HB aR; replace aS := xce HB aS; replace aT := xce HB aT; replace p302 := eq_true p302; replace q302 := eq_true q302; try go_wp2_with (first | ((with_reducible refine gD 4 rfl ?_); (try (refine gate_guard (by rfl) ?_; dsimp only)); refine boxE (N := 4) rfl (cs := #[.int .i64 0, .int .i64 0, .int .i64 0, .int .i64 0, .int .i64 0, .string (⟨#[]⟩ : ByteArray)]) (t := 36) ?_; intro aF hg oT hbox hb; have iL := aM (xge hg); have iM := aM (xge hg); replace HB := xbs hb; have aU := nblt aD hg; have aV := nbgt aD hg; replace aD := xbb aD hb; have aB := aM (hbox); clear hb hbox hg; have oU := aV.out; have oV := aU.out; obtain ⟨dP, dQ, dR, dS, dU, lH, dV, dW, dX, dY, dZ, lI⟩ := xf6 (w := oT) aB) | ((with_reducible refine gate_store (t := 36) (p := 4) rfl ?_); refine store_event (t := 36) (p := 4) (v := ?vo_w32) (w1 := ((((((oT.setCell ⟨aF, 0, none⟩ (.int .i64 ((rd_T36 aA aC).f0))).setCell ⟨aF, 1, none⟩ (.int .i64 ((rd_T36 aA aC).f1.f0))).setCell ⟨aF, 2, none⟩ (.int .i64 ((rd_T36 aA aC).f1.f1))).setCell ⟨aF, 3, none⟩ (.int .i64 ((rd_T36 aA aC).f1.f2))).setCell ⟨aF, 4, none⟩ (.int .i64 ((rd_T36 aA aC).f1.f3))).setCell ⟨aF, 5, none⟩ (.string ((rd_T36 aA aC).f1.f4)))) ?hg ?ho ?hn ?hr ?_; (case ho | hg | hn => rfl); (case hr => exact u10_2); intro oW hw; replace aD := xwc hw aD; replace aB : Aside0 (oW.heap[aF]? = some (.cells #[.int .i64 ((rd_T36 aA aC).f0), .int .i64 ((rd_T36 aA aC).f1.f0), .int .i64 ((rd_T36 aA aC).f1.f1), .int .i64 ((rd_T36 aA aC).f1.f2), .int .i64 ((rd_T36 aA aC).f1.f3), .string ((rd_T36 aA aC).f1.f4)] 36 (0, 0))) := xwp hw; replace HB := xbw hw HB; clear hw))
       replace aD := bD aD; replace aB := bD aB; replace HB := lD HB; refine st_ 18 (fun w' => w'.cell? ⟨aF, 0, none⟩ = some (.int .i64 ((rd_T36 aA aC).f0)) ∧ w'.cell? ⟨aF, 1, none⟩ = some (.int .i64 ((rd_T36 aA aC).f1.f0)) ∧ w'.cell? ⟨aF, 2, none⟩ = some (.int .i64 ((rd_T36 aA aC).f1.f1)) ∧ w'.cell? ⟨aF, 3, none⟩ = some (.int .i64 ((rd_T36 aA aC).f1.f2)) ∧ w'.cell? ⟨aF, 4, none⟩ = some (.int .i64 ((rd_T36 aA aC).f1.f3)) ∧ w'.cell? ⟨aF, 5, none⟩ = some (.string ((rd_T36 aA aC).f1.f4))) impl_HardOk.tab4 impl_HardOk.bits4 ⟨xc aB 0 rfl, xc aB 1 rfl, xc aB 2 rfl, xc aB 3 rfl, xc aB 4 rfl, xc aB 5 rfl⟩ (fun hHeld HT_ HW_ => ?_); generalize oW.drew = pU at aD aB HB hHeld ⊢; refine pv_ 0 13 (h := ?_); refine tk_ 1 14 (h := ?_); refine on_ 2 15 (h := fun K hK => ?_); refine goesY Try.func36 #[.agg #[.int .i64 ((rd_T36 aA aC).f1.f0), .int .i64 ((rd_T36 aA aC).f1.f1), .int .i64 ((rd_T36 aA aC).f1.f2), .int .i64 ((rd_T36 aA aC).f1.f3), .string ((rd_T36 aA aC).f1.f4)]] ?_; with_reducible refine (impl_CmdOk.calls k1 ((rd_T36 aA aC).f1.f0) ((rd_T36 aA aC).f1.f1) ((rd_T36 aA aC).f1.f2) ((rd_T36 aA aC).f1.f3) ((rd_T36 aA aC).f1.f4) false _ A7.out).mono ?_
       rintro e pV ⟨rfl, hb⟩; refine ⟨_, rfl, ?_⟩; replace aD := xbb aD hb; replace aB := xbb aB hb; replace HB := xbs hb; (try clear hb); refine hK.out _ _ ⟨xc aB 0 rfl, xc aB 1 rfl, xc aB 2 rfl, xc aB 3 rfl, xc aB 4 rfl, xc aB 5 rfl⟩ (fun hHeld => ?_); clear hK K; refine nm_ (N := 15) ?_; refine pv_ 3 16 (h := ?_); refine pv_ 4 17 (h := ?_); refine pu_ 5 18 (h := ?_); refine pu_ 6 19 (h := ?_); refine pu_ 7 20 (h := ?_); refine pu_ 8 21 (h := ?_); refine pu_ 9 22 (h := ?_); refine pu_ 10 23 (h := ?_); refine pu_ 11 24 (h := ?_); refine pu_ 12 25 (h := ?_); refine pu_ 13 26 (h := ?_); refine pu_ 14 27 (h := ?_); refine pu_ 15 28 (h := ?_); refine pu_ 16 29 (h := ?_); refine pv_ 17 30 (h := ?_); refine dn_ ?_; try go_wp2
       go_ret
       exact ⟨u10_3, xbg⟩
     ·rw [if_neg c6] at H; exact absurd H (by simp)
    ·rw [if_neg c5] at H; exact absurd H (by simp)
   ·rw [if_neg c4] at H; have jN : decide (aC < (aA.length : Int)) = false := decide_eq_false c4; clear c4; replace H := oB H; obtain ⟨iX, jQ, H⟩ := H; (try dsimp only at H); have mF := aM jQ; clear jQ
    by_cases hU : iX = true
    ·subst hU; replace H := iT H; replace H := oB H; obtain ⟨iY, jR, H⟩ := H; (try dsimp only at H); have oX := aM jR; clear jR
     by_cases lJ : iY = true
     ·subst lJ; replace H := iT H; obtain rfl := Option.some.inj H; obtain ⟨hY, hZ, iA, iB, iC, iD⟩ := xf3 (w := wr) aD; go_wp2_with (first | ((with_reducible refine gC 38 rfl ?_); refine goesLY (some 34) rfl Try.func38 #[.int .i64 aE] ?_; (with_reducible refine (impl_isWhole.calls aE true _ mF.out).mono ?_); rintro e w' ⟨rfl, ⟨nd, rfl⟩⟩; refine ⟨_, rfl, ?_⟩) | (go_at_call 35; (with_reducible refine (impl_within.calls aI 0 5 true _ oX.out).mono ?_); rintro e w' ⟨rfl, ⟨nd, rfl⟩⟩))
      go_ret
      exact ⟨u10_3, xbg⟩
     ·replace lJ := Bool.eq_false_iff.mpr lJ; subst lJ; replace H := iN H; obtain rfl := Option.some.inj H; obtain ⟨lK, lL, lM, lN, lO, lP⟩ := xf3 (w := wr) aD; go_wp2_with (first | ((with_reducible refine gC 38 rfl ?_); refine goesLY (some 34) rfl Try.func38 #[.int .i64 aE] ?_; (with_reducible refine (impl_isWhole.calls aE true _ mF.out).mono ?_); rintro e w' ⟨rfl, ⟨nd, rfl⟩⟩; refine ⟨_, rfl, ?_⟩) | (go_at_call 35; (with_reducible refine (impl_within.calls aI 0 5 false _ oX.out).mono ?_); rintro e w' ⟨rfl, ⟨nd, rfl⟩⟩))
      go_ret
      exact ⟨u10_3, xbg⟩
    ·replace hU := Bool.eq_false_iff.mpr hU; subst hU; replace H := iN H; obtain rfl := Option.some.inj H; obtain ⟨lQ, lR, lS, lT, lU, lV⟩ := xf3 (w := wr) aD; go_wp2_with (first | ((with_reducible refine gC 38 rfl ?_); refine goesLY (some 34) rfl Try.func38 #[.int .i64 aE] ?_; (with_reducible refine (impl_isWhole.calls aE false _ mF.out).mono ?_); rintro e w' ⟨rfl, ⟨nd, rfl⟩⟩; refine ⟨_, rfl, ?_⟩))
     go_ret
     exact ⟨u10_3, xbg⟩

/-! ### impl_entryOk: function 54 -/
def impl_entryOk.f (k : Nat) (aE : Int) (aI : Int) (aJ : Int) (aG : Int) (aH : Int) (eG : ByteArray) : Option (Bool) := (impl_within.f aE 1 1000000000).bind fun gZ => (if gZ = true then ((impl_CmdOk.f k aI aJ aG aH eG).bind fun hJ => (some hJ)) else (some false))
theorem u10_mq2 {p : Prop} (h : p := by repeat' first | (with_reducible first | exact impl_CmdOk.mono _ _ _ _ _ _ | exact LeO.refl _ | exact LeO.none _ | refine LeO.ite ?_ ?_ | refine LeO.bind ?_ (fun _ => ?_)) | exact impl_CmdOk.mono _ _ _ _ _ _ | exact LeO.none _ | refine LeO.ite ?_ ?_ | refine LeO.bind ?_ (fun _ => ?_)) : p := h
theorem impl_entryOk.mono : ∀ a0 a1 a2 a3 a4 a5 k, LeO (impl_entryOk.f k a0 a1 a2 a3 a4 a5) (impl_entryOk.f (k + 1) a0 a1 a2 a3 a4 a5) := by
 intro a0 a1 a2 a3 a4 a5 k
 unfold impl_entryOk.f
 exact u10_mq2
set_option maxHeartbeats 8000000 in
set_option maxRecDepth 100000 in
theorem impl_entryOk.calls (k : Nat) (aE : Int) (aI : Int) (aJ : Int) (aG : Int) (aH : Int) (eG : ByteArray) (r : Bool) (w : World) (h : impl_entryOk.f k aE aI aJ aG aH eG = some r) :
 Calls Try.prog 54 #[.agg #[.int .i64 aE, .int .i64 aI, .int .i64 aJ, .int .i64 aG, .int .i64 aH, .string eG]] w fun e w' => e = .returned (.bool r) ∧ Below w.heap.size w w' := by
 have mD := Try.underlying36
 have jK := Try.underlying34
 have HB := aM (Below.refl w.heap.size w)
 have H : ((impl_within.f aE 1 1000000000).bind fun gZ => (if gZ = true then ((impl_CmdOk.f k aI aJ aG aH eG).bind fun hJ => (some hJ)) else (some false))) = some r := h
 clear h
 replace H := oB H
 obtain ⟨gZ, iF, H⟩ := H
 (try dsimp only at H)
 have A2 := aM iF
 clear iF
 by_cases c3 : gZ = true
 ·subst c3; replace H := iT H; replace H := oB H; obtain ⟨hJ, oY, H⟩ := H; (try dsimp only at H); have A4 := aM oY; clear oY
  obtain rfl := Option.some.inj H; go_enter Try.func54, Try.ntmps54
  go_wp2_with (first | ((with_reducible refine gD 1 rfl ?_); refine boxE (N := 1) rfl (cs := #[.int .i64 aE, .int .i64 aI, .int .i64 aJ, .int .i64 aG, .int .i64 aH, .string eG]) (t := 36) ?_; intro jS hg w5 hbox hb; have eH := aM (hbox); have jT := aM (xge hg); have jU := aM (xge hg); replace HB := xbs hb; clear hb hbox hg; obtain ⟨mG, mH, mI, mJ, mK, mL, mM, mN, mO, mP, mQ, mR⟩ := xf6 (w := w5) eH) | ((with_reducible refine gC 35 rfl ?_); refine goesLY (some 5) rfl Try.func35 #[.int .i64 aE, .int .i64 1, .int .i64 1000000000] ?_; (with_reducible refine (impl_within.calls aE 1 1000000000 true _ A2.out).mono ?_); rintro e w' ⟨rfl, ⟨nd, rfl⟩⟩; refine ⟨_, rfl, ?_⟩) | (go_at_call 36; (with_reducible refine (impl_CmdOk.calls k aI aJ aG aH eG hJ _ A4.out).mono ?_); rintro e w7 ⟨rfl, hb⟩; replace eH := xbb eH hb; replace HB := xbs hb; (try clear hb)))
  go_ret
  exact ⟨xerr, xbg⟩
 ·replace c3 := Bool.eq_false_iff.mpr c3; subst c3; replace H := iN H; obtain rfl := Option.some.inj H; go_enter Try.func54, Try.ntmps54
  go_wp2_with (first | ((with_reducible refine gD 1 rfl ?_); refine boxE (N := 1) rfl (cs := #[.int .i64 aE, .int .i64 aI, .int .i64 aJ, .int .i64 aG, .int .i64 aH, .string eG]) (t := 36) ?_; intro jS hg w8 hbox hb; have eH := aM (hbox); have jT := aM (xge hg); have jU := aM (xge hg); replace HB := xbs hb; clear hb hbox hg; obtain ⟨mS, mT, mU, mV, mW, mX, mY, mZ, nA, nB, nC, nD⟩ := xf6 (w := w8) eH) | ((with_reducible refine gC 35 rfl ?_); refine goesLY (some 5) rfl Try.func35 #[.int .i64 aE, .int .i64 1, .int .i64 1000000000] ?_; (with_reducible refine (impl_within.calls aE 1 1000000000 false _ A2.out).mono ?_); rintro e w' ⟨rfl, ⟨nd, rfl⟩⟩; refine ⟨_, rfl, ?_⟩))
  go_ret
  exact ⟨xerr, xbg⟩

end Go.Proofs.Ytocpomkfilpflaa.QFnExactHardLoad
