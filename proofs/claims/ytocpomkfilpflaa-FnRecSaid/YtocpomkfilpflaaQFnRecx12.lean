-- A walk, by a program of this session.
import Derived.Test.YtocpomkfilpflaaQFnRecx0
import Derived.Test.YtocpomkfilpflaaQFnRecx1
import Derived.Test.YtocpomkfilpflaaQFnRecx2
import Derived.Test.YtocpomkfilpflaaQFnRecx17
namespace Go.Proofs.Ytocpomkfilpflaa.QFnRec
open Go.RowKit Go.Proofs.YtocpomkfilpflaaW.PrintWords Go.Proofs.YtocpomkfilpflaaW.PrintLast Go.Proofs.YtocpomkfilpflaaW.PrintMore
attribute [local go_sem] max2_int min2_int max_two min_two max_three min_three max_four min_four   -- for this text's walks alone
set_option linter.unusedVariables false
set_option linter.unusedSimpArgs false

attribute [local go_sem high] eqA34 eqA36
theorem u12_0 {p : Prop} (h : p := by first | rfl | (simp; done) | (simp [*]; done)) : p := h
theorem u12_1 {p : Prop} (h : p := by first | omega | exact Nat.le_refl _) : p := h
theorem u12_2 {p : Prop} (h : p := by first | (rw [hY]; with_reducible exact H) | (have H2_ := oS H; rw [hY]; with_reducible exact H2_) | (have H2_ := oS H; with_reducible exact H2_) | with_reducible exact H | (rw [hY]; exact H) | exact H) : p := h
/-! ### impl_CmdOk: function 36 -/
mutual
def impl_CmdOk.j2 : Nat → Bool → Int → Int → Int → Int → ByteArray → Option (Bool)
 | 0, _, _, _, _, _, _ => none
 | k + 1, x4, bE, bG, bH, bP, bQ => if x4 = true then (some (bE == 0 && (bG == 0 && (bH == 0 && (bP == 0 && (bQ.toList == ([] : List UInt8))))))) else (some false)
def impl_CmdOk.j0 : Nat → Bool → Int → Int → Int → Int → ByteArray → Option (Bool)
 | 0, _, _, _, _, _, _ => none
 | k + 1, x4, bE, bG, bH, bP, bQ => impl_CmdOk.j2 k x4 bE bG bH 0 (⟨#[]⟩ : ByteArray)
def impl_CmdOk.j1 : Nat → Bool → Bool → Int → Int → Int → Int → ByteArray → Option (Bool)
 | 0, _, _, _, _, _, _, _ => none
 | k + 1, x4, xD, bE, bG, bH, bP, bQ => if xD = true then (impl_CmdOk.j2 k x4 bE bG bH bP bQ) else (some false)
end
def impl_CmdOk.f (k : Nat) (aE : Int) (aG : Int) (aD : Int) (aA : Int) (aC : ByteArray) : Option (Bool) := (impl_isRelease.f aG).bind fun bC => (if aE = 1 then (impl_CmdOk.j2 k (aG == 0) 0 0 aD aA aC) else (if aE = 2 then (if bC = true then ((impl_isSize.f aA).bind fun gQ => (if gQ = true then (impl_CmdOk.j0 k ((aC.size : Int) == 32) 0 0 aD aA aC) else (impl_CmdOk.j0 k false 0 0 aD aA aC))) else (impl_CmdOk.j0 k false 0 0 aD aA aC)) else (if aE = 3 then (if bC = true then ((impl_isNode.f aD).bind fun gO => (impl_CmdOk.j2 k gO 0 0 0 aA aC)) else (impl_CmdOk.j2 k false 0 0 0 aA aC)) else (if aE = 4 then (impl_CmdOk.j1 k bC (aE == 4) 0 0 aD aA aC) else (impl_CmdOk.j1 k bC (aE == 5) 0 0 aD aA aC)))))
theorem u12_mq0 {p : Prop} (h : p := by repeat' first | (with_reducible first | exact iA _ _ _ _ _ _ | exact vW _ _ _ _ _ _ | exact vX _ _ _ _ _ _ _ | exact LeO.refl _ | exact LeO.none _ | refine LeO.ite ?_ ?_ | refine LeO.bind ?_ (fun _ => ?_)) | exact LeO.none _ | refine LeO.ite ?_ ?_ | refine LeO.bind ?_ (fun _ => ?_)) : p := h
set_option maxRecDepth 100000 in
theorem impl_CmdOk.mono_l : ∀ k, (∀ y0 y1 y2 y3 y4 y5, LeO (impl_CmdOk.j2 k y0 y1 y2 y3 y4 y5) (impl_CmdOk.j2 (k + 1) y0 y1 y2 y3 y4 y5)) ∧ (∀ y0 y1 y2 y3 y4 y5, LeO (impl_CmdOk.j0 k y0 y1 y2 y3 y4 y5) (impl_CmdOk.j0 (k + 1) y0 y1 y2 y3 y4 y5)) ∧ (∀ y0 y1 y2 y3 y4 y5 y6, LeO (impl_CmdOk.j1 k y0 y1 y2 y3 y4 y5 y6) (impl_CmdOk.j1 (k + 1) y0 y1 y2 y3 y4 y5 y6))
 | 0 => ⟨fun _ _ _ _ _ _ r h => by simp [impl_CmdOk.j2] at h, fun _ _ _ _ _ _ r h => by simp [impl_CmdOk.j0] at h, fun _ _ _ _ _ _ _ r h => by simp [impl_CmdOk.j1] at h⟩
 | k + 1 => by
  obtain ⟨iA, vW, vX⟩ := impl_CmdOk.mono_l k; refine ⟨?_, ?_, ?_⟩
  ·intro y0 y1 y2 y3 y4 y5; unfold impl_CmdOk.j2; exact u12_mq0
  ·intro y0 y1 y2 y3 y4 y5; unfold impl_CmdOk.j0; exact u12_mq0
  ·intro y0 y1 y2 y3 y4 y5 y6; unfold impl_CmdOk.j1; exact u12_mq0
theorem impl_CmdOk.mono : ∀ a0 a1 a2 a3 a4 k, LeO (impl_CmdOk.f k a0 a1 a2 a3 a4) (impl_CmdOk.f (k + 1) a0 a1 a2 a3 a4) := by
 intro a0 a1 a2 a3 a4 k
 obtain ⟨iA, vW, vX⟩ := impl_CmdOk.mono_l k
 unfold impl_CmdOk.f
 exact u12_mq0
set_option maxHeartbeats 8000000 in
set_option maxRecDepth 100000 in
theorem impl_CmdOk.calls (k : Nat) (aE : Int) (aG : Int) (aD : Int) (aA : Int) (aC : ByteArray) (r : Bool) (w : World) (h : impl_CmdOk.f k aE aG aD aA aC = some r) :
 Calls Try.prog 36 #[.agg #[.int .i64 aE, .int .i64 aG, .int .i64 aD, .int .i64 aA, .string aC]] w fun e w' => e = .returned (.bool r) ∧ Below w.heap.size w w' := by
 have uO := Try.underlying34
 have HB := aM (Below.refl w.heap.size w)
 have H : ((impl_isRelease.f aG).bind fun bC => (if aE = 1 then (impl_CmdOk.j2 k (aG == 0) 0 0 aD aA aC) else (if aE = 2 then (if bC = true then ((impl_isSize.f aA).bind fun gQ => (if gQ = true then (impl_CmdOk.j0 k ((aC.size : Int) == 32) 0 0 aD aA aC) else (impl_CmdOk.j0 k false 0 0 aD aA aC))) else (impl_CmdOk.j0 k false 0 0 aD aA aC)) else (if aE = 3 then (if bC = true then ((impl_isNode.f aD).bind fun gO => (impl_CmdOk.j2 k gO 0 0 0 aA aC)) else (impl_CmdOk.j2 k false 0 0 0 aA aC)) else (if aE = 4 then (impl_CmdOk.j1 k bC (aE == 4) 0 0 aD aA aC) else (impl_CmdOk.j1 k bC (aE == 5) 0 0 aD aA aC)))))) = some r := h
 clear h
 replace H := oB H
 obtain ⟨bC, jA, H⟩ := H
 (try dsimp only at H)
 have A2 := aM jA
 clear jA
 have uP := aM H
 clear H
 go_enter Try.func36, Try.ntmps36
 go_upto_block 0 with (first | ((with_reducible refine gD 1 rfl ?_); (try (refine gate_guard (by rfl) ?_; dsimp only)); refine boxE (N := 1) rfl (cs := #[.int .i64 aE, .int .i64 aG, .int .i64 aD, .int .i64 aA, .string aC]) (t := 34) ?_; intro gR hg w4 hbox hb; have aV := aM (hbox); have vY := aM (xge hg); have vZ := aM (xge hg); replace HB := xbs hb; clear hb hbox hg; obtain ⟨eT, eU, eV, eW, eX, eY, eZ, fA, fB, fC⟩ := xf5 (w := w4) aV) | ((with_reducible refine gD 3 rfl ?_); (try (refine gate_guard (by rfl) ?_; dsimp only)); refine boxE (N := 3) rfl (cs := #[.int .i64 0, .int .i64 0, .int .i64 0, .int .i64 0, .string (⟨#[]⟩ : ByteArray)]) (t := 34) ?_; intro bI hg w6 hbox hb; have wA := aM (xge hg); have wB := aM (xge hg); replace HB := xbs hb; have aJ := nblt aV hg; have aK := nbgt aV hg; replace aV := xbb aV hb; have bB := aM (hbox); clear hb hbox hg; have xE := aK.out; have xF := aJ.out; obtain ⟨fD, fE, fF, fG, fH, fI, fJ, fK, fL, fM⟩ := xf5 (w := w6) bB) | ((with_reducible refine gate_store (t := 34) (p := 3) rfl ?_); refine store_event (t := 34) (p := 3) (v := ?vo_w9) (w1 := (((((w6.setCell ⟨bI, 0, none⟩ (.int .i64 aE)).setCell ⟨bI, 1, none⟩ (.int .i64 aG)).setCell ⟨bI, 2, none⟩ (.int .i64 aD)).setCell ⟨bI, 3, none⟩ (.int .i64 aA)).setCell ⟨bI, 4, none⟩ (.string aC))) ?hg ?ho ?hn ?hr ?_; (case ho | hg | hn => rfl); (case hr => first | (go_simp; done) | (go_simp; rfl)); intro w9 hw; replace aV := xwc hw aV; replace bB : Aside0 (w9.heap[bI]? = some (.cells #[.int .i64 aE, .int .i64 aG, .int .i64 aD, .int .i64 aA, .string aC] 34 (0, 0))) := xwp hw; replace HB := xbw hw HB; clear hw; obtain ⟨cO, cP, cQ, cS, cT, cU, cV, cW, cX, cY⟩ := xf5 (w := w9) bB; obtain ⟨bR, bU, bV, bW, bX, bY, bZ, cA, cB, cC⟩ := xf5 (w := w9) aV) | ((with_reducible refine gC 68 rfl ?_); refine goesLY (some 10) rfl Try.func68 #[.int .i64 aG] ?_; (with_reducible refine (impl_isRelease.calls aG bC _ A2.out).mono ?_); rintro e w' ⟨rfl, ⟨nd, rfl⟩⟩; refine ⟨_, rfl, ?_⟩))
 (try simp only [Act.put, List.setIfInBounds_toArray, List.set_cons_zero, List.set_cons_succ])
 go_cut [4] (fun v4 wc => ∃ (kq : Nat) (hU : Bool) (bL : Int) (bM : Int) (bN : ByteArray), v4 = .bool hU ∧ Aside0 (impl_CmdOk.j2 kq hU 0 0 bL bM bN = some r) ∧ Aside0 (kq ≤ k) ∧ Aside0 (wc.heap[gR]? = some (.cells #[.int .i64 aE, .int .i64 aG, .int .i64 aD, .int .i64 aA, .string aC] 34 (0, 0))) ∧ Aside0 (wc.heap[bI]? = some (.cells #[.int .i64 0, .int .i64 0, .int .i64 bL, .int .i64 bM, .string bN] 34 (0, 0))) ∧ Aside0 (Below w.heap.size w wc))
 case first =>
  have H := uP.out; clear uP; by_cases iB : aE = 1
  ·rw [if_pos iB] at H; obtain ⟨bO, fN⟩ := bT iB; clear iB; (first | rw [bO] | (simp only [i64_w, i32_w]; rw [bO]) | skip); have H' := aM H; clear H; have wC := aJ.out; have wD := aK.out; obtain ⟨cZ, dA, dB, dC, dD, dE, dF, dG, dH, dI⟩ := xf5 (w := w9) aV; go_wp2; go_meet
   case rel => exact ⟨_, ((aG == 0)), (aD), (aA), (aC), u12_0, H', ⟨u12_1⟩, ⟨xB⟩, ⟨xP⟩, ⟨xbg⟩⟩
  ·rw [if_neg iB] at H; obtain ⟨bO, fN⟩ := bF iB; (first | rw [bO] | (simp only [i64_w, i32_w]; rw [bO]) | skip); by_cases iC : aE = 2
   ·rw [if_pos iC] at H; obtain ⟨fO, fP⟩ := bT iC; clear iC; have iF := aM H; clear H; go_upto_region 9 with (fail)
    go_cut [4] (fun v4 wc => ∃ (kq : Nat) (fQ : Bool), v4 = .bool fQ ∧ Aside0 (impl_CmdOk.j0 kq fQ 0 0 aD aA aC = some r) ∧ Aside0 (kq ≤ k) ∧ Aside0 (wc.heap[gR]? = some (.cells #[.int .i64 aE, .int .i64 aG, .int .i64 aD, .int .i64 aA, .string aC] 34 (0, 0))) ∧ Aside0 (wc.heap[bI]? = some (.cells #[.int .i64 0, .int .i64 0, .int .i64 aD, .int .i64 aA, .string aC] 34 (0, 0))) ∧ Aside0 (Below w.heap.size w wc))
    case first =>
     have H := iF.out; clear iF; by_cases iG : bC = true
     ·subst iG; replace H := iT H; replace H := oB H; obtain ⟨gQ, jB, H⟩ := H; (try dsimp only at H); have wE := aM jB; clear jB
      by_cases iH : gQ = true
      ·subst iH; replace H := iT H; have H' := aM H; clear H; have wF := aJ.out; have wG := aK.out; obtain ⟨dJ, dK, dL, dM, dN, dO, dP, dQ, dR, dS⟩ := xf5 (w := w9) aV; go_wp2_with (first | (go_at_call 69; (with_reducible refine (impl_isSize.calls aA true _ wE.out).mono ?_); rintro e w' ⟨rfl, ⟨nd, rfl⟩⟩))
       go_meet
       case rel => exact ⟨_, (((aC.size : Int) == 32)), u12_0, H', ⟨u12_1⟩, ⟨xB⟩, ⟨xP⟩, ⟨xbg⟩⟩
      ·replace iH := Bool.eq_false_iff.mpr iH; subst iH; replace H := iN H; have H' := aM H; clear H; have wH := aJ.out; have wI := aK.out; obtain ⟨cD, cE, cF, cG, cH, cI, cJ, cK, cL, cM⟩ := xf5 (w := w9) aV; go_wp2_with (first | (go_at_call 69; (with_reducible refine (impl_isSize.calls aA false _ wE.out).mono ?_); rintro e w' ⟨rfl, ⟨nd, rfl⟩⟩))
       go_meet
       case rel => exact ⟨_, (false), u12_0, H', ⟨u12_1⟩, ⟨xB⟩, ⟨xP⟩, ⟨xbg⟩⟩
     ·replace iG := Bool.eq_false_iff.mpr iG; subst iG; replace H := iN H; have H' := aM H; clear H; go_wp2; go_meet
      case rel => exact ⟨_, (false), u12_0, H', ⟨u12_1⟩, ⟨xB⟩, ⟨xP⟩, ⟨xbg⟩⟩
    case rest =>
     clear iF; try clear c1
     try clear c2
     try clear p2
     try clear c3
     try clear c6
     try clear c7
     try clear iB
     try clear bO
     try clear fN
     try clear wJ
     try clear iC
     try clear fO
     try clear fP
     try clear iG
     try clear iH
     try clear iI
     try clear wK
     try clear cO cP cQ cS cT
     try clear bR bU bV bW bX
     try clear cZ dA dB dC dD
     try clear dJ dK dL dM dN
     try clear cD cE cF cG cH
     try clear eT eU eV eW eX
     try clear fD fE fF fG fH
     try clear cU cV cW cX cY
     try clear bY bZ cA cB cC
     try clear dE dF dG dH dI
     try clear dO dP dQ dR dS
     try clear cI cJ cK cL cM
     try clear eY eZ fA fB fC
     try clear fI fJ fK fL fM
     obtain ⟨kq, fQ, rfl, HA, HJ15, aV, bB, HB⟩ := hcut; cases kq with
     | zero => exact absurd HA.out (by simp [impl_CmdOk.j0])
     | succ xG =>
      have H := HA.out; clear HA; simp only [impl_CmdOk.j0] at H; have H' := aM H; clear H; have wL := aK.out; have wM := aJ.out; obtain ⟨dU, dV, dW, dX, dY, dZ, eA, eB, eC, eD⟩ := xf5 (w := wc) bB; go_wp2; go_meet
      case rel => exact ⟨_, (fQ), (aD), (0), ((⟨#[]⟩ : ByteArray)), u12_0, H', ⟨by have := HJ15.out; first | omega | exact Nat.le_refl _⟩, ⟨xB⟩, ⟨xP⟩, ⟨xbg⟩⟩
   ·rw [if_neg iC] at H; obtain ⟨fO, fP⟩ := bF iC; by_cases iJ : aE = 3
    ·rw [if_pos iJ] at H; obtain ⟨gS, gT⟩ := bT iJ; clear iJ; by_cases iZ : bC = true
     ·subst iZ; replace H := iT H; replace H := oB H; obtain ⟨gO, jC, H⟩ := H; (try dsimp only at H); have xH := aM jC; clear jC
      have H' := aM H; clear H; have wN := aJ.out; have wO := aK.out; obtain ⟨fR, fS, fT, fU, fV, fW, fX, fY, fZ, gA⟩ := xf5 (w := w9) aV; go_wp2_with (first | (go_at_call 70; (with_reducible refine (impl_isNode.calls aD gO _ xH.out).mono ?_); rintro e w' ⟨rfl, ⟨nd, rfl⟩⟩; obtain ⟨eE, eF, eG, eH, eI, eJ, eK, eL, eM, eN⟩ := xf5 (w := w9) bB))
      go_meet
      case rel => exact ⟨_, (gO), (0), (aA), (aC), u12_0, H', ⟨u12_1⟩, ⟨xB⟩, ⟨xP⟩, ⟨xbg⟩⟩
     ·replace iZ := Bool.eq_false_iff.mpr iZ; subst iZ; replace H := iN H; have H' := aM H; clear H; have wP := aK.out; have wQ := aJ.out; obtain ⟨gB, gE, gF, gG, gH, gI, gJ, gK, gL, gM⟩ := xf5 (w := w9) bB; go_wp2; go_meet
      case rel => exact ⟨_, (false), (0), (aA), (aC), u12_0, H', ⟨u12_1⟩, ⟨xB⟩, ⟨xP⟩, ⟨xbg⟩⟩
    ·rw [if_neg iJ] at H; obtain ⟨gS, gT⟩ := bF iJ; have iK := aM H; clear H; go_upto_if 43 with (fail)
     go_cut [43] (fun v43 wc => ∃ (kq : Nat) (eO : Bool), v43 = .bool eO ∧ Aside0 (impl_CmdOk.j1 kq bC eO 0 0 aD aA aC = some r) ∧ Aside0 (kq ≤ k) ∧ Aside0 (wc.heap[gR]? = some (.cells #[.int .i64 aE, .int .i64 aG, .int .i64 aD, .int .i64 aA, .string aC] 34 (0, 0))) ∧ Aside0 (wc.heap[bI]? = some (.cells #[.int .i64 0, .int .i64 0, .int .i64 aD, .int .i64 aA, .string aC] 34 (0, 0))) ∧ Aside0 (Below w.heap.size w wc))
     case first =>
      have H := iK.out; clear iK; by_cases gP : aE = 4
      ·rw [if_pos gP] at H; obtain ⟨bJ, eP⟩ := bT gP; clear gP; (first | rw [bJ] | (simp only [i64_w, i32_w]; rw [bJ]) | skip); have H' := aM H; clear H; go_wp2; go_meet
       case rel => exact ⟨_, ((aE == 4)), u12_0, H', ⟨u12_1⟩, ⟨xB⟩, ⟨xP⟩, ⟨xbg⟩⟩
      ·rw [if_neg gP] at H; obtain ⟨bJ, eP⟩ := bF gP; (first | rw [bJ] | (simp only [i64_w, i32_w]; rw [bJ]) | skip); have H' := aM H; clear H; go_wp2; go_meet
       case rel => exact ⟨_, ((aE == 5)), u12_0, H', ⟨u12_1⟩, ⟨xB⟩, ⟨xP⟩, ⟨xbg⟩⟩
     case rest =>
      clear iK; try clear c1
      try clear c2
      try clear p2
      try clear c3
      try clear c6
      try clear c7
      try clear iB
      try clear bO
      try clear fN
      try clear wJ
      try clear iC
      try clear fO
      try clear fP
      try clear iG
      try clear iH
      try clear iI
      try clear wK
      try clear xI
      try clear iJ
      try clear gS
      try clear gT
      try clear iZ
      try clear xJ
      try clear xL
      try clear gP
      try clear bJ
      try clear eP
      try clear cO cP cQ cS cT
      try clear bR bU bV bW bX
      try clear cZ dA dB dC dD
      try clear dJ dK dL dM dN
      try clear cD cE cF cG cH
      try clear dU dV dW dX dY
      try clear fR fS fT fU fV
      try clear eE eF eG eH eI
      try clear gB gE gF gG gH
      try clear eT eU eV eW eX
      try clear fD fE fF fG fH
      try clear cU cV cW cX cY
      try clear bY bZ cA cB cC
      try clear dE dF dG dH dI
      try clear dO dP dQ dR dS
      try clear cI cJ cK cL cM
      try clear dZ eA eB eC eD
      try clear fW fX fY fZ gA
      try clear eJ eK eL eM eN
      try clear gI gJ gK gL gM
      try clear eY eZ fA fB fC
      try clear fI fJ fK fL fM
      try clear p2
      obtain ⟨kq, eO, rfl, HA, HJ33, aV, bB, HB⟩ := hcut; cases kq with
      | zero => exact absurd HA.out (by simp [impl_CmdOk.j1])
      | succ xM =>
       have H := HA.out; clear HA; simp only [impl_CmdOk.j1] at H; by_cases jD : eO = true
       ·subst jD; replace H := iT H; have H' := aM H; clear H; go_wp2; go_meet
        case rel => exact ⟨_, (bC), (aD), (aA), (aC), u12_0, H', ⟨by have := HJ33.out; first | omega | exact Nat.le_refl _⟩, ⟨xblk⟩, ⟨xblk⟩, ⟨xbg⟩⟩
       ·replace jD := Bool.eq_false_iff.mpr jD; subst jD; replace H := iN H; obtain rfl := Option.some.inj H; go_wp2; go_ret
        exact ⟨xerr, xbg⟩
 case rest =>
  clear uP; try clear c1
  try clear c2
  try clear p2
  try clear c3
  try clear c6
  try clear c7
  try clear iB
  try clear bO
  try clear fN
  try clear wJ
  try clear iC
  try clear fO
  try clear fP
  try clear iG
  try clear iH
  try clear iI
  try clear wK
  try clear xI
  try clear iJ
  try clear gS
  try clear gT
  try clear iZ
  try clear xJ
  try clear xL
  try clear gP
  try clear bJ
  try clear eP
  try clear jD
  try clear cO cP cQ cS cT
  try clear bR bU bV bW bX
  try clear cZ dA dB dC dD
  try clear dJ dK dL dM dN
  try clear cD cE cF cG cH
  try clear dU dV dW dX dY
  try clear fR fS fT fU fV
  try clear eE eF eG eH eI
  try clear gB gE gF gG gH
  try clear eT eU eV eW eX
  try clear fD fE fF fG fH
  try clear cU cV cW cX cY
  try clear bY bZ cA cB cC
  try clear dE dF dG dH dI
  try clear dO dP dQ dR dS
  try clear cI cJ cK cL cM
  try clear dZ eA eB eC eD
  try clear fW fX fY fZ gA
  try clear eJ eK eL eM eN
  try clear gI gJ gK gL gM
  try clear eY eZ fA fB fC
  try clear fI fJ fK fL fM
  try clear p2
  obtain ⟨kq, hU, bL, bM, bN, rfl, HA, HJ2, aV, bB, HB⟩ := hcut; cases kq with
  | zero => exact absurd HA.out (by simp [impl_CmdOk.j2])
  | succ yE =>
   have H := HA.out; clear HA; simp only [impl_CmdOk.j2] at H; by_cases hX : hU = true
   ·subst hX; replace H := iT H; obtain rfl := Option.some.inj H; have wR := aK.out; have wS := aJ.out; obtain ⟨kM, kN, kO, kP, kQ, kR, kS, kT, kU, kV⟩ := xf5 (w := wc) bB; go_wp2; go_ret
    exact ⟨xerr, xbg⟩
   ·replace hX := Bool.eq_false_iff.mpr hX; subst hX; replace H := iN H; obtain rfl := Option.some.inj H; go_wp2; go_ret
    exact ⟨xerr, xbg⟩

/-! ### impl_entryOk: function 54 -/
def impl_entryOk.f (k : Nat) (aE : Int) (aG : Int) (aD : Int) (aA : Int) (aC : Int) (aI : ByteArray) : Option (Bool) := (impl_within.f aE 1 1000000000).bind fun gU => (if gU = true then ((impl_CmdOk.f k aG aD aA aC aI).bind fun gV => (some gV)) else (some false))
theorem u12_mq1 {p : Prop} (h : p := by repeat' first | (with_reducible first | exact impl_CmdOk.mono _ _ _ _ _ _ | exact LeO.refl _ | exact LeO.none _ | refine LeO.ite ?_ ?_ | refine LeO.bind ?_ (fun _ => ?_)) | exact LeO.none _ | refine LeO.ite ?_ ?_ | refine LeO.bind ?_ (fun _ => ?_)) : p := h
theorem impl_entryOk.mono : ∀ a0 a1 a2 a3 a4 a5 k, LeO (impl_entryOk.f k a0 a1 a2 a3 a4 a5) (impl_entryOk.f (k + 1) a0 a1 a2 a3 a4 a5) := by
 intro a0 a1 a2 a3 a4 a5 k
 unfold impl_entryOk.f
 exact u12_mq1
set_option maxHeartbeats 8000000 in
set_option maxRecDepth 100000 in
theorem impl_entryOk.calls (k : Nat) (aE : Int) (aG : Int) (aD : Int) (aA : Int) (aC : Int) (aI : ByteArray) (r : Bool) (w : World) (h : impl_entryOk.f k aE aG aD aA aC aI = some r) :
 Calls Try.prog 54 #[.agg #[.int .i64 aE, .int .i64 aG, .int .i64 aD, .int .i64 aA, .int .i64 aC, .string aI]] w fun e w' => e = .returned (.bool r) ∧ Below w.heap.size w w' := by
 have uQ := Try.underlying36
 have uO := Try.underlying34
 have HB := aM (Below.refl w.heap.size w)
 have H : ((impl_within.f aE 1 1000000000).bind fun gU => (if gU = true then ((impl_CmdOk.f k aG aD aA aC aI).bind fun gV => (some gV)) else (some false))) = some r := h
 clear h
 replace H := oB H
 obtain ⟨gU, jA, H⟩ := H
 (try dsimp only at H)
 have A2 := aM jA
 clear jA
 by_cases c3 : gU = true
 ·subst c3; replace H := iT H; replace H := oB H; obtain ⟨gV, wT, H⟩ := H; (try dsimp only at H); have A4 := aM wT; clear wT
  obtain rfl := Option.some.inj H; go_enter Try.func54, Try.ntmps54
  go_wp2_with (first | ((with_reducible refine gD 1 rfl ?_); refine boxE (N := 1) rfl (cs := #[.int .i64 aE, .int .i64 aG, .int .i64 aD, .int .i64 aA, .int .i64 aC, .string aI]) (t := 36) ?_; intro jE hg w5 hbox hb; have eQ := aM (hbox); have jF := aM (xge hg); have jG := aM (xge hg); replace HB := xbs hb; clear hb hbox hg; obtain ⟨uR, uS, uT, uU, uV, uW, uX, uY, uZ, vA, vB, vC⟩ := xf6 (w := w5) eQ) | ((with_reducible refine gC 35 rfl ?_); refine goesLY (some 5) rfl Try.func35 #[.int .i64 aE, .int .i64 1, .int .i64 1000000000] ?_; (with_reducible refine (impl_within.calls aE 1 1000000000 true _ A2.out).mono ?_); rintro e w' ⟨rfl, ⟨nd, rfl⟩⟩; refine ⟨_, rfl, ?_⟩) | (go_at_call 36; (with_reducible refine (impl_CmdOk.calls k aG aD aA aC aI gV _ A4.out).mono ?_); rintro e w7 ⟨rfl, hb⟩; replace eQ := xbb eQ hb; replace HB := xbs hb; (try clear hb)))
  go_ret
  exact ⟨xerr, xbg⟩
 ·replace c3 := Bool.eq_false_iff.mpr c3; subst c3; replace H := iN H; obtain rfl := Option.some.inj H; go_enter Try.func54, Try.ntmps54
  go_wp2_with (first | ((with_reducible refine gD 1 rfl ?_); refine boxE (N := 1) rfl (cs := #[.int .i64 aE, .int .i64 aG, .int .i64 aD, .int .i64 aA, .int .i64 aC, .string aI]) (t := 36) ?_; intro jE hg w8 hbox hb; have eQ := aM (hbox); have jF := aM (xge hg); have jG := aM (xge hg); replace HB := xbs hb; clear hb hbox hg; obtain ⟨iL, iM, iO, iP, iQ, iR, iS, iU, iV, iW, iX, iY⟩ := xf6 (w := w8) eQ) | ((with_reducible refine gC 35 rfl ?_); refine goesLY (some 5) rfl Try.func35 #[.int .i64 aE, .int .i64 1, .int .i64 1000000000] ?_; (with_reducible refine (impl_within.calls aE 1 1000000000 false _ A2.out).mono ?_); rintro e w' ⟨rfl, ⟨nd, rfl⟩⟩; refine ⟨_, rfl, ?_⟩))
  go_ret
  exact ⟨xerr, xbg⟩

/-! ### impl_RecOk: function 19 -/
def impl_RecOk.f (k : Nat) (aE : Int) (aG : Int) (aD : Int) (aA : Int) (aC : Int) (aI : Int) (aN : Int) (aQ : Int) (aT : Int) (aU : ByteArray) : Option (Bool) := if aE = 1 then ((impl_isWhole.f aG).bind fun gW => (if gW = true then ((impl_within.f aD 0 5).bind fun gX => (if gX = true then (if aA = 0 then (some (aC == 0 && ((aI == 0 && (aN == 0 && (aQ == 0 && (aT == 0 && (aU.toList == ([] : List UInt8))))))))) else (some false)) else (some false))) else (some false))) else (if aE = 2 then ((impl_within.f aA 1 80).bind fun gY => (if gY = true then ((impl_entryOk.f k aC aI aN aQ aT aU).bind fun gZ => (if gZ = true then (if aG = 0 then (some (aD == 0)) else (some false)) else (some false))) else (some false))) else (if aE = 3 then ((impl_within.f aA 0 80).bind fun hJ => (if hJ = true then (if aG = 0 then (if aD = 0 then (some (aC == 0 && ((aI == 0 && (aN == 0 && (aQ == 0 && (aT == 0 && (aU.toList == ([] : List UInt8))))))))) else (some false)) else (some false)) else (some false))) else (some false)))
theorem u12_mq2 {p : Prop} (h : p := by repeat' first | (with_reducible first | exact impl_entryOk.mono _ _ _ _ _ _ _ | exact LeO.refl _ | exact LeO.none _ | refine LeO.ite ?_ ?_ | refine LeO.bind ?_ (fun _ => ?_)) | exact LeO.none _ | refine LeO.ite ?_ ?_ | refine LeO.bind ?_ (fun _ => ?_)) : p := h
theorem impl_RecOk.mono : ∀ a0 a1 a2 a3 a4 a5 a6 a7 a8 a9 k, LeO (impl_RecOk.f k a0 a1 a2 a3 a4 a5 a6 a7 a8 a9) (impl_RecOk.f (k + 1) a0 a1 a2 a3 a4 a5 a6 a7 a8 a9) := by
 intro a0 a1 a2 a3 a4 a5 a6 a7 a8 a9 k
 unfold impl_RecOk.f
 exact u12_mq2
set_option maxHeartbeats 8000000 in
set_option maxRecDepth 100000 in
theorem impl_RecOk.calls (k : Nat) (aE : Int) (aG : Int) (aD : Int) (aA : Int) (aC : Int) (aI : Int) (aN : Int) (aQ : Int) (aT : Int) (aU : ByteArray) (r : Bool) (w : World) (h : impl_RecOk.f k aE aG aD aA aC aI aN aQ aT aU = some r) :
 Calls Try.prog 19 #[.agg #[.int .i64 aE, .int .i64 aG, .int .i64 aD, .int .i64 aA, .int .i64 aC, .int .i64 aI, .int .i64 aN, .int .i64 aQ, .int .i64 aT, .string aU]] w fun e w' => e = .returned (.bool r) ∧ Below w.heap.size w w' := by
 have xN := Try.underlying38
 have uQ := Try.underlying36
 have HB := aM (Below.refl w.heap.size w)
 have H : (if aE = 1 then ((impl_isWhole.f aG).bind fun gW => (if gW = true then ((impl_within.f aD 0 5).bind fun gX => (if gX = true then (if aA = 0 then (some (aC == 0 && ((aI == 0 && (aN == 0 && (aQ == 0 && (aT == 0 && (aU.toList == ([] : List UInt8))))))))) else (some false)) else (some false))) else (some false))) else (if aE = 2 then ((impl_within.f aA 1 80).bind fun gY => (if gY = true then ((impl_entryOk.f k aC aI aN aQ aT aU).bind fun gZ => (if gZ = true then (if aG = 0 then (some (aD == 0)) else (some false)) else (some false))) else (some false))) else (if aE = 3 then ((impl_within.f aA 0 80).bind fun hJ => (if hJ = true then (if aG = 0 then (if aD = 0 then (some (aC == 0 && ((aI == 0 && (aN == 0 && (aQ == 0 && (aT == 0 && (aU.toList == ([] : List UInt8))))))))) else (some false)) else (some false)) else (some false))) else (some false)))) = some r := h
 clear h
 by_cases c2 : aE = 1
 ·rw [if_pos c2] at H; obtain ⟨hZ, vD⟩ := bT c2; clear c2; replace H := oB H; obtain ⟨gW, wU, H⟩ := H; (try dsimp only at H); have A3 := aM wU; clear wU
  by_cases c4 : gW = true
  ·subst c4; replace H := iT H; replace H := oB H; obtain ⟨gX, wV, H⟩ := H; (try dsimp only at H); have A5 := aM wV; clear wV
   by_cases c6 : gX = true
   ·subst c6; replace H := iT H; by_cases c7 : aA = 0
    ·rw [if_pos c7] at H; obtain ⟨vE, vF⟩ := bT c7; clear c7; obtain rfl := Option.some.inj H; go_enter Try.func19, Try.ntmps19
     go_wp2_with (first | ((with_reducible refine gD 1 rfl ?_); refine boxE (N := 1) rfl (cs := #[.int .i64 aE, .int .i64 aG, .int .i64 aD, .int .i64 aA, .int .i64 aC, .int .i64 aI, .int .i64 aN, .int .i64 aQ, .int .i64 aT, .string aU]) (t := 38) ?_; intro aW hg w8 hbox hb; have aH := aM (hbox); have aX := aM (xge hg); have aY := aM (xge hg); replace HB := xbs hb; clear hb hbox hg; obtain ⟨iL, iM, iO, iP, iQ, iR, vG, vH, vI, vJ, iS, iU, iV, iW, iX, iY, vK, vL, vM, vN⟩ := xf10 (w := w8) aH) | ((with_reducible refine gC 38 rfl ?_); refine goesLY (some 9) rfl Try.func38 #[.int .i64 aG] ?_; (with_reducible refine (impl_isWhole.calls aG true _ A3.out).mono ?_); rintro e w' ⟨rfl, ⟨nd, rfl⟩⟩; refine ⟨_, rfl, ?_⟩) | (go_at_call 35; (with_reducible refine (impl_within.calls aD 0 5 true _ A5.out).mono ?_); rintro e w' ⟨rfl, ⟨nd, rfl⟩⟩))
     go_ret
     exact ⟨xerr, xbg⟩
    ·rw [if_neg c7] at H; obtain ⟨vE, vF⟩ := bF c7; obtain rfl := Option.some.inj H; go_enter Try.func19, Try.ntmps19
     go_wp2_with (first | ((with_reducible refine gD 1 rfl ?_); refine boxE (N := 1) rfl (cs := #[.int .i64 aE, .int .i64 aG, .int .i64 aD, .int .i64 aA, .int .i64 aC, .int .i64 aI, .int .i64 aN, .int .i64 aQ, .int .i64 aT, .string aU]) (t := 38) ?_; intro aW hg wW hbox hb; have aH := aM (hbox); have aX := aM (xge hg); have aY := aM (xge hg); replace HB := xbs hb; clear hb hbox hg; obtain ⟨bR, bU, bV, bW, bX, kW, kX, kY, kZ, lA, bY, bZ, cA, cB, cC, lB, lC, lE, lF, lG⟩ := xf10 (w := wW) aH) | ((with_reducible refine gC 38 rfl ?_); refine goesLY (some 9) rfl Try.func38 #[.int .i64 aG] ?_; (with_reducible refine (impl_isWhole.calls aG true _ A3.out).mono ?_); rintro e w' ⟨rfl, ⟨nd, rfl⟩⟩; refine ⟨_, rfl, ?_⟩) | (go_at_call 35; (with_reducible refine (impl_within.calls aD 0 5 true _ A5.out).mono ?_); rintro e w' ⟨rfl, ⟨nd, rfl⟩⟩))
     go_ret
     exact ⟨xerr, xbg⟩
   ·replace c6 := Bool.eq_false_iff.mpr c6; subst c6; replace H := iN H; obtain rfl := Option.some.inj H; go_enter Try.func19, Try.ntmps19
    go_wp2_with (first | ((with_reducible refine gD 1 rfl ?_); refine boxE (N := 1) rfl (cs := #[.int .i64 aE, .int .i64 aG, .int .i64 aD, .int .i64 aA, .int .i64 aC, .int .i64 aI, .int .i64 aN, .int .i64 aQ, .int .i64 aT, .string aU]) (t := 38) ?_; intro aW hg xO hbox hb; have aH := aM (hbox); have aX := aM (xge hg); have aY := aM (xge hg); replace HB := xbs hb; clear hb hbox hg; obtain ⟨lH, lI, lJ, lK, lL, lM, lN, lO, lP, lQ, lR, lS, lT, lU, lV, lW, lX, lY, lZ, mA⟩ := xf10 (w := xO) aH) | ((with_reducible refine gC 38 rfl ?_); refine goesLY (some 9) rfl Try.func38 #[.int .i64 aG] ?_; (with_reducible refine (impl_isWhole.calls aG true _ A3.out).mono ?_); rintro e w' ⟨rfl, ⟨nd, rfl⟩⟩; refine ⟨_, rfl, ?_⟩) | (go_at_call 35; (with_reducible refine (impl_within.calls aD 0 5 false _ A5.out).mono ?_); rintro e w' ⟨rfl, ⟨nd, rfl⟩⟩))
    go_ret
    exact ⟨xerr, xbg⟩
  ·replace c4 := Bool.eq_false_iff.mpr c4; subst c4; replace H := iN H; obtain rfl := Option.some.inj H; go_enter Try.func19, Try.ntmps19
   go_wp2_with (first | ((with_reducible refine gD 1 rfl ?_); refine boxE (N := 1) rfl (cs := #[.int .i64 aE, .int .i64 aG, .int .i64 aD, .int .i64 aA, .int .i64 aC, .int .i64 aI, .int .i64 aN, .int .i64 aQ, .int .i64 aT, .string aU]) (t := 38) ?_; intro aW hg xQ hbox hb; have aH := aM (hbox); have aX := aM (xge hg); have aY := aM (xge hg); replace HB := xbs hb; clear hb hbox hg; obtain ⟨mB, mC, mD, mE, mF, mG, mH, mI, mJ, mK, mL, mM, mN, mO, mP, mQ, mR, mS, mT, mU⟩ := xf10 (w := xQ) aH) | ((with_reducible refine gC 38 rfl ?_); refine goesLY (some 9) rfl Try.func38 #[.int .i64 aG] ?_; (with_reducible refine (impl_isWhole.calls aG false _ A3.out).mono ?_); rintro e w' ⟨rfl, ⟨nd, rfl⟩⟩; refine ⟨_, rfl, ?_⟩))
   go_ret
   exact ⟨xerr, xbg⟩
 ·rw [if_neg c2] at H; obtain ⟨hZ, vD⟩ := bF c2; by_cases jH : aE = 2
  ·rw [if_pos jH] at H; obtain ⟨jI, jJ⟩ := bT jH; clear jH; replace H := oB H; obtain ⟨gY, jK, H⟩ := H; (try dsimp only at H); have mV := aM jK; clear jK
   by_cases mW : gY = true
   ·subst mW; replace H := iT H; replace H := oB H; obtain ⟨gZ, jL, H⟩ := H; (try dsimp only at H); have vO := aM jL; clear jL
    by_cases iI : gZ = true
    ·subst iI; replace H := iT H; by_cases jM : aG = 0
     ·rw [if_pos jM] at H; obtain ⟨jN, jO⟩ := bT jM; clear jM; obtain rfl := Option.some.inj H; go_enter Try.func19, Try.ntmps19
      go_wp2_with (first | ((with_reducible refine gD 1 rfl ?_); refine boxE (N := 1) rfl (cs := #[.int .i64 aE, .int .i64 aG, .int .i64 aD, .int .i64 aA, .int .i64 aC, .int .i64 aI, .int .i64 aN, .int .i64 aQ, .int .i64 aT, .string aU]) (t := 38) ?_; intro aW hg xR hbox hb; have aH := aM (hbox); have aX := aM (xge hg); have aY := aM (xge hg); replace HB := xbs hb; clear hb hbox hg; obtain ⟨cD, cE, cF, cG, cH, mX, mY, mZ, nA, nB, cI, cJ, cK, cL, cM, nC, nD, nE, nF, nG⟩ := xf10 (w := xR) aH) | ((with_reducible refine gC 35 rfl ?_); refine goesLY (some 30) rfl Try.func35 #[.int .i64 aA, .int .i64 1, .int .i64 80] ?_; (with_reducible refine (impl_within.calls aA 1 80 true _ mV.out).mono ?_); rintro e w' ⟨rfl, ⟨nd, rfl⟩⟩; refine ⟨_, rfl, ?_⟩) | (go_at_call 54; (with_reducible refine (impl_entryOk.calls k aC aI aN aQ aT aU true _ vO.out).mono ?_); rintro e xS ⟨rfl, hb⟩; replace aH := xbb aH hb; replace HB := xbs hb; (try clear hb); obtain ⟨dU, dV, dW, dX, dY, nH, nI, nJ, nK, nL, dZ, eA, eB, eC, eD, nM, nN, nO, nP, nQ⟩ := xf10 (w := xS) aH))
      go_ret
      exact ⟨xerr, xbg⟩
     ·rw [if_neg jM] at H; obtain ⟨jN, jO⟩ := bF jM; obtain rfl := Option.some.inj H; go_enter Try.func19, Try.ntmps19
      go_wp2_with (first | ((with_reducible refine gD 1 rfl ?_); refine boxE (N := 1) rfl (cs := #[.int .i64 aE, .int .i64 aG, .int .i64 aD, .int .i64 aA, .int .i64 aC, .int .i64 aI, .int .i64 aN, .int .i64 aQ, .int .i64 aT, .string aU]) (t := 38) ?_; intro aW hg xT hbox hb; have aH := aM (hbox); have aX := aM (xge hg); have aY := aM (xge hg); replace HB := xbs hb; clear hb hbox hg; obtain ⟨nR, nS, nT, nU, nV, nW, nX, nY, nZ, oA, oC, oD, oE, oF, oG, oH, oI, oJ, oK, oL⟩ := xf10 (w := xT) aH) | ((with_reducible refine gC 35 rfl ?_); refine goesLY (some 30) rfl Try.func35 #[.int .i64 aA, .int .i64 1, .int .i64 80] ?_; (with_reducible refine (impl_within.calls aA 1 80 true _ mV.out).mono ?_); rintro e w' ⟨rfl, ⟨nd, rfl⟩⟩; refine ⟨_, rfl, ?_⟩) | (go_at_call 54; (with_reducible refine (impl_entryOk.calls k aC aI aN aQ aT aU true _ vO.out).mono ?_); rintro e xU ⟨rfl, hb⟩; replace aH := xbb aH hb; replace HB := xbs hb; (try clear hb); obtain ⟨oM, oO, oP, oQ, oR, oT, oU, oV, oW, oX, oY, oZ, pA, pB, pC, pD, pE, pF, pG, pH⟩ := xf10 (w := xU) aH))
      go_ret
      exact ⟨xerr, xbg⟩
    ·replace iI := Bool.eq_false_iff.mpr iI; subst iI; replace H := iN H; obtain rfl := Option.some.inj H; go_enter Try.func19, Try.ntmps19
     go_wp2_with (first | ((with_reducible refine gD 1 rfl ?_); refine boxE (N := 1) rfl (cs := #[.int .i64 aE, .int .i64 aG, .int .i64 aD, .int .i64 aA, .int .i64 aC, .int .i64 aI, .int .i64 aN, .int .i64 aQ, .int .i64 aT, .string aU]) (t := 38) ?_; intro aW hg xV hbox hb; have aH := aM (hbox); have aX := aM (xge hg); have aY := aM (xge hg); replace HB := xbs hb; clear hb hbox hg; obtain ⟨eE, eF, eG, eH, eI, pI, pJ, pK, pL, pM, eJ, eK, eL, eM, eN, pN, pO, pP, pQ, pR⟩ := xf10 (w := xV) aH) | ((with_reducible refine gC 35 rfl ?_); refine goesLY (some 30) rfl Try.func35 #[.int .i64 aA, .int .i64 1, .int .i64 80] ?_; (with_reducible refine (impl_within.calls aA 1 80 true _ mV.out).mono ?_); rintro e w' ⟨rfl, ⟨nd, rfl⟩⟩; refine ⟨_, rfl, ?_⟩) | (go_at_call 54; (with_reducible refine (impl_entryOk.calls k aC aI aN aQ aT aU false _ vO.out).mono ?_); rintro e yF ⟨rfl, hb⟩; replace aH := xbb aH hb; replace HB := xbs hb; (try clear hb)))
     go_ret
     exact ⟨xerr, xbg⟩
   ·replace mW := Bool.eq_false_iff.mpr mW; subst mW; replace H := iN H; obtain rfl := Option.some.inj H; go_enter Try.func19, Try.ntmps19
    go_wp2_with (first | ((with_reducible refine gD 1 rfl ?_); refine boxE (N := 1) rfl (cs := #[.int .i64 aE, .int .i64 aG, .int .i64 aD, .int .i64 aA, .int .i64 aC, .int .i64 aI, .int .i64 aN, .int .i64 aQ, .int .i64 aT, .string aU]) (t := 38) ?_; intro aW hg xW hbox hb; have aH := aM (hbox); have aX := aM (xge hg); have aY := aM (xge hg); replace HB := xbs hb; clear hb hbox hg; obtain ⟨pS, pT, pW, pX, pY, pZ, qA, qB, qC, qD, qE, qF, qG, qH, qI, qJ, qK, qL, qM, qN⟩ := xf10 (w := xW) aH) | ((with_reducible refine gC 35 rfl ?_); refine goesLY (some 30) rfl Try.func35 #[.int .i64 aA, .int .i64 1, .int .i64 80] ?_; (with_reducible refine (impl_within.calls aA 1 80 false _ mV.out).mono ?_); rintro e w' ⟨rfl, ⟨nd, rfl⟩⟩; refine ⟨_, rfl, ?_⟩))
    go_ret
    exact ⟨xerr, xbg⟩
  ·rw [if_neg jH] at H; obtain ⟨jI, jJ⟩ := bF jH; by_cases gP : aE = 3
   ·rw [if_pos gP] at H; obtain ⟨bJ, eP⟩ := bT gP; clear gP; replace H := oB H; obtain ⟨hJ, jP, H⟩ := H; (try dsimp only at H); have qO := aM jP; clear jP
    by_cases hX : hJ = true
    ·subst hX; replace H := iT H; by_cases jQ : aG = 0
     ·rw [if_pos jQ] at H; obtain ⟨jR, jS⟩ := bT jQ; clear jQ; by_cases jT : aD = 0
      ·rw [if_pos jT] at H; obtain ⟨jU, jV⟩ := bT jT; clear jT; obtain rfl := Option.some.inj H; go_enter Try.func19, Try.ntmps19
       go_wp2_with (first | ((with_reducible refine gD 1 rfl ?_); refine boxE (N := 1) rfl (cs := #[.int .i64 aE, .int .i64 aG, .int .i64 aD, .int .i64 aA, .int .i64 aC, .int .i64 aI, .int .i64 aN, .int .i64 aQ, .int .i64 aT, .string aU]) (t := 38) ?_; intro aW hg xX hbox hb; have aH := aM (hbox); have aX := aM (xge hg); have aY := aM (xge hg); replace HB := xbs hb; clear hb hbox hg; obtain ⟨qP, qQ, qR, qS, qT, qU, qV, qW, qX, qY, qZ, rA, rB, rC, rE, rF, rG, rH, rI, rJ⟩ := xf10 (w := xX) aH) | ((with_reducible refine gC 35 rfl ?_); refine goesLY (some 50) rfl Try.func35 #[.int .i64 aA, .int .i64 0, .int .i64 80] ?_; (with_reducible refine (impl_within.calls aA 0 80 true _ qO.out).mono ?_); rintro e w' ⟨rfl, ⟨nd, rfl⟩⟩; refine ⟨_, rfl, ?_⟩))
       go_ret
       exact ⟨xerr, xbg⟩
      ·rw [if_neg jT] at H; obtain ⟨jU, jV⟩ := bF jT; obtain rfl := Option.some.inj H; go_enter Try.func19, Try.ntmps19
       go_wp2_with (first | ((with_reducible refine gD 1 rfl ?_); refine boxE (N := 1) rfl (cs := #[.int .i64 aE, .int .i64 aG, .int .i64 aD, .int .i64 aA, .int .i64 aC, .int .i64 aI, .int .i64 aN, .int .i64 aQ, .int .i64 aT, .string aU]) (t := 38) ?_; intro aW hg xY hbox hb; have aH := aM (hbox); have aX := aM (xge hg); have aY := aM (xge hg); replace HB := xbs hb; clear hb hbox hg; obtain ⟨rK, rL, rM, rN, rO, rP, rQ, rR, rS, rT, rU, rV, rW, rX, rY, rZ, sA, sB, sC, sD⟩ := xf10 (w := xY) aH) | ((with_reducible refine gC 35 rfl ?_); refine goesLY (some 50) rfl Try.func35 #[.int .i64 aA, .int .i64 0, .int .i64 80] ?_; (with_reducible refine (impl_within.calls aA 0 80 true _ qO.out).mono ?_); rintro e w' ⟨rfl, ⟨nd, rfl⟩⟩; refine ⟨_, rfl, ?_⟩))
       go_ret
       exact ⟨xerr, xbg⟩
     ·rw [if_neg jQ] at H; obtain ⟨jR, jS⟩ := bF jQ; obtain rfl := Option.some.inj H; go_enter Try.func19, Try.ntmps19
      go_wp2_with (first | ((with_reducible refine gD 1 rfl ?_); refine boxE (N := 1) rfl (cs := #[.int .i64 aE, .int .i64 aG, .int .i64 aD, .int .i64 aA, .int .i64 aC, .int .i64 aI, .int .i64 aN, .int .i64 aQ, .int .i64 aT, .string aU]) (t := 38) ?_; intro aW hg xZ hbox hb; have aH := aM (hbox); have aX := aM (xge hg); have aY := aM (xge hg); replace HB := xbs hb; clear hb hbox hg; obtain ⟨sE, sF, sG, sH, sI, sJ, sK, sL, sM, sN, sO, sP, sQ, sR, sS, sU, sV, sW, sX, sY⟩ := xf10 (w := xZ) aH) | ((with_reducible refine gC 35 rfl ?_); refine goesLY (some 50) rfl Try.func35 #[.int .i64 aA, .int .i64 0, .int .i64 80] ?_; (with_reducible refine (impl_within.calls aA 0 80 true _ qO.out).mono ?_); rintro e w' ⟨rfl, ⟨nd, rfl⟩⟩; refine ⟨_, rfl, ?_⟩))
      go_ret
      exact ⟨xerr, xbg⟩
    ·replace hX := Bool.eq_false_iff.mpr hX; subst hX; replace H := iN H; obtain rfl := Option.some.inj H; go_enter Try.func19, Try.ntmps19
     go_wp2_with (first | ((with_reducible refine gD 1 rfl ?_); refine boxE (N := 1) rfl (cs := #[.int .i64 aE, .int .i64 aG, .int .i64 aD, .int .i64 aA, .int .i64 aC, .int .i64 aI, .int .i64 aN, .int .i64 aQ, .int .i64 aT, .string aU]) (t := 38) ?_; intro aW hg yA hbox hb; have aH := aM (hbox); have aX := aM (xge hg); have aY := aM (xge hg); replace HB := xbs hb; clear hb hbox hg; obtain ⟨sZ, tA, tB, tC, tD, tE, tF, tG, tH, tI, tJ, tL, tM, tN, tO, tP, tQ, tR, tS, tT⟩ := xf10 (w := yA) aH) | ((with_reducible refine gC 35 rfl ?_); refine goesLY (some 50) rfl Try.func35 #[.int .i64 aA, .int .i64 0, .int .i64 80] ?_; (with_reducible refine (impl_within.calls aA 0 80 false _ qO.out).mono ?_); rintro e w' ⟨rfl, ⟨nd, rfl⟩⟩; refine ⟨_, rfl, ?_⟩))
     go_ret
     exact ⟨xerr, xbg⟩
   ·rw [if_neg gP] at H; obtain ⟨bJ, eP⟩ := bF gP; obtain rfl := Option.some.inj H; go_enter Try.func19, Try.ntmps19
    go_wp2_with (first | ((with_reducible refine gD 1 rfl ?_); refine boxE (N := 1) rfl (cs := #[.int .i64 aE, .int .i64 aG, .int .i64 aD, .int .i64 aA, .int .i64 aC, .int .i64 aI, .int .i64 aN, .int .i64 aQ, .int .i64 aT, .string aU]) (t := 38) ?_; intro aW hg yB hbox hb; have aH := aM (hbox); have aX := aM (xge hg); have aY := aM (xge hg); replace HB := xbs hb; clear hb hbox hg; obtain ⟨tU, tV, tW, tX, tY, tZ, uA, uB, uC, uD, uE, uF, uG, uH, uI, uJ, uK, uL, uM, uN⟩ := xf10 (w := yB) aH))
    go_ret
    exact ⟨xerr, xbg⟩

/-! ### impl_PutNum: function 73 -/
def impl_PutNum.l0 : Nat → Int → List Int → Option (List Int)
 | 0, _, _ => none
 | k + 1, x0, x3 => if x0 > 127 then (if x3.length < 140737488355328 then (impl_PutNum.l0 k (x0 / 128) (x3 ++ [(Go.bits .or .i64 (Go.bits .and .i64 x0 127) 128) % 256])) else (none)) else (if x3.length < 140737488355328 then (some (x3 ++ [(x0) % 256])) else (none))
def impl_PutNum.f (k : Nat) (a0 : Int) : Option (List Int) := if a0 < 0 then (some ([] : List Int)) else (impl_PutNum.l0 k a0 (([] : List Int)))
theorem u12_mq3 {p : Prop} (h : p := by repeat' first | (with_reducible first | exact iA _ _ | exact LeO.refl _ | exact LeO.none _ | refine LeO.ite ?_ ?_ | refine LeO.bind ?_ (fun _ => ?_)) | exact LeO.none _ | refine LeO.ite ?_ ?_ | refine LeO.bind ?_ (fun _ => ?_)) : p := h
set_option maxRecDepth 100000 in
theorem impl_PutNum.mono_l : ∀ k, (∀ y0 y1, LeO (impl_PutNum.l0 k y0 y1) (impl_PutNum.l0 (k + 1) y0 y1))
 | 0 => fun _ _ r h => by simp [impl_PutNum.l0] at h
 | k + 1 => by
  have iA := impl_PutNum.mono_l k
  ·intro y0 y1; unfold impl_PutNum.l0; exact u12_mq3
theorem impl_PutNum.mono : ∀ a0 k, LeO (impl_PutNum.f k a0) (impl_PutNum.f (k + 1) a0) := by
 intro a0 k
 have iA := impl_PutNum.mono_l k
 unfold impl_PutNum.f
 exact u12_mq3
set_option maxHeartbeats 8000000 in
set_option maxRecDepth 100000 in
theorem impl_PutNum.calls (k : Nat) (a0 : Int) (r : List Int) (w : World) (h : impl_PutNum.f k a0 = some r) :
 Calls Try.prog 73 #[.int .i64 a0] w fun e w' => ∃ v0_ : Value, e = .returned (v0_) ∧ Kd.R (Kd.int .u8) 5 w' w.heap.size (fun _ => True) v0_ r ∧ Below w.heap.size w w' := by
 have HB := aM (Below.refl w.heap.size w)
 have H : (if a0 < 0 then (some ([] : List Int)) else (impl_PutNum.l0 k a0 (([] : List Int)))) = some r := h
 clear h
 by_cases c2 : a0 < 0
 ·rw [if_pos c2] at H; have hZ : decide (a0 < 0) = true := decide_eq_true c2; clear c2; obtain rfl := Option.some.inj H; go_enter Try.func73, Try.ntmps73
  go_wp2; go_ret
  exact ⟨_, xerr, by first | exact Kd.R_nil _ _ _ _ _ | exact Kd.N_nil _ _ _ _ _ | exact Kd.V_nil _ _ _ _ _ | exact Kd.Q_nil _ _ _ _ _ | exact Kd.S_nil _ _ _ _ _, xbel⟩
 ·rw [if_neg c2] at H; have hZ : decide (a0 < 0) = false := decide_eq_false c2; clear c2; obtain ⟨jW, hY⟩ : ∃ y_ : List Int, y_ = (([] : List Int)) := ⟨_, rfl⟩; replace H : (impl_PutNum.l0 k a0 jW) = some r := u12_2; have iD := aM hY; clear hY; have H' := aM H; clear H; go_enter Try.func73, Try.ntmps73
  go_wp2_with (first | ((with_reducible refine gD 6 rfl ?_); refine Kd.R_lit (Kd.int .u8) _ 5 ?hg (N := 6) ?hd (xs := ([] : List Int)) (inner := []) (ok := fun _ => True) (okp := fun _ => True) ?hr ?hp (fun _ hk => hk) trivial (Below.refl _ _) (Nat.le_refl _) (by simp) ?_; (case hd => rfl); (case hg => rfl); (case hr => first | (go_simp; done) | (go_simp; rfl)); (case hp => exact (Reps.none _ _)); intro v523 w3 jX hb hg_ hnew_; clear hg_ hnew_; (first | rw [← iD.out] at jX | (simp only [Int.reduceToNat] at jX; rw [← iD.out] at jX)); have jY := aM (Kd.R_lower jX (below_size xbel)); replace HB := xbs hb; clear hb jX))
  go_loopg [0, 3] k (fun kq v0 v3 w' => ∃ (bK : Int) (bA : List Int), v0 = .int .i64 bK ∧ Aside0 (impl_PutNum.l0 kq bK bA = some r) ∧ Aside0 (kq ≤ k) ∧ Aside0 (Kd.R (Kd.int .u8) 5 w' w.heap.size (fun _ => True) v3 bA) ∧ Aside0 (Below w.heap.size w w'))
  case atStart => exact ⟨(a0), (jW), u12_0, H', ⟨Nat.le_refl _⟩, ⟨by (with_reducible repeat (first | apply Kd.R_alloc | apply Kd.R_drewN | apply Kd.R_drew)); exact jY.out⟩, ⟨xbel⟩⟩
  case round =>
   clear H'; try clear c2
   try clear hZ
   try clear p2
   obtain ⟨bK, bA, rfl, HA, HK1, cN, HB⟩ := hrel; cases gk with
   | zero => exact absurd HA.out (by simp [impl_PutNum.l0])
   | succ k1 =>
    have H := HA.out; clear HA; simp only [impl_PutNum.l0] at H; by_cases c5 : bK > 127
    ·rw [if_pos c5] at H; have jZ : decide (127 < bK) = true := decide_eq_true c5; clear c5; by_cases c6 : bA.length < 140737488355328
     ·rw [if_pos c6] at H; have LMc6 := aM c6; clear c6; obtain ⟨kA, hY⟩ : ∃ y_ : List Int, y_ = (bA ++ [(Go.bits .or .i64 (Go.bits .and .i64 bK 127) 128) % 256]) := ⟨_, rfl⟩; replace H : (impl_PutNum.l0 k1 (bK / 128) kA) = some r := u12_2; have kB := aM hY; clear hY; have H' := aM H; clear H; go_wp2_with (first | ((with_reducible refine gate_builtin (b := .append) (xs := #[.tmp 9, .tmp 14]) rfl ?_); at_builtin; refine Kd.R_append (Kd.int .u8) (w0 := w) w.heap.size rfl (.tmp 9) (.tmp 14) 22 5 (.int .u8 0) 1 rfl Try.underlying22 info5 rfl (by decide) (by omega) u3 bA ((Go.bits .or .i64 (Go.bits .and .i64 bK 127) 128) % 256) [.int .u8 ((Go.bits .or .i64 (Go.bits .and .i64 bK 127) 128) % 256)] (fun _ => True) (fun _ => False) rfl rfl ?aP (fun _ hk => hk.elim) ?aF ?aO ?aB ?aS ?aL ?_; (case aP => exact rfl); (case aB => exact xbel); (case aF => exact (fun _ _ => trivial)); (case aO => exact (xr cN)); (case aS => exact (below_size xbel)); (case aL => have := LMc6.out; omega); intro v526 w7 ho hb hg hat; rw [← kB.out] at ho; replace HB := aM (hb); have kC := aM (ho); clear cN; clear ho hb hg hat))
      go_roundg k1
      case measure => have := HK1.out; omega
      case rel => exact ⟨(bK / 128), (kA), u12_0, H', ⟨by have := HK1.out; omega⟩, ⟨by (with_reducible repeat (first | apply Kd.R_alloc | apply Kd.R_drewN | apply Kd.R_drew)); exact kC.out⟩, ⟨xbel⟩⟩
     ·rw [if_neg c6] at H; exact absurd H (by simp)
    ·rw [if_neg c5] at H; have jZ : decide (127 < bK) = false := decide_eq_false c5; clear c5; by_cases c8 : bA.length < 140737488355328
     ·rw [if_pos c8] at H; have LMc8 := aM c8; clear c8; obtain ⟨vP, hY⟩ : ∃ y_ : List Int, y_ = (bA ++ [(bK) % 256]) := ⟨_, rfl⟩; replace H : (some vP) = some r := u12_2; have kE := aM hY; clear hY; obtain rfl := Option.some.inj H; go_wp2_with (first | ((with_reducible refine gate_builtin (b := .append) (xs := #[.tmp 18, .tmp 21]) rfl ?_); at_builtin; refine Kd.R_append (Kd.int .u8) (w0 := w) w.heap.size rfl (.tmp 18) (.tmp 21) 22 5 (.int .u8 0) 1 rfl Try.underlying22 info5 rfl (by decide) (by omega) u3 bA ((bK) % 256) [.int .u8 ((bK) % 256)] (fun _ => True) (fun _ => False) rfl rfl ?aP (fun _ hk => hk.elim) ?aF ?aO ?aB ?aS ?aL ?_; (case aP => exact rfl); (case aB => exact xbel); (case aF => exact (fun _ _ => trivial)); (case aO => exact (xr cN)); (case aS => exact (below_size xbel)); (case aL => have := LMc8.out; omega); intro v529 w9 ho hb hg hat; rw [← kE.out] at ho; replace HB := aM (hb); have kF := aM (ho); clear cN; clear ho hb hg hat))
      go_ret
      exact ⟨_, xerr, by (with_reducible repeat (first | apply Kd.R_alloc | apply Kd.R_drewN | apply Kd.R_drew)); exact kF.out, xbel⟩
     ·rw [if_neg c8] at H; exact absurd H (by simp)

/-! ### impl_putNums: function 41 -/
def impl_putNums.l0 : Nat → List Int → List Int → Int → Int → Option (List Int)
 | 0, _, _, _, _ => none
 | k + 1, x3, x7, x8, x9 => if x9 < x8 then (if 0 ≤ x9 then (if x9 < (x7.length : Int) then ((impl_PutNum.f k (rd x7 x9)).bind fun eR => (if x3.length + eR.length < 140737488355328 then (impl_putNums.l0 k (x3 ++ eR) x7 x8 (wrap64 (x9 + 1))) else (none))) else (none)) else (none)) else (some x3)
def impl_putNums.f (k : Nat) (l0 : List Int) : Option (List Int) := impl_putNums.l0 k (([] : List Int)) l0 (l0.length : Int) 0
theorem u12_mq4 {p : Prop} (h : p := by repeat' first | (with_reducible first | exact iA _ _ _ _ | exact impl_PutNum.mono _ _ | exact LeO.refl _ | exact LeO.none _ | refine LeO.ite ?_ ?_ | refine LeO.bind ?_ (fun _ => ?_)) | exact LeO.none _ | refine LeO.ite ?_ ?_ | refine LeO.bind ?_ (fun _ => ?_)) : p := h
set_option maxRecDepth 100000 in
theorem impl_putNums.mono_l : ∀ k, (∀ y0 y1 y2 y3, LeO (impl_putNums.l0 k y0 y1 y2 y3) (impl_putNums.l0 (k + 1) y0 y1 y2 y3))
 | 0 => fun _ _ _ _ r h => by simp [impl_putNums.l0] at h
 | k + 1 => by
  have iA := impl_putNums.mono_l k
  ·intro y0 y1 y2 y3; unfold impl_putNums.l0; exact u12_mq4
theorem impl_putNums.mono : ∀ a0 k, LeO (impl_putNums.f k a0) (impl_putNums.f (k + 1) a0) := by
 intro a0 k
 have iA := impl_putNums.mono_l k
 unfold impl_putNums.f
 exact u12_mq4
set_option maxHeartbeats 8000000 in
set_option maxRecDepth 100000 in
theorem impl_putNums.calls (k : Nat) (A0 : Option Addr) (c0 : Nat) (l0 : List Int) (r : List Int) (w : World) (wX : Kd.C (Kd.int .i64) w A0 l0.length l0) (wY : l0.length ≤ c0) (h : impl_putNums.f k l0 = some r) :
 Calls Try.prog 41 #[.slice A0 l0.length c0] w fun e w' => ∃ v0_ : Value, e = .returned (v0_) ∧ Kd.R (Kd.int .u8) 5 w' w.heap.size (fun _ => True) v0_ r ∧ Below w.heap.size w w' := by
 have yC := aM wX
 have yG := aM wY
 clear wX wY
 have HB := aM (Below.refl w.heap.size w)
 have H : (impl_putNums.l0 k (([] : List Int)) l0 (l0.length : Int) 0) = some r := h
 clear h
 obtain ⟨kG, hY⟩ : ∃ y_ : List Int, y_ = (([] : List Int)) := ⟨_, rfl⟩
 replace H : (impl_putNums.l0 k kG l0 (l0.length : Int) 0) = some r := u12_2
 have iE := aM hY
 clear hY
 have H' := aM H
 clear H
 go_enter Try.func41, Try.ntmps41
 go_wp2_with (first | ((with_reducible refine gD 6 rfl ?_); refine Kd.R_lit (Kd.int .u8) _ 5 ?hg (N := 6) ?hd (xs := ([] : List Int)) (inner := []) (ok := fun _ => True) (okp := fun _ => True) ?hr ?hp (fun _ hk => hk) trivial (Below.refl _ _) (Nat.le_refl _) (by simp) ?_; (case hd => rfl); (case hg => rfl); (case hr => first | (go_simp; done) | (go_simp; rfl)); (case hp => exact (Reps.none _ _)); intro v532 w2 kH hb hg_ hnew_; clear hg_ hnew_; (first | rw [← iE.out] at kH | (simp only [Int.reduceToNat] at kH; rw [← iE.out] at kH)); have kI := aM (Kd.R_lower kH (below_size xbel)); replace HB := xbs hb; clear hb kH))
 go_loopg [3, 9] k (fun kq v3 v9 w' => ∃ (bA : List Int) (aZ : Int), v9 = .int .i64 aZ ∧ Aside0 (impl_putNums.l0 kq bA l0 (l0.length : Int) aZ = some r) ∧ Aside0 (kq ≤ k) ∧ Aside0 (Kd.R (Kd.int .u8) 5 w' w.heap.size (fun _ => True) v3 bA) ∧ Aside0 (Below w.heap.size w w'))
 case atStart => exact ⟨(kG), (0), u12_0, H', ⟨Nat.le_refl _⟩, ⟨by (with_reducible repeat (first | apply Kd.R_alloc | apply Kd.R_drewN | apply Kd.R_drew)); exact kI.out⟩, ⟨xbel⟩⟩
 case round =>
  clear H'; try clear p2
  obtain ⟨bA, aZ, rfl, HA, HK1, cN, HB⟩ := hrel; cases gk with
  | zero => exact absurd HA.out (by simp [impl_putNums.l0])
  | succ k1 =>
   have H := HA.out; clear HA; simp only [impl_putNums.l0] at H; by_cases c4 : aZ < (l0.length : Int)
   ·rw [if_pos c4] at H; have vQ : decide (aZ < (l0.length : Int)) = true := decide_eq_true c4; clear c4; by_cases c5 : 0 ≤ aZ
    ·rw [if_pos c5] at H; have jZ : decide (0 ≤ aZ) = true := decide_eq_true c5; clear c5; by_cases c6 : aZ < (l0.length : Int)
     ·rw [if_pos c6] at H; have yD : decide (aZ < (l0.length : Int)) = true := decide_eq_true c6; clear c6; replace H := oB H; obtain ⟨eR, wZ, H⟩ := H; (try dsimp only at H); have A7 := aM wZ; clear wZ
      by_cases c8 : bA.length + eR.length < 140737488355328
      ·rw [if_pos c8] at H; have LMc8 := aM c8; clear c8; obtain ⟨kJ, hY⟩ : ∃ y_ : List Int, y_ = (bA ++ eR) := ⟨_, rfl⟩; replace H : (impl_putNums.l0 k1 kJ l0 (l0.length : Int) (wrap64 (aZ + 1))) = some r := u12_2; have kK := aM hY; clear hY; have H' := aM H; clear H; have p534 : 0 ≤ (aZ : Int) := oda; have q534 : aZ < (l0.length : Int) := oda; obtain ⟨xA, vR, gN⟩ := Kd.at_int yC.out aZ p534 q534; cases vR
       replace gN := xce HB gN; replace p534 := eq_true p534; replace q534 := eq_true q534; go_wp2_with (first | ((with_reducible refine gC 73 rfl ?_); refine goesLY (some 15) rfl Try.func73 #[.int .i64 (rd l0 aZ)] ?_; (with_reducible refine (impl_PutNum.calls k1 (rd l0 aZ) eR _ A7.out).mono ?_); rintro e w9 ⟨v536, rfl, vS, hb⟩; refine ⟨_, rfl, ?_⟩; have eS := aM (Kd.R_lower (Kd.R_new' vS (Kd.R_lt (xr cN))) (below_size xbel)); replace cN := aM (Kd.R_elder' (xr cN) (Kd.R_base vS) hb); replace HB := xbs hb; (try clear hb vS); obtain ⟨vT, vU, vV⟩ := Kd.R_slice eS.out; subst vV) | ((with_reducible refine gate_builtin (b := .append) (xs := #[.tmp 13, .tmp 15]) rfl ?_); at_builtin; refine Kd.R_append_rows (Kd.int .u8) (w0 := w) w.heap.size rfl (.tmp 13) (.tmp 15) 22 5 (.int .u8 0) 1 rfl Try.underlying22 info5 rfl (by decide) (by omega) u3 bA eR _ _ _ (fun k_ => some k_ ≠ (.slice vT eR.length vU : Value).ownBlock) (fun _ => False) rfl rfl ?aO ?aR (fun _ _ h => h) (fun _ h => h.elim) ?aF ?aB ?aS ?aL ?_; (case aR => repeat (first | exact (Kd.R_reads' eS.out).2.2 | (with_reducible refine Kd.C_alloc ?_ _) | (with_reducible refine Kd.C_drewN ?_ _) | (with_reducible refine Kd.C_drew ?_))); (case aB => exact xbel); (case aF => exact (fun k_ hk => Kd.fresh' (Kd.R_lt (xr eS)) k_ hk)); (case aO => exact (by (with_reducible repeat (first | apply Kd.R_alloc | apply Kd.R_drewN | apply Kd.R_drew)); exact Kd.R_mono cN.out (fun _ hk => hk.2))); (case aS => exact (below_size xbel)); (case aL => have := LMc8.out; omega); intro v539 wW ho hb hg hat; rw [← kK.out] at ho; replace eS := aM (Kd.R_after (ok := (fun _ => True)) (xr eS) hg hat); replace HB := aM (hb); have kL := aM (ho); clear cN; clear ho hb hg hat))
       go_roundg k1
       case measure => have := HK1.out; omega
       case rel => exact ⟨(kJ), (wrap64 (aZ + 1)), u12_0, H', ⟨by have := HK1.out; omega⟩, ⟨by (with_reducible repeat (first | apply Kd.R_alloc | apply Kd.R_drewN | apply Kd.R_drew)); exact Kd.R_mono kL.out (fun _ hk => trivial)⟩, ⟨xbel⟩⟩
      ·rw [if_neg c8] at H; exact absurd H (by simp)
     ·rw [if_neg c6] at H; exact absurd H (by simp)
    ·rw [if_neg c5] at H; exact absurd H (by simp)
   ·rw [if_neg c4] at H; have vQ : decide (aZ < (l0.length : Int)) = false := decide_eq_false c4; clear c4; obtain rfl := Option.some.inj H; go_wp2; go_ret
    exact ⟨_, xerr, by (with_reducible repeat (first | apply Kd.R_alloc | apply Kd.R_drewN | apply Kd.R_drew)); exact cN.out, xbel⟩

end Go.Proofs.Ytocpomkfilpflaa.QFnRec
