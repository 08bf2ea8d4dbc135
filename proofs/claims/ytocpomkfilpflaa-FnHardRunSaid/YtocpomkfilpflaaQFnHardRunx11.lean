-- A walk, by a program of this session.
import Derived.Test.YtocpomkfilpflaaQFnHardRunx0
import Derived.Test.YtocpomkfilpflaaQFnHardRunx9
import Derived.Test.YtocpomkfilpflaaQFnHardRunx10
namespace Go.Proofs.Ytocpomkfilpflaa.QFnHardRun
open Go.RowKit Go.Proofs.YtocpomkfilpflaaW.PrintWords Go.Proofs.YtocpomkfilpflaaW.PrintLast Go.Proofs.YtocpomkfilpflaaW.PrintMore
attribute [local go_sem] max2_int min2_int max_two min_two max_three min_three max_four min_four   -- for this text's walks alone
set_option linter.unusedVariables false
set_option linter.unusedSimpArgs false

theorem u11_0 {p : Prop} (h : p := by first | (go_simp; done) | (go_simp; rfl)) : p := h
theorem u11_1 {p : Prop} (h : p := by first | rfl | (simp; done) | (simp [*]; done)) : p := h
theorem u11_2 {p : Prop} (h : p := by first | omega | exact Nat.le_refl _) : p := h
theorem u11_3 {p : Prop} (h : p := by first | exact Kd.R_nil _ _ _ _ _ | exact Kd.N_nil _ _ _ _ _ | exact Kd.V_nil _ _ _ _ _ | exact Kd.Q_nil _ _ _ _ _ | exact Kd.S_nil _ _ _ _ _) : p := h
theorem u11_4 {p : Prop} (h : p := by first | (rw [hY]; with_reducible exact H) | (have H2_ := oS H; rw [hY]; with_reducible exact H2_) | (have H2_ := oS H; with_reducible exact H2_) | with_reducible exact H | (rw [hY]; exact H) | exact H) : p := h
/-! ### impl_HardApply: function 10 -/
def impl_HardApply.j0 : Nat → Bool → Int → Int → List (S36) → Int → Int → Int → Int → Int → Int → Int → Int → Int → ByteArray → Int → Int → List (S36) → Option (Int × Int × (List (S36)) × Bool)
 | 0, _, _, _, _, _, _, _, _, _, _, _, _, _, _, _, _, _ => none
 | k + 1, x7, eB, eC, eD, iJ, iK, iL, iM, iO, iP, iQ, iR, iS, iU, gH, gI, gJ => if x7 = true then ((impl_RecOk.f k iJ iK iL iM iO iP iQ iR iS iU).bind fun rS => (if rS = true then ((impl_HardOk.f k gH gI gJ).bind fun rT => (if rT = true then (some (gH, gI, gJ, true)) else ((impl_copyHard.f eB eC eD).bind fun iD => (some (iD.1, iD.2.1, iD.2.2, false))))) else ((impl_copyHard.f eB eC eD).bind fun iE => (some (iE.1, iE.2.1, iE.2.2, false))))) else ((impl_copyHard.f eB eC eD).bind fun iF => (some (iF.1, iF.2.1, iF.2.2, false)))
def impl_HardApply.f (k : Nat) (bA : Int) (bC : Int) (aU : List (S36)) (bR : Int) (aZ : Int) (bE : Int) (bB : Int) (bU : Int) (bV : Int) (bW : Int) (bX : Int) (bY : Int) (bZ : ByteArray) : Option (Int × Int × (List (S36)) × Bool) := (impl_HardOk.f k bA bC aU).bind fun iG => (if iG = true then ((impl_copyHard.f bA bC aU).bind fun bM => (if bR = 1 then (if aZ > bA then (impl_HardApply.j0 k true bA bC aU bR aZ bE bB bU bV bW bX bY bZ aZ bE bM.2.2) else (if aZ = bA then (if bC = 0 then (impl_HardApply.j0 k true bA bC aU bR aZ bE bB bU bV bW bX bY bZ aZ bE bM.2.2) else (impl_HardApply.j0 k (bC == bE) bA bC aU bR aZ bE bB bU bV bW bX bY bZ aZ bE bM.2.2)) else (impl_HardApply.j0 k false bA bC aU bR aZ bE bB bU bV bW bX bY bZ aZ bE bM.2.2))) else (if bR = 2 then (if bM.2.2.length < 2513169434916 then (impl_HardApply.j0 k (bB == (wrap64 ((aU.length : Int) + 1))) bA bC aU bR aZ bE bB bU bV bW bX bY bZ bM.1 bM.2.1 (bM.2.2 ++ [(⟨bU, (⟨bV, bW, bX, bY, bZ⟩ : S34)⟩ : S36)])) else (none)) else (if bR = 3 then ((impl_within.f bB 0 (aU.length : Int)).bind fun eE => (if 0 ≤ (mn (mx bB 0) (aU.length : Int)) then (if (mn (mx bB 0) (aU.length : Int)) ≤ (bM.2.2.length : Int) then (impl_HardApply.j0 k eE bA bC aU bR aZ bE bB bU bV bW bX bY bZ bM.1 bM.2.1 (bM.2.2.take ((mn (mx bB 0) (aU.length : Int)) : Int).toNat)) else (none)) else (none))) else (impl_HardApply.j0 k false bA bC aU bR aZ bE bB bU bV bW bX bY bZ bM.1 bM.2.1 bM.2.2))))) else (some (0, 0, ([] : List (S36)), false)))
theorem u11_mq0 {p : Prop} (h : p := by repeat' first | (with_reducible first | exact sL _ _ _ _ _ _ _ _ _ _ _ _ _ _ _ _ _ | exact impl_HardOk.mono _ _ _ _ | exact impl_RecOk.mono _ _ _ _ _ _ _ _ _ _ _ | exact LeO.refl _ | exact LeO.none _ | refine LeO.ite ?_ ?_ | refine LeO.bind ?_ (fun _ => ?_)) | exact LeO.none _ | refine LeO.ite ?_ ?_ | refine LeO.bind ?_ (fun _ => ?_)) : p := h
set_option maxRecDepth 100000 in
theorem impl_HardApply.mono_l : ∀ k, (∀ y0 y1 y2 y3 y4 y5 y6 y7 y8 y9 CX CY CZ DA DB DC DD, LeO (impl_HardApply.j0 k y0 y1 y2 y3 y4 y5 y6 y7 y8 y9 CX CY CZ DA DB DC DD) (impl_HardApply.j0 (k + 1) y0 y1 y2 y3 y4 y5 y6 y7 y8 y9 CX CY CZ DA DB DC DD))
 | 0 => fun _ _ _ _ _ _ _ _ _ _ _ _ _ _ _ _ _ r h => by simp [impl_HardApply.j0] at h
 | k + 1 => by
  have sL := impl_HardApply.mono_l k
  ·intro y0 y1 y2 y3 y4 y5 y6 y7 y8 y9 CX CY CZ DA DB DC DD; unfold impl_HardApply.j0; exact u11_mq0
theorem impl_HardApply.mono : ∀ a0 a1 a2 a3 a4 a5 a6 a7 a8 a9 DE DF DG k, LeO (impl_HardApply.f k a0 a1 a2 a3 a4 a5 a6 a7 a8 a9 DE DF DG) (impl_HardApply.f (k + 1) a0 a1 a2 a3 a4 a5 a6 a7 a8 a9 DE DF DG) := by
 intro a0 a1 a2 a3 a4 a5 a6 a7 a8 a9 DE DF DG k
 have sL := impl_HardApply.mono_l k
 unfold impl_HardApply.f
 exact u11_mq0
def impl_HardApply.T8 : Bool × List (List Nat × List Nat) := (true, [([], []), ([0], [0]), ([], []), ([2], [2]), ([0, 1], []), ([4, 1, 0, 1], [1, 4]), ([0, 1, 2, 3, 4, 5], []), ([6, 3, 5, 0, 1, 2, 3, 4, 5], [3, 6])])
def impl_HardApply.B8 : List Nat := [0, 1, 0, 4, 3, 19, 63, 127]
set_option maxHeartbeats 8000000 in
set_option maxRecDepth 100000 in
theorem impl_HardApply.calls (k : Nat) (bA : Int) (bC : Int) (dG : Option Addr) (dH : Nat) (aU : List (S36)) (bR : Int) (aZ : Int) (bE : Int) (bB : Int) (bU : Int) (bV : Int) (bW : Int) (bX : Int) (bY : Int) (bZ : ByteArray) (r1 : Int) (r2 : Int) (r3 : List (S36)) (r4 : Bool) (w : World) (qW : Kd.C k36 w dG aU.length aU) (qX : aU.length ≤ dH) (h : impl_HardApply.f k bA bC aU bR aZ bE bB bU bV bW bX bY bZ = some (r1, r2, r3, r4)) :
 Calls Try.prog 10 #[.agg #[.int .i64 bA, .int .i64 bC, .slice dG aU.length dH], .agg #[.int .i64 bR, .int .i64 aZ, .int .i64 bE, .int .i64 bB, .int .i64 bU, .int .i64 bV, .int .i64 bW, .int .i64 bX, .int .i64 bY, .string bZ]] w fun e w' => ∃ v2_ : Value, e = .returned (.tuple #[.agg #[.int .i64 r1, .int .i64 r2, v2_], .bool r4]) ∧ Kd.R k36 36 w' w.heap.size (fun _ => True) v2_ r3 ∧ Below w.heap.size w w' := by
 have DH := Try.underlying28
 have DI := Try.underlying38
 have KI := Try.underlying36
 have dS := aM qW
 have dU := aM qX
 clear qW qX
 have HB := aM (Below.refl w.heap.size w)
 have H : ((impl_HardOk.f k bA bC aU).bind fun iG => (if iG = true then ((impl_copyHard.f bA bC aU).bind fun bM => (if bR = 1 then (if aZ > bA then (impl_HardApply.j0 k true bA bC aU bR aZ bE bB bU bV bW bX bY bZ aZ bE bM.2.2) else (if aZ = bA then (if bC = 0 then (impl_HardApply.j0 k true bA bC aU bR aZ bE bB bU bV bW bX bY bZ aZ bE bM.2.2) else (impl_HardApply.j0 k (bC == bE) bA bC aU bR aZ bE bB bU bV bW bX bY bZ aZ bE bM.2.2)) else (impl_HardApply.j0 k false bA bC aU bR aZ bE bB bU bV bW bX bY bZ aZ bE bM.2.2))) else (if bR = 2 then (if bM.2.2.length < 2513169434916 then (impl_HardApply.j0 k (bB == (wrap64 ((aU.length : Int) + 1))) bA bC aU bR aZ bE bB bU bV bW bX bY bZ bM.1 bM.2.1 (bM.2.2 ++ [(⟨bU, (⟨bV, bW, bX, bY, bZ⟩ : S34)⟩ : S36)])) else (none)) else (if bR = 3 then ((impl_within.f bB 0 (aU.length : Int)).bind fun eE => (if 0 ≤ (mn (mx bB 0) (aU.length : Int)) then (if (mn (mx bB 0) (aU.length : Int)) ≤ (bM.2.2.length : Int) then (impl_HardApply.j0 k eE bA bC aU bR aZ bE bB bU bV bW bX bY bZ bM.1 bM.2.1 (bM.2.2.take ((mn (mx bB 0) (aU.length : Int)) : Int).toNat)) else (none)) else (none))) else (impl_HardApply.j0 k false bA bC aU bR aZ bE bB bU bV bW bX bY bZ bM.1 bM.2.1 bM.2.2))))) else (some (0, 0, ([] : List (S36)), false)))) = some (r1, r2, r3, r4) := h
 clear h
 replace H := oB H
 obtain ⟨iG, GH, H⟩ := H
 (try dsimp only at H)
 have A3 := aM GH
 clear GH
 by_cases c4 : iG = true
 ·subst c4; replace H := iT H; replace H := oB H; obtain ⟨⟨cQ, cS, cE⟩, GI, H⟩ := H; (try dsimp only at H); have A5 := aM GI; clear GI; have DJ := aM H; clear H
  go_enter Try.func10, Try.ntmps10
  go_upto_block 0 with (first | ((with_reducible refine gD 2 rfl ?_); refine boxE (N := 2) rfl (cs := #[.int .i64 bA, .int .i64 bC, .slice dG aU.length dH]) (t := 28) ?_; intro iH hg w7 hbox hb; have aE := aM (hbox); have sM := aM (xge hg); have sN := aM (xge hg); replace HB := xbs hb; clear hb hbox hg) | ((with_reducible refine gD 3 rfl ?_); refine boxE (N := 3) rfl (cs := #[.int .i64 bR, .int .i64 aZ, .int .i64 bE, .int .i64 bB, .int .i64 bU, .int .i64 bV, .int .i64 bW, .int .i64 bX, .int .i64 bY, .string bZ]) (t := 38) ?_; intro aV hg w8 hbox hb; have sO := aM (xge hg); have sP := aM (xge hg); replace HB := xbs hb; have bG := nblt aE hg; have bH := nbgt aE hg; replace aE := xbb aE hb; have aC := aM (hbox); clear hb hbox hg) | ((with_reducible refine gD 4 rfl ?_); refine boxE (N := 4) rfl (cs := #[.int .i64 0, .int .i64 0, .slice none 0 0]) (t := 28) ?_; intro bQ hg w9 hbox hb; have sQ := aM (xge hg); have sR := aM (xge hg); replace HB := xbs hb; have bI := nblt aE hg; have bJ := nbgt aE hg; have bK := nblt aC hg; have bL := nbgt aC hg; replace aE := xbb aE hb; replace aC := xbb aC hb; have aJ := aM (hbox); clear hb hbox hg; have GJ := bG.out; have GK := bH.out; have GL := bI.out; have GM := bJ.out; obtain ⟨zU, zV, zW, zX, zY, zZ⟩ := xf3 (w := w9) aE) | ((with_reducible refine gC 11 rfl ?_); refine goesLY (some 9) rfl Try.func11 #[.agg #[.int .i64 bA, .int .i64 bC, .slice dG aU.length dH]] ?_; (with_reducible refine (impl_HardOk.calls k bA bC _ _ aU true _ ?side1 ?side2 A3.out).mono ?_); (case side1 => exact xcb dS); (case side2 => exact dU.out); rintro e KJ ⟨rfl, hb⟩; refine ⟨_, rfl, ?_⟩; replace aE := xbb aE hb; replace aC := xbb aC hb; replace aJ := xbb aJ hb; replace HB := xbs hb; (try clear hb); obtain ⟨AA, AB, AC, AD, AE, AF⟩ := xf3 (w := KJ) aE) | ((with_reducible refine gC 34 rfl ?_); refine goesLY (some 13) rfl Try.func34 #[.agg #[.int .i64 bA, .int .i64 bC, .slice dG aU.length dH]] ?_; (with_reducible refine (impl_copyHard.calls bA bC _ _ aU cQ cS cE _ ?side1 ?side2 A5.out).mono ?_); (case side1 => exact xcb dS); (case side2 => exact dU.out); rintro e LA ⟨v480, rfl, fR, hb⟩; refine ⟨_, rfl, ?_⟩; have bN := aM (Kd.R_lower fR (below_size xbg)); replace aE := xbb aE hb; replace aC := xbb aC hb; replace aJ := xbb aJ hb; replace HB := xbs hb; (try clear hb fR)) | ((with_reducible refine gD 6 rfl ?_); refine boxE (N := 6) rfl (cs := #[.int .i64 0, .int .i64 0, .slice none 0 0]) (t := 28) ?_; intro aD hg GN hbox hb; replace bN := xrb bN hb; have GO := aM (xge hg); have GP := aM (xge hg); replace HB := xbs hb; have aN := nblt aE hg; have aQ := nbgt aE hg; have aA := nblt aC hg; have aT := nbgt aC hg; have aW := nblt aJ hg; have aX := nbgt aJ hg; replace aE := xbb aE hb; replace aC := xbb aC hb; replace aJ := xbb aJ hb; have aI := aM (hbox); clear hb hbox hg; have GQ := aQ.out; have GR := aN.out; have GS := aT.out; have GT := aA.out; have GU := aX.out; have GV := aW.out; obtain ⟨AG, AH, AJ, AK, AL, AM⟩ := xf3 (w := GN) aI; obtain ⟨dI, dJ, DK⟩ := Kd.R_slice bN.out; subst DK) | ((with_reducible refine gate_store (t := 28) (p := 6) rfl ?_); refine store_event (t := 28) (p := 6) (v := ?vo_w22) (w1 := (((GN.setCell ⟨aD, 0, none⟩ (.int .i64 cQ)).setCell ⟨aD, 1, none⟩ (.int .i64 cS)).setCell ⟨aD, 2, none⟩ (.slice dI cE.length dJ))) ?hg ?ho ?hn ?hr ?_; (case ho | hg | hn => rfl); (case hr => exact u11_0); intro dK hw; replace bN : Aside0 (Kd.R k36 36 dK w.heap.size (fun _ => True) (.slice dI cE.length dJ) cE) := xwm hw bN (fun _ _ => trivial); replace aE := xwc hw aE; replace aC := xwc hw aC; replace aJ := xwc hw aJ; replace aI : Aside0 (dK.heap[aD]? = some (.cells #[.int .i64 cQ, .int .i64 cS, .slice dI cE.length dJ] 28 (0, 0))) := xwp hw; replace HB := xbw hw HB; clear hw; have sS := bK.out; have sU := bL.out; obtain ⟨AN, AO, AP, AQ, AR, AS, AT, AU, AV, AW, AX, AY, AZ, BA, BB, BC, BD, BE, BF, BG⟩ := xf10 (w := dK) aC))
  (try simp only [Act.put, List.setIfInBounds_toArray, List.set_cons_zero, List.set_cons_succ]); go_cut [7] (fun v7 wc => ∃ (kq : Nat) (iV : Bool) (cC : Int) (cD : Int) (aY : List (S36)) (cI : Value), v7 = .bool iV ∧ Aside0 (impl_HardApply.j0 kq iV bA bC aU bR aZ bE bB bU bV bW bX bY bZ cC cD aY = some (r1, r2, r3, r4)) ∧ Aside0 (kq ≤ k) ∧ Aside0 (Kd.R k36 36 wc w.heap.size (fun _ => True) cI aY) ∧ Aside0 (wc.heap[iH]? = some (.cells #[.int .i64 bA, .int .i64 bC, (.slice dG aU.length dH)] 28 (0, 0))) ∧ Aside0 (wc.heap[aV]? = some (.cells #[.int .i64 bR, .int .i64 aZ, .int .i64 bE, .int .i64 bB, .int .i64 bU, .int .i64 bV, .int .i64 bW, .int .i64 bX, .int .i64 bY, .string bZ] 38 (0, 0))) ∧ Aside0 (wc.heap[bQ]? = some (.cells #[.int .i64 0, .int .i64 0, (.slice none 0 0)] 28 (0, 0))) ∧ Aside0 (wc.heap[aD]? = some (.cells #[.int .i64 cC, .int .i64 cD, cI] 28 (0, 0))) ∧ Aside0 (Below w.heap.size w wc))
  case first =>
   have H := DJ.out; clear DJ; by_cases sD : bR = 1
   ·rw [if_pos sD] at H; obtain ⟨dV, qY⟩ := bT sD; clear sD; (first | rw [dV] | (simp only [i64_w, i32_w]; rw [dV]) | skip); by_cases sE : aZ > bA
    ·rw [if_pos sE] at H; have sV : decide (bA < aZ) = true := decide_eq_true sE; clear sE; have H' := aM H; clear H; have sW := bH.out; have sX := bG.out; have GW := bK.out; have GX := bL.out; have GY := aA.out; have GZ := aT.out; obtain ⟨BH, BI, BJ, BK, BL, BM, BN, BO, BP, BQ, BR, BS, BT, BU, BV, BW, BX, BZ, CA, CB⟩ := xf10 (w := dK) aC; have HC := bI.out; have HD := bJ.out; have HE := aN.out; have HF := aQ.out; obtain ⟨CC, CD, CE, CF, CG, CH⟩ := xf3 (w := dK) aE; try go_wp2
     replace bN := rD bN; replace aE := bD aE; replace aC := bD aC; replace aJ := bD aJ; replace aI := bD aI; replace HB := lD HB; refine st_ 8 (fun w' => w'.cell? ⟨aV, 0, none⟩ = some (.int .i64 bR) ∧ w'.cell? ⟨aV, 1, none⟩ = some (.int .i64 aZ) ∧ w'.cell? ⟨aV, 2, none⟩ = some (.int .i64 bE) ∧ w'.cell? ⟨aV, 3, none⟩ = some (.int .i64 bB) ∧ w'.cell? ⟨aV, 4, none⟩ = some (.int .i64 bU) ∧ w'.cell? ⟨aV, 5, none⟩ = some (.int .i64 bV) ∧ w'.cell? ⟨aV, 6, none⟩ = some (.int .i64 bW) ∧ w'.cell? ⟨aV, 7, none⟩ = some (.int .i64 bX) ∧ w'.cell? ⟨aV, 8, none⟩ = some (.int .i64 bY) ∧ w'.cell? ⟨aV, 9, none⟩ = some (.string bZ)) impl_HardApply.T8 impl_HardApply.B8 ⟨xc aC 0 rfl, xc aC 1 rfl, xc aC 2 rfl, xc aC 3 rfl, xc aC 4 rfl, xc aC 5 rfl, xc aC 6 rfl, xc aC 7 rfl, xc aC 8 rfl, xc aC 9 rfl⟩ (fun hHeld HT_ HW_ => ?_); generalize dK.drew = HG at bN aE aC aJ aI HB hHeld ⊢; refine pV 0 42 ?_; refine pV 2 44 ?_; refine tK 1 43 ?_; refine pV 4 46 ?_; refine tK 3 45 ?_; refine one_ (i := 5) (N := none) #[true, true, true, true, true, true, false, false] rfl rfl (one_of HT_.out (by kernel_rfl)) (by decide) (fun K hK => ?_); have hs35 : HG.cell? ⟨aD, 0, none⟩ = some (.int .i64 cQ) := xc aI 0 rfl; have hfs35 := blk_frozen aI.out 0; have hns35_0 := aN.out; have hns35_1 := aA.out; have hns35_2 := aW.out; have hms35_0 := aQ.out; have hms35_1 := aT.out; have hms35_2 := aX.out; refine skip_ (w1 := ?_) (by rfl) rfl ?_ ?_; rotate_left
     ·go_simp
      rfl
     refine hK.out _ _ ⟨((cell_far (p := ⟨aD, _, none⟩) aA.out _).trans (hHeld.1)), ((cell_far (p := ⟨aD, _, none⟩) aA.out _).trans (hHeld.2.1)), ((cell_far (p := ⟨aD, _, none⟩) aA.out _).trans (hHeld.2.2.1)), ((cell_far (p := ⟨aD, _, none⟩) aA.out _).trans (hHeld.2.2.2.1)), ((cell_far (p := ⟨aD, _, none⟩) aA.out _).trans (hHeld.2.2.2.2.1)), ((cell_far (p := ⟨aD, _, none⟩) aA.out _).trans (hHeld.2.2.2.2.2.1)), ((cell_far (p := ⟨aD, _, none⟩) aA.out _).trans (hHeld.2.2.2.2.2.2.1)), ((cell_far (p := ⟨aD, _, none⟩) aA.out _).trans (hHeld.2.2.2.2.2.2.2.1)), ((cell_far (p := ⟨aD, _, none⟩) aA.out _).trans (hHeld.2.2.2.2.2.2.2.2.1)), ((cell_far (p := ⟨aD, _, none⟩) aA.out _).trans (hHeld.2.2.2.2.2.2.2.2.2))⟩ (fun hHeld => ?_); clear hK K; refine pV 6 47 ?_; refine one_ (i := 7) (N := none) #[true, true, true, true, true, true, true, true] rfl rfl (one_of HT_.out (by kernel_rfl)) (by decide) (fun K hK => ?_); have hs36 : HG.cell? ⟨aD, 1, none⟩ = some (.int .i64 cS) := xc aI 1 rfl; have hfs36 := blk_frozen aI.out 1; have hns36_0 := aN.out; have hns36_1 := aA.out; have hns36_2 := aW.out; have hms36_0 := aQ.out; have hms36_1 := aT.out; have hms36_2 := aX.out; refine skip_ (w1 := ?_) (by rfl) rfl ?_ ?_; rotate_left
     ·go_simp
      rfl
     refine hK.out _ _ ⟨((cell_far (p := ⟨aD, _, none⟩) aA.out _).trans (hHeld.1)), ((cell_far (p := ⟨aD, _, none⟩) aA.out _).trans (hHeld.2.1)), ((cell_far (p := ⟨aD, _, none⟩) aA.out _).trans (hHeld.2.2.1)), ((cell_far (p := ⟨aD, _, none⟩) aA.out _).trans (hHeld.2.2.2.1)), ((cell_far (p := ⟨aD, _, none⟩) aA.out _).trans (hHeld.2.2.2.2.1)), ((cell_far (p := ⟨aD, _, none⟩) aA.out _).trans (hHeld.2.2.2.2.2.1)), ((cell_far (p := ⟨aD, _, none⟩) aA.out _).trans (hHeld.2.2.2.2.2.2.1)), ((cell_far (p := ⟨aD, _, none⟩) aA.out _).trans (hHeld.2.2.2.2.2.2.2.1)), ((cell_far (p := ⟨aD, _, none⟩) aA.out _).trans (hHeld.2.2.2.2.2.2.2.2.1)), ((cell_far (p := ⟨aD, _, none⟩) aA.out _).trans (hHeld.2.2.2.2.2.2.2.2.2))⟩ (fun hHeld => ?_); clear hK K; refine dn_ ?_; try go_wp2
     go_meet
     case rel => exact ⟨_, (true), (aZ), (bE), (cE), (.slice dI cE.length dJ), u11_1, H', ⟨u11_2⟩, ⟨xrm bN (fun _ _ => trivial)⟩, ⟨xB⟩, ⟨xB⟩, ⟨xB⟩, ⟨xP⟩, ⟨xbg⟩⟩
    ·rw [if_neg sE] at H; have sV : decide (bA < aZ) = false := decide_eq_false sE; clear sE; by_cases sF : aZ = bA
     ·rw [if_pos sF] at H; obtain ⟨qZ, rA⟩ := bT sF; clear sF; by_cases iC : bC = 0
      ·rw [if_pos iC] at H; obtain ⟨rB, rC⟩ := bT iC; clear iC; have H' := aM H; clear H; have sY := bH.out; have sZ := bG.out; have tA := bK.out; have tB := bL.out; have tC := aA.out; have tD := aT.out; obtain ⟨eF, eG, eH, iW, iX, iY, iZ, jA, jB, jC, eI, eJ, eK, jD, jE, jF, jG, jH, jI, jJ⟩ := xf10 (w := dK) aC; have tE := bI.out; have tF := bJ.out; have tG := aN.out; have tH := aQ.out; obtain ⟨eL, eM, eN, eO, eP, eQ⟩ := xf3 (w := dK) aE; try go_wp2
       replace bN := rD bN; replace aE := bD aE; replace aC := bD aC; replace aJ := bD aJ; replace aI := bD aI; replace HB := lD HB; refine st_ 8 (fun w' => w'.cell? ⟨aV, 0, none⟩ = some (.int .i64 bR) ∧ w'.cell? ⟨aV, 1, none⟩ = some (.int .i64 aZ) ∧ w'.cell? ⟨aV, 2, none⟩ = some (.int .i64 bE) ∧ w'.cell? ⟨aV, 3, none⟩ = some (.int .i64 bB) ∧ w'.cell? ⟨aV, 4, none⟩ = some (.int .i64 bU) ∧ w'.cell? ⟨aV, 5, none⟩ = some (.int .i64 bV) ∧ w'.cell? ⟨aV, 6, none⟩ = some (.int .i64 bW) ∧ w'.cell? ⟨aV, 7, none⟩ = some (.int .i64 bX) ∧ w'.cell? ⟨aV, 8, none⟩ = some (.int .i64 bY) ∧ w'.cell? ⟨aV, 9, none⟩ = some (.string bZ)) impl_HardApply.T8 impl_HardApply.B8 ⟨xc aC 0 rfl, xc aC 1 rfl, xc aC 2 rfl, xc aC 3 rfl, xc aC 4 rfl, xc aC 5 rfl, xc aC 6 rfl, xc aC 7 rfl, xc aC 8 rfl, xc aC 9 rfl⟩ (fun hHeld HT_ HW_ => ?_); generalize dK.drew = rU at bN aE aC aJ aI HB hHeld ⊢; refine pV 0 42 ?_; refine pV 2 44 ?_; refine tK 1 43 ?_; refine pV 4 46 ?_; refine tK 3 45 ?_; refine one_ (i := 5) (N := none) #[true, true, true, true, true, true, false, false] rfl rfl (one_of HT_.out (by kernel_rfl)) (by decide) (fun K hK => ?_); have hs47 : rU.cell? ⟨aD, 0, none⟩ = some (.int .i64 cQ) := xc aI 0 rfl; have hfs47 := blk_frozen aI.out 0; have hns47_0 := aN.out; have hns47_1 := aA.out; have hns47_2 := aW.out; have hms47_0 := aQ.out; have hms47_1 := aT.out; have hms47_2 := aX.out; refine skip_ (w1 := ?_) (by rfl) rfl ?_ ?_; rotate_left
       ·go_simp
        rfl
       refine hK.out _ _ ⟨((cell_far (p := ⟨aD, _, none⟩) aA.out _).trans (hHeld.1)), ((cell_far (p := ⟨aD, _, none⟩) aA.out _).trans (hHeld.2.1)), ((cell_far (p := ⟨aD, _, none⟩) aA.out _).trans (hHeld.2.2.1)), ((cell_far (p := ⟨aD, _, none⟩) aA.out _).trans (hHeld.2.2.2.1)), ((cell_far (p := ⟨aD, _, none⟩) aA.out _).trans (hHeld.2.2.2.2.1)), ((cell_far (p := ⟨aD, _, none⟩) aA.out _).trans (hHeld.2.2.2.2.2.1)), ((cell_far (p := ⟨aD, _, none⟩) aA.out _).trans (hHeld.2.2.2.2.2.2.1)), ((cell_far (p := ⟨aD, _, none⟩) aA.out _).trans (hHeld.2.2.2.2.2.2.2.1)), ((cell_far (p := ⟨aD, _, none⟩) aA.out _).trans (hHeld.2.2.2.2.2.2.2.2.1)), ((cell_far (p := ⟨aD, _, none⟩) aA.out _).trans (hHeld.2.2.2.2.2.2.2.2.2))⟩ (fun hHeld => ?_); clear hK K; refine pV 6 47 ?_; refine one_ (i := 7) (N := none) #[true, true, true, true, true, true, true, true] rfl rfl (one_of HT_.out (by kernel_rfl)) (by decide) (fun K hK => ?_); have hs48 : rU.cell? ⟨aD, 1, none⟩ = some (.int .i64 cS) := xc aI 1 rfl; have hfs48 := blk_frozen aI.out 1; have hns48_0 := aN.out; have hns48_1 := aA.out; have hns48_2 := aW.out; have hms48_0 := aQ.out; have hms48_1 := aT.out; have hms48_2 := aX.out; refine skip_ (w1 := ?_) (by rfl) rfl ?_ ?_; rotate_left
       ·go_simp
        rfl
       refine hK.out _ _ ⟨((cell_far (p := ⟨aD, _, none⟩) aA.out _).trans (hHeld.1)), ((cell_far (p := ⟨aD, _, none⟩) aA.out _).trans (hHeld.2.1)), ((cell_far (p := ⟨aD, _, none⟩) aA.out _).trans (hHeld.2.2.1)), ((cell_far (p := ⟨aD, _, none⟩) aA.out _).trans (hHeld.2.2.2.1)), ((cell_far (p := ⟨aD, _, none⟩) aA.out _).trans (hHeld.2.2.2.2.1)), ((cell_far (p := ⟨aD, _, none⟩) aA.out _).trans (hHeld.2.2.2.2.2.1)), ((cell_far (p := ⟨aD, _, none⟩) aA.out _).trans (hHeld.2.2.2.2.2.2.1)), ((cell_far (p := ⟨aD, _, none⟩) aA.out _).trans (hHeld.2.2.2.2.2.2.2.1)), ((cell_far (p := ⟨aD, _, none⟩) aA.out _).trans (hHeld.2.2.2.2.2.2.2.2.1)), ((cell_far (p := ⟨aD, _, none⟩) aA.out _).trans (hHeld.2.2.2.2.2.2.2.2.2))⟩ (fun hHeld => ?_); clear hK K; refine dn_ ?_; try go_wp2
       go_meet
       case rel => exact ⟨_, (true), (aZ), (bE), (cE), (.slice dI cE.length dJ), u11_1, H', ⟨u11_2⟩, ⟨xrm bN (fun _ _ => trivial)⟩, ⟨xB⟩, ⟨xB⟩, ⟨xB⟩, ⟨xP⟩, ⟨xbg⟩⟩
      ·rw [if_neg iC] at H; obtain ⟨rB, rC⟩ := bF iC; have H' := aM H; clear H; have tI := bH.out; have tJ := bG.out; have HH := bK.out; have HI := bL.out; have tL := aA.out; have tM := aT.out; obtain ⟨jK, jL, jM, jN, jO, jP, jQ, jR, jS, jT, jU, jV, jW, jX, jY, jZ, kA, kB, kC, kE⟩ := xf10 (w := dK) aC; have HJ := bI.out; have HL := bJ.out; have HM := aN.out; have HN := aQ.out; obtain ⟨kF, kG, kH, kI, kJ, kK⟩ := xf3 (w := dK) aE; try go_wp2
       replace bN := rD bN; replace aE := bD aE; replace aC := bD aC; replace aJ := bD aJ; replace aI := bD aI; replace HB := lD HB; refine st_ 8 (fun w' => w'.cell? ⟨aV, 0, none⟩ = some (.int .i64 bR) ∧ w'.cell? ⟨aV, 1, none⟩ = some (.int .i64 aZ) ∧ w'.cell? ⟨aV, 2, none⟩ = some (.int .i64 bE) ∧ w'.cell? ⟨aV, 3, none⟩ = some (.int .i64 bB) ∧ w'.cell? ⟨aV, 4, none⟩ = some (.int .i64 bU) ∧ w'.cell? ⟨aV, 5, none⟩ = some (.int .i64 bV) ∧ w'.cell? ⟨aV, 6, none⟩ = some (.int .i64 bW) ∧ w'.cell? ⟨aV, 7, none⟩ = some (.int .i64 bX) ∧ w'.cell? ⟨aV, 8, none⟩ = some (.int .i64 bY) ∧ w'.cell? ⟨aV, 9, none⟩ = some (.string bZ)) impl_HardApply.T8 impl_HardApply.B8 ⟨xc aC 0 rfl, xc aC 1 rfl, xc aC 2 rfl, xc aC 3 rfl, xc aC 4 rfl, xc aC 5 rfl, xc aC 6 rfl, xc aC 7 rfl, xc aC 8 rfl, xc aC 9 rfl⟩ (fun hHeld HT_ HW_ => ?_); generalize dK.drew = HP at bN aE aC aJ aI HB hHeld ⊢; refine pV 0 42 ?_; refine pV 2 44 ?_; refine tK 1 43 ?_; refine pV 4 46 ?_; refine tK 3 45 ?_; refine one_ (i := 5) (N := none) #[true, true, true, true, true, true, false, false] rfl rfl (one_of HT_.out (by kernel_rfl)) (by decide) (fun K hK => ?_); have hs57 : HP.cell? ⟨aD, 0, none⟩ = some (.int .i64 cQ) := xc aI 0 rfl; have hfs57 := blk_frozen aI.out 0; have hns57_0 := aN.out; have hns57_1 := aA.out; have hns57_2 := aW.out; have hms57_0 := aQ.out; have hms57_1 := aT.out; have hms57_2 := aX.out; refine skip_ (w1 := ?_) (by rfl) rfl ?_ ?_; rotate_left
       ·go_simp
        rfl
       refine hK.out _ _ ⟨((cell_far (p := ⟨aD, _, none⟩) aA.out _).trans (hHeld.1)), ((cell_far (p := ⟨aD, _, none⟩) aA.out _).trans (hHeld.2.1)), ((cell_far (p := ⟨aD, _, none⟩) aA.out _).trans (hHeld.2.2.1)), ((cell_far (p := ⟨aD, _, none⟩) aA.out _).trans (hHeld.2.2.2.1)), ((cell_far (p := ⟨aD, _, none⟩) aA.out _).trans (hHeld.2.2.2.2.1)), ((cell_far (p := ⟨aD, _, none⟩) aA.out _).trans (hHeld.2.2.2.2.2.1)), ((cell_far (p := ⟨aD, _, none⟩) aA.out _).trans (hHeld.2.2.2.2.2.2.1)), ((cell_far (p := ⟨aD, _, none⟩) aA.out _).trans (hHeld.2.2.2.2.2.2.2.1)), ((cell_far (p := ⟨aD, _, none⟩) aA.out _).trans (hHeld.2.2.2.2.2.2.2.2.1)), ((cell_far (p := ⟨aD, _, none⟩) aA.out _).trans (hHeld.2.2.2.2.2.2.2.2.2))⟩ (fun hHeld => ?_); clear hK K; refine pV 6 47 ?_; refine one_ (i := 7) (N := none) #[true, true, true, true, true, true, true, true] rfl rfl (one_of HT_.out (by kernel_rfl)) (by decide) (fun K hK => ?_); have hs58 : HP.cell? ⟨aD, 1, none⟩ = some (.int .i64 cS) := xc aI 1 rfl; have hfs58 := blk_frozen aI.out 1; have hns58_0 := aN.out; have hns58_1 := aA.out; have hns58_2 := aW.out; have hms58_0 := aQ.out; have hms58_1 := aT.out; have hms58_2 := aX.out; refine skip_ (w1 := ?_) (by rfl) rfl ?_ ?_; rotate_left
       ·go_simp
        rfl
       refine hK.out _ _ ⟨((cell_far (p := ⟨aD, _, none⟩) aA.out _).trans (hHeld.1)), ((cell_far (p := ⟨aD, _, none⟩) aA.out _).trans (hHeld.2.1)), ((cell_far (p := ⟨aD, _, none⟩) aA.out _).trans (hHeld.2.2.1)), ((cell_far (p := ⟨aD, _, none⟩) aA.out _).trans (hHeld.2.2.2.1)), ((cell_far (p := ⟨aD, _, none⟩) aA.out _).trans (hHeld.2.2.2.2.1)), ((cell_far (p := ⟨aD, _, none⟩) aA.out _).trans (hHeld.2.2.2.2.2.1)), ((cell_far (p := ⟨aD, _, none⟩) aA.out _).trans (hHeld.2.2.2.2.2.2.1)), ((cell_far (p := ⟨aD, _, none⟩) aA.out _).trans (hHeld.2.2.2.2.2.2.2.1)), ((cell_far (p := ⟨aD, _, none⟩) aA.out _).trans (hHeld.2.2.2.2.2.2.2.2.1)), ((cell_far (p := ⟨aD, _, none⟩) aA.out _).trans (hHeld.2.2.2.2.2.2.2.2.2))⟩ (fun hHeld => ?_); clear hK K; refine dn_ ?_; try go_wp2
       go_meet
       case rel => exact ⟨_, ((bC == bE)), (aZ), (bE), (cE), (.slice dI cE.length dJ), u11_1, H', ⟨u11_2⟩, ⟨xrm bN (fun _ _ => trivial)⟩, ⟨xB⟩, ⟨xB⟩, ⟨xB⟩, ⟨xP⟩, ⟨xbg⟩⟩
     ·rw [if_neg sF] at H; obtain ⟨qZ, rA⟩ := bF sF; have H' := aM H; clear H; have HQ := bH.out; have HS := bG.out; have HT := bK.out; have HU := bL.out; have HV := aA.out; have HW := aT.out; obtain ⟨kL, kM, kN, kO, kP, kQ, kR, kS, kT, kU, kV, kW, kX, kY, kZ, lA, lB, lC, lE, lF⟩ := xf10 (w := dK) aC; have HX := bI.out; have HY := bJ.out; have HZ := aN.out; have IA := aQ.out; obtain ⟨lG, lH, lI, lJ, lK, lL⟩ := xf3 (w := dK) aE; try go_wp2
      replace bN := rD bN; replace aE := bD aE; replace aC := bD aC; replace aJ := bD aJ; replace aI := bD aI; replace HB := lD HB; refine st_ 8 (fun w' => w'.cell? ⟨aV, 0, none⟩ = some (.int .i64 bR) ∧ w'.cell? ⟨aV, 1, none⟩ = some (.int .i64 aZ) ∧ w'.cell? ⟨aV, 2, none⟩ = some (.int .i64 bE) ∧ w'.cell? ⟨aV, 3, none⟩ = some (.int .i64 bB) ∧ w'.cell? ⟨aV, 4, none⟩ = some (.int .i64 bU) ∧ w'.cell? ⟨aV, 5, none⟩ = some (.int .i64 bV) ∧ w'.cell? ⟨aV, 6, none⟩ = some (.int .i64 bW) ∧ w'.cell? ⟨aV, 7, none⟩ = some (.int .i64 bX) ∧ w'.cell? ⟨aV, 8, none⟩ = some (.int .i64 bY) ∧ w'.cell? ⟨aV, 9, none⟩ = some (.string bZ)) impl_HardApply.T8 impl_HardApply.B8 ⟨xc aC 0 rfl, xc aC 1 rfl, xc aC 2 rfl, xc aC 3 rfl, xc aC 4 rfl, xc aC 5 rfl, xc aC 6 rfl, xc aC 7 rfl, xc aC 8 rfl, xc aC 9 rfl⟩ (fun hHeld HT_ HW_ => ?_); generalize dK.drew = IB at bN aE aC aJ aI HB hHeld ⊢; refine pV 0 42 ?_; refine pV 2 44 ?_; refine tK 1 43 ?_; refine pV 4 46 ?_; refine tK 3 45 ?_; refine one_ (i := 5) (N := none) #[true, true, true, true, true, true, false, false] rfl rfl (one_of HT_.out (by kernel_rfl)) (by decide) (fun K hK => ?_); have hs67 : IB.cell? ⟨aD, 0, none⟩ = some (.int .i64 cQ) := xc aI 0 rfl; have hfs67 := blk_frozen aI.out 0; have hns67_0 := aN.out; have hns67_1 := aA.out; have hns67_2 := aW.out; have hms67_0 := aQ.out; have hms67_1 := aT.out; have hms67_2 := aX.out; refine skip_ (w1 := ?_) (by rfl) rfl ?_ ?_; rotate_left
      ·go_simp
       rfl
      refine hK.out _ _ ⟨((cell_far (p := ⟨aD, _, none⟩) aA.out _).trans (hHeld.1)), ((cell_far (p := ⟨aD, _, none⟩) aA.out _).trans (hHeld.2.1)), ((cell_far (p := ⟨aD, _, none⟩) aA.out _).trans (hHeld.2.2.1)), ((cell_far (p := ⟨aD, _, none⟩) aA.out _).trans (hHeld.2.2.2.1)), ((cell_far (p := ⟨aD, _, none⟩) aA.out _).trans (hHeld.2.2.2.2.1)), ((cell_far (p := ⟨aD, _, none⟩) aA.out _).trans (hHeld.2.2.2.2.2.1)), ((cell_far (p := ⟨aD, _, none⟩) aA.out _).trans (hHeld.2.2.2.2.2.2.1)), ((cell_far (p := ⟨aD, _, none⟩) aA.out _).trans (hHeld.2.2.2.2.2.2.2.1)), ((cell_far (p := ⟨aD, _, none⟩) aA.out _).trans (hHeld.2.2.2.2.2.2.2.2.1)), ((cell_far (p := ⟨aD, _, none⟩) aA.out _).trans (hHeld.2.2.2.2.2.2.2.2.2))⟩ (fun hHeld => ?_); clear hK K; refine pV 6 47 ?_; refine one_ (i := 7) (N := none) #[true, true, true, true, true, true, true, true] rfl rfl (one_of HT_.out (by kernel_rfl)) (by decide) (fun K hK => ?_); have hs68 : IB.cell? ⟨aD, 1, none⟩ = some (.int .i64 cS) := xc aI 1 rfl; have hfs68 := blk_frozen aI.out 1; have hns68_0 := aN.out; have hns68_1 := aA.out; have hns68_2 := aW.out; have hms68_0 := aQ.out; have hms68_1 := aT.out; have hms68_2 := aX.out; refine skip_ (w1 := ?_) (by rfl) rfl ?_ ?_; rotate_left
      ·go_simp
       rfl
      refine hK.out _ _ ⟨((cell_far (p := ⟨aD, _, none⟩) aA.out _).trans (hHeld.1)), ((cell_far (p := ⟨aD, _, none⟩) aA.out _).trans (hHeld.2.1)), ((cell_far (p := ⟨aD, _, none⟩) aA.out _).trans (hHeld.2.2.1)), ((cell_far (p := ⟨aD, _, none⟩) aA.out _).trans (hHeld.2.2.2.1)), ((cell_far (p := ⟨aD, _, none⟩) aA.out _).trans (hHeld.2.2.2.2.1)), ((cell_far (p := ⟨aD, _, none⟩) aA.out _).trans (hHeld.2.2.2.2.2.1)), ((cell_far (p := ⟨aD, _, none⟩) aA.out _).trans (hHeld.2.2.2.2.2.2.1)), ((cell_far (p := ⟨aD, _, none⟩) aA.out _).trans (hHeld.2.2.2.2.2.2.2.1)), ((cell_far (p := ⟨aD, _, none⟩) aA.out _).trans (hHeld.2.2.2.2.2.2.2.2.1)), ((cell_far (p := ⟨aD, _, none⟩) aA.out _).trans (hHeld.2.2.2.2.2.2.2.2.2))⟩ (fun hHeld => ?_); clear hK K; refine dn_ ?_; try go_wp2
      go_meet
      case rel => exact ⟨_, (false), (aZ), (bE), (cE), (.slice dI cE.length dJ), u11_1, H', ⟨u11_2⟩, ⟨xrm bN (fun _ _ => trivial)⟩, ⟨xB⟩, ⟨xB⟩, ⟨xB⟩, ⟨xP⟩, ⟨xbg⟩⟩
   ·rw [if_neg sD] at H; obtain ⟨dV, qY⟩ := bF sD; (first | rw [dV] | (simp only [i64_w, i32_w]; rw [dV]) | skip); by_cases sG : bR = 2
    ·rw [if_pos sG] at H; obtain ⟨rE, rF⟩ := bT sG; clear sG; by_cases tN : cE.length < 2513169434916
     ·rw [if_pos tN] at H; have LMc70 := aM tN; clear tN; obtain ⟨rV, hY⟩ : ∃ y_ : List (S36), y_ = (cE ++ [(⟨bU, (⟨bV, bW, bX, bY, bZ⟩ : S34)⟩ : S36)]) := ⟨_, rfl⟩; replace H : (impl_HardApply.j0 k (bB == (wrap64 ((aU.length : Int) + 1))) bA bC aU bR aZ bE bB bU bV bW bX bY bZ cQ cS rV) = some (r1, r2, r3, r4) := u11_4; have tO := aM hY; clear hY; have H' := aM H; clear H; have IC := bH.out; have ID := bG.out; have IE := bK.out; have IG := bL.out; have IH := aA.out; have II := aT.out; obtain ⟨lM, lN, lO, lP, lQ, lR, lS, lT, lU, lV, lW, lX, lY, lZ, mA, mB, mC, mD, mE, mF⟩ := xf10 (w := dK) aC; have IJ := bI.out; have IK := bJ.out; have IL := aN.out; have IM := aQ.out; obtain ⟨mG, mH, mI, mJ, mK, mL⟩ := xf3 (w := dK) aE; have IN := aX.out; have IO := aW.out; obtain ⟨mM, mN, mO, mP, mQ, mR⟩ := xf3 (w := dK) aI; go_wp2_with (first | ((with_reducible refine gate_builtin (b := .append) (xs := #[.tmp 58, .tmp 61]) rfl ?_); at_builtin; refine Kd.R_append k36 (w0 := w) w.heap.size rfl (.tmp 58) (.tmp 61) 26 36 (.agg #[(.int .i64 0), (.int .i64 0), (.int .i64 0), (.int .i64 0), (.int .i64 0), (.string ⟨#[]⟩)]) 56 rfl Try.underlying26 info36 rfl (by decide) (by omega) (.slice dI cE.length dJ) cE (⟨bU, (⟨bV, bW, bX, bY, bZ⟩ : S34)⟩ : S36) [.int .i64 bU, .int .i64 bV, .int .i64 bW, .int .i64 bX, .int .i64 bY, .string bZ] (fun _ => True) (fun _ => False) rfl rfl ?aP (fun _ hk => hk.elim) ?aF ?aO ?aB ?aS ?aL ?_; (case aP => exact k36_mkM _ _ _ (⟨bU, (⟨bV, bW, bX, bY, bZ⟩ : S34)⟩ : S36)); (case aB => exact xbg); (case aF => exact (fun _ _ => trivial)); (case aO => exact (xr bN)); (case aS => exact (below_size xbg)); (case aL => have := LMc70.out; omega); intro v484 KK ho hb hg hat; rw [← tO.out] at ho; replace aE := aM (blk_grown (g := iH) (o := .cells #[.int .i64 bA, .int .i64 bC, .slice dG aU.length dH] 28 (0, 0)) xblk hg (Kd.R_ne bN.out aE.out (by decide))); replace aC := aM (blk_grown (g := aV) (o := .cells #[.int .i64 bR, .int .i64 aZ, .int .i64 bE, .int .i64 bB, .int .i64 bU, .int .i64 bV, .int .i64 bW, .int .i64 bX, .int .i64 bY, .string bZ] 38 (0, 0)) xblk hg (Kd.R_ne bN.out aC.out (by decide))); replace aJ := aM (blk_grown (g := bQ) (o := .cells #[.int .i64 0, .int .i64 0, .slice none 0 0] 28 (0, 0)) xblk hg (Kd.R_ne bN.out aJ.out (by decide))); replace aI := aM (blk_grown (g := aD) (o := .cells #[.int .i64 cQ, .int .i64 cS, .slice dI cE.length dJ] 28 (0, 0)) xblk hg (Kd.R_ne bN.out aI.out (by decide))); replace HB := aM (hb); have rG := aM (ho); clear bN; clear ho hb hg hat; obtain ⟨DL, DM, DN⟩ := Kd.R_slice rG.out; subst DN; obtain ⟨mS, mT, mU, mV, mW, mX⟩ := xf3 (w := KK) aI))
      go_meet
      case rel => exact ⟨_, ((bB == (wrap64 ((aU.length : Int) + 1)))), (cQ), (cS), (rV), (.slice DL rV.length DM), u11_1, H', ⟨u11_2⟩, ⟨xrm rG (fun _ _ => trivial)⟩, ⟨xB⟩, ⟨xB⟩, ⟨xB⟩, ⟨xP⟩, ⟨xbg⟩⟩
     ·rw [if_neg tN] at H; exact absurd H (by simp)
    ·rw [if_neg sG] at H; obtain ⟨rE, rF⟩ := bF sG; by_cases sH : bR = 3
     ·rw [if_pos sH] at H; obtain ⟨rH, rI⟩ := bT sH; clear sH; replace H := oB H; obtain ⟨eE, tP, H⟩ := H; (try dsimp only at H); have DO := aM tP; clear tP
      obtain ⟨ji85, hji85⟩ : ∃ j_ : Int, (mx bB 0) = j_ := ⟨_, rfl⟩; replace H : (if 0 ≤ (mn (ji85) (aU.length : Int)) then (if (mn (ji85) (aU.length : Int)) ≤ (cE.length : Int) then (impl_HardApply.j0 k eE bA bC aU bR aZ bE bB bU bV bW bX bY bZ cQ cS (cE.take ((mn (ji85) (aU.length : Int)) : Int).toNat)) else (none)) else (none)) = some (r1, r2, r3, r4) := by first | (rw [hji85] at H; exact H) | (simp only [hji85] at H ⊢; exact H)
      (try rw [hji85] at DO); (try (have hji85l : 0 ≤ ji85 := by (rw [← hji85]; unfold mx; (repeat' split) <;> omega))); (try (have hji85m : 0 ≤ ji85 := by omega)); have hji85_ : (if bB < 0 then 0 else bB) = ji85 := hji85; obtain ⟨ji86, hji86⟩ : ∃ j_ : Int, (mn (ji85) (aU.length : Int)) = j_ := ⟨_, rfl⟩; replace H : (if 0 ≤ (ji86) then (if (ji86) ≤ (cE.length : Int) then (impl_HardApply.j0 k eE bA bC aU bR aZ bE bB bU bV bW bX bY bZ cQ cS (cE.take ((ji86) : Int).toNat)) else (none)) else (none)) = some (r1, r2, r3, r4) := by first | (rw [hji86] at H; exact H) | (simp only [hji86] at H ⊢; exact H)
      (try rw [hji86] at DO); have hji86_ : (if (aU.length : Int) < (ji85) then (aU.length : Int) else (ji85)) = ji86 := hji86; by_cases sI : 0 ≤ (ji86)
      ·rw [if_pos sI] at H; have tQ := eq_true sI; have tR : decide (0 ≤ (ji86)) = true := decide_eq_true sI; clear sI; by_cases sJ : (ji86) ≤ (cE.length : Int)
       ·rw [if_pos sJ] at H; have tS := eq_true sJ; have tT : decide ((ji86) ≤ (cE.length : Int)) = true := decide_eq_true sJ; clear sJ; obtain ⟨mY, hY⟩ : ∃ y_ : List (S36), y_ = (cE.take ((ji86) : Int).toNat) := ⟨_, rfl⟩; replace H : (impl_HardApply.j0 k eE bA bC aU bR aZ bE bB bU bV bW bX bY bZ cQ cS mY) = some (r1, r2, r3, r4) := u11_4; have rJ := aM hY; clear hY; have H' := aM H; clear H; have IP := bH.out; have IQ := bG.out; have IR := bK.out; have IT := bL.out; have IU := aA.out; have IV := aT.out; obtain ⟨mZ, nA, nB, nC, nD, nE, nF, nG, nH, nI, nJ, nK, nL, nM, nN, nO, nP, nQ, nR, nS⟩ := xf10 (w := dK) aC; have IW := bI.out; have IX := bJ.out; have IY := aN.out; have IZ := aQ.out; obtain ⟨nT, nU, nV, nW, nX, nY⟩ := xf3 (w := dK) aE; go_wp2_with (first | ((with_reducible refine gC 35 rfl ?_); refine goesLY (some 71) rfl Try.func35 #[.int .i64 bB, .int .i64 0, .int .i64 (aU.length : Int)] ?_; (with_reducible refine (impl_within.calls bB 0 (aU.length : Int) eE _ DO.out).mono ?_); rintro e w' ⟨rfl, ⟨nd, rfl⟩⟩; refine ⟨_, rfl, ?_⟩; have JA := aX.out; have JB := aW.out; obtain ⟨nZ, oA, oC, oD, oE, oF⟩ := xf3 (w := dK) aI; have q98 : ((ji86) : Int) ≤ ((cE.length : Int) : Int) := oda; obtain ⟨i098, hi098, _, hsz98, _⟩ := info_parts info36; have hcut98 := cut_to (P := Try.prog) 26 36 .i64 Try.underlying26 hi098 dI cE.length dJ (ji86) (oda) q98 (Kd.R_reads' bN.out).2.1; have oG := Kd.R_take (m := ((ji86) : Int).toNat) bN.out (by omega); have hY : mY.length = ((ji86) : Int).toNat := (by rw [rJ.out, List.length_take]; omega); rw [← rJ.out] at oG; rw [← hY] at oG hcut98; clear hY hi098 hsz98 bN; have tU := aM oG; clear oG; replace q98 := eq_true q98))
        go_meet
        case rel => exact ⟨_, (eE), (cQ), (cS), (mY), (.slice dI mY.length dJ), u11_1, H', ⟨u11_2⟩, ⟨xrm tU (fun _ _ => trivial)⟩, ⟨xB⟩, ⟨xB⟩, ⟨xB⟩, ⟨xP⟩, ⟨xbg⟩⟩
       ·rw [if_neg sJ] at H; exact absurd H (by simp)
      ·rw [if_neg sI] at H; exact absurd H (by simp)
     ·rw [if_neg sH] at H; obtain ⟨rH, rI⟩ := bF sH; have H' := aM H; clear H; go_wp2; go_meet
      case rel => exact ⟨_, (false), (cQ), (cS), (cE), (.slice dI cE.length dJ), u11_1, H', ⟨u11_2⟩, ⟨by (with_reducible repeat (first | apply Kd.R_alloc | apply Kd.R_drewN | apply Kd.R_drew)); exact bN.out⟩, ⟨xblk⟩, ⟨xblk⟩, ⟨xblk⟩, ⟨xblk⟩, ⟨xbg⟩⟩
  case rest =>
   clear DJ; try clear c2
   try clear p2
   try clear c3
   try clear c4
   try clear c5
   try clear c6
   try clear p6
   try clear c7
   try clear c8
   try clear c9
   try clear q9
   try clear sD
   try clear dV
   try clear qY
   try clear KL
   try clear sF
   try clear qZ
   try clear rA
   try clear iC
   try clear rB
   try clear rC
   try clear KM
   try clear KN
   try clear KO
   try clear KP
   try clear KQ
   try clear LB
   try clear LC
   try clear LD
   try clear LE
   try clear LF
   try clear LG
   try clear LH
   try clear LI
   try clear LJ
   try clear LK
   try clear p64
   try clear sG
   try clear rE
   try clear rF
   try clear tN
   try clear LL
   try clear LM
   try clear LN
   try clear LO
   try clear LP
   try clear LQ
   try clear sH
   try clear rH
   try clear rI
   try clear sI
   try clear tQ
   try clear tR
   try clear sJ
   try clear tS
   try clear tT
   try clear LR
   try clear LS
   try clear LT
   try clear LU
   try clear LV
   try clear LW
   try clear q98
   try clear eF eG eH iW iX iY iZ jA jB jC
   try clear eL eM eN
   try clear jK jL jM jN jO jP jQ jR jS jT
   try clear kF kG kH
   try clear kL kM kN kO kP kQ kR kS kT kU
   try clear lG lH lI
   try clear lM lN lO lP lQ lR lS lT lU lV
   try clear mG mH mI
   try clear mM mN mO
   try clear mS mT mU
   try clear mZ nA nB nC nD nE nF nG nH nI
   try clear nT nU nV
   try clear nZ oA oC
   try clear eI eJ eK jD jE jF jG jH jI jJ
   try clear eO eP eQ
   try clear jU jV jW jX jY jZ kA kB kC kE
   try clear kI kJ kK
   try clear kV kW kX kY kZ lA lB lC lE lF
   try clear lJ lK lL
   try clear lW lX lY lZ mA mB mC mD mE mF
   try clear mJ mK mL
   try clear mP mQ mR
   try clear mV mW mX
   try clear nJ nK nL nM nN nO nP nQ nR nS
   try clear nW nX nY
   try clear oD oE oF
   try clear q98
   obtain ⟨kq, iV, cC, cD, aY, cI, rfl, HA, HJ5, aG, aE, aC, aJ, aI, HB⟩ := hcut; cases kq with
   | zero => exact absurd HA.out (by simp [impl_HardApply.j0])
   | succ tV =>
    have H := HA.out; clear HA; simp only [impl_HardApply.j0] at H; by_cases CI : iV = true
    ·subst CI; replace H := iT H; replace H := oB H; obtain ⟨rS, rK, H⟩ := H; (try dsimp only at H); have rW := aM rK; clear rK
     by_cases oH : rS = true
     ·subst oH; replace H := iT H; replace H := oB H; obtain ⟨rT, rL, H⟩ := H; (try dsimp only at H); have tW := aM rL; clear rL
      by_cases oI : rT = true
      ·subst oI; replace H := iT H; simp only [Option.some.injEq, Prod.mk.injEq] at H; obtain ⟨rfl, rfl, rfl, rfl⟩ := H; have DP := bH.out; have DQ := bG.out; have DR := bK.out; have DS := bL.out; have DT := aA.out; have DU := aT.out; obtain ⟨tX, tY, tZ, uA, uB, uC, uD, uE, uF, uG, uH, uI, uJ, uK, uL, uM, uN, uO, uP, uQ⟩ := xf10 (w := wc) aC; go_wp2_with (first | (go_at_call 19; (with_reducible refine (impl_RecOk.calls tV bR aZ bE bB bU bV bW bX bY bZ true _ rW.out).mono ?_); rintro e DV ⟨rfl, hb⟩; replace aG := xrb aG hb; replace aE := xbb aE hb; replace aC := xbb aC hb; replace aJ := xbb aJ hb; replace aI := xbb aI hb; replace HB := xbs hb; (try clear hb); have DW := aQ.out; have DX := aN.out; have DY := aX.out; have DZ := aW.out; obtain ⟨uR, uS, uT, uU, uV, uW⟩ := xf3 (w := DV) aI; obtain ⟨gK, gL, uX⟩ := Kd.R_slice aG.out; subst uX) | (go_at_call 11; (with_reducible refine (impl_HardOk.calls tV cC cD _ _ aY true _ ?side1 ?side2 tW.out).mono ?_); (case side1 => exact xC aG); (case side2 => exact (Kd.R_reads' aG.out).2.1); rintro e rX ⟨rfl, hb⟩; replace aG := xrb aG hb; replace aE := xbb aE hb; replace aC := xbb aC hb; replace aJ := xbb aJ hb; replace aI := xbb aI hb; replace HB := xbs hb; (try clear hb); obtain ⟨uY, uZ, vA, vB, vC, vD⟩ := xf3 (w := rX) aI; have EA := bJ.out; have EB := bI.out; obtain ⟨vE, vF, vG, vH, vI, vJ⟩ := xf3 (w := rX) aJ) | ((with_reducible refine gate_store (t := 28) (p := 4) rfl ?_); refine store_event (t := 28) (p := 4) (v := ?vo_w117) (w1 := (((rX.setCell ⟨bQ, 0, none⟩ (.int .i64 cC)).setCell ⟨bQ, 1, none⟩ (.int .i64 cD)).setCell ⟨bQ, 2, none⟩ (.slice gK aY.length gL))) ?hg ?ho ?hn ?hr ?_; (case ho | hg | hn => rfl); (case hr => exact u11_0); intro vK hw; replace aG : Aside0 (Kd.R k36 36 vK w.heap.size (fun _ => True) (.slice gK aY.length gL) aY) := xwm hw aG (fun _ _ => trivial); replace aE := xwc hw aE; replace aC := xwc hw aC; replace aJ : Aside0 (vK.heap[bQ]? = some (.cells #[.int .i64 cC, .int .i64 cD, .slice gK aY.length gL] 28 (0, 0))) := xwp hw; replace aI := xwc hw aI; replace HB := xbw hw HB; clear hw))
       refine bodyPost_ret (results_ct rfl _ _ bQ 28 #[.int .i64 cC, .int .i64 cD, .slice gK aY.length gL] (0, 0) _ rfl xblk Try.underlying28 rfl (by kernel_rfl)) rfl ?_; exact ⟨_, xerr, by (with_reducible repeat (first | apply Kd.R_alloc | apply Kd.R_drewN | apply Kd.R_drew)); exact aG.out, xbg⟩
      ·replace oI := Bool.eq_false_iff.mpr oI; subst oI; replace H := iN H; replace H := oB H; obtain ⟨⟨oJ, oK, gE⟩, rM, H⟩ := H; (try dsimp only at H); have EC := aM rM; clear rM
       simp only [Option.some.injEq, Prod.mk.injEq] at H; obtain ⟨rfl, rfl, rfl, rfl⟩ := H; have ED := bH.out; have EE := bG.out; have EF := bK.out; have EG := bL.out; have EH := aA.out; have EI := aT.out; obtain ⟨vL, vM, vN, vO, vP, vQ, vR, vS, vT, vU, vV, vW, vX, vY, vZ, wA, wB, wC, wD, wE⟩ := xf10 (w := wc) aC; go_wp2_with (first | (go_at_call 19; (with_reducible refine (impl_RecOk.calls tV bR aZ bE bB bU bV bW bX bY bZ true _ rW.out).mono ?_); rintro e EJ ⟨rfl, hb⟩; replace aG := xrb aG hb; replace aE := xbb aE hb; replace aC := xbb aC hb; replace aJ := xbb aJ hb; replace aI := xbb aI hb; replace HB := xbs hb; (try clear hb); have EK := aQ.out; have EL := aN.out; have EM := aX.out; have EN := aW.out; obtain ⟨wF, wG, wH, wI, wJ, wK⟩ := xf3 (w := EJ) aI; obtain ⟨rN, rO, wL⟩ := Kd.R_slice aG.out; subst wL) | (go_at_call 11; (with_reducible refine (impl_HardOk.calls tV cC cD _ _ aY false _ ?side1 ?side2 tW.out).mono ?_); (case side1 => exact xC aG); (case side2 => exact (Kd.R_reads' aG.out).2.1); rintro e EO ⟨rfl, hb⟩; replace aG := xrb aG hb; replace aE := xbb aE hb; replace aC := xbb aC hb; replace aJ := xbb aJ hb; replace aI := xbb aI hb; replace HB := xbs hb; (try clear hb); have EP := bI.out; have EQ := bJ.out; obtain ⟨wM, wN, wO, wP, wQ, wR⟩ := xf3 (w := EO) aE) | ((with_reducible refine gC 34 rfl ?_); refine goesLY (some 96) rfl Try.func34 #[.agg #[.int .i64 bA, .int .i64 bC, .slice dG aU.length dH]] ?_; (with_reducible refine (impl_copyHard.calls bA bC _ _ aU oJ oK gE _ ?side1 ?side2 EC.out).mono ?_); (case side1 => exact xcb dS); (case side2 => exact dU.out); rintro e wS ⟨v495, rfl, fR, hb⟩; refine ⟨_, rfl, ?_⟩; have gM := aM (Kd.R_lower (Kd.R_new' fR (Kd.R_lt (xr aG))) (below_size xbg)); replace aG := aM (Kd.R_elder' (xr aG) (Kd.R_base fR) hb); replace aE := xbb aE hb; replace aC := xbb aC hb; replace aJ := xbb aJ hb; replace aI := xbb aI hb; replace HB := xbs hb; (try clear hb fR); obtain ⟨wT, wU, wV, wW, wX, wY⟩ := xf3 (w := wS) aJ; obtain ⟨fS, fT, wZ⟩ := Kd.R_slice gM.out; subst wZ) | ((with_reducible refine gate_store (t := 28) (p := 4) rfl ?_); refine store_event (t := 28) (p := 4) (v := ?vo_w134) (w1 := (((wS.setCell ⟨bQ, 0, none⟩ (.int .i64 oJ)).setCell ⟨bQ, 1, none⟩ (.int .i64 oK)).setCell ⟨bQ, 2, none⟩ (.slice fS gE.length fT))) ?hg ?ho ?hn ?hr ?_; (case ho | hg | hn => rfl); (case hr => exact u11_0); intro rY hw; replace aG : Aside0 (Kd.R k36 36 rY w.heap.size (fun k_ => some k_ ≠ (.slice fS gE.length fT : Value).ownBlock) (.slice rN aY.length rO) aY) := xwm hw aG (fun _ hk => hk.2); replace gM : Aside0 (Kd.R k36 36 rY w.heap.size (fun k_ => some k_ ≠ (.slice rN aY.length rO : Value).ownBlock) (.slice fS gE.length fT) gE) := xwm hw gM (fun _ hk => hk.2); replace aE := xwc hw aE; replace aC := xwc hw aC; replace aJ : Aside0 (rY.heap[bQ]? = some (.cells #[.int .i64 oJ, .int .i64 oK, .slice fS gE.length fT] 28 (0, 0))) := xwp hw; replace aI := xwc hw aI; replace HB := xbw hw HB; clear hw))
       refine bodyPost_ret (results_ct rfl _ _ bQ 28 #[.int .i64 oJ, .int .i64 oK, .slice fS gE.length fT] (0, 0) _ rfl xblk Try.underlying28 rfl (by kernel_rfl)) rfl ?_; exact ⟨_, xerr, by (with_reducible repeat (first | apply Kd.R_alloc | apply Kd.R_drewN | apply Kd.R_drew)); exact Kd.R_mono gM.out (fun _ hk => trivial), xbg⟩
     ·replace oH := Bool.eq_false_iff.mpr oH; subst oH; replace H := iN H; replace H := oB H; obtain ⟨⟨oL, oM, gF⟩, rP, H⟩ := H; (try dsimp only at H); have ER := aM rP; clear rP
      simp only [Option.some.injEq, Prod.mk.injEq] at H; obtain ⟨rfl, rfl, rfl, rfl⟩ := H; have ES := bH.out; have ET := bG.out; have EU := bK.out; have EV := bL.out; have EW := aA.out; have EX := aT.out; obtain ⟨xA, xD, xE, xF, xG, xH, xI, xJ, xL, xM, xN, xO, xQ, xR, xS, xT, xU, xV, xW, xX⟩ := xf10 (w := wc) aC; go_wp2_with (first | (go_at_call 19; (with_reducible refine (impl_RecOk.calls tV bR aZ bE bB bU bV bW bX bY bZ false _ rW.out).mono ?_); rintro e EY ⟨rfl, hb⟩; replace aG := xrb aG hb; replace aE := xbb aE hb; replace aC := xbb aC hb; replace aJ := xbb aJ hb; replace aI := xbb aI hb; replace HB := xbs hb; (try clear hb); have EZ := bI.out; have FA := bJ.out; have FB := aN.out; have FC := aQ.out; obtain ⟨xY, xZ, yA, yB, yC, yD⟩ := xf3 (w := EY) aE) | ((with_reducible refine gC 34 rfl ?_); refine goesLY (some 96) rfl Try.func34 #[.agg #[.int .i64 bA, .int .i64 bC, .slice dG aU.length dH]] ?_; (with_reducible refine (impl_copyHard.calls bA bC _ _ aU oL oM gF _ ?side1 ?side2 ER.out).mono ?_); (case side1 => exact xcb dS); (case side2 => exact dU.out); rintro e yE ⟨v500, rfl, fR, hb⟩; refine ⟨_, rfl, ?_⟩; have gN := aM (Kd.R_lower (Kd.R_new' fR (Kd.R_lt (xr aG))) (below_size xbg)); replace aG := aM (Kd.R_elder' (xr aG) (Kd.R_base fR) hb); replace aE := xbb aE hb; replace aC := xbb aC hb; replace aJ := xbb aJ hb; replace aI := xbb aI hb; replace HB := xbs hb; (try clear hb fR); have FD := aW.out; have FE := aX.out; obtain ⟨yF, yG, yH, yI, yJ, yK⟩ := xf3 (w := yE) aJ; obtain ⟨fU, fV, yL⟩ := Kd.R_slice gN.out; subst yL) | ((with_reducible refine gate_store (t := 28) (p := 4) rfl ?_); refine store_event (t := 28) (p := 4) (v := ?vo_w148) (w1 := (((yE.setCell ⟨bQ, 0, none⟩ (.int .i64 oL)).setCell ⟨bQ, 1, none⟩ (.int .i64 oM)).setCell ⟨bQ, 2, none⟩ (.slice fU gF.length fV))) ?hg ?ho ?hn ?hr ?_; (case ho | hg | hn => rfl); (case hr => exact u11_0); intro rZ hw; replace aG : Aside0 (Kd.R k36 36 rZ w.heap.size (fun k_ => some k_ ≠ (.slice fU gF.length fV : Value).ownBlock) cI aY) := xwm hw aG (fun _ hk => hk.2); replace gN : Aside0 (Kd.R k36 36 rZ w.heap.size (fun k_ => some k_ ≠ (cI : Value).ownBlock) (.slice fU gF.length fV) gF) := xwm hw gN (fun _ hk => hk.2); replace aE := xwc hw aE; replace aC := xwc hw aC; replace aJ : Aside0 (rZ.heap[bQ]? = some (.cells #[.int .i64 oL, .int .i64 oM, .slice fU gF.length fV] 28 (0, 0))) := xwp hw; replace aI := xwc hw aI; replace HB := xbw hw HB; clear hw))
      refine bodyPost_ret (results_ct rfl _ _ bQ 28 #[.int .i64 oL, .int .i64 oM, .slice fU gF.length fV] (0, 0) _ rfl xblk Try.underlying28 rfl (by kernel_rfl)) rfl ?_; exact ⟨_, xerr, by (with_reducible repeat (first | apply Kd.R_alloc | apply Kd.R_drewN | apply Kd.R_drew)); exact Kd.R_mono gN.out (fun _ hk => trivial), xbg⟩
    ·replace CI := Bool.eq_false_iff.mpr CI; subst CI; replace H := iN H; replace H := oB H; obtain ⟨⟨oO, oP, gG⟩, rQ, H⟩ := H; (try dsimp only at H); have FF := aM rQ; clear rQ
     simp only [Option.some.injEq, Prod.mk.injEq] at H; obtain ⟨rfl, rfl, rfl, rfl⟩ := H; have FG := bG.out; have FH := bH.out; have FI := bI.out; have FJ := bJ.out; have FL := aN.out; have FM := aQ.out; obtain ⟨yM, yN, yO, yP, yQ, yR⟩ := xf3 (w := wc) aE; go_wp2_with (first | ((with_reducible refine gC 34 rfl ?_); refine goesLY (some 96) rfl Try.func34 #[.agg #[.int .i64 bA, .int .i64 bC, .slice dG aU.length dH]] ?_; (with_reducible refine (impl_copyHard.calls bA bC _ _ aU oO oP gG _ ?side1 ?side2 FF.out).mono ?_); (case side1 => exact xcb dS); (case side2 => exact dU.out); rintro e yS ⟨v505, rfl, fR, hb⟩; refine ⟨_, rfl, ?_⟩; have gO := aM (Kd.R_lower (Kd.R_new' fR (Kd.R_lt (xr aG))) (below_size xbg)); replace aG := aM (Kd.R_elder' (xr aG) (Kd.R_base fR) hb); replace aE := xbb aE hb; replace aC := xbb aC hb; replace aJ := xbb aJ hb; replace aI := xbb aI hb; replace HB := xbs hb; (try clear hb fR); have FN := bL.out; have FO := bK.out; have FP := aW.out; have FQ := aX.out; obtain ⟨yT, yU, yV, yW, yX, yY⟩ := xf3 (w := yS) aJ; obtain ⟨fW, fX, yZ⟩ := Kd.R_slice gO.out; subst yZ) | ((with_reducible refine gate_store (t := 28) (p := 4) rfl ?_); refine store_event (t := 28) (p := 4) (v := ?vo_w159) (w1 := (((yS.setCell ⟨bQ, 0, none⟩ (.int .i64 oO)).setCell ⟨bQ, 1, none⟩ (.int .i64 oP)).setCell ⟨bQ, 2, none⟩ (.slice fW gG.length fX))) ?hg ?ho ?hn ?hr ?_; (case ho | hg | hn => rfl); (case hr => exact u11_0); intro sA hw; replace aG : Aside0 (Kd.R k36 36 sA w.heap.size (fun k_ => some k_ ≠ (.slice fW gG.length fX : Value).ownBlock) cI aY) := xwm hw aG (fun _ hk => hk.2); replace gO : Aside0 (Kd.R k36 36 sA w.heap.size (fun k_ => some k_ ≠ (cI : Value).ownBlock) (.slice fW gG.length fX) gG) := xwm hw gO (fun _ hk => hk.2); replace aE := xwc hw aE; replace aC := xwc hw aC; replace aJ : Aside0 (sA.heap[bQ]? = some (.cells #[.int .i64 oO, .int .i64 oP, .slice fW gG.length fX] 28 (0, 0))) := xwp hw; replace aI := xwc hw aI; replace HB := xbw hw HB; clear hw))
     refine bodyPost_ret (results_ct rfl _ _ bQ 28 #[.int .i64 oO, .int .i64 oP, .slice fW gG.length fX] (0, 0) _ rfl xblk Try.underlying28 rfl (by kernel_rfl)) rfl ?_; exact ⟨_, xerr, by (with_reducible repeat (first | apply Kd.R_alloc | apply Kd.R_drewN | apply Kd.R_drew)); exact Kd.R_mono gO.out (fun _ hk => trivial), xbg⟩
 ·replace c4 := Bool.eq_false_iff.mpr c4; subst c4; replace H := iN H; simp only [Option.some.injEq, Prod.mk.injEq] at H; obtain ⟨rfl, rfl, rfl, rfl⟩ := H; go_enter Try.func10, Try.ntmps10
  go_wp2_with (first | ((with_reducible refine gD 2 rfl ?_); refine boxE (N := 2) rfl (cs := #[.int .i64 bA, .int .i64 bC, .slice dG aU.length dH]) (t := 28) ?_; intro iH hg KR hbox hb; have aE := aM (hbox); have sM := aM (xge hg); have sN := aM (xge hg); replace HB := xbs hb; clear hb hbox hg) | ((with_reducible refine gD 3 rfl ?_); refine boxE (N := 3) rfl (cs := #[.int .i64 bR, .int .i64 aZ, .int .i64 bE, .int .i64 bB, .int .i64 bU, .int .i64 bV, .int .i64 bW, .int .i64 bX, .int .i64 bY, .string bZ]) (t := 38) ?_; intro aV hg KS hbox hb; have sO := aM (xge hg); have sP := aM (xge hg); replace HB := xbs hb; have bG := nblt aE hg; have bH := nbgt aE hg; replace aE := xbb aE hb; have aC := aM (hbox); clear hb hbox hg) | ((with_reducible refine gD 4 rfl ?_); refine boxE (N := 4) rfl (cs := #[.int .i64 0, .int .i64 0, .slice none 0 0]) (t := 28) ?_; intro bQ hg FR hbox hb; have sQ := aM (xge hg); have sR := aM (xge hg); replace HB := xbs hb; have bI := nblt aE hg; have bJ := nbgt aE hg; have bK := nblt aC hg; have bL := nbgt aC hg; replace aE := xbb aE hb; replace aC := xbb aC hb; have aJ := aM (hbox); clear hb hbox hg; have FS := bG.out; have FT := bH.out; have FU := bI.out; have FV := bJ.out; obtain ⟨zA, zB, zC, zD, zE, zF⟩ := xf3 (w := FR) aE) | ((with_reducible refine gC 11 rfl ?_); refine goesLY (some 9) rfl Try.func11 #[.agg #[.int .i64 bA, .int .i64 bC, .slice dG aU.length dH]] ?_; (with_reducible refine (impl_HardOk.calls k bA bC _ _ aU false _ ?side1 ?side2 A3.out).mono ?_); (case side1 => exact xcb dS); (case side2 => exact dU.out); rintro e zG ⟨rfl, hb⟩; refine ⟨_, rfl, ?_⟩; replace aE := xbb aE hb; replace aC := xbb aC hb; replace aJ := xbb aJ hb; replace HB := xbs hb; (try clear hb); have FW := bL.out; have FX := bK.out; obtain ⟨zH, zI, zJ, zK, zL, zM⟩ := xf3 (w := zG) aJ) | ((with_reducible refine gate_store (t := 28) (p := 4) rfl ?_); refine store_event (t := 28) (p := 4) (v := ?vo_w169) (w1 := (((zG.setCell ⟨bQ, 0, none⟩ (.int .i64 0)).setCell ⟨bQ, 1, none⟩ (.int .i64 0)).setCell ⟨bQ, 2, none⟩ (.slice none 0 0))) ?hg ?ho ?hn ?hr ?_; (case ho | hg | hn => rfl); (case hr => exact u11_0); intro FY hw; replace aE := xwc hw aE; replace aC := xwc hw aC; replace aJ : Aside0 (FY.heap[bQ]? = some (.cells #[.int .i64 0, .int .i64 0, .slice none 0 0] 28 (0, 0))) := xwp hw; replace HB := xbw hw HB; clear hw))
  refine bodyPost_ret (results_ct rfl _ _ bQ 28 #[.int .i64 0, .int .i64 0, .slice none 0 0] (0, 0) _ rfl xblk Try.underlying28 rfl (by kernel_rfl)) rfl ?_; exact ⟨_, xerr, u11_3, xbg⟩

/-! ### impl_HardOf: function 8 -/
mutual
def impl_HardOf.j0 : Nat → List (S38) → Int → Int → Option (Int × Int × (List (S36)) × Int)
 | 0, _, _, _ => none
 | k + 1, x0, cJ, cK => impl_HardOf.l0 k x0 x0 (x0.length : Int) 0 cJ cK ([] : List (S36))
def impl_HardOf.l0 : Nat → List (S38) → List (S38) → Int → Int → Int → Int → List (S36) → Option (Int × Int × (List (S36)) × Int)
 | 0, _, _, _, _, _, _, _ => none
 | k + 1, x0, gB, sK, eR, cJ, cK, cV => if eR < sK then (impl_HardOf.j2 k x0 gB sK eR cJ cK cV) else (some (cJ, cK, cV, (x0.length : Int)))
def impl_HardOf.j2 : Nat → List (S38) → List (S38) → Int → Int → Int → Int → List (S36) → Option (Int × Int × (List (S36)) × Int)
 | 0, _, _, _, _, _, _, _ => none
 | k + 1, x0, gB, sK, eR, cJ, cK, cV => if 0 ≤ eR then (if eR < (gB.length : Int) then ((impl_HardApply.f k cJ cK cV ((rd_T38 gB eR).f0) ((rd_T38 gB eR).f1) ((rd_T38 gB eR).f2) ((rd_T38 gB eR).f3) ((rd_T38 gB eR).f4.f0) ((rd_T38 gB eR).f4.f1.f0) ((rd_T38 gB eR).f4.f1.f1) ((rd_T38 gB eR).f4.f1.f2) ((rd_T38 gB eR).f4.f1.f3) ((rd_T38 gB eR).f4.f1.f4)).bind fun gP => (if gP.2.2.2 = true then (impl_HardOf.j3 k x0 gB sK eR gP.1 gP.2.1 gP.2.2.1) else (some (cJ, cK, cV, eR)))) else (none)) else (none)
def impl_HardOf.j3 : Nat → List (S38) → List (S38) → Int → Int → Int → Int → List (S36) → Option (Int × Int × (List (S36)) × Int)
 | 0, _, _, _, _, _, _, _ => none
 | k + 1, x0, gB, sK, eR, oQ, oR, oT => impl_HardOf.l0 k x0 gB sK (wrap64 (eR + 1)) oQ oR oT
end
def impl_HardOf.f (k : Nat) (l0 : List (S38)) : Option (Int × Int × (List (S36)) × Int) := if (l0.length : Int) > 2000 then (some (0, 0, ([] : List (S36)), 0)) else (impl_HardOf.j0 k l0 0 0)
theorem u11_mq1 {p : Prop} (h : p := by repeat' first | (with_reducible first | exact sL _ _ _ | exact JC _ _ _ _ _ _ _ | exact JD _ _ _ _ _ _ _ | exact JE _ _ _ _ _ _ _ | exact impl_HardApply.mono _ _ _ _ _ _ _ _ _ _ _ _ _ _ | exact LeO.refl _ | exact LeO.none _ | refine LeO.ite ?_ ?_ | refine LeO.bind ?_ (fun _ => ?_)) | exact LeO.none _ | refine LeO.ite ?_ ?_ | refine LeO.bind ?_ (fun _ => ?_)) : p := h
set_option maxRecDepth 100000 in
theorem impl_HardOf.mono_l : ∀ k, (∀ y0 y1 y2, LeO (impl_HardOf.j0 k y0 y1 y2) (impl_HardOf.j0 (k + 1) y0 y1 y2)) ∧ (∀ y0 y1 y2 y3 y4 y5 y6, LeO (impl_HardOf.l0 k y0 y1 y2 y3 y4 y5 y6) (impl_HardOf.l0 (k + 1) y0 y1 y2 y3 y4 y5 y6)) ∧ (∀ y0 y1 y2 y3 y4 y5 y6, LeO (impl_HardOf.j2 k y0 y1 y2 y3 y4 y5 y6) (impl_HardOf.j2 (k + 1) y0 y1 y2 y3 y4 y5 y6)) ∧ (∀ y0 y1 y2 y3 y4 y5 y6, LeO (impl_HardOf.j3 k y0 y1 y2 y3 y4 y5 y6) (impl_HardOf.j3 (k + 1) y0 y1 y2 y3 y4 y5 y6))
 | 0 => ⟨fun _ _ _ r h => by simp [impl_HardOf.j0] at h, fun _ _ _ _ _ _ _ r h => by simp [impl_HardOf.l0] at h, fun _ _ _ _ _ _ _ r h => by simp [impl_HardOf.j2] at h, fun _ _ _ _ _ _ _ r h => by simp [impl_HardOf.j3] at h⟩
 | k + 1 => by
  obtain ⟨sL, JC, JD, JE⟩ := impl_HardOf.mono_l k; refine ⟨?_, ?_, ?_, ?_⟩
  ·intro y0 y1 y2; unfold impl_HardOf.j0; exact u11_mq1
  ·intro y0 y1 y2 y3 y4 y5 y6; unfold impl_HardOf.l0; exact u11_mq1
  ·intro y0 y1 y2 y3 y4 y5 y6; unfold impl_HardOf.j2; exact u11_mq1
  ·intro y0 y1 y2 y3 y4 y5 y6; unfold impl_HardOf.j3; exact u11_mq1
theorem impl_HardOf.mono : ∀ a0 k, LeO (impl_HardOf.f k a0) (impl_HardOf.f (k + 1) a0) := by
 intro a0 k
 obtain ⟨sL, JC, JD, JE⟩ := impl_HardOf.mono_l k
 unfold impl_HardOf.f
 exact u11_mq1
set_option maxHeartbeats 8000000 in
set_option maxRecDepth 100000 in
theorem impl_HardOf.calls (k : Nat) (A0 : Option Addr) (c0 : Nat) (l0 : List (S38)) (r1 : Int) (r2 : Int) (r3 : List (S36)) (r4 : Int) (w : World) (JF : Kd.C k38 w A0 l0.length l0) (JG : l0.length ≤ c0) (h : impl_HardOf.f k l0 = some (r1, r2, r3, r4)) :
 Calls Try.prog 8 #[.slice A0 l0.length c0] w fun e w' => ∃ v2_ : Value, e = .returned (.tuple #[.agg #[.int .i64 r1, .int .i64 r2, v2_], .int .i64 r4]) ∧ Kd.R k36 36 w' w.heap.size (fun _ => True) v2_ r3 ∧ Below w.heap.size w w' := by
 have DH := Try.underlying28
 have DI := Try.underlying38
 have KT := aM JF
 have LX := aM JG
 clear JF JG
 have HB := aM (Below.refl w.heap.size w)
 have H : (if (l0.length : Int) > 2000 then (some (0, 0, ([] : List (S36)), 0)) else (impl_HardOf.j0 k l0 0 0)) = some (r1, r2, r3, r4) := h
 clear h
 have FZ := aM H
 clear H
 go_enter Try.func8, Try.ntmps8
 go_upto_if 12 with (first | ((with_reducible refine gD 2 rfl ?_); refine boxE (N := 2) rfl (cs := #[.int .i64 0, .int .i64 0, .slice none 0 0]) (t := 28) ?_; intro cH hg w3 hbox hb; have cA := aM (hbox); have JH := aM (xge hg); have JI := aM (xge hg); replace HB := xbs hb; clear hb hbox hg) | ((with_reducible refine gD 4 rfl ?_); refine boxE (N := 4) rfl (cs := #[.int .i64 0, .int .i64 0, .slice none 0 0]) (t := 28) ?_; intro dF hg w4 hbox hb; have JJ := aM (xge hg); have JK := aM (xge hg); replace HB := xbs hb; have cF := nblt cA hg; have cG := nbgt cA hg; replace cA := xbb cA hb; have cB := aM (hbox); clear hb hbox hg; have KU := cG.out; have KV := cF.out; obtain ⟨eS, eT, eU, eV, eW, eX⟩ := xf3 (w := w4) cB))
 (try simp only [Act.put, List.setIfInBounds_toArray, List.set_cons_zero, List.set_cons_succ])
 go_cut [] (fun wc => ∃ (kq : Nat) (cW : Int) (cX : Int), Aside0 (impl_HardOf.j0 kq l0 0 0 = some (r1, r2, r3, r4)) ∧ Aside0 (kq ≤ k) ∧ Aside0 (wc.heap[cH]? = some (.cells #[.int .i64 cW, .int .i64 cX, (.slice none 0 0)] 28 (0, 0))) ∧ Aside0 (wc.heap[dF]? = some (.cells #[.int .i64 0, .int .i64 0, (.slice none 0 0)] 28 (0, 0))) ∧ Aside0 (Below w.heap.size w wc))
 case first =>
  have H := FZ.out; clear FZ; by_cases c7 : (l0.length : Int) > 2000
  ·rw [if_pos c7] at H; have eY : decide (2000 < (l0.length : Int)) = true := decide_eq_true c7; have iI : decide (2000 < l0.length) = true := decide_eq_true (by omega); clear c7; (first | rw [eY] | (simp only [i64_w, i32_w]; rw [eY]) | skip); simp only [Option.some.injEq, Prod.mk.injEq] at H; obtain ⟨rfl, rfl, rfl, rfl⟩ := H; have KW := cG.out; have KX := cF.out; obtain ⟨eZ, fA, fB, fC, fD, fE⟩ := xf3 (w := w4) cB; obtain ⟨dL, dM, dN, dO, dP, dQ⟩ := xf3 (w := w4) cA; go_wp2_with (first | ((with_reducible refine gate_store (t := 28) (p := 2) rfl ?_); refine store_event (t := 28) (p := 2) (v := ?vo_w11) (w1 := ((((((w4.setCell ⟨dF, 0, none⟩ (.int .i64 0)).setCell ⟨dF, 1, none⟩ (.int .i64 0)).setCell ⟨dF, 2, none⟩ (.slice none 0 0)).setCell ⟨cH, 0, none⟩ (.int .i64 0)).setCell ⟨cH, 1, none⟩ (.int .i64 0)).setCell ⟨cH, 2, none⟩ (.slice none 0 0))) ?hg ?ho ?hn ?hr ?_; (case ho | hg | hn => rfl); (case hr => exact u11_0); intro JL hw; replace cA : Aside0 (JL.heap[cH]? = some (.cells #[.int .i64 0, .int .i64 0, .slice none 0 0] 28 (0, 0))) := xwp hw; replace cB : Aside0 (JL.heap[dF]? = some (.cells #[.int .i64 0, .int .i64 0, .slice none 0 0] 28 (0, 0))) := xwp hw; replace HB := xbw hw HB; clear hw))
   refine bodyPost_ret (results_ct rfl _ _ cH 28 #[.int .i64 0, .int .i64 0, .slice none 0 0] (0, 0) _ rfl xblk Try.underlying28 rfl (by kernel_rfl)) rfl ?_; exact ⟨_, xerr, u11_3, xbg⟩
  ·rw [if_neg c7] at H; have eY : decide (2000 < (l0.length : Int)) = false := decide_eq_false c7; have iI : decide (2000 < l0.length) = false := decide_eq_false (by omega); clear c7; (first | rw [eY] | (simp only [i64_w, i32_w]; rw [eY]) | skip); have H' := aM H; clear H; go_wp2; go_meet
   case rel => exact ⟨_, (0), (0), H', ⟨u11_2⟩, ⟨xB⟩, ⟨xP⟩, ⟨xbg⟩⟩
 case rest =>
  clear FZ; try clear p2
  try clear c5
  try clear c7
  try clear eY
  try clear iI
  try clear c8
  try clear dL dM dN
  try clear eS eT eU
  try clear eZ fA fB
  try clear dO dP dQ
  try clear eV eW eX
  try clear fC fD fE
  obtain ⟨kq, cW, cX, HA, HJ1, cA, cB, HB⟩ := hcut; cases kq with
  | zero => exact absurd HA.out (by simp [impl_HardOf.j0])
  | succ JM =>
   have H := HA.out; clear HA; simp only [impl_HardOf.j0] at H; have H' := aM H; clear H; go_wp2; go_loopg [16] JM (fun kq v16 w' => ∃ (aH : Int) (cN : Int) (cO : Int) (bO : Int) (bP : Int) (aR : List (S36)) (cP : Value), v16 = .int .i64 aH ∧ Aside0 (impl_HardOf.l0 kq l0 l0 (l0.length : Int) aH bO bP aR = some (r1, r2, r3, r4)) ∧ Aside0 (kq ≤ JM) ∧ Aside0 (Kd.R k36 36 w' w.heap.size (fun _ => True) cP aR) ∧ Aside0 (w'.heap[cH]? = some (.cells #[.int .i64 cN, .int .i64 cO, (.slice none 0 0)] 28 (0, 0))) ∧ Aside0 (w'.heap[dF]? = some (.cells #[.int .i64 bO, .int .i64 bP, cP] 28 (0, 0))) ∧ Aside0 (Below w.heap.size w w'))
   case atStart => exact ⟨(0), (cW), (cX), (0), (0), (([] : List (S36))), (.slice none 0 0), u11_1, H', ⟨Nat.le_refl _⟩, ⟨u11_3⟩, ⟨xblk⟩, ⟨xblk⟩, ⟨xbg⟩⟩
   case round =>
    clear H'; try clear p2
    try clear c5
    try clear c7
    try clear eY
    try clear iI
    try clear c8
    try clear dL dM dN
    try clear eS eT eU
    try clear eZ fA fB
    try clear dO dP dQ
    try clear eV eW eX
    try clear fC fD fE
    try clear p2
    obtain ⟨aH, cN, cO, bO, bP, aR, cP, rfl, HA, HK2, aK, cA, cB, HB⟩ := hrel; cases gk with
    | zero => exact absurd HA.out (by simp [impl_HardOf.l0])
    | succ k2 =>
     have H := HA.out; clear HA; simp only [impl_HardOf.l0] at H; have sB := aM H; clear H; go_upto_if 17 with (fail)
     go_cut [] (fun wc => ∃ (kq : Nat), Aside0 (impl_HardOf.j2 kq l0 l0 (l0.length : Int) aH bO bP aR = some (r1, r2, r3, r4)) ∧ Aside0 (kq ≤ k2) ∧ Aside0 (Kd.R k36 36 wc w.heap.size (fun _ => True) cP aR) ∧ Aside0 (wc.heap[cH]? = some (.cells #[.int .i64 cN, .int .i64 cO, (.slice none 0 0)] 28 (0, 0))) ∧ Aside0 (wc.heap[dF]? = some (.cells #[.int .i64 bO, .int .i64 bP, cP] 28 (0, 0))) ∧ Aside0 (Below w.heap.size w wc))
     case first =>
      have H := sB.out; clear sB; by_cases rR : aH < (l0.length : Int)
      ·rw [if_pos rR] at H; have dR : decide (aH < (l0.length : Int)) = true := decide_eq_true rR; clear rR; (first | rw [dR] | (simp only [i64_w, i32_w]; rw [dR]) | skip); have H' := aM H; clear H; go_wp2; go_meet
       case rel => exact ⟨_, H', ⟨by have := HJ1.out; have := HK2.out; first | omega | exact Nat.le_refl _⟩, ⟨by (with_reducible repeat (first | apply Kd.R_alloc | apply Kd.R_drewN | apply Kd.R_drew)); exact aK.out⟩, ⟨xblk⟩, ⟨xblk⟩, ⟨xbg⟩⟩
      ·rw [if_neg rR] at H; have dR : decide (aH < (l0.length : Int)) = false := decide_eq_false rR; clear rR; (first | rw [dR] | (simp only [i64_w, i32_w]; rw [dR]) | skip); simp only [Option.some.injEq, Prod.mk.injEq] at H; obtain ⟨rfl, rfl, rfl, rfl⟩ := H; have JN := cG.out; have JO := cF.out; obtain ⟨gQ, gR, gS, gT, gU, gV⟩ := xf3 (w := wr) cB; obtain ⟨gW, gX, gY, gZ, hJ, hU⟩ := xf3 (w := wr) cA; obtain ⟨GA, GB, GC⟩ := Kd.R_slice aK.out; subst GC; go_wp2; refine bodyPost_ret (results_ct rfl _ _ cH 28 #[.int .i64 bO, .int .i64 bP, .slice GA aR.length GB] (0, 0) _ rfl xP Try.underlying28 rfl (by kernel_rfl)) rfl ?_; exact ⟨_, xerr, xrm aK (fun _ _ => trivial), xbg⟩
     case rest =>
      clear sB; try clear c1
      try clear p2
      try clear c5
      try clear c7
      try clear eY
      try clear iI
      try clear c8
      try clear rR
      try clear dR
      try clear KY
      try clear dL dM dN
      try clear gQ gR gS
      try clear gW gX gY
      try clear eS eT eU
      try clear eZ fA fB
      try clear dO dP dQ
      try clear gT gU gV
      try clear gZ hJ hU
      try clear eV eW eX
      try clear fC fD fE
      try clear p2
      obtain ⟨kq, HA, HJ11, aK, cA, cB, HB⟩ := hcut; cases kq with
      | zero => exact absurd HA.out (by simp [impl_HardOf.j2])
      | succ zN =>
       have H := HA.out; clear HA; simp only [impl_HardOf.j2] at H; by_cases zO : 0 ≤ aH
       ·rw [if_pos zO] at H; have zP : decide (0 ≤ aH) = true := decide_eq_true zO; clear zO; by_cases zQ : aH < (l0.length : Int)
        ·rw [if_pos zQ] at H; have zR : decide (aH < (l0.length : Int)) = true := decide_eq_true zQ; clear zQ; replace H := oB H; obtain ⟨⟨hZ, iA, cY, zS⟩, zT, H⟩ := H; (try dsimp only at H); have KZ := aM zT; clear zT; have sC := aM H; clear H; have p509 : 0 ≤ (aH : Int) := oda; have q509 : aH < (l0.length : Int) := oda
         obtain ⟨JP, GD, fF, fG, fH, fI, fJ, fK, fL, fM, fN, fO⟩ := at_T38 KT.out aH p509 q509; cases GD
         replace fF := xce HB fF; replace fG := xce HB fG; replace fH := xce HB fH; replace fI := xce HB fI; replace fJ := xce HB fJ; replace fK := xce HB fK; replace fL := xce HB fL; replace fM := xce HB fM; replace fN := xce HB fN; replace fO := xce HB fO; replace p509 := eq_true p509; replace q509 := eq_true q509
         go_upto_if 28 with (first | ((with_reducible refine gD 6 rfl ?_); refine boxE (N := 6) rfl (cs := #[.int .i64 0, .int .i64 0, .int .i64 0, .int .i64 0, .int .i64 0, .int .i64 0, .int .i64 0, .int .i64 0, .int .i64 0, .string (⟨#[]⟩ : ByteArray)]) (t := 38) ?_; intro cL hg dK hbox hb; replace aK := xrb aK hb; have JQ := aM (xge hg); have JR := aM (xge hg); replace HB := xbs hb; have dW := nblt cA hg; have dX := nbgt cA hg; have cZ := nblt cB hg; have dA := nbgt cB hg; replace cA := xbb cA hb; replace cB := xbb cB hb; have cM := aM (hbox); clear hb hbox hg; have sS := dX.out; have sU := dW.out; have JS := dA.out; have JT := cZ.out; obtain ⟨oU, oV, oW, oX, oY, oZ, pA, pB, pC, pD, pE, pF, pG, pH, pI, pJ, pK, pL, pM, pN⟩ := xf10 (w := dK) cM) | ((with_reducible refine gate_store (t := 38) (p := 6) rfl ?_); refine store_event (t := 38) (p := 6) (v := ?vo_w26) (w1 := ((((((((((dK.setCell ⟨cL, 0, none⟩ (.int .i64 ((rd_T38 l0 aH).f0))).setCell ⟨cL, 1, none⟩ (.int .i64 ((rd_T38 l0 aH).f1))).setCell ⟨cL, 2, none⟩ (.int .i64 ((rd_T38 l0 aH).f2))).setCell ⟨cL, 3, none⟩ (.int .i64 ((rd_T38 l0 aH).f3))).setCell ⟨cL, 4, none⟩ (.int .i64 ((rd_T38 l0 aH).f4.f0))).setCell ⟨cL, 5, none⟩ (.int .i64 ((rd_T38 l0 aH).f4.f1.f0))).setCell ⟨cL, 6, none⟩ (.int .i64 ((rd_T38 l0 aH).f4.f1.f1))).setCell ⟨cL, 7, none⟩ (.int .i64 ((rd_T38 l0 aH).f4.f1.f2))).setCell ⟨cL, 8, none⟩ (.int .i64 ((rd_T38 l0 aH).f4.f1.f3))).setCell ⟨cL, 9, none⟩ (.string ((rd_T38 l0 aH).f4.f1.f4)))) ?hg ?ho ?hn ?hr ?_; (case ho | hg | hn => rfl); (case hr => exact u11_0); intro CJ hw; replace aK : Aside0 (Kd.R k36 36 CJ w.heap.size (fun _ => True) cP aR) := xwm hw aK (fun _ _ => trivial); replace cA := xwc hw cA; replace cB := xwc hw cB; replace cM : Aside0 (CJ.heap[cL]? = some (.cells #[.int .i64 ((rd_T38 l0 aH).f0), .int .i64 ((rd_T38 l0 aH).f1), .int .i64 ((rd_T38 l0 aH).f2), .int .i64 ((rd_T38 l0 aH).f3), .int .i64 ((rd_T38 l0 aH).f4.f0), .int .i64 ((rd_T38 l0 aH).f4.f1.f0), .int .i64 ((rd_T38 l0 aH).f4.f1.f1), .int .i64 ((rd_T38 l0 aH).f4.f1.f2), .int .i64 ((rd_T38 l0 aH).f4.f1.f3), .string ((rd_T38 l0 aH).f4.f1.f4)] 38 (0, 0))) := xwp hw; replace HB := xbw hw HB; clear hw; have sW := cG.out; have sX := cF.out; obtain ⟨pO, pP, pQ, pR, pS, pT⟩ := xf3 (w := CJ) cB; obtain ⟨pW, pX, pY, pZ, qA, qB, qC, qD, qE, qF, qG, qH, qI, qJ, qK, qL, qM, qN, qO, qP⟩ := xf10 (w := CJ) cM; obtain ⟨fP, fQ, GE⟩ := Kd.R_slice aK.out; subst GE) | ((with_reducible refine gC 10 rfl ?_); refine goesLY (some 24) rfl Try.func10 #[.agg #[.int .i64 bO, .int .i64 bP, .slice fP aR.length fQ], .agg #[.int .i64 ((rd_T38 l0 aH).f0), .int .i64 ((rd_T38 l0 aH).f1), .int .i64 ((rd_T38 l0 aH).f2), .int .i64 ((rd_T38 l0 aH).f3), .int .i64 ((rd_T38 l0 aH).f4.f0), .int .i64 ((rd_T38 l0 aH).f4.f1.f0), .int .i64 ((rd_T38 l0 aH).f4.f1.f1), .int .i64 ((rd_T38 l0 aH).f4.f1.f2), .int .i64 ((rd_T38 l0 aH).f4.f1.f3), .string ((rd_T38 l0 aH).f4.f1.f4)]] ?_; (with_reducible refine (impl_HardApply.calls zN bO bP _ _ aR ((rd_T38 l0 aH).f0) ((rd_T38 l0 aH).f1) ((rd_T38 l0 aH).f2) ((rd_T38 l0 aH).f3) ((rd_T38 l0 aH).f4.f0) ((rd_T38 l0 aH).f4.f1.f0) ((rd_T38 l0 aH).f4.f1.f1) ((rd_T38 l0 aH).f4.f1.f2) ((rd_T38 l0 aH).f4.f1.f3) ((rd_T38 l0 aH).f4.f1.f4) hZ iA cY zS _ ?side1 ?side2 KZ.out).mono ?_); (case side1 => exact xC aK); (case side2 => exact (Kd.R_reads' aK.out).2.1); rintro e LY ⟨v514, rfl, fR, hb⟩; refine ⟨_, rfl, ?_⟩; have dY := aM (Kd.R_lower (Kd.R_new' fR (Kd.R_lt (xr aK))) (below_size xbg)); replace aK := aM (Kd.R_elder' (xr aK) (Kd.R_base fR) hb); replace cA := xbb cA hb; replace cB := xbb cB hb; replace cM := xbb cM hb; replace HB := xbs hb; (try clear hb fR)) | ((with_reducible refine gD 7 rfl ?_); refine boxE (N := 7) rfl (cs := #[.int .i64 0, .int .i64 0, .slice none 0 0]) (t := 28) ?_; intro fY hg CK hbox hb; replace aK := xrb aK hb; replace dY := xrb dY hb; have JU := aM (xge hg); have JV := aM (xge hg); replace HB := xbs hb; have dB := nblt cA hg; have dC := nbgt cA hg; have dD := nblt cB hg; have dE := nbgt cB hg; have dZ := nblt cM hg; have eA := nbgt cM hg; replace cA := xbb cA hb; replace cB := xbb cB hb; replace cM := xbb cM hb; have hX := aM (hbox); clear hb hbox hg; have JW := dC.out; have JX := dB.out; have JY := dE.out; have JZ := dD.out; have KA := eA.out; have KB := dZ.out; obtain ⟨qQ, qR, qS, qT, qU, qV⟩ := xf3 (w := CK) hX; obtain ⟨fZ, gA, GF⟩ := Kd.R_slice dY.out; subst GF))
         (try simp only [Act.put, List.setIfInBounds_toArray, List.set_cons_zero, List.set_cons_succ]); go_cut [] (fun wc => ∃ (kq : Nat) (cT : Int) (cU : Int), Aside0 (impl_HardOf.j3 kq l0 l0 (l0.length : Int) aH hZ iA cY = some (r1, r2, r3, r4)) ∧ Aside0 (kq ≤ zN) ∧ Aside0 (Kd.R k36 36 wc w.heap.size (fun k_ => some k_ ≠ ((.slice fZ cY.length gA) : Value).ownBlock) (.slice fP aR.length fQ) aR) ∧ Aside0 (Kd.R k36 36 wc w.heap.size (fun k_ => some k_ ≠ ((.slice fP aR.length fQ) : Value).ownBlock) (.slice fZ cY.length gA) cY) ∧ Aside0 (wc.heap[cH]? = some (.cells #[.int .i64 cT, .int .i64 cU, (.slice none 0 0)] 28 (0, 0))) ∧ Aside0 (wc.heap[dF]? = some (.cells #[.int .i64 bO, .int .i64 bP, (.slice fP aR.length fQ)] 28 (0, 0))) ∧ Aside0 (wc.heap[cL]? = some (.cells #[.int .i64 ((rd_T38 l0 aH).f0), .int .i64 ((rd_T38 l0 aH).f1), .int .i64 ((rd_T38 l0 aH).f2), .int .i64 ((rd_T38 l0 aH).f3), .int .i64 ((rd_T38 l0 aH).f4.f0), .int .i64 ((rd_T38 l0 aH).f4.f1.f0), .int .i64 ((rd_T38 l0 aH).f4.f1.f1), .int .i64 ((rd_T38 l0 aH).f4.f1.f2), .int .i64 ((rd_T38 l0 aH).f4.f1.f3), .string ((rd_T38 l0 aH).f4.f1.f4)] 38 (0, 0))) ∧ Aside0 (wc.heap[fY]? = some (.cells #[.int .i64 hZ, .int .i64 iA, (.slice fZ cY.length gA)] 28 (0, 0))) ∧ Aside0 (Below w.heap.size w wc))
         case first =>
          have H := sC.out; clear sC; by_cases iC : zS = true
          ·subst iC; replace H := iT H; have H' := aM H; clear H; go_wp2; go_meet
           case rel => exact ⟨_, (cN), (cO), H', ⟨by have := HJ1.out; have := HK2.out; have := HJ11.out; first | omega | exact Nat.le_refl _⟩, ⟨xrm aK (fun _ hk => hk.2)⟩, ⟨xrm dY (fun _ hk => hk.2)⟩, ⟨xB⟩, ⟨xB⟩, ⟨xB⟩, ⟨xP⟩, ⟨xbg⟩⟩
          ·replace iC := Bool.eq_false_iff.mpr iC; subst iC; replace H := iN H; simp only [Option.some.injEq, Prod.mk.injEq] at H; obtain ⟨rfl, rfl, rfl, rfl⟩ := H; have sY := cG.out; have sZ := cF.out; have tA := cZ.out; have tB := dA.out; have tC := dD.out; have tD := dE.out; obtain ⟨eF, eG, eH, eI, eJ, eK⟩ := xf3 (w := CK) cB; have tE := dW.out; have tF := dX.out; have tG := dB.out; have tH := dC.out; obtain ⟨eL, eM, eN, eO, eP, eQ⟩ := xf3 (w := CK) cA; go_wp2_with (first | ((with_reducible refine gate_store (t := 28) (p := 2) rfl ?_); refine store_event (t := 28) (p := 2) (v := ?vo_w46) (w1 := ((((((CK.setCell ⟨fY, 0, none⟩ (.int .i64 hZ)).setCell ⟨fY, 1, none⟩ (.int .i64 iA)).setCell ⟨fY, 2, none⟩ (.slice fZ cY.length gA)).setCell ⟨cH, 0, none⟩ (.int .i64 bO)).setCell ⟨cH, 1, none⟩ (.int .i64 bP)).setCell ⟨cH, 2, none⟩ (.slice fP aR.length fQ))) ?hg ?ho ?hn ?hr ?_; (case ho | hg | hn => rfl); (case hr => exact u11_0); intro rU hw; replace aK : Aside0 (Kd.R k36 36 rU w.heap.size (fun k_ => some k_ ≠ (.slice fZ cY.length gA : Value).ownBlock) (.slice fP aR.length fQ) aR) := xwm hw aK (fun _ hk => hk.2); replace dY : Aside0 (Kd.R k36 36 rU w.heap.size (fun k_ => some k_ ≠ (.slice fP aR.length fQ : Value).ownBlock) (.slice fZ cY.length gA) cY) := xwm hw dY (fun _ hk => hk.2); replace cA : Aside0 (rU.heap[cH]? = some (.cells #[.int .i64 bO, .int .i64 bP, .slice fP aR.length fQ] 28 (0, 0))) := xwp hw; replace cB := xwc hw cB; replace cM := xwc hw cM; replace hX : Aside0 (rU.heap[fY]? = some (.cells #[.int .i64 hZ, .int .i64 iA, .slice fZ cY.length gA] 28 (0, 0))) := xwp hw; replace HB := xbw hw HB; clear hw))
           refine bodyPost_ret (results_ct rfl _ _ cH 28 #[.int .i64 bO, .int .i64 bP, .slice fP aR.length fQ] (0, 0) _ rfl xblk Try.underlying28 rfl (by kernel_rfl)) rfl ?_; exact ⟨_, xerr, by (with_reducible repeat (first | apply Kd.R_alloc | apply Kd.R_drewN | apply Kd.R_drew)); exact Kd.R_mono aK.out (fun _ hk => trivial), xbg⟩
         case rest =>
          clear sC; try clear c1
          try clear c2
          try clear p2
          try clear c3
          try clear c4
          try clear c5
          try clear p5
          try clear q5
          try clear LZ
          try clear c7
          try clear eY
          try clear iI
          try clear c8
          try clear c10
          try clear rR
          try clear dR
          try clear KY
          try clear zO
          try clear zP
          try clear zQ
          try clear zR
          try clear MA
          try clear MB
          try clear MC
          try clear MD
          try clear ME
          try clear KL
          try clear iC
          try clear KM
          try clear KN
          try clear KO
          try clear KP
          try clear KQ
          try clear dL dM dN
          try clear gQ gR gS
          try clear gW gX gY
          try clear oU oV oW oX oY oZ pA pB pC pD
          try clear pO pP pQ
          try clear pW pX pY pZ qA qB qC qD qE qF
          try clear qQ qR qS
          try clear eF eG eH
          try clear eL eM eN
          try clear eS eT eU
          try clear eZ fA fB
          try clear dO dP dQ
          try clear gT gU gV
          try clear gZ hJ hU
          try clear pE pF pG pH pI pJ pK pL pM pN
          try clear pR pS pT
          try clear qG qH qI qJ qK qL qM qN qO qP
          try clear qT qU qV
          try clear eI eJ eK
          try clear eO eP eQ
          try clear eV eW eX
          try clear fC fD fE
          try clear fF
          try clear fG
          try clear fH
          try clear fI
          try clear fJ
          try clear fK
          try clear fL
          try clear fM
          try clear fN
          try clear fO
          try clear p2
          try clear p509
          try clear q509
          obtain ⟨kq, cT, cU, HA, HJ20, aK, iB, cA, cB, cM, hX, HB⟩ := hcut; cases kq with
          | zero => exact absurd HA.out (by simp [impl_HardOf.j3])
          | succ GG =>
           have H := HA.out; clear HA; simp only [impl_HardOf.j3] at H; have H' := aM H; clear H; have KC := dC.out; have KD := dB.out; have KE := dE.out; have KF := dD.out; have tI := eA.out; have tJ := dZ.out; obtain ⟨CL, CM, CN, CO, CP, CQ⟩ := xf3 (w := wc) hX; have tL := cG.out; have tM := cF.out; have KG := cZ.out; have KH := dA.out; obtain ⟨CR, CS, CT, CU, CV, CW⟩ := xf3 (w := wc) cB; go_wp2; go_roundg GG
           case measure => have := HJ1.out; have := HK2.out; have := HJ11.out; have := HJ20.out; omega
           case rel => exact ⟨(wrap64 (aH + 1)), (cT), (cU), (hZ), (iA), (cY), (.slice fZ cY.length gA), u11_1, H', ⟨by have := HJ1.out; have := HK2.out; have := HJ11.out; have := HJ20.out; omega⟩, ⟨xrm iB (fun _ _ => trivial)⟩, ⟨xB⟩, ⟨xP⟩, ⟨xbg⟩⟩
        ·rw [if_neg zQ] at H; exact absurd H (by simp)
       ·rw [if_neg zO] at H; exact absurd H (by simp)

end Go.Proofs.Ytocpomkfilpflaa.QFnHardRun
