-- A walk, by a program of this session.
import Derived.Test.YtppfnnpfamkclaaGreatQFnSavedx0
import Derived.Test.YtppfnnpfamkclaaGreatQFnSavedx3
import Derived.Test.YtppfnnpfamkclaaGreatQFnSavedx4
namespace Go.Proofs.YtppfnnpfamkclaaGreat.QFnSaved
open Go.RowKit Go.Proofs.YtppfnnpfamkclaaGreatW.PrintWords Go.Proofs.YtppfnnpfamkclaaGreatW.PrintLast Go.Proofs.YtppfnnpfamkclaaGreatW.PrintMore
attribute [local go_sem] max2_int min2_int max_two min_two max_three min_three max_four min_four   -- for this text's walks alone
set_option maxHeartbeats 8000000
set_option maxRecDepth 100000
set_option linter.unusedVariables false
set_option linter.unusedSimpArgs false
theorem u5_0 {p : Prop} (h : p := by first | rfl | (simp; done) | (simp [*]; done)) : p := h
theorem u5_1 {p : Prop} (h : p := by (with_reducible repeat (first | apply Kd.R_alloc | apply Kd.R_drewN | apply Kd.R_drew)); exact aA.out) : p := h
theorem u5_3 {p : Prop} (h : p := by exact (fun k_ hk => Kd.freshB (g := aW) (o := .cells #[.int .i64 aZ, .string bE, .string bG] 66 (0, 0)) xblk k_ hk)) : p := h
theorem u5_4 {p : Prop} (h : p := by first | exact Kd.R_nil _ _ _ _ _ | exact Kd.N_nil _ _ _ _ _ | exact Kd.V_nil _ _ _ _ _ | exact Kd.Q_nil _ _ _ _ _ | exact Kd.S_nil _ _ _ _ _) : p := h
mutual
def spec_l3Put.l0 : Nat → Bool → Int → Int → List (S66) → Int → ByteArray → ByteArray → Int → List (S66) → Option (Int × (List (S66)))
 | 0, _, _, _, _, _, _, _, _, _ => none
 | k + 1, x6, x7, bU, aU, aY, bK, bL, bM, aV => if x7 < (aU.length : Int) then (if x6 = true then (spec_l3Put.j1 k x6 x7 false bU aU aY bK bL bM aV) else (if 0 ≤ x7 then (spec_l3Put.j1 k x6 x7 (decide (((rd_T66 aU x7).f0) ≥ aY)) bU aU aY bK bL bM aV) else (none))) else (if x6 = true then (some (bM, aV)) else (if aV.length < 3518437208883 then (some (bM, (aV ++ [(⟨aY, bK, bL⟩ : S66)]))) else (none)))
def spec_l3Put.j1 : Nat → Bool → Int → Bool → Int → List (S66) → Int → ByteArray → ByteArray → Int → List (S66) → Option (Int × (List (S66)))
 | 0, _, _, _, _, _, _, _, _, _, _ => none
 | k + 1, x6, x7, pB, bU, aU, aY, bK, bL, bM, aV => if pB = true then (if aV.length < 3518437208883 then (spec_l3Put.j2 k true x7 bU aU aY bK bL bM (aV ++ [(⟨aY, bK, bL⟩ : S66)])) else (none)) else (spec_l3Put.j2 k x6 x7 bU aU aY bK bL bM aV)
def spec_l3Put.j2 : Nat → Bool → Int → Int → List (S66) → Int → ByteArray → ByteArray → Int → List (S66) → Option (Int × (List (S66)))
 | 0, _, _, _, _, _, _, _, _, _ => none
 | k + 1, x6, x7, bU, aU, aY, bK, bL, bM, aV => if 0 ≤ x7 then (if x7 < (aU.length : Int) then (if ((rd_T66 aU x7).f0) = aY then (spec_l3Put.l0 k x6 (wrap64 (x7 + 1)) bU aU aY bK bL bM aV) else (if aV.length < 3518437208883 then (spec_l3Put.l0 k x6 (wrap64 (x7 + 1)) bU aU aY bK bL bM (aV ++ [(⟨(rd_T66 aU x7).f0, (rd_T66 aU x7).f1, (rd_T66 aU x7).f2⟩ : S66)])) else (none))) else (none)) else (none)
end
def spec_l3Put.f (k : Nat) (aG : Int) (aC : List (S66)) (aZ : Int) (bE : ByteArray) (bG : ByteArray) : Option (Int × (List (S66))) := spec_l3Put.l0 k false 0 aG aC aZ bE bG aG ([] : List (S66))
def spec_l3Put.T6 : Bool × List (List Nat × List Nat) := (true, [([], []), ([0], [0]), ([1], [1]), ([2], [2]), ([3, 2], [2, 3]), ([2], [2]), ([4, 5, 2], [2, 4, 5]), ([6, 2], [2, 6]), ([7, 2], [2, 7]), ([2], [2]), ([9, 2], [2, 9]), ([8, 10, 2], [2, 8, 10]), ([2, 11], [2, 11])])
def spec_l3Put.B6 : List Nat := [0, 1, 3, 7, 15, 7, 63, 127, 255, 7, 519, 2047, 4095]
def spec_l3Put.T9 : Bool × List (List Nat × List Nat) := (true, [([], []), ([0], [0]), ([], []), ([1, 2], [1, 2]), ([3], [3]), ([4], [4]), ([], []), ([6], [6]), ([5, 7], [5, 7])])
def spec_l3Put.B9 : List Nat := [0, 1, 0, 7, 15, 31, 0, 64, 255]
def spec_l3Put.T10 : Bool × List (List Nat × List Nat) := (true, [([], []), ([0], [0]), ([], []), ([2], [2]), ([], []), ([3, 4], [3, 4]), ([5], [5]), ([6], [6]), ([1, 7], [1, 7]), ([0, 1, 2, 3, 4, 5, 6, 7, 8], []), ([9, 8, 8, 0, 1, 2, 3, 4, 5, 6, 7, 8], [8, 9])])
def spec_l3Put.B10 : List Nat := [0, 1, 0, 4, 0, 28, 60, 124, 255, 511, 1023]
theorem spec_l3Put.tab10 : rtab .any (opsOf Tryz.f66 10) = spec_l3Put.T10 := by kernel_rfl
theorem spec_l3Put.bits10 : waitsOk spec_l3Put.T10.2 spec_l3Put.B10 = true := by kernel_rfl
theorem spec_l3Put.calls {k : Nat} {aG : Int} {bX : Option Addr} {bN : Nat} {aC : List (S66)} {aZ : Int} {bE bG : ByteArray} {r1 : Int} {r2 : List (S66)} {w : World} (h : spec_l3Put.f k aG aC aZ bE bG = some (r1, r2)) (dT : Kd.C k66 w bX aC.length aC) (dU : aC.length ≤ bN) :
 Calls Tryz.prog 66 #[.agg #[.int .i64 aG, .slice bX aC.length bN], .agg #[.int .i64 aZ, .string bE, .string bG]] w fun e w' => ∃ v1_ : Value, e = .returned (.agg #[.int .i64 r1, v1_]) ∧ Kd.R k66 66 w' w.heap.size (fun _ => True) v1_ r2 ∧ Below w.heap.size w w' := by
 have kU := Tryz.underlying26; have kV := Tryz.underlying66; have bZ := aM dT; have cS := aM dU
 clear dT dU
 have HB := aM (Below.refl w.heap.size w); have H := h; unfold spec_l3Put.f at H
 clear h
 replace H := aM H
 go_enter Tryz.func66, Tryz.ntmps66
 go_wp2_with (first | (refine bE_ (N := 2) rfl ?_; intro bV hg w3 aD hb; have lP := aM (xge hg); have lQ := aM (xge hg); replace HB := xbs hb; clear hb hg) | (refine bE_ (N := 3) rfl ?_; intro aW hg w4 aI hb; have lR := aM (xge hg); have lS := aM (xge hg); replace HB := xbs hb; have cA := nblt aD hg; have cB := nbgt aD hg; replace aD := xbb aD hb; clear hb hg) | (refine bE_ (N := 4) rfl ?_; intro cT hg w5 aQ hb; have lT := aM (xge hg); have lU := aM (xge hg); replace HB := xbs hb; have cG := nblt aD hg; have cH := nbgt aD hg; have cM := nblt aI hg; have cN := nbgt aI hg; replace aD := xbb aD hb; replace aI := xbb aI hb; clear hb hg; have pC := a4_ cA cB cG cH; have dW := xf2 (w := w5) aD) | (refine bE_ (N := 5) rfl ?_; intro cL hg w9 aJ hb; have lV := aM (xge hg); have lW := aM (xge hg); replace HB := xbs hb; have bR := nblt aD hg; have bS := nbgt aD hg; have cC := nblt aI hg; have cD := nbgt aI hg; have cE := nblt aQ hg; have cF := nbgt aQ hg; replace aD := xbb aD hb; replace aI := xbb aI hb; replace aQ := xbb aQ hb; clear hb hg; have hZ := a6_ bS bR cD cC cF cE; have dE := xf2 (w := w9) aJ))
 go_loopg [6, 7] k (fun kq v6 v7 w' => ∃ (eA : Bool) (aE : Int) (aN : List (S66)) (aK : Value), v6 = .bool eA ∧ v7 = .int .i64 aE ∧ Aside0 (spec_l3Put.l0 kq eA aE aG aC aZ bE bG aG aN = some (r1, r2)) ∧ Aside0 (kq ≤ k) ∧ Aside0 (Kd.R k66 66 w' w.heap.size (fun k_ => k_ ≠ aW) aK aN) ∧ Aside0 (w'.heap[bV]? = some (.cells #[.int .i64 aG, (.slice bX aC.length bN)] 26 (0, 0))) ∧ Aside0 (w'.heap[aW]? = some (.cells #[.int .i64 aZ, .string bE, .string bG] 66 (0, 0))) ∧ Aside0 (w'.heap[cT]? = some (.cells #[.int .i64 0, (.slice none 0 0)] 26 (0, 0))) ∧ Aside0 (w'.heap[cL]? = some (.cells #[.int .i64 aG, aK] 26 (0, 0))) ∧ Aside0 (Below w.heap.size w w'))
 case atStart => exact ⟨_, _, _, _, u5_0, u5_0, H, ⟨Nat.le_refl _⟩, ⟨u5_4⟩, ⟨xB⟩, ⟨xB⟩, ⟨xB⟩, ⟨xP⟩, ⟨xbg⟩⟩
 case round =>
  clear H
  try clear dE dF
  try clear dW dX
  obtain ⟨eA, aE, aN, aK, rfl, rfl, HA, HK1, aA, aD, aI, aQ, aJ, HB⟩ := hrel; cases gk with
  | zero => exact absurd HA.out (by simp [spec_l3Put.l0])
  | succ k1 =>
   have H := HA.out; clear HA; simp only [spec_l3Put.l0] at H; replace H := dI_ H; obtain ⟨eU, H⟩ | ⟨eU, H⟩ := H
   ·have hI := aM H; clear H; have mD := a6_ cA cB cG cH bR bS; have eC := xf2 (w := wr) aD; go_upto_region 6 with (fail)
    go_cut [30] (fun v30 wc => ∃ (kq : Nat) (dI : Bool), v30 = .bool dI ∧ Aside0 (spec_l3Put.j1 kq eA aE dI aG aC aZ bE bG aG aN = some (r1, r2)) ∧ Aside0 (kq ≤ k1) ∧ Aside0 (Kd.R k66 66 wc w.heap.size (fun k_ => k_ ≠ aW) aK aN) ∧ Aside0 (wc.heap[bV]? = some (.cells #[.int .i64 aG, (.slice bX aC.length bN)] 26 (0, 0))) ∧ Aside0 (wc.heap[aW]? = some (.cells #[.int .i64 aZ, .string bE, .string bG] 66 (0, 0))) ∧ Aside0 (wc.heap[cT]? = some (.cells #[.int .i64 0, (.slice none 0 0)] 26 (0, 0))) ∧ Aside0 (wc.heap[cL]? = some (.cells #[.int .i64 aG, aK] 26 (0, 0))) ∧ Aside0 (Below w.heap.size w wc))
    case first =>
     have H := hI.out; clear hI; cases eA; rotate_left
     ·replace H := iT H; replace H := aM H; try go_wp2
      replace aA := rD aA; replace aD := bD aD; replace aI := bD aI; replace aQ := bD aQ; replace aJ := bD aJ; replace HB := lD HB; refine st_ 13 (fun w' => True) spec_l3Put.T6 spec_l3Put.B6 trivial (fun hHeld HT_ HW_ => ?_); generalize wr.drew = pT at aA aD aI aQ aJ HB hHeld ⊢; refine pV 0 18 ?_; refine pV 1 19 ?_; refine pV 2 20 ?_; refine pU 3 21 ?_; refine pU 4 22 ?_; refine pU 5 23 ?_; refine pU 6 24 ?_; refine pU 7 25 ?_; refine pU 8 26 ?_; refine pU 9 27 ?_; refine pU 10 28 ?_; refine pU 11 29 ?_; refine pV 12 30 ?_; refine dn_ ?_; try go_wp2
      go_meet
      case rel => exact ⟨_, _, u5_0, H, ⟨by have := HK1.out; first | omega | exact Nat.le_refl _⟩, ⟨u5_1⟩, ⟨xblk⟩, ⟨xblk⟩, ⟨xblk⟩, ⟨xblk⟩, ⟨xbg⟩⟩
     replace H := iN H; replace H := dN_ H; obtain ⟨eH, H⟩ := H
     (first | rw [eH] | (simp only [i64_w, i32_w]; rw [eH]) | skip); replace H := aM H; try go_wp2
     replace aA := rD aA; replace aD := bD aD; replace aI := bD aI; replace aQ := bD aQ; replace aJ := bD aJ; replace HB := lD HB; have p148 : 0 ≤ (aE : Int) := oda; have q148 : aE < (aC.length : Int) := oda; obtain ⟨dA, kW, cI, cJ, cK⟩ := at_T66 bZ.out aE p148 q148; have eX := cK; have eY := cJ; have eZ := cI; cases kW
     replace cI := xce HB cI; replace cJ := xce HB cJ; replace cK := xce HB cK; replace p148 := eq_true p148; replace q148 := eq_true q148; refine st_ 13 (fun w' => w'.cell? ⟨bV, 0, none⟩ = some (.int .i64 aG) ∧ w'.cell? ⟨bV, 1, none⟩ = some (.slice (some dA) aC.length bN) ∧ w'.cell? ⟨aW, 0, none⟩ = some (.int .i64 aZ) ∧ w'.cell? ⟨aW, 1, none⟩ = some (.string bE) ∧ w'.cell? ⟨aW, 2, none⟩ = some (.string bG) ∧ w'.cell? (dA.add ((aE).toNat * 3)) = some (.int .i64 ((rd_T66 aC aE).f0)) ∧ w'.cell? ⟨(dA.add ((aE).toNat * 3)).block, (dA.add ((aE).toNat * 3)).off + 1, none⟩ = some (.string ((rd_T66 aC aE).f1)) ∧ w'.cell? ⟨(dA.add ((aE).toNat * 3)).block, (dA.add ((aE).toNat * 3)).off + 2, none⟩ = some (.string ((rd_T66 aC aE).f2))) spec_l3Put.T6 spec_l3Put.B6 ⟨xc aD 0 rfl, xc aD 1 rfl, xc aI 0 rfl, xc aI 1 rfl, xc aI 2 rfl, (xce HB eZ), (xce HB eY), (xce HB eX)⟩ (fun hHeld HT_ HW_ => ?_); generalize wr.drew = mH at aA aD aI aQ aJ HB cI cJ cK hHeld ⊢; refine pV 0 18 ?_; refine pV 1 19 ?_; refine pV 2 20 ?_; refine pV 3 21 ?_; refine pV 5 23 ?_; refine pV 9 27 ?_; refine tK 4 22 ?_; refine pV 6 24 ?_; refine pV 7 25 ?_; refine tK 8 26 ?_; refine tK 10 28 ?_; refine pV 11 29 ?_; refine pV 12 30 ?_; refine dn_ ?_; try go_wp2
     go_meet
     case rel => exact ⟨_, _, u5_0, H, ⟨by have := HK1.out; first | omega | exact Nat.le_refl _⟩, ⟨u5_1⟩, ⟨xblk⟩, ⟨xblk⟩, ⟨xblk⟩, ⟨xblk⟩, ⟨xbg⟩⟩
    case rest =>
     clear hI
     try clear gY
     try clear eU
     try clear dE dF
     try clear eC eD
     try clear dW dX
     obtain ⟨kq, dI, rfl, HA, HJ14, aA, aD, aI, aQ, aJ, HB⟩ := hcut; cases kq with
     | zero => exact absurd HA.out (by simp [spec_l3Put.j1])
     | succ iD =>
      have H := HA.out; clear HA; simp only [spec_l3Put.j1] at H; have hL := aM H; clear H; go_upto_if 30 with (fail)
      go_cut [6] (fun v6 wc => ∃ (kq : Nat) (dB : Bool) (bA : List (S66)) (aK : Value), v6 = .bool dB ∧ Aside0 (spec_l3Put.j2 kq dB aE aG aC aZ bE bG aG bA = some (r1, r2)) ∧ Aside0 (kq ≤ iD) ∧ Aside0 (Kd.R k66 66 wc w.heap.size (fun k_ => k_ ≠ aW) aK bA) ∧ Aside0 (wc.heap[bV]? = some (.cells #[.int .i64 aG, (.slice bX aC.length bN)] 26 (0, 0))) ∧ Aside0 (wc.heap[aW]? = some (.cells #[.int .i64 aZ, .string bE, .string bG] 66 (0, 0))) ∧ Aside0 (wc.heap[cT]? = some (.cells #[.int .i64 0, (.slice none 0 0)] 26 (0, 0))) ∧ Aside0 (wc.heap[cL]? = some (.cells #[.int .i64 aG, aK] 26 (0, 0))) ∧ Aside0 (Below w.heap.size w wc))
      case first =>
       have H := hL.out; clear hL; cases dI; rotate_left
       ·replace H := iT H; replace H := pN_ H; obtain ⟨iF, H⟩ := H; have LMc26 := aM iF; clear iF; generalize hY : aN ++ [(⟨aZ, bE, bG⟩ : S66)] = hM at H; (try replace H := bS_ H); (try dsimp only at H); have iG := aM hY.symm; clear hY; replace H := aM H; have mK := a6_ bS bR cD cC cF cE; have fA := xf2 (w := wc) aJ; have mQ := a4_ cB cA cM cN; have fE := xf3 (w := wc) aI; go_wp2_with (first | ((with_reducible refine gate_builtin (b := .append) (xs := #[.tmp 32, .tmp 34]) rfl ?_); at_builtin; refine Kd.R_append k66 (w0 := w) w.heap.size rfl (.tmp 32) (.tmp 34) 24 66 (.agg #[(.int .i64 0), (.string ⟨#[]⟩), (.string ⟨#[]⟩)]) 40 rfl Tryz.underlying24 info66 rfl (by decide) (by omega) aK aN (⟨aZ, bE, bG⟩ : S66) [.int .i64 aZ, .string bE, .string bG] (fun k_ => k_ ≠ aW) (fun _ => False) rfl rfl ?aP (fun _ hk => hk.elim) ?aF ?aO ?aB ?aS ?aL ?_; (case aP => exact k66_mkM _ _ _ (⟨aZ, bE, bG⟩ : S66)); (case aB => exact xbg); (case aF => exact u5_3); (case aO => exact (xr aA)); (case aS => exact (below_size xbg)); (case aL => have := LMc26.out; omega); intro v150 pH ho hb hg hat; rw [← iG.out] at ho; replace aD := aM (blk_grown (g := bV) (o := .cells #[.int .i64 aG, .slice bX aC.length bN] 26 (0, 0)) xblk hg (Kd.R_ne aA.out aD.out (by decide))); replace aI := aM (blk_grown (g := aW) (o := .cells #[.int .i64 aZ, .string bE, .string bG] 66 (0, 0)) xblk hg (Kd.R_away aA.out (fun _ hk => hk))); replace aQ := aM (blk_grown (g := cT) (o := .cells #[.int .i64 0, .slice none 0 0] 26 (0, 0)) xblk hg (Kd.R_ne aA.out aQ.out (by decide))); replace aJ := aM (blk_grown (g := cL) (o := .cells #[.int .i64 aG, aK] 26 (0, 0)) xblk hg (Kd.R_ne aA.out aJ.out (by decide))); replace HB := aM (hb); have gZ := aM (ho); clear aA; clear ho hb hg hat; obtain ⟨kY, kZ, lA⟩ := Kd.R_slice gZ.out; subst lA; have dJ := xf2 (w := pH) aJ))
        go_meet
        case rel => exact ⟨_, _, _, _, u5_0, H, ⟨by have := HK1.out; have := HJ14.out; first | omega | exact Nat.le_refl _⟩, ⟨xrs gZ⟩, ⟨xB⟩, ⟨xB⟩, ⟨xB⟩, ⟨xP⟩, ⟨xbg⟩⟩
       replace H := iN H; replace H := aM H; go_wp2; go_meet
       case rel => exact ⟨_, _, _, _, u5_0, H, ⟨by have := HK1.out; have := HJ14.out; first | omega | exact Nat.le_refl _⟩, ⟨u5_1⟩, ⟨xblk⟩, ⟨xblk⟩, ⟨xblk⟩, ⟨xblk⟩, ⟨xbg⟩⟩
      case rest =>
       clear hL
       try clear gY
       try clear eU
       try clear dE dF
       try clear eC eD
       try clear dW dX
       obtain ⟨kq, dB, bA, aK, rfl, HA, HJ23, aA, aD, aI, aQ, aJ, HB⟩ := hcut; cases kq with
       | zero => exact absurd HA.out (by simp [spec_l3Put.j2])
       | succ hN =>
        have H := HA.out; clear HA; simp only [spec_l3Put.j2] at H; replace H := dN_ H; obtain ⟨mU, H⟩ := H; replace H := dN_ H; obtain ⟨mV, H⟩ := H; replace H := eI_ H; obtain ⟨iJ, iK, H⟩ | ⟨iI, iJ, iK, H⟩ := H
        ·replace H := aM H; try go_wp2
         replace aA := rD aA; replace aD := bD aD; replace aI := bD aI; replace aQ := bD aQ; replace aJ := bD aJ; replace HB := lD HB; have p152 : 0 ≤ (aE : Int) := oda; have q152 : aE < (aC.length : Int) := oda; obtain ⟨aX, hO, bO, bP, bQ⟩ := at_T66 bZ.out aE p152 q152; have dN := bQ; have dO := bP; have dP := bO; cases hO
         replace bO := xce HB bO; replace bP := xce HB bP; replace bQ := xce HB bQ; replace p152 := eq_true p152; replace q152 := eq_true q152; refine st_ 9 (fun w' => w'.cell? ⟨bV, 0, none⟩ = some (.int .i64 aG) ∧ w'.cell? ⟨bV, 1, none⟩ = some (.slice (some aX) aC.length bN) ∧ w'.cell? ⟨aW, 0, none⟩ = some (.int .i64 aZ) ∧ w'.cell? ⟨aW, 1, none⟩ = some (.string bE) ∧ w'.cell? ⟨aW, 2, none⟩ = some (.string bG) ∧ w'.cell? (aX.add ((aE).toNat * 3)) = some (.int .i64 ((rd_T66 aC aE).f0)) ∧ w'.cell? ⟨(aX.add ((aE).toNat * 3)).block, (aX.add ((aE).toNat * 3)).off + 1, none⟩ = some (.string ((rd_T66 aC aE).f1)) ∧ w'.cell? ⟨(aX.add ((aE).toNat * 3)).block, (aX.add ((aE).toNat * 3)).off + 2, none⟩ = some (.string ((rd_T66 aC aE).f2))) spec_l3Put.T9 spec_l3Put.B9 ⟨xc aD 0 rfl, xc aD 1 rfl, xc aI 0 rfl, xc aI 1 rfl, xc aI 2 rfl, (xce HB dP), (xce HB dO), (xce HB dN)⟩ (fun hHeld HT_ HW_ => ?_); generalize wc.drew = qA at aA aD aI aQ aJ HB bO bP bQ hHeld ⊢; refine pV 0 37 ?_; refine pV 2 39 ?_; refine pV 6 43 ?_; refine tK 1 38 ?_; refine pV 3 40 ?_; refine pV 4 41 ?_; refine tK 5 42 ?_; refine tK 7 44 ?_; refine pV 8 45 ?_; refine dn_ ?_; try go_wp2
         go_roundg hN
         case measure => have := HK1.out; have := HJ14.out; have := HJ23.out; omega
         case rel => exact ⟨_, _, _, _, u5_0, u5_0, H, ⟨by have := HK1.out; have := HJ14.out; have := HJ23.out; omega⟩, ⟨u5_1⟩, ⟨xblk⟩, ⟨xblk⟩, ⟨xblk⟩, ⟨xblk⟩, ⟨xbg⟩⟩
        replace H := pN_ H; obtain ⟨eW, H⟩ := H; have LMc41 := aM eW; clear eW; generalize hY : bA ++ [(⟨(rd_T66 aC aE).f0, (rd_T66 aC aE).f1, (rd_T66 aC aE).f2⟩ : S66)] = hP at H; (try replace H := bS_ H); (try dsimp only at H); have iL := aM hY.symm; clear hY; replace H := aM H; try go_wp2
        replace aA := rD aA; replace aD := bD aD; replace aI := bD aI; replace aQ := bD aQ; replace aJ := bD aJ; replace HB := lD HB; have p152 : 0 ≤ (aE : Int) := oda; have q152 : aE < (aC.length : Int) := oda; obtain ⟨aX, hO, bO, bP, bQ⟩ := at_T66 bZ.out aE p152 q152; have dN := bQ; have dO := bP; have dP := bO; cases hO
        replace bO := xce HB bO; replace bP := xce HB bP; replace bQ := xce HB bQ; replace p152 := eq_true p152; replace q152 := eq_true q152; refine st_ 9 (fun w' => w'.cell? ⟨bV, 0, none⟩ = some (.int .i64 aG) ∧ w'.cell? ⟨bV, 1, none⟩ = some (.slice (some aX) aC.length bN) ∧ w'.cell? ⟨aW, 0, none⟩ = some (.int .i64 aZ) ∧ w'.cell? ⟨aW, 1, none⟩ = some (.string bE) ∧ w'.cell? ⟨aW, 2, none⟩ = some (.string bG) ∧ w'.cell? (aX.add ((aE).toNat * 3)) = some (.int .i64 ((rd_T66 aC aE).f0)) ∧ w'.cell? ⟨(aX.add ((aE).toNat * 3)).block, (aX.add ((aE).toNat * 3)).off + 1, none⟩ = some (.string ((rd_T66 aC aE).f1)) ∧ w'.cell? ⟨(aX.add ((aE).toNat * 3)).block, (aX.add ((aE).toNat * 3)).off + 2, none⟩ = some (.string ((rd_T66 aC aE).f2))) spec_l3Put.T9 spec_l3Put.B9 ⟨xc aD 0 rfl, xc aD 1 rfl, xc aI 0 rfl, xc aI 1 rfl, xc aI 2 rfl, (xce HB dP), (xce HB dO), (xce HB dN)⟩ (fun hHeld HT_ HW_ => ?_); generalize wc.drew = pJ at aA aD aI aQ aJ HB bO bP bQ hHeld ⊢; refine pV 0 37 ?_; refine pV 2 39 ?_; refine pV 6 43 ?_; refine tK 1 38 ?_; refine pV 3 40 ?_; refine pV 4 41 ?_; refine tK 5 42 ?_; refine tK 7 44 ?_; refine pV 8 45 ?_; refine dn_ ?_; try go_wp2
        replace aA := rD aA; replace aD := bD aD; replace aI := bD aI; replace aQ := bD aQ; replace aJ := bD aJ; replace HB := lD HB; have p153 : 0 ≤ (aE : Int) := oda; have q153 : aE < (aC.length : Int) := oda; obtain ⟨iM, lB, cU, cV, cW⟩ := at_T66 bZ.out aE p153 q153; have cX := cW; have cY := cV; have cZ := cU; obtain rfl : aX = iM := (by injection lB); replace cU := xce HB cU; replace cV := xce HB cV; replace cW := xce HB cW; replace p153 := eq_true p153; replace q153 := eq_true q153; refine start_ (n := 11) (S := fun w' => w'.cell? ⟨cL, 0, none⟩ = some (.int .i64 aG) ∧ w'.cell? ⟨cL, 1, none⟩ = some (aK) ∧ w'.cell? ⟨bV, 0, none⟩ = some (.int .i64 aG) ∧ w'.cell? ⟨bV, 1, none⟩ = some (.slice (some aX) aC.length bN) ∧ w'.cell? (aX.add ((aE).toNat * 3)) = some (.int .i64 ((rd_T66 aC aE).f0)) ∧ w'.cell? ⟨(aX.add ((aE).toNat * 3)).block, (aX.add ((aE).toNat * 3)).off + 1, none⟩ = some (.string ((rd_T66 aC aE).f1)) ∧ w'.cell? ⟨(aX.add ((aE).toNat * 3)).block, (aX.add ((aE).toNat * 3)).off + 2, none⟩ = some (.string ((rd_T66 aC aE).f2))) (ds := [10]) #[false, false, false, false, false, false, false, false, false, false, false] (by kernel_rfl) rfl rfl ⟨xc aJ 0 rfl, xc aJ 1 rfl, xc aD 0 rfl, xc aD 1 rfl, (xce HB cZ), (xce HB cY), (xce HB cX)⟩ (fun hHeld => ?_); refine with_tabW spec_l3Put.tab10 spec_l3Put.bits10 (fun HT_ HW_ => ?_); generalize pJ.drew = qB at aA aD aI aQ aJ HB cU cV cW hHeld ⊢; refine pV 0 46 ?_; refine pV 2 48 ?_; refine pV 4 50 ?_; refine tK 1 47 ?_; refine tK 3 49 ?_; refine pV 5 51 ?_; refine tK 6 52 ?_; refine oN 7 53 fun K hK => ?_
        refine value_ (w1 := ?_) (v := ?_) (by rfl) rfl ?_ ?_; rotate_left 2
        ·go_simp
         constructor
         ·rfl
         rfl
        refine hK.out _ _ ⟨(blk_cell (blk_alloc aJ.out _) 0).trans rfl, (blk_cell (blk_alloc aJ.out _) 1).trans rfl, (blk_cell (blk_alloc aD.out _) 0).trans rfl, (blk_cell (blk_alloc aD.out _) 1).trans rfl, (World.cell?_alloc_lt _ _ _ (World.block_lt_of_cell? _ _ ((xce HB cZ)))).trans ((xce HB cZ)), (World.cell?_alloc_lt _ _ _ (World.block_lt_of_cell? _ _ ((xce HB cY)))).trans ((xce HB cY)), (World.cell?_alloc_lt _ _ _ (World.block_lt_of_cell? _ _ ((xce HB cX)))).trans ((xce HB cX))⟩ (fun hHeld => ?_); clear hK K; refine nm_ (N := 53) ?_; refine oN 8 54 fun K hK => ?_
        refine Kd.R_append_step k66 (w0 := w) w.heap.size (by rfl) (.tmp 47) (.tmp 53) 24 66 (.agg #[(.int .i64 0), (.string ⟨#[]⟩), (.string ⟨#[]⟩)]) 40 rfl Tryz.underlying24 info66 rfl (by decide) (by omega) aK bA (⟨(rd_T66 aC aE).f0, (rd_T66 aC aE).f1, (rd_T66 aC aE).f2⟩ : S66) [.int .i64 ((rd_T66 aC aE).f0), .string ((rd_T66 aC aE).f1), .string ((rd_T66 aC aE).f2)] (fun k_ => k_ ≠ aW) (fun _ => False) rfl rfl ?aP (fun _ hk => hk.elim) ?aF ?aO ?aB ?aS ?aL ?_; (case aP => exact k66_mkM _ _ _ (⟨(rd_T66 aC aE).f0, (rd_T66 aC aE).f1, (rd_T66 aC aE).f2⟩ : S66)); (case aB => exact xbg); (case aF => exact u5_3); (case aO => exact (xr aA)); (case aS => exact (below_size xbg)); (case aL => have := LMc41.out; omega); intro v155 pK ho hb hg hat; rw [← iL.out] at ho; replace aD := aM (blk_grown (g := bV) (o := .cells #[.int .i64 aG, .slice (some aX) aC.length bN] 26 (0, 0)) xblk hg (Kd.R_ne aA.out aD.out (by decide))); replace aI := aM (blk_grown (g := aW) (o := .cells #[.int .i64 aZ, .string bE, .string bG] 66 (0, 0)) xblk hg (Kd.R_away aA.out (fun _ hk => hk))); replace aQ := aM (blk_grown (g := cT) (o := .cells #[.int .i64 0, .slice none 0 0] 26 (0, 0)) xblk hg (Kd.R_ne aA.out aQ.out (by decide))); replace aJ := aM (blk_grown (g := cL) (o := .cells #[.int .i64 aG, aK] 26 (0, 0)) xblk hg (Kd.R_ne aA.out aJ.out (by decide))); replace HB := aM (hb); have hA := aM (ho); clear aA ho hb hg hat; obtain ⟨lC, lE, iO⟩ := Kd.R_slice hA.out; (first | subst iO | (injection iO with f1_ f2_ f3_; have f4_ := f1_.symm; have f5_ := f3_.symm; clear f1_ f2_ f3_; subst f4_; subst f5_)); refine hK.out _ _ ⟨xc aJ 0 rfl, xc aJ 1 rfl, xc aD 0 rfl, xc aD 1 rfl, (xce HB cZ), (xce HB cY), (xce HB cX)⟩ (fun hHeld => ?_); clear hK K; refine nm_ (N := 54) ?_; refine pV 9 55 ?_; refine last_ (i := 10) (N := none) #[true, true, true, true, true, true, true, true, true, true, true] rfl rfl (one_of HT_.out (by kernel_rfl)) (by decide) (fun K hK => ?_); have hs46 : pK.cell? ⟨cL, 1, none⟩ = some (aK) := xc aJ 1 rfl; have hfs46 := blk_frozen aJ.out 1; have hns46_0 := a6_ bR cC cE bS cD cF; refine skip_ (w1 := ?_) (by rfl) rfl ?_ ?_; rotate_left
        ·go_simp
         rfl
        refine hK.out _ _ ?_; clear hK K; refine dn_ ?_; try go_wp2
        go_roundg hN
        case measure => have := HK1.out; have := HJ14.out; have := HJ23.out; omega
        case rel => exact ⟨_, _, _, _, u5_0, u5_0, H, ⟨by have := HK1.out; have := HJ14.out; have := HJ23.out; omega⟩, ⟨xrs hA⟩, ⟨xB⟩, ⟨xB⟩, ⟨xB⟩, ⟨xP⟩, ⟨xbg⟩⟩
   cases eA; rotate_left
   ·replace H := iT H; obtain ⟨rfl, rfl⟩ := i2_ H; have mW := a6_ cA cB cG cH bR bS; have jM := xf2 (w := wr) aD; have nA := a4_ cD cC cF cE; have fK := xf2 (w := wr) aJ; have nC := a2_ cN cM; have fO := xf2 (w := wr) aQ; obtain ⟨hQ, hR, hS⟩ := Kd.R_slice aA.out; subst hS; go_wp2; refine bodyPost_ret (results_cell_row rfl _ _ cT 26 #[.int .i64 aG, .slice hQ aN.length hR] (0, 0) _ rfl xP Tryz.underlying26 rfl (by kernel_rfl)) rfl ?_; exact ⟨_, xerr, xrm aA (fun _ _ => trivial), xbg⟩
   replace H := iN H; by_cases jQ : aN.length < 3518437208883
   ·rw [if_pos jQ] at H; have LMc58 := aM jQ; clear jQ; generalize hY : aN ++ [(⟨aZ, bE, bG⟩ : S66)] = iU at H; (try replace H := bS_ H); (try dsimp only at H); have iV := aM hY.symm; clear hY; obtain ⟨rfl, rfl⟩ := i2_ H; have nE := a6_ cA cB cG cH bR bS; have jR := xf2 (w := wr) aD; have nK := a4_ cD cC cF cE; have jV := xf2 (w := wr) aJ; have nO := a2_ cM cN; have jZ := xf3 (w := wr) aI; go_wp2_with (first | ((with_reducible refine gate_builtin (b := .append) (xs := #[.tmp 59, .tmp 61]) rfl ?_); at_builtin; refine Kd.R_append k66 (w0 := w) w.heap.size rfl (.tmp 59) (.tmp 61) 24 66 (.agg #[(.int .i64 0), (.string ⟨#[]⟩), (.string ⟨#[]⟩)]) 40 rfl Tryz.underlying24 info66 rfl (by decide) (by omega) aK aN (⟨aZ, bE, bG⟩ : S66) [.int .i64 aZ, .string bE, .string bG] (fun k_ => k_ ≠ aW) (fun _ => False) rfl rfl ?aP (fun _ hk => hk.elim) ?aF ?aO ?aB ?aS ?aL ?_; (case aP => exact k66_mkM _ _ _ (⟨aZ, bE, bG⟩ : S66)); (case aB => exact xbg); (case aF => exact u5_3); (case aO => exact (xr aA)); (case aS => exact (below_size xbg)); (case aL => have := LMc58.out; omega); intro v158 nQ ho hb hg hat; rw [← iV.out] at ho; replace aD := aM (blk_grown (g := bV) (o := .cells #[.int .i64 aG, .slice bX aC.length bN] 26 (0, 0)) xblk hg (Kd.R_ne aA.out aD.out (by decide))); replace aI := aM (blk_grown (g := aW) (o := .cells #[.int .i64 aZ, .string bE, .string bG] 66 (0, 0)) xblk hg (Kd.R_away aA.out (fun _ hk => hk))); replace aQ := aM (blk_grown (g := cT) (o := .cells #[.int .i64 0, .slice none 0 0] 26 (0, 0)) xblk hg (Kd.R_ne aA.out aQ.out (by decide))); replace aJ := aM (blk_grown (g := cL) (o := .cells #[.int .i64 aG, aK] 26 (0, 0)) xblk hg (Kd.R_ne aA.out aJ.out (by decide))); replace HB := aM (hb); have hB := aM (ho); clear aA; clear ho hb hg hat; obtain ⟨lF, lG, lH⟩ := Kd.R_slice hB.out; subst lH; have kF := xf2 (w := nQ) aJ; have kJ := xf2 (w := nQ) aQ))
    refine bodyPost_ret (results_cell_row rfl _ _ cT 26 #[.int .i64 aG, .slice lF iU.length lG] (0, 0) _ rfl xP Tryz.underlying26 rfl (by kernel_rfl)) rfl ?_; exact ⟨_, xerr, xrm hB (fun _ _ => trivial), xbg⟩
   rw [if_neg jQ] at H; cases H
mutual
def spec_DiskAppend.j0 : Nat → Int → ByteArray → Bool → Int → List (S66) → Option (Int × (List (S66)) × Int)
 | 0, _, _, _, _, _ => none
 | k + 1, x1, x2, pL, bW, bH => if pL = true then (some (0, ([] : List (S66)), 1)) else ((spec_l3Size.f k bW bH).bind fun eB => (if (x2.size : Int) > (wrap64 (bW - eB)) then ((spec_l3Copy.f bW bH).bind fun hC => (some (hC.1, hC.2, 3))) else ((spec_l3Find.f k bW bH x1).bind fun bY => (if bY ≥ 0 then (if 0 ≤ bY then (if bY < (bH.length : Int) then (spec_DiskAppend.j1 k x2 bW bH ((rd_T66 bH bY).f0) ((rd_T66 bH bY).f1) ((rd_T66 bH bY).f2)) else (none)) else (none)) else (spec_DiskAppend.j1 k x2 bW bH x1 (⟨#[]⟩ : ByteArray) (⟨#[]⟩ : ByteArray))))))
def spec_DiskAppend.j1 : Nat → ByteArray → Int → List (S66) → Int → ByteArray → ByteArray → Option (Int × (List (S66)) × Int)
 | 0, _, _, _, _, _, _ => none
 | k + 1, x2, bW, bH, fS, fT, eI => if eI.size + x2.size ≤ 9223372036854775807 then ((spec_l3Put.f k bW bH fS fT (eI ++ x2)).bind fun hD => (some (hD.1, hD.2, 0))) else (none)
end
def spec_DiskAppend.f (k : Nat) (aG : Int) (aC : List (S66)) (a1 : Int) (a2 : ByteArray) : Option (Int × (List (S66)) × Int) := (spec_DiskOk.f k aG aC).bind fun eV => (if eV = true then ((spec_l3Name.f a1).bind fun eT => (spec_DiskAppend.j0 k a1 a2 (!eT) aG aC)) else (spec_DiskAppend.j0 k a1 a2 true aG aC))
def spec_DiskAppend.T3 : Bool × List (List Nat × List Nat) := (true, [([], []), ([0], [0]), ([], []), ([2], [2]), ([], []), ([4], [4]), ([3, 5], [3, 5]), ([1, 6], [1, 6]), ([7, 5], [7])])
def spec_DiskAppend.B3 : List Nat := [0, 1, 0, 4, 0, 16, 60, 127, 255]
theorem spec_DiskAppend.calls {k : Nat} {aG : Int} {bX : Option Addr} {bN : Nat} {aC : List (S66)} {a1 : Int} {a2 : ByteArray} {r1 : Int} {r2 : List (S66)} {r3 : Int} {w : World} (h : spec_DiskAppend.f k aG aC a1 a2 = some (r1, r2, r3)) (dT : Kd.C k66 w bX aC.length aC) (dU : aC.length ≤ bN) :
 Calls Tryz.prog 32 #[.agg #[.int .i64 aG, .slice bX aC.length bN], .int .i64 a1, .string a2] w fun e w' => ∃ v1_ : Value, e = .returned (.tuple #[.agg #[.int .i64 r1, v1_], .int .i64 r3]) ∧ Kd.R k66 66 w' w.heap.size (fun _ => True) v1_ r2 ∧ Below w.heap.size w w' := by
 have kU := Tryz.underlying26; have kV := Tryz.underlying66; have bZ := aM dT; have cS := aM dU
 clear dT dU
 have HB := aM (Below.refl w.heap.size w); have H := h; unfold spec_DiskAppend.f at H
 clear h
 have lI := aM H
 clear H
 go_enter Tryz.func32, Tryz.ntmps32
 go_upto_region 1 with (first | (refine bE_ (N := 3) rfl ?_; intro hE hg w5 aH hb; have nR := aM (xge hg); have nS := aM (xge hg); replace HB := xbs hb; clear hb hg) | (refine bE_ (N := 6) rfl ?_; intro dV hg w6 aR hb; have nT := aM (xge hg); have nU := aM (xge hg); replace HB := xbs hb; have bI := nblt aH hg; have bJ := nbgt aH hg; replace aH := xbb aH hb; clear hb hg))
 (try simp only [Act.put, List.setIfInBounds_toArray, List.set_cons_zero, List.set_cons_succ])
 go_cut [10] (fun v10 wc => ∃ (kq : Nat) (eJ : Bool), v10 = .bool eJ ∧ Aside0 (spec_DiskAppend.j0 kq a1 a2 eJ aG aC = some (r1, r2, r3)) ∧ Aside0 (kq ≤ k) ∧ Aside0 (wc.heap[hE]? = some (.cells #[.int .i64 aG, (.slice bX aC.length bN)] 26 (0, 0))) ∧ Aside0 (wc.heap[dV]? = some (.cells #[.int .i64 0, (.slice none 0 0)] 26 (0, 0))) ∧ Aside0 (Below w.heap.size w wc))
 case first =>
  have H := lI.out; clear lI; replace H := oA_ H; obtain ⟨eV, A7, H⟩ := H; (try dsimp only at H)
  cases eV; rotate_left
  ·replace H := iT H; replace H := oA_ H; obtain ⟨eT, A9, H⟩ := H; (try dsimp only at H); replace H := aM H; have hZ := a2_ bI bJ; have eK := xf2 (w := w6) aH; go_wp2_with (first | (refine gN_ 59 12 rfl rfl ?_; refine c0_ Tryz.func59 (spec_DiskOk.calls A7.out (xcb bZ) cS.out) ?_; intro qC hb; replace aH := xbb aH hb; replace aR := xbb aR hb; replace HB := xbs hb; (try clear hb)) | (go_at_call 62; (with_reducible refine (spec_l3Name.calls A9.out).mono ?_); rintro e w' ⟨rfl, ⟨nd, rfl⟩⟩))
   go_meet
   case rel => exact ⟨_, _, u5_0, H, ⟨by first | omega | exact Nat.le_refl _⟩, ⟨xblk⟩, ⟨xblk⟩, ⟨xbg⟩⟩
  replace H := iN H; replace H := aM H; have nX := a2_ bI bJ; have eO := xf2 (w := w6) aH; go_wp2_with (first | (refine gN_ 59 12 rfl rfl ?_; refine c0_ Tryz.func59 (spec_DiskOk.calls A7.out (xcb bZ) cS.out) ?_; intro qD hb; replace aH := xbb aH hb; replace aR := xbb aR hb; replace HB := xbs hb; (try clear hb)))
  go_meet
  case rel => exact ⟨_, _, u5_0, H, ⟨by first | omega | exact Nat.le_refl _⟩, ⟨xblk⟩, ⟨xblk⟩, ⟨xbg⟩⟩
 case rest =>
  clear lI
  obtain ⟨kq, eJ, rfl, HA, HJ3, aH, aR, HB⟩ := hcut; cases kq with
  | zero => exact absurd HA.out (by simp [spec_DiskAppend.j0])
  | succ kN =>
   have H := HA.out; clear HA; simp only [spec_DiskAppend.j0] at H; cases eJ; rotate_left
   ·replace H := iT H; obtain ⟨rfl, rfl, rfl⟩ := i3_ H; have iB := a2_ bJ bI; have fU := xf2 (w := wc) aR; go_wp2; refine bodyPost_ret (results_ct rfl _ _ dV 26 #[.int .i64 0, .slice none 0 0] (0, 0) _ rfl xP Tryz.underlying26 rfl (by kernel_rfl)) rfl ?_; exact ⟨_, xerr, u5_4, xbg⟩
   replace H := iN H; replace H := oA_ H; obtain ⟨eB, nZ, H⟩ := H; (try dsimp only at H); replace H := dI_ H; obtain ⟨hF, H⟩ | ⟨hF, H⟩ := H
   ·replace H := oA_ H; obtain ⟨⟨iX, iY⟩, pN, H⟩ := H; (try dsimp only at H); obtain ⟨rfl, rfl, rfl⟩ := i3_ H; try go_wp2
    replace aH := bD aH; replace aR := bD aR; replace HB := lD HB; refine sb2 9 spec_DiskAppend.T3 spec_DiskAppend.B3 aH (fun hHeld HT_ HW_ => ?_); generalize wc.drew = qE at aH aR HB hHeld ⊢; refine pV 0 21 ?_; refine pV 1 22 ?_; refine pV 2 23 ?_; refine tK 3 24 ?_; refine tK 4 25 ?_; refine oN 5 26 fun K hK => ?_
    refine d0_ Tryz.func63 (spec_l3Size.calls nZ.out (xcb bZ) cS.out) ?_; intro mH hb; replace aH := xbb aH hb; replace aR := xbb aR hb; replace HB := xbs hb; (try clear hb); refine hK.out _ _ (xe2 aH) (fun hHeld => ?_); clear hK K; refine nm_ (N := 26) ?_; refine pV 6 27 ?_; refine pV 7 28 ?_; refine pV 8 20 ?_; refine dn_ ?_; have oA := a2_ bI bJ; have fY := xf2 (w := mH) aH; try go_wp2_with (first | (refine gN_ 64 30 rfl rfl ?_; refine c1_ Tryz.func64 (spec_l3Copy.calls pN.out (xcb bZ) cS.out) ?_; rintro v167 pO ⟨jA, hb⟩; have hG := aM (Kd.R_lower jA (below_size xbg)); replace aH := xbb aH hb; replace aR := xbb aR hb; replace HB := xbs hb; (try clear hb jA); have gE := xf2 (w := pO) aR; obtain ⟨lJ, lK, lL⟩ := Kd.R_slice hG.out; subst lL))
    refine bodyPost_ret (results_ct rfl _ _ dV 26 #[.int .i64 iX, .slice lJ iY.length lK] (0, 0) _ rfl xP Tryz.underlying26 rfl (by kernel_rfl)) rfl ?_; exact ⟨_, xerr, xrm hG (fun _ _ => trivial), xbg⟩
   replace H := oA_ H; obtain ⟨bY, pP, H⟩ := H; (try dsimp only at H); have hT := aM H; clear H
   try go_wp2
   replace aH := bD aH; replace aR := bD aR; replace HB := lD HB; refine sb2 9 spec_DiskAppend.T3 spec_DiskAppend.B3 aH (fun hHeld HT_ HW_ => ?_); generalize wc.drew = qF at aH aR HB hHeld ⊢; refine pV 0 21 ?_; refine pV 1 22 ?_; refine pV 2 23 ?_; refine tK 3 24 ?_; refine tK 4 25 ?_; refine oN 5 26 fun K hK => ?_
   refine d0_ Tryz.func63 (spec_l3Size.calls nZ.out (xcb bZ) cS.out) ?_; intro qG hb; replace aH := xbb aH hb; replace aR := xbb aR hb; replace HB := xbs hb; (try clear hb); refine hK.out _ _ (xe2 aH) (fun hHeld => ?_); clear hK K; refine nm_ (N := 26) ?_; refine pV 6 27 ?_; refine pV 7 28 ?_; refine pV 8 20 ?_; refine dn_ ?_; go_upto_if 37 with (first | (refine bE_ (N := 8) rfl ?_; intro eS hg oD dC hb; have oE := aM (xge hg); have oF := aM (xge hg); replace HB := xbs hb; have cO := nblt aH hg; have cP := nbgt aH hg; have cQ := nblt aR hg; have cR := nbgt aR hg; replace aH := xbb aH hb; replace aR := xbb aR hb; clear hb hg; have oG := a4_ cP cO cR cQ; have dJ := xf3 (w := oD) dC; have oK := a2_ bI bJ; have gK := xf2 (w := oD) aH) | (refine gN_ 65 35 rfl rfl ?_; refine c0_ Tryz.func65 (spec_l3Find.calls pP.out (Kd.C_below bZ.out xbg) cS.out) ?_; intro oM hb; replace aH := xbc aH hb; replace aR := xbc aR hb; replace dC := aM (blk_below (g := eS) (o := .cells #[.int .i64 a1, .string (⟨#[]⟩ : ByteArray), .string (⟨#[]⟩ : ByteArray)] 66 (0, 0)) xP hb); replace HB := xbs hb; (try clear hb)))
   (try simp only [Act.put, List.setIfInBounds_toArray, List.set_cons_zero, List.set_cons_succ]); go_cut [] (fun wc => ∃ (kq : Nat) (bB : Int) (bC : ByteArray) (aT : ByteArray), Aside0 (spec_DiskAppend.j1 kq a2 aG aC bB bC aT = some (r1, r2, r3)) ∧ Aside0 (kq ≤ kN) ∧ Aside0 (wc.heap[hE]? = some (.cells #[.int .i64 aG, (.slice bX aC.length bN)] 26 (0, 0))) ∧ Aside0 (wc.heap[dV]? = some (.cells #[.int .i64 0, (.slice none 0 0)] 26 (0, 0))) ∧ Aside0 (wc.heap[eS]? = some (.cells #[.int .i64 bB, .string bC, .string aT] 66 (0, 0))) ∧ Aside0 (Below w.heap.size w wc))
   case first =>
    have H := hT.out; clear hT; replace H := dI_ H; obtain ⟨dD, H⟩ | ⟨dD, H⟩ := H
    ·(first | rw [dD] | (simp only [i64_w, i32_w]; rw [dD]) | skip); replace H := dN_ H; obtain ⟨jC, H⟩ := H
     replace H := dN_ H; obtain ⟨jE, H⟩ := H; replace H := aM H; have oO := a4_ bI bJ cO cP; have gO := xf2 (w := oM) aH; have p171 : 0 ≤ (bY : Int) := oda; have q171 : bY < (aC.length : Int) := oda; obtain ⟨oT, lM, dQ, dR, dS⟩ := at_T66 bZ.out bY p171 q171; cases lM
     replace dQ := xce HB dQ; replace dR := xce HB dR; replace dS := xce HB dS; replace p171 := eq_true p171; replace q171 := eq_true q171; have oU := a2_ cR cQ; have gS := xf3 (w := oM) dC; go_wp2; go_meet
     case rel => exact ⟨_, _, _, _, H, ⟨by have := HJ3.out; first | omega | exact Nat.le_refl _⟩, ⟨xB⟩, ⟨xB⟩, ⟨xP⟩, ⟨xbg⟩⟩
    (first | rw [dD] | (simp only [i64_w, i32_w]; rw [dD]) | skip); replace H := aM H; go_wp2; go_meet
    case rel => exact ⟨_, _, _, _, H, ⟨by have := HJ3.out; first | omega | exact Nat.le_refl _⟩, ⟨xblk⟩, ⟨xblk⟩, ⟨xblk⟩, ⟨xbg⟩⟩
   case rest =>
    clear hT
    try clear hJ
    try clear eG
    try clear hF
    try clear dJ dK gI
    try clear gK gL
    obtain ⟨kq, bB, bC, aT, HA, HJ29, aH, aR, dC, HB⟩ := hcut; cases kq with
    | zero => exact absurd HA.out (by simp [spec_DiskAppend.j1])
    | succ lN =>
     have H := HA.out; clear HA; simp only [spec_DiskAppend.j1] at H; by_cases jF : aT.size + a2.size ≤ 9223372036854775807
     ·rw [if_pos jF] at H; have oW := eq_true jF; have oX := decide_eq_true jF; try have oY : (9223372036854775807 < aT.size + a2.size) = False := eq_false (Nat.not_lt.2 jF)
      replace H := oA_ H; obtain ⟨⟨jG, jH⟩, pR, H⟩ := H; (try dsimp only at H); obtain ⟨rfl, rfl, rfl⟩ := i3_ H; have iP := a4_ cP cO cR cQ; have kO := xf3 (w := wc) dC; have iR := a2_ bI bJ; have fK := xf2 (w := wc) aH; go_wp2_with (first | (refine gN_ 66 50 rfl rfl ?_; refine c1_ Tryz.func66 (spec_l3Put.calls pR.out (Kd.C_below bZ.out xbg) cS.out) ?_; rintro v174 pS ⟨jA, hb⟩; have hH := aM (Kd.R_lower (Kd.R_newB jA (g := eS) (o := .cells #[.int .i64 bB, .string bC, .string (aT ++ a2)] 66 (0, 0)) xP) (below_size xbg)); replace aH := xbc aH hb; replace aR := xbc aR hb; replace dC := aM (blk_below (g := eS) (o := .cells #[.int .i64 bB, .string bC, .string (aT ++ a2)] 66 (0, 0)) xP hb); replace HB := xbs hb; (try clear hb jA); have fO := xf2 (w := pS) aR; obtain ⟨hQ, hR, hS⟩ := Kd.R_slice hH.out; subst hS))
      refine bodyPost_ret (results_ct rfl _ _ dV 26 #[.int .i64 jG, .slice hQ jH.length hR] (0, 0) _ rfl xP Tryz.underlying26 rfl (by kernel_rfl)) rfl ?_; exact ⟨_, xerr, xrm hH (fun _ _ => trivial), xbg⟩
     rw [if_neg jF] at H; cases H
end Go.Proofs.YtppfnnpfamkclaaGreat.QFnSaved
