-- A walk, by a program of this session.
import Derived.Test.YtppfnnpfamkclaaGreatQFnSavedx0
import Derived.Test.YtppfnnpfamkclaaGreatQFnSavedx19
import Derived.Test.YtppfnnpfamkclaaGreatQFnSavedx20
namespace Go.Proofs.YtppfnnpfamkclaaGreat.QFnSaved
open Go.RowKit Go.Proofs.YtppfnnpfamkclaaGreatW.PrintWords Go.Proofs.YtppfnnpfamkclaaGreatW.PrintLast Go.Proofs.YtppfnnpfamkclaaGreatW.PrintMore
attribute [local go_sem] max2_int min2_int max_two min_two max_three min_three max_four min_four   -- for this text's walks alone
set_option maxHeartbeats 8000000
set_option maxRecDepth 100000
set_option linter.unusedVariables false
set_option linter.unusedSimpArgs false
theorem u21_0 {p : Prop} (h : p := by first | (rw [hY]; with_reducible exact H) | (have H2_ := oS H; rw [hY]; with_reducible exact H2_) | (have H2_ := oS H; with_reducible exact H2_) | with_reducible exact H | (rw [hY]; exact H) | exact H) : p := h
theorem u21_1 {p : Prop} (h : p := by first | (go_simp; done) | (go_simp; rfl)) : p := h
theorem u21_2 {p : Prop} (h : p := by first | rfl | (simp; done) | (simp [*]; done)) : p := h
theorem u21_3 {p : Prop} (h : p := by first | exact Kd.R_nil _ _ _ _ _ | exact Kd.N_nil _ _ _ _ _ | exact Kd.V_nil _ _ _ _ _ | exact Kd.Q_nil _ _ _ _ _ | exact Kd.S_nil _ _ _ _ _) : p := h
def impl_CmdPack.j0 : Nat → Int → Int → Int → Int → ByteArray → Option (List Int × Bool)
 | 0, _, _, _, _, _ => none
 | k + 1, aU, cD, eP, eQ, dE => if aU = 1 then ((impl_PutNum.f k aU).bind fun dI => (some (dI, true))) else (if aU = 2 then ((impl_putNums.f k (([aU, cD, eQ] : List Int))).bind fun bK => (if bK.length + dE.size < 140737488355328 then (some ((bK ++ bytesOf dE), true)) else (none))) else (if aU = 3 then ((impl_putNums.f k (([aU, cD, eP] : List Int))).bind fun cG => (some (cG, true))) else ((impl_putNums.f k (([aU, cD] : List Int))).bind fun cH => (some (cH, true)))))
def impl_CmdPack.f (k : Nat) (aD : Int) (aH : Int) (aK : Int) (aI : Int) (aJ : ByteArray) : Option (List Int × Bool) := (impl_CmdOk.f k aD aH aK aI aJ).bind fun dG => (if dG = true then (impl_CmdPack.j0 k aD aH aK aI aJ) else (some (([] : List Int), false)))
def impl_CmdPack.T7 : Bool × List (List Nat × List Nat) := (true, [([], []), ([0], [0]), ([], []), ([2], [2]), ([], []), ([4], [4]), ([1, 3, 5], [1, 3, 5]), ([6], [6]), ([], []), ([8], [8]), ([7, 9, 7], [7, 9]), ([10, 10, 0, 1, 2, 3, 4, 5, 6, 7, 8, 9, 10], [10]), ([11, 0, 1, 2, 3, 4, 5, 6, 7, 8, 9, 10, 11], [])])
def impl_CmdPack.B7 : List Nat := [0, 1, 0, 4, 0, 16, 63, 127, 0, 256, 1023, 2047, 4095]
theorem impl_CmdPack.calls {k : Nat} {aD aH aK aI : Int} {aJ : ByteArray} {r1 : List Int} {r2 : Bool} {w : World} (h : impl_CmdPack.f k aD aH aK aI aJ = some (r1, r2)) :
 Calls Tryz.prog 73 #[.agg #[.int .i64 aD, .int .i64 aH, .int .i64 aK, .int .i64 aI, .string aJ]] w fun e w' => ∃ v0_ : Value, e = .returned (.tuple #[v0_, .bool r2]) ∧ Kd.R (Kd.int .u8) 5 w' w.heap.size (fun _ => True) v0_ r1 ∧ Below w.heap.size w w' := by
 have pD := Tryz.underlying48; have HB := aM (Below.refl w.heap.size w); have H := h; unfold impl_CmdPack.f at H
 clear h
 replace H := oB H; obtain ⟨dG, fE, H⟩ := H; (try dsimp only at H); have A2 := aM fE
 clear fE
 have fK := aM H
 clear H
 go_enter Tryz.func73, Tryz.ntmps73
 go_upto_if 6 with (first | (refine bE_ (N := 1) rfl ?_; intro bW hg w4 aC hb; have qU := aM (xge hg); have qV := aM (xge hg); replace HB := xbs hb; clear hb hg; have cT := xf5 (w := w4) aC) | (refine gN_ 82 5 rfl rfl ?_; refine c0_ Tryz.func82 (impl_CmdOk.calls A2.out) ?_; intro w6 hb; replace aC := xbb aC hb; replace HB := xbs hb; (try clear hb)))
 (try simp only [Act.put, List.setIfInBounds_toArray, List.set_cons_zero, List.set_cons_succ])
 go_cut [] (fun wc => ∃ (kq : Nat), Aside0 (impl_CmdPack.j0 kq aD aH aK aI aJ = some (r1, r2)) ∧ Aside0 (kq ≤ k) ∧ Aside0 (wc.heap[bW]? = some (.cells #[.int .i64 aD, .int .i64 aH, .int .i64 aK, .int .i64 aI, .string aJ] 48 (0, 0))) ∧ Aside0 (Below w.heap.size w wc))
 case first =>
  have H := fK.out; clear fK; cases dG; rotate_left
  ·replace H := iT H; replace H := aM H; go_wp2; go_meet
   case rel => exact ⟨_, H, ⟨by first | omega | exact Nat.le_refl _⟩, ⟨xblk⟩, ⟨xbg⟩⟩
  replace H := iN H; obtain ⟨rfl, rfl⟩ := i2_ H; go_wp2; go_ret2
  exact ⟨_, xerr, u21_3, xbg⟩
 case rest =>
  clear fK
  try clear cT cU cV cW cX cY cZ dA dB dC
  obtain ⟨kq, HA, HJ2, aC, HB⟩ := hcut; cases kq with
  | zero => exact absurd HA.out (by simp [impl_CmdPack.j0])
  | succ dD =>
   have H := HA.out; clear HA; simp only [impl_CmdPack.j0] at H; replace H := eI_ H; obtain ⟨fL, fM, H⟩ | ⟨c8, fL, fM, H⟩ := H
   ·replace H := oA_ H; obtain ⟨dI, A9, H⟩ := H; (try dsimp only at H); obtain ⟨rfl, rfl⟩ := i2_ H; have eR := xf5 (w := wc) aC; go_wp2_with (first | (refine gN_ 95 13 rfl rfl ?_; refine c1_ Tryz.func95 (impl_PutNum.calls A9.out) ?_; rintro qW rS ⟨bU, hb⟩; have fN := aM (Kd.R_lower bU (below_size xbg)); replace aC := xbb aC hb; replace HB := xbs hb; (try clear hb bU)))
    go_ret2
    exact ⟨_, xerr, by (with_reducible repeat (first | apply Kd.R_alloc | apply Kd.R_drewN | apply Kd.R_drew)); exact fN.out, xbg⟩
   replace H := eI_ H; obtain ⟨gX, gY, H⟩ | ⟨gW, gX, gY, H⟩ := H
   ·generalize hY : ([aD, aH, aI] : List Int) = dK at H; (try replace H := bS_ H); (try dsimp only at H); have dL := aM hY.symm; clear hY; replace H := oA_ H; obtain ⟨bK, rT, H⟩ := H; (try dsimp only at H); replace H := pN_ H; obtain ⟨hW, H⟩ := H; have LMc14 := aM hW; clear hW; generalize hY : bK ++ bytesOf aJ = fF at H; (try replace H := bS_ H); (try dsimp only at H); have fO := aM hY.symm; clear hY; obtain ⟨rfl, rfl⟩ := i2_ H; have hX := xf5 (w := wc) aC; try go_wp2
    replace aC := bD aC; replace HB := lD HB; refine st_ 13 (fun w' => w'.cell? ⟨bW, 0, none⟩ = some (.int .i64 aD) ∧ w'.cell? ⟨bW, 1, none⟩ = some (.int .i64 aH) ∧ w'.cell? ⟨bW, 2, none⟩ = some (.int .i64 aK) ∧ w'.cell? ⟨bW, 3, none⟩ = some (.int .i64 aI) ∧ w'.cell? ⟨bW, 4, none⟩ = some (.string aJ)) impl_CmdPack.T7 impl_CmdPack.B7 ⟨xc aC 0 rfl, xc aC 1 rfl, xc aC 2 rfl, xc aC 3 rfl, xc aC 4 rfl⟩ (fun hHeld HT_ HW_ => ?_); generalize wc.drew = pE at aC HB hHeld ⊢; refine pV 0 16 ?_; refine pV 2 18 ?_; refine pV 4 20 ?_; refine pV 8 24 ?_; refine tK 1 17 ?_; refine tK 3 19 ?_; refine tK 5 21 ?_; refine tK 9 25 ?_; refine oN 6 22 fun K hK => ?_
    refine lj_ .i64 3 (N := 22) rfl [aD, aH, aI] ?_; intro qX sF dM hb; (first | rw [← dL.out] at dM | (simp only [Int.reduceToNat] at dM; rw [← dL.out] at dM)); have bM := aM (Kd.R_lower dM (below_size xbg)); replace aC := xbb aC hb; replace HB := xbs hb; clear hb dM; obtain ⟨pF, pG, hA⟩ := Kd.R_slice bM.out; (first | subst hA | (injection hA with f1_ f2_ f3_; have f4_ := f1_.symm; have f5_ := f3_.symm; clear f1_ f2_ f3_; subst f4_; subst f5_)); refine hK.out _ _ (xe5 aC) (fun hHeld => ?_); clear hK K; refine nm_ (N := 22) ?_; refine oN 7 23 fun K hK => ?_
    refine d1_ Tryz.func72 (impl_putNums.calls rT.out (xC bM) ((Kd.R_reads' bM.out).2.1)) ?_; rintro hB rU ⟨bU, hb⟩; replace bM := xrb bM hb; have cE := aM (Kd.R_lower bU (below_size xbg)); replace aC := xbb aC hb; replace HB := xbs hb; (try clear hb bU); refine hK.out _ _ (xe5 aC) (fun hHeld => ?_); clear hK K; refine nm_ (N := 23) ?_; refine oN 10 26 fun K hK => ?_
    refine print_append_str_step (w0 := w) w.heap.size (by rfl) (.tmp 23) _ 22 9 5 rfl Tryz.underlying22 Tryz.underlying9 info5 hB bK aJ rfl rfl ?aO ?aB ?aS ?aL ?_; (case aB => exact xbg); (case aO => exact (Kd.own_of_R (xr cE))); (case aS => exact (below_size xbg)); (case aL => have := LMc14.out; omega); intro hC pH bU hb hg; have ho := Kd.R_of_own (h1 := fun _ => rfl) (ok := fun _ => True) bU (fun _ _ => trivial); clear bU; have hat := True.intro; rw [← fO.out] at ho
    change Kd.R (Kd.int .u8) 5 pH w.heap.size (fun _ => True) hC fF at ho
    replace aC := aM (blk_grown (g := bW) (o := .cells #[.int .i64 aD, .int .i64 aH, .int .i64 aK, .int .i64 aI, .string aJ] 48 (0, 0)) xblk hg (Kd.R_ne cE.out aC.out (by decide))); replace bM := aM (Kd.R_over' (xr bM) (Kd.R_typed (xr cE)) (by decide) hg); replace HB := aM (hb); have fP := aM (ho); clear cE ho hb hg hat; refine hK.out _ _ (xe5 aC) (fun hHeld => ?_); clear hK K; refine nm_ (N := 26) ?_; refine pV 11 2 ?_; refine pV 12 3 ?_; refine dn_ ?_; try go_wp2
    go_ret2
    exact ⟨_, xerr, by (with_reducible repeat (first | apply Kd.R_alloc | apply Kd.R_drewN | apply Kd.R_drew)); exact fP.out, xbg⟩
   replace H := eI_ H; obtain ⟨hE, hF, H⟩ | ⟨hD, hE, hF, H⟩ := H
   ·generalize hY : ([aD, aH, aK] : List Int) = dN at H; (try replace H := bS_ H); (try dsimp only at H); have dO := aM hY.symm; clear hY; replace H := oA_ H; obtain ⟨cG, rV, H⟩ := H; (try dsimp only at H); obtain ⟨rfl, rfl⟩ := i2_ H; have iI := xf5 (w := wc) aC; go_wp2_with (first | (refine li_ .i64 3 (N := 35) rfl [aD, aH, aK] ?_; intro qY sG dP hb; (first | rw [← dO.out] at dP | (simp only [Int.reduceToNat] at dP; rw [← dO.out] at dP)); have bX := aM (Kd.R_lower dP (below_size xbg)); replace aC := xbb aC hb; replace HB := xbs hb; clear hb dP; obtain ⟨pI, pJ, pK⟩ := Kd.R_slice bX.out; subst pK) | (refine gN_ 72 36 rfl rfl ?_; refine c1_ Tryz.func72 (impl_putNums.calls rV.out (xC bX) ((Kd.R_reads' bX.out).2.1)) ?_; rintro qZ sH ⟨bU, hb⟩; replace bX := xrb bX hb; have fQ := aM (Kd.R_lower bU (below_size xbg)); replace aC := xbb aC hb; replace HB := xbs hb; (try clear hb bU)))
    go_ret2
    exact ⟨_, xerr, by (with_reducible repeat (first | apply Kd.R_alloc | apply Kd.R_drewN | apply Kd.R_drew)); exact fQ.out, xbg⟩
   generalize hY : ([aD, aH] : List Int) = dQ at H; (try replace H := bS_ H); (try dsimp only at H); have dR := aM hY.symm; clear hY; replace H := oA_ H; obtain ⟨cH, rW, H⟩ := H; (try dsimp only at H); obtain ⟨rfl, rfl⟩ := i2_ H; have iU := xf5 (w := wc) aC; go_wp2_with (first | (refine li_ .i64 3 (N := 41) rfl [aD, aH] ?_; intro rA sI dS hb; (first | rw [← dR.out] at dS | (simp only [Int.reduceToNat] at dS; rw [← dR.out] at dS)); have bY := aM (Kd.R_lower dS (below_size xbg)); replace aC := xbb aC hb; replace HB := xbs hb; clear hb dS; obtain ⟨pL, pM, pN⟩ := Kd.R_slice bY.out; subst pN) | (refine gN_ 72 42 rfl rfl ?_; refine c1_ Tryz.func72 (impl_putNums.calls rW.out (xC bY) ((Kd.R_reads' bY.out).2.1)) ?_; rintro rB sJ ⟨bU, hb⟩; replace bY := xrb bY hb; have fR := aM (Kd.R_lower bU (below_size xbg)); replace aC := xbb aC hb; replace HB := xbs hb; (try clear hb bU)))
   go_ret2
   exact ⟨_, xerr, by (with_reducible repeat (first | apply Kd.R_alloc | apply Kd.R_drewN | apply Kd.R_drew)); exact fR.out, xbg⟩
def impl_RecPack.j0 : Nat → Int → Int → Int → Int → Int → Int → Int → Int → Int → ByteArray → Option (ByteArray × Bool)
 | 0, _, _, _, _, _, _, _, _, _, _ => none
 | k + 1, aV, dT, dU, cI, dV, dW, dX, dY, dZ, eA => if aV = 1 then ((impl_putNums.f k (([aV, dT, dU] : List Int))).bind fun cJ => (some (strOfNums cJ, true))) else (if aV = 2 then ((impl_CmdPack.f k dW dX dY dZ eA).bind fun eB => ((impl_putNums.f k (([aV, cI, dV] : List Int))).bind fun bL => (if bL.length + eB.1.length < 140737488355328 then (some (strOfNums (bL ++ eB.1), true)) else (none)))) else ((impl_putNums.f k (([aV, cI] : List Int))).bind fun cK => (some (strOfNums cK, true))))
def impl_RecPack.f (k : Nat) (aD : Int) (aH : Int) (aK : Int) (aI : Int) (aJ : Int) (bN : Int) (bO : Int) (bP : Int) (bQ : Int) (bR : ByteArray) : Option (ByteArray × Bool) := (impl_RecOk.f k aD aH aK aI aJ bN bO bP bQ bR).bind fun cC => (if cC = true then (impl_RecPack.j0 k aD aH aK aI aJ bN bO bP bQ bR) else (some ((⟨#[]⟩ : ByteArray), false)))
theorem impl_RecPack.calls {k : Nat} {aD aH aK aI aJ bN bO bP bQ : Int} {bR r1 : ByteArray} {r2 : Bool} {w : World} (h : impl_RecPack.f k aD aH aK aI aJ bN bO bP bQ bR = some (r1, r2)) :
 Calls Tryz.prog 40 #[.agg #[.int .i64 aD, .int .i64 aH, .int .i64 aK, .int .i64 aI, .int .i64 aJ, .int .i64 bN, .int .i64 bO, .int .i64 bP, .int .i64 bQ, .string bR]] w fun e w' => e = .returned (.tuple #[.string r1, .bool r2]) ∧ Below w.heap.size w w' := by
 have pO := Tryz.underlying52; have pD := Tryz.underlying48; have HB := aM (Below.refl w.heap.size w); have H := h; unfold impl_RecPack.f at H
 clear h
 replace H := oB H; obtain ⟨cC, fE, H⟩ := H; (try dsimp only at H); have A2 := aM fE
 clear fE
 have fK := aM H
 clear H
 go_enter Tryz.func40, Tryz.ntmps40
 go_upto_if 8 with (first | (refine bE_ (N := 1) rfl ?_; intro eC hg w4 aE hb; have pP := aM (xge hg); have pQ := aM (xge hg); replace HB := xbs hb; clear hb hg; have cT := xf10 (w := w4) aE) | (refine gN_ 50 7 rfl rfl ?_; refine c0_ Tryz.func50 (impl_RecOk.calls A2.out) ?_; intro w6 hb; replace aE := xbb aE hb; replace HB := xbs hb; (try clear hb)))
 (try simp only [Act.put, List.setIfInBounds_toArray, List.set_cons_zero, List.set_cons_succ])
 go_cut [] (fun wc => ∃ (kq : Nat), Aside0 (impl_RecPack.j0 kq aD aH aK aI aJ bN bO bP bQ bR = some (r1, r2)) ∧ Aside0 (kq ≤ k) ∧ Aside0 (wc.heap[eC]? = some (.cells #[.int .i64 aD, .int .i64 aH, .int .i64 aK, .int .i64 aI, .int .i64 aJ, .int .i64 bN, .int .i64 bO, .int .i64 bP, .int .i64 bQ, .string bR] 52 (0, 0))) ∧ Aside0 (Below w.heap.size w wc))
 case first =>
  have H := fK.out; clear fK; cases cC; rotate_left
  ·replace H := iT H; replace H := aM H; go_wp2; go_meet
   case rel => exact ⟨_, H, ⟨by first | omega | exact Nat.le_refl _⟩, ⟨xblk⟩, ⟨xbg⟩⟩
  replace H := iN H; obtain ⟨rfl, rfl⟩ := i2_ H; go_wp2; go_ret2
  exact ⟨xerr, xbg⟩
 case rest =>
  clear fK
  try clear cT cU cV cW cX fS fT fU fV fW cY cZ dA dB dC fX fY fZ gA gB
  obtain ⟨kq, HA, HJ2, aE, HB⟩ := hcut; cases kq with
  | zero => exact absurd HA.out (by simp [impl_RecPack.j0])
  | succ dD =>
   have H := HA.out; clear HA; simp only [impl_RecPack.j0] at H; replace H := eI_ H; obtain ⟨fL, fM, H⟩ | ⟨c8, fL, fM, H⟩ := H
   ·generalize hY : ([aD, aH, aK] : List Int) = eD at H; (try replace H := bS_ H); (try dsimp only at H); have eE := aM hY.symm; clear hY; replace H := oA_ H; obtain ⟨cJ, A9, H⟩ := H; (try dsimp only at H); obtain ⟨rfl, rfl⟩ := i2_ H; have eR := xf10 (w := wc) aE; go_wp2_with (first | (refine li_ .i64 3 (N := 19) rfl [aD, aH, aK] ?_; intro rC rS eF hb; (first | rw [← eE.out] at eF | (simp only [Int.reduceToNat] at eF; rw [← eE.out] at eF)); have bZ := aM (Kd.R_lower eF (below_size xbg)); replace aE := xbb aE hb; replace HB := xbs hb; clear hb eF; obtain ⟨pR, pS, pT⟩ := Kd.R_slice bZ.out; subst pT) | (refine gN_ 72 20 rfl rfl ?_; refine c1_ Tryz.func72 (impl_putNums.calls A9.out (xC bZ) ((Kd.R_reads' bZ.out).2.1)) ?_; rintro rD rX ⟨bU, hb⟩; replace bZ := xrb bZ hb; have gE := aM (Kd.R_lower bU (below_size xbg)); replace aE := xbb aE hb; replace HB := xbs hb; (try clear hb bU); have hcv15 := own_string (P := Tryz.prog) Tryz.underlying22 Tryz.underlying5 Tryz.underlying9 (Kd.own_of_R gE.out)))
    go_ret2
    exact ⟨xerr, xbg⟩
   replace H := eI_ H; obtain ⟨hJ, hL, H⟩ | ⟨hI, hJ, hL, H⟩ := H
   ·replace H := oA_ H; obtain ⟨⟨cA, hM⟩, rY, H⟩ := H; (try dsimp only at H); generalize hY : ([aD, aI, aJ] : List Int) = eG at H; (try replace H := bS_ H); (try dsimp only at H); have eH := aM hY.symm; clear hY; replace H := oA_ H; obtain ⟨bL, rZ, H⟩ := H; (try dsimp only at H); replace H := pN_ H; obtain ⟨jO, H⟩ := H; have LMc19 := aM jO; clear jO; generalize hY : bL ++ cA = hP at H; (try replace H := bS_ H); (try dsimp only at H); have gF := aM hY.symm; clear hY; obtain ⟨rfl, rfl⟩ := i2_ H; have jP := xf10 (w := wc) aE
    go_wp2_with (first | (refine gN_ 73 28 rfl rfl ?_; refine c1_ Tryz.func73 (impl_CmdPack.calls rY.out) ?_; rintro rE pH ⟨bU, hb⟩; have aT := aM (Kd.R_lower bU (below_size xbg)); replace aE := xbb aE hb; replace HB := xbs hb; (try clear hb bU); have kJ := xf10 (w := pH) aE) | (refine li_ .i64 3 (N := 38) rfl [aD, aI, aJ] ?_; intro rF sK eI hb; (first | rw [← eH.out] at eI | (simp only [Int.reduceToNat] at eI; rw [← eH.out] at eI)); replace aT := xrb aT hb; have bS := aM (Kd.R_lower eI (below_size xbg)); replace aE := xbb aE hb; replace HB := xbs hb; clear hb eI; obtain ⟨pU, pW, pX⟩ := Kd.R_slice bS.out; subst pX) | (refine gN_ 72 39 rfl rfl ?_; refine c1_ Tryz.func72 (impl_putNums.calls rZ.out (xC bS) ((Kd.R_reads' bS.out).2.1)) ?_; rintro hQ sL ⟨bU, hb⟩; replace bS := xrb bS hb; have cF := aM (Kd.R_lower (Kd.R_new' bU (Kd.R_lt (xr aT))) (below_size xbg)); replace aT := aM (Kd.R_elder' (xr aT) (Kd.R_base bU) hb); replace aE := xbb aE hb; replace HB := xbs hb; (try clear hb bU); obtain ⟨pY, pZ, qA⟩ := Kd.R_slice aT.out; subst qA) | ((with_reducible refine gate_builtin (b := .append) (xs := #[.tmp 39, .tmp 40]) rfl ?_); at_builtin; refine Kd.R_append_rows (Kd.int .u8) (w0 := w) w.heap.size rfl (.tmp 39) (.tmp 40) 22 5 (.int .u8 0) 1 rfl Tryz.underlying22 info5 rfl (by decide) (by omega) hQ bL cA _ _ _ (fun k_ => some k_ ≠ (.slice pY cA.length pZ : Value).ownBlock) (fun _ => False) rfl rfl ?aO ?aR (fun _ _ h => h) (fun _ h => h.elim) ?aF ?aB ?aS ?aL ?_; (case aR => repeat (first | exact (Kd.R_reads' aT.out).2.2 | (with_reducible refine Kd.C_alloc ?_ _) | (with_reducible refine Kd.C_drewN ?_ _) | (with_reducible refine Kd.C_drew ?_))); (case aB => exact xbg); (case aF => exact (fun k_ hk => Kd.fresh' (Kd.R_lt (xr aT)) k_ hk)); (case aO => exact (by (with_reducible repeat (first | apply Kd.R_alloc | apply Kd.R_drewN | apply Kd.R_drew)); exact Kd.R_mono cF.out (fun _ hk => hk.2))); (case aS => exact (below_size xbg)); (case aL => have := LMc19.out; omega); intro rG sM ho hb hg hat; rw [← gF.out] at ho; replace aE := aM (blk_grown (g := eC) (o := .cells #[.int .i64 aD, .int .i64 aH, .int .i64 aK, .int .i64 aI, .int .i64 aJ, .int .i64 bN, .int .i64 bO, .int .i64 bP, .int .i64 bQ, .string bR] 52 (0, 0)) xblk hg (Kd.R_ne cF.out aE.out (by decide))); replace aT := aM (Kd.R_after (ok := (fun _ => True)) (xr aT) hg hat); replace bS := aM (Kd.R_over' (xr bS) (Kd.R_typed (xr cF)) (by decide) hg); replace HB := aM (hb); have gG := aM (ho); clear cF; clear ho hb hg hat; have hcv29 := own_string (P := Tryz.prog) Tryz.underlying22 Tryz.underlying5 Tryz.underlying9 (Kd.own_of_R gG.out)))
    go_ret2
    exact ⟨xerr, xbg⟩
   generalize hY : ([aD, aI] : List Int) = eJ at H; (try replace H := bS_ H); (try dsimp only at H); have eK := aM hY.symm; clear hY; replace H := oA_ H; obtain ⟨cK, sA, H⟩ := H; (try dsimp only at H); obtain ⟨rfl, rfl⟩ := i2_ H; have lE := xf10 (w := wc) aE; go_wp2_with (first | (refine li_ .i64 3 (N := 47) rfl [aD, aI] ?_; intro rH sN eL hb; (first | rw [← eK.out] at eL | (simp only [Int.reduceToNat] at eL; rw [← eK.out] at eL)); have cB := aM (Kd.R_lower eL (below_size xbg)); replace aE := xbb aE hb; replace HB := xbs hb; clear hb eL; obtain ⟨qB, qC, qD⟩ := Kd.R_slice cB.out; subst qD) | (refine gN_ 72 48 rfl rfl ?_; refine c1_ Tryz.func72 (impl_putNums.calls sA.out (xC cB) ((Kd.R_reads' cB.out).2.1)) ?_; rintro rI sO ⟨bU, hb⟩; replace cB := xrb cB hb; have gH := aM (Kd.R_lower bU (below_size xbg)); replace aE := xbb aE hb; replace HB := xbs hb; (try clear hb bU); have hcv36 := own_string (P := Tryz.prog) Tryz.underlying22 Tryz.underlying5 Tryz.underlying9 (Kd.own_of_R gH.out)))
   go_ret2
   exact ⟨xerr, xbg⟩
def impl_packedRecs.l0 : Nat → List ByteArray → List (S52) → Int → Int → Option (List ByteArray × Bool)
 | 0, _, _, _, _ => none
 | k + 1, x4, dH, rJ, dF => if dF < rJ then (if 0 ≤ dF then (if dF < (dH.length : Int) then ((impl_RecPack.f k ((rd_T52 dH dF).f0) ((rd_T52 dH dF).f1) ((rd_T52 dH dF).f2) ((rd_T52 dH dF).f3) ((rd_T52 dH dF).f4.f0) ((rd_T52 dH dF).f4.f1.f0) ((rd_T52 dH dF).f4.f1.f1) ((rd_T52 dH dF).f4.f1.f2) ((rd_T52 dH dF).f4.f1.f3) ((rd_T52 dH dF).f4.f1.f4)).bind fun eM => (if eM.2 = true then (if x4.length < 8796093022208 then (impl_packedRecs.l0 k (x4 ++ [eM.1]) dH rJ (wrap64 (dF + 1))) else (none)) else (some (([] : List ByteArray), false)))) else (none)) else (none)) else (some (x4, true))
def impl_packedRecs.f (k : Nat) (l0 : List (S52)) : Option (List ByteArray × Bool) := impl_packedRecs.l0 k (([] : List ByteArray)) l0 (l0.length : Int) 0
theorem impl_packedRecs.calls {k : Nat} {A0 : Option Addr} {c0 : Nat} {l0 : List (S52)} {r1 : List ByteArray} {r2 : Bool} {w : World} (h : impl_packedRecs.f k l0 = some (r1, r2)) (rK : Kd.C k52 w A0 l0.length l0) (rL : l0.length ≤ c0) :
 Calls Tryz.prog 19 #[.slice A0 l0.length c0] w fun e w' => ∃ v0_ : Value, e = .returned (.tuple #[v0_, .bool r2]) ∧ Kd.R Kd.string 9 w' w.heap.size (fun _ => True) v0_ r1 ∧ Below w.heap.size w w' := by
 have pO := Tryz.underlying52; have rM := aM rK; have sP := aM rL
 clear rK rL
 have HB := aM (Below.refl w.heap.size w); have H := h; unfold impl_packedRecs.f at H
 clear h
 obtain ⟨fG, hY⟩ : ∃ y_ : List ByteArray, y_ = (([] : List ByteArray)) := ⟨_, rfl⟩; replace H : (impl_packedRecs.l0 k fG l0 (l0.length : Int) 0) = some (r1, r2) := u21_0; have eN := aM hY
 clear hY
 replace H := aM H
 go_enter Tryz.func19, Tryz.ntmps19
 go_wp2_with (first | ((with_reducible refine gD 9 rfl ?_); refine Kd.R_lit Kd.string _ 9 ?hg (N := 9) ?hd (xs := ([] : List ByteArray)) (inner := []) (ok := fun _ => True) (okp := fun _ => True) ?hr ?hp (fun _ hk => hk) trivial (Below.refl _ _) (Nat.le_refl _) (by simp) ?_; (case hd => rfl); (case hg => rfl); (case hr => exact u21_1); (case hp => exact (Reps.none _ _)); intro rN w2 hS hb hg_ hnew_; clear hg_ hnew_; (first | rw [← eN.out] at hS | (simp only [Int.reduceToNat] at hS; rw [← eN.out] at hS)); have gI := aM (Kd.R_lower hS (below_size xbel)); replace HB := xbs hb; clear hb hS))
 go_loopg [4, 12] k (fun kq v4 v12 w' => ∃ (cL : List ByteArray) (aA : Int), v12 = .int .i64 aA ∧ Aside0 (impl_packedRecs.l0 kq cL l0 (l0.length : Int) aA = some (r1, r2)) ∧ Aside0 (kq ≤ k) ∧ Aside0 (Kd.R Kd.string 9 w' w.heap.size (fun _ => True) v4 cL) ∧ Aside0 (Below w.heap.size w w'))
 case atStart => exact ⟨_, _, u21_2, H, ⟨Nat.le_refl _⟩, ⟨by (with_reducible repeat (first | apply Kd.R_alloc | apply Kd.R_drewN | apply Kd.R_drew)); exact gI.out⟩, ⟨xbel⟩⟩
 case round =>
  clear H
  obtain ⟨cL, aA, rfl, HA, HK1, bI, HB⟩ := hrel; cases gk with
  | zero => exact absurd HA.out (by simp [impl_packedRecs.l0])
  | succ k1 =>
   have H := HA.out; clear HA; simp only [impl_packedRecs.l0] at H; replace H := dI_ H; obtain ⟨gJ, H⟩ | ⟨gJ, H⟩ := H
   ·replace H := dN_ H; obtain ⟨qE, H⟩ := H; replace H := dN_ H; obtain ⟨qF, H⟩ := H; replace H := oA_ H; obtain ⟨⟨cM, hT⟩, A7, H⟩ := H; (try dsimp only at H)
    cases hT; rotate_left
    ·replace H := iT H; replace H := pN_ H; obtain ⟨c9, H⟩ := H; have LMc9 := aM c9; clear c9; generalize hY : cL ++ [cM] = fH at H; (try replace H := bS_ H); (try dsimp only at H); have gK := aM hY.symm; clear hY; replace H := aM H; have p1054 : 0 ≤ (aA : Int) := oda; have q1054 : aA < (l0.length : Int) := oda; obtain ⟨gL, eO, aW, aX, aY, aZ, bA, bB, bC, bE, bG, bH⟩ := at_T52 rM.out aA p1054 q1054; cases eO
     replace aW := xce HB aW; replace aX := xce HB aX; replace aY := xce HB aY; replace aZ := xce HB aZ; replace bA := xce HB bA; replace bB := xce HB bB; replace bC := xce HB bC; replace bE := xce HB bE; replace bG := xce HB bG; replace bH := xce HB bH; replace p1054 := eq_true p1054; replace q1054 := eq_true q1054
     go_wp2_with (first | (refine bE_ (N := 6) rfl ?_; intro aG hg rP aN hb; replace bI := xrb bI hb; have gM := aM (xge hg); have gN := aM (xge hg); replace HB := xbs hb; clear hb hg; have lY := xf10 (w := rP) aN) | (refine sE_ 52 6 ?_; intro qG hw; replace bI : Aside0 (Kd.R Kd.string 9 qG w.heap.size (fun _ => True) u4 cL) := xwm hw bI (fun _ _ => trivial); replace aN : Aside0 (qG.heap[aG]? = some (.cells #[.int .i64 ((rd_T52 l0 aA).f0), .int .i64 ((rd_T52 l0 aA).f1), .int .i64 ((rd_T52 l0 aA).f2), .int .i64 ((rd_T52 l0 aA).f3), .int .i64 ((rd_T52 l0 aA).f4.f0), .int .i64 ((rd_T52 l0 aA).f4.f1.f0), .int .i64 ((rd_T52 l0 aA).f4.f1.f1), .int .i64 ((rd_T52 l0 aA).f4.f1.f2), .int .i64 ((rd_T52 l0 aA).f4.f1.f3), .string ((rd_T52 l0 aA).f4.f1.f4)] 52 (0, 0))) := xwp hw; replace HB := xbw hw HB; clear hw; have mS := xf10 (w := qG) aN) | (refine gN_ 40 18 rfl rfl ?_; refine c0_ Tryz.func40 (impl_RecPack.calls A7.out) ?_; intro rX hb; replace bI := xrb bI hb; replace aN := xbb aN hb; replace HB := xbs hb; (try clear hb)) | ((with_reducible refine gate_builtin (b := .append) (xs := #[.tmp 23, .tmp 25]) rfl ?_); at_builtin; refine Kd.R_append Kd.string (w0 := w) w.heap.size rfl (.tmp 23) (.tmp 25) 55 9 (.string ⟨#[]⟩) 16 rfl Tryz.underlying55 info9 rfl (by decide) (by omega) u4 cL cM [.string cM] (fun _ => True) (fun _ => False) rfl rfl ?aP (fun _ hk => hk.elim) ?aF ?aO ?aB ?aS ?aL ?_; (case aP => exact rfl); (case aB => exact xbg); (case aF => exact (fun _ _ => trivial)); (case aO => exact (xr bI)); (case aS => exact (below_size xbg)); (case aL => have := LMc9.out; omega); intro rQ sQ ho hb hg hat; rw [← gK.out] at ho; replace aN := aM (blk_grown (g := aG) (o := .cells #[.int .i64 ((rd_T52 l0 aA).f0), .int .i64 ((rd_T52 l0 aA).f1), .int .i64 ((rd_T52 l0 aA).f2), .int .i64 ((rd_T52 l0 aA).f3), .int .i64 ((rd_T52 l0 aA).f4.f0), .int .i64 ((rd_T52 l0 aA).f4.f1.f0), .int .i64 ((rd_T52 l0 aA).f4.f1.f1), .int .i64 ((rd_T52 l0 aA).f4.f1.f2), .int .i64 ((rd_T52 l0 aA).f4.f1.f3), .string ((rd_T52 l0 aA).f4.f1.f4)] 52 (0, 0)) xblk hg (Kd.R_ne bI.out aN.out (by decide))); replace HB := aM (hb); have gO := aM (ho); clear bI; clear ho hb hg hat))
     go_roundg k1
     case measure => have := HK1.out; omega
     case rel => exact ⟨_, _, u21_2, H, ⟨by have := HK1.out; omega⟩, ⟨by (with_reducible repeat (first | apply Kd.R_alloc | apply Kd.R_drewN | apply Kd.R_drew)); exact gO.out⟩, ⟨xbg⟩⟩
    replace H := iN H; obtain ⟨rfl, rfl⟩ := i2_ H; have p1054 : 0 ≤ (aA : Int) := oda; have q1054 : aA < (l0.length : Int) := oda; obtain ⟨gL, eO, aW, aX, aY, aZ, bA, bB, bC, bE, bG, bH⟩ := at_T52 rM.out aA p1054 q1054; cases eO
    replace aW := xce HB aW; replace aX := xce HB aX; replace aY := xce HB aY; replace aZ := xce HB aZ; replace bA := xce HB bA; replace bB := xce HB bB; replace bC := xce HB bC; replace bE := xce HB bE; replace bG := xce HB bG; replace bH := xce HB bH; replace p1054 := eq_true p1054; replace q1054 := eq_true q1054; go_wp2_with (first | (refine bE_ (N := 6) rfl ?_; intro aG hg pE aN hb; replace bI := xrb bI hb; have gM := aM (xge hg); have gN := aM (xge hg); replace HB := xbs hb; clear hb hg; have nM := xf10 (w := pE) aN) | (refine sE_ 52 6 ?_; intro qH hw; replace bI : Aside0 (Kd.R Kd.string 9 qH w.heap.size (fun _ => True) u4 cL) := xwm hw bI (fun _ _ => trivial); replace aN : Aside0 (qH.heap[aG]? = some (.cells #[.int .i64 ((rd_T52 l0 aA).f0), .int .i64 ((rd_T52 l0 aA).f1), .int .i64 ((rd_T52 l0 aA).f2), .int .i64 ((rd_T52 l0 aA).f3), .int .i64 ((rd_T52 l0 aA).f4.f0), .int .i64 ((rd_T52 l0 aA).f4.f1.f0), .int .i64 ((rd_T52 l0 aA).f4.f1.f1), .int .i64 ((rd_T52 l0 aA).f4.f1.f2), .int .i64 ((rd_T52 l0 aA).f4.f1.f3), .string ((rd_T52 l0 aA).f4.f1.f4)] 52 (0, 0))) := xwp hw; replace HB := xbw hw HB; clear hw; have oH := xf10 (w := qH) aN) | (refine gN_ 40 18 rfl rfl ?_; refine c0_ Tryz.func40 (impl_RecPack.calls A7.out) ?_; intro rU hb; replace bI := xrb bI hb; replace aN := xbb aN hb; replace HB := xbs hb; (try clear hb)))
    go_ret2
    exact ⟨_, xerr, u21_3, xbg⟩
   obtain ⟨rfl, rfl⟩ := i2_ H; go_wp2; go_ret2
   exact ⟨_, xerr, by (with_reducible repeat (first | apply Kd.R_alloc | apply Kd.R_drewN | apply Kd.R_drew)); exact bI.out, xbel⟩
def impl_isFile.f (a0 : Int) : Option (Bool) := (impl_within.f a0 0 7).bind fun cN => (some cN)
theorem impl_isFile.calls {a0 : Int} {r : Bool} {w : World} (h : impl_isFile.f a0 = some r) :
 Calls Tryz.prog 52 #[.int .i64 a0] w fun e w' => e = .returned (.bool r) ∧ Drawn0 w w' := by
 have H := h; unfold impl_isFile.f at H
 clear h
 replace H := oB H; obtain ⟨cN, fE, H⟩ := H; (try dsimp only at H); have A2 := aM fE
 clear fE
 obtain rfl := Option.some.inj H
 go_enter Tryz.func52, Tryz.ntmps52
 go_wp2_with (first | (refine gN_ 53 4 rfl rfl ?_; refine c0_ Tryz.func53 (impl_within.calls A2.out) ?_; rintro w' ⟨nd, rfl⟩))
 go_ret
 exact ⟨u21_2, by repeat (first | exact Drawn0.refl _ | apply Drawn0.step)⟩
def impl_sizeOf.l0 : Nat → Int → List (S66) → Int → Int → Option (Int)
 | 0, _, _, _, _ => none
 | k + 1, x3, x7, x8, x9 => if x9 < x8 then (if 0 ≤ x9 then (if x9 < (x7.length : Int) then (impl_sizeOf.l0 k (wrap64 (x3 + (wrap64 ((((rd_T66 x7 x9).f1).size : Int) + (((rd_T66 x7 x9).f2).size : Int))))) x7 x8 (wrap64 (x9 + 1))) else (none)) else (none)) else (some x3)
def impl_sizeOf.f (k : Nat) (aD : Int) (aQ : List (S66)) : Option (Int) := impl_sizeOf.l0 k 0 aQ (aQ.length : Int) 0
theorem impl_sizeOf.calls {k : Nat} {aD : Int} {fB : Option Addr} {fC : Nat} {aQ : List (S66)} {r : Int} {w : World} (h : impl_sizeOf.f k aD aQ = some r) (fI : Kd.C k66 w fB aQ.length aQ) (fJ : aQ.length ≤ fC) :
 Calls Tryz.prog 54 #[.agg #[.int .i64 aD, .slice fB aQ.length fC]] w fun e w' => e = .returned (.int .i64 r) ∧ Below w.heap.size w w' := by
 have sB := Tryz.underlying26; have sC := Tryz.underlying66; have hU := aM fI; have rR := aM fJ
 clear fI fJ
 have HB := aM (Below.refl w.heap.size w); have H := h; unfold impl_sizeOf.f at H
 clear h
 replace H := aM H
 go_enter Tryz.func54, Tryz.ntmps54
 go_wp2_with (first | (refine bE_ (N := 1) rfl ?_; intro gP hg w2 bV hb; have qI := aM (xge hg); have qJ := aM (xge hg); replace HB := xbs hb; clear hb hg; have gQ := xf2 (w := w2) bV))
 go_loopg [3, 9] k (fun kq v3 v9 w' => ∃ (fD : Int) (bJ : Int), v3 = .int .i64 fD ∧ v9 = .int .i64 bJ ∧ Aside0 (impl_sizeOf.l0 kq fD aQ (aQ.length : Int) bJ = some r) ∧ Aside0 (kq ≤ k) ∧ Aside0 (w'.heap[gP]? = some (.cells #[.int .i64 aD, (.slice fB aQ.length fC)] 26 (0, 0))) ∧ Aside0 (Below w.heap.size w w'))
 case atStart => exact ⟨_, _, u21_2, u21_2, H, ⟨Nat.le_refl _⟩, ⟨xblk⟩, ⟨xbg⟩⟩
 case round =>
  clear H
  try clear gQ gR gS gT
  obtain ⟨fD, bJ, rfl, rfl, HA, HK1, bV, HB⟩ := hrel; cases gk with
  | zero => exact absurd HA.out (by simp [impl_sizeOf.l0])
  | succ k1 =>
   have H := HA.out; clear HA; simp only [impl_sizeOf.l0] at H; replace H := dI_ H; obtain ⟨gJ, H⟩ | ⟨gJ, H⟩ := H
   ·replace H := dN_ H; obtain ⟨qE, H⟩ := H; replace H := dN_ H; obtain ⟨qF, H⟩ := H; replace H := aM H; have p1063 : 0 ≤ (bJ : Int) := oda; have q1063 : bJ < (aQ.length : Int) := oda; obtain ⟨qK, hV, cO, cP, cQ⟩ := at_T66 hU.out bJ p1063 q1063; cases hV
    replace cO := xce HB cO; replace cP := xce HB cP; replace cQ := xce HB cQ; replace p1063 := eq_true p1063; replace q1063 := eq_true q1063; go_wp2_with (first | (refine bE_ (N := 5) rfl ?_; intro qL hg w7 gU hb; have qM := aM (xge hg); have qN := aM (xge hg); replace HB := xbs hb; have cR := nblt bV hg; have cS := nbgt bV hg; replace bV := xbb bV hb; clear hb hg; have sD := a2_ cS cR; have qO := xf3 (w := w7) gU))
    go_roundg k1
    case measure => have := HK1.out; omega
    case rel => exact ⟨_, _, u21_2, u21_2, H, ⟨by have := HK1.out; omega⟩, ⟨xB⟩, ⟨xbg⟩⟩
   obtain rfl := Option.some.inj H; go_wp2; go_ret
   exact ⟨xerr, xbg⟩
end Go.Proofs.YtppfnnpfamkclaaGreat.QFnSaved
