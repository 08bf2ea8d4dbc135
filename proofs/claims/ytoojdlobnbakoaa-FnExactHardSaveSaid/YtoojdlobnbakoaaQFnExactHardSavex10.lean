-- A walk, by a program of this session.
import Derived.Test.YtoojdlobnbakoaaQFnExactHardSavex0
import Derived.Test.YtoojdlobnbakoaaQFnExactHardSavex8
import Derived.Test.YtoojdlobnbakoaaQFnExactHardSavex9
namespace Go.Proofs.Ytoojdlobnbakoaa.QFnExactHardSave
open Go.RowKit Go.Proofs.YtoojdlobnbakoaaW.PrintWords Go.Proofs.YtoojdlobnbakoaaW.PrintLast Go.Proofs.YtoojdlobnbakoaaW.PrintMore
attribute [local go_sem] max2_int min2_int max_two min_two max_three min_three max_four min_four   -- for this text's walks alone
set_option linter.unusedVariables false
set_option linter.unusedSimpArgs false

theorem u10_0 {p : Prop} (h : p := by first | rfl | (simp; done) | (simp [*]; done)) : p := h
theorem u10_1 {p : Prop} (h : p := by first | omega | exact Nat.le_refl _) : p := h
theorem u10_2 {p : Prop} (h : p := by first | (go_simp; done) | (go_simp; rfl)) : p := h
theorem u10_3 {p : Prop} (h : p := by first | exact Kd.R_nil _ _ _ _ _ | exact Kd.N_nil _ _ _ _ _ | exact Kd.V_nil _ _ _ _ _ | exact Kd.Q_nil _ _ _ _ _ | exact Kd.S_nil _ _ _ _ _) : p := h
theorem u10_4 {p : Prop} (h : p := by repeat (first | exact Drawn0.refl _ | apply Drawn0.step)) : p := h
theorem u10_5 {p : Prop} (h : p := by (with_reducible repeat (first | apply Kd.V_alloc | apply Kd.V_drewN | apply Kd.V_drew)); exact bQ.out) : p := h
/-! ### impl_DiskAppend: function 79 -/
theorem impl_DiskAppend.e95 {W : World} {base : Nat} {ok : Nat → Prop} {g n cap : Nat} {xs : List S95} (h : Kd.R k95 95 W base ok (.slice (some ⟨g, 0, none⟩) n cap) xs) (i : Int) (p : 0 ≤ i) (q : i < n) : W.cell? ⟨g, i.toNat * 3, none⟩ = some (.int .i64 ((rd_T95 xs i).f0)) ∧ W.cell? ⟨g, i.toNat * 3 + 1, none⟩ = some (.string ((rd_T95 xs i).f1)) ∧ W.cell? ⟨g, i.toNat * 3 + 2, none⟩ = some (.string ((rd_T95 xs i).f2)) ∧ W.frozen? ⟨g, i.toNat * 3, none⟩ = false ∧ W.frozen? ⟨g, i.toNat * 3 + 1, none⟩ = false ∧ W.frozen? ⟨g, i.toNat * 3 + 2, none⟩ = false := by
  obtain ⟨c, hcl, hM, hcc, hfr⟩ := Kd.R_elem h z95 i p q; obtain rfl := k95_openM hM; exact ⟨hcc 0 _ rfl, hcc 1 _ rfl, hcc 2 _ rfl, hfr 0, hfr 1, hfr 2⟩
def impl_DiskAppend.j0 : Nat → Int → ByteArray → Bool → Int → List (S95) → Option (Int × (List (S95)) × Int)
 | 0, _, _, _, _, _ => none
 | k + 1, x1, x2, vN, bY, bZ => if vN = true then (some (0, ([] : List (S95)), 1)) else ((impl_sizeOf.f k bY bZ).bind fun dH => (if (wrap64 (dH + (x2.size : Int))) > bY then ((impl_copyDisk.f bY bZ).bind fun iX => (some (iX.1, iX.2, 3))) else ((impl_fileAt.f bY bZ x1).bind fun aP => (if aP < 0 then ((impl_placed.f bY bZ x1 (⟨#[]⟩ : ByteArray) x2).bind fun iY => (some (iY.1, iY.2, 0))) else ((impl_copyDisk.f bY bZ).bind fun cT => (if 0 ≤ aP then (if aP < (cT.2.length : Int) then (if ((rd_T95 cT.2 aP).f2).size + x2.size ≤ 9223372036854775807 then (some (cT.1, (cT.2.set (aP : Int).toNat (⟨(rd_T95 cT.2 aP).f0, (rd_T95 cT.2 aP).f1, ((rd_T95 cT.2 aP).f2) ++ x2⟩ : S95)), 0)) else (none)) else (none)) else (none)))))))
def impl_DiskAppend.f (k : Nat) (aC : Int) (aA : List (S95)) (a1 : Int) (a2 : ByteArray) : Option (Int × (List (S95)) × Int) := (impl_DiskOk.f k aC aA).bind fun fN => (if fN = true then ((impl_isFile.f a1).bind fun eW => (impl_DiskAppend.j0 k a1 a2 (!eW) aC aA)) else (impl_DiskAppend.j0 k a1 a2 true aC aA))
theorem u10_mq0 {p : Prop} (h : p := by repeat' first | (with_reducible first | exact fO _ _ _ _ _ | exact impl_DiskOk.mono _ _ _ | exact impl_sizeOf.mono _ _ _ | exact LeO.refl _ | exact LeO.none _ | refine LeO.ite ?_ ?_ | refine LeO.bind ?_ (fun _ => ?_)) | exact fO _ _ _ _ _ | exact impl_DiskOk.mono _ _ _ | exact impl_sizeOf.mono _ _ _ | exact LeO.none _ | refine LeO.ite ?_ ?_ | refine LeO.bind ?_ (fun _ => ?_)) : p := h
set_option maxRecDepth 100000 in
theorem impl_DiskAppend.mono_l : ∀ k, (∀ y0 y1 y2 y3 y4, LeO (impl_DiskAppend.j0 k y0 y1 y2 y3 y4) (impl_DiskAppend.j0 (k + 1) y0 y1 y2 y3 y4))
 | 0 => fun _ _ _ _ _ r h => by simp [impl_DiskAppend.j0] at h
 | k + 1 => by
  have fO := impl_DiskAppend.mono_l k
  ·intro y0 y1 y2 y3 y4; unfold impl_DiskAppend.j0; exact u10_mq0
theorem impl_DiskAppend.mono : ∀ a0 a1 a2 a3 k, LeO (impl_DiskAppend.f k a0 a1 a2 a3) (impl_DiskAppend.f (k + 1) a0 a1 a2 a3) := by
 intro a0 a1 a2 a3 k
 have fO := impl_DiskAppend.mono_l k
 unfold impl_DiskAppend.f
 exact u10_mq0
def impl_DiskAppend.T3 : Bool × List (List Nat × List Nat) := (true, [([], []), ([0], [0]), ([], []), ([2], [2]), ([1, 3], [1, 3]), ([], []), ([5], [5]), ([4, 6], [4, 6])])
def impl_DiskAppend.B3 : List Nat := [0, 1, 0, 4, 15, 0, 32, 127]
theorem impl_DiskAppend.tab3 : rtab .any (opsOf Try.f79 3) = impl_DiskAppend.T3 := by kernel_rfl
theorem impl_DiskAppend.bits3 : waitsOk impl_DiskAppend.T3.2 impl_DiskAppend.B3 = true := by kernel_rfl
set_option maxHeartbeats 8000000 in
set_option maxRecDepth 100000 in
theorem impl_DiskAppend.calls (k : Nat) (aC : Int) (aK : Option Addr) (aJ : Nat) (aA : List (S95)) (a1 : Int) (a2 : ByteArray) (r1 : Int) (r2 : List (S95)) (r3 : Int) (w : World) (bV : Kd.C k95 w aK aA.length aA) (bW : aA.length ≤ aJ) (h : impl_DiskAppend.f k aC aA a1 a2 = some (r1, r2, r3)) :
 Calls Try.prog 79 #[.agg #[.int .i64 aC, .slice aK aA.length aJ], .int .i64 a1, .string a2] w fun e w' => ∃ v1_ : Value, e = .returned (.tuple #[.agg #[.int .i64 r1, v1_], .int .i64 r3]) ∧ Kd.R k95 95 w' w.heap.size (fun _ => True) v1_ r2 ∧ Below w.heap.size w w' := by
 have jJ := Try.underlying26
 have qQ := Try.underlying95
 have aU := aM bV
 have aV := aM bW
 clear bV bW
 have HB := aM (Below.refl w.heap.size w)
 have H : ((impl_DiskOk.f k aC aA).bind fun fN => (if fN = true then ((impl_isFile.f a1).bind fun eW => (impl_DiskAppend.j0 k a1 a2 (!eW) aC aA)) else (impl_DiskAppend.j0 k a1 a2 true aC aA))) = some (r1, r2, r3) := h
 clear h
 have jK := aM H
 clear H
 go_enter Try.func79, Try.ntmps79
 go_upto_region 1 with (first | ((with_reducible refine gD 3 rfl ?_); refine boxE (N := 3) rfl (cs := #[.int .i64 aC, .slice aK aA.length aJ]) (t := 26) ?_; intro iZ hg w5 hbox hb; have aD := aM (hbox); have sL := aM (xge hg); have sM := aM (xge hg); replace HB := xbs hb; clear hb hbox hg) | ((with_reducible refine gD 6 rfl ?_); refine boxE (N := 6) rfl (cs := #[.int .i64 0, .slice none 0 0]) (t := 26) ?_; intro cY hg w6 hbox hb; have sN := aM (xge hg); have sO := aM (xge hg); replace HB := xbs hb; have bC := nblt aD hg; have bE := nbgt aD hg; replace aD := xbb aD hb; have aE := aM (hbox); clear hb hbox hg))
 (try simp only [Act.put, List.setIfInBounds_toArray, List.set_cons_zero, List.set_cons_succ])
 go_cut [17] (fun vO wc => ∃ (kq : Nat) (dY : Bool), vO = .bool dY ∧ Aside0 (impl_DiskAppend.j0 kq a1 a2 dY aC aA = some (r1, r2, r3)) ∧ Aside0 (kq ≤ k) ∧ Aside0 (wc.heap[iZ]? = some (.cells #[.int .i64 aC, (.slice aK aA.length aJ)] 26 (0, 0))) ∧ Aside0 (wc.heap[cY]? = some (.cells #[.int .i64 0, (.slice none 0 0)] 26 (0, 0))) ∧ Aside0 (Below w.heap.size w wc))
 case first =>
  have H := jK.out; clear jK; replace H := oB H; obtain ⟨fN, kK, H⟩ := H; (try dsimp only at H); have A7 := aM kK; clear kK
  by_cases c8 : fN = true
  ·subst c8; replace H := iT H; replace H := oB H; obtain ⟨eW, kL, H⟩ := H; (try dsimp only at H); have A9 := aM kL; clear kL
   have H' := aM H; clear H; have sP := bC.out; have sQ := bE.out; obtain ⟨gJ, gK, gL, gM⟩ := xf2 (w := w6) aD; go_wp2_with (first | ((with_reducible refine gC 72 rfl ?_); refine goesLY (some 11) rfl Try.func72 #[.agg #[.int .i64 aC, .slice aK aA.length aJ]] ?_; (with_reducible refine (impl_DiskOk.calls k aC _ _ aA true _ ?side1 ?side2 A7.out).mono ?_); (case side1 => exact xcb aU); (case side2 => exact aV.out); rintro e sR ⟨rfl, hb⟩; refine ⟨_, rfl, ?_⟩; replace aD := xbb aD hb; replace aE := xbb aE hb; replace HB := xbs hb; (try clear hb)) | (go_at_call 77; (with_reducible refine (impl_isFile.calls a1 eW _ A9.out).mono ?_); rintro e w' ⟨rfl, ⟨nd, rfl⟩⟩))
   go_meet
   case rel => exact ⟨_, (!eW), u10_0, H', ⟨u10_1⟩, ⟨xblk⟩, ⟨xblk⟩, ⟨xbg⟩⟩
  ·replace c8 := Bool.eq_false_iff.mpr c8; subst c8; replace H := iN H; have H' := aM H; clear H; have kM := bC.out; have kN := bE.out; obtain ⟨gN, gO, gP, gQ⟩ := xf2 (w := w6) aD; go_wp2_with (first | ((with_reducible refine gC 72 rfl ?_); refine goesLY (some 11) rfl Try.func72 #[.agg #[.int .i64 aC, .slice aK aA.length aJ]] ?_; (with_reducible refine (impl_DiskOk.calls k aC _ _ aA false _ ?side1 ?side2 A7.out).mono ?_); (case side1 => exact xcb aU); (case side2 => exact aV.out); rintro e wQ ⟨rfl, hb⟩; refine ⟨_, rfl, ?_⟩; replace aD := xbb aD hb; replace aE := xbb aE hb; replace HB := xbs hb; (try clear hb)))
   go_meet
   case rel => exact ⟨_, (true), u10_0, H', ⟨u10_1⟩, ⟨xblk⟩, ⟨xblk⟩, ⟨xbg⟩⟩
 case rest =>
  clear jK; try clear c1
  try clear p2
  try clear c7
  try clear c8
  try clear c10
  try clear wR
  try clear gJ gK
  try clear gN gO
  try clear gL gM
  try clear gP gQ
  obtain ⟨kq, dY, rfl, HA, HJ3, aD, aE, HB⟩ := hcut; cases kq with
  | zero => exact absurd HA.out (by simp [impl_DiskAppend.j0])
  | succ jL =>
   have H := HA.out; clear HA; simp only [impl_DiskAppend.j0] at H; by_cases nA : dY = true
   ·subst nA; replace H := iT H; simp only [Option.some.injEq, Prod.mk.injEq] at H; obtain ⟨rfl, rfl, rfl⟩ := H; have kO := bE.out; have kP := bC.out; obtain ⟨cN, cO, cP, cQ⟩ := xf2 (w := wc) aE; go_wp2; refine bodyPost_ret (results_ct rfl _ _ cY 26 #[.int .i64 0, .slice none 0 0] (0, 0) _ rfl xP Try.underlying26 rfl (by kernel_rfl)) rfl ?_; exact ⟨_, xerr, u10_3, xbg⟩
   ·replace nA := Bool.eq_false_iff.mpr nA; subst nA; replace H := iN H; replace H := oB H; obtain ⟨dH, fP, H⟩ := H; (try dsimp only at H); have kG := aM fP; clear fP
    by_cases dC : (wrap64 (dH + (a2.size : Int))) > aC
    ·rw [if_pos dC] at H; have fQ : decide (aC < (wrap64 (dH + (a2.size : Int)))) = true := decide_eq_true dC; clear dC; replace H := oB H; obtain ⟨⟨kQ, kR⟩, kS, H⟩ := H; (try dsimp only at H); have vP := aM kS; clear kS
     simp only [Option.some.injEq, Prod.mk.injEq] at H; obtain ⟨rfl, rfl, rfl⟩ := H; try go_wp2
     replace aD := bD aD; replace aE := bD aE; replace HB := lD HB; refine sb2 8 impl_DiskAppend.tab3 impl_DiskAppend.bits3 aD (fun hHeld HT_ HW_ => ?_); generalize wc.drew = wS at aD aE HB hHeld ⊢; refine pv_ 2 21 (h := ?_); refine pv_ 3 22 (h := ?_); refine pv_ 5 24 (h := ?_); refine tk_ 0 19 (h := ?_); refine tk_ 6 25 (h := ?_); refine on_ 1 20 (h := fun K hK => ?_); refine goesY Try.func73 #[.agg #[.int .i64 aC, .slice aK aA.length aJ]] ?_; with_reducible refine (impl_sizeOf.calls jL aC _ _ aA dH _ ?side1 ?side2 kG.out).mono ?_
     (case side1 => exact xcb aU); (case side2 => exact aV.out); rintro e qR ⟨rfl, hb⟩; refine ⟨_, rfl, ?_⟩; replace aD := xbb aD hb; replace aE := xbb aE hb; replace HB := xbs hb; (try clear hb); refine hK.out _ _ ⟨xc aD 0 rfl, xc aD 1 rfl⟩ (fun hHeld => ?_); clear hK K; refine nm_ (N := 20) ?_; refine pv_ 4 23 (h := ?_); refine pv_ 7 26 (h := ?_); refine dn_ ?_; have sS := bC.out; have sU := bE.out; obtain ⟨nB, nC, nD, nE⟩ := xf2 (w := qR) aD; try go_wp2_with (first | ((with_reducible refine gC 80 rfl ?_); refine goesLY (some 28) rfl Try.func80 #[.agg #[.int .i64 aC, .slice aK aA.length aJ]] ?_; (with_reducible refine (impl_copyDisk.calls aC _ _ aA kQ kR _ ?side1 ?side2 vP.out).mono ?_); (case side1 => exact xcb aU); (case side2 => exact aV.out); rintro e vQ ⟨vR, rfl, bR, hb⟩; refine ⟨_, rfl, ?_⟩; have jA := aM (Kd.R_lower bR (below_size xbg)); replace aD := xbb aD hb; replace aE := xbb aE hb; replace HB := xbs hb; (try clear hb bR); obtain ⟨gR, gS, gT, gU⟩ := xf2 (w := vQ) aE; obtain ⟨gV, gW, jM⟩ := Kd.R_slice jA.out; subst jM))
     refine bodyPost_ret (results_ct rfl _ _ cY 26 #[.int .i64 kQ, .slice gV kR.length gW] (0, 0) _ rfl xP Try.underlying26 rfl (by kernel_rfl)) rfl ?_; exact ⟨_, xerr, xrm jA (fun _ _ => trivial), xbg⟩
    ·rw [if_neg dC] at H; have fQ : decide (aC < (wrap64 (dH + (a2.size : Int)))) = false := decide_eq_false dC; clear dC; replace H := oB H; obtain ⟨aP, fR, H⟩ := H; (try dsimp only at H); have kT := aM fR; clear fR
     by_cases fS : aP < 0
     ·rw [if_pos fS] at H; have kU : decide (aP < 0) = true := decide_eq_true fS; clear fS; replace H := oB H; obtain ⟨⟨kV, kW⟩, kX, H⟩ := H; (try dsimp only at H); have vS := aM kX; clear kX
      simp only [Option.some.injEq, Prod.mk.injEq] at H; obtain ⟨rfl, rfl, rfl⟩ := H; try go_wp2
      replace aD := bD aD; replace aE := bD aE; replace HB := lD HB; refine sb2 8 impl_DiskAppend.tab3 impl_DiskAppend.bits3 aD (fun hHeld HT_ HW_ => ?_); generalize wc.drew = vT at aD aE HB hHeld ⊢; refine pv_ 2 21 (h := ?_); refine pv_ 3 22 (h := ?_); refine pv_ 5 24 (h := ?_); refine tk_ 0 19 (h := ?_); refine tk_ 6 25 (h := ?_); refine on_ 1 20 (h := fun K hK => ?_); refine goesY Try.func73 #[.agg #[.int .i64 aC, .slice aK aA.length aJ]] ?_; with_reducible refine (impl_sizeOf.calls jL aC _ _ aA dH _ ?side1 ?side2 kG.out).mono ?_
      (case side1 => exact xcb aU); (case side2 => exact aV.out); rintro e vU ⟨rfl, hb⟩; refine ⟨_, rfl, ?_⟩; replace aD := xbb aD hb; replace aE := xbb aE hb; replace HB := xbs hb; (try clear hb); refine hK.out _ _ ⟨xc aD 0 rfl, xc aD 1 rfl⟩ (fun hHeld => ?_); clear hK K; refine nm_ (N := 20) ?_; refine pv_ 4 23 (h := ?_); refine pv_ 7 26 (h := ?_); refine dn_ ?_; have sV := bC.out; have sW := bE.out; obtain ⟨nF, nG, nH, nI⟩ := xf2 (w := vU) aD; try go_wp2_with (first | ((with_reducible refine gC 129 rfl ?_); refine goesLY (some 31) rfl Try.func129 #[.agg #[.int .i64 aC, .slice aK aA.length aJ], .int .i64 a1] ?_; (with_reducible refine (impl_fileAt.calls aC _ _ aA a1 aP _ ?side1 ?side2 kT.out).mono ?_); (case side1 => exact xcb aU); (case side2 => exact aV.out); rintro e sX ⟨rfl, hb⟩; refine ⟨_, rfl, ?_⟩; replace aD := xbb aD hb; replace aE := xbb aE hb; replace HB := xbs hb; (try clear hb); obtain ⟨nJ, nK, nL, nM⟩ := xf2 (w := sX) aD) | ((with_reducible refine gC 143 rfl ?_); refine goesLY (some 38) rfl Try.func143 #[.agg #[.int .i64 aC, .slice aK aA.length aJ], .agg #[.int .i64 a1, .string (⟨#[]⟩ : ByteArray), .string a2]] ?_; (with_reducible refine (impl_placed.calls aC _ _ aA a1 (⟨#[]⟩ : ByteArray) a2 kV kW _ ?side1 ?side2 vS.out).mono ?_); (case side1 => exact xcb aU); (case side2 => exact aV.out); rintro e sY ⟨vV, rfl, bR, hb⟩; refine ⟨_, rfl, ?_⟩; have jB := aM (Kd.R_lower bR (below_size xbg)); replace aD := xbb aD hb; replace aE := xbb aE hb; replace HB := xbs hb; (try clear hb bR); obtain ⟨gX, gY, gZ, hJ⟩ := xf2 (w := sY) aE; obtain ⟨jN, jO, jP⟩ := Kd.R_slice jB.out; subst jP))
      refine bodyPost_ret (results_ct rfl _ _ cY 26 #[.int .i64 kV, .slice jN kW.length jO] (0, 0) _ rfl xP Try.underlying26 rfl (by kernel_rfl)) rfl ?_; exact ⟨_, xerr, xrm jB (fun _ _ => trivial), xbg⟩
     ·rw [if_neg fS] at H; have kU : decide (aP < 0) = false := decide_eq_false fS; clear fS; replace H := oB H; obtain ⟨⟨eX, aY⟩, kY, H⟩ := H; (try dsimp only at H); have vW := aM kY; clear kY
      by_cases nN : 0 ≤ aP
      ·rw [if_pos nN] at H; have sZ : decide (0 ≤ aP) = true := decide_eq_true nN; clear nN; by_cases nO : aP < (aY.length : Int)
       ·rw [if_pos nO] at H; have tA : decide (aP < (aY.length : Int)) = true := decide_eq_true nO; clear nO; by_cases kZ : ((rd_T95 aY aP).f2).size + a2.size ≤ 9223372036854775807
        ·rw [if_pos kZ] at H; have tB := eq_true kZ; have tC : decide (((rd_T95 aY aP).f2).size + a2.size ≤ 9223372036854775807) = true := decide_eq_true kZ; try have tD : (9223372036854775807 < ((rd_T95 aY aP).f2).size + a2.size) = False := eq_false (Nat.not_lt.2 kZ)
         obtain ⟨lA, dI⟩ : ∃ y_ : List (S95), y_ = (aY.set (aP : Int).toNat (⟨(rd_T95 aY aP).f0, (rd_T95 aY aP).f1, ((rd_T95 aY aP).f2) ++ a2⟩ : S95)) := ⟨_, rfl⟩; replace H : (some (eX, lA, 0)) = some (r1, r2, r3) := by first | (rw [dI]; with_reducible exact H) | (have H2_ := oS H; rw [dI]; with_reducible exact H2_) | (have H2_ := oS H; with_reducible exact H2_) | with_reducible exact H | (rw [dI]; exact H) | exact H
         have lB := aM dI; clear dI; simp only [Option.some.injEq, Prod.mk.injEq] at H; obtain ⟨rfl, rfl, rfl⟩ := H; try go_wp2
         replace aD := bD aD; replace aE := bD aE; replace HB := lD HB; refine sb2 8 impl_DiskAppend.tab3 impl_DiskAppend.bits3 aD (fun hHeld HT_ HW_ => ?_); generalize wc.drew = wT at aD aE HB hHeld ⊢; refine pv_ 2 21 (h := ?_); refine pv_ 3 22 (h := ?_); refine pv_ 5 24 (h := ?_); refine tk_ 0 19 (h := ?_); refine tk_ 6 25 (h := ?_); refine on_ 1 20 (h := fun K hK => ?_); refine goesY Try.func73 #[.agg #[.int .i64 aC, .slice aK aA.length aJ]] ?_; with_reducible refine (impl_sizeOf.calls jL aC _ _ aA dH _ ?side1 ?side2 kG.out).mono ?_
         (case side1 => exact xcb aU); (case side2 => exact aV.out); rintro e qS ⟨rfl, hb⟩; refine ⟨_, rfl, ?_⟩; replace aD := xbb aD hb; replace aE := xbb aE hb; replace HB := xbs hb; (try clear hb); refine hK.out _ _ ⟨xc aD 0 rfl, xc aD 1 rfl⟩ (fun hHeld => ?_); clear hK K; refine nm_ (N := 20) ?_; refine pv_ 4 23 (h := ?_); refine pv_ 7 26 (h := ?_); refine dn_ ?_; have tE := bC.out; have tF := bE.out; obtain ⟨hU, hX, hY, hZ⟩ := xf2 (w := qS) aD
         try go_wp2_with (first | ((with_reducible refine gC 129 rfl ?_); refine goesLY (some 31) rfl Try.func129 #[.agg #[.int .i64 aC, .slice aK aA.length aJ], .int .i64 a1] ?_; (with_reducible refine (impl_fileAt.calls aC _ _ aA a1 aP _ ?side1 ?side2 kT.out).mono ?_); (case side1 => exact xcb aU); (case side2 => exact aV.out); rintro e vX ⟨rfl, hb⟩; refine ⟨_, rfl, ?_⟩; replace aD := xbb aD hb; replace aE := xbb aE hb; replace HB := xbs hb; (try clear hb); obtain ⟨nP, nQ, nR, nS⟩ := xf2 (w := vX) aD) | ((with_reducible refine gC 80 rfl ?_); refine goesLY (some 40) rfl Try.func80 #[.agg #[.int .i64 aC, .slice aK aA.length aJ]] ?_; (with_reducible refine (impl_copyDisk.calls aC _ _ aA eX aY _ ?side1 ?side2 vW.out).mono ?_); (case side1 => exact xcb aU); (case side2 => exact aV.out); rintro e wU ⟨vY, rfl, bR, hb⟩; refine ⟨_, rfl, ?_⟩; have bA := aM (Kd.R_lower bR (below_size xbg)); replace aD := xbb aD hb; replace aE := xbb aE hb; replace HB := xbs hb; (try clear hb bR)) | ((with_reducible refine gD 9 rfl ?_); refine boxE (N := 9) rfl (cs := #[.int .i64 0, .slice none 0 0]) (t := 26) ?_; intro dZ hg tG hbox hb; replace bA := xrb bA hb; have tH := aM (xge hg); have tI := aM (xge hg); replace HB := xbs hb; have eY := nblt aD hg; have eZ := nbgt aD hg; have fA := nblt aE hg; have fB := nbgt aE hg; replace aD := xbb aD hb; replace aE := xbb aE hb; have cZ := aM (hbox); clear hb hbox hg; have tJ := eZ.out; have tK := eY.out; have tL := fB.out; have tM := fA.out; obtain ⟨iA, iB, iC, iD⟩ := xf2 (w := tG) cZ; obtain ⟨jQ, dV, qT⟩ := Kd.R_slice bA.out; subst qT) | ((with_reducible refine gate_store (t := 26) (p := 9) rfl ?_); refine store_event (t := 26) (p := 9) (v := ?vo_w58) (w1 := ((tG.setCell ⟨dZ, 0, none⟩ (.int .i64 eX)).setCell ⟨dZ, 1, none⟩ (.slice jQ aY.length dV))) ?hg ?ho ?hn ?hr ?_; (case ho | hg | hn => rfl); (case hr => exact u10_2); intro fM hw; replace bA : Aside0 (Kd.R k95 95 fM w.heap.size (fun _ => True) (.slice jQ aY.length dV) aY) := xwm hw bA (fun _ _ => trivial); replace aD := xwc hw aD; replace aE := xwc hw aE; replace cZ : Aside0 (fM.heap[dZ]? = some (.cells #[.int .i64 eX, .slice jQ aY.length dV] 26 (0, 0))) := xwp hw; replace HB := xbw hw HB; clear hw; obtain ⟨iE, iF, iG, iH⟩ := xf2 (w := fM) cZ; have p475 : 0 ≤ (aP : Int) := oda; have q475 : aP < (aY.length : Int) := oda; obtain ⟨tN, qU, iI, iJ, iK⟩ := at_T95 (Kd.R_reads' bA.out).2.2 aP p475 q475; cases qU; replace p475 := eq_true p475; replace q475 := eq_true q475; have p45 : 0 ≤ (aP : Int) := oda; have q45 : (aP : Int) < ((aY.length : Int) : Int) := oda; obtain ⟨fC, dW, iL, lC, gl45, cl45, HG45⟩ := Kd.R_form bA.out (by omega); (first | cases iL | (injection iL with ea_ en_ ec_; (first | subst ea_ | (injection ea_ with ea_; subst ea_)); subst ec_; clear en_)); have GB45 := aM lC; have GG45 := aM HG45; clear lC gl45 HG45; (first | simp only [add_plain] at iI | skip); (first | simp only [add_plain] at iJ | skip); (first | simp only [add_plain] at iK | skip); obtain ⟨qV, qW, qX, qY, qZ, rA⟩ := impl_DiskAppend.e95 bA.out (aP : Int) p45 q45; replace p45 := eq_true p45; replace q45 := eq_true q45; have lE := aM (show Kd.R k95 95 fM w.heap.size (fun _ => True) (.slice (some ⟨fC, 0, none⟩) aY.length dV) aY from (xr bA)); obtain ⟨ce60, jC, lF, fT, jD⟩ := Kd.R_elem lE.out z95 (aP : Int) (oda) (by have h_ : (aP : Int) < ((aY.length : Int) : Int) := oda; first | exact h_ | (have e_ := (Kd.R_reads' bA.out).1; omega) | simpa using h_); obtain rfl := k95_openM lF; have jR := Kd.R_seg lE.out (aP : Int) (oda) (by have h_ : (aP : Int) < ((aY.length : Int) : Int) := oda; first | exact h_ | (have e_ := (Kd.R_reads' bA.out).1; omega) | simpa using h_) (seg := [.string (((rd_T95 aY aP).f2) ++ a2)]) (j := 2) jC fT (show 3 ≤ 3 from by decide) (x' := (⟨(rd_T95 aY aP).f0, (rd_T95 aY aP).f1, ((rd_T95 aY aP).f2) ++ a2⟩ : S95)) (k95_mkM _ _ _ (⟨(rd_T95 aY aP).f0, (rd_T95 aY aP).f1, ((rd_T95 aY aP).f2) ++ a2⟩ : S95) ) (fun _ hk => hk); have jS := fT 2 _ rfl; (try simp only [show (k95).sz = 3 from rfl, Nat.mul_one, Nat.add_zero] at jS); have jT := jD 2; (try simp only [show (k95).sz = 3 from rfl, Nat.mul_one, Nat.add_zero] at jT); clear jC fT jD lF) | ((with_reducible refine gate_store (t := 9) (p := 50) rfl ?_); refine store_event (t := 9) (p := 50) (v := ?vo_w61) (w1 := (fM.setCell ⟨fC, (aP : Int).toNat * 3 + 2, none⟩ (.string (((rd_T95 aY aP).f2) ++ a2)))) ?hg ?ho ?hn ?hr ?_; (case ho | hg | hn => rfl); (case hr => exact u10_2); intro lG hw; have hg : fM.grownBy lG (some fC) := (by rw [hw]; exact jR.2); have hp_ : Kd.R k95 95 lG w.heap.size (fun _ => True) (.slice (some ⟨fC, 0, none⟩) aY.length dV) lA := (by rw [hw, lB.out]; exact jR.1); clear jR; replace aD := aM (blk_grown (g := iZ) (o := .cells #[.int .i64 aC, .slice aK aA.length aJ] 26 (0, 0)) xblk hg (Kd.R_ne bA.out aD.out (by decide))); replace aE := aM (blk_grown (g := cY) (o := .cells #[.int .i64 0, .slice none 0 0] 26 (0, 0)) xblk hg (Kd.R_ne bA.out aE.out (by decide))); replace cZ := aM (blk_grown (g := dZ) (o := .cells #[.int .i64 eX, .slice (some ⟨fC, 0, none⟩) aY.length dV] 26 (0, 0)) xblk hg (Kd.R_ne bA.out cZ.out (by decide))); replace bA := aM (hp_); replace HB := aM ((by rw [hw]; exact below_set (HB.out) GB45.out : Below w.heap.size w lG)); clear hg hw hp_; obtain ⟨nT, nU, nV, nW⟩ := xf2 (w := lG) cZ; obtain ⟨nX, nY, nZ, oA⟩ := xf2 (w := lG) aE))
         refine bodyPost_ret (results_ct rfl _ _ cY 26 #[.int .i64 eX, .slice (some ⟨fC, 0, none⟩) aY.length dV] (0, 0) _ rfl xP Try.underlying26 rfl (by kernel_rfl)) rfl ?_; exact ⟨_, xerr, xrm bA (fun _ _ => trivial), xbg⟩
        ·rw [if_neg kZ] at H; exact absurd H (by simp)
       ·rw [if_neg nO] at H; exact absurd H (by simp)
      ·rw [if_neg nN] at H; exact absurd H (by simp)

/-! ### impl_JournalLate: function 20 -/
mutual
def impl_JournalLate.j0 : Nat → Int → List ByteArray → Bool → Int → List (S95) → Option (Int × (List (S95)) × Int)
 | 0, _, _, _, _, _ => none
 | k + 1, x1, x2, vZ, cR, cS => if vZ = true then (some (0, ([] : List (S95)), 1)) else (impl_JournalLate.l0 k x1 (([] : List Int)) x2 (x2.length : Int) 0 cR cS)
def impl_JournalLate.l0 : Nat → Int → List Int → List ByteArray → Int → Int → Int → List (S95) → Option (Int × (List (S95)) × Int)
 | 0, _, _, _, _, _, _, _ => none
 | k + 1, x1, x8, oC, tO, kH, cR, cS => if kH < tO then (if 0 ≤ kH then (if kH < (oC.length : Int) then (if (rdOf ByteArray.empty oC kH).size ≤ 9223372036854775807 then ((impl_Seal.f k (bytesOf (rdOf ByteArray.empty oC kH))).bind fun cU => (if cU.2 = true then (if x8.length + cU.1.length < 140737488355328 then (impl_JournalLate.l0 k x1 (x8 ++ cU.1) oC tO (wrap64 (kH + 1)) cR cS) else (none)) else (some (0, ([] : List (S95)), 1)))) else (none)) else (none)) else (none)) else ((impl_DiskAppend.f k cR cS x1 (strOfNums x8)).bind fun fU => (some (fU.1, fU.2.1, fU.2.2)))
end
def impl_JournalLate.f (k : Nat) (aC : Int) (aA : List (S95)) (a1 : Int) (l2 : List ByteArray) : Option (Int × (List (S95)) × Int) := (impl_DiskOk.f k aC aA).bind fun fV => (if fV = true then ((impl_isFile.f a1).bind fun fW => (if fW = true then (impl_JournalLate.j0 k a1 l2 (decide ((l2.length : Int) > 100)) aC aA) else (impl_JournalLate.j0 k a1 l2 true aC aA))) else (impl_JournalLate.j0 k a1 l2 true aC aA))
theorem u10_mq1 {p : Prop} (h : p := by repeat' first | (with_reducible first | exact fO _ _ _ _ _ | exact rB _ _ _ _ _ _ _ | exact impl_DiskAppend.mono _ _ _ _ _ | exact impl_DiskOk.mono _ _ _ | exact impl_Seal.mono _ _ | exact LeO.refl _ | exact LeO.none _ | refine LeO.ite ?_ ?_ | refine LeO.bind ?_ (fun _ => ?_)) | exact fO _ _ _ _ _ | exact rB _ _ _ _ _ _ _ | exact impl_DiskAppend.mono _ _ _ _ _ | exact impl_DiskOk.mono _ _ _ | exact impl_Seal.mono _ _ | exact LeO.none _ | refine LeO.ite ?_ ?_ | refine LeO.bind ?_ (fun _ => ?_)) : p := h
set_option maxRecDepth 100000 in
theorem impl_JournalLate.mono_l : ∀ k, (∀ y0 y1 y2 y3 y4, LeO (impl_JournalLate.j0 k y0 y1 y2 y3 y4) (impl_JournalLate.j0 (k + 1) y0 y1 y2 y3 y4)) ∧ (∀ y0 y1 y2 y3 y4 y5 y6, LeO (impl_JournalLate.l0 k y0 y1 y2 y3 y4 y5 y6) (impl_JournalLate.l0 (k + 1) y0 y1 y2 y3 y4 y5 y6))
 | 0 => ⟨fun _ _ _ _ _ r h => by simp [impl_JournalLate.j0] at h, fun _ _ _ _ _ _ _ r h => by simp [impl_JournalLate.l0] at h⟩
 | k + 1 => by
  obtain ⟨fO, rB⟩ := impl_JournalLate.mono_l k; refine ⟨?_, ?_⟩
  ·intro y0 y1 y2 y3 y4; unfold impl_JournalLate.j0; exact u10_mq1
  ·intro y0 y1 y2 y3 y4 y5 y6; unfold impl_JournalLate.l0; exact u10_mq1
theorem impl_JournalLate.mono : ∀ a0 a1 a2 a3 k, LeO (impl_JournalLate.f k a0 a1 a2 a3) (impl_JournalLate.f (k + 1) a0 a1 a2 a3) := by
 intro a0 a1 a2 a3 k
 obtain ⟨fO, rB⟩ := impl_JournalLate.mono_l k
 unfold impl_JournalLate.f
 exact u10_mq1
set_option maxHeartbeats 8000000 in
set_option maxRecDepth 100000 in
theorem impl_JournalLate.calls (k : Nat) (aC : Int) (aK : Option Addr) (aJ : Nat) (aA : List (S95)) (a1 : Int) (A2 : Option Addr) (c2 : Nat) (l2 : List ByteArray) (r1 : Int) (r2 : List (S95)) (r3 : Int) (w : World) (bV : Kd.C k95 w aK aA.length aA) (bW : aA.length ≤ aJ) (lH : Kd.C Kd.string w A2 l2.length l2) (lI : l2.length ≤ c2) (h : impl_JournalLate.f k aC aA a1 l2 = some (r1, r2, r3)) :
 Calls Try.prog 20 #[.agg #[.int .i64 aC, .slice aK aA.length aJ], .int .i64 a1, .slice A2 l2.length c2] w fun e w' => ∃ v1_ : Value, e = .returned (.tuple #[.agg #[.int .i64 r1, v1_], .int .i64 r3]) ∧ Kd.R k95 95 w' w.heap.size (fun _ => True) v1_ r2 ∧ Below w.heap.size w w' := by
 have jJ := Try.underlying26
 have aU := aM bV
 have aV := aM bW
 clear bV bW
 have lJ := aM lH
 have rC := aM lI
 clear lH lI
 have HB := aM (Below.refl w.heap.size w)
 have H : ((impl_DiskOk.f k aC aA).bind fun fV => (if fV = true then ((impl_isFile.f a1).bind fun fW => (if fW = true then (impl_JournalLate.j0 k a1 l2 (decide ((l2.length : Int) > 100)) aC aA) else (impl_JournalLate.j0 k a1 l2 true aC aA))) else (impl_JournalLate.j0 k a1 l2 true aC aA))) = some (r1, r2, r3) := h
 clear h
 have jK := aM H
 clear H
 go_enter Try.func20, Try.ntmps20
 go_upto_region 1 with (first | ((with_reducible refine gD 3 rfl ?_); (try (refine gate_guard (by rfl) ?_; dsimp only)); refine boxE (N := 3) rfl (cs := #[.int .i64 aC, .slice aK aA.length aJ]) (t := 26) ?_; intro cL hg w5 hbox hb; have aN := aM (hbox); have tP := aM (xge hg); have tQ := aM (xge hg); replace HB := xbs hb; clear hb hbox hg) | ((with_reducible refine gD 6 rfl ?_); (try (refine gate_guard (by rfl) ?_; dsimp only)); refine boxE (N := 6) rfl (cs := #[.int .i64 0, .slice none 0 0]) (t := 26) ?_; intro bX hg w6 hbox hb; have tR := aM (xge hg); have tS := aM (xge hg); replace HB := xbs hb; have bG := nblt aN hg; have bH := nbgt aN hg; replace aN := xbb aN hb; have aW := aM (hbox); clear hb hbox hg))
 (try simp only [Act.put, List.setIfInBounds_toArray, List.set_cons_zero, List.set_cons_succ])
 go_cut [25] (fun wA wc => ∃ (kq : Nat) (eA : Bool), wA = .bool eA ∧ Aside0 (impl_JournalLate.j0 kq a1 l2 eA aC aA = some (r1, r2, r3)) ∧ Aside0 (kq ≤ k) ∧ Aside0 (wc.heap[cL]? = some (.cells #[.int .i64 aC, (.slice aK aA.length aJ)] 26 (0, 0))) ∧ Aside0 (wc.heap[bX]? = some (.cells #[.int .i64 0, (.slice none 0 0)] 26 (0, 0))) ∧ Aside0 (Below w.heap.size w wc))
 case first =>
  have H := jK.out; clear jK; replace H := oB H; obtain ⟨fV, kK, H⟩ := H; (try dsimp only at H); have A7 := aM kK; clear kK
  by_cases c8 : fV = true
  ·subst c8; replace H := iT H; replace H := oB H; obtain ⟨fW, kL, H⟩ := H; (try dsimp only at H); have A9 := aM kL; clear kL
   by_cases c10 : fW = true
   ·subst c10; replace H := iT H; have H' := aM H; clear H; have tT := bG.out; have tU := bH.out; obtain ⟨eB, eC, eD, eE⟩ := xf2 (w := w6) aN; go_wp2_with (first | ((with_reducible refine gC 72 rfl ?_); refine goesLY (some 14) rfl Try.func72 #[.agg #[.int .i64 aC, .slice aK aA.length aJ]] ?_; (with_reducible refine (impl_DiskOk.calls k aC _ _ aA true _ ?side1 ?side2 A7.out).mono ?_); (case side1 => exact xcb aU); (case side2 => exact aV.out); rintro e wV ⟨rfl, hb⟩; refine ⟨_, rfl, ?_⟩; replace aN := xbb aN hb; replace aW := xbb aW hb; replace HB := xbs hb; (try clear hb)) | (go_at_call 77; (with_reducible refine (impl_isFile.calls a1 true _ A9.out).mono ?_); rintro e w' ⟨rfl, ⟨nd, rfl⟩⟩))
    go_meet
    case rel => exact ⟨_, (decide ((l2.length : Int) > 100)), u10_0, H', ⟨u10_1⟩, ⟨xblk⟩, ⟨xblk⟩, ⟨xbg⟩⟩
   ·replace c10 := Bool.eq_false_iff.mpr c10; subst c10; replace H := iN H; have H' := aM H; clear H; have lK := bG.out; have lL := bH.out; obtain ⟨dD, dE, dF, dG⟩ := xf2 (w := w6) aN; go_wp2_with (first | ((with_reducible refine gC 72 rfl ?_); refine goesLY (some 14) rfl Try.func72 #[.agg #[.int .i64 aC, .slice aK aA.length aJ]] ?_; (with_reducible refine (impl_DiskOk.calls k aC _ _ aA true _ ?side1 ?side2 A7.out).mono ?_); (case side1 => exact xcb aU); (case side2 => exact aV.out); rintro e wW ⟨rfl, hb⟩; refine ⟨_, rfl, ?_⟩; replace aN := xbb aN hb; replace aW := xbb aW hb; replace HB := xbs hb; (try clear hb)) | (go_at_call 77; (with_reducible refine (impl_isFile.calls a1 false _ A9.out).mono ?_); rintro e w' ⟨rfl, ⟨nd, rfl⟩⟩))
    go_meet
    case rel => exact ⟨_, (true), u10_0, H', ⟨u10_1⟩, ⟨xblk⟩, ⟨xblk⟩, ⟨xbg⟩⟩
  ·replace c8 := Bool.eq_false_iff.mpr c8; subst c8; replace H := iN H; have H' := aM H; clear H; have kO := bG.out; have kP := bH.out; obtain ⟨cN, cO, cP, cQ⟩ := xf2 (w := w6) aN; go_wp2_with (first | ((with_reducible refine gC 72 rfl ?_); refine goesLY (some 14) rfl Try.func72 #[.agg #[.int .i64 aC, .slice aK aA.length aJ]] ?_; (with_reducible refine (impl_DiskOk.calls k aC _ _ aA false _ ?side1 ?side2 A7.out).mono ?_); (case side1 => exact xcb aU); (case side2 => exact aV.out); rintro e wX ⟨rfl, hb⟩; refine ⟨_, rfl, ?_⟩; replace aN := xbb aN hb; replace aW := xbb aW hb; replace HB := xbs hb; (try clear hb)))
   go_meet
   case rel => exact ⟨_, (true), u10_0, H', ⟨u10_1⟩, ⟨xblk⟩, ⟨xblk⟩, ⟨xbg⟩⟩
 case rest =>
  clear jK; try clear c1
  try clear c2
  try clear p2
  try clear c7
  try clear c8
  try clear c10
  try clear wB
  try clear wC
  try clear wD
  try clear eB eC
  try clear dD dE
  try clear cN cO
  try clear eD eE
  try clear dF dG
  try clear cP cQ
  obtain ⟨kq, eA, rfl, HA, HJ3, aN, aW, HB⟩ := hcut; cases kq with
  | zero => exact absurd HA.out (by simp [impl_JournalLate.j0])
  | succ jL =>
   have H := HA.out; clear HA; simp only [impl_JournalLate.j0] at H; by_cases dC : eA = true
   ·subst dC; replace H := iT H; simp only [Option.some.injEq, Prod.mk.injEq] at H; obtain ⟨rfl, rfl, rfl⟩ := H; have lM := bH.out; have lN := bG.out; obtain ⟨eF, eG, eH, eI⟩ := xf2 (w := wc) aW; go_wp2; refine bodyPost_ret (results_ct rfl _ _ bX 26 #[.int .i64 0, .slice none 0 0] (0, 0) _ rfl xP Try.underlying26 rfl (by kernel_rfl)) rfl ?_; exact ⟨_, xerr, u10_3, xbg⟩
   ·replace dC := Bool.eq_false_iff.mpr dC; subst dC; replace H := iN H; obtain ⟨lO, dJ⟩ : ∃ y_ : List Int, y_ = (([] : List Int)) := ⟨_, rfl⟩; replace H : (impl_JournalLate.l0 jL a1 lO l2 (l2.length : Int) 0 aC aA) = some (r1, r2, r3) := by first | (rw [dJ]; with_reducible exact H) | (have H2_ := oS H; rw [dJ]; with_reducible exact H2_) | (have H2_ := oS H; with_reducible exact H2_) | with_reducible exact H | (rw [dJ]; exact H) | exact H
    have jE := aM dJ; clear dJ; have H' := aM H; clear H; go_wp2_with (first | ((with_reducible refine gD 27 rfl ?_); (try (refine gate_guard (by rfl) ?_; dsimp only)); refine Kd.R_lit (Kd.int .u8) _ 5 ?hg (N := 27) ?hd (xs := ([] : List Int)) (inner := []) (ok := fun _ => True) (okp := fun _ => True) ?hr ?hp (fun _ hk => hk) trivial (Below.refl _ _) (Nat.le_refl _) (by simp) ?_; (case hd => rfl); (case hg => rfl); (case hr => exact u10_2); (case hp => exact (Reps.none _ _)); intro wE qR fX hb hg_ hnew_; clear hg_ hnew_; (first | rw [← jE.out] at fX | (simp only [Int.reduceToNat] at fX; rw [← jE.out] at fX)); have lP := aM (Kd.R_lower fX (below_size xbg)); replace aN := xbb aN hb; replace aW := xbb aW hb; replace HB := xbs hb; clear hb fX))
    go_loopg [8, 30] jL (fun kq v8 wF w' => ∃ (cW : List Int) (aX : Int) (bI : Int), wF = .int .i64 aX ∧ Aside0 (impl_JournalLate.l0 kq a1 cW l2 (l2.length : Int) aX aC aA = some (r1, r2, r3)) ∧ Aside0 (kq ≤ jL) ∧ Aside0 (Kd.R (Kd.int .u8) 5 w' w.heap.size (fun _ => True) v8 cW) ∧ Aside0 (w'.heap[cL]? = some (.cells #[.int .i64 aC, (.slice aK aA.length aJ)] 26 (0, 0))) ∧ Aside0 (w'.heap[bX]? = some (.cells #[.int .i64 bI, (.slice none 0 0)] 26 (0, 0))) ∧ Aside0 (Below w.heap.size w w'))
    case atStart => exact ⟨(lO), (0), (0), u10_0, H', ⟨Nat.le_refl _⟩, ⟨by (with_reducible repeat (first | apply Kd.R_alloc | apply Kd.R_drewN | apply Kd.R_drew)); exact lP.out⟩, ⟨xblk⟩, ⟨xblk⟩, ⟨xbg⟩⟩
    case round =>
     clear H'; try clear c1
     try clear c2
     try clear p2
     try clear c7
     try clear c8
     try clear c10
     try clear wB
     try clear wC
     try clear wD
     try clear dC
     try clear wY
     try clear eB eC
     try clear dD dE
     try clear cN cO
     try clear eF eG
     try clear eD eE
     try clear dF dG
     try clear cP cQ
     try clear eH eI
     try clear p2
     obtain ⟨cW, aX, bI, rfl, HA, HK2, bO, aN, aW, HB⟩ := hrel; cases gk with
     | zero => exact absurd HA.out (by simp [impl_JournalLate.l0])
     | succ k2 =>
      have H := HA.out; clear HA; simp only [impl_JournalLate.l0] at H; by_cases kI : aX < (l2.length : Int)
      ·rw [if_pos kI] at H; have lQ : decide (aX < (l2.length : Int)) = true := decide_eq_true kI; clear kI; by_cases oD : 0 ≤ aX
       ·rw [if_pos oD] at H; have tV : decide (0 ≤ aX) = true := decide_eq_true oD; clear oD; by_cases oE : aX < (l2.length : Int)
        ·rw [if_pos oE] at H; have tW : decide (aX < (l2.length : Int)) = true := decide_eq_true oE; clear oE; by_cases kJ : (rdOf ByteArray.empty l2 aX).size ≤ 9223372036854775807
         ·rw [if_pos kJ] at H; have tX := eq_true kJ; have tY : decide ((rdOf ByteArray.empty l2 aX).size ≤ 9223372036854775807) = true := decide_eq_true kJ; try have tZ : (9223372036854775807 < (rdOf ByteArray.empty l2 aX).size) = False := eq_false (Nat.not_lt.2 kJ)
          clear kJ; obtain ⟨fY, dK⟩ : ∃ y_ : List Int, y_ = (bytesOf (rdOf ByteArray.empty l2 aX)) := ⟨_, rfl⟩; replace H : ((impl_Seal.f k2 fY).bind fun cU => (if cU.2 = true then (if cW.length + cU.1.length < 140737488355328 then (impl_JournalLate.l0 k2 a1 (cW ++ cU.1) l2 (l2.length : Int) (wrap64 (aX + 1)) aC aA) else (none)) else (some (0, ([] : List (S95)), 1)))) = some (r1, r2, r3) := by first | (rw [dK]; with_reducible exact H) | (have H2_ := oS H; rw [dK]; with_reducible exact H2_) | (have H2_ := oS H; with_reducible exact H2_) | with_reducible exact H | (rw [dK]; exact H) | exact H
          have eJ := aM dK; clear dK; replace H := oB H; obtain ⟨⟨dX, rE⟩, fR, H⟩ := H; (try dsimp only at H); have kT := aM fR; clear fR
          by_cases fS : rE = true
          ·subst fS; replace H := iT H; by_cases oF : cW.length + dX.length < 140737488355328
           ·rw [if_pos oF] at H; have LMc31 := aM oF; clear oF; obtain ⟨lR, dL⟩ : ∃ y_ : List Int, y_ = (cW ++ dX) := ⟨_, rfl⟩; replace H : (impl_JournalLate.l0 k2 a1 lR l2 (l2.length : Int) (wrap64 (aX + 1)) aC aA) = some (r1, r2, r3) := by first | (rw [dL]; with_reducible exact H) | (have H2_ := oS H; rw [dL]; with_reducible exact H2_) | (have H2_ := oS H; with_reducible exact H2_) | with_reducible exact H | (rw [dL]; exact H) | exact H
            have lS := aM dL; clear dL; have H' := aM H; clear H; have p484 : 0 ≤ (aX : Int) := oda; have q484 : aX < (l2.length : Int) := oda; obtain ⟨lT, jU, cA⟩ := Kd.at_string lJ.out aX p484 q484; cases jU
            replace cA := xce HB cA; replace p484 := eq_true p484; replace q484 := eq_true q484; go_wp2_with (first | ((with_reducible refine gD 36 rfl ?_); (try (refine gate_guard (by rfl) ?_; dsimp only)); refine Kd.V_conv _ 5 rfl (N := 36) rfl 9 22 _ rfl (rdOf ByteArray.empty l2 aX) rfl Try.underlying9 Try.underlying22 Try.underlying5 (oda) (ok := fun k_ => wr.heap.size ≤ k_) (Nat.le_refl _) (Below.refl _ _) (Nat.le_refl _) ?_; intro rF vT fZ hb hg_ hnew_; clear hg_ hnew_; (first | rw [← eJ.out] at fZ | (simp only [Int.reduceToNat] at fZ; rw [← eJ.out] at fZ)); have bQ := aM (Kd.V_lower (Kd.V_mono (ok' := fun k_ => some k_ ≠ (u8 : Value).ownBlock ∧ k_ ≠ cL ∧ k_ ≠ bX) fZ (fun k_ hk_ => ⟨(Kd.fresh' (Kd.R_lt (xr bO)) k_ hk_), (Kd.freshB (g := cL) (o := .cells #[.int .i64 aC, .slice aK aA.length aJ] 26 (0, 0)) xblk k_ hk_), (Kd.freshB (g := bX) (o := .cells #[.int .i64 bI, .slice none 0 0] 26 (0, 0)) xblk k_ hk_)⟩)) (below_size xbg)); replace bO := xrb bO hb; replace aN := xbb aN hb; replace aW := xbb aW hb; replace HB := xbs hb; clear hb fZ; obtain ⟨rG, rH, rI⟩ := Kd.V_slice bQ.out; subst rI) | ((with_reducible refine gC 78 rfl ?_); refine goesLY (some 37) rfl Try.func78 #[.slice rG fY.length rH] ?_; (with_reducible refine (impl_Seal.calls k2 _ _ fY dX true _ ?side1 ?side2 kT.out).mono ?_); (case side1 => repeat (first | exact (Kd.V_reads' bQ.out).2.2 | (with_reducible refine Kd.C_alloc ?_ _) | (with_reducible refine Kd.C_drewN ?_ _) | (with_reducible refine Kd.C_drew ?_))); (case side2 => exact (Kd.V_reads' bQ.out).2.1); rintro e wZ ⟨rJ, rfl, bR, hb⟩; refine ⟨_, rfl, ?_⟩; replace bQ := aM (Kd.V_elder' u10_5 (Kd.R_base bR) hb); have dA := aM (Kd.R_lower (Kd.R_new' bR (Kd.R_lt (xr bO))) (below_size xbg)); replace bO := aM (Kd.R_elder' (xr bO) (Kd.R_base bR) hb); replace aN := xbb aN hb; replace aW := xbb aW hb; replace HB := xbs hb; (try clear hb bR); obtain ⟨lU, jV, iM⟩ := Kd.R_slice dA.out; subst iM) | ((with_reducible refine gate_builtin (b := .append) (xs := #[.tmp 43, .tmp 44]) rfl ?_); (try (refine gate_guard (by rfl) ?_; dsimp only)); at_builtin; refine Kd.R_append_rows (Kd.int .u8) (w0 := w) w.heap.size rfl (.tmp 43) (.tmp 44) 22 5 (.int .u8 0) 1 rfl Try.underlying22 info5 rfl (by decide) (by omega) u8 cW dX _ _ _ (fun k_ => some k_ ≠ (.slice lU dX.length jV : Value).ownBlock) (fun _ => False) rfl rfl ?aO ?aR (fun _ _ h => h) (fun _ h => h.elim) ?aF ?aB ?aS ?aL ?_; (case aR => repeat (first | exact (Kd.R_reads' dA.out).2.2 | (with_reducible refine Kd.C_alloc ?_ _) | (with_reducible refine Kd.C_drewN ?_ _) | (with_reducible refine Kd.C_drew ?_))); (case aB => exact xbg); (case aF => exact (fun k_ hk => Kd.fresh' (Kd.R_lt (xr dA)) k_ hk)); (case aO => exact (by (with_reducible repeat (first | apply Kd.R_alloc | apply Kd.R_drewN | apply Kd.R_drew)); exact Kd.R_mono bO.out (fun _ hk => hk.2))); (case aS => exact (below_size xbg)); (case aL => have := LMc31.out; omega); intro wG sX ho hb hg hat; rw [← lS.out] at ho; replace aN := aM (blk_grown (g := cL) (o := .cells #[.int .i64 aC, .slice aK aA.length aJ] 26 (0, 0)) xblk hg (Kd.R_ne bO.out aN.out (by decide))); replace aW := aM (blk_grown (g := bX) (o := .cells #[.int .i64 bI, .slice none 0 0] 26 (0, 0)) xblk hg (Kd.R_ne bO.out aW.out (by decide))); replace bQ := aM (Kd.V_afterv (ok := (fun k_ => some k_ ≠ (.slice lU dX.length jV : Value).ownBlock ∧ k_ ≠ cL ∧ k_ ≠ bX)) (by (with_reducible repeat (first | apply Kd.V_alloc | apply Kd.V_drewN | apply Kd.V_drew)); exact Kd.V_mono bQ.out (fun _ hk => ⟨⟨hk.2, ⟨hk.1.2.1, hk.1.2.2⟩⟩, hk.1.1⟩)) hg hat); replace dA := aM (Kd.R_after (ok := (fun _ => True)) (xr dA) hg hat); replace HB := aM (hb); have lV := aM (ho); clear bO; clear ho hb hg hat))
            go_roundg k2
            case measure => have := HJ3.out; have := HK2.out; omega
            case rel => exact ⟨(lR), (wrap64 (aX + 1)), (bI), u10_0, H', ⟨by have := HJ3.out; have := HK2.out; omega⟩, ⟨by (with_reducible repeat (first | apply Kd.R_alloc | apply Kd.R_drewN | apply Kd.R_drew)); exact Kd.R_mono lV.out (fun _ hk => trivial)⟩, ⟨xblk⟩, ⟨xblk⟩, ⟨xbg⟩⟩
           ·rw [if_neg oF] at H; exact absurd H (by simp)
          ·replace fS := Bool.eq_false_iff.mpr fS; subst fS; replace H := iN H; simp only [Option.some.injEq, Prod.mk.injEq] at H; obtain ⟨rfl, rfl, rfl⟩ := H; have p484 : 0 ≤ (aX : Int) := oda; have q484 : aX < (l2.length : Int) := oda; obtain ⟨lT, jU, cA⟩ := Kd.at_string lJ.out aX p484 q484; cases jU
           replace cA := xce HB cA; replace p484 := eq_true p484; replace q484 := eq_true q484; go_wp2_with (first | ((with_reducible refine gD 36 rfl ?_); (try (refine gate_guard (by rfl) ?_; dsimp only)); refine Kd.V_conv _ 5 rfl (N := 36) rfl 9 22 _ rfl (rdOf ByteArray.empty l2 aX) rfl Try.underlying9 Try.underlying22 Try.underlying5 (oda) (ok := fun k_ => wr.heap.size ≤ k_) (Nat.le_refl _) (Below.refl _ _) (Nat.le_refl _) ?_; intro rF sY gA hb hg_ hnew_; clear hg_ hnew_; (first | rw [← eJ.out] at gA | (simp only [Int.reduceToNat] at gA; rw [← eJ.out] at gA)); have bQ := aM (Kd.V_lower (Kd.V_mono (ok' := fun k_ => some k_ ≠ (u8 : Value).ownBlock ∧ k_ ≠ cL ∧ k_ ≠ bX) gA (fun k_ hk_ => ⟨(Kd.fresh' (Kd.R_lt (xr bO)) k_ hk_), (Kd.freshB (g := cL) (o := .cells #[.int .i64 aC, .slice aK aA.length aJ] 26 (0, 0)) xblk k_ hk_), (Kd.freshB (g := bX) (o := .cells #[.int .i64 bI, .slice none 0 0] 26 (0, 0)) xblk k_ hk_)⟩)) (below_size xbg)); replace bO := xrb bO hb; replace aN := xbb aN hb; replace aW := xbb aW hb; replace HB := xbs hb; clear hb gA; obtain ⟨jN, jO, jP⟩ := Kd.V_slice bQ.out; subst jP) | ((with_reducible refine gC 78 rfl ?_); refine goesLY (some 37) rfl Try.func78 #[.slice jN fY.length jO] ?_; (with_reducible refine (impl_Seal.calls k2 _ _ fY dX false _ ?side1 ?side2 kT.out).mono ?_); (case side1 => repeat (first | exact (Kd.V_reads' bQ.out).2.2 | (with_reducible refine Kd.C_alloc ?_ _) | (with_reducible refine Kd.C_drewN ?_ _) | (with_reducible refine Kd.C_drew ?_))); (case side2 => exact (Kd.V_reads' bQ.out).2.1); rintro e oG ⟨rJ, rfl, bR, hb⟩; refine ⟨_, rfl, ?_⟩; replace bQ := aM (Kd.V_elder' u10_5 (Kd.R_base bR) hb); have dA := aM (Kd.R_lower (Kd.R_new' bR (Kd.R_lt (xr bO))) (below_size xbg)); replace bO := aM (Kd.R_elder' (xr bO) (Kd.R_base bR) hb); replace aN := xbb aN hb; replace aW := xbb aW hb; replace HB := xbs hb; (try clear hb bR); have lW := bH.out; have lX := bG.out; obtain ⟨oH, oI, oJ, oK⟩ := xf2 (w := oG) aW))
           refine bodyPost_ret (results_ct rfl _ _ bX 26 #[.int .i64 0, .slice none 0 0] (0, 0) _ rfl xP Try.underlying26 rfl (by kernel_rfl)) rfl ?_; exact ⟨_, xerr, u10_3, xbg⟩
         ·rw [if_neg kJ] at H; exact absurd H (by simp)
        ·rw [if_neg oE] at H; exact absurd H (by simp)
       ·rw [if_neg oD] at H; exact absurd H (by simp)
      ·rw [if_neg kI] at H; have lQ : decide (aX < (l2.length : Int)) = false := decide_eq_false kI; clear kI; replace H := oB H; obtain ⟨⟨lY, lZ, rK⟩, mA, H⟩ := H; (try dsimp only at H); have wH := aM mA; clear mA
       simp only [Option.some.injEq, Prod.mk.injEq] at H; obtain ⟨rfl, rfl, rfl⟩ := H; have uA := bG.out; have uB := bH.out; obtain ⟨iO, iP, iQ, iR⟩ := xf2 (w := wr) aN; have hcv47 := own_string (P := Try.prog) Try.underlying22 Try.underlying5 Try.underlying9 (Kd.own_of_R bO.out); go_wp2_with (first | ((with_reducible refine gC 79 rfl ?_); refine goesLY (some 51) rfl Try.func79 #[.agg #[.int .i64 aC, .slice aK aA.length aJ], .int .i64 a1, .string (strOfNums cW)] ?_; (with_reducible refine (impl_DiskAppend.calls k2 aC _ _ aA a1 (strOfNums cW) lY lZ rK _ ?side1 ?side2 wH.out).mono ?_); (case side1 => exact xcb aU); (case side2 => exact aV.out); rintro e wI ⟨wJ, rfl, bR, hb⟩; refine ⟨_, rfl, ?_⟩; replace bO := xrb bO hb; have jF := aM (Kd.R_lower bR (below_size xbg)); replace aN := xbb aN hb; replace aW := xbb aW hb; replace HB := xbs hb; (try clear hb bR); obtain ⟨hU, hX, hY, hZ⟩ := xf2 (w := wI) aW; obtain ⟨rL, rM, rN⟩ := Kd.R_slice jF.out; subst rN))
       refine bodyPost_ret (results_ct rfl _ _ bX 26 #[.int .i64 lY, .slice rL lZ.length rM] (0, 0) _ rfl xP Try.underlying26 rfl (by kernel_rfl)) rfl ?_; exact ⟨_, xerr, xrm jF (fun _ _ => trivial), xbg⟩

/-! ### impl_DiskSync: function 68 -/
theorem impl_DiskSync.e95 {W : World} {base : Nat} {ok : Nat → Prop} {g n cap : Nat} {xs : List S95} (h : Kd.R k95 95 W base ok (.slice (some ⟨g, 0, none⟩) n cap) xs) (i : Int) (p : 0 ≤ i) (q : i < n) : W.cell? ⟨g, i.toNat * 3, none⟩ = some (.int .i64 ((rd_T95 xs i).f0)) ∧ W.cell? ⟨g, i.toNat * 3 + 1, none⟩ = some (.string ((rd_T95 xs i).f1)) ∧ W.cell? ⟨g, i.toNat * 3 + 2, none⟩ = some (.string ((rd_T95 xs i).f2)) ∧ W.frozen? ⟨g, i.toNat * 3, none⟩ = false ∧ W.frozen? ⟨g, i.toNat * 3 + 1, none⟩ = false ∧ W.frozen? ⟨g, i.toNat * 3 + 2, none⟩ = false := by
  obtain ⟨c, hcl, hM, hcc, hfr⟩ := Kd.R_elem h z95 i p q; obtain rfl := k95_openM hM; exact ⟨hcc 0 _ rfl, hcc 1 _ rfl, hcc 2 _ rfl, hfr 0, hfr 1, hfr 2⟩
def impl_DiskSync.j0 : Nat → Int → Bool → Int → List (S95) → Option (Int × (List (S95)) × Int)
 | 0, _, _, _, _ => none
 | k + 1, x1, wK, eK, bP => if wK = true then (some (0, ([] : List (S95)), 1)) else ((impl_copyDisk.f eK bP).bind fun dM => ((impl_fileAt.f eK bP x1).bind fun aG => (if aG < 0 then (some (dM.1, dM.2, 2)) else (if 0 ≤ aG then (if aG < (bP.length : Int) then (if ((rd_T95 bP aG).f1).size + ((rd_T95 bP aG).f2).size ≤ 9223372036854775807 then (if aG < (dM.2.length : Int) then (some (dM.1, (dM.2.set (aG : Int).toNat (⟨x1, ((rd_T95 bP aG).f1) ++ ((rd_T95 bP aG).f2), (⟨#[]⟩ : ByteArray)⟩ : S95)), 0)) else (none)) else (none)) else (none)) else (none)))))
def impl_DiskSync.f (k : Nat) (aC : Int) (aA : List (S95)) (a1 : Int) : Option (Int × (List (S95)) × Int) := (impl_DiskOk.f k aC aA).bind fun gB => (if gB = true then ((impl_isFile.f a1).bind fun fD => (impl_DiskSync.j0 k a1 (!fD) aC aA)) else (impl_DiskSync.j0 k a1 true aC aA))
theorem u10_mq2 {p : Prop} (h : p := by repeat' first | (with_reducible first | exact fO _ _ _ _ | exact impl_DiskOk.mono _ _ _ | exact LeO.refl _ | exact LeO.none _ | refine LeO.ite ?_ ?_ | refine LeO.bind ?_ (fun _ => ?_)) | exact fO _ _ _ _ | exact impl_DiskOk.mono _ _ _ | exact LeO.none _ | refine LeO.ite ?_ ?_ | refine LeO.bind ?_ (fun _ => ?_)) : p := h
set_option maxRecDepth 100000 in
theorem impl_DiskSync.mono_l : ∀ k, (∀ y0 y1 y2 y3, LeO (impl_DiskSync.j0 k y0 y1 y2 y3) (impl_DiskSync.j0 (k + 1) y0 y1 y2 y3))
 | 0 => fun _ _ _ _ r h => by simp [impl_DiskSync.j0] at h
 | k + 1 => by
  have fO := impl_DiskSync.mono_l k
  ·intro y0 y1 y2 y3; unfold impl_DiskSync.j0; exact u10_mq2
theorem impl_DiskSync.mono : ∀ a0 a1 a2 k, LeO (impl_DiskSync.f k a0 a1 a2) (impl_DiskSync.f (k + 1) a0 a1 a2) := by
 intro a0 a1 a2 k
 have fO := impl_DiskSync.mono_l k
 unfold impl_DiskSync.f
 exact u10_mq2
set_option maxHeartbeats 8000000 in
set_option maxRecDepth 100000 in
theorem impl_DiskSync.calls (k : Nat) (aC : Int) (aK : Option Addr) (aJ : Nat) (aA : List (S95)) (a1 : Int) (r1 : Int) (r2 : List (S95)) (r3 : Int) (w : World) (bV : Kd.C k95 w aK aA.length aA) (bW : aA.length ≤ aJ) (h : impl_DiskSync.f k aC aA a1 = some (r1, r2, r3)) :
 Calls Try.prog 68 #[.agg #[.int .i64 aC, .slice aK aA.length aJ], .int .i64 a1] w fun e w' => ∃ v1_ : Value, e = .returned (.tuple #[.agg #[.int .i64 r1, v1_], .int .i64 r3]) ∧ Kd.R k95 95 w' w.heap.size (fun _ => True) v1_ r2 ∧ Below w.heap.size w w' := by
 have jJ := Try.underlying26
 have qQ := Try.underlying95
 have aU := aM bV
 have aV := aM bW
 clear bV bW
 have HB := aM (Below.refl w.heap.size w)
 have H : ((impl_DiskOk.f k aC aA).bind fun gB => (if gB = true then ((impl_isFile.f a1).bind fun fD => (impl_DiskSync.j0 k a1 (!fD) aC aA)) else (impl_DiskSync.j0 k a1 true aC aA))) = some (r1, r2, r3) := h
 clear h
 have rO := aM H
 clear H
 go_enter Try.func68, Try.ntmps68
 go_upto_region 1 with (first | ((with_reducible refine gD 2 rfl ?_); refine boxE (N := 2) rfl (cs := #[.int .i64 aC, .slice aK aA.length aJ]) (t := 26) ?_; intro jG hg w4 hbox hb; have aH := aM (hbox); have uC := aM (xge hg); have uD := aM (xge hg); replace HB := xbs hb; clear hb hbox hg) | ((with_reducible refine gD 4 rfl ?_); refine boxE (N := 4) rfl (cs := #[.int .i64 0, .slice none 0 0]) (t := 26) ?_; intro dN hg w5 hbox hb; have uE := aM (xge hg); have uF := aM (xge hg); replace HB := xbs hb; have bK := nblt aH hg; have bL := nbgt aH hg; replace aH := xbb aH hb; have aI := aM (hbox); clear hb hbox hg))
 (try simp only [Act.put, List.setIfInBounds_toArray, List.set_cons_zero, List.set_cons_succ])
 go_cut [16] (fun wL wc => ∃ (kq : Nat) (eL : Bool), wL = .bool eL ∧ Aside0 (impl_DiskSync.j0 kq a1 eL aC aA = some (r1, r2, r3)) ∧ Aside0 (kq ≤ k) ∧ Aside0 (wc.heap[jG]? = some (.cells #[.int .i64 aC, (.slice aK aA.length aJ)] 26 (0, 0))) ∧ Aside0 (wc.heap[dN]? = some (.cells #[.int .i64 0, (.slice none 0 0)] 26 (0, 0))) ∧ Aside0 (Below w.heap.size w wc))
 case first =>
  have H := rO.out; clear rO; replace H := oB H; obtain ⟨gB, mB, H⟩ := H; (try dsimp only at H); have A6 := aM mB; clear mB
  by_cases c7 : gB = true
  ·subst c7; replace H := iT H; replace H := oB H; obtain ⟨fD, uG, H⟩ := H; (try dsimp only at H); have A8 := aM uG; clear uG
   have H' := aM H; clear H; have rP := bK.out; have rQ := bL.out; obtain ⟨eM, eN, eO, eP⟩ := xf2 (w := w5) aH; go_wp2_with (first | ((with_reducible refine gC 72 rfl ?_); refine goesLY (some 10) rfl Try.func72 #[.agg #[.int .i64 aC, .slice aK aA.length aJ]] ?_; (with_reducible refine (impl_DiskOk.calls k aC _ _ aA true _ ?side1 ?side2 A6.out).mono ?_); (case side1 => exact xcb aU); (case side2 => exact aV.out); rintro e wM ⟨rfl, hb⟩; refine ⟨_, rfl, ?_⟩; replace aH := xbb aH hb; replace aI := xbb aI hb; replace HB := xbs hb; (try clear hb)) | (go_at_call 77; (with_reducible refine (impl_isFile.calls a1 fD _ A8.out).mono ?_); rintro e w' ⟨rfl, ⟨nd, rfl⟩⟩))
   go_meet
   case rel => exact ⟨_, (!fD), u10_0, H', ⟨u10_1⟩, ⟨xblk⟩, ⟨xblk⟩, ⟨xbg⟩⟩
  ·replace c7 := Bool.eq_false_iff.mpr c7; subst c7; replace H := iN H; have H' := aM H; clear H; have uH := bK.out; have uI := bL.out; obtain ⟨iS, iU, iV, iW⟩ := xf2 (w := w5) aH; go_wp2_with (first | ((with_reducible refine gC 72 rfl ?_); refine goesLY (some 10) rfl Try.func72 #[.agg #[.int .i64 aC, .slice aK aA.length aJ]] ?_; (with_reducible refine (impl_DiskOk.calls k aC _ _ aA false _ ?side1 ?side2 A6.out).mono ?_); (case side1 => exact xcb aU); (case side2 => exact aV.out); rintro e xA ⟨rfl, hb⟩; refine ⟨_, rfl, ?_⟩; replace aH := xbb aH hb; replace aI := xbb aI hb; replace HB := xbs hb; (try clear hb)))
   go_meet
   case rel => exact ⟨_, (true), u10_0, H', ⟨u10_1⟩, ⟨xblk⟩, ⟨xblk⟩, ⟨xbg⟩⟩
 case rest =>
  clear rO; try clear c1
  try clear p2
  try clear c6
  try clear c7
  try clear c9
  try clear xD
  try clear eM eN
  try clear iS iU
  try clear eO eP
  try clear iV iW
  obtain ⟨kq, eL, rfl, HA, HJ2, aH, aI, HB⟩ := hcut; cases kq with
  | zero => exact absurd HA.out (by simp [impl_DiskSync.j0])
  | succ xE =>
   have H := HA.out; clear HA; simp only [impl_DiskSync.j0] at H; by_cases oL : eL = true
   ·subst oL; replace H := iT H; simp only [Option.some.injEq, Prod.mk.injEq] at H; obtain ⟨rfl, rfl, rfl⟩ := H; have uJ := bL.out; have uK := bK.out; obtain ⟨oM, oN, oO, oP⟩ := xf2 (w := wc) aI; go_wp2; refine bodyPost_ret (results_ct rfl _ _ dN 26 #[.int .i64 0, .slice none 0 0] (0, 0) _ rfl xP Try.underlying26 rfl (by kernel_rfl)) rfl ?_; exact ⟨_, xerr, u10_3, xbg⟩
   ·replace oL := Bool.eq_false_iff.mpr oL; subst oL; replace H := iN H; replace H := oB H; obtain ⟨⟨dO, bU⟩, mC, H⟩ := H; (try dsimp only at H); have uL := aM mC; clear mC; replace H := oB H
    obtain ⟨aG, fP, H⟩ := H; (try dsimp only at H); have kG := aM fP; clear fP
    by_cases dC : aG < 0
    ·rw [if_pos dC] at H; have fQ : decide (aG < 0) = true := decide_eq_true dC; clear dC; simp only [Option.some.injEq, Prod.mk.injEq] at H; obtain ⟨rfl, rfl, rfl⟩ := H; have lM := bK.out; have lN := bL.out; obtain ⟨eF, eG, eH, eI⟩ := xf2 (w := wc) aH; go_wp2_with (first | ((with_reducible refine gC 80 rfl ?_); refine goesLY (some 19) rfl Try.func80 #[.agg #[.int .i64 aC, .slice aK aA.length aJ]] ?_; (with_reducible refine (impl_copyDisk.calls aC _ _ aA dO bU _ ?side1 ?side2 uL.out).mono ?_); (case side1 => exact xcb aU); (case side2 => exact aV.out); rintro e qR ⟨rR, rfl, bR, hb⟩; refine ⟨_, rfl, ?_⟩; have aQ := aM (Kd.R_lower bR (below_size xbg)); replace aH := xbb aH hb; replace aI := xbb aI hb; replace HB := xbs hb; (try clear hb bR)) | ((with_reducible refine gD 6 rfl ?_); refine boxE (N := 6) rfl (cs := #[.int .i64 0, .slice none 0 0]) (t := 26) ?_; intro eQ hg rS hbox hb; replace aQ := xrb aQ hb; have mD := aM (xge hg); have mE := aM (xge hg); replace HB := xbs hb; have cB := nblt aH hg; have cC := nbgt aH hg; have cD := nblt aI hg; have cE := nbgt aI hg; replace aH := xbb aH hb; replace aI := xbb aI hb; have bB := aM (hbox); clear hb hbox hg; have uM := cC.out; have uN := cB.out; have mF := cE.out; have mG := cD.out; obtain ⟨gR, gS, gT, gU⟩ := xf2 (w := rS) bB; obtain ⟨gV, gW, jM⟩ := Kd.R_slice aQ.out; subst jM; obtain ⟨oQ, oR, oT, oU⟩ := xf2 (w := rS) aH) | ((with_reducible refine gC 129 rfl ?_); refine goesLY (some 22) rfl Try.func129 #[.agg #[.int .i64 aC, .slice aK aA.length aJ], .int .i64 a1] ?_; (with_reducible refine (impl_fileAt.calls aC _ _ aA a1 aG _ ?side1 ?side2 kG.out).mono ?_); (case side1 => exact Kd.C_below aU.out xbg); (case side2 => exact aV.out); rintro e uO ⟨rfl, hb⟩; refine ⟨_, rfl, ?_⟩; replace aQ := xrB aQ hb; replace aH := xbc aH hb; replace aI := xbc aI hb; replace bB := aM (blk_below (g := eQ) (o := .cells #[.int .i64 dO, .slice gV bU.length gW] 26 (0, 0)) xP hb); replace HB := xbs hb; (try clear hb); obtain ⟨oV, oW, oX, oY⟩ := xf2 (w := uO) bB; obtain ⟨oZ, pA, pB, pC⟩ := xf2 (w := uO) aI))
     refine bodyPost_ret (results_ct rfl _ _ dN 26 #[.int .i64 dO, .slice gV bU.length gW] (0, 0) _ rfl xP Try.underlying26 rfl (by kernel_rfl)) rfl ?_; exact ⟨_, xerr, xrm aQ (fun _ _ => trivial), xbg⟩
    ·rw [if_neg dC] at H; have fQ : decide (aG < 0) = false := decide_eq_false dC; clear dC; by_cases pD : 0 ≤ aG
     ·rw [if_pos pD] at H; have uP : decide (0 ≤ aG) = true := decide_eq_true pD; clear pD; by_cases pE : aG < (aA.length : Int)
      ·rw [if_pos pE] at H; have uQ : decide (aG < (aA.length : Int)) = true := decide_eq_true pE; clear pE; by_cases mH : ((rd_T95 aA aG).f1).size + ((rd_T95 aA aG).f2).size ≤ 9223372036854775807
       ·rw [if_pos mH] at H; have uR := eq_true mH; have uS : decide (((rd_T95 aA aG).f1).size + ((rd_T95 aA aG).f2).size ≤ 9223372036854775807) = true := decide_eq_true mH; try have uT : (9223372036854775807 < ((rd_T95 aA aG).f1).size + ((rd_T95 aA aG).f2).size) = False := eq_false (Nat.not_lt.2 mH)
        by_cases pF : aG < (bU.length : Int)
        ·rw [if_pos pF] at H; have uU : decide (aG < (bU.length : Int)) = true := decide_eq_true pF; clear pF; obtain ⟨mI, dP⟩ : ∃ y_ : List (S95), y_ = (bU.set (aG : Int).toNat (⟨a1, ((rd_T95 aA aG).f1) ++ ((rd_T95 aA aG).f2), (⟨#[]⟩ : ByteArray)⟩ : S95)) := ⟨_, rfl⟩; replace H : (some (dO, mI, 0)) = some (r1, r2, r3) := by first | (rw [dP]; with_reducible exact H) | (have H2_ := oS H; rw [dP]; with_reducible exact H2_) | (have H2_ := oS H; with_reducible exact H2_) | with_reducible exact H | (rw [dP]; exact H) | exact H
         have mJ := aM dP; clear dP; simp only [Option.some.injEq, Prod.mk.injEq] at H; obtain ⟨rfl, rfl, rfl⟩ := H; have uV := bK.out; have uW := bL.out; obtain ⟨gX, gY, gZ, hJ⟩ := xf2 (w := wc) aH
         go_wp2_with (first | ((with_reducible refine gC 80 rfl ?_); refine goesLY (some 19) rfl Try.func80 #[.agg #[.int .i64 aC, .slice aK aA.length aJ]] ?_; (with_reducible refine (impl_copyDisk.calls aC _ _ aA dO bU _ ?side1 ?side2 uL.out).mono ?_); (case side1 => exact xcb aU); (case side2 => exact aV.out); rintro e xF ⟨rR, rfl, bR, hb⟩; refine ⟨_, rfl, ?_⟩; have aQ := aM (Kd.R_lower bR (below_size xbg)); replace aH := xbb aH hb; replace aI := xbb aI hb; replace HB := xbs hb; (try clear hb bR)) | ((with_reducible refine gD 6 rfl ?_); refine boxE (N := 6) rfl (cs := #[.int .i64 0, .slice none 0 0]) (t := 26) ?_; intro eQ hg oG hbox hb; replace aQ := xrb aQ hb; have mD := aM (xge hg); have mE := aM (xge hg); replace HB := xbs hb; have cB := nblt aH hg; have cC := nbgt aH hg; have cD := nblt aI hg; have cE := nbgt aI hg; replace aH := xbb aH hb; replace aI := xbb aI hb; have bB := aM (hbox); clear hb hbox hg; have lW := cC.out; have lX := cB.out; have uX := cE.out; have uY := cD.out; obtain ⟨pG, pH, pI, pJ⟩ := xf2 (w := oG) bB; obtain ⟨mK, dW, iL⟩ := Kd.R_slice aQ.out; subst iL; obtain ⟨iO, iP, iQ, iR⟩ := xf2 (w := oG) aH) | ((with_reducible refine gC 129 rfl ?_); refine goesLY (some 22) rfl Try.func129 #[.agg #[.int .i64 aC, .slice aK aA.length aJ], .int .i64 a1] ?_; (with_reducible refine (impl_fileAt.calls aC _ _ aA a1 aG _ ?side1 ?side2 kG.out).mono ?_); (case side1 => exact Kd.C_below aU.out xbg); (case side2 => exact aV.out); rintro e qS ⟨rfl, hb⟩; refine ⟨_, rfl, ?_⟩; replace aQ := xrB aQ hb; replace aH := xbc aH hb; replace aI := xbc aI hb; replace bB := aM (blk_below (g := eQ) (o := .cells #[.int .i64 dO, .slice mK bU.length dW] 26 (0, 0)) xP hb); replace HB := xbs hb; (try clear hb); obtain ⟨pK, pL, pM, pN⟩ := xf2 (w := qS) aH; have p510 : 0 ≤ (aG : Int) := oda; have q510 : aG < (aA.length : Int) := oda; obtain ⟨mL, rT, eR, eS, eT⟩ := at_T95 aU.out aG p510 q510; cases rT; replace eR := xce HB eR; replace eS := xce HB eS; replace eT := xce HB eT; replace p510 := eq_true p510; replace q510 := eq_true q510) | ((with_reducible refine gD 8 rfl ?_); refine boxE (N := 8) rfl (cs := #[.int .i64 0, .string (⟨#[]⟩ : ByteArray), .string (⟨#[]⟩ : ByteArray)]) (t := 95) ?_; intro bM hg uZ hbox hb; replace aQ := aM (Kd.R_below (Kd.R_elderB (xr aQ) bM (Nat.le_of_eq hg.symm)) hb); have vA := aM (xge hg); have vB := aM (xge hg); replace HB := xbs hb; have fE := nblt aH hg; have fF := nbgt aH hg; have fG := nblt aI hg; have fH := nbgt aI hg; have fI := nblt bB hg; have fJ := nbgt bB hg; replace aH := xbb aH hb; replace aI := xbb aI hb; replace bB := xbb bB hb; have eU := aM (hbox); clear hb hbox hg; have vC := fF.out; have vD := fE.out; have vE := fH.out; have vF := fG.out; have vG := fJ.out; have vH := fI.out; obtain ⟨pO, pP, pQ, pR, pS, pT⟩ := xf3 (w := uZ) eU) | ((with_reducible refine gate_store (t := 95) (p := 8) rfl ?_); refine store_event (t := 95) (p := 8) (v := ?vo_w54) (w1 := (((uZ.setCell ⟨bM, 0, none⟩ (.int .i64 ((rd_T95 aA aG).f0))).setCell ⟨bM, 1, none⟩ (.string ((rd_T95 aA aG).f1))).setCell ⟨bM, 2, none⟩ (.string ((rd_T95 aA aG).f2)))) ?hg ?ho ?hn ?hr ?_; (case ho | hg | hn => rfl); (case hr => exact u10_2); intro jW hw; replace aQ : Aside0 (Kd.R k95 95 jW w.heap.size (fun k_ => k_ ≠ bM) (.slice mK bU.length dW) bU) := ⟨(by rw [hw]; exact (by (with_reducible repeat (first | apply Kd.R_alloc | apply Kd.R_drewN | apply Kd.R_drew)); exact Kd.R_mono (Kd.R_far (p := ⟨bM, 2, none⟩) (Kd.R_far (p := ⟨bM, 1, none⟩) (Kd.R_far (p := ⟨bM, 0, none⟩) (Kd.R_mono aQ.out (fun k_ hk => (⟨hk, hk.2⟩ : _ ∧ k_ ≠ bM))) (fun _ hk => hk.2) (.int .i64 ((rd_T95 aA aG).f0))) (fun _ hk => hk.2) (.string ((rd_T95 aA aG).f1))) (fun _ hk => hk.2) (.string ((rd_T95 aA aG).f2))) (fun _ hk => hk.1.2)))⟩; replace aH := xwc hw aH; replace aI := xwc hw aI; replace bB := xwc hw bB; replace eU : Aside0 (jW.heap[bM]? = some (.cells #[.int .i64 ((rd_T95 aA aG).f0), .string ((rd_T95 aA aG).f1), .string ((rd_T95 aA aG).f2)] 95 (0, 0))) := xwp hw; replace HB := xbw hw HB; clear hw; obtain ⟨pU, pV, pW, pX⟩ := xf2 (w := jW) bB; obtain ⟨iA, iB, pY, iC, iD, pZ⟩ := xf3 (w := jW) eU; have p37 : 0 ≤ (aG : Int) := oda; have q37 : (aG : Int) < ((bU.length : Int) : Int) := oda; obtain ⟨dQ, jV, iM, mM, gl37, cl37, HG37⟩ := Kd.R_form aQ.out (by omega); (first | cases iM | (injection iM with ea_ en_ ec_; (first | subst ea_ | (injection ea_ with ea_; subst ea_)); subst ec_; clear en_)); have GB37 := aM mM; have GG37 := aM HG37; clear mM gl37 HG37; obtain ⟨rU, rV, rW, rX, rY, rZ⟩ := impl_DiskSync.e95 aQ.out (aG : Int) p37 q37; replace p37 := eq_true p37; replace q37 := eq_true q37; have mN := aM (show Kd.R k95 95 jW w.heap.size (fun k_ => k_ ≠ bM) (.slice (some ⟨dQ, 0, none⟩) bU.length dW) bU from (xr aQ)); obtain ⟨ce57, jH, mO, dR, eV⟩ := Kd.R_elem mN.out z95 (aG : Int) (oda) (by have h_ : (aG : Int) < ((bU.length : Int) : Int) := oda; first | exact h_ | (have e_ := (Kd.R_reads' aQ.out).1; omega) | simpa using h_); obtain rfl := k95_openM mO; have jX := Kd.R_seg mN.out (aG : Int) (oda) (by have h_ : (aG : Int) < ((bU.length : Int) : Int) := oda; first | exact h_ | (have e_ := (Kd.R_reads' aQ.out).1; omega) | simpa using h_) (seg := [.int .i64 a1, .string (((rd_T95 aA aG).f1) ++ ((rd_T95 aA aG).f2)), .string (⟨#[]⟩ : ByteArray)]) (j := 0) jH dR (show 3 ≤ 3 from by decide) (x' := (⟨a1, ((rd_T95 aA aG).f1) ++ ((rd_T95 aA aG).f2), (⟨#[]⟩ : ByteArray)⟩ : S95)) (k95_mkM _ _ _ (⟨a1, ((rd_T95 aA aG).f1) ++ ((rd_T95 aA aG).f2), (⟨#[]⟩ : ByteArray)⟩ : S95) ) (fun _ hk => hk); have jY := dR 0 _ rfl; (try simp only [show (k95).sz = 3 from rfl, Nat.mul_one, Nat.add_zero] at jY); have jZ := eV 0; (try simp only [show (k95).sz = 3 from rfl, Nat.mul_one, Nat.add_zero] at jZ); have kA := dR 1 _ rfl; (try simp only [show (k95).sz = 3 from rfl, Nat.mul_one, Nat.add_zero] at kA); have kB := eV 1; (try simp only [show (k95).sz = 3 from rfl, Nat.mul_one, Nat.add_zero] at kB); have kC := dR 2 _ rfl; (try simp only [show (k95).sz = 3 from rfl, Nat.mul_one, Nat.add_zero] at kC); have kE := eV 2; (try simp only [show (k95).sz = 3 from rfl, Nat.mul_one, Nat.add_zero] at kE); clear jH dR eV mO) | ((with_reducible refine gate_store (t := 95) (p := 41) rfl ?_); refine store_event (t := 95) (p := 41) (v := ?vo_w58) (w1 := (((jW.setCell ⟨dQ, (aG : Int).toNat * 3, none⟩ (.int .i64 a1)).setCell ⟨dQ, (aG : Int).toNat * 3 + 1, none⟩ (.string (((rd_T95 aA aG).f1) ++ ((rd_T95 aA aG).f2)))).setCell ⟨dQ, (aG : Int).toNat * 3 + 2, none⟩ (.string (⟨#[]⟩ : ByteArray)))) ?hg ?ho ?hn ?hr ?_; (case ho | hg | hn => rfl); (case hr => exact u10_2); intro fM hw; have hg : jW.grownBy fM (some dQ) := (by rw [hw]; exact jX.2); have hp_ : Kd.R k95 95 fM w.heap.size (fun k_ => k_ ≠ bM) (.slice (some ⟨dQ, 0, none⟩) bU.length dW) mI := (by rw [hw, mJ.out]; exact jX.1); clear jX; replace aH := aM (blk_grown (g := jG) (o := .cells #[.int .i64 aC, .slice (some mL) aA.length aJ] 26 (0, 0)) xblk hg (Kd.R_ne aQ.out aH.out (by decide))); replace aI := aM (blk_grown (g := dN) (o := .cells #[.int .i64 0, .slice none 0 0] 26 (0, 0)) xblk hg (Kd.R_ne aQ.out aI.out (by decide))); replace bB := aM (blk_grown (g := eQ) (o := .cells #[.int .i64 dO, .slice (some ⟨dQ, 0, none⟩) bU.length dW] 26 (0, 0)) xblk hg (Kd.R_ne aQ.out bB.out (by decide))); replace eU := aM (blk_grown (g := bM) (o := .cells #[.int .i64 ((rd_T95 aA aG).f0), .string ((rd_T95 aA aG).f1), .string ((rd_T95 aA aG).f2)] 95 (0, 0)) xblk hg (Kd.R_away aQ.out (fun _ hk => hk))); replace aQ := aM (hp_); replace HB := aM ((by rw [hw]; exact below_set (below_set (below_set (HB.out) GB37.out) GB37.out) GB37.out : Below w.heap.size w fM)); clear hg hw hp_; obtain ⟨iE, iF, iG, iH⟩ := xf2 (w := fM) bB; obtain ⟨qA, qB, qC, qD⟩ := xf2 (w := fM) aI))
         refine bodyPost_ret (results_ct rfl _ _ dN 26 #[.int .i64 dO, .slice (some ⟨dQ, 0, none⟩) bU.length dW] (0, 0) _ rfl xP Try.underlying26 rfl (by kernel_rfl)) rfl ?_; exact ⟨_, xerr, xrm aQ (fun _ _ => trivial), xbg⟩
        ·rw [if_neg pF] at H; exact absurd H (by simp)
       ·rw [if_neg mH] at H; exact absurd H (by simp)
      ·rw [if_neg pE] at H; exact absurd H (by simp)
     ·rw [if_neg pD] at H; exact absurd H (by simp)

/-! ### impl_JournalAdd: function 18 -/
def impl_JournalAdd.f (k : Nat) (aC : Int) (aA : List (S95)) (a1 : Int) (l2 : List ByteArray) : Option (Int × (List (S95)) × Int) := (impl_JournalLate.f k aC aA a1 l2).bind fun bN => (if bN.2.2 = 0 then ((impl_DiskSync.f k bN.1 bN.2.1 a1).bind fun cV => (some (cV.1, cV.2.1, cV.2.2))) else (some (bN.1, bN.2.1, bN.2.2)))
theorem u10_mq3 {p : Prop} (h : p := by repeat' first | (with_reducible first | exact impl_DiskSync.mono _ _ _ _ | exact impl_JournalLate.mono _ _ _ _ _ | exact LeO.refl _ | exact LeO.none _ | refine LeO.ite ?_ ?_ | refine LeO.bind ?_ (fun _ => ?_)) | exact impl_DiskSync.mono _ _ _ _ | exact impl_JournalLate.mono _ _ _ _ _ | exact LeO.none _ | refine LeO.ite ?_ ?_ | refine LeO.bind ?_ (fun _ => ?_)) : p := h
theorem impl_JournalAdd.mono : ∀ a0 a1 a2 a3 k, LeO (impl_JournalAdd.f k a0 a1 a2 a3) (impl_JournalAdd.f (k + 1) a0 a1 a2 a3) := by
 intro a0 a1 a2 a3 k
 unfold impl_JournalAdd.f
 exact u10_mq3
set_option maxHeartbeats 8000000 in
set_option maxRecDepth 100000 in
theorem impl_JournalAdd.calls (k : Nat) (aC : Int) (aK : Option Addr) (aJ : Nat) (aA : List (S95)) (a1 : Int) (A2 : Option Addr) (c2 : Nat) (l2 : List ByteArray) (r1 : Int) (r2 : List (S95)) (r3 : Int) (w : World) (bV : Kd.C k95 w aK aA.length aA) (bW : aA.length ≤ aJ) (lH : Kd.C Kd.string w A2 l2.length l2) (lI : l2.length ≤ c2) (h : impl_JournalAdd.f k aC aA a1 l2 = some (r1, r2, r3)) :
 Calls Try.prog 18 #[.agg #[.int .i64 aC, .slice aK aA.length aJ], .int .i64 a1, .slice A2 l2.length c2] w fun e w' => ∃ v1_ : Value, e = .returned (.tuple #[.agg #[.int .i64 r1, v1_], .int .i64 r3]) ∧ Kd.R k95 95 w' w.heap.size (fun _ => True) v1_ r2 ∧ Below w.heap.size w w' := by
 have jJ := Try.underlying26
 have aU := aM bV
 have aV := aM bW
 clear bV bW
 have lJ := aM lH
 have rC := aM lI
 clear lH lI
 have HB := aM (Below.refl w.heap.size w)
 have H : ((impl_JournalLate.f k aC aA a1 l2).bind fun bN => (if bN.2.2 = 0 then ((impl_DiskSync.f k bN.1 bN.2.1 a1).bind fun cV => (some (cV.1, cV.2.1, cV.2.2))) else (some (bN.1, bN.2.1, bN.2.2)))) = some (r1, r2, r3) := h
 clear h
 replace H := oB H
 obtain ⟨⟨cX, cM, kF⟩, vI, H⟩ := H
 (try dsimp only at H)
 have A4 := aM vI
 clear vI
 by_cases c5 : kF = 0
 ·rw [if_pos c5] at H; obtain ⟨sA, sB⟩ := bT c5; clear c5; replace H := oB H; obtain ⟨⟨mP, mQ, sC⟩, mB, H⟩ := H; (try dsimp only at H); have A6 := aM mB; clear mB
  simp only [Option.some.injEq, Prod.mk.injEq] at H; obtain ⟨rfl, rfl, rfl⟩ := H; go_enter Try.func18, Try.ntmps18
  go_wp2_with (first | ((with_reducible refine gD 3 rfl ?_); refine boxE (N := 3) rfl (cs := #[.int .i64 aC, .slice aK aA.length aJ]) (t := 26) ?_; intro mR hg w7 hbox hb; have aT := aM (hbox); have mS := aM (xge hg); have mT := aM (xge hg); replace HB := xbs hb; clear hb hbox hg) | ((with_reducible refine gD 6 rfl ?_); refine boxE (N := 6) rfl (cs := #[.int .i64 0, .slice none 0 0]) (t := 26) ?_; intro dB hg w8 hbox hb; have mU := aM (xge hg); have mV := aM (xge hg); replace HB := xbs hb; have cF := nblt aT hg; have cG := nbgt aT hg; replace aT := xbb aT hb; have aZ := aM (hbox); clear hb hbox hg; have rP := cF.out; have rQ := cG.out; obtain ⟨eM, eN, eO, eP⟩ := xf2 (w := w8) aT) | ((with_reducible refine gC 20 rfl ?_); refine goesLY (some 14) rfl Try.func20 #[.agg #[.int .i64 aC, .slice aK aA.length aJ], .int .i64 a1, .slice A2 l2.length c2] ?_; (with_reducible refine (impl_JournalLate.calls k aC _ _ aA a1 _ _ l2 cX cM kF _ ?side1 ?side2 ?side3 ?side4 A4.out).mono ?_); (case side1 => exact xcb aU); (case side2 => exact aV.out); (case side3 => exact xcb lJ); (case side4 => exact rC.out); rintro e wM ⟨sD, rfl, bR, hb⟩; refine ⟨_, rfl, ?_⟩; have bJ := aM (Kd.R_lower bR (below_size xbg)); replace aT := xbb aT hb; replace aZ := xbb aZ hb; replace HB := xbs hb; (try clear hb bR)) | ((with_reducible refine gD 8 rfl ?_); refine boxE (N := 8) rfl (cs := #[.int .i64 0, .slice none 0 0]) (t := 26) ?_; intro dS hg sR hbox hb; replace bJ := xrb bJ hb; have mW := aM (xge hg); have mX := aM (xge hg); replace HB := xbs hb; have cH := nblt aT hg; have cI := nbgt aT hg; have cJ := nblt aZ hg; have cK := nbgt aZ hg; replace aT := xbb aT hb; replace aZ := xbb aZ hb; have dU := aM (hbox); clear hb hbox hg; have kM := cI.out; have kN := cH.out; have lK := cK.out; have lL := cJ.out; obtain ⟨dD, dE, dF, dG⟩ := xf2 (w := sR) dU; obtain ⟨mY, mZ, sE⟩ := Kd.R_slice bJ.out; subst sE) | ((with_reducible refine gC 68 rfl ?_); refine goesLY (some 23) rfl Try.func68 #[.agg #[.int .i64 cX, .slice mY cM.length mZ], .int .i64 a1] ?_; (with_reducible refine (impl_DiskSync.calls k cX _ _ cM a1 mP mQ sC _ ?side1 ?side2 A6.out).mono ?_); (case side1 => exact (Kd.R_reads' (xrs bJ)).2.2); (case side2 => exact (Kd.R_reads' bJ.out).2.1); rintro e wN ⟨wO, rfl, bR, hb⟩; refine ⟨_, rfl, ?_⟩; have jI := aM (Kd.R_lower (Kd.R_new' bR (Kd.R_lt (xrs bJ))) (below_size xbg)); replace bJ := aM (Kd.R_elder' (xrs bJ) (Kd.R_base bR) hb); replace aT := xbc aT hb; replace aZ := xbc aZ hb; replace dU := aM (blk_below (g := dS) (o := .cells #[.int .i64 cX, .slice mY cM.length mZ] 26 (0, 0)) xP hb); replace HB := xbs hb; (try clear hb bR); obtain ⟨cN, cO, cP, cQ⟩ := xf2 (w := wN) aZ; obtain ⟨sF, sG, sH⟩ := Kd.R_slice jI.out; subst sH))
  refine bodyPost_ret (results_ct rfl _ _ dB 26 #[.int .i64 mP, .slice sF mQ.length sG] (0, 0) _ rfl xP Try.underlying26 rfl (by kernel_rfl)) rfl ?_; exact ⟨_, xerr, xrm jI (fun _ _ => trivial), xbg⟩
 ·rw [if_neg c5] at H; obtain ⟨sA, sB⟩ := bF c5; simp only [Option.some.injEq, Prod.mk.injEq] at H; obtain ⟨rfl, rfl, rfl⟩ := H; go_enter Try.func18, Try.ntmps18
  go_wp2_with (first | ((with_reducible refine gD 3 rfl ?_); refine boxE (N := 3) rfl (cs := #[.int .i64 aC, .slice aK aA.length aJ]) (t := 26) ?_; intro mR hg xG hbox hb; have aT := aM (hbox); have mS := aM (xge hg); have mT := aM (xge hg); replace HB := xbs hb; clear hb hbox hg) | ((with_reducible refine gD 6 rfl ?_); refine boxE (N := 6) rfl (cs := #[.int .i64 0, .slice none 0 0]) (t := 26) ?_; intro dB hg wP hbox hb; have mU := aM (xge hg); have mV := aM (xge hg); replace HB := xbs hb; have cF := nblt aT hg; have cG := nbgt aT hg; replace aT := xbb aT hb; have aZ := aM (hbox); clear hb hbox hg; have vJ := cF.out; have vK := cG.out; obtain ⟨qE, qF, qG, qH⟩ := xf2 (w := wP) aT) | ((with_reducible refine gC 20 rfl ?_); refine goesLY (some 14) rfl Try.func20 #[.agg #[.int .i64 aC, .slice aK aA.length aJ], .int .i64 a1, .slice A2 l2.length c2] ?_; (with_reducible refine (impl_JournalLate.calls k aC _ _ aA a1 _ _ l2 cX cM kF _ ?side1 ?side2 ?side3 ?side4 A4.out).mono ?_); (case side1 => exact xcb aU); (case side2 => exact aV.out); (case side3 => exact xcb lJ); (case side4 => exact rC.out); rintro e rS ⟨sD, rfl, bR, hb⟩; refine ⟨_, rfl, ?_⟩; have bJ := aM (Kd.R_lower bR (below_size xbg)); replace aT := xbb aT hb; replace aZ := xbb aZ hb; replace HB := xbs hb; (try clear hb bR)) | ((with_reducible refine gD 8 rfl ?_); refine boxE (N := 8) rfl (cs := #[.int .i64 0, .slice none 0 0]) (t := 26) ?_; intro dS hg sI hbox hb; replace bJ := xrb bJ hb; have mW := aM (xge hg); have mX := aM (xge hg); replace HB := xbs hb; have cH := nblt aT hg; have cI := nbgt aT hg; have cJ := nblt aZ hg; have cK := nbgt aZ hg; replace aT := xbb aT hb; replace aZ := xbb aZ hb; have dU := aM (hbox); clear hb hbox hg; have mF := cI.out; have mG := cH.out; have vL := cK.out; have vM := cJ.out; obtain ⟨qI, qJ, qK, qL⟩ := xf2 (w := sI) dU; obtain ⟨fK, fL, sJ⟩ := Kd.R_slice bJ.out; subst sJ; obtain ⟨qM, qN, qO, qP⟩ := xf2 (w := sI) aZ) | ((with_reducible refine gate_store (t := 26) (p := 6) rfl ?_); refine store_event (t := 26) (p := 6) (v := ?vo_w31) (w1 := ((((sI.setCell ⟨dS, 0, none⟩ (.int .i64 cX)).setCell ⟨dS, 1, none⟩ (.slice fK cM.length fL)).setCell ⟨dB, 0, none⟩ (.int .i64 cX)).setCell ⟨dB, 1, none⟩ (.slice fK cM.length fL))) ?hg ?ho ?hn ?hr ?_; (case ho | hg | hn => rfl); (case hr => exact u10_2); intro sK hw; replace bJ : Aside0 (Kd.R k95 95 sK w.heap.size (fun _ => True) (.slice fK cM.length fL) cM) := xwm hw bJ (fun _ _ => trivial); replace aT := xwc hw aT; replace aZ : Aside0 (sK.heap[dB]? = some (.cells #[.int .i64 cX, .slice fK cM.length fL] 26 (0, 0))) := xwp hw; replace dU : Aside0 (sK.heap[dS]? = some (.cells #[.int .i64 cX, .slice fK cM.length fL] 26 (0, 0))) := xwp hw; replace HB := xbw hw HB; clear hw))
  refine bodyPost_ret (results_ct rfl _ _ dB 26 #[.int .i64 cX, .slice fK cM.length fL] (0, 0) _ rfl xblk Try.underlying26 rfl (by kernel_rfl)) rfl ?_; exact ⟨_, xerr, by (with_reducible repeat (first | apply Kd.R_alloc | apply Kd.R_drewN | apply Kd.R_drew)); exact bJ.out, xbg⟩

/-! ### impl_isWhole: function 194 -/
def impl_isWhole.f (a0 : Int) : Option (Bool) := (impl_within.f a0 0 1000000000).bind fun gE => (some gE)
set_option maxHeartbeats 8000000 in
set_option maxRecDepth 100000 in
theorem impl_isWhole.calls (a0 : Int) (r : Bool) (w : World) (h : impl_isWhole.f a0 = some r) :
 Calls Try.prog 194 #[.int .i64 a0] w fun e w' => e = .returned (.bool r) ∧ Drawn0 w w' := by
 have H : ((impl_within.f a0 0 1000000000).bind fun gE => (some gE)) = some r := h
 clear h
 replace H := oB H
 obtain ⟨gE, gF, H⟩ := H
 (try dsimp only at H)
 have A2 := aM gF
 clear gF
 obtain rfl := Option.some.inj H
 go_enter Try.func194, Try.ntmps194
 go_wp2_with (first | ((with_reducible refine gC 99 rfl ?_); refine goesLY (some 4) rfl Try.func99 #[.int .i64 a0, .int .i64 0, .int .i64 1000000000] ?_; (with_reducible refine (impl_within.calls a0 0 1000000000 gE _ A2.out).mono ?_); rintro e w' ⟨rfl, ⟨nd, rfl⟩⟩; refine ⟨_, rfl, ?_⟩))
 go_ret
 exact ⟨u10_0, u10_4⟩

/-! ### impl_isRelease: function 96 -/
def impl_isRelease.f (a0 : Int) : Option (Bool) := (impl_within.f a0 1 1000).bind fun gG => (some gG)
set_option maxHeartbeats 8000000 in
set_option maxRecDepth 100000 in
theorem impl_isRelease.calls (a0 : Int) (r : Bool) (w : World) (h : impl_isRelease.f a0 = some r) :
 Calls Try.prog 96 #[.int .i64 a0] w fun e w' => e = .returned (.bool r) ∧ Drawn0 w w' := by
 have H : ((impl_within.f a0 1 1000).bind fun gG => (some gG)) = some r := h
 clear h
 replace H := oB H
 obtain ⟨gG, gF, H⟩ := H
 (try dsimp only at H)
 have A2 := aM gF
 clear gF
 obtain rfl := Option.some.inj H
 go_enter Try.func96, Try.ntmps96
 go_wp2_with (first | ((with_reducible refine gC 99 rfl ?_); refine goesLY (some 4) rfl Try.func99 #[.int .i64 a0, .int .i64 1, .int .i64 1000] ?_; (with_reducible refine (impl_within.calls a0 1 1000 gG _ A2.out).mono ?_); rintro e w' ⟨rfl, ⟨nd, rfl⟩⟩; refine ⟨_, rfl, ?_⟩))
 go_ret
 exact ⟨u10_0, u10_4⟩

/-! ### impl_isSize: function 97 -/
def impl_isSize.f (a0 : Int) : Option (Bool) := (impl_within.f a0 0 1000).bind fun gH => (some gH)
set_option maxHeartbeats 8000000 in
set_option maxRecDepth 100000 in
theorem impl_isSize.calls (a0 : Int) (r : Bool) (w : World) (h : impl_isSize.f a0 = some r) :
 Calls Try.prog 97 #[.int .i64 a0] w fun e w' => e = .returned (.bool r) ∧ Drawn0 w w' := by
 have H : ((impl_within.f a0 0 1000).bind fun gH => (some gH)) = some r := h
 clear h
 replace H := oB H
 obtain ⟨gH, gF, H⟩ := H
 (try dsimp only at H)
 have A2 := aM gF
 clear gF
 obtain rfl := Option.some.inj H
 go_enter Try.func97, Try.ntmps97
 go_wp2_with (first | ((with_reducible refine gC 99 rfl ?_); refine goesLY (some 4) rfl Try.func99 #[.int .i64 a0, .int .i64 0, .int .i64 1000] ?_; (with_reducible refine (impl_within.calls a0 0 1000 gH _ A2.out).mono ?_); rintro e w' ⟨rfl, ⟨nd, rfl⟩⟩; refine ⟨_, rfl, ?_⟩))
 go_ret
 exact ⟨u10_0, u10_4⟩

/-! ### impl_isNode: function 199 -/
def impl_isNode.f (a0 : Int) : Option (Bool) := (impl_within.f a0 0 4).bind fun gI => (some gI)
set_option maxHeartbeats 8000000 in
set_option maxRecDepth 100000 in
theorem impl_isNode.calls (a0 : Int) (r : Bool) (w : World) (h : impl_isNode.f a0 = some r) :
 Calls Try.prog 199 #[.int .i64 a0] w fun e w' => e = .returned (.bool r) ∧ Drawn0 w w' := by
 have H : ((impl_within.f a0 0 4).bind fun gI => (some gI)) = some r := h
 clear h
 replace H := oB H
 obtain ⟨gI, gF, H⟩ := H
 (try dsimp only at H)
 have A2 := aM gF
 clear gF
 obtain rfl := Option.some.inj H
 go_enter Try.func199, Try.ntmps199
 go_wp2_with (first | ((with_reducible refine gC 99 rfl ?_); refine goesLY (some 4) rfl Try.func99 #[.int .i64 a0, .int .i64 0, .int .i64 4] ?_; (with_reducible refine (impl_within.calls a0 0 4 gI _ A2.out).mono ?_); rintro e w' ⟨rfl, ⟨nd, rfl⟩⟩; refine ⟨_, rfl, ?_⟩))
 go_ret
 exact ⟨u10_0, u10_4⟩

end Go.Proofs.Ytoojdlobnbakoaa.QFnExactHardSave
