-- A walk, by a program of this session.
import Derived.Test.YtoojdlobnbakoaaQFnJournalx0
namespace Go.Proofs.Ytoojdlobnbakoaa.QFnJournal
open Go.RowKit Go.Proofs.YtoojdlobnbakoaaW.PrintWords Go.Proofs.YtoojdlobnbakoaaW.PrintLast Go.Proofs.YtoojdlobnbakoaaW.PrintMore
attribute [local go_sem] max2_int min2_int max_two min_two max_three min_three max_four min_four   -- for this text's walks alone
set_option linter.unusedVariables false
set_option linter.unusedSimpArgs false

theorem u5_0 {p : Prop} (h : p := by first | rfl | (simp; done) | (simp [*]; done)) : p := h
theorem u5_1 {p : Prop} (h : p := by first | (rw [hY]; with_reducible exact H) | (have H2_ := oS H; rw [hY]; with_reducible exact H2_) | (have H2_ := oS H; with_reducible exact H2_) | with_reducible exact H | (rw [hY]; exact H) | exact H) : p := h
theorem u5_2 {p : Prop} (h : p := by first | (go_simp; done) | (go_simp; rfl)) : p := h
theorem u5_3 {p : Prop} (h : p := by first | omega | exact Nat.le_refl _) : p := h
theorem u5_4 {p : Prop} (h : p := by first | exact Kd.R_nil _ _ _ _ _ | exact Kd.N_nil _ _ _ _ _ | exact Kd.V_nil _ _ _ _ _ | exact Kd.Q_nil _ _ _ _ _ | exact Kd.S_nil _ _ _ _ _) : p := h
theorem u5_5 {p : Prop} (h : p := by (with_reducible repeat (first | apply Kd.R_alloc | apply Kd.R_drewN | apply Kd.R_drew)); exact fY.out) : p := h
/-! ### spec_DiskCut: function 70 -/
mutual
def spec_DiskCut.j0 : Nat → Int → Int → Bool → Int → List (S95) → Option (Int × (List (S95)) × Int)
 | 0, _, _, _, _, _ => none
 | k + 1, x1, x2, rG, bO, aK => if rG = true then (some (0, ([] : List (S95)), 1)) else ((spec_l3Find.f k bO aK x1).bind fun aC => (if aC < 0 then (spec_DiskCut.j1 k x1 x2 aC true bO aK) else (if 0 ≤ aC then (if aC < (aK.length : Int) then ((spec_l1In.f x2 0 (wrap64 ((((rd_T95 aK aC).f1).size : Int) + (((rd_T95 aK aC).f2).size : Int)))).bind fun fB => (spec_DiskCut.j1 k x1 x2 aC (!fB) bO aK)) else (none)) else (none))))
def spec_DiskCut.j1 : Nat → Int → Int → Int → Bool → Int → List (S95) → Option (Int × (List (S95)) × Int)
 | 0, _, _, _, _, _, _ => none
 | k + 1, x1, x2, x8, rH, bO, aK => if rH = true then ((spec_l3Copy.f bO aK).bind fun fZ => (some (fZ.1, fZ.2, 2))) else (if 0 ≤ x8 then (if x8 < (aK.length : Int) then ((spec_l1Min.f x2 (((rd_T95 aK x8).f1).size : Int)).bind fun bN => (if 0 ≤ bN then (if bN ≤ (((rd_T95 aK x8).f1).size : Int) then (if 0 ≤ (wrap64 (x2 - bN)) then (if (wrap64 (x2 - bN)) ≤ (((rd_T95 aK x8).f2).size : Int) then ((spec_l3Put.f k bO aK x1 (((rd_T95 aK x8).f1).extract 0 (bN : Int).toNat) (((rd_T95 aK x8).f2).extract 0 ((wrap64 (x2 - bN)) : Int).toNat)).bind fun cW => (some (cW.1, cW.2, 0))) else (none)) else (none)) else (none)) else (none))) else (none)) else (none))
end
def spec_DiskCut.f (k : Nat) (aD : Int) (aA : List (S95)) (a1 : Int) (a2 : Int) : Option (Int × (List (S95)) × Int) := (spec_DiskOk.f k aD aA).bind fun eU => (if eU = true then ((spec_l3Name.f a1).bind fun eI => (spec_DiskCut.j0 k a1 a2 (!eI) aD aA)) else (spec_DiskCut.j0 k a1 a2 true aD aA))
theorem u5_mq0 {p : Prop} (h : p := by repeat' first | (with_reducible first | exact gA _ _ _ _ _ | exact oI _ _ _ _ _ _ | exact spec_DiskOk.mono _ _ _ | exact spec_l3Find.mono _ _ _ _ | exact spec_l3Put.mono _ _ _ _ _ _ | exact LeO.refl _ | exact LeO.none _ | refine LeO.ite ?_ ?_ | refine LeO.bind ?_ (fun _ => ?_)) | exact LeO.none _ | refine LeO.ite ?_ ?_ | refine LeO.bind ?_ (fun _ => ?_)) : p := h
set_option maxRecDepth 100000 in
theorem spec_DiskCut.mono_l : ∀ k, (∀ y0 y1 y2 y3 y4, LeO (spec_DiskCut.j0 k y0 y1 y2 y3 y4) (spec_DiskCut.j0 (k + 1) y0 y1 y2 y3 y4)) ∧ (∀ y0 y1 y2 y3 y4 y5, LeO (spec_DiskCut.j1 k y0 y1 y2 y3 y4 y5) (spec_DiskCut.j1 (k + 1) y0 y1 y2 y3 y4 y5))
 | 0 => ⟨fun _ _ _ _ _ r h => by simp [spec_DiskCut.j0] at h, fun _ _ _ _ _ _ r h => by simp [spec_DiskCut.j1] at h⟩
 | k + 1 => by
  obtain ⟨gA, oI⟩ := spec_DiskCut.mono_l k; refine ⟨?_, ?_⟩
  ·intro y0 y1 y2 y3 y4; unfold spec_DiskCut.j0; exact u5_mq0
  ·intro y0 y1 y2 y3 y4 y5; unfold spec_DiskCut.j1; exact u5_mq0
theorem spec_DiskCut.mono : ∀ a0 a1 a2 a3 k, LeO (spec_DiskCut.f k a0 a1 a2 a3) (spec_DiskCut.f (k + 1) a0 a1 a2 a3) := by
 intro a0 a1 a2 a3 k
 obtain ⟨gA, oI⟩ := spec_DiskCut.mono_l k
 unfold spec_DiskCut.f
 exact u5_mq0
def spec_DiskCut.T4 : Bool × List (List Nat × List Nat) := (true, [([], []), ([0], [0]), ([1], [1]), ([2], [2]), ([2], [2]), ([4, 2], [2, 4]), ([2], [2]), ([5, 6, 2], [2, 5, 6]), ([7, 2], [2, 7]), ([8, 2], [2, 8]), ([9, 2], [2, 9]), ([2], [2]), ([11, 2], [2, 11]), ([2], [2]), ([12, 13, 2], [2, 12, 13]), ([14, 2], [2, 14]), ([15, 2], [2, 15]), ([16, 2], [2, 16]), ([10, 17, 2], [2, 10, 17]), ([3, 18, 2, 2], [2, 3, 18]), ([19, 2], [2, 19]), ([2, 20], [2, 20])])
def spec_DiskCut.B4 : List Nat := [0, 1, 3, 7, 7, 23, 7, 119, 247, 503, 1015, 7, 2055, 7, 14343, 30727, 63495, 129031, 262135, 524287, 1048575, 2097151]
def spec_DiskCut.T8 : Bool × List (List Nat × List Nat) := (true, [([], []), ([], []), ([], []), ([2], [2]), ([], []), ([3, 4], [3, 4]), ([], []), ([6], [6]), ([], []), ([], []), ([8, 9], [8, 9]), ([7, 10], [7, 10]), ([1, 5, 11], [1, 5, 11]), ([0, 12], [0, 12]), ([13, 13, 0, 1, 2, 3, 4, 5, 6, 7, 8, 9, 10, 11, 12, 13], [13]), ([14, 0, 1, 2, 3, 4, 5, 6, 7, 8, 9, 10, 11, 12, 13, 14], [])])
def spec_DiskCut.B8 : List Nat := [0, 0, 0, 4, 0, 28, 0, 64, 0, 0, 768, 1984, 4094, 8191, 16383, 32767]
set_option maxHeartbeats 8000000 in
set_option maxRecDepth 100000 in
theorem spec_DiskCut.calls (k : Nat) (aD : Int) (bA : Option Addr) (aV : Nat) (aA : List (S95)) (a1 : Int) (a2 : Int) (r1 : Int) (r2 : List (S95)) (r3 : Int) (w : World) (cI : Kd.C k95 w bA aA.length aA) (cJ : aA.length ≤ aV) (h : spec_DiskCut.f k aD aA a1 a2 = some (r1, r2, r3)) :
 Calls Try.prog 70 #[.agg #[.int .i64 aD, .slice bA aA.length aV], .int .i64 a1, .int .i64 a2] w fun e w' => ∃ v1_ : Value, e = .returned (.tuple #[.agg #[.int .i64 r1, v1_], .int .i64 r3]) ∧ Kd.R k95 95 w' w.heap.size (fun _ => True) v1_ r2 ∧ Below w.heap.size w w' := by
 have gX := Try.underlying26
 have mQ := Try.underlying95
 have aW := aM cI
 have bC := aM cJ
 clear cI cJ
 have HB := aM (Below.refl w.heap.size w)
 have H : ((spec_DiskOk.f k aD aA).bind fun eU => (if eU = true then ((spec_l3Name.f a1).bind fun eI => (spec_DiskCut.j0 k a1 a2 (!eI) aD aA)) else (spec_DiskCut.j0 k a1 a2 true aD aA))) = some (r1, r2, r3) := h
 clear h
 have mR := aM H
 clear H
 go_enter Try.func70, Try.ntmps70
 go_upto_region 1 with (first | ((with_reducible refine gD 3 rfl ?_); (try (refine gate_guard (by rfl) ?_; dsimp only)); refine boxE (N := 3) rfl (cs := #[.int .i64 aD, .slice bA aA.length aV]) (t := 26) ?_; intro cL hg w5 hbox hb; have aE := aM (hbox); have oJ := aM (xge hg); have oK := aM (xge hg); replace HB := xbs hb; clear hb hbox hg) | ((with_reducible refine gD 6 rfl ?_); (try (refine gate_guard (by rfl) ?_; dsimp only)); refine boxE (N := 6) rfl (cs := #[.int .i64 0, .slice none 0 0]) (t := 26) ?_; intro bB hg w6 hbox hb; have oL := aM (xge hg); have oM := aM (xge hg); replace HB := xbs hb; have aI := nblt aE hg; have aX := nbgt aE hg; replace aE := xbb aE hb; have aG := aM (hbox); clear hb hbox hg))
 (try simp only [Act.put, List.setIfInBounds_toArray, List.set_cons_zero, List.set_cons_succ])
 go_cut [18] (fun rI wc => ∃ (kq : Nat) (dB : Bool), rI = .bool dB ∧ Aside0 (spec_DiskCut.j0 kq a1 a2 dB aD aA = some (r1, r2, r3)) ∧ Aside0 (kq ≤ k) ∧ Aside0 (wc.heap[cL]? = some (.cells #[.int .i64 aD, (.slice bA aA.length aV)] 26 (0, 0))) ∧ Aside0 (wc.heap[bB]? = some (.cells #[.int .i64 0, (.slice none 0 0)] 26 (0, 0))) ∧ Aside0 (Below w.heap.size w wc))
 case first =>
  have H := mR.out; clear mR; replace H := oB H; obtain ⟨eU, oO, H⟩ := H; (try dsimp only at H); have A7 := aM oO; clear oO
  by_cases c8 : eU = true
  ·subst c8; replace H := iT H; replace H := oB H; obtain ⟨eI, oP, H⟩ := H; (try dsimp only at H); have A9 := aM oP; clear oP
   have H' := aM H; clear H; have oQ := aI.out; have oR := aX.out; obtain ⟨dC, dD, dE, dF⟩ := xf2 (w := w6) aE; go_wp2_with (first | ((with_reducible refine gC 132 rfl ?_); refine goesLY (some 12) rfl Try.func132 #[.agg #[.int .i64 aD, .slice bA aA.length aV]] ?_; (with_reducible refine (spec_DiskOk.calls k aD _ _ aA true _ ?side1 ?side2 A7.out).mono ?_); (case side1 => exact xcb aW); (case side2 => exact bC.out); rintro e sH ⟨rfl, hb⟩; refine ⟨_, rfl, ?_⟩; replace aE := xbb aE hb; replace aG := xbb aG hb; replace HB := xbs hb; (try clear hb)) | (go_at_call 133; (with_reducible refine (spec_l3Name.calls a1 eI _ A9.out).mono ?_); rintro e w' ⟨rfl, ⟨nd, rfl⟩⟩))
   go_meet
   case rel => exact ⟨_, (!eI), u5_0, H', ⟨u5_3⟩, ⟨xblk⟩, ⟨xblk⟩, ⟨xbg⟩⟩
  ·replace c8 := Bool.eq_false_iff.mpr c8; subst c8; replace H := iN H; have H' := aM H; clear H; have oT := aI.out; have oU := aX.out; obtain ⟨dG, dH, dI, dJ⟩ := xf2 (w := w6) aE; go_wp2_with (first | ((with_reducible refine gC 132 rfl ?_); refine goesLY (some 12) rfl Try.func132 #[.agg #[.int .i64 aD, .slice bA aA.length aV]] ?_; (with_reducible refine (spec_DiskOk.calls k aD _ _ aA false _ ?side1 ?side2 A7.out).mono ?_); (case side1 => exact xcb aW); (case side2 => exact bC.out); rintro e sI ⟨rfl, hb⟩; refine ⟨_, rfl, ?_⟩; replace aE := xbb aE hb; replace aG := xbb aG hb; replace HB := xbs hb; (try clear hb)))
   go_meet
   case rel => exact ⟨_, (true), u5_0, H', ⟨u5_3⟩, ⟨xblk⟩, ⟨xblk⟩, ⟨xbg⟩⟩
 case rest =>
  clear mR; try clear c1
  try clear p2
  try clear c7
  try clear c8
  try clear c10
  try clear oV
  try clear dC dD
  try clear dG dH
  try clear dE dF
  try clear dI dJ
  obtain ⟨kq, dB, rfl, HA, HJ3, aE, aG, HB⟩ := hcut; cases kq with
  | zero => exact absurd HA.out (by simp [spec_DiskCut.j0])
  | succ oW =>
   have H := HA.out; clear HA; simp only [spec_DiskCut.j0] at H; by_cases gY : dB = true
   ·subst gY; replace H := iT H; simp only [Option.some.injEq, Prod.mk.injEq] at H; obtain ⟨rfl, rfl, rfl⟩ := H; have oX := aX.out; have oY := aI.out; obtain ⟨fC, fD, fE, fF⟩ := xf2 (w := wc) aG; go_wp2; refine bodyPost_ret (results_ct rfl _ _ bB 26 #[.int .i64 0, .slice none 0 0] (0, 0) _ rfl xP Try.underlying26 rfl (by kernel_rfl)) rfl ?_; exact ⟨_, by first | rfl | (simp [errW_none, errW_some] <;> rfl) | (simp [*, errW_none, errW_some] <;> rfl), u5_4, xbg⟩
   ·replace gY := Bool.eq_false_iff.mpr gY; subst gY; replace H := iN H; replace H := oB H; obtain ⟨aC, gZ, H⟩ := H; (try dsimp only at H); have rJ := aM gZ; clear gZ; have gQ := aM H; clear H; have hJ := aI.out; have hU := aX.out; obtain ⟨dK, dL, dM, dN⟩ := xf2 (w := wc) aE
    go_upto_region 4 with (first | ((with_reducible refine gC 134 rfl ?_); refine goesLY (some 22) rfl Try.func134 #[.agg #[.int .i64 aD, .slice bA aA.length aV], .int .i64 a1] ?_; (with_reducible refine (spec_l3Find.calls oW aD _ _ aA a1 aC _ ?side1 ?side2 rJ.out).mono ?_); (case side1 => exact xcb aW); (case side2 => exact bC.out); rintro e gU ⟨rfl, hb⟩; refine ⟨_, rfl, ?_⟩; replace aE := xbb aE hb; replace aG := xbb aG hb; replace HB := xbs hb; (try clear hb)))
    (try simp only [Act.put, List.setIfInBounds_toArray, List.set_cons_zero, List.set_cons_succ]); go_cut [44] (fun rK wc => ∃ (kq : Nat) (cS : Bool), rK = .bool cS ∧ Aside0 (spec_DiskCut.j1 kq a1 a2 aC cS aD aA = some (r1, r2, r3)) ∧ Aside0 (kq ≤ oW) ∧ Aside0 (wc.heap[cL]? = some (.cells #[.int .i64 aD, (.slice bA aA.length aV)] 26 (0, 0))) ∧ Aside0 (wc.heap[bB]? = some (.cells #[.int .i64 0, (.slice none 0 0)] 26 (0, 0))) ∧ Aside0 (Below w.heap.size w wc))
    case first =>
     have H := gQ.out; clear gQ; by_cases gR : aC < 0
     ·rw [if_pos gR] at H; have cP : decide (aC < 0) = true := decide_eq_true gR; clear gR; (first | rw [cP] | (simp only [i64_w, i32_w]; rw [cP]) | skip); have H' := aM H; clear H; try go_wp2
      replace aE := bD aE; replace aG := bD aG; replace HB := lD HB; refine st_ 22 (fun w' => True) spec_DiskCut.T4 spec_DiskCut.B4 trivial (fun hHeld HT_ HW_ => ?_); generalize gU.drew = oZ at aE aG HB hHeld ⊢; refine pV 0 23 ?_; refine pV 1 24 ?_; refine pV 2 25 ?_; refine pU 3 26 ?_; refine pU 4 27 ?_; refine pU 5 28 ?_; refine pU 6 29 ?_; refine pU 7 30 ?_; refine pU 8 31 ?_; refine pU 9 32 ?_; refine pU 10 33 ?_; refine pU 11 34 ?_; refine pU 12 35 ?_; refine pU 13 36 ?_; refine pU 14 37 ?_; refine pU 15 38 ?_; refine pU 16 39 ?_; refine pU 17 40 ?_; refine pU 18 41 ?_; refine pU 19 42 ?_; refine pU 20 43 ?_; refine pV 21 44 ?_; refine dn_ ?_; try go_wp2
      go_meet
      case rel => exact ⟨_, (true), u5_0, H', ⟨by have := HJ3.out; first | omega | exact Nat.le_refl _⟩, ⟨xblk⟩, ⟨xblk⟩, ⟨xbg⟩⟩
     ·rw [if_neg gR] at H; have cP : decide (aC < 0) = false := decide_eq_false gR; clear gR; (first | rw [cP] | (simp only [i64_w, i32_w]; rw [cP]) | skip); by_cases hX : 0 ≤ aC
      ·rw [if_pos hX] at H; have hZ : decide (0 ≤ aC) = true := decide_eq_true hX; clear hX; by_cases iA : aC < (aA.length : Int)
       ·rw [if_pos iA] at H; have iB : decide (aC < (aA.length : Int)) = true := decide_eq_true iA; clear iA; replace H := oB H; obtain ⟨fB, iC, H⟩ := H; (try dsimp only at H); have rL := aM iC; clear iC
        have H' := aM H; clear H; try go_wp2
        replace aE := bD aE; replace aG := bD aG; replace HB := lD HB; have p219 : 0 ≤ (aC : Int) := oda; have q219 : aC < (aA.length : Int) := oda; obtain ⟨bM, mS, bR, bU, bV⟩ := at_T95 aW.out aC p219 q219; have dO := bV; have dP := bU; have dQ := bR; cases mS
        replace bR := xce HB bR; replace bU := xce HB bU; replace bV := xce HB bV; replace p219 := eq_true p219; replace q219 := eq_true q219; have p220 : 0 ≤ (aC : Int) := oda; have q220 : aC < (aA.length : Int) := oda; obtain ⟨iD, mT, bW, bX, bY⟩ := at_T95 aW.out aC p220 q220; have dR := bY; have dS := bX; have dU := bW; obtain rfl : bM = iD := (by injection mT); replace bW := xce HB bW; replace bX := xce HB bX; replace bY := xce HB bY; replace p220 := eq_true p220; replace q220 := eq_true q220; refine st_ 22 (fun w' => w'.cell? ⟨cL, 0, none⟩ = some (.int .i64 aD) ∧ w'.cell? ⟨cL, 1, none⟩ = some (.slice (some bM) aA.length aV) ∧ w'.cell? (bM.add ((aC).toNat * 3)) = some (.int .i64 ((rd_T95 aA aC).f0)) ∧ w'.cell? ⟨(bM.add ((aC).toNat * 3)).block, (bM.add ((aC).toNat * 3)).off + 1, none⟩ = some (.string ((rd_T95 aA aC).f1)) ∧ w'.cell? ⟨(bM.add ((aC).toNat * 3)).block, (bM.add ((aC).toNat * 3)).off + 2, none⟩ = some (.string ((rd_T95 aA aC).f2)) ∧ w'.cell? (bM.add ((aC).toNat * 3)) = some (.int .i64 ((rd_T95 aA aC).f0)) ∧ w'.cell? ⟨(bM.add ((aC).toNat * 3)).block, (bM.add ((aC).toNat * 3)).off + 1, none⟩ = some (.string ((rd_T95 aA aC).f1)) ∧ w'.cell? ⟨(bM.add ((aC).toNat * 3)).block, (bM.add ((aC).toNat * 3)).off + 2, none⟩ = some (.string ((rd_T95 aA aC).f2))) spec_DiskCut.T4 spec_DiskCut.B4 ⟨xc aE 0 rfl, xc aE 1 rfl, (xce HB dQ), (xce HB dP), (xce HB dO), (xce HB dU), (xce HB dS), (xce HB dR)⟩ (fun hHeld HT_ HW_ => ?_); generalize gU.drew = kB at aE aG HB bR bU bV bW bX bY hHeld ⊢; refine pV 0 23 ?_; refine pV 1 24 ?_; refine pV 2 25 ?_; refine pV 3 26 ?_; refine pV 4 27 ?_; refine pV 6 29 ?_; refine pV 11 34 ?_; refine pV 13 36 ?_; refine tK 5 28 ?_; refine pV 7 30 ?_; refine pV 8 31 ?_; refine tK 9 32 ?_; refine pV 10 33 ?_; refine tK 12 35 ?_; refine pV 14 37 ?_; refine pV 15 38 ?_; refine tK 16 39 ?_; refine pV 17 40 ?_; refine pV 18 41 ?_; refine oN 19 42 fun K hK => ?_
        refine goesY Try.func92 #[.int .i64 a2, .int .i64 0, .int .i64 (wrap64 ((((rd_T95 aA aC).f1).size : Int) + (((rd_T95 aA aC).f2).size : Int)))] ?_; with_reducible refine (spec_l1In.calls a2 0 (wrap64 ((((rd_T95 aA aC).f1).size : Int) + (((rd_T95 aA aC).f2).size : Int))) fB _ rL.out).mono ?_
        rintro e w' ⟨rfl, ⟨nd, rfl⟩⟩; refine ⟨_, rfl, ?_⟩; refine hK.out _ _ ⟨xc aE 0 rfl, xc aE 1 rfl, (xce HB dQ), (xce HB dP), (xce HB dO), (xce HB dU), (xce HB dS), (xce HB dR)⟩ (fun hHeld => ?_); clear hK K; refine nm_ (N := 42) ?_; refine pV 20 43 ?_; refine pV 21 44 ?_; refine dn_ ?_; try go_wp2
        go_meet
        case rel => exact ⟨_, (!fB), u5_0, H', ⟨by have := HJ3.out; first | omega | exact Nat.le_refl _⟩, ⟨xblk⟩, ⟨xblk⟩, ⟨xbg⟩⟩
       ·rw [if_neg iA] at H; exact absurd H (by simp)
      ·rw [if_neg hX] at H; exact absurd H (by simp)
    case rest =>
     clear gQ; try clear c1
     try clear c2
     try clear p2
     try clear q2
     try clear sJ
     try clear p6
     try clear c7
     try clear c8
     try clear c9
     try clear c10
     try clear oV
     try clear gY
     try clear sK
     try clear sL
     try clear p21
     try clear q21
     try clear rM
     try clear p22
     try clear q22
     try clear rN
     try clear gR
     try clear cP
     try clear hX
     try clear hZ
     try clear iA
     try clear iB
     try clear dC dD
     try clear dG dH
     try clear fC fD
     try clear dK dL
     try clear dE dF
     try clear dI dJ
     try clear fE fF
     try clear dM dN
     try clear bR
     try clear bU
     try clear bV
     try clear bW
     try clear bX
     try clear bY
     try clear p2
     try clear p219
     try clear p220
     try clear q219
     try clear q220
     obtain ⟨kq, cS, rfl, HA, HJ19, aE, aG, HB⟩ := hcut; cases kq with
     | zero => exact absurd HA.out (by simp [spec_DiskCut.j1])
     | succ iE =>
      have H := HA.out; clear HA; simp only [spec_DiskCut.j1] at H; by_cases fA : cS = true
      ·subst fA; replace H := iT H; replace H := oB H; obtain ⟨⟨iF, iG⟩, eV, H⟩ := H; (try dsimp only at H); have mU := aM eV; clear eV
       simp only [Option.some.injEq, Prod.mk.injEq] at H; obtain ⟨rfl, rfl, rfl⟩ := H; have iH := aI.out; have iI := aX.out; obtain ⟨fG, fH, fI, fJ⟩ := xf2 (w := wc) aE; go_wp2_with (first | ((with_reducible refine gC 135 rfl ?_); refine goesLY (some 46) rfl Try.func135 #[.agg #[.int .i64 aD, .slice bA aA.length aV]] ?_; (with_reducible refine (spec_l3Copy.calls aD _ _ aA iF iG _ ?side1 ?side2 mU.out).mono ?_); (case side1 => exact xcb aW); (case side2 => exact bC.out); rintro e mV ⟨rO, rfl, bQ, hb⟩; refine ⟨_, rfl, ?_⟩; have gB := aM (Kd.R_lower bQ (below_size xbg)); replace aE := xbb aE hb; replace aG := xbb aG hb; replace HB := xbs hb; (try clear hb bQ); obtain ⟨fK, fL, fM, fN⟩ := xf2 (w := mV) aG; obtain ⟨mW, mX, mY⟩ := Kd.R_slice gB.out; subst mY))
       refine bodyPost_ret (results_ct rfl _ _ bB 26 #[.int .i64 iF, .slice mW iG.length mX] (0, 0) _ rfl xP Try.underlying26 rfl (by kernel_rfl)) rfl ?_; exact ⟨_, by first | rfl | (simp [errW_none, errW_some] <;> rfl) | (simp [*, errW_none, errW_some] <;> rfl), xrm gB (fun _ _ => trivial), xbg⟩
      ·replace fA := Bool.eq_false_iff.mpr fA; subst fA; replace H := iN H; by_cases kC : 0 ≤ aC
       ·rw [if_pos kC] at H; have pA : decide (0 ≤ aC) = true := decide_eq_true kC; clear kC; by_cases kE : aC < (aA.length : Int)
        ·rw [if_pos kE] at H; have pB : decide (aC < (aA.length : Int)) = true := decide_eq_true kE; clear kE; replace H := oB H; obtain ⟨bN, iJ, H⟩ := H; (try dsimp only at H); have pC := aM iJ; clear iJ
         by_cases iK : 0 ≤ bN
         ·rw [if_pos iK] at H; have pD := eq_true iK; have pE : decide (0 ≤ bN) = true := decide_eq_true iK; clear iK; by_cases iL : bN ≤ (((rd_T95 aA aC).f1).size : Int)
          ·rw [if_pos iL] at H; have pF := eq_true iL; have pG : decide (bN ≤ (((rd_T95 aA aC).f1).size : Int)) = true := decide_eq_true iL; clear iL; obtain ⟨ji42, hji42⟩ : ∃ j_ : Int, (wrap64 (a2 - bN)) = j_ := ⟨_, rfl⟩; replace H : (if 0 ≤ (ji42) then (if (ji42) ≤ (((rd_T95 aA aC).f2).size : Int) then ((spec_l3Put.f iE aD aA a1 (((rd_T95 aA aC).f1).extract 0 (bN : Int).toNat) (((rd_T95 aA aC).f2).extract 0 ((ji42) : Int).toNat)).bind fun cW => (some (cW.1, cW.2, 0))) else (none)) else (none)) = some (r1, r2, r3) := by first | (rw [hji42] at H; exact H) | (simp only [hji42] at H ⊢; exact H)
           (try rw [hji42] at pC); have hji42w : (IntKind.i64.wrap (a2 - bN)) = ji42 := (i64_w _).trans hji42; by_cases iM : 0 ≤ (ji42)
           ·rw [if_pos iM] at H; have pH := eq_true iM; have pI : decide (0 ≤ (ji42)) = true := decide_eq_true iM; clear iM; by_cases iO : (ji42) ≤ (((rd_T95 aA aC).f2).size : Int)
            ·rw [if_pos iO] at H; have pJ := eq_true iO; have pK : decide ((ji42) ≤ (((rd_T95 aA aC).f2).size : Int)) = true := decide_eq_true iO; clear iO; replace H := oB H; obtain ⟨⟨iP, iQ⟩, iR, H⟩ := H; (try dsimp only at H); have rP := aM iR; clear iR
             simp only [Option.some.injEq, Prod.mk.injEq] at H; obtain ⟨rfl, rfl, rfl⟩ := H; have pL := aI.out; have pM := aX.out; obtain ⟨kF, kG, kH, kI⟩ := xf2 (w := wc) aE; have p226 : 0 ≤ (aC : Int) := oda; have q226 : aC < (aA.length : Int) := oda; obtain ⟨eW, mZ, dV, dW, dX⟩ := at_T95 aW.out aC p226 q226; cases mZ
             replace dV := xce HB dV; replace dW := xce HB dW; replace dX := xce HB dX; replace p226 := eq_true p226; replace q226 := eq_true q226; try go_wp2_with (first | ((with_reducible refine gD 9 rfl ?_); (try (refine gate_guard (by rfl) ?_; dsimp only)); refine boxE (N := 9) rfl (cs := #[.int .i64 0, .string (⟨#[]⟩ : ByteArray), .string (⟨#[]⟩ : ByteArray)]) (t := 95) ?_; intro aY hg gV hbox hb; have pN := aM (xge hg); have pO := aM (xge hg); replace HB := xbs hb; have eJ := nblt aE hg; have eK := nbgt aE hg; have cA := nblt aG hg; have aT := nbgt aG hg; replace aE := xbb aE hb; replace aG := xbb aG hb; have bE := aM (hbox); clear hb hbox hg; have pP := eK.out; have pQ := eJ.out; have pR := aT.out; have pS := cA.out; obtain ⟨kJ, kK, kL, kM, kN, kO⟩ := xf3 (w := gV) bE) | ((with_reducible refine gC 136 rfl ?_); refine goesLY (some 56) rfl Try.func136 #[.int .i64 a2, .int .i64 (((rd_T95 aA aC).f1).size : Int)] ?_; (with_reducible refine (spec_l1Min.calls a2 (((rd_T95 aA aC).f1).size : Int) bN _ pC.out).mono ?_); rintro e w' ⟨rfl, ⟨nd, rfl⟩⟩; refine ⟨_, rfl, ?_⟩))
             have n0_ : Aside0 ((((gV.setCell ⟨aY, 0, none⟩ (.int .i64 ((rd_T95 aA aC).f0))).setCell ⟨aY, 1, none⟩ (.string ((rd_T95 aA aC).f1))).setCell ⟨aY, 2, none⟩ (.string ((rd_T95 aA aC).f2))).heap[cL]? = some (.cells #[.int .i64 aD, .slice (some eW) aA.length aV] 26 (0, 0))) := ⟨xB⟩; have n1_ : Aside0 ((((gV.setCell ⟨aY, 0, none⟩ (.int .i64 ((rd_T95 aA aC).f0))).setCell ⟨aY, 1, none⟩ (.string ((rd_T95 aA aC).f1))).setCell ⟨aY, 2, none⟩ (.string ((rd_T95 aA aC).f2))).heap[bB]? = some (.cells #[.int .i64 0, .slice none 0 0] 26 (0, 0))) := ⟨xB⟩; have n2_ : Aside0 ((((gV.setCell ⟨aY, 0, none⟩ (.int .i64 ((rd_T95 aA aC).f0))).setCell ⟨aY, 1, none⟩ (.string ((rd_T95 aA aC).f1))).setCell ⟨aY, 2, none⟩ (.string ((rd_T95 aA aC).f2))).heap[aY]? = some (.cells #[.int .i64 ((rd_T95 aA aC).f0), .string ((rd_T95 aA aC).f1), .string ((rd_T95 aA aC).f2)] 95 (0, 0))) := ⟨xP⟩; have n3_ : Aside0 (Below w.heap.size w (((gV.setCell ⟨aY, 0, none⟩ (.int .i64 ((rd_T95 aA aC).f0))).setCell ⟨aY, 1, none⟩ (.string ((rd_T95 aA aC).f1))).setCell ⟨aY, 2, none⟩ (.string ((rd_T95 aA aC).f2)))) := ⟨xbg⟩; (try clear aE); (try clear aG); (try clear bE); (try clear HB)
             generalize (((gV.setCell ⟨aY, 0, none⟩ (.int .i64 ((rd_T95 aA aC).f0))).setCell ⟨aY, 1, none⟩ (.string ((rd_T95 aA aC).f1))).setCell ⟨aY, 2, none⟩ (.string ((rd_T95 aA aC).f2))) = kP at n0_ n1_ n2_ n3_ ⊢; have aE := n0_; have aG := n1_; have bE := n2_; have HB := n3_; clear n0_ n1_ n2_ n3_; (try ((repeat rw [World.drewN_drewN]); rw [drewN_self kP]; generalize hq_ : World.drewN kP _ = kP; replace aE := aM (blk_at hq_ aE.out); replace aG := aM (blk_at hq_ aG.out); replace bE := aM (blk_at hq_ bE.out); replace HB := aM (below_at hq_ HB.out); clear hq_)); replace aE := bD aE; replace aG := bD aG; replace bE := bD bE; replace HB := lD HB; refine st_ 16 (fun w' => w'.cell? ⟨cL, 0, none⟩ = some (.int .i64 aD) ∧ w'.cell? ⟨cL, 1, none⟩ = some (.slice (some eW) aA.length aV) ∧ w'.cell? ⟨aY, 0, none⟩ = some (.int .i64 ((rd_T95 aA aC).f0)) ∧ w'.cell? ⟨aY, 1, none⟩ = some (.string ((rd_T95 aA aC).f1)) ∧ w'.cell? ⟨aY, 2, none⟩ = some (.string ((rd_T95 aA aC).f2))) spec_DiskCut.T8 spec_DiskCut.B8 ⟨xc aE 0 rfl, xc aE 1 rfl, xc bE 0 rfl, xc bE 1 rfl, xc bE 2 rfl⟩ (fun hHeld HT_ HW_ => ?_); generalize kP.drew = sM at aE aG bE HB hHeld ⊢; refine pV 1 58 ?_; refine pV 2 59 ?_; refine pV 4 61 ?_; refine pV 6 63 ?_; refine pV 8 65 ?_; refine pV 9 66 ?_; refine pV 10 67 ?_; refine tK 0 57 ?_; refine tK 3 60 ?_; refine pV 5 62 ?_; refine tK 7 64 ?_; refine pV 11 68 ?_; refine pV 12 69 ?_; refine oN 13 70 fun K hK => ?_
             refine goes_ Try.func137 (by kernel_rfl) rfl #[.agg #[.int .i64 aD, .slice (some eW) aA.length aV], .agg #[.int .i64 a1, .string (((rd_T95 aA aC).f1).extract 0 (bN : Int).toNat), .string (((rd_T95 aA aC).f2).extract 0 ((ji42) : Int).toNat)]] (by rfl) rfl rfl (by (try simp only [List.map_toArray, List.map_cons, List.map_nil]); first | done | (simp only [hji42]; rfl) | rfl | (simp only [List.length_drop, List.length_take]; rfl)) ?_; with_reducible refine (spec_l3Put.calls iE aD _ _ aA a1 (((rd_T95 aA aC).f1).extract 0 (bN : Int).toNat) (((rd_T95 aA aC).f2).extract 0 ((ji42) : Int).toNat) iP iQ _ ?side1 ?side2 rP.out).mono ?_
             (case side1 => exact xcb aW); (case side2 => exact bC.out); rintro e pT ⟨rQ, rfl, bQ, hb⟩; refine ⟨_, rfl, ?_⟩; have gE := aM (Kd.R_lower (Kd.R_newB bQ (g := aY) (o := .cells #[.int .i64 ((rd_T95 aA aC).f0), .string ((rd_T95 aA aC).f1), .string ((rd_T95 aA aC).f2)] 95 (0, 0)) xblk) (below_size xbg)); replace aE := xbb aE hb; replace aG := xbb aG hb; replace bE := xbb bE hb; replace HB := xbs hb; (try clear hb bQ); obtain ⟨nA, nB, iS⟩ := Kd.R_slice gE.out; (first | subst iS | (injection iS with f1_ f2_ f3_; have f4_ := f1_.symm; have f5_ := f3_.symm; clear f1_ f2_ f3_; subst f4_; subst f5_)); refine hK.out _ _ ⟨xc aE 0 rfl, xc aE 1 rfl, xc bE 0 rfl, xc bE 1 rfl, xc bE 2 rfl⟩ (fun hHeld => ?_); clear hK K; refine nm_ (N := 70) ?_; refine one_ (i := 14) (N := none) #[true, true, true, true, true, true, true, true, true, true, true, true, true, true, true, false] rfl rfl (one_of HT_.out (by kernel_rfl)) (by decide) (fun K hK => ?_); have hs55 : pT.cell? ⟨bB, 0, none⟩ = some (.int .i64 0) := xc aG 0 rfl; have hfs55 := blk_frozen aG.out 0; have hns55_0 := aI.out; have hns55_2 := aT.out; have hms55_0 := aX.out; have hms55_2 := cA.out; have hs57 : pT.cell? ⟨bB, 1, none⟩ = some (.slice none 0 0) := xc aG 1 rfl; have hfs57 := blk_frozen aG.out 1; have hns57_0 := aI.out; have hns57_2 := aT.out; have hms57_0 := aX.out; have hms57_2 := cA.out; refine skip_ (w1 := ?_) (by rfl) rfl ?_ ?_; rotate_left
             ·go_simp
              rfl
             refine hK.out _ _ ⟨((cell_far (p := ⟨bB, _, none⟩) aI.out _).trans (((cell_far (p := ⟨bB, _, none⟩) aI.out _).trans (hHeld.1)))), ((cell_far (p := ⟨bB, _, none⟩) aI.out _).trans (((cell_far (p := ⟨bB, _, none⟩) aI.out _).trans (hHeld.2.1)))), ((cell_far (p := ⟨bB, _, none⟩) aT.out _).trans (((cell_far (p := ⟨bB, _, none⟩) aT.out _).trans (hHeld.2.2.1)))), ((cell_far (p := ⟨bB, _, none⟩) aT.out _).trans (((cell_far (p := ⟨bB, _, none⟩) aT.out _).trans (hHeld.2.2.2.1)))), ((cell_far (p := ⟨bB, _, none⟩) aT.out _).trans (((cell_far (p := ⟨bB, _, none⟩) aT.out _).trans (hHeld.2.2.2.2))))⟩ (fun hHeld => ?_); clear hK K; refine pV 15 7 ?_; refine dn_ ?_; try go_wp2
             refine bodyPost_ret (results_ct rfl _ _ bB 26 #[.int .i64 iP, .slice nA iQ.length nB] (0, 0) _ rfl xP Try.underlying26 rfl (by kernel_rfl)) rfl ?_; exact ⟨_, by first | rfl | (simp [errW_none, errW_some] <;> rfl) | (simp only [← hji42]; first | rfl | (simp [errW_none, errW_some] <;> rfl)) | (simp [*, errW_none, errW_some] <;> rfl), xrm gE (fun _ _ => trivial), xbg⟩
            ·rw [if_neg iO] at H; exact absurd H (by simp)
           ·rw [if_neg iM] at H; exact absurd H (by simp)
          ·rw [if_neg iL] at H; exact absurd H (by simp)
         ·rw [if_neg iK] at H; exact absurd H (by simp)
        ·rw [if_neg kE] at H; exact absurd H (by simp)
       ·rw [if_neg kC] at H; exact absurd H (by simp)

/-! ### spec_DiskSync: function 71 -/
def spec_DiskSync.j0 : Nat → Int → Bool → Int → List (S95) → Option (Int × (List (S95)) × Int)
 | 0, _, _, _, _ => none
 | k + 1, x1, rR, cT, bH => if rR = true then (some (0, ([] : List (S95)), 1)) else ((spec_l3Find.f k cT bH x1).bind fun aN => (if aN < 0 then ((spec_l3Copy.f cT bH).bind fun gF => (some (gF.1, gF.2, 2))) else (if 0 ≤ aN then (if aN < (bH.length : Int) then (if ((rd_T95 bH aN).f1).size + ((rd_T95 bH aN).f2).size ≤ 9223372036854775807 then ((spec_l3Put.f k cT bH x1 (((rd_T95 bH aN).f1) ++ ((rd_T95 bH aN).f2)) (⟨#[]⟩ : ByteArray)).bind fun gG => (some (gG.1, gG.2, 0))) else (none)) else (none)) else (none))))
def spec_DiskSync.f (k : Nat) (aD : Int) (aA : List (S95)) (a1 : Int) : Option (Int × (List (S95)) × Int) := (spec_DiskOk.f k aD aA).bind fun eX => (if eX = true then ((spec_l3Name.f a1).bind fun eL => (spec_DiskSync.j0 k a1 (!eL) aD aA)) else (spec_DiskSync.j0 k a1 true aD aA))
theorem u5_mq1 {p : Prop} (h : p := by repeat' first | (with_reducible first | exact gA _ _ _ _ | exact spec_DiskOk.mono _ _ _ | exact spec_l3Find.mono _ _ _ _ | exact spec_l3Put.mono _ _ _ _ _ _ | exact LeO.refl _ | exact LeO.none _ | refine LeO.ite ?_ ?_ | refine LeO.bind ?_ (fun _ => ?_)) | exact LeO.none _ | refine LeO.ite ?_ ?_ | refine LeO.bind ?_ (fun _ => ?_)) : p := h
set_option maxRecDepth 100000 in
theorem spec_DiskSync.mono_l : ∀ k, (∀ y0 y1 y2 y3, LeO (spec_DiskSync.j0 k y0 y1 y2 y3) (spec_DiskSync.j0 (k + 1) y0 y1 y2 y3))
 | 0 => fun _ _ _ _ r h => by simp [spec_DiskSync.j0] at h
 | k + 1 => by
  have gA := spec_DiskSync.mono_l k
  ·intro y0 y1 y2 y3; unfold spec_DiskSync.j0; exact u5_mq1
theorem spec_DiskSync.mono : ∀ a0 a1 a2 k, LeO (spec_DiskSync.f k a0 a1 a2) (spec_DiskSync.f (k + 1) a0 a1 a2) := by
 intro a0 a1 a2 k
 have gA := spec_DiskSync.mono_l k
 unfold spec_DiskSync.f
 exact u5_mq1
set_option maxHeartbeats 8000000 in
set_option maxRecDepth 100000 in
theorem spec_DiskSync.calls (k : Nat) (aD : Int) (bA : Option Addr) (aV : Nat) (aA : List (S95)) (a1 : Int) (r1 : Int) (r2 : List (S95)) (r3 : Int) (w : World) (cI : Kd.C k95 w bA aA.length aA) (cJ : aA.length ≤ aV) (h : spec_DiskSync.f k aD aA a1 = some (r1, r2, r3)) :
 Calls Try.prog 71 #[.agg #[.int .i64 aD, .slice bA aA.length aV], .int .i64 a1] w fun e w' => ∃ v1_ : Value, e = .returned (.tuple #[.agg #[.int .i64 r1, v1_], .int .i64 r3]) ∧ Kd.R k95 95 w' w.heap.size (fun _ => True) v1_ r2 ∧ Below w.heap.size w w' := by
 have gX := Try.underlying26
 have mQ := Try.underlying95
 have aW := aM cI
 have bC := aM cJ
 clear cI cJ
 have HB := aM (Below.refl w.heap.size w)
 have H : ((spec_DiskOk.f k aD aA).bind fun eX => (if eX = true then ((spec_l3Name.f a1).bind fun eL => (spec_DiskSync.j0 k a1 (!eL) aD aA)) else (spec_DiskSync.j0 k a1 true aD aA))) = some (r1, r2, r3) := h
 clear h
 have nC := aM H
 clear H
 go_enter Try.func71, Try.ntmps71
 go_upto_region 1 with (first | ((with_reducible refine gD 2 rfl ?_); refine boxE (N := 2) rfl (cs := #[.int .i64 aD, .slice bA aA.length aV]) (t := 26) ?_; intro iU hg w4 hbox hb; have aJ := aM (hbox); have pW := aM (xge hg); have pX := aM (xge hg); replace HB := xbs hb; clear hb hbox hg) | ((with_reducible refine gD 4 rfl ?_); refine boxE (N := 4) rfl (cs := #[.int .i64 0, .slice none 0 0]) (t := 26) ?_; intro dY hg w5 hbox hb; have pY := aM (xge hg); have pZ := aM (xge hg); replace HB := xbs hb; have bI := nblt aJ hg; have bJ := nbgt aJ hg; replace aJ := xbb aJ hb; have aZ := aM (hbox); clear hb hbox hg))
 (try simp only [Act.put, List.setIfInBounds_toArray, List.set_cons_zero, List.set_cons_succ])
 go_cut [15] (fun rS wc => ∃ (kq : Nat) (dZ : Bool), rS = .bool dZ ∧ Aside0 (spec_DiskSync.j0 kq a1 dZ aD aA = some (r1, r2, r3)) ∧ Aside0 (kq ≤ k) ∧ Aside0 (wc.heap[iU]? = some (.cells #[.int .i64 aD, (.slice bA aA.length aV)] 26 (0, 0))) ∧ Aside0 (wc.heap[dY]? = some (.cells #[.int .i64 0, (.slice none 0 0)] 26 (0, 0))) ∧ Aside0 (Below w.heap.size w wc))
 case first =>
  have H := nC.out; clear nC; replace H := oB H; obtain ⟨eX, gH, H⟩ := H; (try dsimp only at H); have A6 := aM gH; clear gH
  by_cases c7 : eX = true
  ·subst c7; replace H := iT H; replace H := oB H; obtain ⟨eL, qA, H⟩ := H; (try dsimp only at H); have A8 := aM qA; clear qA
   have H' := aM H; clear H; have nD := bI.out; have nE := bJ.out; obtain ⟨eA, eB, eC, eD⟩ := xf2 (w := w5) aJ; go_wp2_with (first | ((with_reducible refine gC 132 rfl ?_); refine goesLY (some 9) rfl Try.func132 #[.agg #[.int .i64 aD, .slice bA aA.length aV]] ?_; (with_reducible refine (spec_DiskOk.calls k aD _ _ aA true _ ?side1 ?side2 A6.out).mono ?_); (case side1 => exact xcb aW); (case side2 => exact bC.out); rintro e kQ ⟨rfl, hb⟩; refine ⟨_, rfl, ?_⟩; replace aJ := xbb aJ hb; replace aZ := xbb aZ hb; replace HB := xbs hb; (try clear hb)) | (go_at_call 133; (with_reducible refine (spec_l3Name.calls a1 eL _ A8.out).mono ?_); rintro e w' ⟨rfl, ⟨nd, rfl⟩⟩))
   go_meet
   case rel => exact ⟨_, (!eL), u5_0, H', ⟨u5_3⟩, ⟨xblk⟩, ⟨xblk⟩, ⟨xbg⟩⟩
  ·replace c7 := Bool.eq_false_iff.mpr c7; subst c7; replace H := iN H; have H' := aM H; clear H; have qB := bI.out; have qC := bJ.out; obtain ⟨fO, fP, fQ, fR⟩ := xf2 (w := w5) aJ; go_wp2_with (first | ((with_reducible refine gC 132 rfl ?_); refine goesLY (some 9) rfl Try.func132 #[.agg #[.int .i64 aD, .slice bA aA.length aV]] ?_; (with_reducible refine (spec_DiskOk.calls k aD _ _ aA false _ ?side1 ?side2 A6.out).mono ?_); (case side1 => exact xcb aW); (case side2 => exact bC.out); rintro e qD ⟨rfl, hb⟩; refine ⟨_, rfl, ?_⟩; replace aJ := xbb aJ hb; replace aZ := xbb aZ hb; replace HB := xbs hb; (try clear hb)))
   go_meet
   case rel => exact ⟨_, (true), u5_0, H', ⟨u5_3⟩, ⟨xblk⟩, ⟨xblk⟩, ⟨xbg⟩⟩
 case rest =>
  clear nC; try clear c1
  try clear p2
  try clear c7
  try clear c9
  try clear sN
  try clear oV
  try clear eA eB
  try clear fO fP
  try clear eC eD
  try clear fQ fR
  obtain ⟨kq, dZ, rfl, HA, HJ2, aJ, aZ, HB⟩ := hcut; cases kq with
  | zero => exact absurd HA.out (by simp [spec_DiskSync.j0])
  | succ nF =>
   have H := HA.out; clear HA; simp only [spec_DiskSync.j0] at H; by_cases kR : dZ = true
   ·subst kR; replace H := iT H; simp only [Option.some.injEq, Prod.mk.injEq] at H; obtain ⟨rfl, rfl, rfl⟩ := H; have iV := bJ.out; have iW := bI.out; obtain ⟨fS, fT, fU, fV⟩ := xf2 (w := wc) aZ; go_wp2; refine bodyPost_ret (results_ct rfl _ _ dY 26 #[.int .i64 0, .slice none 0 0] (0, 0) _ rfl xP Try.underlying26 rfl (by kernel_rfl)) rfl ?_; exact ⟨_, xerr, u5_4, xbg⟩
   ·replace kR := Bool.eq_false_iff.mpr kR; subst kR; replace H := iN H; replace H := oB H; obtain ⟨aN, iX, H⟩ := H; (try dsimp only at H); have qE := aM iX; clear iX
    by_cases gW : aN < 0
    ·rw [if_pos gW] at H; have iY : decide (aN < 0) = true := decide_eq_true gW; clear gW; replace H := oB H; obtain ⟨⟨iZ, jA⟩, jB, H⟩ := H; (try dsimp only at H); have rT := aM jB; clear jB
     simp only [Option.some.injEq, Prod.mk.injEq] at H; obtain ⟨rfl, rfl, rfl⟩ := H; have hJ := bI.out; have hU := bJ.out; obtain ⟨dK, dL, dM, dN⟩ := xf2 (w := wc) aJ; go_wp2_with (first | ((with_reducible refine gC 134 rfl ?_); refine goesLY (some 19) rfl Try.func134 #[.agg #[.int .i64 aD, .slice bA aA.length aV], .int .i64 a1] ?_; (with_reducible refine (spec_l3Find.calls nF aD _ _ aA a1 aN _ ?side1 ?side2 qE.out).mono ?_); (case side1 => exact xcb aW); (case side2 => exact bC.out); rintro e gU ⟨rfl, hb⟩; refine ⟨_, rfl, ?_⟩; replace aJ := xbb aJ hb; replace aZ := xbb aZ hb; replace HB := xbs hb; (try clear hb); obtain ⟨kS, kT, kU, kV⟩ := xf2 (w := gU) aJ) | ((with_reducible refine gC 135 rfl ?_); refine goesLY (some 23) rfl Try.func135 #[.agg #[.int .i64 aD, .slice bA aA.length aV]] ?_; (with_reducible refine (spec_l3Copy.calls aD _ _ aA iZ jA _ ?side1 ?side2 rT.out).mono ?_); (case side1 => exact xcb aW); (case side2 => exact bC.out); rintro e oZ ⟨rU, rfl, bQ, hb⟩; refine ⟨_, rfl, ?_⟩; have gI := aM (Kd.R_lower bQ (below_size xbg)); replace aJ := xbb aJ hb; replace aZ := xbb aZ hb; replace HB := xbs hb; (try clear hb bQ); obtain ⟨kW, kX, kY, kZ⟩ := xf2 (w := oZ) aZ; obtain ⟨nG, nH, nI⟩ := Kd.R_slice gI.out; subst nI))
     refine bodyPost_ret (results_ct rfl _ _ dY 26 #[.int .i64 iZ, .slice nG jA.length nH] (0, 0) _ rfl xP Try.underlying26 rfl (by kernel_rfl)) rfl ?_; exact ⟨_, xerr, xrm gI (fun _ _ => trivial), xbg⟩
    ·rw [if_neg gW] at H; have iY : decide (aN < 0) = false := decide_eq_false gW; clear gW; by_cases lA : 0 ≤ aN
     ·rw [if_pos lA] at H; have qF : decide (0 ≤ aN) = true := decide_eq_true lA; clear lA; by_cases lB : aN < (aA.length : Int)
      ·rw [if_pos lB] at H; have qG : decide (aN < (aA.length : Int)) = true := decide_eq_true lB; clear lB; by_cases fA : ((rd_T95 aA aN).f1).size + ((rd_T95 aA aN).f2).size ≤ 9223372036854775807
       ·rw [if_pos fA] at H; have qH := eq_true fA; have qI : decide (((rd_T95 aA aN).f1).size + ((rd_T95 aA aN).f2).size ≤ 9223372036854775807) = true := decide_eq_true fA; try have qJ : (9223372036854775807 < ((rd_T95 aA aN).f1).size + ((rd_T95 aA aN).f2).size) = False := eq_false (Nat.not_lt.2 fA)
        replace H := oB H; obtain ⟨⟨jC, jD⟩, eV, H⟩ := H; (try dsimp only at H); have mU := aM eV; clear eV
        simp only [Option.some.injEq, Prod.mk.injEq] at H; obtain ⟨rfl, rfl, rfl⟩ := H; have iH := bI.out; have iI := bJ.out; obtain ⟨fG, fH, fI, fJ⟩ := xf2 (w := wc) aJ; go_wp2_with (first | ((with_reducible refine gC 134 rfl ?_); refine goesLY (some 19) rfl Try.func134 #[.agg #[.int .i64 aD, .slice bA aA.length aV], .int .i64 a1] ?_; (with_reducible refine (spec_l3Find.calls nF aD _ _ aA a1 aN _ ?side1 ?side2 qE.out).mono ?_); (case side1 => exact xcb aW); (case side2 => exact bC.out); rintro e mV ⟨rfl, hb⟩; refine ⟨_, rfl, ?_⟩; replace aJ := xbb aJ hb; replace aZ := xbb aZ hb; replace HB := xbs hb; (try clear hb); obtain ⟨fK, fL, fM, fN⟩ := xf2 (w := mV) aJ; have p242 : 0 ≤ (aN : Int) := oda; have q242 : aN < (aA.length : Int) := oda; obtain ⟨jE, nJ, eE, eF, eG⟩ := at_T95 aW.out aN p242 q242; cases nJ; replace eE := xce HB eE; replace eF := xce HB eF; replace eG := xce HB eG; replace p242 := eq_true p242; replace q242 := eq_true q242) | ((with_reducible refine gD 7 rfl ?_); refine boxE (N := 7) rfl (cs := #[.int .i64 0, .string (⟨#[]⟩ : ByteArray), .string (⟨#[]⟩ : ByteArray)]) (t := 95) ?_; intro gJ hg qK hbox hb; have qL := aM (xge hg); have qM := aM (xge hg); replace HB := xbs hb; have eM := nblt aJ hg; have eN := nbgt aJ hg; have eO := nblt aZ hg; have eP := nbgt aZ hg; replace aJ := xbb aJ hb; replace aZ := xbb aZ hb; have gK := aM (hbox); clear hb hbox hg; have qN := eN.out; have qO := eM.out; have qP := eP.out; have qQ := eO.out; obtain ⟨lC, lE, lF, lG, lH, lI⟩ := xf3 (w := qK) gK; obtain ⟨lJ, lK, lL, lM⟩ := xf2 (w := qK) aJ) | ((with_reducible refine gC 137 rfl ?_); refine goesLY (some 37) rfl Try.func137 #[.agg #[.int .i64 aD, .slice (some jE) aA.length aV], .agg #[.int .i64 a1, .string (((rd_T95 aA aN).f1) ++ ((rd_T95 aA aN).f2)), .string (⟨#[]⟩ : ByteArray)]] ?_; (with_reducible refine (spec_l3Put.calls nF aD _ _ aA a1 (((rd_T95 aA aN).f1) ++ ((rd_T95 aA aN).f2)) (⟨#[]⟩ : ByteArray) jC jD _ ?side1 ?side2 mU.out).mono ?_); (case side1 => exact Kd.C_below aW.out xbg); (case side2 => exact bC.out); rintro e rV ⟨rW, rfl, bQ, hb⟩; refine ⟨_, rfl, ?_⟩; have gL := aM (Kd.R_lower (Kd.R_newB bQ (g := gJ) (o := .cells #[.int .i64 ((rd_T95 aA aN).f0), .string ((rd_T95 aA aN).f1), .string ((rd_T95 aA aN).f2)] 95 (0, 0)) xP) (below_size xbg)); replace aJ := xbc aJ hb; replace aZ := xbc aZ hb; replace gK := aM (blk_below (g := gJ) (o := .cells #[.int .i64 ((rd_T95 aA aN).f0), .string ((rd_T95 aA aN).f1), .string ((rd_T95 aA aN).f2)] 95 (0, 0)) xP hb); replace HB := xbs hb; (try clear hb bQ); obtain ⟨lN, lO, lP, lQ⟩ := xf2 (w := rV) aZ; obtain ⟨nK, nL, nM⟩ := Kd.R_slice gL.out; subst nM))
        refine bodyPost_ret (results_ct rfl _ _ dY 26 #[.int .i64 jC, .slice nK jD.length nL] (0, 0) _ rfl xP Try.underlying26 rfl (by kernel_rfl)) rfl ?_; exact ⟨_, xerr, xrm gL (fun _ _ => trivial), xbg⟩
       ·rw [if_neg fA] at H; exact absurd H (by simp)
      ·rw [if_neg lB] at H; exact absurd H (by simp)
     ·rw [if_neg lA] at H; exact absurd H (by simp)

/-! ### spec_JournalMend: function 15 -/
def spec_JournalMend.f (k : Nat) (aD : Int) (aA : List (S95)) (a1 : Int) : Option (Int × (List (S95)) × Int) := (spec_JournalRead.f k aD aA a1).bind fun eY => ((spec_DiskCut.f k aD aA a1 eY.2).bind fun bK => (if bK.2.2 = 0 then ((spec_DiskSync.f k bK.1 bK.2.1 a1).bind fun cM => (some (cM.1, cM.2.1, cM.2.2))) else (some (bK.1, bK.2.1, bK.2.2))))
theorem u5_mq2 {p : Prop} (h : p := by repeat' first | (with_reducible first | exact spec_DiskCut.mono _ _ _ _ _ | exact spec_DiskSync.mono _ _ _ _ | exact spec_JournalRead.mono _ _ _ _ | exact LeO.refl _ | exact LeO.none _ | refine LeO.ite ?_ ?_ | refine LeO.bind ?_ (fun _ => ?_)) | exact LeO.none _ | refine LeO.ite ?_ ?_ | refine LeO.bind ?_ (fun _ => ?_)) : p := h
theorem spec_JournalMend.mono : ∀ a0 a1 a2 k, LeO (spec_JournalMend.f k a0 a1 a2) (spec_JournalMend.f (k + 1) a0 a1 a2) := by
 intro a0 a1 a2 k
 unfold spec_JournalMend.f
 exact u5_mq2
set_option maxHeartbeats 8000000 in
set_option maxRecDepth 100000 in
theorem spec_JournalMend.calls (k : Nat) (aD : Int) (bA : Option Addr) (aV : Nat) (aA : List (S95)) (a1 : Int) (r1 : Int) (r2 : List (S95)) (r3 : Int) (w : World) (cI : Kd.C k95 w bA aA.length aA) (cJ : aA.length ≤ aV) (h : spec_JournalMend.f k aD aA a1 = some (r1, r2, r3)) :
 Calls Try.prog 15 #[.agg #[.int .i64 aD, .slice bA aA.length aV], .int .i64 a1] w fun e w' => ∃ v1_ : Value, e = .returned (.tuple #[.agg #[.int .i64 r1, v1_], .int .i64 r3]) ∧ Kd.R k95 95 w' w.heap.size (fun _ => True) v1_ r2 ∧ Below w.heap.size w w' := by
 have gX := Try.underlying26
 have aW := aM cI
 have bC := aM cJ
 clear cI cJ
 have HB := aM (Below.refl w.heap.size w)
 have H : ((spec_JournalRead.f k aD aA a1).bind fun eY => ((spec_DiskCut.f k aD aA a1 eY.2).bind fun bK => (if bK.2.2 = 0 then ((spec_DiskSync.f k bK.1 bK.2.1 a1).bind fun cM => (some (cM.1, cM.2.1, cM.2.2))) else (some (bK.1, bK.2.1, bK.2.2))))) = some (r1, r2, r3) := h
 clear h
 replace H := oB H
 obtain ⟨⟨gS, eQ⟩, qR, H⟩ := H
 (try dsimp only at H)
 have A3 := aM qR
 clear qR
 replace H := oB H
 obtain ⟨⟨cN, cK, gT⟩, qS, H⟩ := H
 (try dsimp only at H)
 have A4 := aM qS
 clear qS
 by_cases c5 : gT = 0
 ·rw [if_pos c5] at H; obtain ⟨nN, nO⟩ := bT c5; clear c5; replace H := oB H; obtain ⟨⟨jF, jG, nP⟩, gH, H⟩ := H; (try dsimp only at H); have A6 := aM gH; clear gH
  simp only [Option.some.injEq, Prod.mk.injEq] at H; obtain ⟨rfl, rfl, rfl⟩ := H; go_enter Try.func15, Try.ntmps15
  go_wp2_with (first | ((with_reducible refine gD 2 rfl ?_); refine boxE (N := 2) rfl (cs := #[.int .i64 aD, .slice bA aA.length aV]) (t := 26) ?_; intro jH hg w7 hbox hb; have aH := aM (hbox); have jI := aM (xge hg); have jJ := aM (xge hg); replace HB := xbs hb; clear hb hbox hg) | ((with_reducible refine gD 4 rfl ?_); refine boxE (N := 4) rfl (cs := #[.int .i64 0, .slice none 0 0]) (t := 26) ?_; intro cQ hg w8 hbox hb; have jK := aM (xge hg); have jL := aM (xge hg); replace HB := xbs hb; have cB := nblt aH hg; have cC := nbgt aH hg; replace aH := xbb aH hb; have aU := aM (hbox); clear hb hbox hg; have nD := cB.out; have nE := cC.out; obtain ⟨eA, eB, eC, eD⟩ := xf2 (w := w8) aH) | ((with_reducible refine gC 69 rfl ?_); refine goesLY (some 13) rfl Try.func69 #[.agg #[.int .i64 aD, .slice bA aA.length aV], .int .i64 a1] ?_; (with_reducible refine (spec_JournalRead.calls k aD _ _ aA a1 gS eQ _ ?side1 ?side2 A3.out).mono ?_); (case side1 => exact xcb aW); (case side2 => exact bC.out); rintro e kQ ⟨jM, rfl, bQ, hb⟩; refine ⟨_, rfl, ?_⟩; have bL := aM (Kd.R_lower bQ (below_size xbg)); replace aH := xbb aH hb; replace aU := xbb aU hb; replace HB := xbs hb; (try clear hb bQ); obtain ⟨lR, lS, lT, lU⟩ := xf2 (w := kQ) aH) | ((with_reducible refine gC 70 rfl ?_); refine goesLY (some 20) rfl Try.func70 #[.agg #[.int .i64 aD, .slice bA aA.length aV], .int .i64 a1, .int .i64 eQ] ?_; (with_reducible refine (spec_DiskCut.calls k aD _ _ aA a1 eQ cN cK gT _ ?side1 ?side2 A4.out).mono ?_); (case side1 => exact xcb aW); (case side2 => exact bC.out); rintro e rX ⟨nQ, rfl, bQ, hb⟩; refine ⟨_, rfl, ?_⟩; replace bL := xrb bL hb; have bG := aM (Kd.R_lower bQ (below_size xbg)); replace aH := xbb aH hb; replace aU := xbb aU hb; replace HB := xbs hb; (try clear hb bQ)) | ((with_reducible refine gD 8 rfl ?_); refine boxE (N := 8) rfl (cs := #[.int .i64 0, .slice none 0 0]) (t := 26) ?_; intro cX hg qD hbox hb; replace bL := xrb bL hb; replace bG := xrb bG hb; have jN := aM (xge hg); have jO := aM (xge hg); replace HB := xbs hb; have cD := nblt aH hg; have cE := nbgt aH hg; have cF := nblt aU hg; have cG := nbgt aU hg; replace aH := xbb aH hb; replace aU := xbb aU hb; have cY := aM (hbox); clear hb hbox hg; have qT := cE.out; have qU := cD.out; have iV := cG.out; have iW := cF.out; obtain ⟨fS, fT, fU, fV⟩ := xf2 (w := qD) cY; obtain ⟨jP, jQ, nR⟩ := Kd.R_slice bG.out; subst nR) | ((with_reducible refine gC 71 rfl ?_); refine goesLY (some 29) rfl Try.func71 #[.agg #[.int .i64 cN, .slice jP cK.length jQ], .int .i64 a1] ?_; (with_reducible refine (spec_DiskSync.calls k cN _ _ cK a1 jF jG nP _ ?side1 ?side2 A6.out).mono ?_); (case side1 => exact (Kd.R_reads' (xrs bG)).2.2); (case side2 => exact (Kd.R_reads' bG.out).2.1); rintro e rY ⟨rZ, rfl, bQ, hb⟩; refine ⟨_, rfl, ?_⟩; replace bL := xrB bL hb; have gM := aM (Kd.R_lower (Kd.R_new' bQ (Kd.R_lt (xrs bG))) (below_size xbg)); replace bG := aM (Kd.R_elder' (xrs bG) (Kd.R_base bQ) hb); replace aH := xbc aH hb; replace aU := xbc aU hb; replace cY := aM (blk_below (g := cX) (o := .cells #[.int .i64 cN, .slice jP cK.length jQ] 26 (0, 0)) xP hb); replace HB := xbs hb; (try clear hb bQ); obtain ⟨lV, lW, lX, lY⟩ := xf2 (w := rY) aU; obtain ⟨nS, nT, nU⟩ := Kd.R_slice gM.out; subst nU))
  refine bodyPost_ret (results_ct rfl _ _ cQ 26 #[.int .i64 jF, .slice nS jG.length nT] (0, 0) _ rfl xP Try.underlying26 rfl (by kernel_rfl)) rfl ?_; exact ⟨_, xerr, xrm gM (fun _ _ => trivial), xbg⟩
 ·rw [if_neg c5] at H; obtain ⟨nN, nO⟩ := bF c5; simp only [Option.some.injEq, Prod.mk.injEq] at H; obtain ⟨rfl, rfl, rfl⟩ := H; go_enter Try.func15, Try.ntmps15
  go_wp2_with (first | ((with_reducible refine gD 2 rfl ?_); refine boxE (N := 2) rfl (cs := #[.int .i64 aD, .slice bA aA.length aV]) (t := 26) ?_; intro jH hg sO hbox hb; have aH := aM (hbox); have jI := aM (xge hg); have jJ := aM (xge hg); replace HB := xbs hb; clear hb hbox hg) | ((with_reducible refine gD 4 rfl ?_); refine boxE (N := 4) rfl (cs := #[.int .i64 0, .slice none 0 0]) (t := 26) ?_; intro cQ hg gU hbox hb; have jK := aM (xge hg); have jL := aM (xge hg); replace HB := xbs hb; have cB := nblt aH hg; have cC := nbgt aH hg; replace aH := xbb aH hb; have aU := aM (hbox); clear hb hbox hg; have qV := cB.out; have qW := cC.out; obtain ⟨lZ, mA, mB, mC⟩ := xf2 (w := gU) aH) | ((with_reducible refine gC 69 rfl ?_); refine goesLY (some 13) rfl Try.func69 #[.agg #[.int .i64 aD, .slice bA aA.length aV], .int .i64 a1] ?_; (with_reducible refine (spec_JournalRead.calls k aD _ _ aA a1 gS eQ _ ?side1 ?side2 A3.out).mono ?_); (case side1 => exact xcb aW); (case side2 => exact bC.out); rintro e sA ⟨jM, rfl, bQ, hb⟩; refine ⟨_, rfl, ?_⟩; have bL := aM (Kd.R_lower bQ (below_size xbg)); replace aH := xbb aH hb; replace aU := xbb aU hb; replace HB := xbs hb; (try clear hb bQ); obtain ⟨mD, mE, mF, mG⟩ := xf2 (w := sA) aH) | ((with_reducible refine gC 70 rfl ?_); refine goesLY (some 20) rfl Try.func70 #[.agg #[.int .i64 aD, .slice bA aA.length aV], .int .i64 a1, .int .i64 eQ] ?_; (with_reducible refine (spec_DiskCut.calls k aD _ _ aA a1 eQ cN cK gT _ ?side1 ?side2 A4.out).mono ?_); (case side1 => exact xcb aW); (case side2 => exact bC.out); rintro e sP ⟨nQ, rfl, bQ, hb⟩; refine ⟨_, rfl, ?_⟩; replace bL := xrb bL hb; have bG := aM (Kd.R_lower bQ (below_size xbg)); replace aH := xbb aH hb; replace aU := xbb aU hb; replace HB := xbs hb; (try clear hb bQ)) | ((with_reducible refine gD 8 rfl ?_); refine boxE (N := 8) rfl (cs := #[.int .i64 0, .slice none 0 0]) (t := 26) ?_; intro cX hg kB hbox hb; replace bL := xrb bL hb; replace bG := xrb bG hb; have jN := aM (xge hg); have jO := aM (xge hg); replace HB := xbs hb; have cD := nblt aH hg; have cE := nbgt aH hg; have cF := nblt aU hg; have cG := nbgt aU hg; replace aH := xbb aH hb; replace aU := xbb aU hb; have cY := aM (hbox); clear hb hbox hg; have qX := cE.out; have qY := cD.out; have qZ := cG.out; have rA := cF.out; obtain ⟨mH, mI, mJ, mK⟩ := xf2 (w := kB) cY; obtain ⟨eR, eS, nV⟩ := Kd.R_slice bG.out; subst nV; obtain ⟨mL, mM, mN, mO⟩ := xf2 (w := kB) aU) | ((with_reducible refine gate_store (t := 26) (p := 4) rfl ?_); refine store_event (t := 26) (p := 4) (v := ?vo_w35) (w1 := ((((kB.setCell ⟨cX, 0, none⟩ (.int .i64 cN)).setCell ⟨cX, 1, none⟩ (.slice eR cK.length eS)).setCell ⟨cQ, 0, none⟩ (.int .i64 cN)).setCell ⟨cQ, 1, none⟩ (.slice eR cK.length eS))) ?hg ?ho ?hn ?hr ?_; (case ho | hg | hn => rfl); (case hr => exact u5_2); intro mP hw; replace bL : Aside0 (Kd.R Kd.string 9 mP w.heap.size (fun _ => True) jM gS) := xwm hw bL (fun _ _ => trivial); replace bG : Aside0 (Kd.R k95 95 mP w.heap.size (fun _ => True) (.slice eR cK.length eS) cK) := xwm hw bG (fun _ _ => trivial); replace aH := xwc hw aH; replace aU : Aside0 (mP.heap[cQ]? = some (.cells #[.int .i64 cN, .slice eR cK.length eS] 26 (0, 0))) := xwp hw; replace cY : Aside0 (mP.heap[cX]? = some (.cells #[.int .i64 cN, .slice eR cK.length eS] 26 (0, 0))) := xwp hw; replace HB := xbw hw HB; clear hw))
  refine bodyPost_ret (results_ct rfl _ _ cQ 26 #[.int .i64 cN, .slice eR cK.length eS] (0, 0) _ rfl xblk Try.underlying26 rfl (by kernel_rfl)) rfl ?_; exact ⟨_, xerr, by (with_reducible repeat (first | apply Kd.R_alloc | apply Kd.R_drewN | apply Kd.R_drew)); exact bG.out, xbg⟩

/-! ### spec_PutNum: function 180 -/
def spec_PutNum.l0 : Nat → Int → List Int → Option (List Int)
 | 0, _, _ => none
 | k + 1, x0, x3 => if x0 > 127 then (if x3.length < 140737488355328 then (spec_PutNum.l0 k (wrap64 (Int.tdiv x0 128)) (x3 ++ [(wrap64 ((Int.tmod x0 128) + 128)) % 256])) else (none)) else (if x3.length < 140737488355328 then (some (x3 ++ [(x0) % 256])) else (none))
def spec_PutNum.f (k : Nat) (a0 : Int) : Option (List Int) := (some (([] : List Int) : List Int)).bind fun cU => (if a0 < 0 then (some cU) else (spec_PutNum.l0 k a0 cU))
theorem u5_mq3 {p : Prop} (h : p := by repeat' first | (with_reducible first | exact gA _ _ | exact LeO.refl _ | exact LeO.none _ | refine LeO.ite ?_ ?_ | refine LeO.bind ?_ (fun _ => ?_)) | exact LeO.none _ | refine LeO.ite ?_ ?_ | refine LeO.bind ?_ (fun _ => ?_)) : p := h
set_option maxRecDepth 100000 in
theorem spec_PutNum.mono_l : ∀ k, (∀ y0 y1, LeO (spec_PutNum.l0 k y0 y1) (spec_PutNum.l0 (k + 1) y0 y1))
 | 0 => fun _ _ r h => by simp [spec_PutNum.l0] at h
 | k + 1 => by
  have gA := spec_PutNum.mono_l k
  ·intro y0 y1; unfold spec_PutNum.l0; exact u5_mq3
theorem spec_PutNum.mono : ∀ a0 k, LeO (spec_PutNum.f k a0) (spec_PutNum.f (k + 1) a0) := by
 intro a0 k
 have gA := spec_PutNum.mono_l k
 unfold spec_PutNum.f
 exact u5_mq3
set_option maxHeartbeats 8000000 in
set_option maxRecDepth 100000 in
theorem spec_PutNum.calls (k : Nat) (a0 : Int) (r : List Int) (w : World) (h : spec_PutNum.f k a0 = some r) :
 Calls Try.prog 180 #[.int .i64 a0] w fun e w' => ∃ v0_ : Value, e = .returned (v0_) ∧ Kd.R (Kd.int .u8) 5 w' w.heap.size (fun _ => True) v0_ r ∧ Below w.heap.size w w' := by
 have HB := aM (Below.refl w.heap.size w)
 have H : ((some (([] : List Int) : List Int)).bind fun cU => (if a0 < 0 then (some cU) else (spec_PutNum.l0 k a0 cU))) = some r := h
 clear h
 obtain ⟨cU, hY⟩ : ∃ y_ : List Int, y_ = (([] : List Int)) := ⟨_, rfl⟩
 replace H : (if a0 < 0 then (some cU) else (spec_PutNum.l0 k a0 cU)) = some r := u5_1
 have eH := aM hY
 clear hY
 by_cases c2 : a0 < 0
 ·rw [if_pos c2] at H; have fW : decide (a0 < 0) = true := decide_eq_true c2; clear c2; obtain rfl := Option.some.inj H; go_enter Try.func180, Try.ntmps180
  go_wp2_with (first | ((with_reducible refine gD 4 rfl ?_); refine Kd.R_lit (Kd.int .u8) _ 5 ?hg (N := 4) ?hd (xs := ([] : List Int)) (inner := []) (ok := fun _ => True) (okp := fun _ => True) ?hr ?hp (fun _ hk => hk) trivial (Below.refl _ _) (Nat.le_refl _) (by simp) ?_; (case hd => rfl); (case hg => rfl); (case hr => exact u5_2); (case hp => exact (Reps.none _ _)); intro nW w3 eZ hb hg_ hnew_; clear hg_ hnew_; (first | rw [← eH.out] at eZ | (simp only [Int.reduceToNat] at eZ; rw [← eH.out] at eZ)); have fY := aM (Kd.R_lower eZ (below_size xbel)); replace HB := xbs hb; clear hb eZ))
  go_ret
  exact ⟨_, xerr, u5_5, xbel⟩
 ·rw [if_neg c2] at H; have fW : decide (a0 < 0) = false := decide_eq_false c2; clear c2; have H' := aM H; clear H; go_enter Try.func180, Try.ntmps180
  go_wp2_with (first | ((with_reducible refine gD 4 rfl ?_); refine Kd.R_lit (Kd.int .u8) _ 5 ?hg (N := 4) ?hd (xs := ([] : List Int)) (inner := []) (ok := fun _ => True) (okp := fun _ => True) ?hr ?hp (fun _ hk => hk) trivial (Below.refl _ _) (Nat.le_refl _) (by simp) ?_; (case hd => rfl); (case hg => rfl); (case hr => exact u5_2); (case hp => exact (Reps.none _ _)); intro nW w5 jR hb hg_ hnew_; clear hg_ hnew_; (first | rw [← eH.out] at jR | (simp only [Int.reduceToNat] at jR; rw [← eH.out] at jR)); have fY := aM (Kd.R_lower jR (below_size xbel)); replace HB := xbs hb; clear hb jR))
  go_loopg [0, 3] k (fun kq v0 v3 w' => ∃ (bZ : Int) (cV : List Int), v0 = .int .i64 bZ ∧ Aside0 (spec_PutNum.l0 kq bZ cV = some r) ∧ Aside0 (kq ≤ k) ∧ Aside0 (Kd.R (Kd.int .u8) 5 w' w.heap.size (fun _ => True) v3 cV) ∧ Aside0 (Below w.heap.size w w'))
  case atStart => exact ⟨(a0), (cU), u5_0, H', ⟨Nat.le_refl _⟩, ⟨u5_5⟩, ⟨xbel⟩⟩
  case round =>
   clear H'; try clear c1
   try clear c2
   try clear fW
   try clear p2
   obtain ⟨bZ, cV, rfl, HA, HK1, fX, HB⟩ := hrel; cases gk with
   | zero => exact absurd HA.out (by simp [spec_PutNum.l0])
   | succ k1 =>
    have H := HA.out; clear HA; simp only [spec_PutNum.l0] at H; by_cases c7 : bZ > 127
    ·rw [if_pos c7] at H; have nX : decide (127 < bZ) = true := decide_eq_true c7; clear c7; by_cases c8 : cV.length < 140737488355328
     ·rw [if_pos c8] at H; have LMc8 := aM c8; clear c8; obtain ⟨jS, hY⟩ : ∃ y_ : List Int, y_ = (cV ++ [(wrap64 ((Int.tmod bZ 128) + 128)) % 256]) := ⟨_, rfl⟩; replace H : (spec_PutNum.l0 k1 (wrap64 (Int.tdiv bZ 128)) jS) = some r := u5_1; have jT := aM hY; clear hY; have H' := aM H; clear H; go_wp2_with (first | ((with_reducible refine gate_builtin (b := .append) (xs := #[.tmp 10, .tmp 15]) rfl ?_); at_builtin; refine Kd.R_append (Kd.int .u8) (w0 := w) w.heap.size rfl (.tmp 10) (.tmp 15) 22 5 (.int .u8 0) 1 rfl Try.underlying22 info5 rfl (by decide) (by omega) u3 cV ((wrap64 ((Int.tmod bZ 128) + 128)) % 256) [.int .u8 ((wrap64 ((Int.tmod bZ 128) + 128)) % 256)] (fun _ => True) (fun _ => False) rfl rfl ?aP (fun _ hk => hk.elim) ?aF ?aO ?aB ?aS ?aL ?_; (case aP => exact rfl); (case aB => exact xbel); (case aF => exact (fun _ _ => trivial)); (case aO => exact (xr fX)); (case aS => exact (below_size xbel)); (case aL => have := LMc8.out; omega); intro sB w9 ho hb hg hat; rw [← jT.out] at ho; replace HB := aM (hb); have jU := aM (ho); clear fX; clear ho hb hg hat))
      go_roundg k1
      case measure => have := HK1.out; omega
      case rel => exact ⟨(wrap64 (Int.tdiv bZ 128)), (jS), u5_0, H', ⟨by have := HK1.out; omega⟩, ⟨by (with_reducible repeat (first | apply Kd.R_alloc | apply Kd.R_drewN | apply Kd.R_drew)); exact jU.out⟩, ⟨xbel⟩⟩
     ·rw [if_neg c8] at H; exact absurd H (by simp)
    ·rw [if_neg c7] at H; have nX : decide (127 < bZ) = false := decide_eq_false c7; clear c7; by_cases c10 : cV.length < 140737488355328
     ·rw [if_pos c10] at H; have LMc10 := aM c10; clear c10; obtain ⟨nY, hY⟩ : ∃ y_ : List Int, y_ = (cV ++ [(bZ) % 256]) := ⟨_, rfl⟩; replace H : (some nY) = some r := u5_1; have jV := aM hY; clear hY; obtain rfl := Option.some.inj H; go_wp2_with (first | ((with_reducible refine gate_builtin (b := .append) (xs := #[.tmp 19, .tmp 22]) rfl ?_); at_builtin; refine Kd.R_append (Kd.int .u8) (w0 := w) w.heap.size rfl (.tmp 19) (.tmp 22) 22 5 (.int .u8 0) 1 rfl Try.underlying22 info5 rfl (by decide) (by omega) u3 cV ((bZ) % 256) [.int .u8 ((bZ) % 256)] (fun _ => True) (fun _ => False) rfl rfl ?aP (fun _ hk => hk.elim) ?aF ?aO ?aB ?aS ?aL ?_; (case aP => exact rfl); (case aB => exact xbel); (case aF => exact (fun _ _ => trivial)); (case aO => exact (xr fX)); (case aS => exact (below_size xbel)); (case aL => have := LMc10.out; omega); intro sC kQ ho hb hg hat; rw [← jV.out] at ho; replace HB := aM (hb); have jW := aM (ho); clear fX; clear ho hb hg hat))
      go_ret
      exact ⟨_, xerr, by (with_reducible repeat (first | apply Kd.R_alloc | apply Kd.R_drewN | apply Kd.R_drew)); exact jW.out, xbel⟩
     ·rw [if_neg c10] at H; exact absurd H (by simp)

/-! ### spec_Seal: function 176 -/
def spec_Seal.f (k : Nat) (l0 : List Int) : Option (List Int × Bool) := if (l0.length : Int) > 3000 then (some ((([] : List Int)), false)) else ((spec_Sum.f k l0).bind fun aQ => ((spec_PutNum.f k (l0.length : Int)).bind fun cO => (if cO.length + l0.length < 140737488355328 then ((some (cO ++ l0 : List Int)).bind fun cH => ((some (([(aQ) % 256, (aQ / 256) % 256, (aQ / 65536) % 256, (aQ / 16777216) % 256] : List Int) : List Int)).bind fun bP => (if cH.length + bP.length < 140737488355328 then (some ((cH ++ bP), true)) else (none)))) else (none))))
theorem u5_mq4 {p : Prop} (h : p := by repeat' first | (with_reducible first | exact spec_PutNum.mono _ _ | exact spec_Sum.mono _ _ | exact LeO.refl _ | exact LeO.none _ | refine LeO.ite ?_ ?_ | refine LeO.bind ?_ (fun _ => ?_)) | exact LeO.none _ | refine LeO.ite ?_ ?_ | refine LeO.bind ?_ (fun _ => ?_)) : p := h
theorem spec_Seal.mono : ∀ a0 k, LeO (spec_Seal.f k a0) (spec_Seal.f (k + 1) a0) := by
 intro a0 k
 unfold spec_Seal.f
 exact u5_mq4
set_option maxHeartbeats 8000000 in
set_option maxRecDepth 100000 in
theorem spec_Seal.calls (k : Nat) (A0 : Option Addr) (c0 : Nat) (l0 : List Int) (r1 : List Int) (r2 : Bool) (w : World) (rB : Kd.C (Kd.int .u8) w A0 l0.length l0) (rC : l0.length ≤ c0) (h : spec_Seal.f k l0 = some (r1, r2)) :
 Calls Try.prog 176 #[.slice A0 l0.length c0] w fun e w' => ∃ v0_ : Value, e = .returned (.tuple #[v0_, .bool r2]) ∧ Kd.R (Kd.int .u8) 5 w' w.heap.size (fun _ => True) v0_ r1 ∧ Below w.heap.size w w' := by
 have rE := aM rB
 have sD := aM rC
 clear rB rC
 have HB := aM (Below.refl w.heap.size w)
 have H : (if (l0.length : Int) > 3000 then (some ((([] : List Int)), false)) else ((spec_Sum.f k l0).bind fun aQ => ((spec_PutNum.f k (l0.length : Int)).bind fun cO => (if cO.length + l0.length < 140737488355328 then ((some (cO ++ l0 : List Int)).bind fun cH => ((some (([(aQ) % 256, (aQ / 256) % 256, (aQ / 65536) % 256, (aQ / 16777216) % 256] : List Int) : List Int)).bind fun bP => (if cH.length + bP.length < 140737488355328 then (some ((cH ++ bP), true)) else (none)))) else (none))))) = some (r1, r2) := h
 clear h
 by_cases c2 : (l0.length : Int) > 3000
 ·rw [if_pos c2] at H; have fW : decide (3000 < (l0.length : Int)) = true := decide_eq_true c2; have nZ : decide (3000 < l0.length) = true := decide_eq_true (by omega); clear c2; obtain ⟨oA, hY⟩ : ∃ y_ : List Int, y_ = (([] : List Int)) := ⟨_, rfl⟩; replace H : (some (oA, false)) = some (r1, r2) := u5_1; have gN := aM hY; clear hY; simp only [Option.some.injEq, Prod.mk.injEq] at H; obtain ⟨rfl, rfl⟩ := H; go_enter Try.func176, Try.ntmps176
  go_wp2_with (first | ((with_reducible refine gD 9 rfl ?_); refine Kd.R_lit (Kd.int .u8) _ 5 ?hg (N := 9) ?hd (xs := ([] : List Int)) (inner := []) (ok := fun _ => True) (okp := fun _ => True) ?hr ?hp (fun _ hk => hk) trivial (Below.refl _ _) (Nat.le_refl _) (by simp) ?_; (case hd => rfl); (case hg => rfl); (case hr => exact u5_2); (case hp => exact (Reps.none _ _)); intro sE w3 eZ hb hg_ hnew_; clear hg_ hnew_; (first | rw [← gN.out] at eZ | (simp only [Int.reduceToNat] at eZ; rw [← gN.out] at eZ)); have jX := aM (Kd.R_lower eZ (below_size xbel)); replace HB := xbs hb; clear hb eZ))
  go_ret2
  exact ⟨_, xerr, by (with_reducible repeat (first | apply Kd.R_alloc | apply Kd.R_drewN | apply Kd.R_drew)); exact jX.out, xbel⟩
 ·rw [if_neg c2] at H; have fW : decide (3000 < (l0.length : Int)) = false := decide_eq_false c2; have nZ : decide (3000 < l0.length) = false := decide_eq_false (by omega); clear c2; replace H := oB H; obtain ⟨aQ, rF, H⟩ := H; (try dsimp only at H); have A5 := aM rF; clear rF; replace H := oB H
  obtain ⟨cO, gH, H⟩ := H; (try dsimp only at H); have A6 := aM gH; clear gH
  by_cases c7 : cO.length + l0.length < 140737488355328
  ·rw [if_pos c7] at H; have LMc7 := aM c7; clear c7; obtain ⟨cH, hY⟩ : ∃ y_ : List Int, y_ = (cO ++ l0) := ⟨_, rfl⟩; replace H : ((some (([(aQ) % 256, (aQ / 256) % 256, (aQ / 65536) % 256, (aQ / 16777216) % 256] : List Int) : List Int)).bind fun bP => (if cH.length + bP.length < 140737488355328 then (some ((cH ++ bP), true)) else (none))) = some (r1, r2) := u5_1; have jY := aM hY; clear hY; obtain ⟨bP, hY⟩ : ∃ y_ : List Int, y_ = (([(aQ) % 256, (aQ / 256) % 256, (aQ / 65536) % 256, (aQ / 16777216) % 256] : List Int)) := ⟨_, rfl⟩; replace H : (if cH.length + bP.length < 140737488355328 then (some ((cH ++ bP), true)) else (none)) = some (r1, r2) := u5_1; have gO := aM hY; clear hY; by_cases c8 : cH.length + bP.length < 140737488355328
   ·rw [if_pos c8] at H; have LMc8 := aM c8; clear c8; obtain ⟨oC, hY⟩ : ∃ y_ : List Int, y_ = (cH ++ bP) := ⟨_, rfl⟩; replace H : (some (oC, true)) = some (r1, r2) := u5_1; have jZ := aM hY; clear hY; simp only [Option.some.injEq, Prod.mk.injEq] at H; obtain ⟨rfl, rfl⟩ := H; go_enter Try.func176, Try.ntmps176
    go_wp2_with (first | ((with_reducible refine gC 173 rfl ?_); refine goesLY (some 11) rfl Try.func173 #[.slice A0 l0.length c0] ?_; (with_reducible refine (spec_Sum.calls k _ _ l0 aQ _ ?side1 ?side2 A5.out).mono ?_); (case side1 => repeat (first | exact rE.out | (with_reducible refine Kd.C_alloc ?_ _) | (with_reducible refine Kd.C_drewN ?_ _) | (with_reducible refine Kd.C_drew ?_))); (case side2 => exact sD.out); rintro e w' ⟨rfl, ⟨nd, rfl⟩⟩; refine ⟨_, rfl, ?_⟩) | ((with_reducible refine gC 180 rfl ?_); refine goesLY (some 14) rfl Try.func180 #[.int .i64 (l0.length : Int)] ?_; (with_reducible refine (spec_PutNum.calls k (l0.length : Int) cO _ A6.out).mono ?_); rintro e w9 ⟨oD, rfl, bQ, hb⟩; refine ⟨_, rfl, ?_⟩; have gP := aM (Kd.R_lower bQ (below_size xbel)); replace HB := xbs hb; (try clear hb bQ)) | ((with_reducible refine gate_builtin (b := .append) (xs := #[.tmp 14, .tmp 15]) rfl ?_); at_builtin; refine Kd.R_append_rows (Kd.int .u8) (w0 := w) w.heap.size rfl (.tmp 14) (.tmp 15) 22 5 (.int .u8 0) 1 rfl Try.underlying22 info5 rfl (by decide) (by omega) oD cO l0 _ _ _ (fun _ => True) (fun _ => False) rfl rfl ?aO ?aR (fun _ _ h => h) (fun _ h => h.elim) ?aF ?aB ?aS ?aL ?_; (case aR => exact xcb rE); (case aB => exact xbel); (case aF => exact (fun _ _ => trivial)); (case aO => exact (xr gP)); (case aS => exact (below_size xbel)); (case aL => have := LMc7.out; omega); intro oE sQ ho hb hg hat; rw [← jY.out] at ho; replace HB := aM (hb); have cZ := aM (ho); clear gP; clear ho hb hg hat) | ((with_reducible refine gD 29 rfl ?_); refine Kd.R_lit (Kd.int .u8) _ 5 ?hg (N := 29) ?hd (xs := ([(aQ) % 256, (aQ / 256) % 256, (aQ / 65536) % 256, (aQ / 16777216) % 256] : List Int)) (inner := [.int .u8 ((aQ) % 256), .int .u8 ((aQ / 256) % 256), .int .u8 ((aQ / 65536) % 256), .int .u8 ((aQ / 16777216) % 256)]) (ok := fun _ => True) (okp := fun _ => True) ?hr ?hp (fun _ hk => hk) trivial (Below.refl _ _) (Nat.le_refl _) (by simp) ?_; (case hd => rfl); (case hg => rfl); (case hr => exact u5_2); (case hp => exact (Reps.one (show Kd.M (Kd.int .u8) _ _ _ ((aQ) % 256) [.int .u8 ((aQ) % 256)] from rfl) (Reps.one (show Kd.M (Kd.int .u8) _ _ _ ((aQ / 256) % 256) [.int .u8 ((aQ / 256) % 256)] from rfl) (Reps.one (show Kd.M (Kd.int .u8) _ _ _ ((aQ / 65536) % 256) [.int .u8 ((aQ / 65536) % 256)] from rfl) (Reps.one (show Kd.M (Kd.int .u8) _ _ _ ((aQ / 16777216) % 256) [.int .u8 ((aQ / 16777216) % 256)] from rfl) (Reps.none _ _)))))); intro sF kQ eT hb hg_ hnew_; clear hg_ hnew_; (first | rw [← gO.out] at eT | (simp only [Int.reduceToNat] at eT; rw [← gO.out] at eT)); have dA := aM (Kd.R_lower (Kd.R_new' eT (Kd.R_lt (xr cZ))) (below_size xbel)); replace cZ := aM (Kd.R_elder' (xr cZ) (Kd.R_base eT) hb); replace HB := xbs hb; clear hb eT; obtain ⟨oF, oG, oH⟩ := Kd.R_slice dA.out; subst oH) | ((with_reducible refine gate_builtin (b := .append) (xs := #[.tmp 17, .tmp 29]) rfl ?_); at_builtin; refine Kd.R_append_rows (Kd.int .u8) (w0 := w) w.heap.size rfl (.tmp 17) (.tmp 29) 22 5 (.int .u8 0) 1 rfl Try.underlying22 info5 rfl (by decide) (by omega) oE cH bP _ _ _ (fun k_ => some k_ ≠ (.slice oF bP.length oG : Value).ownBlock) (fun _ => False) rfl rfl ?aO ?aR (fun _ _ h => h) (fun _ h => h.elim) ?aF ?aB ?aS ?aL ?_; (case aR => repeat (first | exact (Kd.R_reads' dA.out).2.2 | (with_reducible refine Kd.C_alloc ?_ _) | (with_reducible refine Kd.C_drewN ?_ _) | (with_reducible refine Kd.C_drew ?_))); (case aB => exact xbel); (case aF => exact (fun k_ hk => Kd.fresh' (Kd.R_lt (xr dA)) k_ hk)); (case aO => exact (by (with_reducible repeat (first | apply Kd.R_alloc | apply Kd.R_drewN | apply Kd.R_drew)); exact Kd.R_mono cZ.out (fun _ hk => hk.2))); (case aS => exact (below_size xbel)); (case aL => have := LMc8.out; omega); intro sG rX ho hb hg hat; rw [← jZ.out] at ho; replace dA := aM (Kd.R_after (ok := (fun _ => True)) (xr dA) hg hat); replace HB := aM (hb); have kA := aM (ho); clear cZ; clear ho hb hg hat))
    go_ret2
    exact ⟨_, xerr, by (with_reducible repeat (first | apply Kd.R_alloc | apply Kd.R_drewN | apply Kd.R_drew)); exact Kd.R_mono kA.out (fun _ hk => trivial), xbel⟩
   ·rw [if_neg c8] at H; exact absurd H (by simp)
  ·rw [if_neg c7] at H; exact absurd H (by simp)

theorem u6_0 {p : Prop} (h : p := by first | rfl | (simp; done) | (simp [*]; done)) : p := h
theorem u6_1 {p : Prop} (h : p := by first | (rw [hY]; with_reducible exact H) | (have H2_ := oS H; rw [hY]; with_reducible exact H2_) | (have H2_ := oS H; with_reducible exact H2_) | with_reducible exact H | (rw [hY]; exact H) | exact H) : p := h
theorem u6_2 {p : Prop} (h : p := by first | (go_simp; done) | (go_simp; rfl)) : p := h
theorem u6_3 {p : Prop} (h : p := by (with_reducible repeat (first | apply Kd.V_alloc | apply Kd.V_drewN | apply Kd.V_drew)); exact bC.out) : p := h
theorem u6_4 {p : Prop} (h : p := by first | exact Kd.R_nil _ _ _ _ _ | exact Kd.N_nil _ _ _ _ _ | exact Kd.V_nil _ _ _ _ _ | exact Kd.Q_nil _ _ _ _ _ | exact Kd.S_nil _ _ _ _ _) : p := h
theorem u6_5 {p : Prop} (h : p := by (with_reducible repeat (first | apply Kd.R_alloc | apply Kd.R_drewN | apply Kd.R_drew)); exact bG.out) : p := h
/-! ### spec_l4Seals: function 140 -/
def spec_l4Seals.l0 : Nat → List ByteArray → List Int → Int → Option (ByteArray × Bool)
 | 0, _, _, _ => none
 | k + 1, x0, x4, x5 => if x5 < (x0.length : Int) then (if 0 ≤ x5 then (if (rdOf ByteArray.empty x0 x5).size ≤ 9223372036854775807 then ((spec_Seal.f k (bytesOf (rdOf ByteArray.empty x0 x5))).bind fun cF => (if cF.2 = true then (if x4.length + cF.1.length < 140737488355328 then (spec_l4Seals.l0 k x0 (x4 ++ cF.1) (wrap64 (x5 + 1))) else (none)) else (some ((⟨#[]⟩ : ByteArray), false)))) else (none)) else (none)) else (some (strOfNums x4, true))
def spec_l4Seals.f (k : Nat) (l0 : List ByteArray) : Option (ByteArray × Bool) := if (l0.length : Int) > 100 then (some ((⟨#[]⟩ : ByteArray), false)) else (spec_l4Seals.l0 k l0 (([] : List Int)) 0)
theorem u6_mq0 {p : Prop} (h : p := by repeat' first | (with_reducible first | exact dN _ _ _ | exact spec_Seal.mono _ _ | exact LeO.refl _ | exact LeO.none _ | refine LeO.ite ?_ ?_ | refine LeO.bind ?_ (fun _ => ?_)) | exact LeO.none _ | refine LeO.ite ?_ ?_ | refine LeO.bind ?_ (fun _ => ?_)) : p := h
set_option maxRecDepth 100000 in
theorem spec_l4Seals.mono_l : ∀ k, (∀ y0 y1 y2, LeO (spec_l4Seals.l0 k y0 y1 y2) (spec_l4Seals.l0 (k + 1) y0 y1 y2))
 | 0 => fun _ _ _ r h => by simp [spec_l4Seals.l0] at h
 | k + 1 => by
  have dN := spec_l4Seals.mono_l k
  ·intro y0 y1 y2; unfold spec_l4Seals.l0; exact u6_mq0
theorem spec_l4Seals.mono : ∀ a0 k, LeO (spec_l4Seals.f k a0) (spec_l4Seals.f (k + 1) a0) := by
 intro a0 k
 have dN := spec_l4Seals.mono_l k
 unfold spec_l4Seals.f
 exact u6_mq0
set_option maxHeartbeats 8000000 in
set_option maxRecDepth 100000 in
theorem spec_l4Seals.calls (k : Nat) (A0 : Option Addr) (c0 : Nat) (l0 : List ByteArray) (r1 : ByteArray) (r2 : Bool) (w : World) (oQ : Kd.C Kd.string w A0 l0.length l0) (oR : l0.length ≤ c0) (h : spec_l4Seals.f k l0 = some (r1, r2)) :
 Calls Try.prog 140 #[.slice A0 l0.length c0] w fun e w' => e = .returned (.tuple #[.string r1, .bool r2]) ∧ Below w.heap.size w w' := by
 have oT := aM oQ
 have rT := aM oR
 clear oQ oR
 have HB := aM (Below.refl w.heap.size w)
 have H : (if (l0.length : Int) > 100 then (some ((⟨#[]⟩ : ByteArray), false)) else (spec_l4Seals.l0 k l0 (([] : List Int)) 0)) = some (r1, r2) := h
 clear h
 by_cases c2 : (l0.length : Int) > 100
 ·rw [if_pos c2] at H; have fN : decide (100 < (l0.length : Int)) = true := decide_eq_true c2; have fO : decide (100 < l0.length) = true := decide_eq_true (by omega); clear c2; simp only [Option.some.injEq, Prod.mk.injEq] at H; obtain ⟨rfl, rfl⟩ := H; go_enter Try.func140, Try.ntmps140
  go_wp2; go_ret2
  exact ⟨xerr, xbel⟩
 ·rw [if_neg c2] at H; have fN : decide (100 < (l0.length : Int)) = false := decide_eq_false c2; have fO : decide (100 < l0.length) = false := decide_eq_false (by omega); clear c2; obtain ⟨fP, hY⟩ : ∃ y_ : List Int, y_ = (([] : List Int)) := ⟨_, rfl⟩; replace H : (spec_l4Seals.l0 k l0 fP 0) = some (r1, r2) := u6_1; have eM := aM hY; clear hY; have H' := aM H; clear H; go_enter Try.func140, Try.ntmps140
  go_wp2_with (first | ((with_reducible refine gD 11 rfl ?_); refine Kd.R_lit (Kd.int .u8) _ 5 ?hg (N := 11) ?hd (xs := ([] : List Int)) (inner := []) (ok := fun _ => True) (okp := fun _ => True) ?hr ?hp (fun _ hk => hk) trivial (Below.refl _ _) (Nat.le_refl _) (by simp) ?_; (case hd => rfl); (case hg => rfl); (case hr => exact u6_2); (case hp => exact (Reps.none _ _)); intro qP w3 dO hb hg_ hnew_; clear hg_ hnew_; (first | rw [← eM.out] at dO | (simp only [Int.reduceToNat] at dO; rw [← eM.out] at dO)); have fQ := aM (Kd.R_lower dO (below_size xbel)); replace HB := xbs hb; clear hb dO))
  go_loopg [4, 5] k (fun kq v4 v5 w' => ∃ (cN : List Int) (aI : Int), v5 = .int .i64 aI ∧ Aside0 (spec_l4Seals.l0 kq l0 cN aI = some (r1, r2)) ∧ Aside0 (kq ≤ k) ∧ Aside0 (Kd.R (Kd.int .u8) 5 w' w.heap.size (fun _ => True) v4 cN) ∧ Aside0 (Below w.heap.size w w'))
  case atStart => exact ⟨(fP), (0), u6_0, H', ⟨Nat.le_refl _⟩, ⟨by (with_reducible repeat (first | apply Kd.R_alloc | apply Kd.R_drewN | apply Kd.R_drew)); exact fQ.out⟩, ⟨xbel⟩⟩
  case round =>
   clear H'; try clear c1
   try clear c2
   try clear fN
   try clear fO
   try clear p2
   obtain ⟨cN, aI, rfl, HA, HK1, bL, HB⟩ := hrel; cases gk with
   | zero => exact absurd HA.out (by simp [spec_l4Seals.l0])
   | succ k1 =>
    have H := HA.out; clear HA; simp only [spec_l4Seals.l0] at H; by_cases c5 : aI < (l0.length : Int)
    ·rw [if_pos c5] at H; have eX : decide (aI < (l0.length : Int)) = true := decide_eq_true c5; clear c5; by_cases c6 : 0 ≤ aI
     ·rw [if_pos c6] at H; have fR : decide (0 ≤ aI) = true := decide_eq_true c6; clear c6; by_cases c7 : (rdOf ByteArray.empty l0 aI).size ≤ 9223372036854775807
      ·rw [if_pos c7] at H; have fS := eq_true c7; have qQ : decide ((rdOf ByteArray.empty l0 aI).size ≤ 9223372036854775807) = true := decide_eq_true c7; try have qR : (9223372036854775807 < (rdOf ByteArray.empty l0 aI).size) = False := eq_false (Nat.not_lt.2 c7)
       clear c7; obtain ⟨dP, hY⟩ : ∃ y_ : List Int, y_ = (bytesOf (rdOf ByteArray.empty l0 aI)) := ⟨_, rfl⟩; replace H : ((spec_Seal.f k1 dP).bind fun cF => (if cF.2 = true then (if cN.length + cF.1.length < 140737488355328 then (spec_l4Seals.l0 k1 l0 (cN ++ cF.1) (wrap64 (aI + 1))) else (none)) else (some ((⟨#[]⟩ : ByteArray), false)))) = some (r1, r2) := u6_1; have cY := aM hY; clear hY; replace H := oB H; obtain ⟨⟨cX, nE⟩, fT, H⟩ := H; (try dsimp only at H); have A8 := aM fT; clear fT
       by_cases c9 : nE = true
       ·subst c9; replace H := iT H; by_cases c10 : cN.length + cX.length < 140737488355328
        ·rw [if_pos c10] at H; have LMc10 := aM c10; clear c10; obtain ⟨fU, hY⟩ : ∃ y_ : List Int, y_ = (cN ++ cX) := ⟨_, rfl⟩; replace H : (spec_l4Seals.l0 k1 l0 fU (wrap64 (aI + 1))) = some (r1, r2) := u6_1; have fV := aM hY; clear hY; have H' := aM H; clear H; have p293 : 0 ≤ (aI : Int) := oda; have q293 : aI < (l0.length : Int) := oda; obtain ⟨fW, eY, bM⟩ := Kd.at_string oT.out aI p293 q293; cases eY
         replace bM := xce HB bM; replace p293 := eq_true p293; replace q293 := eq_true q293; go_wp2_with (first | ((with_reducible refine gD 23 rfl ?_); refine Kd.V_conv _ 5 rfl (N := 23) rfl 9 22 _ rfl (rdOf ByteArray.empty l0 aI) rfl Try.underlying9 Try.underlying22 Try.underlying5 (oda) (ok := fun k_ => wr.heap.size ≤ k_) (Nat.le_refl _) (Below.refl _ _) (Nat.le_refl _) ?_; intro nF nG dQ hb hg_ hnew_; clear hg_ hnew_; (first | rw [← cY.out] at dQ | (simp only [Int.reduceToNat] at dQ; rw [← cY.out] at dQ)); have bC := aM (Kd.V_lower (Kd.V_mono (ok' := fun k_ => some k_ ≠ (u4 : Value).ownBlock) dQ (fun k_ hk_ => (Kd.fresh' (Kd.R_lt (xr bL)) k_ hk_))) (below_size xbel)); replace bL := xrb bL hb; replace HB := xbs hb; clear hb dQ; obtain ⟨nH, nI, nJ⟩ := Kd.V_slice bC.out; subst nJ) | ((with_reducible refine gC 176 rfl ?_); refine goesLY (some 24) rfl Try.func176 #[.slice nH dP.length nI] ?_; (with_reducible refine (spec_Seal.calls k1 _ _ dP cX true _ ?side1 ?side2 A8.out).mono ?_); (case side1 => repeat (first | exact (Kd.V_reads' bC.out).2.2 | (with_reducible refine Kd.C_alloc ?_ _) | (with_reducible refine Kd.C_drewN ?_ _) | (with_reducible refine Kd.C_drew ?_))); (case side2 => exact (Kd.V_reads' bC.out).2.1); rintro e rU ⟨nK, rfl, bJ, hb⟩; refine ⟨_, rfl, ?_⟩; replace bC := aM (Kd.V_elder' u6_3 (Kd.R_base bJ) hb); have cK := aM (Kd.R_lower (Kd.R_new' bJ (Kd.R_lt (xr bL))) (below_size xbel)); replace bL := aM (Kd.R_elder' (xr bL) (Kd.R_base bJ) hb); replace HB := xbs hb; (try clear hb bJ); obtain ⟨dR, dS, eZ⟩ := Kd.R_slice cK.out; subst eZ) | ((with_reducible refine gate_builtin (b := .append) (xs := #[.tmp 29, .tmp 30]) rfl ?_); at_builtin; refine Kd.R_append_rows (Kd.int .u8) (w0 := w) w.heap.size rfl (.tmp 29) (.tmp 30) 22 5 (.int .u8 0) 1 rfl Try.underlying22 info5 rfl (by decide) (by omega) u4 cN cX _ _ _ (fun k_ => some k_ ≠ (.slice dR cX.length dS : Value).ownBlock) (fun _ => False) rfl rfl ?aO ?aR (fun _ _ h => h) (fun _ h => h.elim) ?aF ?aB ?aS ?aL ?_; (case aR => repeat (first | exact (Kd.R_reads' cK.out).2.2 | (with_reducible refine Kd.C_alloc ?_ _) | (with_reducible refine Kd.C_drewN ?_ _) | (with_reducible refine Kd.C_drew ?_))); (case aB => exact xbel); (case aF => exact (fun k_ hk => Kd.fresh' (Kd.R_lt (xr cK)) k_ hk)); (case aO => exact (by (with_reducible repeat (first | apply Kd.R_alloc | apply Kd.R_drewN | apply Kd.R_drew)); exact Kd.R_mono bL.out (fun _ hk => hk.2))); (case aS => exact (below_size xbel)); (case aL => have := LMc10.out; omega); intro qS oU ho hb hg hat; rw [← fV.out] at ho; replace bC := aM (Kd.V_afterv (ok := (fun k_ => some k_ ≠ (.slice dR cX.length dS : Value).ownBlock)) (by (with_reducible repeat (first | apply Kd.V_alloc | apply Kd.V_drewN | apply Kd.V_drew)); exact Kd.V_mono bC.out (fun _ hk => ⟨hk.2, hk.1⟩)) hg hat); replace cK := aM (Kd.R_after (ok := (fun _ => True)) (xr cK) hg hat); replace HB := aM (hb); have fX := aM (ho); clear bL; clear ho hb hg hat))
         go_roundg k1
         case measure => have := HK1.out; omega
         case rel => exact ⟨(fU), (wrap64 (aI + 1)), u6_0, H', ⟨by have := HK1.out; omega⟩, ⟨by (with_reducible repeat (first | apply Kd.R_alloc | apply Kd.R_drewN | apply Kd.R_drew)); exact Kd.R_mono fX.out (fun _ hk => trivial)⟩, ⟨xbel⟩⟩
        ·rw [if_neg c10] at H; exact absurd H (by simp)
       ·replace c9 := Bool.eq_false_iff.mpr c9; subst c9; replace H := iN H; simp only [Option.some.injEq, Prod.mk.injEq] at H; obtain ⟨rfl, rfl⟩ := H; have p293 : 0 ≤ (aI : Int) := oda; have q293 : aI < (l0.length : Int) := oda; obtain ⟨fW, eY, bM⟩ := Kd.at_string oT.out aI p293 q293; cases eY
        replace bM := xce HB bM; replace p293 := eq_true p293; replace q293 := eq_true q293; go_wp2_with (first | ((with_reducible refine gD 23 rfl ?_); refine Kd.V_conv _ 5 rfl (N := 23) rfl 9 22 _ rfl (rdOf ByteArray.empty l0 aI) rfl Try.underlying9 Try.underlying22 Try.underlying5 (oda) (ok := fun k_ => wr.heap.size ≤ k_) (Nat.le_refl _) (Below.refl _ _) (Nat.le_refl _) ?_; intro nF jI dU hb hg_ hnew_; clear hg_ hnew_; (first | rw [← cY.out] at dU | (simp only [Int.reduceToNat] at dU; rw [← cY.out] at dU)); have bC := aM (Kd.V_lower (Kd.V_mono (ok' := fun k_ => some k_ ≠ (u4 : Value).ownBlock) dU (fun k_ hk_ => (Kd.fresh' (Kd.R_lt (xr bL)) k_ hk_))) (below_size xbel)); replace bL := xrb bL hb; replace HB := xbs hb; clear hb dU; obtain ⟨fA, fB, fC⟩ := Kd.V_slice bC.out; subst fC) | ((with_reducible refine gC 176 rfl ?_); refine goesLY (some 24) rfl Try.func176 #[.slice fA dP.length fB] ?_; (with_reducible refine (spec_Seal.calls k1 _ _ dP cX false _ ?side1 ?side2 A8.out).mono ?_); (case side1 => repeat (first | exact (Kd.V_reads' bC.out).2.2 | (with_reducible refine Kd.C_alloc ?_ _) | (with_reducible refine Kd.C_drewN ?_ _) | (with_reducible refine Kd.C_drew ?_))); (case side2 => exact (Kd.V_reads' bC.out).2.1); rintro e qT ⟨nK, rfl, bJ, hb⟩; refine ⟨_, rfl, ?_⟩; replace bC := aM (Kd.V_elder' u6_3 (Kd.R_base bJ) hb); have cK := aM (Kd.R_lower (Kd.R_new' bJ (Kd.R_lt (xr bL))) (below_size xbel)); replace bL := aM (Kd.R_elder' (xr bL) (Kd.R_base bJ) hb); replace HB := xbs hb; (try clear hb bJ)))
        go_ret2
        exact ⟨xerr, xbel⟩
      ·rw [if_neg c7] at H; exact absurd H (by simp)
     ·rw [if_neg c6] at H; exact absurd H (by simp)
    ·rw [if_neg c5] at H; have eX : decide (aI < (l0.length : Int)) = false := decide_eq_false c5; clear c5; simp only [Option.some.injEq, Prod.mk.injEq] at H; obtain ⟨rfl, rfl⟩ := H; have hcv21 := own_string (P := Try.prog) Try.underlying22 Try.underlying5 Try.underlying9 (Kd.own_of_R bL.out); go_wp2; go_ret2
     exact ⟨xerr, xbel⟩

/-! ### spec_DiskAppend: function 141 -/
def spec_DiskAppend.j0 : Nat → Int → ByteArray → Bool → Int → List (S95) → Option (Int × (List (S95)) × Int)
 | 0, _, _, _, _, _ => none
 | k + 1, x1, x2, qU, bK, aN => if qU = true then (some (0, ([] : List (S95)), 1)) else ((spec_l3Size.f k bK aN).bind fun cO => (if (x2.size : Int) > (wrap64 (bK - cO)) then ((spec_l3Copy.f bK aN).bind fun eN => (some (eN.1, eN.2, 3))) else ((spec_l3Find.f k bK aN x1).bind fun aH => (if aH ≥ 0 then (if 0 ≤ aH then (if aH < (aN.length : Int) then (if ((rd_T95 aN aH).f2).size + x2.size ≤ 9223372036854775807 then ((spec_l3Put.f k bK aN ((rd_T95 aN aH).f0) ((rd_T95 aN aH).f1) (((rd_T95 aN aH).f2) ++ x2)).bind fun eO => (some (eO.1, eO.2, 0))) else (none)) else (none)) else (none)) else (if 0 + x2.size ≤ 9223372036854775807 then ((spec_l3Put.f k bK aN x1 (⟨#[]⟩ : ByteArray) ((⟨#[]⟩ : ByteArray) ++ x2)).bind fun eP => (some (eP.1, eP.2, 0))) else (none))))))
def spec_DiskAppend.f (k : Nat) (aE : Int) (aC : List (S95)) (a1 : Int) (a2 : ByteArray) : Option (Int × (List (S95)) × Int) := (spec_DiskOk.f k aE aC).bind fun dV => (if dV = true then ((spec_l3Name.f a1).bind fun dJ => (spec_DiskAppend.j0 k a1 a2 (!dJ) aE aC)) else (spec_DiskAppend.j0 k a1 a2 true aE aC))
theorem u6_mq1 {p : Prop} (h : p := by repeat' first | (with_reducible first | exact dN _ _ _ _ _ | exact spec_DiskOk.mono _ _ _ | exact spec_l3Find.mono _ _ _ _ | exact spec_l3Put.mono _ _ _ _ _ _ | exact spec_l3Size.mono _ _ _ | exact LeO.refl _ | exact LeO.none _ | refine LeO.ite ?_ ?_ | refine LeO.bind ?_ (fun _ => ?_)) | exact LeO.none _ | refine LeO.ite ?_ ?_ | refine LeO.bind ?_ (fun _ => ?_)) : p := h
set_option maxRecDepth 100000 in
theorem spec_DiskAppend.mono_l : ∀ k, (∀ y0 y1 y2 y3 y4, LeO (spec_DiskAppend.j0 k y0 y1 y2 y3 y4) (spec_DiskAppend.j0 (k + 1) y0 y1 y2 y3 y4))
 | 0 => fun _ _ _ _ _ r h => by simp [spec_DiskAppend.j0] at h
 | k + 1 => by
  have dN := spec_DiskAppend.mono_l k
  ·intro y0 y1 y2 y3 y4; unfold spec_DiskAppend.j0; exact u6_mq1
theorem spec_DiskAppend.mono : ∀ a0 a1 a2 a3 k, LeO (spec_DiskAppend.f k a0 a1 a2 a3) (spec_DiskAppend.f (k + 1) a0 a1 a2 a3) := by
 intro a0 a1 a2 a3 k
 have dN := spec_DiskAppend.mono_l k
 unfold spec_DiskAppend.f
 exact u6_mq1
def spec_DiskAppend.T3 : Bool × List (List Nat × List Nat) := (true, [([], []), ([0], [0]), ([], []), ([2], [2]), ([], []), ([4], [4]), ([3, 5], [3, 5]), ([1, 6], [1, 6]), ([7, 5], [7])])
def spec_DiskAppend.B3 : List Nat := [0, 1, 0, 4, 0, 16, 60, 127, 255]
set_option maxHeartbeats 8000000 in
set_option maxRecDepth 100000 in
theorem spec_DiskAppend.calls (k : Nat) (aE : Int) (aU : Option Addr) (aK : Nat) (aC : List (S95)) (a1 : Int) (a2 : ByteArray) (r1 : Int) (r2 : List (S95)) (r3 : Int) (w : World) (cC : Kd.C k95 w aU aC.length aC) (cD : aC.length ≤ aK) (h : spec_DiskAppend.f k aE aC a1 a2 = some (r1, r2, r3)) :
 Calls Try.prog 141 #[.agg #[.int .i64 aE, .slice aU aC.length aK], .int .i64 a1, .string a2] w fun e w' => ∃ v1_ : Value, e = .returned (.tuple #[.agg #[.int .i64 r1, v1_], .int .i64 r3]) ∧ Kd.R k95 95 w' w.heap.size (fun _ => True) v1_ r2 ∧ Below w.heap.size w w' := by
 have fY := Try.underlying26
 have qV := Try.underlying95
 have aV := aM cC
 have aZ := aM cD
 clear cC cD
 have HB := aM (Below.refl w.heap.size w)
 have H : ((spec_DiskOk.f k aE aC).bind fun dV => (if dV = true then ((spec_l3Name.f a1).bind fun dJ => (spec_DiskAppend.j0 k a1 a2 (!dJ) aE aC)) else (spec_DiskAppend.j0 k a1 a2 true aE aC))) = some (r1, r2, r3) := h
 clear h
 have nL := aM H
 clear H
 go_enter Try.func141, Try.ntmps141
 go_upto_region 1 with (first | ((with_reducible refine gD 3 rfl ?_); refine boxE (N := 3) rfl (cs := #[.int .i64 aE, .slice aU aC.length aK]) (t := 26) ?_; intro fZ hg w5 hbox hb; have aA := aM (hbox); have oV := aM (xge hg); have oW := aM (xge hg); replace HB := xbs hb; clear hb hbox hg) | ((with_reducible refine gD 6 rfl ?_); refine boxE (N := 6) rfl (cs := #[.int .i64 0, .slice none 0 0]) (t := 26) ?_; intro cP hg w6 hbox hb; have oX := aM (xge hg); have oY := aM (xge hg); replace HB := xbs hb; have aX := nblt aA hg; have aY := nbgt aA hg; replace aA := xbb aA hb; have aD := aM (hbox); clear hb hbox hg))
 (try simp only [Act.put, List.setIfInBounds_toArray, List.set_cons_zero, List.set_cons_succ])
 go_cut [10] (fun qW wc => ∃ (kq : Nat) (cZ : Bool), qW = .bool cZ ∧ Aside0 (spec_DiskAppend.j0 kq a1 a2 cZ aE aC = some (r1, r2, r3)) ∧ Aside0 (kq ≤ k) ∧ Aside0 (wc.heap[fZ]? = some (.cells #[.int .i64 aE, (.slice aU aC.length aK)] 26 (0, 0))) ∧ Aside0 (wc.heap[cP]? = some (.cells #[.int .i64 0, (.slice none 0 0)] 26 (0, 0))) ∧ Aside0 (Below w.heap.size w wc))
 case first =>
  have H := nL.out; clear nL; replace H := oB H; obtain ⟨dV, gA, H⟩ := H; (try dsimp only at H); have A7 := aM gA; clear gA
  by_cases c8 : dV = true
  ·subst c8; replace H := iT H; replace H := oB H; obtain ⟨dJ, oZ, H⟩ := H; (try dsimp only at H); have A9 := aM oZ; clear oZ
   have H' := aM H; clear H; have gB := aX.out; have gE := aY.out; obtain ⟨dA, dB, dC, dD⟩ := xf2 (w := w6) aA; go_wp2_with (first | ((with_reducible refine gC 132 rfl ?_); refine goesLY (some 12) rfl Try.func132 #[.agg #[.int .i64 aE, .slice aU aC.length aK]] ?_; (with_reducible refine (spec_DiskOk.calls k aE _ _ aC true _ ?side1 ?side2 A7.out).mono ?_); (case side1 => exact xcb aV); (case side2 => exact aZ.out); rintro e gF ⟨rfl, hb⟩; refine ⟨_, rfl, ?_⟩; replace aA := xbb aA hb; replace aD := xbb aD hb; replace HB := xbs hb; (try clear hb)) | (go_at_call 133; (with_reducible refine (spec_l3Name.calls a1 dJ _ A9.out).mono ?_); rintro e w' ⟨rfl, ⟨nd, rfl⟩⟩))
   go_meet
   case rel => exact ⟨_, (!dJ), u6_0, H', ⟨by first | omega | exact Nat.le_refl _⟩, ⟨xblk⟩, ⟨xblk⟩, ⟨xbg⟩⟩
  ·replace c8 := Bool.eq_false_iff.mpr c8; subst c8; replace H := iN H; have H' := aM H; clear H; have gG := aX.out; have gH := aY.out; obtain ⟨eB, eC, eD, eE⟩ := xf2 (w := w6) aA; go_wp2_with (first | ((with_reducible refine gC 132 rfl ?_); refine goesLY (some 12) rfl Try.func132 #[.agg #[.int .i64 aE, .slice aU aC.length aK]] ?_; (with_reducible refine (spec_DiskOk.calls k aE _ _ aC false _ ?side1 ?side2 A7.out).mono ?_); (case side1 => exact xcb aV); (case side2 => exact aZ.out); rintro e oU ⟨rfl, hb⟩; refine ⟨_, rfl, ?_⟩; replace aA := xbb aA hb; replace aD := xbb aD hb; replace HB := xbs hb; (try clear hb)))
   go_meet
   case rel => exact ⟨_, (true), u6_0, H', ⟨by first | omega | exact Nat.le_refl _⟩, ⟨xblk⟩, ⟨xblk⟩, ⟨xbg⟩⟩
 case rest =>
  clear nL; try clear c1
  try clear p2
  try clear c8
  try clear c10
  try clear rV
  try clear rW
  try clear dA dB
  try clear eB eC
  try clear dC dD
  try clear eD eE
  obtain ⟨kq, cZ, rfl, HA, HJ3, aA, aD, HB⟩ := hcut; cases kq with
  | zero => exact absurd HA.out (by simp [spec_DiskAppend.j0])
  | succ fD =>
   have H := HA.out; clear HA; simp only [spec_DiskAppend.j0] at H; by_cases jJ : cZ = true
   ·subst jJ; replace H := iT H; simp only [Option.some.injEq, Prod.mk.injEq] at H; obtain ⟨rfl, rfl, rfl⟩ := H; have pA := aY.out; have pB := aX.out; obtain ⟨eF, eG, eH, eI⟩ := xf2 (w := wc) aD; go_wp2; refine bodyPost_ret (results_ct rfl _ _ cP 26 #[.int .i64 0, .slice none 0 0] (0, 0) _ rfl xP Try.underlying26 rfl (by kernel_rfl)) rfl ?_; exact ⟨_, xerr, u6_4, xbg⟩
   ·replace jJ := Bool.eq_false_iff.mpr jJ; subst jJ; replace H := iN H; replace H := oB H; obtain ⟨cO, gI, H⟩ := H; (try dsimp only at H); have nM := aM gI; clear gI
    by_cases fL : (a2.size : Int) > (wrap64 (aE - cO))
    ·rw [if_pos fL] at H; have gJ : decide ((wrap64 (aE - cO)) < (a2.size : Int)) = true := decide_eq_true fL; clear fL; replace H := oB H; obtain ⟨⟨gK, gL⟩, gM, H⟩ := H; (try dsimp only at H); have qX := aM gM; clear gM
     simp only [Option.some.injEq, Prod.mk.injEq] at H; obtain ⟨rfl, rfl, rfl⟩ := H; try go_wp2
     replace aA := bD aA; replace aD := bD aD; replace HB := lD HB; refine sb2 9 spec_DiskAppend.T3 spec_DiskAppend.B3 aA (fun hHeld HT_ HW_ => ?_); generalize wc.drew = rX at aA aD HB hHeld ⊢; refine pV 0 21 ?_; refine pV 1 22 ?_; refine pV 2 23 ?_; refine tK 3 24 ?_; refine tK 4 25 ?_; refine oN 5 26 fun K hK => ?_
     refine goesY Try.func174 #[.agg #[.int .i64 aE, .slice aU aC.length aK]] ?_; with_reducible refine (spec_l3Size.calls fD aE _ _ aC cO _ ?side1 ?side2 nM.out).mono ?_
     (case side1 => exact xcb aV); (case side2 => exact aZ.out); rintro e qY ⟨rfl, hb⟩; refine ⟨_, rfl, ?_⟩; replace aA := xbb aA hb; replace aD := xbb aD hb; replace HB := xbs hb; (try clear hb); refine hK.out _ _ ⟨xc aA 0 rfl, xc aA 1 rfl⟩ (fun hHeld => ?_); clear hK K; refine nm_ (N := 26) ?_; refine pV 6 27 ?_; refine pV 7 28 ?_; refine pV 8 20 ?_; refine dn_ ?_; have pC := aX.out; have pD := aY.out; obtain ⟨jK, jL, jM, jN⟩ := xf2 (w := qY) aA; try go_wp2_with (first | ((with_reducible refine gC 135 rfl ?_); refine goesLY (some 30) rfl Try.func135 #[.agg #[.int .i64 aE, .slice aU aC.length aK]] ?_; (with_reducible refine (spec_l3Copy.calls aE _ _ aC gK gL _ ?side1 ?side2 qX.out).mono ?_); (case side1 => exact xcb aV); (case side2 => exact aZ.out); rintro e qZ ⟨rA, rfl, bJ, hb⟩; refine ⟨_, rfl, ?_⟩; have eQ := aM (Kd.R_lower bJ (below_size xbg)); replace aA := xbb aA hb; replace aD := xbb aD hb; replace HB := xbs hb; (try clear hb bJ); obtain ⟨jO, jP, jQ, jR⟩ := xf2 (w := qZ) aD; obtain ⟨nN, nO, nP⟩ := Kd.R_slice eQ.out; subst nP))
     refine bodyPost_ret (results_ct rfl _ _ cP 26 #[.int .i64 gK, .slice nN gL.length nO] (0, 0) _ rfl xP Try.underlying26 rfl (by kernel_rfl)) rfl ?_; exact ⟨_, xerr, xrm eQ (fun _ _ => trivial), xbg⟩
    ·rw [if_neg fL] at H; have gJ : decide ((wrap64 (aE - cO)) < (a2.size : Int)) = false := decide_eq_false fL; clear fL; replace H := oB H; obtain ⟨aH, gN, H⟩ := H; (try dsimp only at H); have pE := aM gN; clear gN
     by_cases fM : aH ≥ 0
     ·rw [if_pos fM] at H; have gO : decide (0 ≤ aH) = true := decide_eq_true fM; clear fM; by_cases jS : 0 ≤ aH
      ·rw [if_pos jS] at H; have pF : decide (0 ≤ aH) = true := decide_eq_true jS; clear jS; by_cases jT : aH < (aC.length : Int)
       ·rw [if_pos jT] at H; have pG : decide (aH < (aC.length : Int)) = true := decide_eq_true jT; clear jT; by_cases gP : ((rd_T95 aC aH).f2).size + a2.size ≤ 9223372036854775807
        ·rw [if_pos gP] at H; have pH := eq_true gP; have pI : decide (((rd_T95 aC aH).f2).size + a2.size ≤ 9223372036854775807) = true := decide_eq_true gP; try have pJ : (9223372036854775807 < ((rd_T95 aC aH).f2).size + a2.size) = False := eq_false (Nat.not_lt.2 gP)
         replace H := oB H; obtain ⟨⟨gQ, gR⟩, gS, H⟩ := H; (try dsimp only at H); have rB := aM gS; clear gS
         simp only [Option.some.injEq, Prod.mk.injEq] at H; obtain ⟨rfl, rfl, rfl⟩ := H; try go_wp2
         replace aA := bD aA; replace aD := bD aD; replace HB := lD HB; refine sb2 9 spec_DiskAppend.T3 spec_DiskAppend.B3 aA (fun hHeld HT_ HW_ => ?_); generalize wc.drew = rY at aA aD HB hHeld ⊢; refine pV 0 21 ?_; refine pV 1 22 ?_; refine pV 2 23 ?_; refine tK 3 24 ?_; refine tK 4 25 ?_; refine oN 5 26 fun K hK => ?_
         refine goesY Try.func174 #[.agg #[.int .i64 aE, .slice aU aC.length aK]] ?_; with_reducible refine (spec_l3Size.calls fD aE _ _ aC cO _ ?side1 ?side2 nM.out).mono ?_
         (case side1 => exact xcb aV); (case side2 => exact aZ.out); rintro e rZ ⟨rfl, hb⟩; refine ⟨_, rfl, ?_⟩; replace aA := xbb aA hb; replace aD := xbb aD hb; replace HB := xbs hb; (try clear hb); refine hK.out _ _ ⟨xc aA 0 rfl, xc aA 1 rfl⟩ (fun hHeld => ?_); clear hK K; refine nm_ (N := 26) ?_; refine pV 6 27 ?_; refine pV 7 28 ?_; refine pV 8 20 ?_; refine dn_ ?_
         try go_wp2_with (first | ((with_reducible refine gD 8 rfl ?_); refine boxE (N := 8) rfl (cs := #[.int .i64 0, .string (⟨#[]⟩ : ByteArray), .string (⟨#[]⟩ : ByteArray)]) (t := 95) ?_; intro bH hg pK hbox hb; have gT := aM (xge hg); have gU := aM (xge hg); replace HB := xbs hb; have bO := nblt aA hg; have bP := nbgt aA hg; have bQ := nblt aD hg; have bR := nbgt aD hg; replace aA := xbb aA hb; replace aD := xbb aD hb; have bE := aM (hbox); clear hb hbox hg; have pL := bP.out; have pM := bO.out; have pN := bR.out; have pO := bQ.out; obtain ⟨jU, jV, jW, jX, jY, jZ⟩ := xf3 (w := pK) bE; have pP := aX.out; have pQ := aY.out; obtain ⟨kA, kB, kC, kE⟩ := xf2 (w := pK) aA) | ((with_reducible refine gC 134 rfl ?_); refine goesLY (some 35) rfl Try.func134 #[.agg #[.int .i64 aE, .slice aU aC.length aK], .int .i64 a1] ?_; (with_reducible refine (spec_l3Find.calls fD aE _ _ aC a1 aH _ ?side1 ?side2 pE.out).mono ?_); (case side1 => exact Kd.C_below aV.out xbg); (case side2 => exact aZ.out); rintro e nQ ⟨rfl, hb⟩; refine ⟨_, rfl, ?_⟩; replace aA := xbc aA hb; replace aD := xbc aD hb; replace bE := aM (blk_below (g := bH) (o := .cells #[.int .i64 a1, .string (⟨#[]⟩ : ByteArray), .string (⟨#[]⟩ : ByteArray)] 95 (0, 0)) xP hb); replace HB := xbs hb; (try clear hb); obtain ⟨kF, kG, kH, kI⟩ := xf2 (w := nQ) aA; have p315 : 0 ≤ (aH : Int) := oda; have q315 : aH < (aC.length : Int) := oda; obtain ⟨gV, nR, dE, dF, dG⟩ := at_T95 aV.out aH p315 q315; cases nR; replace dE := xce HB dE; replace dF := xce HB dF; replace dG := xce HB dG; replace p315 := eq_true p315; replace q315 := eq_true q315; obtain ⟨kJ, kK, kL, kM, kN, kO⟩ := xf3 (w := nQ) bE) | ((with_reducible refine gate_store (t := 9) (p := 47) rfl ?_); refine store_event (t := 9) (p := 47) (v := ?vo_w46) (w1 := ((((nQ.setCell ⟨bH, 0, none⟩ (.int .i64 ((rd_T95 aC aH).f0))).setCell ⟨bH, 1, none⟩ (.string ((rd_T95 aC aH).f1))).setCell ⟨bH, 2, none⟩ (.string ((rd_T95 aC aH).f2))).setCell ⟨bH, 2, none⟩ (.string (((rd_T95 aC aH).f2) ++ a2)))) ?hg ?ho ?hn ?hr ?_; (case ho | hg | hn => rfl); (case hr => exact u6_2); intro nS hw; replace aA := xwc hw aA; replace aD := xwc hw aD; replace bE : Aside0 (nS.heap[bH]? = some (.cells #[.int .i64 ((rd_T95 aC aH).f0), .string ((rd_T95 aC aH).f1), .string (((rd_T95 aC aH).f2) ++ a2)] 95 (0, 0))) := xwp hw; replace HB := xbw hw HB; clear hw; obtain ⟨kP, kQ, kR, kS⟩ := xf2 (w := nS) aA; obtain ⟨kT, kU, kV, kW, kX, kY⟩ := xf3 (w := nS) bE) | ((with_reducible refine gC 137 rfl ?_); refine goesLY (some 50) rfl Try.func137 #[.agg #[.int .i64 aE, .slice (some gV) aC.length aK], .agg #[.int .i64 ((rd_T95 aC aH).f0), .string ((rd_T95 aC aH).f1), .string (((rd_T95 aC aH).f2) ++ a2)]] ?_; (with_reducible refine (spec_l3Put.calls fD aE _ _ aC ((rd_T95 aC aH).f0) ((rd_T95 aC aH).f1) (((rd_T95 aC aH).f2) ++ a2) gQ gR _ ?side1 ?side2 rB.out).mono ?_); (case side1 => exact xcb aV); (case side2 => exact aZ.out); rintro e rC ⟨rE, rfl, bJ, hb⟩; refine ⟨_, rfl, ?_⟩; have eR := aM (Kd.R_lower (Kd.R_newB bJ (g := bH) (o := .cells #[.int .i64 ((rd_T95 aC aH).f0), .string ((rd_T95 aC aH).f1), .string (((rd_T95 aC aH).f2) ++ a2)] 95 (0, 0)) xblk) (below_size xbg)); replace aA := xbb aA hb; replace aD := xbb aD hb; replace bE := xbb bE hb; replace HB := xbs hb; (try clear hb bJ); obtain ⟨kZ, lA, lB, lC⟩ := xf2 (w := rC) aD; obtain ⟨nT, nU, nV⟩ := Kd.R_slice eR.out; subst nV))
         refine bodyPost_ret (results_ct rfl _ _ cP 26 #[.int .i64 gQ, .slice nT gR.length nU] (0, 0) _ rfl xP Try.underlying26 rfl (by kernel_rfl)) rfl ?_; exact ⟨_, xerr, xrm eR (fun _ _ => trivial), xbg⟩
        ·rw [if_neg gP] at H; exact absurd H (by simp)
       ·rw [if_neg jT] at H; exact absurd H (by simp)
      ·rw [if_neg jS] at H; exact absurd H (by simp)
     ·rw [if_neg fM] at H; have gO : decide (0 ≤ aH) = false := decide_eq_false fM; clear fM; by_cases gW : 0 + a2.size ≤ 9223372036854775807
      ·rw [if_pos gW] at H; have pR := eq_true gW; have pS : decide (0 + a2.size ≤ 9223372036854775807) = true := decide_eq_true gW; try have pT : (9223372036854775807 < 0 + a2.size) = False := eq_false (Nat.not_lt.2 gW)
       replace H := oB H; obtain ⟨⟨gX, gY⟩, gZ, H⟩ := H; (try dsimp only at H); have rF := aM gZ; clear gZ
       simp only [Option.some.injEq, Prod.mk.injEq] at H; obtain ⟨rfl, rfl, rfl⟩ := H; try go_wp2
       replace aA := bD aA; replace aD := bD aD; replace HB := lD HB; refine sb2 9 spec_DiskAppend.T3 spec_DiskAppend.B3 aA (fun hHeld HT_ HW_ => ?_); generalize wc.drew = sA at aA aD HB hHeld ⊢; refine pV 0 21 ?_; refine pV 1 22 ?_; refine pV 2 23 ?_; refine tK 3 24 ?_; refine tK 4 25 ?_; refine oN 5 26 fun K hK => ?_
       refine goesY Try.func174 #[.agg #[.int .i64 aE, .slice aU aC.length aK]] ?_; with_reducible refine (spec_l3Size.calls fD aE _ _ aC cO _ ?side1 ?side2 nM.out).mono ?_
       (case side1 => exact xcb aV); (case side2 => exact aZ.out); rintro e sB ⟨rfl, hb⟩; refine ⟨_, rfl, ?_⟩; replace aA := xbb aA hb; replace aD := xbb aD hb; replace HB := xbs hb; (try clear hb); refine hK.out _ _ ⟨xc aA 0 rfl, xc aA 1 rfl⟩ (fun hHeld => ?_); clear hK K; refine nm_ (N := 26) ?_; refine pV 6 27 ?_; refine pV 7 28 ?_; refine pV 8 20 ?_; refine dn_ ?_; try go_wp2_with (first | ((with_reducible refine gD 8 rfl ?_); refine boxE (N := 8) rfl (cs := #[.int .i64 0, .string (⟨#[]⟩ : ByteArray), .string (⟨#[]⟩ : ByteArray)]) (t := 95) ?_; intro bH hg pW hbox hb; have gT := aM (xge hg); have gU := aM (xge hg); replace HB := xbs hb; have bO := nblt aA hg; have bP := nbgt aA hg; have bQ := nblt aD hg; have bR := nbgt aD hg; replace aA := xbb aA hb; replace aD := xbb aD hb; have bE := aM (hbox); clear hb hbox hg; have pX := bP.out; have pY := bO.out; have pZ := bR.out; have qA := bQ.out; obtain ⟨lE, lF, lG, lH, lI, lJ⟩ := xf3 (w := pW) bE; have qB := aX.out; have qC := aY.out; obtain ⟨lK, lL, lM, lN⟩ := xf2 (w := pW) aA) | ((with_reducible refine gC 134 rfl ?_); refine goesLY (some 35) rfl Try.func134 #[.agg #[.int .i64 aE, .slice aU aC.length aK], .int .i64 a1] ?_; (with_reducible refine (spec_l3Find.calls fD aE _ _ aC a1 aH _ ?side1 ?side2 pE.out).mono ?_); (case side1 => exact Kd.C_below aV.out xbg); (case side2 => exact aZ.out); rintro e qD ⟨rfl, hb⟩; refine ⟨_, rfl, ?_⟩; replace aA := xbc aA hb; replace aD := xbc aD hb; replace bE := aM (blk_below (g := bH) (o := .cells #[.int .i64 a1, .string (⟨#[]⟩ : ByteArray), .string (⟨#[]⟩ : ByteArray)] 95 (0, 0)) xP hb); replace HB := xbs hb; (try clear hb); obtain ⟨lO, lP, lQ, lR, lS, lT⟩ := xf3 (w := qD) bE; obtain ⟨lU, lV, lW, lX⟩ := xf2 (w := qD) aA) | ((with_reducible refine gC 137 rfl ?_); refine goesLY (some 50) rfl Try.func137 #[.agg #[.int .i64 aE, .slice aU aC.length aK], .agg #[.int .i64 a1, .string (⟨#[]⟩ : ByteArray), .string ((⟨#[]⟩ : ByteArray) ++ a2)]] ?_; (with_reducible refine (spec_l3Put.calls fD aE _ _ aC a1 (⟨#[]⟩ : ByteArray) ((⟨#[]⟩ : ByteArray) ++ a2) gX gY _ ?side1 ?side2 rF.out).mono ?_); (case side1 => exact Kd.C_below aV.out xbg); (case side2 => exact aZ.out); rintro e rG ⟨rH, rfl, bJ, hb⟩; refine ⟨_, rfl, ?_⟩; have eS := aM (Kd.R_lower (Kd.R_newB bJ (g := bH) (o := .cells #[.int .i64 a1, .string (⟨#[]⟩ : ByteArray), .string ((⟨#[]⟩ : ByteArray) ++ a2)] 95 (0, 0)) xP) (below_size xbg)); replace aA := xbc aA hb; replace aD := xbc aD hb; replace bE := aM (blk_below (g := bH) (o := .cells #[.int .i64 a1, .string (⟨#[]⟩ : ByteArray), .string ((⟨#[]⟩ : ByteArray) ++ a2)] 95 (0, 0)) xP hb); replace HB := xbs hb; (try clear hb bJ); obtain ⟨lY, lZ, mA, mB⟩ := xf2 (w := rG) aD; obtain ⟨nW, nX, nY⟩ := Kd.R_slice eS.out; subst nY))
       refine bodyPost_ret (results_ct rfl _ _ cP 26 #[.int .i64 gX, .slice nW gY.length nX] (0, 0) _ rfl xP Try.underlying26 rfl (by kernel_rfl)) rfl ?_; exact ⟨_, xerr, xrm eS (fun _ _ => trivial), xbg⟩
      ·rw [if_neg gW] at H; exact absurd H (by simp)

/-! ### spec_JournalLate: function 76 -/
def spec_JournalLate.f (k : Nat) (aE : Int) (aC : List (S95)) (a1 : Int) (l2 : List ByteArray) : Option (Int × (List (S95)) × Int) := (spec_l4Seals.f k l2).bind fun cQ => (if cQ.2 = true then ((spec_DiskAppend.f k aE aC a1 cQ.1).bind fun cG => (some (cG.1, cG.2.1, cG.2.2))) else (some (0, ([] : List (S95)), 1)))
theorem u6_mq2 {p : Prop} (h : p := by repeat' first | (with_reducible first | exact spec_DiskAppend.mono _ _ _ _ _ | exact spec_l4Seals.mono _ _ | exact LeO.refl _ | exact LeO.none _ | refine LeO.ite ?_ ?_ | refine LeO.bind ?_ (fun _ => ?_)) | exact LeO.none _ | refine LeO.ite ?_ ?_ | refine LeO.bind ?_ (fun _ => ?_)) : p := h
theorem spec_JournalLate.mono : ∀ a0 a1 a2 a3 k, LeO (spec_JournalLate.f k a0 a1 a2 a3) (spec_JournalLate.f (k + 1) a0 a1 a2 a3) := by
 intro a0 a1 a2 a3 k
 unfold spec_JournalLate.f
 exact u6_mq2
set_option maxHeartbeats 8000000 in
set_option maxRecDepth 100000 in
theorem spec_JournalLate.calls (k : Nat) (aE : Int) (aU : Option Addr) (aK : Nat) (aC : List (S95)) (a1 : Int) (A2 : Option Addr) (c2 : Nat) (l2 : List ByteArray) (r1 : Int) (r2 : List (S95)) (r3 : Int) (w : World) (cC : Kd.C k95 w aU aC.length aC) (cD : aC.length ≤ aK) (hJ : Kd.C Kd.string w A2 l2.length l2) (hU : l2.length ≤ c2) (h : spec_JournalLate.f k aE aC a1 l2 = some (r1, r2, r3)) :
 Calls Try.prog 76 #[.agg #[.int .i64 aE, .slice aU aC.length aK], .int .i64 a1, .slice A2 l2.length c2] w fun e w' => ∃ v1_ : Value, e = .returned (.tuple #[.agg #[.int .i64 r1, v1_], .int .i64 r3]) ∧ Kd.R k95 95 w' w.heap.size (fun _ => True) v1_ r2 ∧ Below w.heap.size w w' := by
 have fY := Try.underlying26
 have aV := aM cC
 have aZ := aM cD
 clear cC cD
 have hX := aM hJ
 have hZ := aM hU
 clear hJ hU
 have HB := aM (Below.refl w.heap.size w)
 have H : ((spec_l4Seals.f k l2).bind fun cQ => (if cQ.2 = true then ((spec_DiskAppend.f k aE aC a1 cQ.1).bind fun cG => (some (cG.1, cG.2.1, cG.2.2))) else (some (0, ([] : List (S95)), 1)))) = some (r1, r2, r3) := h
 clear h
 replace H := oB H
 obtain ⟨⟨eJ, nZ⟩, iA, H⟩ := H
 (try dsimp only at H)
 have A4 := aM iA
 clear iA
 by_cases c5 : nZ = true
 ·subst c5; replace H := iT H; replace H := oB H; obtain ⟨⟨iB, iC, oA⟩, iD, H⟩ := H; (try dsimp only at H); have A6 := aM iD; clear iD
  simp only [Option.some.injEq, Prod.mk.injEq] at H; obtain ⟨rfl, rfl, rfl⟩ := H; go_enter Try.func76, Try.ntmps76
  go_wp2_with (first | ((with_reducible refine gD 3 rfl ?_); refine boxE (N := 3) rfl (cs := #[.int .i64 aE, .slice aU aC.length aK]) (t := 26) ?_; intro iE hg w7 hbox hb; have aW := aM (hbox); have iF := aM (xge hg); have iG := aM (xge hg); replace HB := xbs hb; clear hb hbox hg) | ((with_reducible refine gD 6 rfl ?_); refine boxE (N := 6) rfl (cs := #[.int .i64 0, .slice none 0 0]) (t := 26) ?_; intro dW hg w8 hbox hb; have iH := aM (xge hg); have iI := aM (xge hg); replace HB := xbs hb; have bU := nblt aW hg; have bV := nbgt aW hg; replace aW := xbb aW hb; have bN := aM (hbox); clear hb hbox hg) | ((with_reducible refine gC 140 rfl ?_); refine goesLY (some 12) rfl Try.func140 #[.slice A2 l2.length c2] ?_; (with_reducible refine (spec_l4Seals.calls k _ _ l2 eJ true _ ?side1 ?side2 A4.out).mono ?_); (case side1 => exact xcb hX); (case side2 => exact hZ.out); rintro e w9 ⟨rfl, hb⟩; refine ⟨_, rfl, ?_⟩; replace aW := xbb aW hb; replace bN := xbb bN hb; replace HB := xbs hb; (try clear hb); have gB := bU.out; have gE := bV.out; obtain ⟨dA, dB, dC, dD⟩ := xf2 (w := w9) aW) | ((with_reducible refine gC 141 rfl ?_); refine goesLY (some 21) rfl Try.func141 #[.agg #[.int .i64 aE, .slice aU aC.length aK], .int .i64 a1, .string eJ] ?_; (with_reducible refine (spec_DiskAppend.calls k aE _ _ aC a1 eJ iB iC oA _ ?side1 ?side2 A6.out).mono ?_); (case side1 => exact xcb aV); (case side2 => exact aZ.out); rintro e gF ⟨rI, rfl, bJ, hb⟩; refine ⟨_, rfl, ?_⟩; have eT := aM (Kd.R_lower bJ (below_size xbg)); replace aW := xbb aW hb; replace bN := xbb bN hb; replace HB := xbs hb; (try clear hb bJ); obtain ⟨mC, mD, mE, mF⟩ := xf2 (w := gF) bN; obtain ⟨oC, oD, oE⟩ := Kd.R_slice eT.out; subst oE))
  refine bodyPost_ret (results_ct rfl _ _ dW 26 #[.int .i64 iB, .slice oC iC.length oD] (0, 0) _ rfl xP Try.underlying26 rfl (by kernel_rfl)) rfl ?_; exact ⟨_, xerr, xrm eT (fun _ _ => trivial), xbg⟩
 ·replace c5 := Bool.eq_false_iff.mpr c5; subst c5; replace H := iN H; simp only [Option.some.injEq, Prod.mk.injEq] at H; obtain ⟨rfl, rfl, rfl⟩ := H; go_enter Try.func76, Try.ntmps76
  go_wp2_with (first | ((with_reducible refine gD 3 rfl ?_); refine boxE (N := 3) rfl (cs := #[.int .i64 aE, .slice aU aC.length aK]) (t := 26) ?_; intro iE hg oU hbox hb; have aW := aM (hbox); have iF := aM (xge hg); have iG := aM (xge hg); replace HB := xbs hb; clear hb hbox hg) | ((with_reducible refine gD 6 rfl ?_); refine boxE (N := 6) rfl (cs := #[.int .i64 0, .slice none 0 0]) (t := 26) ?_; intro dW hg sC hbox hb; have iH := aM (xge hg); have iI := aM (xge hg); replace HB := xbs hb; have bU := nblt aW hg; have bV := nbgt aW hg; replace aW := xbb aW hb; have bN := aM (hbox); clear hb hbox hg) | ((with_reducible refine gC 140 rfl ?_); refine goesLY (some 12) rfl Try.func140 #[.slice A2 l2.length c2] ?_; (with_reducible refine (spec_l4Seals.calls k _ _ l2 eJ false _ ?side1 ?side2 A4.out).mono ?_); (case side1 => exact xcb hX); (case side2 => exact hZ.out); rintro e jI ⟨rfl, hb⟩; refine ⟨_, rfl, ?_⟩; replace aW := xbb aW hb; replace bN := xbb bN hb; replace HB := xbs hb; (try clear hb); have qE := bV.out; have qF := bU.out; obtain ⟨mG, mH, mI, mJ⟩ := xf2 (w := jI) bN))
  refine bodyPost_ret (results_ct rfl _ _ dW 26 #[.int .i64 0, .slice none 0 0] (0, 0) _ rfl xP Try.underlying26 rfl (by kernel_rfl)) rfl ?_; exact ⟨_, xerr, u6_4, xbg⟩

/-! ### spec_JournalAdd: function 19 -/
def spec_JournalAdd.f (k : Nat) (aE : Int) (aC : List (S95)) (a1 : Int) (l2 : List ByteArray) : Option (Int × (List (S95)) × Int) := (spec_JournalLate.f k aE aC a1 l2).bind fun bB => (if bB.2.2 = 0 then ((spec_DiskSync.f k bB.1 bB.2.1 a1).bind fun cH => (some (cH.1, cH.2.1, cH.2.2))) else (some (bB.1, bB.2.1, bB.2.2)))
theorem u6_mq3 {p : Prop} (h : p := by repeat' first | (with_reducible first | exact spec_DiskSync.mono _ _ _ _ | exact spec_JournalLate.mono _ _ _ _ _ | exact LeO.refl _ | exact LeO.none _ | refine LeO.ite ?_ ?_ | refine LeO.bind ?_ (fun _ => ?_)) | exact LeO.none _ | refine LeO.ite ?_ ?_ | refine LeO.bind ?_ (fun _ => ?_)) : p := h
theorem spec_JournalAdd.mono : ∀ a0 a1 a2 a3 k, LeO (spec_JournalAdd.f k a0 a1 a2 a3) (spec_JournalAdd.f (k + 1) a0 a1 a2 a3) := by
 intro a0 a1 a2 a3 k
 unfold spec_JournalAdd.f
 exact u6_mq3
set_option maxHeartbeats 8000000 in
set_option maxRecDepth 100000 in
theorem spec_JournalAdd.calls (k : Nat) (aE : Int) (aU : Option Addr) (aK : Nat) (aC : List (S95)) (a1 : Int) (A2 : Option Addr) (c2 : Nat) (l2 : List ByteArray) (r1 : Int) (r2 : List (S95)) (r3 : Int) (w : World) (cC : Kd.C k95 w aU aC.length aC) (cD : aC.length ≤ aK) (hJ : Kd.C Kd.string w A2 l2.length l2) (hU : l2.length ≤ c2) (h : spec_JournalAdd.f k aE aC a1 l2 = some (r1, r2, r3)) :
 Calls Try.prog 19 #[.agg #[.int .i64 aE, .slice aU aC.length aK], .int .i64 a1, .slice A2 l2.length c2] w fun e w' => ∃ v1_ : Value, e = .returned (.tuple #[.agg #[.int .i64 r1, v1_], .int .i64 r3]) ∧ Kd.R k95 95 w' w.heap.size (fun _ => True) v1_ r2 ∧ Below w.heap.size w w' := by
 have fY := Try.underlying26
 have aV := aM cC
 have aZ := aM cD
 clear cC cD
 have hX := aM hJ
 have hZ := aM hU
 clear hJ hU
 have HB := aM (Below.refl w.heap.size w)
 have H : ((spec_JournalLate.f k aE aC a1 l2).bind fun bB => (if bB.2.2 = 0 then ((spec_DiskSync.f k bB.1 bB.2.1 a1).bind fun cH => (some (cH.1, cH.2.1, cH.2.2))) else (some (bB.1, bB.2.1, bB.2.2)))) = some (r1, r2, r3) := h
 clear h
 replace H := oB H
 obtain ⟨⟨cJ, cE, fE⟩, iA, H⟩ := H
 (try dsimp only at H)
 have A4 := aM iA
 clear iA
 by_cases c5 : fE = 0
 ·rw [if_pos c5] at H; obtain ⟨eX, oF⟩ := bT c5; clear c5; replace H := oB H; obtain ⟨⟨iJ, iK, oG⟩, iD, H⟩ := H; (try dsimp only at H); have A6 := aM iD; clear iD
  simp only [Option.some.injEq, Prod.mk.injEq] at H; obtain ⟨rfl, rfl, rfl⟩ := H; go_enter Try.func19, Try.ntmps19
  go_wp2_with (first | ((with_reducible refine gD 3 rfl ?_); refine boxE (N := 3) rfl (cs := #[.int .i64 aE, .slice aU aC.length aK]) (t := 26) ?_; intro iL hg w7 hbox hb; have aG := aM (hbox); have iM := aM (xge hg); have iO := aM (xge hg); replace HB := xbs hb; clear hb hbox hg) | ((with_reducible refine gD 6 rfl ?_); refine boxE (N := 6) rfl (cs := #[.int .i64 0, .slice none 0 0]) (t := 26) ?_; intro cL hg w8 hbox hb; have iP := aM (xge hg); have iQ := aM (xge hg); replace HB := xbs hb; have bW := nblt aG hg; have bX := nbgt aG hg; replace aG := xbb aG hb; have aJ := aM (hbox); clear hb hbox hg; have rJ := bW.out; have rK := bX.out; obtain ⟨mK, mL, mM, mN⟩ := xf2 (w := w8) aG) | ((with_reducible refine gC 76 rfl ?_); refine goesLY (some 14) rfl Try.func76 #[.agg #[.int .i64 aE, .slice aU aC.length aK], .int .i64 a1, .slice A2 l2.length c2] ?_; (with_reducible refine (spec_JournalLate.calls k aE _ _ aC a1 _ _ l2 cJ cE fE _ ?side1 ?side2 ?side3 ?side4 A4.out).mono ?_); (case side1 => exact xcb aV); (case side2 => exact aZ.out); (case side3 => exact xcb hX); (case side4 => exact hZ.out); rintro e nG ⟨oH, rfl, bJ, hb⟩; refine ⟨_, rfl, ?_⟩; have bA := aM (Kd.R_lower bJ (below_size xbg)); replace aG := xbb aG hb; replace aJ := xbb aJ hb; replace HB := xbs hb; (try clear hb bJ)) | ((with_reducible refine gD 8 rfl ?_); refine boxE (N := 8) rfl (cs := #[.int .i64 0, .slice none 0 0]) (t := 26) ?_; intro cS hg gF hbox hb; replace bA := xrb bA hb; have iR := aM (xge hg); have iS := aM (xge hg); replace HB := xbs hb; have bY := nblt aG hg; have bZ := nbgt aG hg; have cA := nblt aJ hg; have cB := nbgt aJ hg; replace aG := xbb aG hb; replace aJ := xbb aJ hb; have cT := aM (hbox); clear hb hbox hg; have gG := bZ.out; have gH := bY.out; have qG := cB.out; have qH := cA.out; obtain ⟨mO, mP, mQ, mR⟩ := xf2 (w := gF) cT; obtain ⟨dR, dS, eZ⟩ := Kd.R_slice bA.out; subst eZ) | ((with_reducible refine gC 71 rfl ?_); refine goesLY (some 23) rfl Try.func71 #[.agg #[.int .i64 cJ, .slice dR cE.length dS], .int .i64 a1] ?_; (with_reducible refine (spec_DiskSync.calls k cJ _ _ cE a1 iJ iK oG _ ?side1 ?side2 A6.out).mono ?_); (case side1 => exact (Kd.R_reads' (xrs bA)).2.2); (case side2 => exact (Kd.R_reads' bA.out).2.1); rintro e jI ⟨rL, rfl, bJ, hb⟩; refine ⟨_, rfl, ?_⟩; have eU := aM (Kd.R_lower (Kd.R_new' bJ (Kd.R_lt (xrs bA))) (below_size xbg)); replace bA := aM (Kd.R_elder' (xrs bA) (Kd.R_base bJ) hb); replace aG := xbc aG hb; replace aJ := xbc aJ hb; replace cT := aM (blk_below (g := cS) (o := .cells #[.int .i64 cJ, .slice dR cE.length dS] 26 (0, 0)) xP hb); replace HB := xbs hb; (try clear hb bJ); obtain ⟨eF, eG, eH, eI⟩ := xf2 (w := jI) aJ; obtain ⟨fA, fB, fC⟩ := Kd.R_slice eU.out; subst fC))
  refine bodyPost_ret (results_ct rfl _ _ cL 26 #[.int .i64 iJ, .slice fA iK.length fB] (0, 0) _ rfl xP Try.underlying26 rfl (by kernel_rfl)) rfl ?_; exact ⟨_, xerr, xrm eU (fun _ _ => trivial), xbg⟩
 ·rw [if_neg c5] at H; obtain ⟨eX, oF⟩ := bF c5; simp only [Option.some.injEq, Prod.mk.injEq] at H; obtain ⟨rfl, rfl, rfl⟩ := H; go_enter Try.func19, Try.ntmps19
  go_wp2_with (first | ((with_reducible refine gD 3 rfl ?_); refine boxE (N := 3) rfl (cs := #[.int .i64 aE, .slice aU aC.length aK]) (t := 26) ?_; intro iL hg qT hbox hb; have aG := aM (hbox); have iM := aM (xge hg); have iO := aM (xge hg); replace HB := xbs hb; clear hb hbox hg) | ((with_reducible refine gD 6 rfl ?_); refine boxE (N := 6) rfl (cs := #[.int .i64 0, .slice none 0 0]) (t := 26) ?_; intro cL hg rM hbox hb; have iP := aM (xge hg); have iQ := aM (xge hg); replace HB := xbs hb; have bW := nblt aG hg; have bX := nbgt aG hg; replace aG := xbb aG hb; have aJ := aM (hbox); clear hb hbox hg; have qI := bW.out; have qJ := bX.out; obtain ⟨mS, mT, mU, mV⟩ := xf2 (w := rM) aG) | ((with_reducible refine gC 76 rfl ?_); refine goesLY (some 14) rfl Try.func76 #[.agg #[.int .i64 aE, .slice aU aC.length aK], .int .i64 a1, .slice A2 l2.length c2] ?_; (with_reducible refine (spec_JournalLate.calls k aE _ _ aC a1 _ _ l2 cJ cE fE _ ?side1 ?side2 ?side3 ?side4 A4.out).mono ?_); (case side1 => exact xcb aV); (case side2 => exact aZ.out); (case side3 => exact xcb hX); (case side4 => exact hZ.out); rintro e sD ⟨oH, rfl, bJ, hb⟩; refine ⟨_, rfl, ?_⟩; have bA := aM (Kd.R_lower bJ (below_size xbg)); replace aG := xbb aG hb; replace aJ := xbb aJ hb; replace HB := xbs hb; (try clear hb bJ)) | ((with_reducible refine gD 8 rfl ?_); refine boxE (N := 8) rfl (cs := #[.int .i64 0, .slice none 0 0]) (t := 26) ?_; intro cS hg oI hbox hb; replace bA := xrb bA hb; have iR := aM (xge hg); have iS := aM (xge hg); replace HB := xbs hb; have bY := nblt aG hg; have bZ := nbgt aG hg; have cA := nblt aJ hg; have cB := nbgt aJ hg; replace aG := xbb aG hb; replace aJ := xbb aJ hb; have cT := aM (hbox); clear hb hbox hg; have qK := bZ.out; have qL := bY.out; have qM := cB.out; have qN := cA.out; obtain ⟨mW, mX, mY, mZ⟩ := xf2 (w := oI) cT; obtain ⟨dK, dL, oJ⟩ := Kd.R_slice bA.out; subst oJ; obtain ⟨nA, nB, nC, nD⟩ := xf2 (w := oI) aJ) | ((with_reducible refine gate_store (t := 26) (p := 6) rfl ?_); refine store_event (t := 26) (p := 6) (v := ?vo_w31) (w1 := ((((oI.setCell ⟨cS, 0, none⟩ (.int .i64 cJ)).setCell ⟨cS, 1, none⟩ (.slice dK cE.length dL)).setCell ⟨cL, 0, none⟩ (.int .i64 cJ)).setCell ⟨cL, 1, none⟩ (.slice dK cE.length dL))) ?hg ?ho ?hn ?hr ?_; (case ho | hg | hn => rfl); (case hr => exact u6_2); intro oK hw; replace bA : Aside0 (Kd.R k95 95 oK w.heap.size (fun _ => True) (.slice dK cE.length dL) cE) := xwm hw bA (fun _ _ => trivial); replace aG := xwc hw aG; replace aJ : Aside0 (oK.heap[cL]? = some (.cells #[.int .i64 cJ, .slice dK cE.length dL] 26 (0, 0))) := xwp hw; replace cT : Aside0 (oK.heap[cS]? = some (.cells #[.int .i64 cJ, .slice dK cE.length dL] 26 (0, 0))) := xwp hw; replace HB := xbw hw HB; clear hw))
  refine bodyPost_ret (results_ct rfl _ _ cL 26 #[.int .i64 cJ, .slice dK cE.length dL] (0, 0) _ rfl xblk Try.underlying26 rfl (by kernel_rfl)) rfl ?_; exact ⟨_, xerr, by (with_reducible repeat (first | apply Kd.R_alloc | apply Kd.R_drewN | apply Kd.R_drew)); exact bA.out, xbg⟩

/-! ### spec_l1DrawBytes: function 104 -/
def spec_l1DrawBytes.l0 : Nat → List Int → Int → Int → List Int → Int → Int → Option (List Int × Int × Int)
 | 0, _, _, _, _, _, _ => none
 | k + 1, x5, x6, x7, cM, dH, dI => if x7 < x6 then ((spec_l1Byte.f cM dH dI).bind fun dX => (if x5.length < 140737488355328 then (spec_l1DrawBytes.l0 k (x5 ++ [(dX.1) % 256]) x6 (wrap64 (x7 + 1)) cM dX.2.1 dX.2.2) else (none))) else (some (x5, dH, dI))
def spec_l1DrawBytes.f (k : Nat) (s0_0 : List Int) (s0_1 : Int) (s0_2 : Int) (a1 : Int) : Option (List Int × Int × Int) := (spec_l1Below.f s0_0 s0_1 s0_2 (wrap64 (a1 + 1))).bind fun bI => (spec_l1DrawBytes.l0 k (([] : List Int)) bI.1 0 s0_0 bI.2.1 bI.2.2)
theorem u6_mq4 {p : Prop} (h : p := by repeat' first | (with_reducible first | exact dN _ _ _ _ _ _ | exact LeO.refl _ | exact LeO.none _ | refine LeO.ite ?_ ?_ | refine LeO.bind ?_ (fun _ => ?_)) | exact LeO.none _ | refine LeO.ite ?_ ?_ | refine LeO.bind ?_ (fun _ => ?_)) : p := h
set_option maxRecDepth 100000 in
theorem spec_l1DrawBytes.mono_l : ∀ k, (∀ y0 y1 y2 y3 y4 y5, LeO (spec_l1DrawBytes.l0 k y0 y1 y2 y3 y4 y5) (spec_l1DrawBytes.l0 (k + 1) y0 y1 y2 y3 y4 y5))
 | 0 => fun _ _ _ _ _ _ r h => by simp [spec_l1DrawBytes.l0] at h
 | k + 1 => by
  have dN := spec_l1DrawBytes.mono_l k
  ·intro y0 y1 y2 y3 y4 y5; unfold spec_l1DrawBytes.l0; exact u6_mq4
theorem spec_l1DrawBytes.mono : ∀ a0 a1 a2 a3 k, LeO (spec_l1DrawBytes.f k a0 a1 a2 a3) (spec_l1DrawBytes.f (k + 1) a0 a1 a2 a3) := by
 intro a0 a1 a2 a3 k
 have dN := spec_l1DrawBytes.mono_l k
 unfold spec_l1DrawBytes.f
 exact u6_mq4
set_option maxHeartbeats 8000000 in
set_option maxRecDepth 100000 in
theorem spec_l1DrawBytes.calls (k : Nat) (g : Nat) (s0_0 : List Int) (s0_1 : Int) (s0_2 : Int) (a1 : Int) (r1 : List Int) (r2 : Int) (r3 : Int) (w0 w : World) (hI : IsS157 w0 w g s0_0 s0_1 s0_2) (hB : Below w0.heap.size w0 w) (h : spec_l1DrawBytes.f k s0_0 s0_1 s0_2 a1 = some (r1, r2, r3)) :
 Calls Try.prog 104 #[.pointer (some ⟨g, 0, none⟩), .int .i64 a1] w fun e w' => ∃ v0_ : Value, e = .returned (v0_) ∧ Kd.R (Kd.int .u8) 5 w' w.heap.size (fun _ => True) v0_ r1 ∧ IsS157 w0 w' g s0_0 r2 r3 ∧ Below w0.heap.size w0 w' ∧ KeepBut w w' g none := by
 have HI0 := aM hI
 have HK := aM (KeepBut.refl w g none)
 have HL := aM hB.size
 clear hI
 have HW0 := aM hB.size
 have HB := aM hB
 clear hB
 have H : ((spec_l1Below.f s0_0 s0_1 s0_2 (wrap64 (a1 + 1))).bind fun bI => (spec_l1DrawBytes.l0 k (([] : List Int)) bI.1 0 s0_0 bI.2.1 bI.2.2)) = some (r1, r2, r3) := h
 clear h
 obtain ⟨iU, hY⟩ : ∃ y_ : List Int, y_ = (([] : List Int)) := ⟨_, rfl⟩
 replace H : ((spec_l1Below.f s0_0 s0_1 s0_2 (wrap64 (a1 + 1))).bind fun bI => (spec_l1DrawBytes.l0 k iU bI.1 0 s0_0 bI.2.1 bI.2.2)) = some (r1, r2, r3) := u6_1
 have eV := aM hY
 clear hY
 replace H := oB H
 obtain ⟨⟨dM, iV, iW⟩, iX, H⟩ := H
 (try dsimp only at H)
 have A3 := aM iX
 clear iX
 have H' := aM H
 clear H
 go_enter Try.func104, Try.ntmps104
 go_wp2_with (first | ((with_reducible refine gD 8 rfl ?_); refine Kd.R_lit (Kd.int .u8) _ 5 ?hg (N := 8) ?hd (xs := ([] : List Int)) (inner := []) (ok := fun _ => True) (okp := fun _ => True) ?hr ?hp (fun _ hk => hk) trivial (Below.refl _ _) (Nat.le_refl _) (by simp) ?_; (case hd => rfl); (case hg => rfl); (case hr => exact u6_2); (case hp => exact (Reps.none _ _)); intro rN w4 iY hb hg_ hnew_; clear hg_ hnew_; (first | rw [← eV.out] at iY | (simp only [Int.reduceToNat] at iY; rw [← eV.out] at iY)); have dY := aM (Kd.R_lower iY (keep_size (w := w) (g := g) (row := none) xK)); replace HK := xhb HK hb; replace HB := IsS157.Bb HB hb; replace HI0 := IsS157.bl HI0 hb; clear hb iY) | ((with_reducible refine gC 108 rfl ?_); refine goesLY (some 12) rfl Try.func108 #[.pointer (some ⟨g, 0, none⟩), .int .i64 (wrap64 (a1 + 1))] ?_; (with_reducible refine (spec_l1Below.calls g s0_0 s0_1 s0_2 (wrap64 (a1 + 1)) dM iV iW w0 _ ?side1 ?side2 A3.out).mono ?_); (case side1 => exact IsS157.s); (case side2 => exact IsS157.B); rintro e w6 ⟨rfl, hi, hb, hk⟩; refine ⟨_, rfl, ?_⟩; replace dY := IsS157.rk HI0 hk (xr dY); replace HK := xhk HK hk; replace HB := aM (hb); replace HI0 := aM (hi); (try clear hb hk hi)))
 go_loopg [5, 7] k (fun kq v5 v7 w' => ∃ (aI : List Int) (cU : Int) (aQ : Int) (aT : Int), v7 = .int .i64 cU ∧ Aside0 (spec_l1DrawBytes.l0 kq aI dM cU s0_0 aQ aT = some (r1, r2, r3)) ∧ Aside0 (kq ≤ k) ∧ Aside0 (Kd.R (Kd.int .u8) 5 w' w.heap.size (fun _ => True) v5 aI) ∧ Aside0 (IsS157 w0 w' g s0_0 aQ aT) ∧ Aside0 (KeepBut w w' g none) ∧ Aside0 (Below w0.heap.size w0 w'))
 case atStart => exact ⟨(iU), (0), (iV), (iW), u6_0, H', ⟨Nat.le_refl _⟩, ⟨by (with_reducible repeat (first | apply Kd.R_alloc | apply Kd.R_drewN | apply Kd.R_drew)); exact dY.out⟩, ⟨IsS157.s⟩, ⟨xK⟩, ⟨IsS157.B⟩⟩
 case round =>
  clear H'; try clear c1
  try clear p2
  try clear p6
  obtain ⟨aI, cU, aQ, aT, rfl, HA, HK1, bG, HI0, HK, HB⟩ := hrel; cases gk with
  | zero => exact absurd HA.out (by simp [spec_l1DrawBytes.l0])
  | succ k1 =>
   have H := HA.out; clear HA; simp only [spec_l1DrawBytes.l0] at H; by_cases c7 : cU < dM
   ·rw [if_pos c7] at H; have fS : decide (cU < dM) = true := decide_eq_true c7; clear c7; replace H := oB H; obtain ⟨⟨eK, fF, fG⟩, fT, H⟩ := H; (try dsimp only at H); have A8 := aM fT; clear fT
    by_cases c9 : aI.length < 140737488355328
    ·rw [if_pos c9] at H; have LMc9 := aM c9; clear c9; obtain ⟨iZ, hY⟩ : ∃ y_ : List Int, y_ = (aI ++ [(eK) % 256]) := ⟨_, rfl⟩; replace H : (spec_l1DrawBytes.l0 k1 iZ dM (wrap64 (cU + 1)) s0_0 fF fG) = some (r1, r2, r3) := u6_1; have jA := aM hY; clear hY; have H' := aM H; clear H; go_wp2_with (first | ((with_reducible refine gC 154 rfl ?_); refine goesLY (some 20) rfl Try.func154 #[.pointer (some ⟨g, 0, none⟩)] ?_; (with_reducible refine (spec_l1Byte.calls g s0_0 aQ aT eK fF fG w0 _ ?side1 ?side2 A8.out).mono ?_); (case side1 => exact IsS157.s); (case side2 => exact IsS157.B); rintro e rO ⟨rfl, hi, hb, hk⟩; refine ⟨_, rfl, ?_⟩; replace bG := IsS157.rk HI0 hk (xr bG); replace HK := xhk HK hk; replace HB := aM (hb); replace HI0 := aM (hi); (try clear hb hk hi)) | ((with_reducible refine gate_builtin (b := .append) (xs := #[.tmp 18, .tmp 22]) rfl ?_); at_builtin; refine Kd.R_append (Kd.int .u8) w.heap.size rfl (.tmp 18) (.tmp 22) 22 5 (.int .u8 0) 1 rfl Try.underlying22 info5 rfl (by decide) (by omega) u5 aI ((eK) % 256) [.int .u8 ((eK) % 256)] (fun _ => True) (fun _ => False) rfl rfl ?aP (fun _ hk => hk.elim) ?aF ?aO (Below.refl _ _) ?aS ?aL ?_; (case aP => exact rfl); (case aF => exact (fun _ _ => trivial)); (case aO => exact (xr bG)); (case aS => exact (keep_size (w := w) (g := g) (row := none) xK)); (case aL => have := LMc9.out; omega); intro rP nG ho hb hg hat; rw [← jA.out] at ho; replace HB := aM (below_weaken IsS157.B HL.out hb); replace HI0 := aM (IsS157.grown IsS157.s hg (IsS157.own_ne HI0.out bG.out (by decide))); replace HK := aM (KeepBut.trans xK (KeepBut.of_grown hg g) (Kd.R_base2 bG.out)); have jB := aM (ho); clear bG; clear ho hb hg hat))
     go_roundg k1
     case measure => have := HK1.out; omega
     case rel => exact ⟨(iZ), (wrap64 (cU + 1)), (fF), (fG), u6_0, H', ⟨by have := HK1.out; omega⟩, ⟨by (with_reducible repeat (first | apply Kd.R_alloc | apply Kd.R_drewN | apply Kd.R_drew)); exact jB.out⟩, ⟨IsS157.s⟩, ⟨xK⟩, ⟨IsS157.B⟩⟩
    ·rw [if_neg c9] at H; exact absurd H (by simp)
   ·rw [if_neg c7] at H; have fS : decide (cU < dM) = false := decide_eq_false c7; clear c7; simp only [Option.some.injEq, Prod.mk.injEq] at H; obtain ⟨rfl, rfl, rfl⟩ := H; go_wp2; go_ret
    exact ⟨_, xerr, u6_5, IsS157.s, IsS157.B, xK⟩

/-! ### spec_l3DrawText: function 168 -/
def spec_l3DrawText.f (k : Nat) (s0_0 : List Int) (s0_1 : Int) (s0_2 : Int) (a1 : Int) : Option (ByteArray × Int × Int) := (spec_l1DrawBytes.f k s0_0 s0_1 s0_2 a1).bind fun cI => (some (strOfNums cI.1, cI.2.1, cI.2.2))
theorem u6_mq5 {p : Prop} (h : p := by repeat' first | (with_reducible first | exact spec_l1DrawBytes.mono _ _ _ _ _ | exact LeO.refl _ | exact LeO.none _ | refine LeO.ite ?_ ?_ | refine LeO.bind ?_ (fun _ => ?_)) | exact LeO.none _ | refine LeO.ite ?_ ?_ | refine LeO.bind ?_ (fun _ => ?_)) : p := h
theorem spec_l3DrawText.mono : ∀ a0 a1 a2 a3 k, LeO (spec_l3DrawText.f k a0 a1 a2 a3) (spec_l3DrawText.f (k + 1) a0 a1 a2 a3) := by
 intro a0 a1 a2 a3 k
 unfold spec_l3DrawText.f
 exact u6_mq5
set_option maxHeartbeats 8000000 in
set_option maxRecDepth 100000 in
theorem spec_l3DrawText.calls (k : Nat) (g : Nat) (s0_0 : List Int) (s0_1 : Int) (s0_2 : Int) (a1 : Int) (r1 : ByteArray) (r2 : Int) (r3 : Int) (w0 w : World) (hI : IsS157 w0 w g s0_0 s0_1 s0_2) (hB : Below w0.heap.size w0 w) (h : spec_l3DrawText.f k s0_0 s0_1 s0_2 a1 = some (r1, r2, r3)) :
 Calls Try.prog 168 #[.pointer (some ⟨g, 0, none⟩), .int .i64 a1] w fun e w' => e = .returned (.string r1) ∧ IsS157 w0 w' g s0_0 r2 r3 ∧ Below w0.heap.size w0 w' ∧ KeepBut w w' g none := by
 have HI0 := aM hI
 have HK := aM (KeepBut.refl w g none)
 have HL := aM hB.size
 clear hI
 have HW0 := aM hB.size
 have HB := aM hB
 clear hB
 have H : ((spec_l1DrawBytes.f k s0_0 s0_1 s0_2 a1).bind fun cI => (some (strOfNums cI.1, cI.2.1, cI.2.2))) = some (r1, r2, r3) := h
 clear h
 replace H := oB H
 obtain ⟨⟨oL, oM, oO⟩, iX, H⟩ := H
 (try dsimp only at H)
 have A3 := aM iX
 clear iX
 simp only [Option.some.injEq, Prod.mk.injEq] at H
 obtain ⟨rfl, rfl, rfl⟩ := H
 go_enter Try.func168, Try.ntmps168
 go_wp2_with (first | ((with_reducible refine gC 104 rfl ?_); refine goesLY (some 7) rfl Try.func104 #[.pointer (some ⟨g, 0, none⟩), .int .i64 a1] ?_; (with_reducible refine (spec_l1DrawBytes.calls k g s0_0 s0_1 s0_2 a1 oL oM oO w0 _ ?side1 ?side2 A3.out).mono ?_); (case side1 => exact IsS157.s); (case side2 => exact IsS157.B); rintro e w4 ⟨rQ, rfl, bJ, hi, hb, hk⟩; refine ⟨_, rfl, ?_⟩; have jC := aM (Kd.R_lower bJ (keep_size (w := w) (g := g) (row := none) xK)); replace HK := xhk HK hk; replace HB := aM (hb); replace HI0 := aM (hi); (try clear hb hk hi bJ); have hcv5 := own_string (P := Try.prog) Try.underlying22 Try.underlying5 Try.underlying9 (Kd.own_of_R jC.out)))
 go_ret
 exact ⟨xerr, IsS157.s, IsS157.B, xK⟩

/-! ### spec_l4DrawList: function 128 -/
def spec_l4DrawList.l0 : Nat → Int → List ByteArray → Int → List Int → Int → Int → Option (List ByteArray × Int × Int)
 | 0, _, _, _, _, _, _ => none
 | k + 1, x1, x5, x6, cM, dH, dI => (spec_l1Below.f cM dH dI (wrap64 (x1 + 1))).bind fun cV => (if x6 < cV.1 then ((spec_l3DrawText.f k cM cV.2.1 cV.2.2 5).bind fun dZ => (if x5.length < 8796093022208 then (spec_l4DrawList.l0 k x1 (x5 ++ [dZ.1]) (wrap64 (x6 + 1)) cM dZ.2.1 dZ.2.2) else (none))) else (some (x5, cV.2.1, cV.2.2)))
def spec_l4DrawList.f (k : Nat) (s0_0 : List Int) (s0_1 : Int) (s0_2 : Int) (a1 : Int) : Option (List ByteArray × Int × Int) := spec_l4DrawList.l0 k a1 (([] : List ByteArray)) 0 s0_0 s0_1 s0_2
theorem u6_mq6 {p : Prop} (h : p := by repeat' first | (with_reducible first | exact dN _ _ _ _ _ _ | exact spec_l3DrawText.mono _ _ _ _ _ | exact LeO.refl _ | exact LeO.none _ | refine LeO.ite ?_ ?_ | refine LeO.bind ?_ (fun _ => ?_)) | exact LeO.none _ | refine LeO.ite ?_ ?_ | refine LeO.bind ?_ (fun _ => ?_)) : p := h
set_option maxRecDepth 100000 in
theorem spec_l4DrawList.mono_l : ∀ k, (∀ y0 y1 y2 y3 y4 y5, LeO (spec_l4DrawList.l0 k y0 y1 y2 y3 y4 y5) (spec_l4DrawList.l0 (k + 1) y0 y1 y2 y3 y4 y5))
 | 0 => fun _ _ _ _ _ _ r h => by simp [spec_l4DrawList.l0] at h
 | k + 1 => by
  have dN := spec_l4DrawList.mono_l k
  ·intro y0 y1 y2 y3 y4 y5; unfold spec_l4DrawList.l0; exact u6_mq6
theorem spec_l4DrawList.mono : ∀ a0 a1 a2 a3 k, LeO (spec_l4DrawList.f k a0 a1 a2 a3) (spec_l4DrawList.f (k + 1) a0 a1 a2 a3) := by
 intro a0 a1 a2 a3 k
 have dN := spec_l4DrawList.mono_l k
 unfold spec_l4DrawList.f
 exact u6_mq6
set_option maxHeartbeats 8000000 in
set_option maxRecDepth 100000 in
theorem spec_l4DrawList.calls (k : Nat) (g : Nat) (s0_0 : List Int) (s0_1 : Int) (s0_2 : Int) (a1 : Int) (r1 : List ByteArray) (r2 : Int) (r3 : Int) (w0 w : World) (hI : IsS157 w0 w g s0_0 s0_1 s0_2) (hB : Below w0.heap.size w0 w) (h : spec_l4DrawList.f k s0_0 s0_1 s0_2 a1 = some (r1, r2, r3)) :
 Calls Try.prog 128 #[.pointer (some ⟨g, 0, none⟩), .int .i64 a1] w fun e w' => ∃ v0_ : Value, e = .returned (v0_) ∧ Kd.R Kd.string 9 w' w.heap.size (fun _ => True) v0_ r1 ∧ IsS157 w0 w' g s0_0 r2 r3 ∧ Below w0.heap.size w0 w' ∧ KeepBut w w' g none := by
 have HI0 := aM hI
 have HK := aM (KeepBut.refl w g none)
 have HL := aM hB.size
 clear hI
 have HW0 := aM hB.size
 have HB := aM hB
 clear hB
 have H : (spec_l4DrawList.l0 k a1 (([] : List ByteArray)) 0 s0_0 s0_1 s0_2) = some (r1, r2, r3) := h
 clear h
 obtain ⟨jD, hY⟩ : ∃ y_ : List ByteArray, y_ = (([] : List ByteArray)) := ⟨_, rfl⟩
 replace H : (spec_l4DrawList.l0 k a1 jD 0 s0_0 s0_1 s0_2) = some (r1, r2, r3) := u6_1
 have eW := aM hY
 clear hY
 have H' := aM H
 clear H
 go_enter Try.func128, Try.ntmps128
 go_wp2_with (first | ((with_reducible refine gD 7 rfl ?_); refine Kd.R_lit Kd.string _ 9 ?hg (N := 7) ?hd (xs := ([] : List ByteArray)) (inner := []) (ok := fun _ => True) (okp := fun _ => True) ?hr ?hp (fun _ hk => hk) trivial (Below.refl _ _) (Nat.le_refl _) (by simp) ?_; (case hd => rfl); (case hg => rfl); (case hr => exact u6_2); (case hp => exact (Reps.none _ _)); intro rR w3 dO hb hg_ hnew_; clear hg_ hnew_; (first | rw [← eW.out] at dO | (simp only [Int.reduceToNat] at dO; rw [← eW.out] at dO)); have jE := aM (Kd.R_lower dO (keep_size (w := w) (g := g) (row := none) xK)); replace HK := xhb HK hb; replace HB := IsS157.Bb HB hb; replace HI0 := IsS157.bl HI0 hb; clear hb dO))
 go_loopg [5, 6] k (fun kq v5 v6 w' => ∃ (aI : List ByteArray) (cW : Int) (aQ : Int) (aT : Int), v6 = .int .i64 cW ∧ Aside0 (spec_l4DrawList.l0 kq a1 aI cW s0_0 aQ aT = some (r1, r2, r3)) ∧ Aside0 (kq ≤ k) ∧ Aside0 (Kd.R Kd.string 9 w' w.heap.size (fun _ => True) v5 aI) ∧ Aside0 (IsS157 w0 w' g s0_0 aQ aT) ∧ Aside0 (KeepBut w w' g none) ∧ Aside0 (Below w0.heap.size w0 w'))
 case atStart => exact ⟨(jD), (0), (s0_1), (s0_2), u6_0, H', ⟨Nat.le_refl _⟩, ⟨by (with_reducible repeat (first | apply Kd.R_alloc | apply Kd.R_drewN | apply Kd.R_drew)); exact jE.out⟩, ⟨IsS157.s⟩, ⟨xK⟩, ⟨IsS157.B⟩⟩
 case round =>
  clear H'; try clear c1
  try clear p2
  obtain ⟨aI, cW, aQ, aT, rfl, HA, HK1, bG, HI0, HK, HB⟩ := hrel; cases gk with
  | zero => exact absurd HA.out (by simp [spec_l4DrawList.l0])
  | succ k1 =>
   have H := HA.out; clear HA; simp only [spec_l4DrawList.l0] at H; replace H := oB H; obtain ⟨⟨eA, fH, fI⟩, qO, H⟩ := H; (try dsimp only at H); have A5 := aM qO; clear qO
   by_cases c6 : cW < eA
   ·rw [if_pos c6] at H; have fR : decide (cW < eA) = true := decide_eq_true c6; clear c6; replace H := oB H; obtain ⟨⟨eL, fJ, fK⟩, gA, H⟩ := H; (try dsimp only at H); have A7 := aM gA; clear gA
    by_cases c8 : aI.length < 8796093022208
    ·rw [if_pos c8] at H; have LMc8 := aM c8; clear c8; obtain ⟨jF, hY⟩ : ∃ y_ : List ByteArray, y_ = (aI ++ [eL]) := ⟨_, rfl⟩; replace H : (spec_l4DrawList.l0 k1 a1 jF (wrap64 (cW + 1)) s0_0 fJ fK) = some (r1, r2, r3) := u6_1; have jG := aM hY; clear hY; have H' := aM H; clear H; go_wp2_with (first | ((with_reducible refine gC 108 rfl ?_); refine goesLY (some 12) rfl Try.func108 #[.pointer (some ⟨g, 0, none⟩), .int .i64 (wrap64 (a1 + 1))] ?_; (with_reducible refine (spec_l1Below.calls g s0_0 aQ aT (wrap64 (a1 + 1)) eA fH fI w0 _ ?side1 ?side2 A5.out).mono ?_); (case side1 => exact IsS157.s); (case side2 => exact IsS157.B); rintro e w9 ⟨rfl, hi, hb, hk⟩; refine ⟨_, rfl, ?_⟩; replace bG := IsS157.rk HI0 hk (xr bG); replace HK := xhk HK hk; replace HB := aM (hb); replace HI0 := aM (hi); (try clear hb hk hi)) | ((with_reducible refine gC 168 rfl ?_); refine goesLY (some 18) rfl Try.func168 #[.pointer (some ⟨g, 0, none⟩), .int .i64 5] ?_; (with_reducible refine (spec_l3DrawText.calls k1 g s0_0 fH fI 5 eL fJ fK w0 _ ?side1 ?side2 A7.out).mono ?_); (case side1 => exact IsS157.s); (case side2 => exact IsS157.B); rintro e rO ⟨rfl, hi, hb, hk⟩; refine ⟨_, rfl, ?_⟩; replace bG := IsS157.rk HI0 hk (xr bG); replace HK := xhk HK hk; replace HB := aM (hb); replace HI0 := aM (hi); (try clear hb hk hi)) | ((with_reducible refine gate_builtin (b := .append) (xs := #[.tmp 16, .tmp 19]) rfl ?_); at_builtin; refine Kd.R_append Kd.string w.heap.size rfl (.tmp 16) (.tmp 19) 27 9 (.string ⟨#[]⟩) 16 rfl Try.underlying27 info9 rfl (by decide) (by omega) u5 aI eL [.string eL] (fun _ => True) (fun _ => False) rfl rfl ?aP (fun _ hk => hk.elim) ?aF ?aO (Below.refl _ _) ?aS ?aL ?_; (case aP => exact rfl); (case aF => exact (fun _ _ => trivial)); (case aO => exact (xr bG)); (case aS => exact (keep_size (w := w) (g := g) (row := none) xK)); (case aL => have := LMc8.out; omega); intro rS nG ho hb hg hat; rw [← jG.out] at ho; replace HB := aM (below_weaken IsS157.B HL.out hb); replace HI0 := aM (IsS157.grown IsS157.s hg (IsS157.own_ne HI0.out bG.out (by decide))); replace HK := aM (KeepBut.trans xK (KeepBut.of_grown hg g) (Kd.R_base2 bG.out)); have jH := aM (ho); clear bG; clear ho hb hg hat))
     go_roundg k1
     case measure => have := HK1.out; omega
     case rel => exact ⟨(jF), (wrap64 (cW + 1)), (fJ), (fK), u6_0, H', ⟨by have := HK1.out; omega⟩, ⟨by (with_reducible repeat (first | apply Kd.R_alloc | apply Kd.R_drewN | apply Kd.R_drew)); exact jH.out⟩, ⟨IsS157.s⟩, ⟨xK⟩, ⟨IsS157.B⟩⟩
    ·rw [if_neg c8] at H; exact absurd H (by simp)
   ·rw [if_neg c6] at H; have fR : decide (cW < eA) = false := decide_eq_false c6; clear c6; simp only [Option.some.injEq, Prod.mk.injEq] at H; obtain ⟨rfl, rfl, rfl⟩ := H; go_wp2_with (first | ((with_reducible refine gC 108 rfl ?_); refine goesLY (some 12) rfl Try.func108 #[.pointer (some ⟨g, 0, none⟩), .int .i64 (wrap64 (a1 + 1))] ?_; (with_reducible refine (spec_l1Below.calls g s0_0 aQ aT (wrap64 (a1 + 1)) eA fH fI w0 _ ?side1 ?side2 A5.out).mono ?_); (case side1 => exact IsS157.s); (case side2 => exact IsS157.B); rintro e gF ⟨rfl, hi, hb, hk⟩; refine ⟨_, rfl, ?_⟩; replace bG := IsS157.rk HI0 hk (xr bG); replace HK := xhk HK hk; replace HB := aM (hb); replace HI0 := aM (hi); (try clear hb hk hi)))
    go_ret
    exact ⟨_, xerr, u6_5, IsS157.s, IsS157.B, xK⟩

/-! ### spec_l1Max: function 187 -/
def spec_l1Max.f (a0 : Int) (a1 : Int) : Option (Int) := if a0 > a1 then (some a0) else (some a1)
set_option maxHeartbeats 8000000 in
set_option maxRecDepth 100000 in
theorem spec_l1Max.calls (a0 : Int) (a1 : Int) (r : Int) (w : World) (h : spec_l1Max.f a0 a1 = some r) :
 Calls Try.prog 187 #[.int .i64 a0, .int .i64 a1] w fun e w' => e = .returned (.int .i64 r) ∧ Drawn0 w w' := by
 have H : (if a0 > a1 then (some a0) else (some a1)) = some r := h
 clear h
 by_cases c3 : a0 > a1
 ·rw [if_pos c3] at H; have oP : decide (a1 < a0) = true := decide_eq_true c3; clear c3; obtain rfl := Option.some.inj H; go_enter Try.func187, Try.ntmps187
  go_wp2; go_ret
  exact ⟨u6_0, by repeat (first | exact Drawn0.refl _ | apply Drawn0.step)⟩
 ·rw [if_neg c3] at H; have oP : decide (a1 < a0) = false := decide_eq_false c3; clear c3; obtain rfl := Option.some.inj H; go_enter Try.func187, Try.ntmps187
  go_wp2; go_ret
  exact ⟨u6_0, by repeat (first | exact Drawn0.refl _ | apply Drawn0.step)⟩

theorem u7_0 {p : Prop} (h : p := by first | rfl | (simp; done) | (simp [*]; done)) : p := h
theorem u7_1 {p : Prop} (h : p := by first | omega | exact Nat.le_refl _) : p := h
theorem u7_2 {p : Prop} (h : p := by first | exact Kd.R_nil _ _ _ _ _ | exact Kd.N_nil _ _ _ _ _ | exact Kd.V_nil _ _ _ _ _ | exact Kd.Q_nil _ _ _ _ _ | exact Kd.S_nil _ _ _ _ _) : p := h
theorem u7_3 {p : Prop} (h : p := by first | (rw [hY]; with_reducible exact H) | (have H2_ := oS H; rw [hY]; with_reducible exact H2_) | (have H2_ := oS H; with_reducible exact H2_) | with_reducible exact H | (rw [hY]; exact H) | exact H) : p := h
theorem u7_4 {p : Prop} (h : p := by (with_reducible repeat (first | apply Kd.R_alloc | apply Kd.R_drewN | apply Kd.R_drew)); exact Kd.R_mono (Kd.R_far (p := ⟨aE, 2, none⟩) (Kd.R_far (p := ⟨aE, 1, none⟩) (Kd.R_far (p := ⟨aE, 0, none⟩) (Kd.R_mono aD.out (fun k_ hk => (⟨hk, hk.2⟩ : _ ∧ k_ ≠ aE))) (fun _ hk => hk.2) (.int .i64 ((rd_T95 aA aC).f0))) (fun _ hk => hk.2) (.string ((rd_T95 aA aC).f1))) (fun _ hk => hk.2) (.string ((rd_T95 aA aC).f2))) (fun _ hk => hk.1.2)) : p := h
theorem u7_5 {p : Prop} (h : p := by exact (fun k_ hk => Kd.freshB (g := aE) (o := .cells #[.int .i64 ((rd_T95 aA aC).f0), .string ((rd_T95 aA aC).f1), .string ((rd_T95 aA aC).f2)] 95 (0, 0)) xblk k_ hk)) : p := h
/-! ### spec_DiskCrash: function 167 -/
mutual
def spec_DiskCrash.j0 : Nat → List Int → Bool → Int → List (S95) → Option (Int × (List (S95)))
 | 0, _, _, _, _ => none
 | k + 1, x1, sR, cE, aW => if sR = true then (some (0, ([] : List (S95)))) else (spec_DiskCrash.l0 k x1 0 cE aW cE ([] : List (S95)))
def spec_DiskCrash.l0 : Nat → List Int → Int → Int → List (S95) → Int → List (S95) → Option (Int × (List (S95)))
 | 0, _, _, _, _, _, _ => none
 | k + 1, x1, x6, cE, aW, dG, cF => if x6 < (aW.length : Int) then (if 0 ≤ x6 then (if x6 < (x1.length : Int) then ((spec_l1Max.f (rd x1 x6) 0).bind fun eZ => ((spec_l1Min.f eZ (((rd_T95 aW x6).f2).size : Int)).bind fun bR => (if 0 ≤ bR then (if bR ≤ (((rd_T95 aW x6).f2).size : Int) then (if ((rd_T95 aW x6).f1).size + (((rd_T95 aW x6).f2).extract 0 (bR : Int).toNat).size ≤ 9223372036854775807 then (if cF.length < 3518437208883 then (spec_DiskCrash.l0 k x1 (wrap64 (x6 + 1)) cE aW dG (cF ++ [(⟨(rd_T95 aW x6).f0, ((rd_T95 aW x6).f1) ++ (((rd_T95 aW x6).f2).extract 0 (bR : Int).toNat), (⟨#[]⟩ : ByteArray)⟩ : S95)])) else (none)) else (none)) else (none)) else (none)))) else (if 0 ≤ 0 then (if 0 ≤ (((rd_T95 aW x6).f2).size : Int) then (if ((rd_T95 aW x6).f1).size ≤ 9223372036854775807 then (if cF.length < 3518437208883 then (spec_DiskCrash.l0 k x1 (wrap64 (x6 + 1)) cE aW dG (cF ++ [(⟨(rd_T95 aW x6).f0, ((rd_T95 aW x6).f1), (⟨#[]⟩ : ByteArray)⟩ : S95)])) else (none)) else (none)) else (none)) else (none))) else (none)) else (some (dG, cF))
end
def spec_DiskCrash.f (k : Nat) (aH : Int) (aA : List (S95)) (l1 : List Int) : Option (Int × (List (S95))) := (spec_DiskOk.f k aH aA).bind fun fA => (if fA = true then (spec_DiskCrash.j0 k l1 (decide ((l1.length : Int) > 8)) aH aA) else (spec_DiskCrash.j0 k l1 true aH aA))
theorem u7_mq0 {p : Prop} (h : p := by repeat' first | (with_reducible first | exact jB _ _ _ _ | exact jC _ _ _ _ _ _ | exact spec_DiskOk.mono _ _ _ | exact LeO.refl _ | exact LeO.none _ | refine LeO.ite ?_ ?_ | refine LeO.bind ?_ (fun _ => ?_)) | exact LeO.none _ | refine LeO.ite ?_ ?_ | refine LeO.bind ?_ (fun _ => ?_)) : p := h
set_option maxRecDepth 100000 in
theorem spec_DiskCrash.mono_l : ∀ k, (∀ y0 y1 y2 y3, LeO (spec_DiskCrash.j0 k y0 y1 y2 y3) (spec_DiskCrash.j0 (k + 1) y0 y1 y2 y3)) ∧ (∀ y0 y1 y2 y3 y4 y5, LeO (spec_DiskCrash.l0 k y0 y1 y2 y3 y4 y5) (spec_DiskCrash.l0 (k + 1) y0 y1 y2 y3 y4 y5))
 | 0 => ⟨fun _ _ _ _ r h => by simp [spec_DiskCrash.j0] at h, fun _ _ _ _ _ _ r h => by simp [spec_DiskCrash.l0] at h⟩
 | k + 1 => by
  obtain ⟨jB, jC⟩ := spec_DiskCrash.mono_l k; refine ⟨?_, ?_⟩
  ·intro y0 y1 y2 y3; unfold spec_DiskCrash.j0; exact u7_mq0
  ·intro y0 y1 y2 y3 y4 y5; unfold spec_DiskCrash.l0; exact u7_mq0
theorem spec_DiskCrash.mono : ∀ a0 a1 a2 k, LeO (spec_DiskCrash.f k a0 a1 a2) (spec_DiskCrash.f (k + 1) a0 a1 a2) := by
 intro a0 a1 a2 k
 obtain ⟨jB, jC⟩ := spec_DiskCrash.mono_l k
 unfold spec_DiskCrash.f
 exact u7_mq0
def spec_DiskCrash.T10 : Bool × List (List Nat × List Nat) := (true, [([], []), ([], []), ([0, 1], [0, 1]), ([2], [2]), ([3], [3]), ([], []), ([5], [5]), ([6], [6]), ([4, 7, 4], [4, 7]), ([8, 8, 0, 1, 2, 3, 4, 5, 6, 7, 8], [8])])
def spec_DiskCrash.B10 : List Nat := [0, 0, 3, 7, 15, 0, 32, 96, 255, 511]
def spec_DiskCrash.T11 : Bool × List (List Nat × List Nat) := (true, [([], []), ([0], [0]), ([], []), ([2], [2]), ([], []), ([4], [4]), ([], []), ([6], [6]), ([], []), ([7, 8], [7, 8]), ([5, 9], [5, 9]), ([3, 10], [3, 10]), ([11], [11]), ([1, 12], [1, 12]), ([0, 1, 2, 3, 4, 5, 6, 7, 8, 9, 10, 11, 12, 13], []), ([14, 13, 13, 0, 1, 2, 3, 4, 5, 6, 7, 8, 9, 10, 11, 12, 13], [13, 14])])
def spec_DiskCrash.B11 : List Nat := [0, 1, 0, 4, 0, 16, 0, 64, 0, 448, 1008, 2044, 4092, 8191, 16383, 32767]
theorem spec_DiskCrash.tab11 : rtab .any (opsOf Try.f167 11) = spec_DiskCrash.T11 := by kernel_rfl
theorem spec_DiskCrash.bits11 : waitsOk spec_DiskCrash.T11.2 spec_DiskCrash.B11 = true := by kernel_rfl
set_option maxHeartbeats 8000000 in
set_option maxRecDepth 100000 in
theorem spec_DiskCrash.calls (k : Nat) (aH : Int) (bU : Option Addr) (bH : Nat) (aA : List (S95)) (A1 : Option Addr) (c1 : Nat) (l1 : List Int) (r1 : Int) (r2 : List (S95)) (w : World) (dP : Kd.C k95 w bU aA.length aA) (dQ : aA.length ≤ bH) (jD : Kd.C (Kd.int .i64) w A1 l1.length l1) (jE : l1.length ≤ c1) (h : spec_DiskCrash.f k aH aA l1 = some (r1, r2)) :
 Calls Try.prog 167 #[.agg #[.int .i64 aH, .slice bU aA.length bH], .slice A1 l1.length c1] w fun e w' => ∃ v1_ : Value, e = .returned (.agg #[.int .i64 r1, v1_]) ∧ Kd.R k95 95 w' w.heap.size (fun _ => True) v1_ r2 ∧ Below w.heap.size w w' := by
 have nE := Try.underlying26
 have nF := Try.underlying95
 have bK := aM dP
 have cD := aM dQ
 clear dP dQ
 have nG := aM jD
 have sS := aM jE
 clear jD jE
 have HB := aM (Below.refl w.heap.size w)
 have H : ((spec_DiskOk.f k aH aA).bind fun fA => (if fA = true then (spec_DiskCrash.j0 k l1 (decide ((l1.length : Int) > 8)) aH aA) else (spec_DiskCrash.j0 k l1 true aH aA))) = some (r1, r2) := h
 clear h
 have nH := aM H
 clear H
 go_enter Try.func167, Try.ntmps167
 go_upto_region 1 with (first | ((with_reducible refine gD 2 rfl ?_); (try (refine gate_guard (by rfl) ?_; dsimp only)); refine boxE (N := 2) rfl (cs := #[.int .i64 aH, .slice bU aA.length bH]) (t := 26) ?_; intro dC hg w4 hbox hb; have aI := aM (hbox); have oF := aM (xge hg); have oG := aM (xge hg); replace HB := xbs hb; clear hb hbox hg) | ((with_reducible refine gD 4 rfl ?_); (try (refine gate_guard (by rfl) ?_; dsimp only)); refine boxE (N := 4) rfl (cs := #[.int .i64 0, .slice none 0 0]) (t := 26) ?_; intro cT hg w5 hbox hb; have oH := aM (xge hg); have oI := aM (xge hg); replace HB := xbs hb; have bE := nblt aI hg; have bG := nbgt aI hg; replace aI := xbb aI hb; have aN := aM (hbox); clear hb hbox hg))
 (try simp only [Act.put, List.setIfInBounds_toArray, List.set_cons_zero, List.set_cons_succ])
 go_cut [16] (fun sU wc => ∃ (kq : Nat) (dW : Bool), sU = .bool dW ∧ Aside0 (spec_DiskCrash.j0 kq l1 dW aH aA = some (r1, r2)) ∧ Aside0 (kq ≤ k) ∧ Aside0 (wc.heap[dC]? = some (.cells #[.int .i64 aH, (.slice bU aA.length bH)] 26 (0, 0))) ∧ Aside0 (wc.heap[cT]? = some (.cells #[.int .i64 0, (.slice none 0 0)] 26 (0, 0))) ∧ Aside0 (Below w.heap.size w wc))
 case first =>
  have H := nH.out; clear nH; replace H := oB H; obtain ⟨fA, oJ, H⟩ := H; (try dsimp only at H); have A6 := aM oJ; clear oJ
  by_cases c7 : fA = true
  ·subst c7; replace H := iT H; have H' := aM H; clear H; have sV := bE.out; have sW := bG.out; obtain ⟨fB, fC, fD, fE⟩ := xf2 (w := w5) aI; go_wp2_with (first | ((with_reducible refine gC 132 rfl ?_); refine goesLY (some 10) rfl Try.func132 #[.agg #[.int .i64 aH, .slice bU aA.length bH]] ?_; (with_reducible refine (spec_DiskOk.calls k aH _ _ aA true _ ?side1 ?side2 A6.out).mono ?_); (case side1 => exact xcb bK); (case side2 => exact cD.out); rintro e tY ⟨rfl, hb⟩; refine ⟨_, rfl, ?_⟩; replace aI := xbb aI hb; replace aN := xbb aN hb; replace HB := xbs hb; (try clear hb)))
   go_meet
   case rel => exact ⟨_, (decide ((l1.length : Int) > 8)), u7_0, H', ⟨u7_1⟩, ⟨xblk⟩, ⟨xblk⟩, ⟨xbg⟩⟩
  ·replace c7 := Bool.eq_false_iff.mpr c7; subst c7; replace H := iN H; have H' := aM H; clear H; have oK := bE.out; have oL := bG.out; obtain ⟨dX, dY, dZ, eA⟩ := xf2 (w := w5) aI; go_wp2_with (first | ((with_reducible refine gC 132 rfl ?_); refine goesLY (some 10) rfl Try.func132 #[.agg #[.int .i64 aH, .slice bU aA.length bH]] ?_; (with_reducible refine (spec_DiskOk.calls k aH _ _ aA false _ ?side1 ?side2 A6.out).mono ?_); (case side1 => exact xcb bK); (case side2 => exact cD.out); rintro e tZ ⟨rfl, hb⟩; refine ⟨_, rfl, ?_⟩; replace aI := xbb aI hb; replace aN := xbb aN hb; replace HB := xbs hb; (try clear hb)))
   go_meet
   case rel => exact ⟨_, (true), u7_0, H', ⟨u7_1⟩, ⟨xblk⟩, ⟨xblk⟩, ⟨xbg⟩⟩
 case rest =>
  clear nH; try clear c1
  try clear p2
  try clear c7
  try clear c8
  try clear sX
  try clear nI
  try clear dX dY
  try clear fB fC
  try clear dZ eA
  try clear fD fE
  obtain ⟨kq, dW, rfl, HA, HJ2, aI, aN, HB⟩ := hcut; cases kq with
  | zero => exact absurd HA.out (by simp [spec_DiskCrash.j0])
  | succ oM =>
   have H := HA.out; clear HA; simp only [spec_DiskCrash.j0] at H; by_cases jF : dW = true
   ·subst jF; replace H := iT H; simp only [Option.some.injEq, Prod.mk.injEq] at H; obtain ⟨rfl, rfl⟩ := H; have oO := bG.out; have oP := bE.out; obtain ⟨fK, fL, fM, fN⟩ := xf2 (w := wc) aN; go_wp2; refine bodyPost_ret (results_cell_row rfl _ _ cT 26 #[.int .i64 0, .slice none 0 0] (0, 0) _ rfl xP Try.underlying26 rfl (by kernel_rfl)) rfl ?_; exact ⟨_, xerr, u7_2, xbg⟩
   ·replace jF := Bool.eq_false_iff.mpr jF; subst jF; replace H := iN H; have H' := aM H; clear H; have oQ := bE.out; have oR := bG.out; obtain ⟨fO, fP, fQ, fR⟩ := xf2 (w := wc) aI; go_wp2_with (first | ((with_reducible refine gD 5 rfl ?_); (try (refine gate_guard (by rfl) ?_; dsimp only)); refine boxE (N := 5) rfl (cs := #[.int .i64 0, .slice none 0 0]) (t := 26) ?_; intro bW hg sY hbox hb; have oT := aM (xge hg); have oU := aM (xge hg); replace HB := xbs hb; have bI := nblt aI hg; have bJ := nbgt aI hg; have bZ := nblt aN hg; have cA := nbgt aN hg; replace aI := xbb aI hb; replace aN := xbb aN hb; have aK := aM (hbox); clear hb hbox hg; have oV := bJ.out; have oW := bI.out; have oX := cA.out; have oY := bZ.out; obtain ⟨fS, fT, fU, fV⟩ := xf2 (w := sY) aK))
    go_loopg [6] oM (fun kq v6 w' => ∃ (aC : Int) (aU : List (S95)) (aX : Value), v6 = .int .i64 aC ∧ Aside0 (spec_DiskCrash.l0 kq l1 aC aH aA aH aU = some (r1, r2)) ∧ Aside0 (kq ≤ oM) ∧ Aside0 (Kd.R k95 95 w' w.heap.size (fun _ => True) aX aU) ∧ Aside0 (w'.heap[dC]? = some (.cells #[.int .i64 aH, (.slice bU aA.length bH)] 26 (0, 0))) ∧ Aside0 (w'.heap[cT]? = some (.cells #[.int .i64 0, (.slice none 0 0)] 26 (0, 0))) ∧ Aside0 (w'.heap[bW]? = some (.cells #[.int .i64 aH, aX] 26 (0, 0))) ∧ Aside0 (Below w.heap.size w w'))
    case atStart => exact ⟨(0), (([] : List (S95))), (.slice none 0 0), u7_0, H', ⟨Nat.le_refl _⟩, ⟨u7_2⟩, ⟨xB⟩, ⟨xB⟩, ⟨xP⟩, ⟨xbg⟩⟩
    case round =>
     clear H'; try clear c1
     try clear c2
     try clear p2
     try clear c7
     try clear c8
     try clear sX
     try clear nI
     try clear jF
     try clear uA
     try clear oZ
     try clear uB
     try clear uC
     try clear uD
     try clear dX dY
     try clear fK fL
     try clear fO fP
     try clear fS fT
     try clear fB fC
     try clear dZ eA
     try clear fM fN
     try clear fQ fR
     try clear fU fV
     try clear fD fE
     try clear p2
     obtain ⟨aC, aU, aX, rfl, HA, HK2, aD, aI, aN, aK, HB⟩ := hrel; cases gk with
     | zero => exact absurd HA.out (by simp [spec_DiskCrash.l0])
     | succ k2 =>
      have H := HA.out; clear HA; simp only [spec_DiskCrash.l0] at H; by_cases iU : aC < (aA.length : Int)
      ·rw [if_pos iU] at H; have jG : decide (aC < (aA.length : Int)) = true := decide_eq_true iU; clear iU; by_cases kU : 0 ≤ aC
       ·rw [if_pos kU] at H; have pA : decide (0 ≤ aC) = true := decide_eq_true kU; clear kU; by_cases eY : aC < (l1.length : Int)
        ·rw [if_pos eY] at H; have jH : decide (aC < (l1.length : Int)) = true := decide_eq_true eY; clear eY; replace H := oB H; obtain ⟨eZ, jI, H⟩ := H; (try dsimp only at H); have sZ := aM jI; clear jI; replace H := oB H
         obtain ⟨bR, jJ, H⟩ := H; (try dsimp only at H); have tA := aM jJ; clear jJ
         by_cases jK : 0 ≤ bR
         ·rw [if_pos jK] at H; have pB := eq_true jK; have pC : decide (0 ≤ bR) = true := decide_eq_true jK; clear jK; by_cases eX : bR ≤ (((rd_T95 aA aC).f2).size : Int)
          ·rw [if_pos eX] at H; have fF := eq_true eX; have pD : decide (bR ≤ (((rd_T95 aA aC).f2).size : Int)) = true := decide_eq_true eX; clear eX; by_cases iV : ((rd_T95 aA aC).f1).size + (((rd_T95 aA aC).f2).extract 0 (bR : Int).toNat).size ≤ 9223372036854775807
           ·rw [if_pos iV] at H; have c30x : (9223372036854775807 < ((rd_T95 aA aC).f1).size + (bR : Int).toNat) = False := eq_false (by have h_ := iV; have k_ : (bR : Int) ≤ (((rd_T95 aA aC).f2).size : Int) := oda; rw [ByteArray.size_extract] at h_; omega); have pE := eq_true iV; have pF : decide (((rd_T95 aA aC).f1).size + (((rd_T95 aA aC).f2).extract 0 (bR : Int).toNat).size ≤ 9223372036854775807) = true := decide_eq_true iV; try have pG : (9223372036854775807 < ((rd_T95 aA aC).f1).size + (((rd_T95 aA aC).f2).extract 0 (bR : Int).toNat).size) = False := eq_false (Nat.not_lt.2 iV)
            by_cases jL : aU.length < 3518437208883
            ·rw [if_pos jL] at H; have LMc31 := aM jL; clear jL; obtain ⟨iM, hY⟩ : ∃ y_ : List (S95), y_ = (aU ++ [(⟨(rd_T95 aA aC).f0, ((rd_T95 aA aC).f1) ++ (((rd_T95 aA aC).f2).extract 0 (bR : Int).toNat), (⟨#[]⟩ : ByteArray)⟩ : S95)]) := ⟨_, rfl⟩; replace H : (spec_DiskCrash.l0 k2 l1 (wrap64 (aC + 1)) aH aA aH iM) = some (r1, r2) := u7_3; have jM := aM hY; clear hY; have H' := aM H; clear H; have pH := bE.out; have pI := bG.out; have pJ := bI.out; have pK := bJ.out; obtain ⟨eB, eC, eD, eE⟩ := xf2 (w := wr) aI; have p379 : 0 ≤ (aC : Int) := oda; have q379 : aC < (aA.length : Int) := oda; obtain ⟨dR, iO, cG, cH, cI⟩ := at_T95 bK.out aC p379 q379; cases iO
             replace cG := xce HB cG; replace cH := xce HB cH; replace cI := xce HB cI; replace p379 := eq_true p379; replace q379 := eq_true q379; try go_wp2_with (first | ((with_reducible refine gD 7 rfl ?_); (try (refine gate_guard (by rfl) ?_; dsimp only)); refine boxE (N := 7) rfl (cs := #[.int .i64 0, .string (⟨#[]⟩ : ByteArray), .string (⟨#[]⟩ : ByteArray)]) (t := 95) ?_; intro aE hg fJ hbox hb; replace aD := aM (Kd.R_below (Kd.R_elderB (xr aD) aE (Nat.le_of_eq hg.symm)) hb); have jN := aM (xge hg); have jO := aM (xge hg); replace HB := xbs hb; have cK := nblt aI hg; have cL := nbgt aI hg; have cM := nblt aN hg; have cN := nbgt aN hg; have bN := nblt aK hg; have bO := nbgt aK hg; replace aI := xbb aI hb; replace aN := xbb aN hb; replace aK := xbb aK hb; have aJ := aM (hbox); clear hb hbox hg; have pL := cL.out; have pM := cK.out; have pN := cN.out; have pO := cM.out; have pP := bO.out; have pQ := bN.out; obtain ⟨kV, kW, kX, kY, kZ, lA⟩ := xf3 (w := fJ) aJ))
             have n0_ : Aside0 (Kd.R k95 95 (((fJ.setCell ⟨aE, 0, none⟩ (.int .i64 ((rd_T95 aA aC).f0))).setCell ⟨aE, 1, none⟩ (.string ((rd_T95 aA aC).f1))).setCell ⟨aE, 2, none⟩ (.string ((rd_T95 aA aC).f2))) w.heap.size (fun k_ => k_ ≠ aE) aX aU) := ⟨u7_4⟩; have n1_ : Aside0 ((((fJ.setCell ⟨aE, 0, none⟩ (.int .i64 ((rd_T95 aA aC).f0))).setCell ⟨aE, 1, none⟩ (.string ((rd_T95 aA aC).f1))).setCell ⟨aE, 2, none⟩ (.string ((rd_T95 aA aC).f2))).heap[dC]? = some (.cells #[.int .i64 aH, .slice (some dR) aA.length bH] 26 (0, 0))) := ⟨xB⟩; have n2_ : Aside0 ((((fJ.setCell ⟨aE, 0, none⟩ (.int .i64 ((rd_T95 aA aC).f0))).setCell ⟨aE, 1, none⟩ (.string ((rd_T95 aA aC).f1))).setCell ⟨aE, 2, none⟩ (.string ((rd_T95 aA aC).f2))).heap[cT]? = some (.cells #[.int .i64 0, .slice none 0 0] 26 (0, 0))) := ⟨xB⟩; have n3_ : Aside0 ((((fJ.setCell ⟨aE, 0, none⟩ (.int .i64 ((rd_T95 aA aC).f0))).setCell ⟨aE, 1, none⟩ (.string ((rd_T95 aA aC).f1))).setCell ⟨aE, 2, none⟩ (.string ((rd_T95 aA aC).f2))).heap[bW]? = some (.cells #[.int .i64 aH, aX] 26 (0, 0))) := ⟨xB⟩; have n4_ : Aside0 ((((fJ.setCell ⟨aE, 0, none⟩ (.int .i64 ((rd_T95 aA aC).f0))).setCell ⟨aE, 1, none⟩ (.string ((rd_T95 aA aC).f1))).setCell ⟨aE, 2, none⟩ (.string ((rd_T95 aA aC).f2))).heap[aE]? = some (.cells #[.int .i64 ((rd_T95 aA aC).f0), .string ((rd_T95 aA aC).f1), .string ((rd_T95 aA aC).f2)] 95 (0, 0))) := ⟨xP⟩; have n5_ : Aside0 (Below w.heap.size w (((fJ.setCell ⟨aE, 0, none⟩ (.int .i64 ((rd_T95 aA aC).f0))).setCell ⟨aE, 1, none⟩ (.string ((rd_T95 aA aC).f1))).setCell ⟨aE, 2, none⟩ (.string ((rd_T95 aA aC).f2)))) := ⟨xbg⟩; (try clear aD); (try clear aI); (try clear aN); (try clear aK); (try clear aJ); (try clear HB)
             generalize (((fJ.setCell ⟨aE, 0, none⟩ (.int .i64 ((rd_T95 aA aC).f0))).setCell ⟨aE, 1, none⟩ (.string ((rd_T95 aA aC).f1))).setCell ⟨aE, 2, none⟩ (.string ((rd_T95 aA aC).f2))) = tB at n0_ n1_ n2_ n3_ n4_ n5_ ⊢; have aD := n0_; have aI := n1_; have aN := n2_; have aK := n3_; have aJ := n4_; have HB := n5_; clear n0_ n1_ n2_ n3_ n4_ n5_; replace aD := rD aD; replace aI := bD aI; replace aN := bD aN; replace aK := bD aK; replace aJ := bD aJ; replace HB := lD HB; have p381 : 0 ≤ (aC : Int) := oda; have q381 : aC < (l1.length : Int) := oda; obtain ⟨jP, nJ, cU⟩ := Kd.at_int nG.out aC p381 q381; have dH := cU; cases nJ
             replace cU := xce HB cU; replace p381 := eq_true p381; replace q381 := eq_true q381; refine st_ 10 (fun w' => w'.cell? ⟨aE, 0, none⟩ = some (.int .i64 ((rd_T95 aA aC).f0)) ∧ w'.cell? ⟨aE, 1, none⟩ = some (.string ((rd_T95 aA aC).f1)) ∧ w'.cell? ⟨aE, 2, none⟩ = some (.string ((rd_T95 aA aC).f2)) ∧ w'.cell? (jP.add (aC).toNat) = some (.int .i64 (rd l1 aC))) spec_DiskCrash.T10 spec_DiskCrash.B10 ⟨xc aJ 0 rfl, xc aJ 1 rfl, xc aJ 2 rfl, (xce HB dH)⟩ (fun hHeld HT_ HW_ => ?_); generalize tB.drew = lB at aD aI aN aK aJ HB cU hHeld ⊢; refine pV 0 37 ?_; refine pV 1 38 ?_; refine pV 2 39 ?_; refine pV 5 42 ?_; refine tK 3 40 ?_; refine tK 6 43 ?_; refine pV 7 44 ?_; refine oN 4 41 fun K hK => ?_
             refine goesY Try.func187 #[.int .i64 (rd l1 aC), .int .i64 0] ?_; with_reducible refine (spec_l1Max.calls (rd l1 aC) 0 eZ _ sZ.out).mono ?_
             rintro e w' ⟨rfl, ⟨nd, rfl⟩⟩; refine ⟨_, rfl, ?_⟩; refine hK.out _ _ ⟨xc aJ 0 rfl, xc aJ 1 rfl, xc aJ 2 rfl, (xce HB dH)⟩ (fun hHeld => ?_); clear hK K; refine nm_ (N := 41) ?_; refine oN 8 45 fun K hK => ?_
             refine goesY Try.func136 #[.int .i64 eZ, .int .i64 (((rd_T95 aA aC).f2).size : Int)] ?_; with_reducible refine (spec_l1Min.calls eZ (((rd_T95 aA aC).f2).size : Int) bR _ tA.out).mono ?_
             rintro e w' ⟨rfl, ⟨nd, rfl⟩⟩; refine ⟨_, rfl, ?_⟩; refine hK.out _ _ ⟨xc aJ 0 rfl, xc aJ 1 rfl, xc aJ 2 rfl, (xce HB dH)⟩ (fun hHeld => ?_); clear hK K; refine nm_ (N := 45) ?_; refine pV 9 8 ?_; refine dn_ ?_; try go_wp2
             (try ((repeat rw [World.drewN_drewN]); rw [drewN_self lB]; generalize hq_ : World.drewN lB _ = lB; replace aD := aM (Kd.R_at hq_ aD.out); replace aI := aM (blk_at hq_ aI.out); replace aN := aM (blk_at hq_ aN.out); replace aK := aM (blk_at hq_ aK.out); replace aJ := aM (blk_at hq_ aJ.out); replace HB := aM (below_at hq_ HB.out); clear hq_)); replace aD := rD aD; replace aI := bD aI; replace aN := bD aN; replace aK := bD aK; replace aJ := bD aJ; replace HB := lD HB; refine start_ (n := 16) (S := fun w' => w'.cell? ⟨bW, 0, none⟩ = some (.int .i64 aH) ∧ w'.cell? ⟨bW, 1, none⟩ = some (aX) ∧ w'.cell? ⟨aE, 0, none⟩ = some (.int .i64 ((rd_T95 aA aC).f0)) ∧ w'.cell? ⟨aE, 1, none⟩ = some (.string ((rd_T95 aA aC).f1)) ∧ w'.cell? ⟨aE, 2, none⟩ = some (.string ((rd_T95 aA aC).f2))) (ds := [15]) #[false, false, false, false, false, false, false, false, false, false, false, false, false, false, false, false] (by kernel_rfl) rfl rfl ⟨xc aK 0 rfl, xc aK 1 rfl, xc aJ 0 rfl, xc aJ 1 rfl, xc aJ 2 rfl⟩ (fun hHeld => ?_); refine with_tabW spec_DiskCrash.tab11 spec_DiskCrash.bits11 (fun HT_ HW_ => ?_); generalize lB.drew = pR at aD aI aN aK aJ HB hHeld ⊢; refine pV 0 46 ?_; refine pV 2 48 ?_; refine pV 4 50 ?_; refine pV 6 52 ?_; refine pV 8 54 ?_; refine tK 1 47 ?_; refine tK 3 49 ?_; refine tK 5 51 ?_; refine tK 7 53 ?_; refine pV 9 55 ?_; refine pV 10 56 ?_; refine pV 11 57 ?_; refine oN 12 58 fun K hK => ?_
             refine value_ (w1 := ?_) (v := ?_) (by rfl) rfl ?_ ?_; rotate_left 2
             ·go_simp
              constructor
              ·rfl
              ·rfl
             refine hK.out _ _ ⟨(blk_cell (blk_alloc aK.out _) 0).trans rfl, (blk_cell (blk_alloc aK.out _) 1).trans rfl, (blk_cell (blk_alloc aJ.out _) 0).trans rfl, (blk_cell (blk_alloc aJ.out _) 1).trans rfl, (blk_cell (blk_alloc aJ.out _) 2).trans rfl⟩ (fun hHeld => ?_); clear hK K; refine nm_ (N := 58) ?_; refine oN 13 59 fun K hK => ?_
             refine Kd.R_append_step k95 (w0 := w) w.heap.size (by rfl) (.tmp 47) (.tmp 58) 24 95 (.agg #[(.int .i64 0), (.string ⟨#[]⟩), (.string ⟨#[]⟩)]) 40 rfl Try.underlying24 info95 rfl (by decide) (by omega) aX aU (⟨(rd_T95 aA aC).f0, ((rd_T95 aA aC).f1) ++ (((rd_T95 aA aC).f2).extract 0 (bR : Int).toNat), (⟨#[]⟩ : ByteArray)⟩ : S95) [.int .i64 ((rd_T95 aA aC).f0), .string (((rd_T95 aA aC).f1) ++ (((rd_T95 aA aC).f2).extract 0 (bR : Int).toNat)), .string (⟨#[]⟩ : ByteArray)] (fun k_ => k_ ≠ aE) (fun _ => False) rfl rfl ?aP (fun _ hk => hk.elim) ?aF ?aO ?aB ?aS ?aL ?_; (case aP => exact k95_mkM _ _ _ (⟨(rd_T95 aA aC).f0, ((rd_T95 aA aC).f1) ++ (((rd_T95 aA aC).f2).extract 0 (bR : Int).toNat), (⟨#[]⟩ : ByteArray)⟩ : S95)); (case aB => exact xbg); (case aF => exact u7_5); (case aO => exact (xr aD)); (case aS => exact (below_size xbg)); (case aL => have := LMc31.out; omega); intro tC tD ho hb hg hat; rw [← jM.out] at ho; replace aI := aM (blk_grown (g := dC) (o := .cells #[.int .i64 aH, .slice (some dR) aA.length bH] 26 (0, 0)) xblk hg (Kd.R_ne aD.out aI.out (by decide))); replace aN := aM (blk_grown (g := cT) (o := .cells #[.int .i64 0, .slice none 0 0] 26 (0, 0)) xblk hg (Kd.R_ne aD.out aN.out (by decide))); replace aK := aM (blk_grown (g := bW) (o := .cells #[.int .i64 aH, aX] 26 (0, 0)) xblk hg (Kd.R_ne aD.out aK.out (by decide))); replace aJ := aM (blk_grown (g := aE) (o := .cells #[.int .i64 ((rd_T95 aA aC).f0), .string ((rd_T95 aA aC).f1), .string ((rd_T95 aA aC).f2)] 95 (0, 0)) xblk hg (Kd.R_away aD.out (fun _ hk => hk))); replace HB := aM (hb); have iD := aM (ho); clear aD ho hb hg hat; obtain ⟨nK, nL, jQ⟩ := Kd.R_slice iD.out; (first | subst jQ | (injection jQ with f1_ f2_ f3_; have f4_ := f1_.symm; have f5_ := f3_.symm; clear f1_ f2_ f3_; subst f4_; subst f5_)); refine hK.out _ _ ⟨xc aK 0 rfl, xc aK 1 rfl, xc aJ 0 rfl, xc aJ 1 rfl, xc aJ 2 rfl⟩ (fun hHeld => ?_); clear hK K; refine nm_ (N := 59) ?_; refine pV 14 60 ?_; refine last_ (i := 15) (N := none) #[true, true, true, true, true, true, true, true, true, true, true, true, true, true, true, true] rfl rfl (one_of HT_.out (by kernel_rfl)) (by decide) (fun K hK => ?_); have hs45 : tD.cell? ⟨bW, 1, none⟩ = some (aX) := xc aK 1 rfl; have hfs45 := blk_frozen aK.out 1; have hns45_0 := bI.out; have hns45_1 := bZ.out; have hns45_3 := bO.out; have hms45_0 := bJ.out; have hms45_1 := cA.out; have hms45_3 := bN.out; refine skip_ (w1 := ?_) (by rfl) rfl ?_ ?_; rotate_left
             ·go_simp
              rfl
             refine hK.out _ _ ?_; clear hK K; refine dn_ ?_; try go_wp2
             go_roundg k2
             case measure => have := HJ2.out; have := HK2.out; omega
             case rel => exact ⟨(wrap64 (aC + 1)), (iM), (.slice nK iM.length nL), u7_0, H', ⟨by have := HJ2.out; have := HK2.out; omega⟩, ⟨xrm iD (fun _ _ => trivial)⟩, ⟨xB⟩, ⟨xB⟩, ⟨xP⟩, ⟨xbg⟩⟩
            ·rw [if_neg jL] at H; exact absurd H (by simp)
           ·rw [if_neg iV] at H; exact absurd H (by simp)
          ·rw [if_neg eX] at H; exact absurd H (by simp)
         ·rw [if_neg jK] at H; exact absurd H (by simp)
        ·rw [if_neg eY] at H; have jH : decide (aC < (l1.length : Int)) = false := decide_eq_false eY; clear eY; by_cases iW : 0 ≤ 0
         ·rw [if_pos iW] at H; have pS := eq_true iW; have pT : decide (0 ≤ 0) = true := decide_eq_true iW; clear iW; by_cases jR : 0 ≤ (((rd_T95 aA aC).f2).size : Int)
          ·rw [if_pos jR] at H; have pW := eq_true jR; have pX : decide (0 ≤ (((rd_T95 aA aC).f2).size : Int)) = true := decide_eq_true jR; clear jR; by_cases iX : ((rd_T95 aA aC).f1).size ≤ 9223372036854775807
           ·rw [if_pos iX] at H; have pY := eq_true iX; have pZ : decide (((rd_T95 aA aC).f1).size ≤ 9223372036854775807) = true := decide_eq_true iX; try have qA : (9223372036854775807 < ((rd_T95 aA aC).f1).size) = False := eq_false (Nat.not_lt.2 iX)
            clear iX; by_cases lC : aU.length < 3518437208883
            ·rw [if_pos lC] at H; have LMc49 := aM lC; clear lC; obtain ⟨iP, hY⟩ : ∃ y_ : List (S95), y_ = (aU ++ [(⟨(rd_T95 aA aC).f0, ((rd_T95 aA aC).f1), (⟨#[]⟩ : ByteArray)⟩ : S95)]) := ⟨_, rfl⟩; replace H : (spec_DiskCrash.l0 k2 l1 (wrap64 (aC + 1)) aH aA aH iP) = some (r1, r2) := u7_3; have jS := aM hY; clear hY; have H' := aM H; clear H; have qB := bE.out; have qC := bG.out; have jT := bI.out; have jU := bJ.out; obtain ⟨lE, lF, lG, lH⟩ := xf2 (w := wr) aI; have p379 : 0 ≤ (aC : Int) := oda; have q379 : aC < (aA.length : Int) := oda; obtain ⟨dR, iO, cG, cH, cI⟩ := at_T95 bK.out aC p379 q379; cases iO
             replace cG := xce HB cG; replace cH := xce HB cH; replace cI := xce HB cI; replace p379 := eq_true p379; replace q379 := eq_true q379; try go_wp2_with (first | ((with_reducible refine gD 7 rfl ?_); (try (refine gate_guard (by rfl) ?_; dsimp only)); refine boxE (N := 7) rfl (cs := #[.int .i64 0, .string (⟨#[]⟩ : ByteArray), .string (⟨#[]⟩ : ByteArray)]) (t := 95) ?_; intro aE hg iE hbox hb; replace aD := aM (Kd.R_below (Kd.R_elderB (xr aD) aE (Nat.le_of_eq hg.symm)) hb); have jN := aM (xge hg); have jO := aM (xge hg); replace HB := xbs hb; have cK := nblt aI hg; have cL := nbgt aI hg; have cM := nblt aN hg; have cN := nbgt aN hg; have bN := nblt aK hg; have bO := nbgt aK hg; replace aI := xbb aI hb; replace aN := xbb aN hb; replace aK := xbb aK hb; have aJ := aM (hbox); clear hb hbox hg; have qD := cL.out; have qE := cK.out; have qF := cN.out; have qG := cM.out; have qH := bO.out; have qI := bN.out; obtain ⟨lI, lJ, lK, lL, lM, lN⟩ := xf3 (w := iE) aJ))
             have n0_ : Aside0 (Kd.R k95 95 (((iE.setCell ⟨aE, 0, none⟩ (.int .i64 ((rd_T95 aA aC).f0))).setCell ⟨aE, 1, none⟩ (.string ((rd_T95 aA aC).f1))).setCell ⟨aE, 2, none⟩ (.string ((rd_T95 aA aC).f2))) w.heap.size (fun k_ => k_ ≠ aE) aX aU) := ⟨u7_4⟩; have n1_ : Aside0 ((((iE.setCell ⟨aE, 0, none⟩ (.int .i64 ((rd_T95 aA aC).f0))).setCell ⟨aE, 1, none⟩ (.string ((rd_T95 aA aC).f1))).setCell ⟨aE, 2, none⟩ (.string ((rd_T95 aA aC).f2))).heap[dC]? = some (.cells #[.int .i64 aH, .slice (some dR) aA.length bH] 26 (0, 0))) := ⟨xB⟩; have n2_ : Aside0 ((((iE.setCell ⟨aE, 0, none⟩ (.int .i64 ((rd_T95 aA aC).f0))).setCell ⟨aE, 1, none⟩ (.string ((rd_T95 aA aC).f1))).setCell ⟨aE, 2, none⟩ (.string ((rd_T95 aA aC).f2))).heap[cT]? = some (.cells #[.int .i64 0, .slice none 0 0] 26 (0, 0))) := ⟨xB⟩; have n3_ : Aside0 ((((iE.setCell ⟨aE, 0, none⟩ (.int .i64 ((rd_T95 aA aC).f0))).setCell ⟨aE, 1, none⟩ (.string ((rd_T95 aA aC).f1))).setCell ⟨aE, 2, none⟩ (.string ((rd_T95 aA aC).f2))).heap[bW]? = some (.cells #[.int .i64 aH, aX] 26 (0, 0))) := ⟨xB⟩; have n4_ : Aside0 ((((iE.setCell ⟨aE, 0, none⟩ (.int .i64 ((rd_T95 aA aC).f0))).setCell ⟨aE, 1, none⟩ (.string ((rd_T95 aA aC).f1))).setCell ⟨aE, 2, none⟩ (.string ((rd_T95 aA aC).f2))).heap[aE]? = some (.cells #[.int .i64 ((rd_T95 aA aC).f0), .string ((rd_T95 aA aC).f1), .string ((rd_T95 aA aC).f2)] 95 (0, 0))) := ⟨xP⟩; have n5_ : Aside0 (Below w.heap.size w (((iE.setCell ⟨aE, 0, none⟩ (.int .i64 ((rd_T95 aA aC).f0))).setCell ⟨aE, 1, none⟩ (.string ((rd_T95 aA aC).f1))).setCell ⟨aE, 2, none⟩ (.string ((rd_T95 aA aC).f2)))) := ⟨xbg⟩; (try clear aD); (try clear aI); (try clear aN); (try clear aK); (try clear aJ); (try clear HB)
             generalize (((iE.setCell ⟨aE, 0, none⟩ (.int .i64 ((rd_T95 aA aC).f0))).setCell ⟨aE, 1, none⟩ (.string ((rd_T95 aA aC).f1))).setCell ⟨aE, 2, none⟩ (.string ((rd_T95 aA aC).f2))) = tE at n0_ n1_ n2_ n3_ n4_ n5_ ⊢; have aD := n0_; have aI := n1_; have aN := n2_; have aK := n3_; have aJ := n4_; have HB := n5_; clear n0_ n1_ n2_ n3_ n4_ n5_; replace aD := rD aD; replace aI := bD aI; replace aN := bD aN; replace aK := bD aK; replace aJ := bD aJ; replace HB := lD HB; refine start_ (n := 16) (S := fun w' => w'.cell? ⟨bW, 0, none⟩ = some (.int .i64 aH) ∧ w'.cell? ⟨bW, 1, none⟩ = some (aX) ∧ w'.cell? ⟨aE, 0, none⟩ = some (.int .i64 ((rd_T95 aA aC).f0)) ∧ w'.cell? ⟨aE, 1, none⟩ = some (.string ((rd_T95 aA aC).f1)) ∧ w'.cell? ⟨aE, 2, none⟩ = some (.string ((rd_T95 aA aC).f2))) (ds := [15]) #[false, false, false, false, false, false, false, false, false, false, false, false, false, false, false, false] (by kernel_rfl) rfl rfl ⟨xc aK 0 rfl, xc aK 1 rfl, xc aJ 0 rfl, xc aJ 1 rfl, xc aJ 2 rfl⟩ (fun hHeld => ?_); refine with_tabW spec_DiskCrash.tab11 spec_DiskCrash.bits11 (fun HT_ HW_ => ?_); generalize tE.drew = uE at aD aI aN aK aJ HB hHeld ⊢; refine pV 0 46 ?_; refine pV 2 48 ?_; refine pV 4 50 ?_; refine pV 6 52 ?_; refine pV 8 54 ?_; refine tK 1 47 ?_; refine tK 3 49 ?_; refine tK 5 51 ?_; refine tK 7 53 ?_; refine pV 9 55 ?_; refine pV 10 56 ?_; refine pV 11 57 ?_; refine oN 12 58 fun K hK => ?_
             refine value_ (w1 := ?_) (v := ?_) (by rfl) rfl ?_ ?_; rotate_left 2
             ·go_simp
              constructor
              ·rfl
              ·rfl
             refine hK.out _ _ ⟨(blk_cell (blk_alloc aK.out _) 0).trans rfl, (blk_cell (blk_alloc aK.out _) 1).trans rfl, (blk_cell (blk_alloc aJ.out _) 0).trans rfl, (blk_cell (blk_alloc aJ.out _) 1).trans rfl, (blk_cell (blk_alloc aJ.out _) 2).trans rfl⟩ (fun hHeld => ?_); clear hK K; refine nm_ (N := 58) ?_; refine oN 13 59 fun K hK => ?_
             refine Kd.R_append_step k95 (w0 := w) w.heap.size (by rfl) (.tmp 47) (.tmp 58) 24 95 (.agg #[(.int .i64 0), (.string ⟨#[]⟩), (.string ⟨#[]⟩)]) 40 rfl Try.underlying24 info95 rfl (by decide) (by omega) aX aU (⟨(rd_T95 aA aC).f0, ((rd_T95 aA aC).f1), (⟨#[]⟩ : ByteArray)⟩ : S95) [.int .i64 ((rd_T95 aA aC).f0), .string ((rd_T95 aA aC).f1), .string (⟨#[]⟩ : ByteArray)] (fun k_ => k_ ≠ aE) (fun _ => False) rfl rfl ?aP (fun _ hk => hk.elim) ?aF ?aO ?aB ?aS ?aL ?_; (case aP => exact k95_mkM _ _ _ (⟨(rd_T95 aA aC).f0, ((rd_T95 aA aC).f1), (⟨#[]⟩ : ByteArray)⟩ : S95)); (case aB => exact xbg); (case aF => exact u7_5); (case aO => exact (xr aD)); (case aS => exact (below_size xbg)); (case aL => have := LMc49.out; omega); intro tF tG ho hb hg hat; rw [← jS.out] at ho; replace aI := aM (blk_grown (g := dC) (o := .cells #[.int .i64 aH, .slice (some dR) aA.length bH] 26 (0, 0)) xblk hg (Kd.R_ne aD.out aI.out (by decide))); replace aN := aM (blk_grown (g := cT) (o := .cells #[.int .i64 0, .slice none 0 0] 26 (0, 0)) xblk hg (Kd.R_ne aD.out aN.out (by decide))); replace aK := aM (blk_grown (g := bW) (o := .cells #[.int .i64 aH, aX] 26 (0, 0)) xblk hg (Kd.R_ne aD.out aK.out (by decide))); replace aJ := aM (blk_grown (g := aE) (o := .cells #[.int .i64 ((rd_T95 aA aC).f0), .string ((rd_T95 aA aC).f1), .string ((rd_T95 aA aC).f2)] 95 (0, 0)) xblk hg (Kd.R_away aD.out (fun _ hk => hk))); replace HB := aM (hb); have iF := aM (ho); clear aD ho hb hg hat; obtain ⟨nM, nN, jV⟩ := Kd.R_slice iF.out; (first | subst jV | (injection jV with f1_ f2_ f3_; have f4_ := f1_.symm; have f5_ := f3_.symm; clear f1_ f2_ f3_; subst f4_; subst f5_)); refine hK.out _ _ ⟨xc aK 0 rfl, xc aK 1 rfl, xc aJ 0 rfl, xc aJ 1 rfl, xc aJ 2 rfl⟩ (fun hHeld => ?_); clear hK K; refine nm_ (N := 59) ?_; refine pV 14 60 ?_; refine last_ (i := 15) (N := none) #[true, true, true, true, true, true, true, true, true, true, true, true, true, true, true, true] rfl rfl (one_of HT_.out (by kernel_rfl)) (by decide) (fun K hK => ?_); have hs62 : tG.cell? ⟨bW, 1, none⟩ = some (aX) := xc aK 1 rfl; have hfs62 := blk_frozen aK.out 1; have hns62_0 := bI.out; have hns62_1 := bZ.out; have hns62_3 := bO.out; have hms62_0 := bJ.out; have hms62_1 := cA.out; have hms62_3 := bN.out; refine skip_ (w1 := ?_) (by rfl) rfl ?_ ?_; rotate_left
             ·go_simp
              rfl
             refine hK.out _ _ ?_; clear hK K; refine dn_ ?_; try go_wp2
             go_roundg k2
             case measure => have := HJ2.out; have := HK2.out; omega
             case rel => exact ⟨(wrap64 (aC + 1)), (iP), (.slice nM iP.length nN), u7_0, H', ⟨by have := HJ2.out; have := HK2.out; omega⟩, ⟨xrm iF (fun _ _ => trivial)⟩, ⟨xB⟩, ⟨xB⟩, ⟨xP⟩, ⟨xbg⟩⟩
            ·rw [if_neg lC] at H; exact absurd H (by simp)
           ·rw [if_neg iX] at H; exact absurd H (by simp)
          ·rw [if_neg jR] at H; exact absurd H (by simp)
         ·rw [if_neg iW] at H; exact absurd H (by simp)
       ·rw [if_neg kU] at H; exact absurd H (by simp)
      ·rw [if_neg iU] at H; have jG : decide (aC < (aA.length : Int)) = false := decide_eq_false iU; clear iU; simp only [Option.some.injEq, Prod.mk.injEq] at H; obtain ⟨rfl, rfl⟩ := H; have jW := bE.out; have jX := bG.out; have jY := bI.out; have jZ := bJ.out; obtain ⟨lO, lP, lQ, lR⟩ := xf2 (w := wr) aI; have qJ := cA.out; have qK := bZ.out; obtain ⟨lS, lT, lU, lV⟩ := xf2 (w := wr) aK; obtain ⟨lW, lX, lY, lZ⟩ := xf2 (w := wr) aN; obtain ⟨iQ, iR, fW⟩ := Kd.R_slice aD.out; subst fW; go_wp2; refine bodyPost_ret (results_cell_row rfl _ _ cT 26 #[.int .i64 aH, .slice iQ aU.length iR] (0, 0) _ rfl xP Try.underlying26 rfl (by kernel_rfl)) rfl ?_; exact ⟨_, xerr, xrm aD (fun _ _ => trivial), xbg⟩

/-! ### spec_l1PickInt: function 153 -/
def spec_l1PickInt.f (s0_0 : List Int) (s0_1 : Int) (s0_2 : Int) (l1 : List Int) : Option (Int × Int × Int) := (spec_l1Below.f s0_0 s0_1 s0_2 (l1.length : Int)).bind fun bX => (if 0 ≤ bX.1 then (if bX.1 < (l1.length : Int) then (some (rd l1 bX.1, bX.2.1, bX.2.2)) else (none)) else (none))
set_option maxHeartbeats 8000000 in
set_option maxRecDepth 100000 in
theorem spec_l1PickInt.calls (g : Nat) (s0_0 : List Int) (s0_1 : Int) (s0_2 : Int) (A1 : Option Addr) (c1 : Nat) (l1 : List Int) (r1 : Int) (r2 : Int) (r3 : Int) (w0 w : World) (hI : IsS157 w0 w g s0_0 s0_1 s0_2) (hB : Below w0.heap.size w0 w) (jD : Kd.C (Kd.int .i64) w A1 l1.length l1) (jE : l1.length ≤ c1) (nO : ∀ ad, A1 = some ad → 0 < l1.length → ad.block ≠ g) (h : spec_l1PickInt.f s0_0 s0_1 s0_2 l1 = some (r1, r2, r3)) :
 Calls Try.prog 153 #[.pointer (some ⟨g, 0, none⟩), .slice A1 l1.length c1] w fun e w' => e = .returned (.int .i64 r1) ∧ IsS157 w0 w' g s0_0 r2 r3 ∧ Below w0.heap.size w0 w' ∧ KeepBut w w' g none := by
 have nG := aM jD
 have sS := aM jE
 clear jD jE
 have HI0 := aM hI
 have HK := aM (KeepBut.refl w g none)
 have HL := aM hB.size
 clear hI
 have HW0 := aM hB.size
 have HB := aM hB
 clear hB
 have H : ((spec_l1Below.f s0_0 s0_1 s0_2 (l1.length : Int)).bind fun bX => (if 0 ≤ bX.1 then (if bX.1 < (l1.length : Int) then (some (rd l1 bX.1, bX.2.1, bX.2.2)) else (none)) else (none))) = some (r1, r2, r3) := h
 clear h
 replace H := oB H
 obtain ⟨⟨dS, nP, nQ⟩, mA, H⟩ := H
 (try dsimp only at H)
 have A3 := aM mA
 clear mA
 by_cases c4 : 0 ≤ dS
 ·rw [if_pos c4] at H; have tH : decide (0 ≤ dS) = true := decide_eq_true c4; clear c4; by_cases c5 : dS < (l1.length : Int)
  ·rw [if_pos c5] at H; have tI : decide (dS < (l1.length : Int)) = true := decide_eq_true c5; clear c5; simp only [Option.some.injEq, Prod.mk.injEq] at H; obtain ⟨rfl, rfl, rfl⟩ := H; go_enter Try.func153, Try.ntmps153
   go_wp2_with (first | ((with_reducible refine gC 108 rfl ?_); refine goesLY (some 9) rfl Try.func108 #[.pointer (some ⟨g, 0, none⟩), .int .i64 (l1.length : Int)] ?_; (with_reducible refine (spec_l1Below.calls g s0_0 s0_1 s0_2 (l1.length : Int) dS nP nQ w0 _ ?side1 ?side2 A3.out).mono ?_); (case side1 => exact IsS157.s); (case side2 => exact IsS157.B); rintro e w6 ⟨rfl, hi, hb, hk⟩; refine ⟨_, rfl, ?_⟩; replace HK := xhk HK hk; replace HB := aM (hb); replace HI0 := aM (hi); (try clear hb hk hi); have p393 : 0 ≤ (dS : Int) := oda; have q393 : dS < (l1.length : Int) := oda; obtain ⟨kA, nR, eF⟩ := Kd.at_int nG.out dS p393 q393; cases nR; replace eF := keep_cell HK.out eF (by first | (rw [add_block]; exact nO _ rfl (by omega)) | exact nO _ rfl (by omega) | exact nO kA rfl (by omega)); replace p393 := eq_true p393; replace q393 := eq_true q393))
   go_ret
   exact ⟨xerr, IsS157.s, IsS157.B, xK⟩
  ·rw [if_neg c5] at H; exact absurd H (by simp)
 ·rw [if_neg c4] at H; exact absurd H (by simp)

/-! ### spec_DiskMove: function 197 -/
mutual
def spec_DiskMove.j0 : Nat → Int → Int → Bool → Int → List (S95) → Option (Int × (List (S95)) × Int)
 | 0, _, _, _, _, _ => none
 | k + 1, x1, x2, tJ, bV, bA => if tJ = true then (some (0, ([] : List (S95)), 1)) else ((spec_l3Find.f k bV bA x1).bind fun aV => (if aV < 0 then ((spec_l3Copy.f bV bA).bind fun iG => (some (iG.1, iG.2, 2))) else (if 0 ≤ aV then (if aV < (bA.length : Int) then (spec_DiskMove.l0 k aV 0 bV bA x2 ((rd_T95 bA aV).f1) ((rd_T95 bA aV).f2) bV ([] : List (S95))) else (none)) else (none))))
def spec_DiskMove.l0 : Nat → Int → Int → Int → List (S95) → Int → ByteArray → ByteArray → Int → List (S95) → Option (Int × (List (S95)) × Int)
 | 0, _, _, _, _, _, _, _, _, _ => none
 | k + 1, x8, iH, bV, bA, dI, dJ, dK, dL, cV => if iH < (bA.length : Int) then (if iH = x8 then (spec_DiskMove.l0 k x8 (wrap64 (iH + 1)) bV bA dI dJ dK dL cV) else (if 0 ≤ iH then (if cV.length < 3518437208883 then (spec_DiskMove.l0 k x8 (wrap64 (iH + 1)) bV bA dI dJ dK dL (cV ++ [(⟨(rd_T95 bA iH).f0, (rd_T95 bA iH).f1, (rd_T95 bA iH).f2⟩ : S95)])) else (none)) else (none))) else ((spec_l3Put.f k dL cV dI dJ dK).bind fun iI => (some (iI.1, iI.2, 0)))
end
def spec_DiskMove.f (k : Nat) (aH : Int) (aA : List (S95)) (a1 : Int) (a2 : Int) : Option (Int × (List (S95)) × Int) := (spec_DiskOk.f k aH aA).bind fun fG => (if fG = true then ((spec_l3Name.f a1).bind fun fH => (if fH = true then ((spec_l3Name.f a2).bind fun fI => (if fI = true then (spec_DiskMove.j0 k a1 a2 (a1 == a2) aH aA) else (spec_DiskMove.j0 k a1 a2 true aH aA))) else (spec_DiskMove.j0 k a1 a2 true aH aA))) else (spec_DiskMove.j0 k a1 a2 true aH aA))
theorem u7_mq1 {p : Prop} (h : p := by repeat' first | (with_reducible first | exact jB _ _ _ _ _ | exact jC _ _ _ _ _ _ _ _ _ | exact spec_DiskOk.mono _ _ _ | exact spec_l3Find.mono _ _ _ _ | exact spec_l3Put.mono _ _ _ _ _ _ | exact LeO.refl _ | exact LeO.none _ | refine LeO.ite ?_ ?_ | refine LeO.bind ?_ (fun _ => ?_)) | exact LeO.none _ | refine LeO.ite ?_ ?_ | refine LeO.bind ?_ (fun _ => ?_)) : p := h
set_option maxRecDepth 100000 in
theorem spec_DiskMove.mono_l : ∀ k, (∀ y0 y1 y2 y3 y4, LeO (spec_DiskMove.j0 k y0 y1 y2 y3 y4) (spec_DiskMove.j0 (k + 1) y0 y1 y2 y3 y4)) ∧ (∀ y0 y1 y2 y3 y4 y5 y6 y7 y8, LeO (spec_DiskMove.l0 k y0 y1 y2 y3 y4 y5 y6 y7 y8) (spec_DiskMove.l0 (k + 1) y0 y1 y2 y3 y4 y5 y6 y7 y8))
 | 0 => ⟨fun _ _ _ _ _ r h => by simp [spec_DiskMove.j0] at h, fun _ _ _ _ _ _ _ _ _ r h => by simp [spec_DiskMove.l0] at h⟩
 | k + 1 => by
  obtain ⟨jB, jC⟩ := spec_DiskMove.mono_l k; refine ⟨?_, ?_⟩
  ·intro y0 y1 y2 y3 y4; unfold spec_DiskMove.j0; exact u7_mq1
  ·intro y0 y1 y2 y3 y4 y5 y6 y7 y8; unfold spec_DiskMove.l0; exact u7_mq1
theorem spec_DiskMove.mono : ∀ a0 a1 a2 a3 k, LeO (spec_DiskMove.f k a0 a1 a2 a3) (spec_DiskMove.f (k + 1) a0 a1 a2 a3) := by
 intro a0 a1 a2 a3 k
 obtain ⟨jB, jC⟩ := spec_DiskMove.mono_l k
 unfold spec_DiskMove.f
 exact u7_mq1
def spec_DiskMove.T13 : Bool × List (List Nat × List Nat) := (true, [([], []), ([0], [0]), ([], []), ([2], [2]), ([], []), ([3, 4], [3, 4]), ([5], [5]), ([6], [6]), ([1, 7], [1, 7]), ([0, 1, 2, 3, 4, 5, 6, 7, 8], []), ([9, 8, 8, 0, 1, 2, 3, 4, 5, 6, 7, 8], [8, 9])])
def spec_DiskMove.B13 : List Nat := [0, 1, 0, 4, 0, 28, 60, 124, 255, 511, 1023]
theorem spec_DiskMove.tab13 : rtab .any (opsOf Try.f197 13) = spec_DiskMove.T13 := by kernel_rfl
theorem spec_DiskMove.bits13 : waitsOk spec_DiskMove.T13.2 spec_DiskMove.B13 = true := by kernel_rfl
set_option maxHeartbeats 8000000 in
set_option maxRecDepth 100000 in
theorem spec_DiskMove.calls (k : Nat) (aH : Int) (bU : Option Addr) (bH : Nat) (aA : List (S95)) (a1 : Int) (a2 : Int) (r1 : Int) (r2 : List (S95)) (r3 : Int) (w : World) (dP : Kd.C k95 w bU aA.length aA) (dQ : aA.length ≤ bH) (h : spec_DiskMove.f k aH aA a1 a2 = some (r1, r2, r3)) :
 Calls Try.prog 197 #[.agg #[.int .i64 aH, .slice bU aA.length bH], .int .i64 a1, .int .i64 a2] w fun e w' => ∃ v1_ : Value, e = .returned (.tuple #[.agg #[.int .i64 r1, v1_], .int .i64 r3]) ∧ Kd.R k95 95 w' w.heap.size (fun _ => True) v1_ r2 ∧ Below w.heap.size w w' := by
 have nE := Try.underlying26
 have nF := Try.underlying95
 have bK := aM dP
 have cD := aM dQ
 clear dP dQ
 have HB := aM (Below.refl w.heap.size w)
 have H : ((spec_DiskOk.f k aH aA).bind fun fG => (if fG = true then ((spec_l3Name.f a1).bind fun fH => (if fH = true then ((spec_l3Name.f a2).bind fun fI => (if fI = true then (spec_DiskMove.j0 k a1 a2 (a1 == a2) aH aA) else (spec_DiskMove.j0 k a1 a2 true aH aA))) else (spec_DiskMove.j0 k a1 a2 true aH aA))) else (spec_DiskMove.j0 k a1 a2 true aH aA))) = some (r1, r2, r3) := h
 clear h
 have nS := aM H
 clear H
 go_enter Try.func197, Try.ntmps197
 go_upto_region 1 with (first | ((with_reducible refine gD 3 rfl ?_); refine boxE (N := 3) rfl (cs := #[.int .i64 aH, .slice bU aA.length bH]) (t := 26) ?_; intro dU hg w5 hbox hb; have aG := aM (hbox); have qL := aM (xge hg); have qM := aM (xge hg); replace HB := xbs hb; clear hb hbox hg) | ((with_reducible refine gD 6 rfl ?_); refine boxE (N := 6) rfl (cs := #[.int .i64 0, .slice none 0 0]) (t := 26) ?_; intro dD hg w6 hbox hb; have qN := aM (xge hg); have qO := aM (xge hg); replace HB := xbs hb; have aY := nblt aG hg; have aZ := nbgt aG hg; replace aG := xbb aG hb; have aR := aM (hbox); clear hb hbox hg))
 (try simp only [Act.put, List.setIfInBounds_toArray, List.set_cons_zero, List.set_cons_succ])
 go_cut [29] (fun tL wc => ∃ (kq : Nat) (eG : Bool), tL = .bool eG ∧ Aside0 (spec_DiskMove.j0 kq a1 a2 eG aH aA = some (r1, r2, r3)) ∧ Aside0 (kq ≤ k) ∧ Aside0 (wc.heap[dU]? = some (.cells #[.int .i64 aH, (.slice bU aA.length bH)] 26 (0, 0))) ∧ Aside0 (wc.heap[dD]? = some (.cells #[.int .i64 0, (.slice none 0 0)] 26 (0, 0))) ∧ Aside0 (Below w.heap.size w wc))
 case first =>
  have H := nS.out; clear nS; replace H := oB H; obtain ⟨fG, qP, H⟩ := H; (try dsimp only at H); have A7 := aM qP; clear qP
  by_cases c8 : fG = true
  ·subst c8; replace H := iT H; replace H := oB H; obtain ⟨fH, qQ, H⟩ := H; (try dsimp only at H); have A9 := aM qQ; clear qQ
   by_cases c10 : fH = true
   ·subst c10; replace H := iT H; replace H := oB H; obtain ⟨fI, kB, H⟩ := H; (try dsimp only at H); have qR := aM kB; clear kB
    by_cases iY : fI = true
    ·subst iY; replace H := iT H; have H' := aM H; clear H; have qS := aY.out; have qT := aZ.out; obtain ⟨eH, eI, eJ, eK⟩ := xf2 (w := w6) aG; go_wp2_with (first | ((with_reducible refine gC 132 rfl ?_); refine goesLY (some 13) rfl Try.func132 #[.agg #[.int .i64 aH, .slice bU aA.length bH]] ?_; (with_reducible refine (spec_DiskOk.calls k aH _ _ aA true _ ?side1 ?side2 A7.out).mono ?_); (case side1 => exact xcb bK); (case side2 => exact cD.out); rintro e uF ⟨rfl, hb⟩; refine ⟨_, rfl, ?_⟩; replace aG := xbb aG hb; replace aR := xbb aR hb; replace HB := xbs hb; (try clear hb)) | (go_at_call 133; (with_reducible refine (spec_l3Name.calls a1 true _ A9.out).mono ?_); rintro e w' ⟨rfl, ⟨nd, rfl⟩⟩) | (go_at_call 133; (with_reducible refine (spec_l3Name.calls a2 true _ qR.out).mono ?_); rintro e w' ⟨rfl, ⟨nd, rfl⟩⟩))
     go_meet
     case rel => exact ⟨_, ((a1 == a2)), u7_0, H', ⟨u7_1⟩, ⟨xblk⟩, ⟨xblk⟩, ⟨xbg⟩⟩
    ·replace iY := Bool.eq_false_iff.mpr iY; subst iY; replace H := iN H; have H' := aM H; clear H; have qU := aY.out; have qV := aZ.out; obtain ⟨eL, eM, eN, eO⟩ := xf2 (w := w6) aG; go_wp2_with (first | ((with_reducible refine gC 132 rfl ?_); refine goesLY (some 13) rfl Try.func132 #[.agg #[.int .i64 aH, .slice bU aA.length bH]] ?_; (with_reducible refine (spec_DiskOk.calls k aH _ _ aA true _ ?side1 ?side2 A7.out).mono ?_); (case side1 => exact xcb bK); (case side2 => exact cD.out); rintro e uG ⟨rfl, hb⟩; refine ⟨_, rfl, ?_⟩; replace aG := xbb aG hb; replace aR := xbb aR hb; replace HB := xbs hb; (try clear hb)) | (go_at_call 133; (with_reducible refine (spec_l3Name.calls a1 true _ A9.out).mono ?_); rintro e w' ⟨rfl, ⟨nd, rfl⟩⟩) | (go_at_call 133; (with_reducible refine (spec_l3Name.calls a2 false _ qR.out).mono ?_); rintro e w' ⟨rfl, ⟨nd, rfl⟩⟩))
     go_meet
     case rel => exact ⟨_, (true), u7_0, H', ⟨u7_1⟩, ⟨xblk⟩, ⟨xblk⟩, ⟨xbg⟩⟩
   ·replace c10 := Bool.eq_false_iff.mpr c10; subst c10; replace H := iN H; have H' := aM H; clear H; have qW := aY.out; have qX := aZ.out; obtain ⟨eP, eQ, eR, eS⟩ := xf2 (w := w6) aG; go_wp2_with (first | ((with_reducible refine gC 132 rfl ?_); refine goesLY (some 13) rfl Try.func132 #[.agg #[.int .i64 aH, .slice bU aA.length bH]] ?_; (with_reducible refine (spec_DiskOk.calls k aH _ _ aA true _ ?side1 ?side2 A7.out).mono ?_); (case side1 => exact xcb bK); (case side2 => exact cD.out); rintro e uH ⟨rfl, hb⟩; refine ⟨_, rfl, ?_⟩; replace aG := xbb aG hb; replace aR := xbb aR hb; replace HB := xbs hb; (try clear hb)) | (go_at_call 133; (with_reducible refine (spec_l3Name.calls a1 false _ A9.out).mono ?_); rintro e w' ⟨rfl, ⟨nd, rfl⟩⟩))
    go_meet
    case rel => exact ⟨_, (true), u7_0, H', ⟨u7_1⟩, ⟨xblk⟩, ⟨xblk⟩, ⟨xbg⟩⟩
  ·replace c8 := Bool.eq_false_iff.mpr c8; subst c8; replace H := iN H; have H' := aM H; clear H; have qY := aY.out; have qZ := aZ.out; obtain ⟨eT, eU, eV, eW⟩ := xf2 (w := w6) aG; go_wp2_with (first | ((with_reducible refine gC 132 rfl ?_); refine goesLY (some 13) rfl Try.func132 #[.agg #[.int .i64 aH, .slice bU aA.length bH]] ?_; (with_reducible refine (spec_DiskOk.calls k aH _ _ aA false _ ?side1 ?side2 A7.out).mono ?_); (case side1 => exact xcb bK); (case side2 => exact cD.out); rintro e uI ⟨rfl, hb⟩; refine ⟨_, rfl, ?_⟩; replace aG := xbb aG hb; replace aR := xbb aR hb; replace HB := xbs hb; (try clear hb)))
   go_meet
   case rel => exact ⟨_, (true), u7_0, H', ⟨u7_1⟩, ⟨xblk⟩, ⟨xblk⟩, ⟨xbg⟩⟩
 case rest =>
  clear nS; try clear c1
  try clear c2
  try clear p2
  try clear c8
  try clear c10
  try clear iY
  try clear nI
  try clear oZ
  try clear tM
  try clear tN
  try clear eH eI
  try clear eL eM
  try clear eP eQ
  try clear eT eU
  try clear eJ eK
  try clear eN eO
  try clear eR eS
  try clear eV eW
  obtain ⟨kq, eG, rfl, HA, HJ3, aG, aR, HB⟩ := hcut; cases kq with
  | zero => exact absurd HA.out (by simp [spec_DiskMove.j0])
  | succ mB =>
   have H := HA.out; clear HA; simp only [spec_DiskMove.j0] at H; by_cases eY : eG = true
   ·subst eY; replace H := iT H; simp only [Option.some.injEq, Prod.mk.injEq] at H; obtain ⟨rfl, rfl, rfl⟩ := H; have rA := aZ.out; have rB := aY.out; obtain ⟨fX, fY, fZ, gA⟩ := xf2 (w := wc) aR; go_wp2; refine bodyPost_ret (results_ct rfl _ _ dD 26 #[.int .i64 0, .slice none 0 0] (0, 0) _ rfl xP Try.underlying26 rfl (by kernel_rfl)) rfl ?_; exact ⟨_, xerr, u7_2, xbg⟩
   ·replace eY := Bool.eq_false_iff.mpr eY; subst eY; replace H := iN H; replace H := oB H; obtain ⟨aV, kC, H⟩ := H; (try dsimp only at H); have rC := aM kC; clear kC
    by_cases eX : aV < 0
    ·rw [if_pos eX] at H; have fF : decide (aV < 0) = true := decide_eq_true eX; clear eX; replace H := oB H; obtain ⟨⟨kE, kF⟩, kG, H⟩ := H; (try dsimp only at H); have mA := aM kG; clear kG
     simp only [Option.some.injEq, Prod.mk.injEq] at H; obtain ⟨rfl, rfl, rfl⟩ := H; have rE := aY.out; have rF := aZ.out; obtain ⟨gB, gE, gF, gG⟩ := xf2 (w := wc) aG; go_wp2_with (first | ((with_reducible refine gC 134 rfl ?_); refine goesLY (some 33) rfl Try.func134 #[.agg #[.int .i64 aH, .slice bU aA.length bH], .int .i64 a1] ?_; (with_reducible refine (spec_l3Find.calls mB aH _ _ aA a1 aV _ ?side1 ?side2 rC.out).mono ?_); (case side1 => exact xcb bK); (case side2 => exact cD.out); rintro e tO ⟨rfl, hb⟩; refine ⟨_, rfl, ?_⟩; replace aG := xbb aG hb; replace aR := xbb aR hb; replace HB := xbs hb; (try clear hb); obtain ⟨eB, eC, eD, eE⟩ := xf2 (w := tO) aG) | ((with_reducible refine gC 135 rfl ?_); refine goesLY (some 37) rfl Try.func135 #[.agg #[.int .i64 aH, .slice bU aA.length bH]] ?_; (with_reducible refine (spec_l3Copy.calls aH _ _ aA kE kF _ ?side1 ?side2 mA.out).mono ?_); (case side1 => exact xcb bK); (case side2 => exact cD.out); rintro e fJ ⟨tP, rfl, iZ, hb⟩; refine ⟨_, rfl, ?_⟩; have iJ := aM (Kd.R_lower iZ (below_size xbg)); replace aG := xbb aG hb; replace aR := xbb aR hb; replace HB := xbs hb; (try clear hb iZ); obtain ⟨gH, gI, gJ, gK⟩ := xf2 (w := fJ) aR; obtain ⟨nT, nU, nV⟩ := Kd.R_slice iJ.out; subst nV))
     refine bodyPost_ret (results_ct rfl _ _ dD 26 #[.int .i64 kE, .slice nT kF.length nU] (0, 0) _ rfl xP Try.underlying26 rfl (by kernel_rfl)) rfl ?_; exact ⟨_, xerr, xrm iJ (fun _ _ => trivial), xbg⟩
    ·rw [if_neg eX] at H; have fF : decide (aV < 0) = false := decide_eq_false eX; clear eX; by_cases kH : 0 ≤ aV
     ·rw [if_pos kH] at H; have kI : decide (0 ≤ aV) = true := decide_eq_true kH; clear kH; by_cases kJ : aV < (aA.length : Int)
      ·rw [if_pos kJ] at H; have kK : decide (aV < (aA.length : Int)) = true := decide_eq_true kJ; clear kJ; have H' := aM H; clear H; have rG := aY.out; have rH := aZ.out; obtain ⟨gL, gM, gN, gO⟩ := xf2 (w := wc) aG; go_wp2_with (first | ((with_reducible refine gC 134 rfl ?_); refine goesLY (some 33) rfl Try.func134 #[.agg #[.int .i64 aH, .slice bU aA.length bH], .int .i64 a1] ?_; (with_reducible refine (spec_l3Find.calls mB aH _ _ aA a1 aV _ ?side1 ?side2 rC.out).mono ?_); (case side1 => exact xcb bK); (case side2 => exact cD.out); rintro e pR ⟨rfl, hb⟩; refine ⟨_, rfl, ?_⟩; replace aG := xbb aG hb; replace aR := xbb aR hb; replace HB := xbs hb; (try clear hb); obtain ⟨gP, gQ, gR, gS⟩ := xf2 (w := pR) aG; have p404 : 0 ≤ (aV : Int) := oda; have q404 : aV < (aA.length : Int) := oda; obtain ⟨cJ, nW, dM, dN, dO⟩ := at_T95 bK.out aV p404 q404; cases nW; replace dM := xce HB dM; replace dN := xce HB dN; replace dO := xce HB dO; replace p404 := eq_true p404; replace q404 := eq_true q404) | ((with_reducible refine gD 9 rfl ?_); refine boxE (N := 9) rfl (cs := #[.int .i64 0, .string (⟨#[]⟩ : ByteArray), .string (⟨#[]⟩ : ByteArray)]) (t := 95) ?_; intro bY hg rI hbox hb; have rJ := aM (xge hg); have rK := aM (xge hg); replace HB := xbs hb; have cB := nblt aG hg; have cC := nbgt aG hg; have dE := nblt aR hg; have dF := nbgt aR hg; replace aG := xbb aG hb; replace aR := xbb aR hb; have bL := aM (hbox); clear hb hbox hg; have rL := cC.out; have rM := cB.out; have rN := dF.out; have rO := dE.out; obtain ⟨gT, gU, gV, gW, gX, gY⟩ := xf3 (w := rI) bL) | ((with_reducible refine gate_store (t := 3) (p := 44) rfl ?_); refine store_event (t := 3) (p := 44) (v := ?vo_w48) (w1 := ((((rI.setCell ⟨bY, 0, none⟩ (.int .i64 ((rd_T95 aA aV).f0))).setCell ⟨bY, 1, none⟩ (.string ((rd_T95 aA aV).f1))).setCell ⟨bY, 2, none⟩ (.string ((rd_T95 aA aV).f2))).setCell ⟨bY, 0, none⟩ (.int .i64 a2))) ?hg ?ho ?hn ?hr ?_; (case ho | hg | hn => rfl); (case hr => first | (go_simp; done) | (go_simp; rfl)); intro rP hw; replace aG := xwc hw aG; replace aR := xwc hw aR; replace bL : Aside0 (rP.heap[bY]? = some (.cells #[.int .i64 a2, .string ((rd_T95 aA aV).f1), .string ((rd_T95 aA aV).f2)] 95 (0, 0))) := xwp hw; replace HB := xbw hw HB; clear hw; obtain ⟨gZ, hJ, hU, hX⟩ := xf2 (w := rP) aG) | ((with_reducible refine gD 10 rfl ?_); refine boxE (N := 10) rfl (cs := #[.int .i64 0, .slice none 0 0]) (t := 26) ?_; intro dV hg tQ hbox hb; have rQ := aM (xge hg); have rR := aM (xge hg); replace HB := xbs hb; have bP := nblt aG hg; have bQ := nbgt aG hg; have cO := nblt aR hg; have cP := nbgt aR hg; have cQ := nblt bL hg; have cS := nbgt bL hg; replace aG := xbb aG hb; replace aR := xbb aR hb; replace bL := xbb bL hb; have bC := aM (hbox); clear hb hbox hg; have jT := bQ.out; have jU := bP.out; have rS := cP.out; have rT := cO.out; have rU := cS.out; have rV := cQ.out; obtain ⟨hZ, iA, iB, iC⟩ := xf2 (w := tQ) bC))
       go_loopg [11] mB (fun kq tR w' => ∃ (aT : Int) (bB : List (S95)) (bM : Value), tR = .int .i64 aT ∧ Aside0 (spec_DiskMove.l0 kq aV aT aH aA a2 ((rd_T95 aA aV).f1) ((rd_T95 aA aV).f2) aH bB = some (r1, r2, r3)) ∧ Aside0 (kq ≤ mB) ∧ Aside0 (Kd.R k95 95 w' w.heap.size (fun k_ => k_ ≠ bY) bM bB) ∧ Aside0 (w'.heap[dU]? = some (.cells #[.int .i64 aH, (.slice (some cJ) aA.length bH)] 26 (0, 0))) ∧ Aside0 (w'.heap[dD]? = some (.cells #[.int .i64 0, (.slice none 0 0)] 26 (0, 0))) ∧ Aside0 (w'.heap[bY]? = some (.cells #[.int .i64 a2, .string ((rd_T95 aA aV).f1), .string ((rd_T95 aA aV).f2)] 95 (0, 0))) ∧ Aside0 (w'.heap[dV]? = some (.cells #[.int .i64 aH, bM] 26 (0, 0))) ∧ Aside0 (Below w.heap.size w w'))
       case atStart => exact ⟨(0), (([] : List (S95))), (.slice none 0 0), u7_0, H', ⟨Nat.le_refl _⟩, ⟨u7_2⟩, ⟨xB⟩, ⟨xB⟩, ⟨xB⟩, ⟨xP⟩, ⟨xbg⟩⟩
       case round =>
        clear H'; try clear c1
        try clear c2
        try clear p2
        try clear c3
        try clear c4
        try clear p4
        try clear q4
        try clear uJ
        try clear c5
        try clear c8
        try clear c10
        try clear iY
        try clear nI
        try clear oZ
        try clear tM
        try clear tN
        try clear eY
        try clear uK
        try clear eX
        try clear fF
        try clear jL
        try clear kH
        try clear kI
        try clear kJ
        try clear kK
        try clear uL
        try clear p40
        try clear q40
        try clear tS
        try clear uM
        try clear iW
        try clear uN
        try clear uO
        try clear uP
        try clear eH eI
        try clear eL eM
        try clear eP eQ
        try clear eT eU
        try clear fX fY
        try clear gB gE
        try clear eB eC
        try clear gH gI
        try clear gL gM
        try clear gP gQ
        try clear gT gU gV
        try clear gZ hJ
        try clear hZ iA
        try clear eJ eK
        try clear eN eO
        try clear eR eS
        try clear eV eW
        try clear fZ gA
        try clear gF gG
        try clear eD eE
        try clear gJ gK
        try clear gN gO
        try clear gR gS
        try clear gW gX gY
        try clear hU hX
        try clear iB iC
        try clear dM
        try clear dN
        try clear dO
        try clear p2
        try clear p404
        try clear q404
        obtain ⟨aT, bB, bM, rfl, HA, HK2, aQ, aG, aR, bL, bC, HB⟩ := hrel; cases gk with
        | zero => exact absurd HA.out (by simp [spec_DiskMove.l0])
        | succ k2 =>
         have H := HA.out; clear HA; simp only [spec_DiskMove.l0] at H; by_cases jA : aT < (aA.length : Int)
         ·rw [if_pos jA] at H; have kL : decide (aT < (aA.length : Int)) = true := decide_eq_true jA; clear jA; by_cases kM : aT = aV
          ·rw [if_pos kM] at H; obtain ⟨kN, kO⟩ := bT kM; clear kM; have H' := aM H; clear H; have rW := aY.out; have rX := aZ.out; have rY := cB.out; have rZ := cC.out; have sA := bP.out; have sB := bQ.out; obtain ⟨mC, mD, mE, mF⟩ := xf2 (w := wr) aG; go_wp2; go_roundg k2
           case measure => have := HJ3.out; have := HK2.out; omega
           case rel => exact ⟨(wrap64 (aT + 1)), (bB), (bM), u7_0, H', ⟨by have := HJ3.out; have := HK2.out; omega⟩, ⟨by (with_reducible repeat (first | apply Kd.R_alloc | apply Kd.R_drewN | apply Kd.R_drew)); exact aQ.out⟩, ⟨xblk⟩, ⟨xblk⟩, ⟨xblk⟩, ⟨xblk⟩, ⟨xbg⟩⟩
          ·rw [if_neg kM] at H; obtain ⟨kN, kO⟩ := bF kM; by_cases mG : 0 ≤ aT
           ·rw [if_pos mG] at H; have sC : decide (0 ≤ aT) = true := decide_eq_true mG; clear mG; by_cases mH : bB.length < 3518437208883
            ·rw [if_pos mH] at H; have LMc62 := aM mH; clear mH; obtain ⟨iS, hY⟩ : ∃ y_ : List (S95), y_ = (bB ++ [(⟨(rd_T95 aA aT).f0, (rd_T95 aA aT).f1, (rd_T95 aA aT).f2⟩ : S95)]) := ⟨_, rfl⟩; replace H : (spec_DiskMove.l0 k2 aV (wrap64 (aT + 1)) aH aA a2 ((rd_T95 aA aV).f1) ((rd_T95 aA aV).f2) aH iS) = some (r1, r2, r3) := u7_3; have kP := aM hY; clear hY; have H' := aM H; clear H; have jW := aY.out; have jX := aZ.out; have jY := cB.out; have jZ := cC.out; have sD := bP.out; have sE := bQ.out; obtain ⟨mI, mJ, mK, mL⟩ := xf2 (w := wr) aG; try go_wp2
             replace aQ := rD aQ; replace aG := bD aG; replace aR := bD aR; replace bL := bD bL; replace bC := bD bC; replace HB := lD HB; have p407 : 0 ≤ (aT : Int) := oda; have q407 : aT < (aA.length : Int) := oda; obtain ⟨kQ, nX, cW, cX, cY⟩ := at_T95 bK.out aT p407 q407; have cZ := cY; have dA := cX; have dB := cW; obtain rfl : cJ = kQ := (by injection nX); replace cW := xce HB cW; replace cX := xce HB cX; replace cY := xce HB cY; replace p407 := eq_true p407; replace q407 := eq_true q407; refine start_ (n := 11) (S := fun w' => w'.cell? ⟨dV, 0, none⟩ = some (.int .i64 aH) ∧ w'.cell? ⟨dV, 1, none⟩ = some (bM) ∧ w'.cell? ⟨dU, 0, none⟩ = some (.int .i64 aH) ∧ w'.cell? ⟨dU, 1, none⟩ = some (.slice (some cJ) aA.length bH) ∧ w'.cell? (cJ.add ((aT).toNat * 3)) = some (.int .i64 ((rd_T95 aA aT).f0)) ∧ w'.cell? ⟨(cJ.add ((aT).toNat * 3)).block, (cJ.add ((aT).toNat * 3)).off + 1, none⟩ = some (.string ((rd_T95 aA aT).f1)) ∧ w'.cell? ⟨(cJ.add ((aT).toNat * 3)).block, (cJ.add ((aT).toNat * 3)).off + 2, none⟩ = some (.string ((rd_T95 aA aT).f2))) (ds := [10]) #[false, false, false, false, false, false, false, false, false, false, false] (by kernel_rfl) rfl rfl ⟨xc bC 0 rfl, xc bC 1 rfl, xc aG 0 rfl, xc aG 1 rfl, (xce HB dB), (xce HB dA), (xce HB cZ)⟩ (fun hHeld => ?_); refine with_tabW spec_DiskMove.tab13 spec_DiskMove.bits13 (fun HT_ HW_ => ?_); generalize wr.drew = uQ at aQ aG aR bL bC HB cW cX cY hHeld ⊢; refine pV 0 58 ?_; refine pV 2 60 ?_; refine pV 4 62 ?_; refine tK 1 59 ?_; refine tK 3 61 ?_; refine pV 5 63 ?_; refine tK 6 64 ?_; refine oN 7 65 fun K hK => ?_
             refine value_ (w1 := ?_) (v := ?_) (by rfl) rfl ?_ ?_; rotate_left 2
             ·go_simp
              constructor
              ·rfl
              ·rfl
             refine hK.out _ _ ⟨(blk_cell (blk_alloc bC.out _) 0).trans rfl, (blk_cell (blk_alloc bC.out _) 1).trans rfl, (blk_cell (blk_alloc aG.out _) 0).trans rfl, (blk_cell (blk_alloc aG.out _) 1).trans rfl, (World.cell?_alloc_lt _ _ _ (World.block_lt_of_cell? _ _ ((xce HB dB)))).trans ((xce HB dB)), (World.cell?_alloc_lt _ _ _ (World.block_lt_of_cell? _ _ ((xce HB dA)))).trans ((xce HB dA)), (World.cell?_alloc_lt _ _ _ (World.block_lt_of_cell? _ _ ((xce HB cZ)))).trans ((xce HB cZ))⟩ (fun hHeld => ?_); clear hK K; refine nm_ (N := 65) ?_; refine oN 8 66 fun K hK => ?_
             refine Kd.R_append_step k95 (w0 := w) w.heap.size (by rfl) (.tmp 59) (.tmp 65) 24 95 (.agg #[(.int .i64 0), (.string ⟨#[]⟩), (.string ⟨#[]⟩)]) 40 rfl Try.underlying24 info95 rfl (by decide) (by omega) bM bB (⟨(rd_T95 aA aT).f0, (rd_T95 aA aT).f1, (rd_T95 aA aT).f2⟩ : S95) [.int .i64 ((rd_T95 aA aT).f0), .string ((rd_T95 aA aT).f1), .string ((rd_T95 aA aT).f2)] (fun k_ => k_ ≠ bY) (fun _ => False) rfl rfl ?aP (fun _ hk => hk.elim) ?aF ?aO ?aB ?aS ?aL ?_; (case aP => exact k95_mkM _ _ _ (⟨(rd_T95 aA aT).f0, (rd_T95 aA aT).f1, (rd_T95 aA aT).f2⟩ : S95)); (case aB => exact xbg); (case aF => exact (fun k_ hk => Kd.freshB (g := bY) (o := .cells #[.int .i64 a2, .string ((rd_T95 aA aV).f1), .string ((rd_T95 aA aV).f2)] 95 (0, 0)) xblk k_ hk)); (case aO => exact (xr aQ)); (case aS => exact (below_size xbg)); (case aL => have := LMc62.out; omega); intro tT tU ho hb hg hat; rw [← kP.out] at ho; replace aG := aM (blk_grown (g := dU) (o := .cells #[.int .i64 aH, .slice (some cJ) aA.length bH] 26 (0, 0)) xblk hg (Kd.R_ne aQ.out aG.out (by decide))); replace aR := aM (blk_grown (g := dD) (o := .cells #[.int .i64 0, .slice none 0 0] 26 (0, 0)) xblk hg (Kd.R_ne aQ.out aR.out (by decide))); replace bL := aM (blk_grown (g := bY) (o := .cells #[.int .i64 a2, .string ((rd_T95 aA aV).f1), .string ((rd_T95 aA aV).f2)] 95 (0, 0)) xblk hg (Kd.R_away aQ.out (fun _ hk => hk))); replace bC := aM (blk_grown (g := dV) (o := .cells #[.int .i64 aH, bM] 26 (0, 0)) xblk hg (Kd.R_ne aQ.out bC.out (by decide))); replace HB := aM (hb); have iK := aM (ho); clear aQ ho hb hg hat; obtain ⟨iQ, iR, fW⟩ := Kd.R_slice iK.out; (first | subst fW | (injection fW with f1_ f2_ f3_; have f4_ := f1_.symm; have f5_ := f3_.symm; clear f1_ f2_ f3_; subst f4_; subst f5_)); refine hK.out _ _ ⟨xc bC 0 rfl, xc bC 1 rfl, xc aG 0 rfl, xc aG 1 rfl, (xce HB dB), (xce HB dA), (xce HB cZ)⟩ (fun hHeld => ?_); clear hK K; refine nm_ (N := 66) ?_; refine pV 9 67 ?_; refine last_ (i := 10) (N := none) #[true, true, true, true, true, true, true, true, true, true, true] rfl rfl (one_of HT_.out (by kernel_rfl)) (by decide) (fun K hK => ?_); have hs70 : tU.cell? ⟨dV, 1, none⟩ = some (bM) := xc bC 1 rfl; have hfs70 := blk_frozen bC.out 1; have hns70_0 := bP.out; have hns70_1 := cO.out; have hns70_2 := cQ.out; have hms70_0 := bQ.out; have hms70_1 := cP.out; have hms70_2 := cS.out; refine skip_ (w1 := ?_) (by rfl) rfl ?_ ?_; rotate_left
             ·go_simp
              rfl
             refine hK.out _ _ ?_; clear hK K; refine dn_ ?_; try go_wp2
             go_roundg k2
             case measure => have := HJ3.out; have := HK2.out; omega
             case rel => exact ⟨(wrap64 (aT + 1)), (iS), (.slice iQ iS.length iR), u7_0, H', ⟨by have := HJ3.out; have := HK2.out; omega⟩, ⟨xrs iK⟩, ⟨xB⟩, ⟨xB⟩, ⟨xB⟩, ⟨xP⟩, ⟨xbg⟩⟩
            ·rw [if_neg mH] at H; exact absurd H (by simp)
           ·rw [if_neg mG] at H; exact absurd H (by simp)
         ·rw [if_neg jA] at H; have kL : decide (aT < (aA.length : Int)) = false := decide_eq_false jA; clear jA; replace H := oB H; obtain ⟨⟨kR, kS⟩, kT, H⟩ := H; (try dsimp only at H); have tV := aM kT; clear kT
          simp only [Option.some.injEq, Prod.mk.injEq] at H; obtain ⟨rfl, rfl, rfl⟩ := H; have sF := aY.out; have sG := aZ.out; have sH := cB.out; have sI := cC.out; have sJ := bP.out; have sK := bQ.out; obtain ⟨mM, mN, mO, mP⟩ := xf2 (w := wr) aG; have sL := cP.out; have sM := cO.out; have sN := cS.out; have sO := cQ.out; obtain ⟨mQ, mR, mS, mT⟩ := xf2 (w := wr) bC; have sP := dF.out; have sQ := dE.out; obtain ⟨mU, mV, mW, mX, mY, mZ⟩ := xf3 (w := wr) bL; obtain ⟨nY, nZ, oA⟩ := Kd.R_slice aQ.out; subst oA; go_wp2_with (first | ((with_reducible refine gC 137 rfl ?_); refine goesLY (some 70) rfl Try.func137 #[.agg #[.int .i64 aH, .slice nY bB.length nZ], .agg #[.int .i64 a2, .string ((rd_T95 aA aV).f1), .string ((rd_T95 aA aV).f2)]] ?_; (with_reducible refine (spec_l3Put.calls k2 aH _ _ bB a2 ((rd_T95 aA aV).f1) ((rd_T95 aA aV).f2) kR kS _ ?side1 ?side2 tV.out).mono ?_); (case side1 => exact xC aQ); (case side2 => exact (Kd.R_reads' aQ.out).2.1); rintro e tW ⟨tX, rfl, iZ, hb⟩; refine ⟨_, rfl, ?_⟩; have iL := aM (Kd.R_lower (Kd.R_newB (Kd.R_new' iZ (Kd.R_lt (xr aQ))) (g := bY) (o := .cells #[.int .i64 a2, .string ((rd_T95 aA aV).f1), .string ((rd_T95 aA aV).f2)] 95 (0, 0)) xblk) (below_size xbg)); replace aQ := aM (Kd.R_elder' (xr aQ) (Kd.R_base iZ) hb); replace aG := xbb aG hb; replace aR := xbb aR hb; replace bL := xbb bL hb; replace bC := xbb bC hb; replace HB := xbs hb; (try clear hb iZ); obtain ⟨nA, nB, nC, nD⟩ := xf2 (w := tW) aR; obtain ⟨oC, oD, oE⟩ := Kd.R_slice iL.out; subst oE))
          refine bodyPost_ret (results_ct rfl _ _ dD 26 #[.int .i64 kR, .slice oC kS.length oD] (0, 0) _ rfl xP Try.underlying26 rfl (by kernel_rfl)) rfl ?_; exact ⟨_, xerr, xrm iL (fun _ _ => trivial), xbg⟩
      ·rw [if_neg kJ] at H; exact absurd H (by simp)
     ·rw [if_neg kH] at H; exact absurd H (by simp)

end Go.Proofs.Ytoojdlobnbakoaa.QFnJournal
