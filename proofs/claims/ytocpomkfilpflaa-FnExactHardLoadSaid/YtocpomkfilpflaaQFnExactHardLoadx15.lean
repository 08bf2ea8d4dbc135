-- A walk, by a program of this session.
import Derived.Test.YtocpomkfilpflaaQFnExactHardLoadx0
import Derived.Test.YtocpomkfilpflaaQFnExactHardLoadx12
import Derived.Test.YtocpomkfilpflaaQFnExactHardLoadx13
import Derived.Test.YtocpomkfilpflaaQFnExactHardLoadx14
namespace Go.Proofs.Ytocpomkfilpflaa.QFnExactHardLoad
open Go.RowKit Go.Proofs.YtocpomkfilpflaaW.PrintWords Go.Proofs.YtocpomkfilpflaaW.PrintLast Go.Proofs.YtocpomkfilpflaaW.PrintMore
attribute [local go_sem] max2_int min2_int max_two min_two max_three min_three max_four min_four   -- for this text's walks alone
set_option linter.unusedVariables false
set_option linter.unusedSimpArgs false

theorem u15_0 {p : Prop} (h : p := by first | (go_simp; done) | (go_simp; rfl)) : p := h
theorem u15_1 {p : Prop} (h : p := by first | rfl | (simp; done) | (simp [*]; done)) : p := h
theorem u15_2 {p : Prop} (h : p := by simp only [putAll, Act.put, List.setIfInBounds_toArray, List.set_cons_zero, List.set_cons_succ]) : p := h
theorem u15_3 {p : Prop} (h : p := by (with_reducible repeat (first | apply Kd.R_alloc | apply Kd.R_drewN | apply Kd.R_drew)); exact Kd.R_mono aE.out (fun _ hk => hk.2)) : p := h
theorem u15_4 {p : Prop} (h : p := by (with_reducible repeat (first | apply Kd.R_alloc | apply Kd.R_drewN | apply Kd.R_drew)); exact Kd.R_mono bB.out (fun _ hk => hk.2)) : p := h
theorem u15_5 {p : Prop} (h : p := by first | exact Kd.R_nil _ _ _ _ _ | exact Kd.N_nil _ _ _ _ _ | exact Kd.V_nil _ _ _ _ _ | exact Kd.Q_nil _ _ _ _ _ | exact Kd.S_nil _ _ _ _ _) : p := h
theorem u15_6 {p : Prop} (h : p := by first | (rw [← show ((l0.take ((ji12) : Int).toNat).drop (aC : Int).toNat).length = ((ji12).toNat - aC.toNat) from (by rw [List.length_drop, List.length_take]; have h_ : ((ji12) : Int) ≤ (l0.length : Int) := oda; omega)]; exact xcb eH) | (exact xcb eH)) : p := h
theorem u15_7 {p : Prop} (h : p := by have := LMc11.out; have hlx_ := (show ((l0.take ((ji12) : Int).toNat).drop (aC : Int).toNat).length = ((ji12).toNat - aC.toNat) from (by rw [List.length_drop, List.length_take]; have h_ : ((ji12) : Int) ≤ (l0.length : Int) := oda; omega)); omega) : p := h
theorem u15_8 {p : Prop} (h : p := by first | rfl | (simp [errW_none, errW_some] <;> rfl) | (simp only [← hji12]; first | rfl | (simp [errW_none, errW_some] <;> rfl)) | (simp [*, errW_none, errW_some] <;> rfl)) : p := h
theorem u15_9 {p : Prop} (h : p := by (with_reducible repeat (first | apply Kd.R_alloc | apply Kd.R_drewN | apply Kd.R_drew)); exact bL.out) : p := h
theorem u15_10 {p : Prop} (h : p := by (with_reducible repeat (first | apply Kd.V_alloc | apply Kd.V_drewN | apply Kd.V_drew)); exact cG.out) : p := h
theorem u15_11 {p : Prop} (h : p := by (with_reducible repeat (first | apply Kd.R_alloc | apply Kd.R_drewN | apply Kd.R_drew)); exact cH.out) : p := h
theorem u15_12 {p : Prop} (h : p := by rw [hw]; exact (by (with_reducible repeat (first | apply Kd.R_alloc | apply Kd.R_drewN | apply Kd.R_drew)); exact Kd.R_mono (Kd.R_far (p := ⟨aA, 9, none⟩) (Kd.R_far (p := ⟨aA, 8, none⟩) (Kd.R_far (p := ⟨aA, 7, none⟩) (Kd.R_far (p := ⟨aA, 6, none⟩) (Kd.R_far (p := ⟨aA, 5, none⟩) (Kd.R_far (p := ⟨aA, 4, none⟩) (Kd.R_far (p := ⟨aA, 3, none⟩) (Kd.R_far (p := ⟨aA, 2, none⟩) (Kd.R_far (p := ⟨aA, 1, none⟩) (Kd.R_far (p := ⟨aA, 0, none⟩) (Kd.R_mono aX.out (fun k_ hk => (⟨hk, hk.2⟩ : _ ∧ k_ ≠ aA))) (fun _ hk => hk.2) (.int .i64 bM)) (fun _ hk => hk.2) (.int .i64 bN)) (fun _ hk => hk.2) (.int .i64 bO)) (fun _ hk => hk.2) (.int .i64 bP)) (fun _ hk => hk.2) (.int .i64 bQ)) (fun _ hk => hk.2) (.int .i64 bR)) (fun _ hk => hk.2) (.int .i64 bU)) (fun _ hk => hk.2) (.int .i64 bV)) (fun _ hk => hk.2) (.int .i64 bW)) (fun _ hk => hk.2) (.string bX)) (fun _ hk => hk.1.2))) : p := h
theorem u15_13 {p : Prop} (h : p := by (with_reducible repeat (first | apply Kd.R_alloc | apply Kd.R_drewN | apply Kd.R_drew)); exact Kd.R_mono (Kd.R_far (p := ⟨aA, 9, none⟩) (Kd.R_far (p := ⟨aA, 8, none⟩) (Kd.R_far (p := ⟨aA, 7, none⟩) (Kd.R_far (p := ⟨aA, 6, none⟩) (Kd.R_far (p := ⟨aA, 5, none⟩) (Kd.R_far (p := ⟨aA, 4, none⟩) (Kd.R_far (p := ⟨aA, 3, none⟩) (Kd.R_far (p := ⟨aA, 2, none⟩) (Kd.R_far (p := ⟨aA, 1, none⟩) (Kd.R_far (p := ⟨aA, 0, none⟩) (Kd.R_mono aX.out (fun k_ hk => (⟨hk, hk.2⟩ : _ ∧ k_ ≠ aA))) (fun _ hk => hk.2) (.int .i64 bM)) (fun _ hk => hk.2) (.int .i64 bN)) (fun _ hk => hk.2) (.int .i64 bO)) (fun _ hk => hk.2) (.int .i64 bP)) (fun _ hk => hk.2) (.int .i64 bQ)) (fun _ hk => hk.2) (.int .i64 bR)) (fun _ hk => hk.2) (.int .i64 bU)) (fun _ hk => hk.2) (.int .i64 bV)) (fun _ hk => hk.2) (.int .i64 bW)) (fun _ hk => hk.2) (.string bX)) (fun _ hk => hk.1.2)) : p := h
/-! ### impl_Unseal: function 85 -/
def impl_Unseal.j0 : Nat → List Int → Int → Int → Bool → Option (List Int × Int × Int)
 | 0, _, _, _, _ => none
 | k + 1, x0, x7, x8, sN => if sN = true then (some (([] : List Int), 0, 1)) else (if (wrap64 (x7 + 4)) > (wrap64 ((x0.length : Int) - x8)) then (some (([] : List Int), 0, 2)) else ((some (([] : List Int) : List Int)).bind fun cX => (if 0 ≤ x8 then (if x8 ≤ (wrap64 (x8 + x7)) then (if (wrap64 (x8 + x7)) ≤ (x0.length : Int) then (if cX.length + ((x0.take ((wrap64 (x8 + x7)) : Int).toNat).drop (x8 : Int).toNat).length < 140737488355328 then ((some (cX ++ ((x0.take ((wrap64 (x8 + x7)) : Int).toNat).drop (x8 : Int).toNat) : List Int)).bind fun aW => (if 0 ≤ (wrap64 (x8 + x7)) then (if (wrap64 (x8 + x7)) ≤ (wrap64 ((wrap64 (x8 + x7)) + 4)) then (if (wrap64 ((wrap64 (x8 + x7)) + 4)) ≤ (x0.length : Int) then ((impl_sumBytes.f k aW).bind fun bA => (if (strOfNums ((x0.take ((wrap64 ((wrap64 (x8 + x7)) + 4)) : Int).toNat).drop ((wrap64 (x8 + x7)) : Int).toNat)).toList = (strOfNums bA).toList then (some (aW, wrap64 ((wrap64 (x8 + x7)) + 4), 0)) else (some (([] : List Int), 0, 3)))) else (none)) else (none)) else (none))) else (none)) else (none)) else (none)) else (none))))
def impl_Unseal.f (k : Nat) (l0 : List Int) (a1 : Int) : Option (List Int × Int × Int) := (impl_GetNum.f k l0 a1).bind fun aZ => (if aZ.2.2 = true then (impl_Unseal.j0 k l0 aZ.1 aZ.2.1 (decide (aZ.1 > 3000))) else (impl_Unseal.j0 k l0 aZ.1 aZ.2.1 true))
theorem u15_mq0 {p : Prop} (h : p := by repeat' first | (with_reducible first | exact eI _ _ _ _ | exact impl_GetNum.mono _ _ _ | exact impl_sumBytes.mono _ _ | exact LeO.refl _ | exact LeO.none _ | refine LeO.ite ?_ ?_ | refine LeO.bind ?_ (fun _ => ?_)) | exact eI _ _ _ _ | exact impl_GetNum.mono _ _ _ | exact impl_sumBytes.mono _ _ | exact LeO.none _ | refine LeO.ite ?_ ?_ | refine LeO.bind ?_ (fun _ => ?_)) : p := h
set_option maxRecDepth 100000 in
theorem impl_Unseal.mono_l : ∀ k, (∀ y0 y1 y2 y3, LeO (impl_Unseal.j0 k y0 y1 y2 y3) (impl_Unseal.j0 (k + 1) y0 y1 y2 y3))
 | 0 => fun _ _ _ _ r h => by simp [impl_Unseal.j0] at h
 | k + 1 => by
  have eI := impl_Unseal.mono_l k
  ·intro y0 y1 y2 y3; unfold impl_Unseal.j0; exact u15_mq0
theorem impl_Unseal.mono : ∀ a0 a1 k, LeO (impl_Unseal.f k a0 a1) (impl_Unseal.f (k + 1) a0 a1) := by
 intro a0 a1 k
 have eI := impl_Unseal.mono_l k
 unfold impl_Unseal.f
 exact u15_mq0
def impl_Unseal.T8 : Bool × List (List Nat × List Nat) := (true, [([], []), ([], []), ([], []), ([1, 2], [1, 2]), ([], []), ([0, 3, 4], [0, 3, 4]), ([5], [5]), ([], []), ([7], [7]), ([8], [8]), ([6, 9], [6, 9])])
def impl_Unseal.B8 : List Nat := [0, 0, 0, 6, 0, 31, 63, 0, 128, 384, 1023]
theorem impl_Unseal.tab8 : rtab .any (opsOf Try.f85 8) = impl_Unseal.T8 := by kernel_rfl
theorem impl_Unseal.bits8 : waitsOk impl_Unseal.T8.2 impl_Unseal.B8 = true := by kernel_rfl
set_option maxHeartbeats 8000000 in
set_option maxRecDepth 100000 in
theorem impl_Unseal.calls (k : Nat) (A0 : Option Addr) (c0 : Nat) (l0 : List Int) (a1 : Int) (r1 : List Int) (r2 : Int) (r3 : Int) (w : World) (rN : Kd.C (Kd.int .u8) w A0 l0.length l0) (rO : l0.length ≤ c0) (h : impl_Unseal.f k l0 a1 = some (r1, r2, r3)) :
 Calls Try.prog 85 #[.slice A0 l0.length c0, .int .i64 a1] w fun e w' => ∃ v0_ : Value, e = .returned (.tuple #[v0_, .int .i64 r2, .int .i64 r3]) ∧ Kd.R (Kd.int .u8) 5 w' w.heap.size (fun _ => True) v0_ r1 ∧ Below w.heap.size w w' := by
 have iB := aM rN
 have iC := aM rO
 clear rN rO
 have HB := aM (Below.refl w.heap.size w)
 have H : ((impl_GetNum.f k l0 a1).bind fun aZ => (if aZ.2.2 = true then (impl_Unseal.j0 k l0 aZ.1 aZ.2.1 (decide (aZ.1 > 3000))) else (impl_Unseal.j0 k l0 aZ.1 aZ.2.1 true))) = some (r1, r2, r3) := h
 clear h
 replace H := oB H
 obtain ⟨⟨aQ, aC, iD⟩, fY, H⟩ := H
 (try dsimp only at H)
 have A3 := aM fY
 clear fY
 have pS := aM H
 clear H
 go_enter Try.func85, Try.ntmps85
 go_upto_region 2 with (first | ((with_reducible refine gC 75 rfl ?_); refine goesLY (some 15) rfl Try.func75 #[.slice A0 l0.length c0, .int .i64 a1] ?_; (with_reducible refine (impl_GetNum.calls k _ _ l0 a1 aQ aC iD _ ?side1 ?side2 A3.out).mono ?_); (case side1 => repeat (first | exact iB.out | (with_reducible refine Kd.C_alloc ?_ _) | (with_reducible refine Kd.C_drewN ?_ _) | (with_reducible refine Kd.C_drew ?_))); (case side2 => exact iC.out); rintro e w' ⟨rfl, ⟨nd, rfl⟩⟩; refine ⟨_, rfl, ?_⟩))
 (try simp only [Act.put, List.setIfInBounds_toArray, List.set_cons_zero, List.set_cons_succ])
 go_cut [19] (fun sO wc => ∃ (kq : Nat) (dX : Bool), sO = .bool dX ∧ Aside0 (impl_Unseal.j0 kq l0 aQ aC dX = some (r1, r2, r3)) ∧ Aside0 (kq ≤ k) ∧ Aside0 (Below w.heap.size w wc))
 case first =>
  have H := pS.out; clear pS; by_cases c5 : iD = true
  ·subst c5; replace H := iT H; have H' := aM H; clear H; go_wp2; go_meet
   case rel => exact ⟨_, (decide (aQ > 3000)), u15_1, H', ⟨by first | omega | exact Nat.le_refl _⟩, ⟨xbel⟩⟩
  ·replace c5 := Bool.eq_false_iff.mpr c5; subst c5; replace H := iN H; have H' := aM H; clear H; go_wp2; go_meet
   case rel => exact ⟨_, (true), u15_1, H', ⟨by first | omega | exact Nat.le_refl _⟩, ⟨xbel⟩⟩
 case rest =>
  clear pS; try clear p2
  try clear c5
  obtain ⟨kq, dX, rfl, HA, HJ3, HB⟩ := hcut; cases kq with
  | zero => exact absurd HA.out (by simp [impl_Unseal.j0])
  | succ gK =>
   have H := HA.out; clear HA; simp only [impl_Unseal.j0] at H; by_cases c6 : dX = true
   ·subst c6; replace H := iT H; simp only [Option.some.injEq, Prod.mk.injEq] at H; obtain ⟨rfl, rfl, rfl⟩ := H; go_wp2; go_ret3
    exact ⟨_, by first | rfl | (simp [errW_none, errW_some] <;> rfl) | (simp [*, errW_none, errW_some] <;> rfl), u15_5, xbel⟩
   ·replace c6 := Bool.eq_false_iff.mpr c6; subst c6; replace H := iN H; by_cases c7 : (wrap64 (aQ + 4)) > (wrap64 ((l0.length : Int) - aC))
    ·rw [if_pos c7] at H; have gL : decide ((wrap64 ((l0.length : Int) - aC)) < (wrap64 (aQ + 4))) = true := decide_eq_true c7; clear c7; simp only [Option.some.injEq, Prod.mk.injEq] at H; obtain ⟨rfl, rfl, rfl⟩ := H; go_wp2; go_ret3
     exact ⟨_, by first | rfl | (simp [errW_none, errW_some] <;> rfl) | (simp [*, errW_none, errW_some] <;> rfl), u15_5, xbel⟩
    ·rw [if_neg c7] at H; have gL : decide ((wrap64 ((l0.length : Int) - aC)) < (wrap64 (aQ + 4))) = false := decide_eq_false c7; clear c7; obtain ⟨cX, cY⟩ : ∃ y_ : List Int, y_ = (([] : List Int)) := ⟨_, rfl⟩; replace H : (if 0 ≤ aC then (if aC ≤ (wrap64 (aC + aQ)) then (if (wrap64 (aC + aQ)) ≤ (l0.length : Int) then (if cX.length + ((l0.take ((wrap64 (aC + aQ)) : Int).toNat).drop (aC : Int).toNat).length < 140737488355328 then ((some (cX ++ ((l0.take ((wrap64 (aC + aQ)) : Int).toNat).drop (aC : Int).toNat) : List Int)).bind fun aW => (if 0 ≤ (wrap64 (aC + aQ)) then (if (wrap64 (aC + aQ)) ≤ (wrap64 ((wrap64 (aC + aQ)) + 4)) then (if (wrap64 ((wrap64 (aC + aQ)) + 4)) ≤ (l0.length : Int) then ((impl_sumBytes.f gK aW).bind fun bA => (if (strOfNums ((l0.take ((wrap64 ((wrap64 (aC + aQ)) + 4)) : Int).toNat).drop ((wrap64 (aC + aQ)) : Int).toNat)).toList = (strOfNums bA).toList then (some (aW, wrap64 ((wrap64 (aC + aQ)) + 4), 0)) else (some (([] : List Int), 0, 3)))) else (none)) else (none)) else (none))) else (none)) else (none)) else (none)) else (none)) = some (r1, r2, r3) := by first | (rw [cY]; with_reducible exact H) | (have H2_ := oS H; rw [cY]; with_reducible exact H2_) | (have H2_ := oS H; with_reducible exact H2_) | with_reducible exact H | (rw [cY]; exact H) | exact H
     have dY := aM cY; clear cY; by_cases c8 : 0 ≤ aC
     ·rw [if_pos c8] at H; have sP := eq_true c8; have sQ : decide (0 ≤ aC) = true := decide_eq_true c8; clear c8; by_cases c9 : aC ≤ (wrap64 (aC + aQ))
      ·rw [if_pos c9] at H; have pT := eq_true c9; have pU : decide (aC ≤ (wrap64 (aC + aQ))) = true := decide_eq_true c9; by_cases c10 : (wrap64 (aC + aQ)) ≤ (l0.length : Int)
       ·rw [if_pos c10] at H; have iE := eq_true c10; have iF : decide ((wrap64 (aC + aQ)) ≤ (l0.length : Int)) = true := decide_eq_true c10; by_cases jY : cX.length + ((l0.take ((wrap64 (aC + aQ)) : Int).toNat).drop (aC : Int).toNat).length < 140737488355328
        ·rw [if_pos jY] at H; have LMc11 := aM jY; clear jY; obtain ⟨aW, cZ⟩ : ∃ y_ : List Int, y_ = (cX ++ ((l0.take ((wrap64 (aC + aQ)) : Int).toNat).drop (aC : Int).toNat)) := ⟨_, rfl⟩; replace H : (if 0 ≤ (wrap64 (aC + aQ)) then (if (wrap64 (aC + aQ)) ≤ (wrap64 ((wrap64 (aC + aQ)) + 4)) then (if (wrap64 ((wrap64 (aC + aQ)) + 4)) ≤ (l0.length : Int) then ((impl_sumBytes.f gK aW).bind fun bA => (if (strOfNums ((l0.take ((wrap64 ((wrap64 (aC + aQ)) + 4)) : Int).toNat).drop ((wrap64 (aC + aQ)) : Int).toNat)).toList = (strOfNums bA).toList then (some (aW, wrap64 ((wrap64 (aC + aQ)) + 4), 0)) else (some (([] : List Int), 0, 3)))) else (none)) else (none)) else (none)) = some (r1, r2, r3) := by first | (rw [cZ]; with_reducible exact H) | (have H2_ := oS H; rw [cZ]; with_reducible exact H2_) | (have H2_ := oS H; with_reducible exact H2_) | with_reducible exact H | (rw [cZ]; exact H) | exact H
         have eJ := aM cZ; clear cZ; obtain ⟨ji12, hji12⟩ : ∃ j_ : Int, (wrap64 (aC + aQ)) = j_ := ⟨_, rfl⟩; replace H : (if 0 ≤ (ji12) then (if (ji12) ≤ (wrap64 ((ji12) + 4)) then (if (wrap64 ((ji12) + 4)) ≤ (l0.length : Int) then ((impl_sumBytes.f gK aW).bind fun bA => (if (strOfNums ((l0.take ((wrap64 ((ji12) + 4)) : Int).toNat).drop ((ji12) : Int).toNat)).toList = (strOfNums bA).toList then (some (aW, wrap64 ((ji12) + 4), 0)) else (some (([] : List Int), 0, 3)))) else (none)) else (none)) else (none)) = some (r1, r2, r3) := by first | (rw [hji12] at H; exact H) | (simp only [hji12] at H ⊢; exact H)
         (try rw [hji12] at pT); (try rw [hji12] at pU); (try rw [hji12] at c9); (try rw [hji12] at iE); (try rw [hji12] at iF); (try rw [hji12] at c10); (try rw [hji12] at LMc11); (try rw [hji12] at eJ); have hji12w : (IntKind.i64.wrap (aC + aQ)) = ji12 := (i64_w _).trans hji12; by_cases dA : 0 ≤ (ji12)
         ·rw [if_pos dA] at H; have eK := eq_true dA; have fZ : decide (0 ≤ (ji12)) = true := decide_eq_true dA; clear dA; by_cases eU : (ji12) ≤ (wrap64 ((ji12) + 4))
          ·rw [if_pos eU] at H; have iG := eq_true eU; have rP : decide ((ji12) ≤ (wrap64 ((ji12) + 4))) = true := decide_eq_true eU; by_cases eS : (wrap64 ((ji12) + 4)) ≤ (l0.length : Int)
           ·rw [if_pos eS] at H; have gA := eq_true eS; have gB : decide ((wrap64 ((ji12) + 4)) ≤ (l0.length : Int)) = true := decide_eq_true eS; replace H := oB H; obtain ⟨bA, iH, H⟩ := H; (try dsimp only at H); have jZ := aM iH; clear iH
            by_cases eT : (strOfNums ((l0.take ((wrap64 ((ji12) + 4)) : Int).toNat).drop ((ji12) : Int).toNat)).toList = (strOfNums bA).toList
            ·rw [if_pos eT] at H; obtain ⟨iI, iJ⟩ := bT eT; clear eT; simp only [Option.some.injEq, Prod.mk.injEq] at H; obtain ⟨rfl, rfl, rfl⟩ := H; try go_wp2_with (first | ((with_reducible refine gD 34 rfl ?_); refine Kd.R_lit (Kd.int .u8) _ 5 ?hg (N := 34) ?hd (xs := ([] : List Int)) (inner := []) (ok := fun _ => True) (okp := fun _ => True) ?hr ?hp (fun _ hk => hk) trivial (Below.refl _ _) (Nat.le_refl _) (by simp) ?_; (case hd => rfl); (case hg => rfl); (case hr => exact u15_0); (case hp => exact (Reps.none _ _)); intro gM rQ eL hb hg_ hnew_; clear hg_ hnew_; (first | rw [← dY.out] at eL | (simp only [Int.reduceToNat] at eL; rw [← dY.out] at eL)); have dB := aM (Kd.R_lower eL (below_size xbel)); replace HB := xbs hb; clear hb eL; obtain ⟨i020, hi020, _, hsz20, _⟩ := info_parts info5; obtain ⟨tN, hcut20, hA20, hC20⟩ := print_mid_of (P := Try.prog) (Value.int .u8) 0 22 5 .i64 .i64 Try.underlying22 hi020 hsz20 A0 c0 l0 aC (ji12) (oda) (by first | omega | exact oda) (oda) iC.out; have eH := aM (Kd.C_of_reads (h1 := fun _ => rfl) (hA20 _ (Kd.reads_of_C iB.out))); have iK := aM hC20; clear hA20 hC20 hi020 hsz20; (try rw [← show ((l0.take ((ji12) : Int).toNat).drop (aC : Int).toNat).length = ((ji12).toNat - aC.toNat) from (by rw [List.length_drop, List.length_take]; have h_ : ((ji12) : Int) ≤ (l0.length : Int) := oda; omega)] at hcut20)) | ((with_reducible refine gate_builtin (b := .append) (xs := #[.tmp 34, .tmp 40]) rfl ?_); at_builtin; refine Kd.R_append_rows (Kd.int .u8) (w0 := w) w.heap.size rfl (.tmp 34) (.tmp 40) 22 5 (.int .u8 0) 1 rfl Try.underlying22 info5 rfl (by decide) (by omega) gM cX ((l0.take ((ji12) : Int).toNat).drop (aC : Int).toNat) _ _ _ (fun _ => True) (fun _ => False) rfl rfl ?aO ?aR (fun _ _ h => h) (fun _ h => h.elim) ?aF ?aB ?aS ?aL ?_; (case aR => exact u15_6); (case aB => exact xbel); (case aF => exact (fun _ _ => trivial)); (case aO => exact (xr dB)); (case aS => exact (below_size xbel)); (case aL => exact u15_7); intro pV rR ho hb hg hat; rw [← eJ.out] at ho; replace HB := aM (hb); have aE := aM (ho); clear dB; clear ho hb hg hat; obtain ⟨dU, dV, gN⟩ := Kd.R_slice aE.out; subst gN))
             replace aE := rD aE; replace HB := lD HB; obtain ⟨i024, hi024, _, hsz24, _⟩ := info_parts info5; obtain ⟨pW, hcut24, hA24, hC24⟩ := print_mid_of (P := Try.prog) (Value.int .u8) 0 22 5 .i64 .i64 Try.underlying22 hi024 hsz24 A0 c0 l0 (ji12) (wrap64 ((ji12) + 4)) (oda) (by first | omega | exact oda) (oda) iC.out; have bY := aM (Kd.C_of_reads (h1 := fun _ => rfl) (hA24 _ (Kd.reads_of_C iB.out))); have iL := aM hC24; clear hA24 hC24 hi024 hsz24; (try rw [← show ((l0.take ((wrap64 ((ji12) + 4)) : Int).toNat).drop ((ji12) : Int).toNat).length = ((wrap64 ((ji12) + 4)).toNat - (ji12).toNat) from (by rw [List.length_drop, List.length_take]; have h_ : ((wrap64 ((ji12) + 4)) : Int) ≤ (l0.length : Int) := oda; omega)] at hcut24); refine st_ 11 (fun w' => True) impl_Unseal.tab8 impl_Unseal.bits8 trivial (fun hHeld HT_ HW_ => ?_); generalize rR.drew = hY at aE HB bY hHeld ⊢; refine pv_ 0 46 (h := ?_); refine pv_ 1 47 (h := ?_); refine pv_ 2 48 (h := ?_); refine pv_ 3 49 (h := ?_); refine pv_ 4 50 (h := ?_); refine pv_ 5 51 (h := ?_); refine pv_ 7 53 (h := ?_); refine join_ (σ := Value) 1 #[true, true, true, true, true, true, true, true, true, true, false] (fun s_ => [(52, .string (strOfNums ((l0.take ((wrap64 ((ji12) + 4)) : Int).toNat).drop ((ji12) : Int).toNat))), (54, s_), (55, .string (strOfNums bA))]) (fun s_ w' => (Kd.R (Kd.int .u8) 5 w' w.heap.size (fun k_ => some k_ ≠ (s_ : Value).ownBlock) (.slice dU aW.length dV) aW) ∧ (Kd.R (Kd.int .u8) 5 w' w.heap.size (fun k_ => some k_ ≠ (.slice dU aW.length dV : Value).ownBlock) s_ bA) ∧ (Below w.heap.size w w')) ?_ ?_; rotate_left
             ·intro hCont; refine two_ (i := 6) (j := 8) (Ni := some 52) (Nj := some 54) #[true, true, true, true, true, true, true, true, false, false, false] #[true, true, true, true, true, true, false, true, true, false, false] rfl rfl rfl rfl (two_of HT_.out (by kernel_rfl)) (by decide) (by decide) (fun K hK => ?_) (fun K hK => ?_)
              ·skip
               have hcv25 := Kd.C_string (P := Try.prog) (A := pW) (c := (c0 - (ji12).toNat)) Try.underlying22 Try.underlying5 Try.underlying9 (Kd.C_below bY.out HB.out); have hcv25b := hcv25; (try rw [show ((l0.take ((wrap64 ((ji12) + 4)) : Int).toNat).drop ((ji12) : Int).toNat).length = ((wrap64 ((ji12) + 4)).toNat - (ji12).toNat) from (by rw [List.length_drop, List.length_take]; have h_ : ((wrap64 ((ji12) + 4)) : Int) ≤ (l0.length : Int) := oda; omega)] at hcv25b); refine value_ (w1 := ?_) (v := ?_) (by rfl) rfl ?_ ?_; rotate_left 2
               ·go_simp
                constructor
                ·rfl
                ·rfl
               clear hcv25b hcv25; refine hK.out _ _ trivial (fun hHeld => ?_); clear hK K; refine nm_ (N := 52) ?_; refine on_ 8 54 (h := fun K hK => ?_); refine goesY Try.func95 #[.slice dU aW.length dV] ?_; with_reducible refine (impl_sumBytes.calls gK _ _ aW bA _ ?side1 ?side2 jZ.out).mono ?_
               (case side1 => exact xC aE); (case side2 => exact (Kd.R_reads' aE.out).2.1); rintro e sR ⟨bK, rfl, bJ, hb⟩; refine ⟨_, rfl, ?_⟩; have bB := aM (Kd.R_lower (Kd.R_new' bJ (Kd.R_lt (xr aE))) (below_size xbel)); replace aE := aM (Kd.R_elder' (xr aE) (Kd.R_base bJ) hb); replace HB := xbs hb; (try clear hb bJ); refine hK.out _ _ trivial (fun hHeld => ?_); clear hK K; refine nm_ (N := 54) ?_; refine on_ 9 55 (h := fun K hK => ?_); have hcv27 := own_string (P := Try.prog) Try.underlying22 Try.underlying5 Try.underlying9 (Kd.own_of_R bB.out); refine value_ (w1 := ?_) (v := ?_) (by rfl) rfl ?_ ?_; rotate_left 2
               ·go_simp
                constructor
                ·rfl
                ·rfl
               clear hcv27; refine hK.out _ _ trivial (fun hHeld => ?_); clear hK K; refine nm_ (N := 55) ?_; exact norm_ u15_2 (hCont (bK) _ ⟨u15_3, u15_4, xbel⟩)
              ·skip
               refine goesY Try.func95 #[.slice dU aW.length dV] ?_; with_reducible refine (impl_sumBytes.calls gK _ _ aW bA _ ?side1 ?side2 jZ.out).mono ?_
               (case side1 => exact xC aE); (case side2 => exact (Kd.R_reads' aE.out).2.1); rintro e sS ⟨bK, rfl, bJ, hb⟩; refine ⟨_, rfl, ?_⟩; have bB := aM (Kd.R_lower (Kd.R_new' bJ (Kd.R_lt (xr aE))) (below_size xbel)); replace aE := aM (Kd.R_elder' (xr aE) (Kd.R_base bJ) hb); replace HB := xbs hb; (try clear hb bJ); refine hK.out _ _ trivial (fun hHeld => ?_); clear hK K; refine nm_ (N := 54) ?_; refine two_ (i := 6) (j := 9) (Ni := some 52) (Nj := some 55) #[true, true, true, true, true, true, true, true, true, false, false] #[true, true, true, true, true, true, false, true, true, true, false] rfl rfl rfl rfl (two_of HT_.out (by kernel_rfl)) (by decide) (by decide) (fun K hK => ?_) (fun K hK => ?_)
               ·skip
                have hcv26 := Kd.C_string (P := Try.prog) (A := pW) (c := (c0 - (ji12).toNat)) Try.underlying22 Try.underlying5 Try.underlying9 (Kd.C_below bY.out HB.out); have hcv26b := hcv26; (try rw [show ((l0.take ((wrap64 ((ji12) + 4)) : Int).toNat).drop ((ji12) : Int).toNat).length = ((wrap64 ((ji12) + 4)).toNat - (ji12).toNat) from (by rw [List.length_drop, List.length_take]; have h_ : ((wrap64 ((ji12) + 4)) : Int) ≤ (l0.length : Int) := oda; omega)] at hcv26b); refine value_ (w1 := ?_) (v := ?_) (by rfl) rfl ?_ ?_; rotate_left 2
                ·go_simp
                 constructor
                 ·rfl
                 ·rfl
                clear hcv26b hcv26; refine hK.out _ _ trivial (fun hHeld => ?_); clear hK K; refine nm_ (N := 52) ?_; refine on_ 9 55 (h := fun K hK => ?_); have hcv27 := own_string (P := Try.prog) Try.underlying22 Try.underlying5 Try.underlying9 (Kd.own_of_R bB.out); refine value_ (w1 := ?_) (v := ?_) (by rfl) rfl ?_ ?_; rotate_left 2
                ·go_simp
                 constructor
                 ·rfl
                 ·rfl
                clear hcv27; refine hK.out _ _ trivial (fun hHeld => ?_); clear hK K; refine nm_ (N := 55) ?_; exact norm_ u15_2 (hCont (bK) _ ⟨u15_3, u15_4, xbel⟩)
               ·skip
                have hcv26 := own_string (P := Try.prog) Try.underlying22 Try.underlying5 Try.underlying9 (Kd.own_of_R bB.out); refine value_ (w1 := ?_) (v := ?_) (by rfl) rfl ?_ ?_; rotate_left 2
                ·go_simp
                 constructor
                 ·rfl
                 ·rfl
                clear hcv26; refine hK.out _ _ trivial (fun hHeld => ?_); clear hK K; refine nm_ (N := 55) ?_; refine on_ 6 52 (h := fun K hK => ?_); have hcv27 := Kd.C_string (P := Try.prog) (A := pW) (c := (c0 - (ji12).toNat)) Try.underlying22 Try.underlying5 Try.underlying9 (Kd.C_below bY.out HB.out); have hcv27b := hcv27; (try rw [show ((l0.take ((wrap64 ((ji12) + 4)) : Int).toNat).drop ((ji12) : Int).toNat).length = ((wrap64 ((ji12) + 4)).toNat - (ji12).toNat) from (by rw [List.length_drop, List.length_take]; have h_ : ((wrap64 ((ji12) + 4)) : Int) ≤ (l0.length : Int) := oda; omega)] at hcv27b); refine value_ (w1 := ?_) (v := ?_) (by rfl) rfl ?_ ?_; rotate_left 2
                ·go_simp
                 constructor
                 ·rfl
                 ·rfl
                clear hcv27b hcv27; refine hK.out _ _ trivial (fun hHeld => ?_); clear hK K; refine nm_ (N := 52) ?_; exact norm_ u15_2 (hCont (bK) _ ⟨u15_3, u15_4, xbel⟩)
             rintro bK gO ⟨h0_, h1_, h2_⟩; replace aE : Aside0 (Kd.R (Kd.int .u8) 5 gO w.heap.size (fun k_ => some k_ ≠ (bK : Value).ownBlock) (.slice dU aW.length dV) aW) := ⟨h0_⟩; have bB : Aside0 (Kd.R (Kd.int .u8) 5 gO w.heap.size (fun k_ => some k_ ≠ (.slice dU aW.length dV : Value).ownBlock) bK bA) := ⟨h1_⟩; replace HB : Aside0 (Below w.heap.size w gO) := ⟨h2_⟩; clear h0_ h1_ h2_; have hHeld := trivial; refine norm_ (a' := ?_) ?_ ?_; rotate_left
             ·simp only [putAll, Act.put, List.setIfInBounds_toArray, List.set_cons_zero, List.set_cons_succ]; rfl
             refine pv_ 10 56 (h := ?_); refine dn_ ?_; try go_wp2
             go_ret3
             exact ⟨_, u15_8, by (with_reducible repeat (first | apply Kd.R_alloc | apply Kd.R_drewN | apply Kd.R_drew)); exact Kd.R_mono aE.out (fun _ hk => trivial), xbel⟩
            ·rw [if_neg eT] at H; obtain ⟨iI, iJ⟩ := bF eT; simp only [Option.some.injEq, Prod.mk.injEq] at H; obtain ⟨rfl, rfl, rfl⟩ := H; try go_wp2_with (first | ((with_reducible refine gD 34 rfl ?_); refine Kd.R_lit (Kd.int .u8) _ 5 ?hg (N := 34) ?hd (xs := ([] : List Int)) (inner := []) (ok := fun _ => True) (okp := fun _ => True) ?hr ?hp (fun _ hk => hk) trivial (Below.refl _ _) (Nat.le_refl _) (by simp) ?_; (case hd => rfl); (case hg => rfl); (case hr => exact u15_0); (case hp => exact (Reps.none _ _)); intro gM pX eM hb hg_ hnew_; clear hg_ hnew_; (first | rw [← dY.out] at eM | (simp only [Int.reduceToNat] at eM; rw [← dY.out] at eM)); have dB := aM (Kd.R_lower eM (below_size xbel)); replace HB := xbs hb; clear hb eM; obtain ⟨i031, hi031, _, hsz31, _⟩ := info_parts info5; obtain ⟨tO, hcut31, hA31, hC31⟩ := print_mid_of (P := Try.prog) (Value.int .u8) 0 22 5 .i64 .i64 Try.underlying22 hi031 hsz31 A0 c0 l0 aC (ji12) (oda) (by first | omega | exact oda) (oda) iC.out; have eH := aM (Kd.C_of_reads (h1 := fun _ => rfl) (hA31 _ (Kd.reads_of_C iB.out))); have iK := aM hC31; clear hA31 hC31 hi031 hsz31; (try rw [← show ((l0.take ((ji12) : Int).toNat).drop (aC : Int).toNat).length = ((ji12).toNat - aC.toNat) from (by rw [List.length_drop, List.length_take]; have h_ : ((ji12) : Int) ≤ (l0.length : Int) := oda; omega)] at hcut31)) | ((with_reducible refine gate_builtin (b := .append) (xs := #[.tmp 34, .tmp 40]) rfl ?_); at_builtin; refine Kd.R_append_rows (Kd.int .u8) (w0 := w) w.heap.size rfl (.tmp 34) (.tmp 40) 22 5 (.int .u8 0) 1 rfl Try.underlying22 info5 rfl (by decide) (by omega) gM cX ((l0.take ((ji12) : Int).toNat).drop (aC : Int).toNat) _ _ _ (fun _ => True) (fun _ => False) rfl rfl ?aO ?aR (fun _ _ h => h) (fun _ h => h.elim) ?aF ?aB ?aS ?aL ?_; (case aR => exact u15_6); (case aB => exact xbel); (case aF => exact (fun _ _ => trivial)); (case aO => exact (xr dB)); (case aS => exact (below_size xbel)); (case aL => exact u15_7); intro pV iM ho hb hg hat; rw [← eJ.out] at ho; replace HB := aM (hb); have aE := aM (ho); clear dB; clear ho hb hg hat; obtain ⟨dC, dD, gP⟩ := Kd.R_slice aE.out; subst gP))
             replace aE := rD aE; replace HB := lD HB; obtain ⟨i035, hi035, _, hsz35, _⟩ := info_parts info5; obtain ⟨pY, hcut35, hA35, hC35⟩ := print_mid_of (P := Try.prog) (Value.int .u8) 0 22 5 .i64 .i64 Try.underlying22 hi035 hsz35 A0 c0 l0 (ji12) (wrap64 ((ji12) + 4)) (oda) (by first | omega | exact oda) (oda) iC.out; have bY := aM (Kd.C_of_reads (h1 := fun _ => rfl) (hA35 _ (Kd.reads_of_C iB.out))); have iL := aM hC35; clear hA35 hC35 hi035 hsz35; (try rw [← show ((l0.take ((wrap64 ((ji12) + 4)) : Int).toNat).drop ((ji12) : Int).toNat).length = ((wrap64 ((ji12) + 4)).toNat - (ji12).toNat) from (by rw [List.length_drop, List.length_take]; have h_ : ((wrap64 ((ji12) + 4)) : Int) ≤ (l0.length : Int) := oda; omega)] at hcut35); refine st_ 11 (fun w' => True) impl_Unseal.tab8 impl_Unseal.bits8 trivial (fun hHeld HT_ HW_ => ?_); generalize iM.drew = iO at aE HB bY hHeld ⊢; refine pv_ 0 46 (h := ?_); refine pv_ 1 47 (h := ?_); refine pv_ 2 48 (h := ?_); refine pv_ 3 49 (h := ?_); refine pv_ 4 50 (h := ?_); refine pv_ 5 51 (h := ?_); refine pv_ 7 53 (h := ?_); refine join_ (σ := Value) 1 #[true, true, true, true, true, true, true, true, true, true, false] (fun s_ => [(52, .string (strOfNums ((l0.take ((wrap64 ((ji12) + 4)) : Int).toNat).drop ((ji12) : Int).toNat))), (54, s_), (55, .string (strOfNums bA))]) (fun s_ w' => (Kd.R (Kd.int .u8) 5 w' w.heap.size (fun k_ => some k_ ≠ (s_ : Value).ownBlock) (.slice dC aW.length dD) aW) ∧ (Kd.R (Kd.int .u8) 5 w' w.heap.size (fun k_ => some k_ ≠ (.slice dC aW.length dD : Value).ownBlock) s_ bA) ∧ (Below w.heap.size w w')) ?_ ?_; rotate_left
             ·intro hCont; refine two_ (i := 6) (j := 8) (Ni := some 52) (Nj := some 54) #[true, true, true, true, true, true, true, true, false, false, false] #[true, true, true, true, true, true, false, true, true, false, false] rfl rfl rfl rfl (two_of HT_.out (by kernel_rfl)) (by decide) (by decide) (fun K hK => ?_) (fun K hK => ?_)
              ·skip
               have hcv36 := Kd.C_string (P := Try.prog) (A := pY) (c := (c0 - (ji12).toNat)) Try.underlying22 Try.underlying5 Try.underlying9 (Kd.C_below bY.out HB.out); have hcv36b := hcv36; (try rw [show ((l0.take ((wrap64 ((ji12) + 4)) : Int).toNat).drop ((ji12) : Int).toNat).length = ((wrap64 ((ji12) + 4)).toNat - (ji12).toNat) from (by rw [List.length_drop, List.length_take]; have h_ : ((wrap64 ((ji12) + 4)) : Int) ≤ (l0.length : Int) := oda; omega)] at hcv36b); refine value_ (w1 := ?_) (v := ?_) (by rfl) rfl ?_ ?_; rotate_left 2
               ·go_simp
                constructor
                ·rfl
                ·rfl
               clear hcv36b hcv36; refine hK.out _ _ trivial (fun hHeld => ?_); clear hK K; refine nm_ (N := 52) ?_; refine on_ 8 54 (h := fun K hK => ?_); refine goesY Try.func95 #[.slice dC aW.length dD] ?_; with_reducible refine (impl_sumBytes.calls gK _ _ aW bA _ ?side1 ?side2 jZ.out).mono ?_
               (case side1 => exact xC aE); (case side2 => exact (Kd.R_reads' aE.out).2.1); rintro e tP ⟨bK, rfl, bJ, hb⟩; refine ⟨_, rfl, ?_⟩; have bB := aM (Kd.R_lower (Kd.R_new' bJ (Kd.R_lt (xr aE))) (below_size xbel)); replace aE := aM (Kd.R_elder' (xr aE) (Kd.R_base bJ) hb); replace HB := xbs hb; (try clear hb bJ); refine hK.out _ _ trivial (fun hHeld => ?_); clear hK K; refine nm_ (N := 54) ?_; refine on_ 9 55 (h := fun K hK => ?_); have hcv38 := own_string (P := Try.prog) Try.underlying22 Try.underlying5 Try.underlying9 (Kd.own_of_R bB.out); refine value_ (w1 := ?_) (v := ?_) (by rfl) rfl ?_ ?_; rotate_left 2
               ·go_simp
                constructor
                ·rfl
                ·rfl
               clear hcv38; refine hK.out _ _ trivial (fun hHeld => ?_); clear hK K; refine nm_ (N := 55) ?_; exact norm_ u15_2 (hCont (bK) _ ⟨u15_3, u15_4, xbel⟩)
              ·skip
               refine goesY Try.func95 #[.slice dC aW.length dD] ?_; with_reducible refine (impl_sumBytes.calls gK _ _ aW bA _ ?side1 ?side2 jZ.out).mono ?_
               (case side1 => exact xC aE); (case side2 => exact (Kd.R_reads' aE.out).2.1); rintro e tQ ⟨bK, rfl, bJ, hb⟩; refine ⟨_, rfl, ?_⟩; have bB := aM (Kd.R_lower (Kd.R_new' bJ (Kd.R_lt (xr aE))) (below_size xbel)); replace aE := aM (Kd.R_elder' (xr aE) (Kd.R_base bJ) hb); replace HB := xbs hb; (try clear hb bJ); refine hK.out _ _ trivial (fun hHeld => ?_); clear hK K; refine nm_ (N := 54) ?_; refine two_ (i := 6) (j := 9) (Ni := some 52) (Nj := some 55) #[true, true, true, true, true, true, true, true, true, false, false] #[true, true, true, true, true, true, false, true, true, true, false] rfl rfl rfl rfl (two_of HT_.out (by kernel_rfl)) (by decide) (by decide) (fun K hK => ?_) (fun K hK => ?_)
               ·skip
                have hcv37 := Kd.C_string (P := Try.prog) (A := pY) (c := (c0 - (ji12).toNat)) Try.underlying22 Try.underlying5 Try.underlying9 (Kd.C_below bY.out HB.out); have hcv37b := hcv37; (try rw [show ((l0.take ((wrap64 ((ji12) + 4)) : Int).toNat).drop ((ji12) : Int).toNat).length = ((wrap64 ((ji12) + 4)).toNat - (ji12).toNat) from (by rw [List.length_drop, List.length_take]; have h_ : ((wrap64 ((ji12) + 4)) : Int) ≤ (l0.length : Int) := oda; omega)] at hcv37b); refine value_ (w1 := ?_) (v := ?_) (by rfl) rfl ?_ ?_; rotate_left 2
                ·go_simp
                 constructor
                 ·rfl
                 ·rfl
                clear hcv37b hcv37; refine hK.out _ _ trivial (fun hHeld => ?_); clear hK K; refine nm_ (N := 52) ?_; refine on_ 9 55 (h := fun K hK => ?_); have hcv38 := own_string (P := Try.prog) Try.underlying22 Try.underlying5 Try.underlying9 (Kd.own_of_R bB.out); refine value_ (w1 := ?_) (v := ?_) (by rfl) rfl ?_ ?_; rotate_left 2
                ·go_simp
                 constructor
                 ·rfl
                 ·rfl
                clear hcv38; refine hK.out _ _ trivial (fun hHeld => ?_); clear hK K; refine nm_ (N := 55) ?_; exact norm_ u15_2 (hCont (bK) _ ⟨u15_3, u15_4, xbel⟩)
               ·skip
                have hcv37 := own_string (P := Try.prog) Try.underlying22 Try.underlying5 Try.underlying9 (Kd.own_of_R bB.out); refine value_ (w1 := ?_) (v := ?_) (by rfl) rfl ?_ ?_; rotate_left 2
                ·go_simp
                 constructor
                 ·rfl
                 ·rfl
                clear hcv37; refine hK.out _ _ trivial (fun hHeld => ?_); clear hK K; refine nm_ (N := 55) ?_; refine on_ 6 52 (h := fun K hK => ?_); have hcv38 := Kd.C_string (P := Try.prog) (A := pY) (c := (c0 - (ji12).toNat)) Try.underlying22 Try.underlying5 Try.underlying9 (Kd.C_below bY.out HB.out); have hcv38b := hcv38; (try rw [show ((l0.take ((wrap64 ((ji12) + 4)) : Int).toNat).drop ((ji12) : Int).toNat).length = ((wrap64 ((ji12) + 4)).toNat - (ji12).toNat) from (by rw [List.length_drop, List.length_take]; have h_ : ((wrap64 ((ji12) + 4)) : Int) ≤ (l0.length : Int) := oda; omega)] at hcv38b); refine value_ (w1 := ?_) (v := ?_) (by rfl) rfl ?_ ?_; rotate_left 2
                ·go_simp
                 constructor
                 ·rfl
                 ·rfl
                clear hcv38b hcv38; refine hK.out _ _ trivial (fun hHeld => ?_); clear hK K; refine nm_ (N := 52) ?_; exact norm_ u15_2 (hCont (bK) _ ⟨u15_3, u15_4, xbel⟩)
             rintro bK pZ ⟨h0_, h1_, h2_⟩; replace aE : Aside0 (Kd.R (Kd.int .u8) 5 pZ w.heap.size (fun k_ => some k_ ≠ (bK : Value).ownBlock) (.slice dC aW.length dD) aW) := ⟨h0_⟩; have bB : Aside0 (Kd.R (Kd.int .u8) 5 pZ w.heap.size (fun k_ => some k_ ≠ (.slice dC aW.length dD : Value).ownBlock) bK bA) := ⟨h1_⟩; replace HB : Aside0 (Below w.heap.size w pZ) := ⟨h2_⟩; clear h0_ h1_ h2_; have hHeld := trivial; refine norm_ (a' := ?_) ?_ ?_; rotate_left
             ·simp only [putAll, Act.put, List.setIfInBounds_toArray, List.set_cons_zero, List.set_cons_succ]; rfl
             refine pv_ 10 56 (h := ?_); refine dn_ ?_; try go_wp2
             go_ret3
             exact ⟨_, u15_8, u15_5, xbel⟩
           ·rw [if_neg eS] at H; exact absurd H (by simp)
          ·rw [if_neg eU] at H; exact absurd H (by simp)
         ·rw [if_neg dA] at H; exact absurd H (by simp)
        ·rw [if_neg jY] at H; exact absurd H (by simp)
       ·rw [if_neg c10] at H; exact absurd H (by simp)
      ·rw [if_neg c9] at H; exact absurd H (by simp)
     ·rw [if_neg c8] at H; exact absurd H (by simp)

/-! ### impl_JournalRead: function 58 -/
def impl_JournalRead.l0 : Nat → List ByteArray → List Int → Int → Option (List ByteArray × Int)
 | 0, _, _, _ => none
 | k + 1, x6, x9, gE => if (x6.length : Int) < 2000 then ((impl_Unseal.f k x9 gE).bind fun cT => (if cT.2.2 = 0 then (if x6.length < 8796093022208 then (impl_JournalRead.l0 k (x6 ++ [strOfNums cT.1]) x9 cT.2.1) else (none)) else (some (x6, gE)))) else (some (x6, gE))
def impl_JournalRead.f (k : Nat) (aK : Int) (aT : List (S112)) (a1 : Int) : Option (List ByteArray × Int) := (some (([] : List ByteArray) : List ByteArray)).bind fun cW => ((impl_DiskRead.f k aK aT a1).bind fun bC => (if bC.2 = true then (if bC.1.size ≤ 9223372036854775807 then (impl_JournalRead.l0 k cW (bytesOf bC.1) 0) else (none)) else (some (cW, 0))))
theorem impl_JournalRead.l0_z (y0_ y1_ y2_) : impl_JournalRead.l0 0 y0_ y1_ y2_ = none := rfl
theorem impl_JournalRead.l0_s (k x6 x9 gE) : impl_JournalRead.l0 (k + 1) x6 x9 gE = if (x6.length : Int) < 2000 then ((impl_Unseal.f k x9 gE).bind fun cT => (if cT.2.2 = 0 then (if x6.length < 8796093022208 then (impl_JournalRead.l0 k (x6 ++ [strOfNums cT.1]) x9 cT.2.1) else (none)) else (some (x6, gE)))) else (some (x6, gE)) := rfl
theorem u15_mq1 {p : Prop} (h : p := by repeat' first | (with_reducible first | exact eI _ _ _ | exact impl_DiskRead.mono _ _ _ _ | exact impl_Unseal.mono _ _ _ | exact LeO.refl _ | exact LeO.none _ | refine LeO.ite ?_ ?_ | refine LeO.bind ?_ (fun _ => ?_)) | exact eI _ _ _ | exact impl_DiskRead.mono _ _ _ _ | exact impl_Unseal.mono _ _ _ | exact LeO.none _ | refine LeO.ite ?_ ?_ | refine LeO.bind ?_ (fun _ => ?_)) : p := h
set_option maxRecDepth 100000 in
theorem impl_JournalRead.mono_l : ∀ k, (∀ y0 y1 y2, LeO (impl_JournalRead.l0 k y0 y1 y2) (impl_JournalRead.l0 (k + 1) y0 y1 y2))
 | 0 => fun _ _ _ r h => by simp [impl_JournalRead.l0_z] at h
 | k + 1 => by
  have eI := impl_JournalRead.mono_l k
  ·intro y0 y1 y2; rw [impl_JournalRead.l0_s k, impl_JournalRead.l0_s (k + 1)]; exact u15_mq1
theorem impl_JournalRead.mono : ∀ a0 a1 a2 k, LeO (impl_JournalRead.f k a0 a1 a2) (impl_JournalRead.f (k + 1) a0 a1 a2) := by
 intro a0 a1 a2 k
 have eI := impl_JournalRead.mono_l k
 unfold impl_JournalRead.f
 exact u15_mq1
set_option maxHeartbeats 8000000 in
set_option maxRecDepth 100000 in
theorem impl_JournalRead.calls (k : Nat) (aK : Int) (bH : Option Addr) (bI : Nat) (aT : List (S112)) (a1 : Int) (r1 : List ByteArray) (r2 : Int) (w : World) (dE : Kd.C k112 w bH aT.length aT) (dF : aT.length ≤ bI) (h : impl_JournalRead.f k aK aT a1 = some (r1, r2)) :
 Calls Try.prog 58 #[.agg #[.int .i64 aK, .slice bH aT.length bI], .int .i64 a1] w fun e w' => ∃ v0_ : Value, e = .returned (.tuple #[v0_, .int .i64 r2]) ∧ Kd.R Kd.string 9 w' w.heap.size (fun _ => True) v0_ r1 ∧ Below w.heap.size w w' := by
 have qA := Try.underlying55
 have dZ := aM dE
 have eA := aM dF
 clear dE dF
 have HB := aM (Below.refl w.heap.size w)
 have H : ((some (([] : List ByteArray) : List ByteArray)).bind fun cW => ((impl_DiskRead.f k aK aT a1).bind fun bC => (if bC.2 = true then (if bC.1.size ≤ 9223372036854775807 then (impl_JournalRead.l0 k cW (bytesOf bC.1) 0) else (none)) else (some (cW, 0))))) = some (r1, r2) := h
 clear h
 obtain ⟨cW, dG⟩ : ∃ y_ : List ByteArray, y_ = (([] : List ByteArray)) := ⟨_, rfl⟩
 replace H : ((impl_DiskRead.f k aK aT a1).bind fun bC => (if bC.2 = true then (if bC.1.size ≤ 9223372036854775807 then (impl_JournalRead.l0 k cW (bytesOf bC.1) 0) else (none)) else (some (cW, 0)))) = some (r1, r2) := by first | (rw [dG]; with_reducible exact H) | (have H2_ := oS H; rw [dG]; with_reducible exact H2_) | (have H2_ := oS H; with_reducible exact H2_) | with_reducible exact H | (rw [dG]; exact H) | exact H
 have eB := aM dG
 clear dG
 replace H := oB H
 obtain ⟨⟨dW, qB⟩, fY, H⟩ := H
 (try dsimp only at H)
 have A3 := aM fY
 clear fY
 by_cases c4 : qB = true
 ·subst c4; replace H := iT H; by_cases c5 : dW.size ≤ 9223372036854775807
  ·rw [if_pos c5] at H; have gQ := eq_true c5; have gR : decide (dW.size ≤ 9223372036854775807) = true := decide_eq_true c5; try have qC : (9223372036854775807 < dW.size) = False := eq_false (Nat.not_lt.2 c5)
   clear c5; obtain ⟨dH, dI⟩ : ∃ y_ : List Int, y_ = (bytesOf dW) := ⟨_, rfl⟩; replace H : (impl_JournalRead.l0 k cW dH 0) = some (r1, r2) := by first | (rw [dI]; with_reducible exact H) | (have H2_ := oS H; rw [dI]; with_reducible exact H2_) | (have H2_ := oS H; with_reducible exact H2_) | with_reducible exact H | (rw [dI]; exact H) | exact H
   have gF := aM dI; clear dI; have H' := aM H; clear H; go_enter Try.func58, Try.ntmps58
   go_wp2_with (first | ((with_reducible refine gD 2 rfl ?_); refine boxE (N := 2) rfl (cs := #[.int .i64 aK, .slice bH aT.length bI]) (t := 55) ?_; intro cU hg w6 hbox hb; have aV := aM (hbox); have iP := aM (xge hg); have iQ := aM (xge hg); replace HB := xbs hb; clear hb hbox hg) | ((with_reducible refine gD 14 rfl ?_); refine Kd.R_lit Kd.string _ 9 ?hg (N := 14) ?hd (xs := ([] : List ByteArray)) (inner := []) (ok := fun _ => True) (okp := fun _ => True) ?hr ?hp (fun _ hk => hk) trivial (Below.refl _ _) (Nat.le_refl _) (by simp) ?_; (case hd => rfl); (case hg => rfl); (case hr => exact u15_0); (case hp => exact (Reps.none _ _)); intro iR w7 iS hb hg_ hnew_; clear hg_ hnew_; (first | rw [← eB.out] at iS | (simp only [Int.reduceToNat] at iS; rw [← eB.out] at iS)); have bL := aM (Kd.R_lower iS (below_size xbg)); replace aV := xbb aV hb; replace HB := xbs hb; clear hb iS; obtain ⟨gS, gT, gU, gV⟩ := xf2 (w := w7) aV) | ((with_reducible refine gC 84 rfl ?_); refine goesLY (some 18) rfl Try.func84 #[.agg #[.int .i64 aK, .slice bH aT.length bI], .int .i64 a1] ?_; (with_reducible refine (impl_DiskRead.calls k aK _ _ aT a1 dW true _ ?side1 ?side2 A3.out).mono ?_); (case side1 => exact xcb dZ); (case side2 => exact eA.out); rintro e sU ⟨rfl, hb⟩; refine ⟨_, rfl, ?_⟩; replace bL := xrb bL hb; replace aV := xbb aV hb; replace HB := xbs hb; (try clear hb)) | ((with_reducible refine gD 25 rfl ?_); refine Kd.V_conv _ 5 rfl (N := 25) rfl 9 22 _ rfl dW rfl Try.underlying9 Try.underlying22 Try.underlying5 (oda) (ok := fun k_ => sU.heap.size ≤ k_) (Nat.le_refl _) (Below.refl _ _) (Nat.le_refl _) ?_; intro qD tR eN hb hg_ hnew_; clear hg_ hnew_; (first | rw [← gF.out] at eN | (simp only [Int.reduceToNat] at eN; rw [← gF.out] at eN)); have iU := aM (Kd.V_lower (Kd.V_mono (ok' := fun k_ => some k_ ≠ (iR : Value).ownBlock ∧ k_ ≠ cU) eN (fun k_ hk_ => ⟨(Kd.fresh' (Kd.R_lt (xr bL)) k_ hk_), (Kd.freshB (g := cU) (o := .cells #[.int .i64 aK, .slice bH aT.length bI] 55 (0, 0)) xblk k_ hk_)⟩)) (below_size xbg)); replace bL := xrb bL hb; replace aV := xbb aV hb; replace HB := xbs hb; clear hb eN))
   go_loopg [6, 10] k (fun kq v6 sV w' => ∃ (cI : List ByteArray) (cV : Int), sV = .int .i64 cV ∧ Aside0 (impl_JournalRead.l0 kq cI dH cV = some (r1, r2)) ∧ Aside0 (kq ≤ k) ∧ Aside0 (Kd.R Kd.string 9 w' w.heap.size (fun _ => True) v6 cI) ∧ Aside0 (Kd.V (Kd.int .u8) 5 w' w.heap.size (fun k_ => some k_ ≠ (v6 : Value).ownBlock ∧ k_ ≠ cU) qD dH) ∧ Aside0 (w'.heap[cU]? = some (.cells #[.int .i64 aK, (.slice bH aT.length bI)] 55 (0, 0))) ∧ Aside0 (Below w.heap.size w w'))
   case atStart => exact ⟨(cW), (0), u15_1, H', ⟨Nat.le_refl _⟩, ⟨u15_9⟩, ⟨by (with_reducible repeat (first | apply Kd.V_alloc | apply Kd.V_drewN | apply Kd.V_drew)); exact iU.out⟩, ⟨xblk⟩, ⟨xbg⟩⟩
   case round =>
    clear H'; try clear p2
    try clear c4
    try clear c5
    try clear gQ
    try clear gR
    try clear qC
    try clear c8
    try clear gS gT gU gV
    obtain ⟨cI, cV, rfl, HA, HK1, cH, cG, aV, HB⟩ := hrel; cases gk with
    | zero => exact absurd HA.out (by simp [impl_JournalRead.l0_z])
    | succ k1 =>
     have H := HA.out; clear HA; simp only [impl_JournalRead.l0_s] at H; by_cases dA : (cI.length : Int) < 2000
     ·rw [if_pos dA] at H; have eK : decide ((cI.length : Int) < 2000) = true := decide_eq_true dA; have fZ : decide (cI.length < 2000) = true := decide_eq_true (by omega); clear dA; replace H := oB H; obtain ⟨⟨eO, eV, gW⟩, iV, H⟩ := H; (try dsimp only at H); have rS := aM iV; clear iV
      by_cases eS : gW = 0
      ·rw [if_pos eS] at H; obtain ⟨gA, gB⟩ := bT eS; clear eS; by_cases eW : cI.length < 8796093022208
       ·rw [if_pos eW] at H; have LMc16 := aM eW; clear eW; obtain ⟨iW, dJ⟩ : ∃ y_ : List ByteArray, y_ = (cI ++ [strOfNums eO]) := ⟨_, rfl⟩; replace H : (impl_JournalRead.l0 k1 iW dH eV) = some (r1, r2) := by first | (rw [dJ]; with_reducible exact H) | (have H2_ := oS H; rw [dJ]; with_reducible exact H2_) | (have H2_ := oS H; with_reducible exact H2_) | with_reducible exact H | (rw [dJ]; exact H) | exact H
        have iX := aM dJ; clear dJ; have H' := aM H; clear H; obtain ⟨qE, qF, qG⟩ := Kd.R_slice cH.out; subst qG; obtain ⟨qH, qI, qJ⟩ := Kd.V_slice cG.out; subst qJ; go_wp2_with (first | ((with_reducible refine gC 85 rfl ?_); refine goesLY (some 32) rfl Try.func85 #[.slice qH dH.length qI, .int .i64 cV] ?_; (with_reducible refine (impl_Unseal.calls k1 _ _ dH cV eO eV gW _ ?side1 ?side2 rS.out).mono ?_); (case side1 => repeat (first | exact (Kd.V_reads' cG.out).2.2 | (with_reducible refine Kd.C_alloc ?_ _) | (with_reducible refine Kd.C_drewN ?_ _) | (with_reducible refine Kd.C_drew ?_))); (case side2 => exact (Kd.V_reads' cG.out).2.1); rintro e hZ ⟨iY, rfl, bJ, hb⟩; refine ⟨_, rfl, ?_⟩; replace cH := xrb cH hb; replace cG := aM (Kd.V_elder' u15_10 (Kd.R_base bJ) hb); have eC := aM (Kd.R_lower bJ (below_size xbg)); replace aV := xbb aV hb; replace HB := xbs hb; (try clear hb bJ); have hcv20 := own_string (P := Try.prog) Try.underlying22 Try.underlying5 Try.underlying9 (Kd.own_of_R eC.out)) | ((with_reducible refine gate_builtin (b := .append) (xs := #[.tmp 38, .tmp 41]) rfl ?_); at_builtin; refine Kd.R_append Kd.string (w0 := w) w.heap.size rfl (.tmp 38) (.tmp 41) 91 9 (.string ⟨#[]⟩) 16 rfl Try.underlying91 info9 rfl (by decide) (by omega) (.slice qE cI.length qF) cI (strOfNums eO) [.string (strOfNums eO)] (fun _ => True) (fun _ => False) rfl rfl ?aP (fun _ hk => hk.elim) ?aF ?aO ?aB ?aS ?aL ?_; (case aP => exact rfl); (case aB => exact xbg); (case aF => exact (fun _ _ => trivial)); (case aO => exact (xr cH)); (case aS => exact (below_size xbg)); (case aL => have := LMc16.out; omega); intro sW rR ho hb hg hat; rw [← iX.out] at ho; replace cG := aM (Kd.V_afterv (ok := (fun k_ => some k_ ≠ (iY : Value).ownBlock ∧ k_ ≠ cU)) (by (with_reducible repeat (first | apply Kd.V_alloc | apply Kd.V_drewN | apply Kd.V_drew)); exact Kd.V_mono cG.out (fun _ hk => ⟨⟨hk.2, hk.1.2⟩, hk.1.1⟩)) hg hat); replace aV := aM (blk_grown (g := cU) (o := .cells #[.int .i64 aK, .slice bH aT.length bI] 55 (0, 0)) xblk hg (Kd.R_ne cH.out aV.out (by decide))); replace eC := aM (Kd.R_over' (xr eC) (Kd.R_typed (xr cH)) (by decide) hg); replace HB := aM (hb); have iZ := aM (ho); clear cH; clear ho hb hg hat))
        go_roundg k1
        case measure => have := HK1.out; omega
        case rel => exact ⟨(iW), (eV), u15_1, H', ⟨by have := HK1.out; omega⟩, ⟨by (with_reducible repeat (first | apply Kd.R_alloc | apply Kd.R_drewN | apply Kd.R_drew)); exact iZ.out⟩, ⟨by (with_reducible repeat (first | apply Kd.V_alloc | apply Kd.V_drewN | apply Kd.V_drew)); exact Kd.V_mono cG.out (fun _ hk => ⟨hk.2, hk.1.2⟩)⟩, ⟨xblk⟩, ⟨xbg⟩⟩
       ·rw [if_neg eW] at H; exact absurd H (by simp)
      ·rw [if_neg eS] at H; obtain ⟨gA, gB⟩ := bF eS; simp only [Option.some.injEq, Prod.mk.injEq] at H; obtain ⟨rfl, rfl⟩ := H; obtain ⟨dU, dV, gN⟩ := Kd.R_slice cH.out; subst gN; obtain ⟨qK, qL, qM⟩ := Kd.V_slice cG.out; subst qM; go_wp2_with (first | ((with_reducible refine gC 85 rfl ?_); refine goesLY (some 32) rfl Try.func85 #[.slice qK dH.length qL, .int .i64 cV] ?_; (with_reducible refine (impl_Unseal.calls k1 _ _ dH cV eO eV gW _ ?side1 ?side2 rS.out).mono ?_); (case side1 => repeat (first | exact (Kd.V_reads' cG.out).2.2 | (with_reducible refine Kd.C_alloc ?_ _) | (with_reducible refine Kd.C_drewN ?_ _) | (with_reducible refine Kd.C_drew ?_))); (case side2 => exact (Kd.V_reads' cG.out).2.1); rintro e qN ⟨iY, rfl, bJ, hb⟩; refine ⟨_, rfl, ?_⟩; replace cH := xrb cH hb; replace cG := aM (Kd.V_elder' u15_10 (Kd.R_base bJ) hb); have eC := aM (Kd.R_lower bJ (below_size xbg)); replace aV := xbb aV hb; replace HB := xbs hb; (try clear hb bJ)))
       go_ret2
       exact ⟨_, xerr, u15_11, xbg⟩
     ·rw [if_neg dA] at H; have eK : decide ((cI.length : Int) < 2000) = false := decide_eq_false dA; have fZ : decide (cI.length < 2000) = false := decide_eq_false (by omega); clear dA; simp only [Option.some.injEq, Prod.mk.injEq] at H; obtain ⟨rfl, rfl⟩ := H; obtain ⟨sX, sY, qO⟩ := Kd.R_slice cH.out; subst qO; go_wp2; go_ret2
      exact ⟨_, xerr, u15_11, xbg⟩
  ·rw [if_neg c5] at H; exact absurd H (by simp)
 ·replace c4 := Bool.eq_false_iff.mpr c4; subst c4; replace H := iN H; simp only [Option.some.injEq, Prod.mk.injEq] at H; obtain ⟨rfl, rfl⟩ := H; go_enter Try.func58, Try.ntmps58
  go_wp2_with (first | ((with_reducible refine gD 2 rfl ?_); refine boxE (N := 2) rfl (cs := #[.int .i64 aK, .slice bH aT.length bI]) (t := 55) ?_; intro cU hg sR hbox hb; have aV := aM (hbox); have iP := aM (xge hg); have iQ := aM (xge hg); replace HB := xbs hb; clear hb hbox hg) | ((with_reducible refine gD 14 rfl ?_); refine Kd.R_lit Kd.string _ 9 ?hg (N := 14) ?hd (xs := ([] : List ByteArray)) (inner := []) (ok := fun _ => True) (okp := fun _ => True) ?hr ?hp (fun _ hk => hk) trivial (Below.refl _ _) (Nat.le_refl _) (by simp) ?_; (case hd => rfl); (case hg => rfl); (case hr => exact u15_0); (case hp => exact (Reps.none _ _)); intro iR rT eP hb hg_ hnew_; clear hg_ hnew_; (first | rw [← eB.out] at eP | (simp only [Int.reduceToNat] at eP; rw [← eB.out] at eP)); have bL := aM (Kd.R_lower eP (below_size xbg)); replace aV := xbb aV hb; replace HB := xbs hb; clear hb eP; obtain ⟨kA, kB, kC, kE⟩ := xf2 (w := rT) aV) | ((with_reducible refine gC 84 rfl ?_); refine goesLY (some 18) rfl Try.func84 #[.agg #[.int .i64 aK, .slice bH aT.length bI], .int .i64 a1] ?_; (with_reducible refine (impl_DiskRead.calls k aK _ _ aT a1 dW false _ ?side1 ?side2 A3.out).mono ?_); (case side1 => exact xcb dZ); (case side2 => exact eA.out); rintro e tS ⟨rfl, hb⟩; refine ⟨_, rfl, ?_⟩; replace bL := xrb bL hb; replace aV := xbb aV hb; replace HB := xbs hb; (try clear hb)))
  go_ret2
  exact ⟨_, xerr, u15_9, xbg⟩

/-! ### impl_HardLoad: function 23 -/
def impl_HardLoad.l0 : Nat → List (S38) → List ByteArray → Int → Int → Option (Int × Int × (List (S36)) × Int)
 | 0, _, _, _, _ => none
 | k + 1, x8, qP, rU, jA => if jA < rU then (if 0 ≤ jA then (if jA < (qP.length : Int) then ((impl_RecRead.f k (rdOf ByteArray.empty qP jA)).bind fun bE => (if bE.2.2.2.2.2.2.2.2.2.2 = true then (if x8.length < 1599289640401 then (impl_HardLoad.l0 k (x8 ++ [(⟨bE.1, bE.2.1, bE.2.2.1, bE.2.2.2.1, (⟨bE.2.2.2.2.1, (⟨bE.2.2.2.2.2.1, bE.2.2.2.2.2.2.1, bE.2.2.2.2.2.2.2.1, bE.2.2.2.2.2.2.2.2.1, bE.2.2.2.2.2.2.2.2.2.1⟩ : S34)⟩ : S36)⟩ : S38)]) qP rU (wrap64 (jA + 1))) else (none)) else ((impl_HardOf.f k x8).bind fun eD => (some (eD.1, eD.2.1, eD.2.2.1, eD.2.2.2))))) else (none)) else (none)) else ((impl_HardOf.f k x8).bind fun eE => (some (eE.1, eE.2.1, eE.2.2.1, eE.2.2.2)))
def impl_HardLoad.f (k : Nat) (aK : Int) (aT : List (S112)) (a1 : Int) : Option (Int × Int × (List (S36)) × Int) := (impl_JournalRead.f k aK aT a1).bind fun dK => (impl_HardLoad.l0 k (([] : List (S38))) dK.1 (dK.1.length : Int) 0)
theorem u15_mq2 {p : Prop} (h : p := by repeat' first | (with_reducible first | exact eI _ _ _ _ | exact impl_HardOf.mono _ _ | exact impl_JournalRead.mono _ _ _ _ | exact impl_RecRead.mono _ _ | exact LeO.refl _ | exact LeO.none _ | refine LeO.ite ?_ ?_ | refine LeO.bind ?_ (fun _ => ?_)) | exact eI _ _ _ _ | exact impl_HardOf.mono _ _ | exact impl_JournalRead.mono _ _ _ _ | exact impl_RecRead.mono _ _ | exact LeO.none _ | refine LeO.ite ?_ ?_ | refine LeO.bind ?_ (fun _ => ?_)) : p := h
set_option maxRecDepth 100000 in
theorem impl_HardLoad.mono_l : ∀ k, (∀ y0 y1 y2 y3, LeO (impl_HardLoad.l0 k y0 y1 y2 y3) (impl_HardLoad.l0 (k + 1) y0 y1 y2 y3))
 | 0 => fun _ _ _ _ r h => by simp [impl_HardLoad.l0] at h
 | k + 1 => by
  have eI := impl_HardLoad.mono_l k
  ·intro y0 y1 y2 y3; unfold impl_HardLoad.l0; exact u15_mq2
theorem impl_HardLoad.mono : ∀ a0 a1 a2 k, LeO (impl_HardLoad.f k a0 a1 a2) (impl_HardLoad.f (k + 1) a0 a1 a2) := by
 intro a0 a1 a2 k
 have eI := impl_HardLoad.mono_l k
 unfold impl_HardLoad.f
 exact u15_mq2
set_option maxHeartbeats 8000000 in
set_option maxRecDepth 100000 in
theorem impl_HardLoad.calls (k : Nat) (aK : Int) (bH : Option Addr) (bI : Nat) (aT : List (S112)) (a1 : Int) (r1 : Int) (r2 : Int) (r3 : List (S36)) (r4 : Int) (w : World) (dE : Kd.C k112 w bH aT.length aT) (dF : aT.length ≤ bI) (h : impl_HardLoad.f k aK aT a1 = some (r1, r2, r3, r4)) :
 Calls Try.prog 23 #[.agg #[.int .i64 aK, .slice bH aT.length bI], .int .i64 a1] w fun e w' => ∃ v2_ : Value, e = .returned (.tuple #[.agg #[.int .i64 r1, .int .i64 r2, v2_], .int .i64 r4]) ∧ Kd.R k36 36 w' w.heap.size (fun _ => True) v2_ r3 ∧ Below w.heap.size w w' := by
 have qA := Try.underlying55
 have sZ := Try.underlying28
 have tA := Try.underlying38
 have dZ := aM dE
 have eA := aM dF
 clear dE dF
 have HB := aM (Below.refl w.heap.size w)
 have H : ((impl_JournalRead.f k aK aT a1).bind fun dK => (impl_HardLoad.l0 k (([] : List (S38))) dK.1 (dK.1.length : Int) 0)) = some (r1, r2, r3, r4) := h
 clear h
 replace H := oB H
 obtain ⟨⟨aY, qQ⟩, fY, H⟩ := H
 (try dsimp only at H)
 have A3 := aM fY
 clear fY
 obtain ⟨jB, dL⟩ : ∃ y_ : List (S38), y_ = (([] : List (S38))) := ⟨_, rfl⟩
 replace H : (impl_HardLoad.l0 k jB aY (aY.length : Int) 0) = some (r1, r2, r3, r4) := by first | (rw [dL]; with_reducible exact H) | (have H2_ := oS H; rw [dL]; with_reducible exact H2_) | (have H2_ := oS H; with_reducible exact H2_) | with_reducible exact H | (rw [dL]; exact H) | exact H
 have gG := aM dL
 clear dL
 have H' := aM H
 clear H
 go_enter Try.func23, Try.ntmps23
 go_wp2_with (first | ((with_reducible refine gD 2 rfl ?_); refine boxE (N := 2) rfl (cs := #[.int .i64 aK, .slice bH aT.length bI]) (t := 55) ?_; intro gH hg w4 hbox hb; have aG := aM (hbox); have rV := aM (xge hg); have rW := aM (xge hg); replace HB := xbs hb; clear hb hbox hg) | ((with_reducible refine gD 4 rfl ?_); refine boxE (N := 4) rfl (cs := #[.int .i64 0, .int .i64 0, .slice none 0 0]) (t := 28) ?_; intro eF hg w5 hbox hb; have rX := aM (xge hg); have rY := aM (xge hg); replace HB := xbs hb; have cA := nblt aG hg; have cB := nbgt aG hg; replace aG := xbb aG hb; have aH := aM (hbox); clear hb hbox hg; have tB := cA.out; have tC := cB.out; obtain ⟨gX, gY, gZ, hJ⟩ := xf2 (w := w5) aG) | ((with_reducible refine gC 58 rfl ?_); refine goesLY (some 16) rfl Try.func58 #[.agg #[.int .i64 aK, .slice bH aT.length bI], .int .i64 a1] ?_; (with_reducible refine (impl_JournalRead.calls k aK _ _ aT a1 aY qQ _ ?side1 ?side2 A3.out).mono ?_); (case side1 => exact xcb dZ); (case side2 => exact eA.out); rintro e w8 ⟨tD, rfl, bJ, hb⟩; refine ⟨_, rfl, ?_⟩; have eG := aM (Kd.R_lower bJ (below_size xbg)); replace aG := xbb aG hb; replace aH := xbb aH hb; replace HB := xbs hb; (try clear hb bJ)) | ((with_reducible refine gD 19 rfl ?_); refine Kd.R_lit k38 _ 38 ?hg (N := 19) ?hd (xs := ([] : List (S38))) (inner := []) (ok := fun _ => True) (okp := fun _ => True) ?hr ?hp (fun _ hk => hk) trivial (Below.refl _ _) (Nat.le_refl _) (by simp) ?_; (case hd => rfl); (case hg => rfl); (case hr => exact u15_0); (case hp => exact (Reps.none _ _)); intro tE w9 eQ hb hg_ hnew_; clear hg_ hnew_; (first | rw [← gG.out] at eQ | (simp only [Int.reduceToNat] at eQ; rw [← gG.out] at eQ)); replace eG := xrb eG hb; have jC := aM (Kd.R_lower eQ (below_size xbg)); replace aG := xbb aG hb; replace aH := xbb aH hb; replace HB := xbs hb; clear hb eQ; obtain ⟨qR, hU, qS⟩ := Kd.R_slice eG.out; subst qS))
 go_loopg [8, 22] k (fun kq v8 tF w' => ∃ (cJ : List (S38)) (aN : Int), tF = .int .i64 aN ∧ Aside0 (impl_HardLoad.l0 kq cJ aY (aY.length : Int) aN = some (r1, r2, r3, r4)) ∧ Aside0 (kq ≤ k) ∧ Aside0 (Kd.R k38 38 w' w.heap.size (fun _ => True) v8 cJ) ∧ Aside0 (Kd.R Kd.string 9 w' w.heap.size (fun _ => True) (.slice qR aY.length hU) aY) ∧ Aside0 (w'.heap[gH]? = some (.cells #[.int .i64 aK, (.slice bH aT.length bI)] 55 (0, 0))) ∧ Aside0 (w'.heap[eF]? = some (.cells #[.int .i64 0, .int .i64 0, (.slice none 0 0)] 28 (0, 0))) ∧ Aside0 (Below w.heap.size w w'))
 case atStart => exact ⟨(jB), (0), u15_1, H', ⟨Nat.le_refl _⟩, ⟨by (with_reducible repeat (first | apply Kd.R_alloc | apply Kd.R_drewN | apply Kd.R_drew)); exact jC.out⟩, ⟨by (with_reducible repeat (first | apply Kd.R_alloc | apply Kd.R_drewN | apply Kd.R_drew)); exact eG.out⟩, ⟨xblk⟩, ⟨xblk⟩, ⟨xbg⟩⟩
 case round =>
  clear H'; try clear c2
  try clear p2
  try clear c5
  try clear c6
  try clear gX gY gZ hJ
  obtain ⟨cJ, aN, rfl, HA, HK1, aX, aU, aG, aH, HB⟩ := hrel; cases gk with
  | zero => exact absurd HA.out (by simp [impl_HardLoad.l0])
  | succ k1 =>
   have H := HA.out; clear HA; simp only [impl_HardLoad.l0] at H; by_cases iA : aN < (aY.length : Int)
   ·rw [if_pos iA] at H; have jD : decide (aN < (aY.length : Int)) = true := decide_eq_true iA; clear iA; by_cases dA : 0 ≤ aN
    ·rw [if_pos dA] at H; have eK : decide (0 ≤ aN) = true := decide_eq_true dA; clear dA; by_cases eU : aN < (aY.length : Int)
     ·rw [if_pos eU] at H; have iG : decide (aN < (aY.length : Int)) = true := decide_eq_true eU; clear eU; replace H := oB H; obtain ⟨⟨bM, bN, bO, bP, bQ, bR, bU, bV, bW, bX, qT⟩, jE, H⟩ := H; (try dsimp only at H); have rZ := aM jE; clear jE
      by_cases eW : qT = true
      ·subst eW; replace H := iT H; by_cases eT : cJ.length < 1599289640401
       ·rw [if_pos eT] at H; have LMc17 := aM eT; clear eT; obtain ⟨jF, dM⟩ : ∃ y_ : List (S38), y_ = (cJ ++ [(⟨bM, bN, bO, bP, (⟨bQ, (⟨bR, bU, bV, bW, bX⟩ : S34)⟩ : S36)⟩ : S38)]) := ⟨_, rfl⟩; replace H : (impl_HardLoad.l0 k1 jF aY (aY.length : Int) (wrap64 (aN + 1))) = some (r1, r2, r3, r4) := by first | (rw [dM]; with_reducible exact H) | (have H2_ := oS H; rw [dM]; with_reducible exact H2_) | (have H2_ := oS H; with_reducible exact H2_) | with_reducible exact H | (rw [dM]; exact H) | exact H
        have jG := aM dM; clear dM; have H' := aM H; clear H; have p438 : 0 ≤ (aN : Int) := oda; have q438 : aN < (aY.length : Int) := oda; obtain ⟨eR, hX, eX⟩ := Kd.at_string (Kd.R_reads' aU.out).2.2 aN p438 q438; cases hX
        replace p438 := eq_true p438; replace q438 := eq_true q438
        go_wp2_with (first | ((with_reducible refine gC 16 rfl ?_); refine goesLY (some 28) rfl Try.func16 #[.string (rdOf ByteArray.empty aY aN)] ?_; (with_reducible refine (impl_RecRead.calls k1 (rdOf ByteArray.empty aY aN) bM bN bO bP bQ bR bU bV bW bX true _ rZ.out).mono ?_); rintro e rQ ⟨rfl, hb⟩; refine ⟨_, rfl, ?_⟩; replace aX := xrb aX hb; replace aU := xrb aU hb; replace aG := xbb aG hb; replace aH := xbb aH hb; replace HB := xbs hb; (try clear hb)) | ((with_reducible refine gD 11 rfl ?_); refine boxE (N := 11) rfl (cs := #[.int .i64 0, .int .i64 0, .int .i64 0, .int .i64 0, .int .i64 0, .int .i64 0, .int .i64 0, .int .i64 0, .int .i64 0, .string (⟨#[]⟩ : ByteArray)]) (t := 38) ?_; intro aA hg hZ hbox hb; replace aX := aM (Kd.R_below (Kd.R_elderB (xr aX) aA (Nat.le_of_eq hg.symm)) hb); replace aU := xrb aU hb; have jH := aM (xge hg); have jI := aM (xge hg); replace HB := xbs hb; have cC := nblt aG hg; have cD := nbgt aG hg; have cE := nblt aH hg; have cF := nbgt aH hg; replace aG := xbb aG hb; replace aH := xbb aH hb; have bZ := aM (hbox); clear hb hbox hg; have jJ := cD.out; have jK := cC.out; have sA := cF.out; have sB := cE.out; obtain ⟨eY, eZ, fA, fB, fC, kF, kG, kH, kI, kJ, fD, fE, fF, fG, fH, kK, kL, kM, kN, kO⟩ := xf10 (w := hZ) bZ) | ((with_reducible refine gate_store (t := 38) (p := 11) rfl ?_); refine store_event (t := 38) (p := 11) (v := ?vo_w23) (w1 := ((((((((((hZ.setCell ⟨aA, 0, none⟩ (.int .i64 bM)).setCell ⟨aA, 1, none⟩ (.int .i64 bN)).setCell ⟨aA, 2, none⟩ (.int .i64 bO)).setCell ⟨aA, 3, none⟩ (.int .i64 bP)).setCell ⟨aA, 4, none⟩ (.int .i64 bQ)).setCell ⟨aA, 5, none⟩ (.int .i64 bR)).setCell ⟨aA, 6, none⟩ (.int .i64 bU)).setCell ⟨aA, 7, none⟩ (.int .i64 bV)).setCell ⟨aA, 8, none⟩ (.int .i64 bW)).setCell ⟨aA, 9, none⟩ (.string bX))) ?hg ?ho ?hn ?hr ?_; (case ho | hg | hn => rfl); (case hr => exact u15_0); intro hY hw; replace aX : Aside0 (Kd.R k38 38 hY w.heap.size (fun k_ => k_ ≠ aA) u8 cJ) := ⟨u15_12⟩; replace aU : Aside0 (Kd.R Kd.string 9 hY w.heap.size (fun _ => True) (.slice (some eR) aY.length hU) aY) := xwm hw aU (fun _ _ => trivial); replace aG := xwc hw aG; replace aH := xwc hw aH; replace bZ : Aside0 (hY.heap[aA]? = some (.cells #[.int .i64 bM, .int .i64 bN, .int .i64 bO, .int .i64 bP, .int .i64 bQ, .int .i64 bR, .int .i64 bU, .int .i64 bV, .int .i64 bW, .string bX] 38 (0, 0))) := xwp hw; replace HB := xbw hw HB; clear hw; obtain ⟨kP, kQ, kR, kS, kT, kU, kV, kW, kX, kY, kZ, lA, lB, lC, lE, lF, lG, lH, lI, lJ⟩ := xf10 (w := hY) bZ) | ((with_reducible refine gate_builtin (b := .append) (xs := #[.tmp 33, .tmp 35]) rfl ?_); at_builtin; refine Kd.R_append k38 (w0 := w) w.heap.size rfl (.tmp 33) (.tmp 35) 24 38 (.agg #[(.int .i64 0), (.int .i64 0), (.int .i64 0), (.int .i64 0), (.int .i64 0), (.int .i64 0), (.int .i64 0), (.int .i64 0), (.int .i64 0), (.string ⟨#[]⟩)]) 88 rfl Try.underlying24 info38 rfl (by decide) (by omega) u8 cJ (⟨bM, bN, bO, bP, (⟨bQ, (⟨bR, bU, bV, bW, bX⟩ : S34)⟩ : S36)⟩ : S38) [.int .i64 bM, .int .i64 bN, .int .i64 bO, .int .i64 bP, .int .i64 bQ, .int .i64 bR, .int .i64 bU, .int .i64 bV, .int .i64 bW, .string bX] (fun k_ => k_ ≠ aA) (fun _ => False) rfl rfl ?aP (fun _ hk => hk.elim) ?aF ?aO ?aB ?aS ?aL ?_; (case aP => exact k38_mkM _ _ _ (⟨bM, bN, bO, bP, (⟨bQ, (⟨bR, bU, bV, bW, bX⟩ : S34)⟩ : S36)⟩ : S38)); (case aB => exact xbg); (case aF => exact (fun k_ hk => Kd.freshB (g := aA) (o := .cells #[.int .i64 bM, .int .i64 bN, .int .i64 bO, .int .i64 bP, .int .i64 bQ, .int .i64 bR, .int .i64 bU, .int .i64 bV, .int .i64 bW, .string bX] 38 (0, 0)) xblk k_ hk)); (case aO => exact (xr aX)); (case aS => exact (below_size xbg)); (case aL => have := LMc17.out; omega); intro tG sS ho hb hg hat; rw [← jG.out] at ho; replace aU := aM (Kd.R_over' (xr aU) (Kd.R_typed (xr aX)) (by decide) hg); replace aG := aM (blk_grown (g := gH) (o := .cells #[.int .i64 aK, .slice bH aT.length bI] 55 (0, 0)) xblk hg (Kd.R_ne aX.out aG.out (by decide))); replace aH := aM (blk_grown (g := eF) (o := .cells #[.int .i64 0, .int .i64 0, .slice none 0 0] 28 (0, 0)) xblk hg (Kd.R_ne aX.out aH.out (by decide))); replace bZ := aM (blk_grown (g := aA) (o := .cells #[.int .i64 bM, .int .i64 bN, .int .i64 bO, .int .i64 bP, .int .i64 bQ, .int .i64 bR, .int .i64 bU, .int .i64 bV, .int .i64 bW, .string bX] 38 (0, 0)) xblk hg (Kd.R_away aX.out (fun _ hk => hk))); replace HB := aM (hb); have jL := aM (ho); clear aX; clear ho hb hg hat))
        go_roundg k1
        case measure => have := HK1.out; omega
        case rel => exact ⟨(jF), (wrap64 (aN + 1)), u15_1, H', ⟨by have := HK1.out; omega⟩, ⟨by (with_reducible repeat (first | apply Kd.R_alloc | apply Kd.R_drewN | apply Kd.R_drew)); exact Kd.R_mono jL.out (fun _ hk => trivial)⟩, ⟨by (with_reducible repeat (first | apply Kd.R_alloc | apply Kd.R_drewN | apply Kd.R_drew)); exact aU.out⟩, ⟨xblk⟩, ⟨xblk⟩, ⟨xbg⟩⟩
       ·rw [if_neg eT] at H; exact absurd H (by simp)
      ·replace eW := Bool.eq_false_iff.mpr eW; subst eW; replace H := iN H; replace H := oB H; obtain ⟨⟨jM, jN, jO, qU⟩, jP, H⟩ := H; (try dsimp only at H); have tH := aM jP; clear jP
       simp only [Option.some.injEq, Prod.mk.injEq] at H; obtain ⟨rfl, rfl, rfl, rfl⟩ := H; have p438 : 0 ≤ (aN : Int) := oda; have q438 : aN < (aY.length : Int) := oda; obtain ⟨eR, hX, eX⟩ := Kd.at_string (Kd.R_reads' aU.out).2.2 aN p438 q438; cases hX
       replace p438 := eq_true p438; replace q438 := eq_true q438; go_wp2_with (first | ((with_reducible refine gC 16 rfl ?_); refine goesLY (some 28) rfl Try.func16 #[.string (rdOf ByteArray.empty aY aN)] ?_; (with_reducible refine (impl_RecRead.calls k1 (rdOf ByteArray.empty aY aN) bM bN bO bP bQ bR bU bV bW bX false _ rZ.out).mono ?_); rintro e rT ⟨rfl, hb⟩; refine ⟨_, rfl, ?_⟩; replace aX := xrb aX hb; replace aU := xrb aU hb; replace aG := xbb aG hb; replace aH := xbb aH hb; replace HB := xbs hb; (try clear hb)) | ((with_reducible refine gD 11 rfl ?_); refine boxE (N := 11) rfl (cs := #[.int .i64 0, .int .i64 0, .int .i64 0, .int .i64 0, .int .i64 0, .int .i64 0, .int .i64 0, .int .i64 0, .int .i64 0, .string (⟨#[]⟩ : ByteArray)]) (t := 38) ?_; intro aA hg gO hbox hb; replace aX := aM (Kd.R_below (Kd.R_elderB (xr aX) aA (Nat.le_of_eq hg.symm)) hb); replace aU := xrb aU hb; have jH := aM (xge hg); have jI := aM (xge hg); replace HB := xbs hb; have cC := nblt aG hg; have cD := nbgt aG hg; have cE := nblt aH hg; have cF := nbgt aH hg; replace aG := xbb aG hb; replace aH := xbb aH hb; have bZ := aM (hbox); clear hb hbox hg; have sC := cD.out; have sD := cC.out; have jQ := cF.out; have jR := cE.out; obtain ⟨fI, fJ, fK, fL, fM, lK, lL, lM, lN, lO, fN, fO, fP, fQ, fR, lP, lQ, lR, lS, lT⟩ := xf10 (w := gO) bZ) | ((with_reducible refine gate_store (t := 38) (p := 11) rfl ?_); refine store_event (t := 38) (p := 11) (v := ?vo_w32) (w1 := ((((((((((gO.setCell ⟨aA, 0, none⟩ (.int .i64 bM)).setCell ⟨aA, 1, none⟩ (.int .i64 bN)).setCell ⟨aA, 2, none⟩ (.int .i64 bO)).setCell ⟨aA, 3, none⟩ (.int .i64 bP)).setCell ⟨aA, 4, none⟩ (.int .i64 bQ)).setCell ⟨aA, 5, none⟩ (.int .i64 bR)).setCell ⟨aA, 6, none⟩ (.int .i64 bU)).setCell ⟨aA, 7, none⟩ (.int .i64 bV)).setCell ⟨aA, 8, none⟩ (.int .i64 bW)).setCell ⟨aA, 9, none⟩ (.string bX))) ?hg ?ho ?hn ?hr ?_; (case ho | hg | hn => rfl); (case hr => exact u15_0); intro iM hw; replace aX : Aside0 (Kd.R k38 38 iM w.heap.size (fun k_ => k_ ≠ aA) u8 cJ) := ⟨u15_12⟩; replace aU : Aside0 (Kd.R Kd.string 9 iM w.heap.size (fun _ => True) (.slice (some eR) aY.length hU) aY) := xwm hw aU (fun _ _ => trivial); replace aG := xwc hw aG; replace aH := xwc hw aH; replace bZ : Aside0 (iM.heap[aA]? = some (.cells #[.int .i64 bM, .int .i64 bN, .int .i64 bO, .int .i64 bP, .int .i64 bQ, .int .i64 bR, .int .i64 bU, .int .i64 bV, .int .i64 bW, .string bX] 38 (0, 0))) := xwp hw; replace HB := xbw hw HB; clear hw; obtain ⟨dC, dD, gP⟩ := Kd.R_slice aX.out; subst gP) | ((with_reducible refine gC 8 rfl ?_); refine goesLY (some 39) rfl Try.func8 #[.slice dC cJ.length dD] ?_; (with_reducible refine (impl_HardOf.calls k1 _ _ cJ jM jN jO qU _ ?side1 ?side2 tH.out).mono ?_); (case side1 => exact xC aX); (case side2 => exact (Kd.R_reads' aX.out).2.1); rintro e iO ⟨tI, rfl, bJ, hb⟩; refine ⟨_, rfl, ?_⟩; replace aX := xrb aX hb; replace aU := xrb aU hb; have gI := aM (Kd.R_lower bJ (below_size xbg)); replace aG := xbb aG hb; replace aH := xbb aH hb; replace bZ := xbb bZ hb; replace HB := xbs hb; (try clear hb bJ); have jS := cB.out; have jT := cA.out; obtain ⟨fS, fT, fU, fV, fW, fX⟩ := xf3 (w := iO) aH; obtain ⟨qV, qW, qX⟩ := Kd.R_slice gI.out; subst qX))
       refine bodyPost_ret (results_ct rfl _ _ eF 28 #[.int .i64 jM, .int .i64 jN, .slice qV jO.length qW] (0, 0) _ rfl xP Try.underlying28 rfl (by kernel_rfl)) rfl ?_; exact ⟨_, xerr, xrm gI (fun _ _ => trivial), xbg⟩
     ·rw [if_neg eU] at H; exact absurd H (by simp)
    ·rw [if_neg dA] at H; exact absurd H (by simp)
   ·rw [if_neg iA] at H; have jD : decide (aN < (aY.length : Int)) = false := decide_eq_false iA; clear iA; replace H := oB H; obtain ⟨⟨jU, jV, jW, qY⟩, jX, H⟩ := H; (try dsimp only at H); have tJ := aM jX; clear jX
    simp only [Option.some.injEq, Prod.mk.injEq] at H; obtain ⟨rfl, rfl, rfl, rfl⟩ := H; obtain ⟨qZ, rA, rB⟩ := Kd.R_slice aX.out; subst rB; go_wp2_with (first | ((with_reducible refine gC 8 rfl ?_); refine goesLY (some 39) rfl Try.func8 #[.slice qZ cJ.length rA] ?_; (with_reducible refine (impl_HardOf.calls k1 _ _ cJ jU jV jW qY _ ?side1 ?side2 tJ.out).mono ?_); (case side1 => exact xC aX); (case side2 => exact (Kd.R_reads' aX.out).2.1); rintro e tK ⟨tL, rfl, bJ, hb⟩; refine ⟨_, rfl, ?_⟩; replace aX := xrb aX hb; replace aU := xrb aU hb; have gJ := aM (Kd.R_lower bJ (below_size xbg)); replace aG := xbb aG hb; replace aH := xbb aH hb; replace HB := xbs hb; (try clear hb bJ); have sE := cB.out; have sF := cA.out; obtain ⟨lU, lV, lW, lX, lY, lZ⟩ := xf3 (w := tK) aH; obtain ⟨rC, rE, rF⟩ := Kd.R_slice gJ.out; subst rF))
    refine bodyPost_ret (results_ct rfl _ _ eF 28 #[.int .i64 jU, .int .i64 jV, .slice rC jW.length rE] (0, 0) _ rfl xP Try.underlying28 rfl (by kernel_rfl)) rfl ?_; exact ⟨_, xerr, xrm gJ (fun _ _ => trivial), xbg⟩

/-! ### laws_eqCmd: function 96 -/
def laws_eqCmd.f (aK : Int) (cK : Int) (cL : Int) (cM : Int) (cN : ByteArray) (cO : Int) (cP : Int) (cQ : Int) (cR : Int) (cS : ByteArray) : Option (Bool) := if aK = cO then (if cK = cP then (if cL = cQ then (if cM = cR then (if cN.toList = cS.toList then (some true) else (some false)) else (some false)) else (some false)) else (some false)) else (some false)
set_option maxHeartbeats 8000000 in
set_option maxRecDepth 100000 in
theorem laws_eqCmd.calls (aK : Int) (cK : Int) (cL : Int) (cM : Int) (cN : ByteArray) (cO : Int) (cP : Int) (cQ : Int) (cR : Int) (cS : ByteArray) (r : Bool) (w : World) (h : laws_eqCmd.f aK cK cL cM cN cO cP cQ cR cS = some r) :
 Calls Try.prog 96 #[.agg #[.int .i64 aK, .int .i64 cK, .int .i64 cL, .int .i64 cM, .string cN], .agg #[.int .i64 cO, .int .i64 cP, .int .i64 cQ, .int .i64 cR, .string cS]] w fun e w' => e = .returned (.bool r) ∧ Below w.heap.size w w' := by
 have tM := Try.underlying34
 have HB := aM (Below.refl w.heap.size w)
 have H : (if aK = cO then (if cK = cP then (if cL = cQ then (if cM = cR then (if cN.toList = cS.toList then (some true) else (some false)) else (some false)) else (some false)) else (some false)) else (some false)) = some r := h
 clear h
 by_cases c3 : aK = cO
 ·rw [if_pos c3] at H; obtain ⟨rG, rH⟩ := bT c3; clear c3; by_cases c4 : cK = cP
  ·rw [if_pos c4] at H; obtain ⟨rI, rJ⟩ := bT c4; clear c4; by_cases c5 : cL = cQ
   ·rw [if_pos c5] at H; obtain ⟨gQ, gR⟩ := bT c5; clear c5; by_cases c6 : cM = cR
    ·rw [if_pos c6] at H; obtain ⟨rK, rL⟩ := bT c6; clear c6; by_cases c7 : cN.toList = cS.toList
     ·rw [if_pos c7] at H; obtain ⟨gL, rM⟩ := bT c7; clear c7; obtain rfl := Option.some.inj H; go_enter Try.func96, Try.ntmps96
      go_wp2_with (first | ((with_reducible refine gD 2 rfl ?_); refine boxE (N := 2) rfl (cs := #[.int .i64 aK, .int .i64 cK, .int .i64 cL, .int .i64 cM, .string cN]) (t := 34) ?_; intro dN hg w8 hbox hb; have aD := aM (hbox); have dO := aM (xge hg); have dP := aM (xge hg); replace HB := xbs hb; clear hb hbox hg) | ((with_reducible refine gD 3 rfl ?_); refine boxE (N := 3) rfl (cs := #[.int .i64 cO, .int .i64 cP, .int .i64 cQ, .int .i64 cR, .string cS]) (t := 34) ?_; intro dQ hg w9 hbox hb; have dR := aM (xge hg); have dS := aM (xge hg); replace HB := xbs hb; have aI := nblt aD hg; have aJ := nbgt aD hg; replace aD := xbb aD hb; have bG := aM (hbox); clear hb hbox hg; have sG := aI.out; have sH := aJ.out; obtain ⟨mA, mB, mC, mD, mE, mF, mG, mH, mI, mJ⟩ := xf5 (w := w9) aD; obtain ⟨mK, mL, mM, mN, mO, mP, mQ, mR, mS, mT⟩ := xf5 (w := w9) bG))
      go_ret
      exact ⟨xerr, xbg⟩
     ·rw [if_neg c7] at H; obtain ⟨gL, rM⟩ := bF c7; obtain rfl := Option.some.inj H; go_enter Try.func96, Try.ntmps96
      go_wp2_with (first | ((with_reducible refine gD 2 rfl ?_); refine boxE (N := 2) rfl (cs := #[.int .i64 aK, .int .i64 cK, .int .i64 cL, .int .i64 cM, .string cN]) (t := 34) ?_; intro dN hg tT hbox hb; have aD := aM (hbox); have dO := aM (xge hg); have dP := aM (xge hg); replace HB := xbs hb; clear hb hbox hg) | ((with_reducible refine gD 3 rfl ?_); refine boxE (N := 3) rfl (cs := #[.int .i64 cO, .int .i64 cP, .int .i64 cQ, .int .i64 cR, .string cS]) (t := 34) ?_; intro dQ hg sI hbox hb; have dR := aM (xge hg); have dS := aM (xge hg); replace HB := xbs hb; have aI := nblt aD hg; have aJ := nbgt aD hg; replace aD := xbb aD hb; have bG := aM (hbox); clear hb hbox hg; have sJ := aI.out; have sK := aJ.out; obtain ⟨mU, mV, mW, mX, mY, mZ, nA, nB, nC, nD⟩ := xf5 (w := sI) aD; obtain ⟨nE, nF, nG, nH, nI, nJ, nK, nL, nM, nN⟩ := xf5 (w := sI) bG))
      go_ret
      exact ⟨xerr, xbg⟩
    ·rw [if_neg c6] at H; obtain ⟨rK, rL⟩ := bF c6; obtain rfl := Option.some.inj H; go_enter Try.func96, Try.ntmps96
     go_wp2_with (first | ((with_reducible refine gD 2 rfl ?_); refine boxE (N := 2) rfl (cs := #[.int .i64 aK, .int .i64 cK, .int .i64 cL, .int .i64 cM, .string cN]) (t := 34) ?_; intro dN hg rQ hbox hb; have aD := aM (hbox); have dO := aM (xge hg); have dP := aM (xge hg); replace HB := xbs hb; clear hb hbox hg) | ((with_reducible refine gD 3 rfl ?_); refine boxE (N := 3) rfl (cs := #[.int .i64 cO, .int .i64 cP, .int .i64 cQ, .int .i64 cR, .string cS]) (t := 34) ?_; intro dQ hg hZ hbox hb; have dR := aM (xge hg); have dS := aM (xge hg); replace HB := xbs hb; have aI := nblt aD hg; have aJ := nbgt aD hg; replace aD := xbb aD hb; have bG := aM (hbox); clear hb hbox hg; have jJ := aI.out; have jK := aJ.out; obtain ⟨nO, nP, nQ, nR, nS, nT, nU, nV, nW, nX⟩ := xf5 (w := hZ) aD; obtain ⟨eY, eZ, fA, fB, fC, fD, fE, fF, fG, fH⟩ := xf5 (w := hZ) bG))
     go_ret
     exact ⟨xerr, xbg⟩
   ·rw [if_neg c5] at H; obtain ⟨gQ, gR⟩ := bF c5; obtain rfl := Option.some.inj H; go_enter Try.func96, Try.ntmps96
    go_wp2_with (first | ((with_reducible refine gD 2 rfl ?_); refine boxE (N := 2) rfl (cs := #[.int .i64 aK, .int .i64 cK, .int .i64 cL, .int .i64 cM, .string cN]) (t := 34) ?_; intro dN hg hY hbox hb; have aD := aM (hbox); have dO := aM (xge hg); have dP := aM (xge hg); replace HB := xbs hb; clear hb hbox hg) | ((with_reducible refine gD 3 rfl ?_); refine boxE (N := 3) rfl (cs := #[.int .i64 cO, .int .i64 cP, .int .i64 cQ, .int .i64 cR, .string cS]) (t := 34) ?_; intro dQ hg qN hbox hb; have dR := aM (xge hg); have dS := aM (xge hg); replace HB := xbs hb; have aI := nblt aD hg; have aJ := nbgt aD hg; replace aD := xbb aD hb; have bG := aM (hbox); clear hb hbox hg; have sL := aI.out; have sM := aJ.out; obtain ⟨nY, nZ, oA, oC, oD, oE, oF, oG, oH, oI⟩ := xf5 (w := qN) aD; obtain ⟨oJ, oK, oL, oM, oN, oO, oP, oQ, oR, oT⟩ := xf5 (w := qN) bG))
    go_ret
    exact ⟨xerr, xbg⟩
  ·rw [if_neg c4] at H; obtain ⟨rI, rJ⟩ := bF c4; obtain rfl := Option.some.inj H; go_enter Try.func96, Try.ntmps96
   go_wp2_with (first | ((with_reducible refine gD 2 rfl ?_); refine boxE (N := 2) rfl (cs := #[.int .i64 aK, .int .i64 cK, .int .i64 cL, .int .i64 cM, .string cN]) (t := 34) ?_; intro dN hg gO hbox hb; have aD := aM (hbox); have dO := aM (xge hg); have dP := aM (xge hg); replace HB := xbs hb; clear hb hbox hg) | ((with_reducible refine gD 3 rfl ?_); refine boxE (N := 3) rfl (cs := #[.int .i64 cO, .int .i64 cP, .int .i64 cQ, .int .i64 cR, .string cS]) (t := 34) ?_; intro dQ hg pX hbox hb; have dR := aM (xge hg); have dS := aM (xge hg); replace HB := xbs hb; have aI := nblt aD hg; have aJ := nbgt aD hg; replace aD := xbb aD hb; have bG := aM (hbox); clear hb hbox hg; have jQ := aI.out; have jR := aJ.out; obtain ⟨fI, fJ, fK, fL, fM, fN, fO, fP, fQ, fR⟩ := xf5 (w := pX) aD; obtain ⟨oU, oV, oW, oX, oY, oZ, pA, pB, pC, pD⟩ := xf5 (w := pX) bG))
   go_ret
   exact ⟨xerr, xbg⟩
 ·rw [if_neg c3] at H; obtain ⟨rG, rH⟩ := bF c3; obtain rfl := Option.some.inj H; go_enter Try.func96, Try.ntmps96
  go_wp2_with (first | ((with_reducible refine gD 2 rfl ?_); refine boxE (N := 2) rfl (cs := #[.int .i64 aK, .int .i64 cK, .int .i64 cL, .int .i64 cM, .string cN]) (t := 34) ?_; intro dN hg tU hbox hb; have aD := aM (hbox); have dO := aM (xge hg); have dP := aM (xge hg); replace HB := xbs hb; clear hb hbox hg) | ((with_reducible refine gD 3 rfl ?_); refine boxE (N := 3) rfl (cs := #[.int .i64 cO, .int .i64 cP, .int .i64 cQ, .int .i64 cR, .string cS]) (t := 34) ?_; intro dQ hg iO hbox hb; have dR := aM (xge hg); have dS := aM (xge hg); replace HB := xbs hb; have aI := nblt aD hg; have aJ := nbgt aD hg; replace aD := xbb aD hb; have bG := aM (hbox); clear hb hbox hg; have jS := aI.out; have jT := aJ.out; obtain ⟨fS, fT, fU, pE, pF, fV, fW, fX, pG, pH⟩ := xf5 (w := iO) aD; obtain ⟨pI, pJ, pK, pL, pM, pN, pO, pP, pQ, pR⟩ := xf5 (w := iO) bG))
  go_ret
  exact ⟨xerr, xbg⟩

end Go.Proofs.Ytocpomkfilpflaa.QFnExactHardLoad
