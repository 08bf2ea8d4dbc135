-- A walk, by a program of this session.
import Derived.Test.YtoojdlobnbakoaaQFnJournalx15
namespace Go.Proofs.Ytoojdlobnbakoaa.QFnJournal
open Go.RowKit Go.Proofs.YtoojdlobnbakoaaW.PrintWords Go.Proofs.YtoojdlobnbakoaaW.PrintLast Go.Proofs.YtoojdlobnbakoaaW.PrintMore
attribute [local go_sem] max2_int min2_int max_two min_two max_three min_three max_four min_four   -- for this text's walks alone
set_option linter.unusedVariables false
set_option linter.unusedSimpArgs false

theorem u17_0 {p : Prop} (h : p := by (with_reducible repeat (first | apply Kd.R_alloc | apply Kd.R_drewN | apply Kd.R_drew)); exact aF.out) : p := h
theorem u17_1 {p : Prop} (h : p := by first | rfl | (simp [errW_none, errW_some] <;> rfl) | (simp [*, errW_none, errW_some] <;> rfl)) : p := h
theorem u17_2 {p : Prop} (h : p := by (with_reducible repeat (first | apply Kd.R_alloc | apply Kd.R_drewN | apply Kd.R_drew)); exact aC.out) : p := h
theorem u17_3 {p : Prop} (h : p := by first | rfl | (simp; done) | (simp [*]; done)) : p := h
theorem u17_4 {p : Prop} (h : p := by (with_reducible repeat (first | apply Kd.R_alloc | apply Kd.R_drewN | apply Kd.R_drew)); exact aO.out) : p := h
theorem u17_5 {p : Prop} (h : p := by have := HJ2.out; have := HJ7.out; have := HJ25.out; have := HJ37.out; have := HJ55.out; have := HJ65.out; have := HJ83.out; have := HJ100.out; have := HK9.out; have := HJ102.out; omega) : p := h
theorem u17_6 {p : Prop} (h : p := by exact (Kd.R_reads' aB.out).2.1) : p := h
theorem u17_7 {p : Prop} (h : p := by have := HJ2.out; have := HJ7.out; have := HJ25.out; have := HJ37.out; have := HJ55.out; have := HJ65.out; first | omega | exact Nat.le_refl _) : p := h
theorem u17_8 {p : Prop} (h : p := by (with_reducible repeat (first | apply Kd.R_alloc | apply Kd.R_drewN | apply Kd.R_drew)); exact Kd.R_mono gB.out (fun _ hk => ⟨hk.1.2, hk.2⟩)) : p := h
theorem u17_9 {p : Prop} (h : p := by (with_reducible repeat (first | apply Kd.R_alloc | apply Kd.R_drewN | apply Kd.R_drew)); exact Kd.R_mono aD.out (fun _ hk => trivial)) : p := h
theorem u17_10 {p : Prop} (h : p := by first | (rw [hY]; with_reducible exact H) | (have H2_ := oS H; rw [hY]; with_reducible exact H2_) | (have H2_ := oS H; with_reducible exact H2_) | with_reducible exact H | (rw [hY]; exact H) | exact H) : p := h
theorem u17_11 {p : Prop} (h : p := by have := HJ2.out; have := HJ7.out; have := HJ25.out; have := HJ37.out; have := HJ55.out; first | omega | exact Nat.le_refl _) : p := h
/-! ### laws_FnJournal: function 3 -/
mutual
def laws_FnJournal.j0 : Nat → List Int → Option (Bool)
 | 0, _ => none
 | k + 1, x0 => (spec_DrawJournalAdd.f k x0).bind fun dC => ((impl_JournalMend.f k dC.1 dC.2.1 dC.2.2.1).bind fun gE => ((spec_JournalMend.f k dC.1 dC.2.1 dC.2.2.1).bind fun lY => (if gE.2.2 = lY.2.2 then (laws_FnJournal.j1 k x0 dC.2.2.1 dC.2.2.2 gE.2.2 dC.1 dC.2.1 gE.1 gE.2.1) else (some false))))
def laws_FnJournal.j1 : Nat → List Int → Int → List ByteArray → Int → Int → List (S95) → Int → List (S95) → Option (Bool)
 | 0, _, _, _, _, _, _, _, _ => none
 | k + 1, x0, x4, x5, x7, jA, jB, aV, aW => if x7 = 0 then (laws_FnJournal.j2 k x0 x4 x5 aV aW) else (if x7 = 1 then (some true) else ((impl_DiskSize.f k aV aW).bind fun kF => ((impl_DiskSize.f k jA jB).bind fun kG => (some (kF == kG)))))
def laws_FnJournal.j2 : Nat → List Int → Int → List ByteArray → Int → List (S95) → Option (Bool)
 | 0, _, _, _, _, _ => none
 | k + 1, x0, x4, x5, aV, aW => (impl_JournalRead.f k aV aW x4).bind fun lZ => ((impl_JournalAdd.f k aV aW x4 x5).bind fun gF => ((spec_JournalAdd.f k aV aW x4 x5).bind fun mA => (if gF.2.2 = mA.2.2 then (laws_FnJournal.j3 k x0 x4 x5 lZ.1 gF.2.2 aV aW gF.1 gF.2.1) else (some false))))
def laws_FnJournal.j3 : Nat → List Int → Int → List ByteArray → List ByteArray → Int → Int → List (S95) → Int → List (S95) → Option (Bool)
 | 0, _, _, _, _, _, _, _, _, _ => none
 | k + 1, x0, x4, x5, dD, pL, aV, aW, dH, dI => if pL = 0 then (laws_FnJournal.j4 k x0 x4 x5 dD dH dI) else (if pL = 1 then (some true) else ((impl_DiskSize.f k dH dI).bind fun kH => ((impl_DiskSize.f k aV aW).bind fun kI => (some (kH == kI)))))
def laws_FnJournal.j4 : Nat → List Int → Int → List ByteArray → List ByteArray → Int → List (S95) → Option (Bool)
 | 0, _, _, _, _, _, _ => none
 | k + 1, x0, x4, x5, dD, dH, dI => (impl_JournalLate.f k dH dI x4 (([(⟨#[97]⟩ : ByteArray), (⟨#[98, 99]⟩ : ByteArray)] : List ByteArray))).bind fun eX => (if eX.2.2 = 0 then (laws_FnJournal.j5 k x0 x4 x5 dD eX.1 eX.2.1) else (laws_FnJournal.j5 k x0 x4 x5 dD dH dI))
def laws_FnJournal.j5 : Nat → List Int → Int → List ByteArray → List ByteArray → Int → List (S95) → Option (Bool)
 | 0, _, _, _, _, _, _ => none
 | k + 1, x0, x4, x5, dD, jC, jD => (laws_at.f x0 1).bind fun aJ => ((impl_DiskCrash.f k jC jD (([Int.tmod aJ 20, Int.tmod aJ 20, Int.tmod aJ 20, Int.tmod aJ 20, Int.tmod aJ 20, Int.tmod aJ 20, Int.tmod aJ 20, Int.tmod aJ 20] : List Int))).bind fun fN => ((impl_JournalRead.f k fN.1 fN.2 x4).bind fun bW => (if (bW.1.length : Int) < (wrap64 ((dD.length : Int) + (x5.length : Int))) then (laws_FnJournal.j6 k x5 dD bW.1 true) else (if (bW.1.length : Int) > (wrap64 ((wrap64 ((dD.length : Int) + (x5.length : Int))) + 2)) then (laws_FnJournal.j6 k x5 dD bW.1 true) else (laws_FnJournal.j6 k x5 dD bW.1 (decide (bW.2 < 0)))))))
def laws_FnJournal.j6 : Nat → List ByteArray → List ByteArray → List ByteArray → Bool → Option (Bool)
 | 0, _, _, _, _ => none
 | k + 1, x5, dD, fE, nP => if nP = true then (some false) else (laws_FnJournal.j7 k x5 dD fE)
def laws_FnJournal.j7 : Nat → List ByteArray → List ByteArray → List ByteArray → Option (Bool)
 | 0, _, _, _ => none
 | k + 1, x5, dD, fE => laws_FnJournal.l0 k x5 dD fE 0
def laws_FnJournal.l0 : Nat → List ByteArray → List ByteArray → List ByteArray → Int → Option (Bool)
 | 0, _, _, _, _ => none
 | k + 1, x5, dD, fE, dG => if dG < (fE.length : Int) then (laws_FnJournal.j9 k x5 dD fE dG) else (some true)
def laws_FnJournal.j9 : Nat → List ByteArray → List ByteArray → List ByteArray → Int → Option (Bool)
 | 0, _, _, _, _ => none
 | k + 1, x5, dD, fE, dG => if dG < (dD.length : Int) then (if 0 ≤ dG then (if dG < (fE.length : Int) then (if (rdOf ByteArray.empty fE dG).toList = (rdOf ByteArray.empty dD dG).toList then (laws_FnJournal.l0 k x5 dD fE (wrap64 (dG + 1))) else (some false)) else (none)) else (none)) else (if dG < (wrap64 ((dD.length : Int) + (x5.length : Int))) then (if 0 ≤ dG then (if dG < (fE.length : Int) then (if 0 ≤ (wrap64 (dG - (dD.length : Int))) then (if (wrap64 (dG - (dD.length : Int))) < (x5.length : Int) then (if (rdOf ByteArray.empty fE dG).toList = (rdOf ByteArray.empty x5 (wrap64 (dG - (dD.length : Int)))).toList then (laws_FnJournal.l0 k x5 dD fE (wrap64 (dG + 1))) else (some false)) else (none)) else (none)) else (none)) else (none)) else (if dG = (wrap64 ((dD.length : Int) + (x5.length : Int))) then (if 0 ≤ dG then (if dG < (fE.length : Int) then (if (rdOf ByteArray.empty fE dG).toList = ([97] : List UInt8) then (if dG > (wrap64 ((dD.length : Int) + (x5.length : Int))) then (if (rdOf ByteArray.empty fE dG).toList = ([98, 99] : List UInt8) then (laws_FnJournal.l0 k x5 dD fE (wrap64 (dG + 1))) else (some false)) else (laws_FnJournal.l0 k x5 dD fE (wrap64 (dG + 1)))) else (some false)) else (none)) else (none)) else (if dG > (wrap64 ((dD.length : Int) + (x5.length : Int))) then (if 0 ≤ dG then (if dG < (fE.length : Int) then (if (rdOf ByteArray.empty fE dG).toList = ([98, 99] : List UInt8) then (laws_FnJournal.l0 k x5 dD fE (wrap64 (dG + 1))) else (some false)) else (none)) else (none)) else (laws_FnJournal.l0 k x5 dD fE (wrap64 (dG + 1))))))
end
def laws_FnJournal.f (k : Nat) (l0 : List Int) : Option (Bool) := (laws_big.f l0).bind fun gI => (if gI = true then (some true) else (laws_FnJournal.j0 k l0))
theorem u17_mq0 {p : Prop} (h : p := by repeat' first | (with_reducible first | exact pM _ | exact pN _ _ _ _ _ _ _ _ | exact pO _ _ _ _ _ | exact pP _ _ _ _ _ _ _ _ _ | exact pQ _ _ _ _ _ _ | exact pR _ _ _ _ _ _ | exact pS _ _ _ _ | exact pT _ _ _ | exact pW _ _ _ _ | exact pX _ _ _ _ | exact impl_DiskCrash.mono _ _ _ _ | exact impl_DiskSize.mono _ _ _ | exact impl_JournalAdd.mono _ _ _ _ _ | exact impl_JournalLate.mono _ _ _ _ _ | exact impl_JournalMend.mono _ _ _ _ | exact impl_JournalRead.mono _ _ _ _ | exact spec_DrawJournalAdd.mono _ _ | exact spec_JournalAdd.mono _ _ _ _ _ | exact spec_JournalMend.mono _ _ _ _ | exact LeO.refl _ | exact LeO.none _ | refine LeO.ite ?_ ?_ | refine LeO.bind ?_ (fun _ => ?_)) | exact LeO.none _ | refine LeO.ite ?_ ?_ | refine LeO.bind ?_ (fun _ => ?_)) : p := h
set_option maxRecDepth 100000 in
theorem laws_FnJournal.mono_l : ∀ k, (∀ y0, LeO (laws_FnJournal.j0 k y0) (laws_FnJournal.j0 (k + 1) y0)) ∧ (∀ y0 y1 y2 y3 y4 y5 y6 y7, LeO (laws_FnJournal.j1 k y0 y1 y2 y3 y4 y5 y6 y7) (laws_FnJournal.j1 (k + 1) y0 y1 y2 y3 y4 y5 y6 y7)) ∧ (∀ y0 y1 y2 y3 y4, LeO (laws_FnJournal.j2 k y0 y1 y2 y3 y4) (laws_FnJournal.j2 (k + 1) y0 y1 y2 y3 y4)) ∧ (∀ y0 y1 y2 y3 y4 y5 y6 y7 y8, LeO (laws_FnJournal.j3 k y0 y1 y2 y3 y4 y5 y6 y7 y8) (laws_FnJournal.j3 (k + 1) y0 y1 y2 y3 y4 y5 y6 y7 y8)) ∧ (∀ y0 y1 y2 y3 y4 y5, LeO (laws_FnJournal.j4 k y0 y1 y2 y3 y4 y5) (laws_FnJournal.j4 (k + 1) y0 y1 y2 y3 y4 y5)) ∧ (∀ y0 y1 y2 y3 y4 y5, LeO (laws_FnJournal.j5 k y0 y1 y2 y3 y4 y5) (laws_FnJournal.j5 (k + 1) y0 y1 y2 y3 y4 y5)) ∧ (∀ y0 y1 y2 y3, LeO (laws_FnJournal.j6 k y0 y1 y2 y3) (laws_FnJournal.j6 (k + 1) y0 y1 y2 y3)) ∧ (∀ y0 y1 y2, LeO (laws_FnJournal.j7 k y0 y1 y2) (laws_FnJournal.j7 (k + 1) y0 y1 y2)) ∧ (∀ y0 y1 y2 y3, LeO (laws_FnJournal.l0 k y0 y1 y2 y3) (laws_FnJournal.l0 (k + 1) y0 y1 y2 y3)) ∧ (∀ y0 y1 y2 y3, LeO (laws_FnJournal.j9 k y0 y1 y2 y3) (laws_FnJournal.j9 (k + 1) y0 y1 y2 y3))
 | 0 => ⟨fun _ r h => by simp [laws_FnJournal.j0] at h, fun _ _ _ _ _ _ _ _ r h => by simp [laws_FnJournal.j1] at h, fun _ _ _ _ _ r h => by simp [laws_FnJournal.j2] at h, fun _ _ _ _ _ _ _ _ _ r h => by simp [laws_FnJournal.j3] at h, fun _ _ _ _ _ _ r h => by simp [laws_FnJournal.j4] at h, fun _ _ _ _ _ _ r h => by simp [laws_FnJournal.j5] at h, fun _ _ _ _ r h => by simp [laws_FnJournal.j6] at h, fun _ _ _ r h => by simp [laws_FnJournal.j7] at h, fun _ _ _ _ r h => by simp [laws_FnJournal.l0] at h, fun _ _ _ _ r h => by simp [laws_FnJournal.j9] at h⟩
 | k + 1 => by
  obtain ⟨pM, pN, pO, pP, pQ, pR, pS, pT, pW, pX⟩ := laws_FnJournal.mono_l k; refine ⟨?_, ?_, ?_, ?_, ?_, ?_, ?_, ?_, ?_, ?_⟩
  ·intro y0; unfold laws_FnJournal.j0; exact u17_mq0
  ·intro y0 y1 y2 y3 y4 y5 y6 y7; unfold laws_FnJournal.j1; exact u17_mq0
  ·intro y0 y1 y2 y3 y4; unfold laws_FnJournal.j2; exact u17_mq0
  ·intro y0 y1 y2 y3 y4 y5 y6 y7 y8; unfold laws_FnJournal.j3; exact u17_mq0
  ·intro y0 y1 y2 y3 y4 y5; unfold laws_FnJournal.j4; exact u17_mq0
  ·intro y0 y1 y2 y3 y4 y5; unfold laws_FnJournal.j5; exact u17_mq0
  ·intro y0 y1 y2 y3; unfold laws_FnJournal.j6; exact u17_mq0
  ·intro y0 y1 y2; unfold laws_FnJournal.j7; exact u17_mq0
  ·intro y0 y1 y2 y3; unfold laws_FnJournal.l0; exact u17_mq0
  ·intro y0 y1 y2 y3; unfold laws_FnJournal.j9; exact u17_mq0
theorem laws_FnJournal.mono : ∀ a0 k, LeO (laws_FnJournal.f k a0) (laws_FnJournal.f (k + 1) a0) := by
 intro a0 k
 obtain ⟨pM, pN, pO, pP, pQ, pR, pS, pT, pW, pX⟩ := laws_FnJournal.mono_l k
 unfold laws_FnJournal.f
 exact u17_mq0
def laws_FnJournal.T9 : Bool × List (List Nat × List Nat) := (true, [([], []), ([0], [0]), ([1], [1]), ([2], [2]), ([3, 2, 2], [2, 3]), ([2], [2]), ([5, 4, 2], [2, 5]), ([4, 6, 2], [2, 4, 6]), ([2, 7], [2, 7]), ([8, 6, 0, 1, 2, 3, 4, 5, 6, 7, 8], [8])])
def laws_FnJournal.B9 : List Nat := [0, 1, 3, 7, 15, 7, 63, 127, 255, 511]
def laws_FnJournal.T16 : Bool × List (List Nat × List Nat) := (true, [([], []), ([0], [0]), ([1], [1]), ([2], [2]), ([3, 2, 2], [2, 3]), ([2], [2]), ([5, 4, 2], [2, 5]), ([4, 6, 2], [2, 4, 6]), ([2, 7], [2, 7]), ([8, 6, 0, 1, 2, 3, 4, 5, 6, 7, 8], [8])])
def laws_FnJournal.B16 : List Nat := [0, 1, 3, 7, 15, 7, 63, 127, 255, 511]
def laws_FnJournal.T28 : Bool × List (List Nat × List Nat) := (true, [([], []), ([], []), ([0, 1], [0, 1]), ([2], [2]), ([], []), ([], []), ([4, 5], [4, 5]), ([6], [6]), ([3, 7], [3, 7])])
def laws_FnJournal.B28 : List Nat := [0, 0, 3, 7, 0, 0, 48, 112, 255]
def laws_FnJournal.T31 : Bool × List (List Nat × List Nat) := (true, [([], []), ([], []), ([0, 1], [0, 1]), ([2], [2]), ([], []), ([], []), ([], []), ([6], [6]), ([5, 7], [5, 7]), ([4, 8], [4, 8]), ([9], [9]), ([3, 10], [3, 10])])
def laws_FnJournal.B31 : List Nat := [0, 0, 3, 7, 0, 0, 0, 64, 224, 496, 1008, 2047]
set_option maxHeartbeats 8000000 in
set_option maxRecDepth 100000 in
theorem laws_FnJournal.calls (k : Nat) (A0 : Option Addr) (c0 : Nat) (l0 : List Int) (r : Bool) (w : World) (nH : Kd.C (Kd.int .u8) w A0 l0.length l0) (nI : l0.length ≤ c0) (h : laws_FnJournal.f k l0 = some r) :
 Calls Try.prog 3 #[.slice A0 l0.length c0] w fun e w' => e = .returned (.bool r) ∧ Below w.heap.size w w' := by
 have sH := Try.underlying26
 have nQ := aM nH
 have nR := aM nI
 clear nH nI
 have HB := aM (Below.refl w.heap.size w)
 have H : ((laws_big.f l0).bind fun gI => (if gI = true then (some true) else (laws_FnJournal.j0 k l0))) = some r := h
 clear h
 replace H := oB H
 obtain ⟨gI, pY, H⟩ := H
 (try dsimp only at H)
 have A2 := aM pY
 clear pY
 have nS := aM H
 clear H
 go_enter Try.func3, Try.ntmps3
 go_upto_if 23 with (first | ((with_reducible refine gC 12 rfl ?_); refine goesLY (some 23) rfl Try.func12 #[.slice A0 l0.length c0] ?_; (with_reducible refine (laws_big.calls _ _ l0 gI _ ?side1 ?side2 A2.out).mono ?_); (case side1 => repeat (first | exact nQ.out | (with_reducible refine Kd.C_alloc ?_ _) | (with_reducible refine Kd.C_drewN ?_ _) | (with_reducible refine Kd.C_drew ?_))); (case side2 => exact nR.out); rintro e w' ⟨rfl, ⟨nd, rfl⟩⟩; refine ⟨_, rfl, ?_⟩))
 (try simp only [Act.put, List.setIfInBounds_toArray, List.set_cons_zero, List.set_cons_succ])
 go_cut [] (fun wc => ∃ (kq : Nat), Aside0 (laws_FnJournal.j0 kq l0 = some r) ∧ Aside0 (kq ≤ k) ∧ Aside0 (Below w.heap.size w wc))
 case first =>
  have H := nS.out; clear nS; by_cases c4 : gI = true
  ·subst c4; replace H := iT H; obtain rfl := Option.some.inj H; go_wp2; go_ret
   exact ⟨u17_1, xbel⟩
  ·replace c4 := Bool.eq_false_iff.mpr c4; subst c4; replace H := iN H; have H' := aM H; clear H; go_wp2; go_meet
   case rel => exact ⟨_, H', ⟨by first | omega | exact Nat.le_refl _⟩, ⟨xbel⟩⟩
 case rest =>
  clear nS; try clear c1
  try clear p2
  try clear c3
  try clear c4
  obtain ⟨kq, HA, HJ2, HB⟩ := hcut; cases kq with
  | zero => exact absurd HA.out (by simp [laws_FnJournal.j0])
  | succ nJ =>
   have H := HA.out; clear HA; simp only [laws_FnJournal.j0] at H; replace H := oB H; obtain ⟨⟨eY, dJ, aX, aG⟩, pZ, H⟩ := H; (try dsimp only at H); have A5 := aM pZ; clear pZ; replace H := oB H
   obtain ⟨⟨bX, aQ, hX⟩, nK, H⟩ := H; (try dsimp only at H); have A6 := aM nK; clear nK; replace H := oB H
   obtain ⟨⟨nT, nU, mB⟩, qA, H⟩ := H; (try dsimp only at H); have A7 := aM qA; clear qA; have nV := aM H; clear H
   go_upto_if 44 with (first | ((with_reducible refine gC 13 rfl ?_); refine goesLY (some 26) rfl Try.func13 #[.slice A0 l0.length c0] ?_; (with_reducible refine (spec_DrawJournalAdd.calls nJ _ _ l0 eY dJ aX aG _ ?side1 ?side2 A5.out).mono ?_); (case side1 => exact xcb nQ); (case side2 => exact nR.out); rintro e w9 ⟨sI, mC, rfl, cV, qB, hb⟩; refine ⟨_, rfl, ?_⟩; have aR := aM (Kd.R_lower cV (below_size xbel)); have cW := aM (Kd.R_lower qB (below_size xbel)); replace HB := xbs hb; (try clear hb cV qB)) | ((with_reducible refine gD 3 rfl ?_); (try (refine gate_guard (by rfl) ?_; dsimp only)); refine boxE (N := 3) rfl (cs := #[.int .i64 0, .slice none 0 0]) (t := 26) ?_; intro gG hg sJ hbox hb; replace aR := xrb aR hb; replace cW := xrb cW hb; have aL := aM (hbox); have qC := aM (xge hg); have qD := aM (xge hg); replace HB := xbs hb; clear hb hbox hg; obtain ⟨aY, aZ, bA, bB⟩ := xf2 (w := sJ) aL; obtain ⟨fO, fP, nW⟩ := Kd.R_slice aR.out; subst nW) | ((with_reducible refine gC 14 rfl ?_); refine goesLY (some 33) rfl Try.func14 #[.agg #[.int .i64 eY, .slice fO dJ.length fP], .int .i64 aX] ?_; (with_reducible refine (impl_JournalMend.calls nJ eY _ _ dJ aX bX aQ hX _ ?side1 ?side2 A6.out).mono ?_); (case side1 => exact (Kd.R_reads' (xrs aR)).2.2); (case side2 => exact (Kd.R_reads' aR.out).2.1); rintro e uB ⟨sK, rfl, cV, hb⟩; refine ⟨_, rfl, ?_⟩; replace cW := xrB cW hb; have dK := aM (Kd.R_lower (Kd.R_new' cV (Kd.R_lt (xrs aR))) (below_size xbg)); replace aR := aM (Kd.R_elder' (xrs aR) (Kd.R_base cV) hb); replace aL := aM (blk_below (g := gG) (o := .cells #[.int .i64 eY, .slice fO dJ.length fP] 26 (0, 0)) xP hb); replace HB := xbs hb; (try clear hb cV)) | ((with_reducible refine gD 6 rfl ?_); (try (refine gate_guard (by rfl) ?_; dsimp only)); refine boxE (N := 6) rfl (cs := #[.int .i64 0, .slice none 0 0]) (t := 26) ?_; intro eQ hg qE hbox hb; replace aR := xrb aR hb; replace cW := xrb cW hb; replace dK := xrb dK hb; have qF := aM (xge hg); have qG := aM (xge hg); replace HB := xbs hb; have gJ := nblt aL hg; have gK := nbgt aL hg; replace aL := xbb aL hb; have aE := aM (hbox); clear hb hbox hg; have qH := gK.out; have qI := gJ.out; obtain ⟨bC, bE, bG, bH⟩ := xf2 (w := qE) aE; obtain ⟨cZ, dA, nX⟩ := Kd.R_slice dK.out; subst nX; obtain ⟨bI, bJ, bK, bL⟩ := xf2 (w := qE) aL) | ((with_reducible refine gC 15 rfl ?_); refine goesLY (some 39) rfl Try.func15 #[.agg #[.int .i64 eY, .slice fO dJ.length fP], .int .i64 aX] ?_; (with_reducible refine (spec_JournalMend.calls nJ eY _ _ dJ aX nT nU mB _ ?side1 ?side2 A7.out).mono ?_); (case side1 => exact (Kd.R_reads' (xrs aR)).2.2); (case side2 => exact (Kd.R_reads' aR.out).2.1); rintro e uC ⟨sL, rfl, cV, hb⟩; refine ⟨_, rfl, ?_⟩; replace cW := xrB cW hb; have hZ := aM (Kd.R_lower (Kd.R_new' (Kd.R_new' cV (Kd.R_lt (xrs aR))) (Kd.R_lt (xrs dK))) (below_size xbg)); replace aR := aM (Kd.R_elder' (xrs aR) (Kd.R_base cV) hb); replace dK := aM (Kd.R_elder' (xrs dK) (Kd.R_base cV) hb); replace aL := xbc aL hb; replace aE := aM (blk_below (g := eQ) (o := .cells #[.int .i64 bX, .slice cZ aQ.length dA] 26 (0, 0)) xP hb); replace HB := xbs hb; (try clear hb cV)) | ((with_reducible refine gD 8 rfl ?_); (try (refine gate_guard (by rfl) ?_; dsimp only)); refine boxE (N := 8) rfl (cs := #[.int .i64 0, .slice none 0 0]) (t := 26) ?_; intro qJ hg sM hbox hb; replace aR := xrb aR hb; replace cW := xrb cW hb; replace dK := xrb dK hb; replace hZ := xrb hZ hb; have qK := aM (xge hg); have qL := aM (xge hg); replace HB := xbs hb; have gL := nblt aL hg; have gM := nbgt aL hg; have gN := nblt aE hg; have gO := nbgt aE hg; replace aL := xbb aL hb; replace aE := xbb aE hb; have mD := aM (hbox); clear hb hbox hg; have qM := gM.out; have qN := gL.out; have qO := gO.out; have qP := gN.out; obtain ⟨bM, bN, bO, bP⟩ := xf2 (w := sM) mD; obtain ⟨sN, sO, nY⟩ := Kd.R_slice hZ.out; subst nY))
   (try simp only [Act.put, List.setIfInBounds_toArray, List.set_cons_zero, List.set_cons_succ]); go_cut [] (fun wc => ∃ (kq : Nat), Aside0 (laws_FnJournal.j1 kq l0 aX aG hX eY dJ bX aQ = some r) ∧ Aside0 (kq ≤ nJ) ∧ Aside0 (Kd.R Kd.string 9 wc w.heap.size (fun _ => True) mC aG) ∧ Aside0 (Kd.R k95 95 wc w.heap.size (fun k_ => some k_ ≠ ((.slice cZ aQ.length dA) : Value).ownBlock) (.slice fO dJ.length fP) dJ) ∧ Aside0 (Kd.R k95 95 wc w.heap.size (fun k_ => some k_ ≠ ((.slice fO dJ.length fP) : Value).ownBlock) (.slice cZ aQ.length dA) aQ) ∧ Aside0 (wc.heap[gG]? = some (.cells #[.int .i64 eY, (.slice fO dJ.length fP)] 26 (0, 0))) ∧ Aside0 (wc.heap[eQ]? = some (.cells #[.int .i64 bX, (.slice cZ aQ.length dA)] 26 (0, 0))) ∧ Aside0 (Below w.heap.size w wc))
   case first =>
    have H := nV.out; clear nV; by_cases gH : hX = mB
    ·as_aux_lemma =>
     rw [if_pos gH] at H; obtain ⟨bU, dE⟩ := bT gH; clear gH; (first | rw [bU] | (simp only [i64_w, i32_w]; rw [bU]) | skip); have H' := aM H; clear H; go_wp2; go_meet
     case rel => exact ⟨_, H', ⟨by have := HJ2.out; first | omega | exact Nat.le_refl _⟩, ⟨xrm cW (fun _ _ => trivial)⟩, ⟨xrm aR (fun _ hk => hk.1.2)⟩, ⟨xrm dK (fun _ hk => hk.1.2)⟩, ⟨xB⟩, ⟨xB⟩, ⟨xbg⟩⟩
    ·rw [if_neg gH] at H; obtain ⟨bU, dE⟩ := bF gH; (first | rw [bU] | (simp only [i64_w, i32_w]; rw [bU]) | skip); obtain rfl := Option.some.inj H; go_wp2; go_ret
     exact ⟨u17_1, xbg⟩
   case rest =>
    clear nV; try clear c1
    try clear c2
    try clear p2
    try clear c3
    try clear c4
    try clear jV
    try clear jW
    try clear jX
    try clear jY
    try clear jZ
    try clear kA
    try clear gH
    try clear bU
    try clear dE
    try clear aY aZ
    try clear bC bE
    try clear bI bJ
    try clear bM bN
    try clear bA bB
    try clear bG bH
    try clear bK bL
    try clear bO bP
    try clear p2
    obtain ⟨kq, HA, HJ7, aF, aN, aB, aL, aE, HB⟩ := hcut; cases kq with
    | zero => exact absurd HA.out (by simp [laws_FnJournal.j1])
    | succ nZ =>
     have H := HA.out; clear HA; simp only [laws_FnJournal.j1] at H; have kJ := aM H; clear H; go_upto_if 46 with (fail)
     go_cut [] (fun wc => ∃ (kq : Nat), Aside0 (laws_FnJournal.j2 kq l0 aX aG bX aQ = some r) ∧ Aside0 (kq ≤ nZ) ∧ Aside0 (Kd.R Kd.string 9 wc w.heap.size (fun _ => True) mC aG) ∧ Aside0 (Kd.R k95 95 wc w.heap.size (fun _ => True) (.slice cZ aQ.length dA) aQ) ∧ Aside0 (wc.heap[eQ]? = some (.cells #[.int .i64 bX, (.slice cZ aQ.length dA)] 26 (0, 0))) ∧ Aside0 (Below w.heap.size w wc))
     case first =>
      have H := kJ.out; clear kJ; by_cases gP : hX = 0
      ·as_aux_lemma =>
       rw [if_pos gP] at H; obtain ⟨bY, dL⟩ := bT gP; clear gP; (first | rw [bY] | (simp only [i64_w, i32_w]; rw [bY]) | skip); have H' := aM H; clear H; go_wp2; go_meet
       case rel => exact ⟨_, H', ⟨by have := HJ2.out; have := HJ7.out; first | omega | exact Nat.le_refl _⟩, ⟨u17_0⟩, ⟨by (with_reducible repeat (first | apply Kd.R_alloc | apply Kd.R_drewN | apply Kd.R_drew)); exact Kd.R_mono aB.out (fun _ hk => trivial)⟩, ⟨xblk⟩, ⟨xbg⟩⟩
      ·as_aux_lemma =>
       rw [if_neg gP] at H; obtain ⟨bY, dL⟩ := bF gP; (first | rw [bY] | (simp only [i64_w, i32_w]; rw [bY]) | skip); by_cases gQ : hX = 1
       ·as_aux_lemma =>
        rw [if_pos gQ] at H; obtain ⟨dM, dN⟩ := bT gQ; clear gQ; obtain rfl := Option.some.inj H; try go_wp2
        replace aF := rD aF; replace aN := rD aN; replace aB := rD aB; replace aL := bD aL; replace aE := bD aE; replace HB := lD HB; refine st_ 10 (fun w' => True) laws_FnJournal.T9 laws_FnJournal.B9 trivial (fun hHeld HT_ HW_ => ?_); generalize wc.drew = uD at aF aN aB aL aE HB hHeld ⊢; refine pV 0 47 ?_; refine pV 1 48 ?_; refine pV 2 49 ?_; refine pU 3 50 ?_; refine pU 4 51 ?_; refine pU 5 52 ?_; refine pU 6 53 ?_; refine pU 7 54 ?_; refine pV 8 55 ?_; refine pV 9 2 ?_; refine dn_ ?_; try go_wp2
        go_ret
        exact ⟨u17_1, xbg⟩
       ·as_aux_lemma =>
        rw [if_neg gQ] at H; obtain ⟨dM, dN⟩ := bF gQ; replace H := oB H; obtain ⟨kF, mE, H⟩ := H; (try dsimp only at H); have sP := aM mE; clear mE; replace H := oB H
        obtain ⟨kG, mF, H⟩ := H; (try dsimp only at H); have sQ := aM mF; clear mF
        obtain rfl := Option.some.inj H; try go_wp2
        replace aF := rD aF; replace aN := rD aN; replace aB := rD aB; replace aL := bD aL; replace aE := bD aE; replace HB := lD HB; refine st_ 10 (fun w' => w'.cell? ⟨eQ, 0, none⟩ = some (.int .i64 bX) ∧ w'.cell? ⟨eQ, 1, none⟩ = some (.slice cZ aQ.length dA) ∧ w'.cell? ⟨gG, 0, none⟩ = some (.int .i64 eY) ∧ w'.cell? ⟨gG, 1, none⟩ = some (.slice fO dJ.length fP)) laws_FnJournal.T9 laws_FnJournal.B9 ⟨xc aE 0 rfl, xc aE 1 rfl, xc aL 0 rfl, xc aL 1 rfl⟩ (fun hHeld HT_ HW_ => ?_); generalize wc.drew = uE at aF aN aB aL aE HB hHeld ⊢; refine pV 0 47 ?_; refine pV 1 48 ?_; refine pV 2 49 ?_; refine tK 3 50 ?_; refine tK 5 52 ?_; refine oN 4 51 fun K hK => ?_
        refine goesY Try.func16 #[.agg #[.int .i64 bX, .slice cZ aQ.length dA]] ?_; with_reducible refine (impl_DiskSize.calls nZ bX _ _ aQ kF _ ?side1 ?side2 sP.out).mono ?_
        (case side1 => exact xC aB); (case side2 => exact u17_6); rintro e uF ⟨rfl, hb⟩; refine ⟨_, rfl, ?_⟩; replace aF := xrb aF hb; replace aN := xrb aN hb; replace aB := xrb aB hb; replace aL := xbb aL hb; replace aE := xbb aE hb; replace HB := xbs hb; (try clear hb); refine hK.out _ _ ⟨xc aE 0 rfl, xc aE 1 rfl, xc aL 0 rfl, xc aL 1 rfl⟩ (fun hHeld => ?_); clear hK K; refine nm_ (N := 51) ?_; refine oN 6 53 fun K hK => ?_
        refine goesY Try.func16 #[.agg #[.int .i64 eY, .slice fO dJ.length fP]] ?_; with_reducible refine (impl_DiskSize.calls nZ eY _ _ dJ kG _ ?side1 ?side2 sQ.out).mono ?_
        (case side1 => exact xC aN); (case side2 => exact (Kd.R_reads' aN.out).2.1); rintro e uG ⟨rfl, hb⟩; refine ⟨_, rfl, ?_⟩; replace aF := xrb aF hb; replace aN := xrb aN hb; replace aB := xrb aB hb; replace aL := xbb aL hb; replace aE := xbb aE hb; replace HB := xbs hb; (try clear hb); refine hK.out _ _ ⟨xc aE 0 rfl, xc aE 1 rfl, xc aL 0 rfl, xc aL 1 rfl⟩ (fun hHeld => ?_); clear hK K; refine nm_ (N := 53) ?_; refine pV 7 54 ?_; refine pV 8 55 ?_; refine pV 9 2 ?_; refine dn_ ?_; try go_wp2
        go_ret
        exact ⟨u17_1, xbg⟩
     case rest =>
      clear kJ; try clear c1
      try clear c2
      try clear p2
      try clear c3
      try clear c4
      try clear jV
      try clear jW
      try clear jX
      try clear jY
      try clear kK
      try clear jZ
      try clear kA
      try clear gH
      try clear bU
      try clear dE
      try clear gP
      try clear bY
      try clear dL
      try clear gQ
      try clear dM
      try clear dN
      try clear aY aZ
      try clear bC bE
      try clear bI bJ
      try clear bM bN
      try clear bA bB
      try clear bG bH
      try clear bK bL
      try clear bO bP
      try clear p2
      obtain ⟨kq, HA, HJ25, aF, aB, aE, HB⟩ := hcut; cases kq with
      | zero => exact absurd HA.out (by simp [laws_FnJournal.j2])
      | succ jE =>
       have H := HA.out; clear HA; simp only [laws_FnJournal.j2] at H; replace H := oB H; obtain ⟨⟨aK, oA⟩, mG, H⟩ := H; (try dsimp only at H); have sR := aM mG; clear mG; replace H := oB H
       obtain ⟨⟨dB, aU, iA⟩, mH, H⟩ := H; (try dsimp only at H); have sS := aM mH; clear mH; replace H := oB H
       obtain ⟨⟨oC, oD, mI⟩, mJ, H⟩ := H; (try dsimp only at H); have sU := aM mJ; clear mJ; have kL := aM H; clear H; obtain ⟨bZ, cA, cB, cC⟩ := xf2 (w := wc) aE
       go_upto_if 78 with (first | ((with_reducible refine gC 17 rfl ?_); refine goesLY (some 59) rfl Try.func17 #[.agg #[.int .i64 bX, .slice cZ aQ.length dA], .int .i64 aX] ?_; (with_reducible refine (impl_JournalRead.calls jE bX _ _ aQ aX aK oA _ ?side1 ?side2 sR.out).mono ?_); (case side1 => exact xC aB); (case side2 => exact u17_6); rintro e sV ⟨bV, rfl, cV, hb⟩; refine ⟨_, rfl, ?_⟩; replace aB := xrb aB hb; have dO := aM (Kd.R_lower (Kd.R_new' cV (Kd.R_lt (xr aF))) (below_size xbg)); replace aF := aM (Kd.R_elder' (xr aF) (Kd.R_base cV) hb); replace aE := xbb aE hb; replace HB := xbs hb; (try clear hb cV); obtain ⟨cD, cE, cF, cG⟩ := xf2 (w := sV) aE; obtain ⟨bQ, bR, oE⟩ := Kd.R_slice aF.out; subst oE) | ((with_reducible refine gC 18 rfl ?_); refine goesLY (some 66) rfl Try.func18 #[.agg #[.int .i64 bX, .slice cZ aQ.length dA], .int .i64 aX, .slice bQ aG.length bR] ?_; (with_reducible refine (impl_JournalAdd.calls jE bX _ _ aQ aX _ _ aG dB aU iA _ ?side1 ?side2 ?side3 ?side4 sS.out).mono ?_); (case side1 => exact xC aB); (case side2 => exact u17_6); (case side3 => exact xC aF); (case side4 => exact (Kd.R_reads' aF.out).2.1); rintro e uH ⟨sW, rfl, cV, hb⟩; refine ⟨_, rfl, ?_⟩; replace aF := xrb aF hb; replace dO := xrb dO hb; have dP := aM (Kd.R_lower (Kd.R_new' cV (Kd.R_lt (xr aB))) (below_size xbg)); replace aB := aM (Kd.R_elder' (xr aB) (Kd.R_base cV) hb); replace aE := xbb aE hb; replace HB := xbs hb; (try clear hb cV)) | ((with_reducible refine gD 12 rfl ?_); (try (refine gate_guard (by rfl) ?_; dsimp only)); refine boxE (N := 12) rfl (cs := #[.int .i64 0, .slice none 0 0]) (t := 26) ?_; intro fQ hg qQ hbox hb; replace aF := xrb aF hb; replace aB := xrb aB hb; replace dO := xrb dO hb; replace dP := xrb dP hb; have qR := aM (xge hg); have qS := aM (xge hg); replace HB := xbs hb; have gR := nblt aE hg; have gS := nbgt aE hg; replace aE := xbb aE hb; have aH := aM (hbox); clear hb hbox hg; have qT := gS.out; have qU := gR.out; obtain ⟨cH, cI, cJ, cK⟩ := xf2 (w := qQ) aH; obtain ⟨dQ, dR, oF⟩ := Kd.R_slice dP.out; subst oF; obtain ⟨cL, cM, cN, cO⟩ := xf2 (w := qQ) aE) | ((with_reducible refine gC 19 rfl ?_); refine goesLY (some 73) rfl Try.func19 #[.agg #[.int .i64 bX, .slice cZ aQ.length dA], .int .i64 aX, .slice bQ aG.length bR] ?_; (with_reducible refine (spec_JournalAdd.calls jE bX _ _ aQ aX _ _ aG oC oD mI _ ?side1 ?side2 ?side3 ?side4 sU.out).mono ?_); (case side1 => exact (Kd.R_reads' (xrs aB)).2.2); (case side2 => exact u17_6); (case side3 => exact (Kd.R_reads' (xrs aF)).2.2); (case side4 => exact (Kd.R_reads' aF.out).2.1); rintro e uI ⟨sX, rfl, cV, hb⟩; refine ⟨_, rfl, ?_⟩; replace aF := xrB aF hb; replace dO := xrB dO hb; have iB := aM (Kd.R_lower (Kd.R_new' (Kd.R_new' cV (Kd.R_lt (xrs aB))) (Kd.R_lt (xrs dP))) (below_size xbg)); replace aB := aM (Kd.R_elder' (xrs aB) (Kd.R_base cV) hb); replace dP := aM (Kd.R_elder' (xrs dP) (Kd.R_base cV) hb); replace aE := xbc aE hb; replace aH := aM (blk_below (g := fQ) (o := .cells #[.int .i64 dB, .slice dQ aU.length dR] 26 (0, 0)) xP hb); replace HB := xbs hb; (try clear hb cV)) | ((with_reducible refine gD 14 rfl ?_); (try (refine gate_guard (by rfl) ?_; dsimp only)); refine boxE (N := 14) rfl (cs := #[.int .i64 0, .slice none 0 0]) (t := 26) ?_; intro qV hg sY hbox hb; replace aF := xrb aF hb; replace aB := xrb aB hb; replace dO := xrb dO hb; replace dP := xrb dP hb; replace iB := xrb iB hb; have qW := aM (xge hg); have qX := aM (xge hg); replace HB := xbs hb; have gT := nblt aE hg; have gU := nbgt aE hg; have gV := nblt aH hg; have gW := nbgt aH hg; replace aE := xbb aE hb; replace aH := xbb aH hb; have mK := aM (hbox); clear hb hbox hg; have qY := gU.out; have qZ := gT.out; have rA := gW.out; have rB := gV.out; obtain ⟨cP, cQ, cS, cT⟩ := xf2 (w := sY) mK; obtain ⟨sZ, tA, oG⟩ := Kd.R_slice iB.out; subst oG))
       (try simp only [Act.put, List.setIfInBounds_toArray, List.set_cons_zero, List.set_cons_succ]); go_cut [] (fun wc => ∃ (kq : Nat), Aside0 (laws_FnJournal.j3 kq l0 aX aG aK iA bX aQ dB aU = some r) ∧ Aside0 (kq ≤ jE) ∧ Aside0 (Kd.R Kd.string 9 wc w.heap.size (fun k_ => some k_ ≠ (bV : Value).ownBlock) (.slice bQ aG.length bR) aG) ∧ Aside0 (Kd.R Kd.string 9 wc w.heap.size (fun k_ => some k_ ≠ ((.slice bQ aG.length bR) : Value).ownBlock) bV aK) ∧ Aside0 (Kd.R k95 95 wc w.heap.size (fun k_ => some k_ ≠ ((.slice dQ aU.length dR) : Value).ownBlock) (.slice cZ aQ.length dA) aQ) ∧ Aside0 (Kd.R k95 95 wc w.heap.size (fun k_ => some k_ ≠ ((.slice cZ aQ.length dA) : Value).ownBlock) (.slice dQ aU.length dR) aU) ∧ Aside0 (wc.heap[eQ]? = some (.cells #[.int .i64 bX, (.slice cZ aQ.length dA)] 26 (0, 0))) ∧ Aside0 (wc.heap[fQ]? = some (.cells #[.int .i64 dB, (.slice dQ aU.length dR)] 26 (0, 0))) ∧ Aside0 (Below w.heap.size w wc))
       case first =>
        have H := kL.out; clear kL; by_cases hU : iA = mI
        ·as_aux_lemma =>
         rw [if_pos hU] at H; obtain ⟨cU, eR⟩ := bT hU; clear hU; (first | rw [cU] | (simp only [i64_w, i32_w]; rw [cU]) | skip); have H' := aM H; clear H; go_wp2; go_meet
         case rel => exact ⟨_, H', ⟨by have := HJ2.out; have := HJ7.out; have := HJ25.out; first | omega | exact Nat.le_refl _⟩, ⟨xrm aF (fun _ hk => hk.2)⟩, ⟨xrm dO (fun _ hk => hk.2)⟩, ⟨xrm aB (fun _ hk => hk.1.2)⟩, ⟨xrm dP (fun _ hk => hk.1.2)⟩, ⟨xB⟩, ⟨xB⟩, ⟨xbg⟩⟩
        ·rw [if_neg hU] at H; obtain ⟨cU, eR⟩ := bF hU; (first | rw [cU] | (simp only [i64_w, i32_w]; rw [cU]) | skip); obtain rfl := Option.some.inj H; go_wp2; go_ret
         exact ⟨u17_1, xbg⟩
       case rest =>
        clear kL; try clear c1
        try clear c2
        try clear p2
        try clear c3
        try clear c4
        try clear c5
        try clear jV
        try clear jW
        try clear jX
        try clear jY
        try clear kK
        try clear lR
        try clear lS
        try clear lT
        try clear jZ
        try clear kA
        try clear gH
        try clear bU
        try clear dE
        try clear gP
        try clear bY
        try clear dL
        try clear gQ
        try clear dM
        try clear dN
        try clear lU
        try clear lV
        try clear lW
        try clear hU
        try clear cU
        try clear eR
        try clear aY aZ
        try clear bC bE
        try clear bI bJ
        try clear bM bN
        try clear bZ cA
        try clear cD cE
        try clear cH cI
        try clear cL cM
        try clear cP cQ
        try clear bA bB
        try clear bG bH
        try clear bK bL
        try clear bO bP
        try clear cB cC
        try clear cF cG
        try clear cJ cK
        try clear cN cO
        try clear cS cT
        try clear p2
        obtain ⟨kq, HA, HJ37, aF, aC, aB, aD, aE, aH, HB⟩ := hcut; cases kq with
        | zero => exact absurd HA.out (by simp [laws_FnJournal.j3])
        | succ kM =>
         have H := HA.out; clear HA; simp only [laws_FnJournal.j3] at H; have kN := aM H; clear H; go_upto_if 80 with (fail)
         go_cut [] (fun wc => ∃ (kq : Nat), Aside0 (laws_FnJournal.j4 kq l0 aX aG aK dB aU = some r) ∧ Aside0 (kq ≤ kM) ∧ Aside0 (Kd.R Kd.string 9 wc w.heap.size (fun k_ => some k_ ≠ (bV : Value).ownBlock) (.slice bQ aG.length bR) aG) ∧ Aside0 (Kd.R Kd.string 9 wc w.heap.size (fun k_ => some k_ ≠ ((.slice bQ aG.length bR) : Value).ownBlock) bV aK) ∧ Aside0 (Kd.R k95 95 wc w.heap.size (fun _ => True) (.slice dQ aU.length dR) aU) ∧ Aside0 (wc.heap[fQ]? = some (.cells #[.int .i64 dB, (.slice dQ aU.length dR)] 26 (0, 0))) ∧ Aside0 (Below w.heap.size w wc))
         case first =>
          have H := kN.out; clear kN; by_cases iC : iA = 0
          ·as_aux_lemma =>
           rw [if_pos iC] at H; obtain ⟨cX, eZ⟩ := bT iC; clear iC; (first | rw [cX] | (simp only [i64_w, i32_w]; rw [cX]) | skip); have H' := aM H; clear H; go_wp2; go_meet
           case rel => exact ⟨_, H', ⟨by have := HJ2.out; have := HJ7.out; have := HJ25.out; have := HJ37.out; first | omega | exact Nat.le_refl _⟩, ⟨u17_0⟩, ⟨u17_2⟩, ⟨u17_9⟩, ⟨xblk⟩, ⟨xbg⟩⟩
          ·as_aux_lemma =>
           rw [if_neg iC] at H; obtain ⟨cX, eZ⟩ := bF iC; (first | rw [cX] | (simp only [i64_w, i32_w]; rw [cX]) | skip); by_cases iD : iA = 1
           ·as_aux_lemma =>
            rw [if_pos iD] at H; obtain ⟨fA, fB⟩ := bT iD; clear iD; obtain rfl := Option.some.inj H; try go_wp2
            replace aF := rD aF; replace aC := rD aC; replace aB := rD aB; replace aD := rD aD; replace aE := bD aE; replace aH := bD aH; replace HB := lD HB; refine st_ 10 (fun w' => True) laws_FnJournal.T16 laws_FnJournal.B16 trivial (fun hHeld HT_ HW_ => ?_); generalize wc.drew = uJ at aF aC aB aD aE aH HB hHeld ⊢; refine pV 0 81 ?_; refine pV 1 82 ?_; refine pV 2 83 ?_; refine pU 3 84 ?_; refine pU 4 85 ?_; refine pU 5 86 ?_; refine pU 6 87 ?_; refine pU 7 88 ?_; refine pV 8 89 ?_; refine pV 9 2 ?_; refine dn_ ?_; try go_wp2
            go_ret
            exact ⟨u17_1, xbg⟩
           ·as_aux_lemma =>
            rw [if_neg iD] at H; obtain ⟨fA, fB⟩ := bF iD; replace H := oB H; obtain ⟨kH, mL, H⟩ := H; (try dsimp only at H); have nK := aM mL; clear mL; replace H := oB H
            obtain ⟨kI, mM, H⟩ := H; (try dsimp only at H); have tB := aM mM; clear mM
            obtain rfl := Option.some.inj H; try go_wp2
            replace aF := rD aF; replace aC := rD aC; replace aB := rD aB; replace aD := rD aD; replace aE := bD aE; replace aH := bD aH; replace HB := lD HB; refine st_ 10 (fun w' => w'.cell? ⟨fQ, 0, none⟩ = some (.int .i64 dB) ∧ w'.cell? ⟨fQ, 1, none⟩ = some (.slice dQ aU.length dR) ∧ w'.cell? ⟨eQ, 0, none⟩ = some (.int .i64 bX) ∧ w'.cell? ⟨eQ, 1, none⟩ = some (.slice cZ aQ.length dA)) laws_FnJournal.T16 laws_FnJournal.B16 ⟨xc aH 0 rfl, xc aH 1 rfl, xc aE 0 rfl, xc aE 1 rfl⟩ (fun hHeld HT_ HW_ => ?_); generalize wc.drew = uK at aF aC aB aD aE aH HB hHeld ⊢; refine pV 0 81 ?_; refine pV 1 82 ?_; refine pV 2 83 ?_; refine tK 3 84 ?_; refine tK 5 86 ?_; refine oN 4 85 fun K hK => ?_
            refine goesY Try.func16 #[.agg #[.int .i64 dB, .slice dQ aU.length dR]] ?_; with_reducible refine (impl_DiskSize.calls kM dB _ _ aU kH _ ?side1 ?side2 nK.out).mono ?_
            (case side1 => exact xC aD); (case side2 => exact (Kd.R_reads' aD.out).2.1); rintro e uL ⟨rfl, hb⟩; refine ⟨_, rfl, ?_⟩; replace aF := xrb aF hb; replace aC := xrb aC hb; replace aB := xrb aB hb; replace aD := xrb aD hb; replace aE := xbb aE hb; replace aH := xbb aH hb; replace HB := xbs hb; (try clear hb); refine hK.out _ _ ⟨xc aH 0 rfl, xc aH 1 rfl, xc aE 0 rfl, xc aE 1 rfl⟩ (fun hHeld => ?_); clear hK K; refine nm_ (N := 85) ?_; refine oN 6 87 fun K hK => ?_
            refine goesY Try.func16 #[.agg #[.int .i64 bX, .slice cZ aQ.length dA]] ?_; with_reducible refine (impl_DiskSize.calls kM bX _ _ aQ kI _ ?side1 ?side2 tB.out).mono ?_
            (case side1 => exact xC aB); (case side2 => exact u17_6); rintro e uM ⟨rfl, hb⟩; refine ⟨_, rfl, ?_⟩; replace aF := xrb aF hb; replace aC := xrb aC hb; replace aB := xrb aB hb; replace aD := xrb aD hb; replace aE := xbb aE hb; replace aH := xbb aH hb; replace HB := xbs hb; (try clear hb); refine hK.out _ _ ⟨xc aH 0 rfl, xc aH 1 rfl, xc aE 0 rfl, xc aE 1 rfl⟩ (fun hHeld => ?_); clear hK K; refine nm_ (N := 87) ?_; refine pV 7 88 ?_; refine pV 8 89 ?_; refine pV 9 2 ?_; refine dn_ ?_; try go_wp2
            go_ret
            exact ⟨u17_1, xbg⟩
         case rest =>
          clear kN; try clear c1
          try clear c2
          try clear p2
          try clear c3
          try clear c4
          try clear c5
          try clear jV
          try clear jW
          try clear jX
          try clear jY
          try clear kK
          try clear lR
          try clear lS
          try clear lT
          try clear jZ
          try clear kA
          try clear gH
          try clear bU
          try clear dE
          try clear gP
          try clear bY
          try clear dL
          try clear gQ
          try clear dM
          try clear dN
          try clear lU
          try clear lV
          try clear lW
          try clear hU
          try clear cU
          try clear eR
          try clear iC
          try clear cX
          try clear eZ
          try clear iD
          try clear fA
          try clear fB
          try clear aY aZ
          try clear bC bE
          try clear bI bJ
          try clear bM bN
          try clear bZ cA
          try clear cD cE
          try clear cH cI
          try clear cL cM
          try clear cP cQ
          try clear bA bB
          try clear bG bH
          try clear bK bL
          try clear bO bP
          try clear cB cC
          try clear cF cG
          try clear cJ cK
          try clear cN cO
          try clear cS cT
          try clear p2
          obtain ⟨kq, HA, HJ55, aF, aC, aD, aH, HB⟩ := hcut; cases kq with
          | zero => exact absurd HA.out (by simp [laws_FnJournal.j4])
          | succ iE =>
           have H := HA.out; clear HA; simp only [laws_FnJournal.j4] at H; obtain ⟨fV, hY⟩ : ∃ y_ : List ByteArray, y_ = (([(⟨#[97]⟩ : ByteArray), (⟨#[98, 99]⟩ : ByteArray)] : List ByteArray)) := ⟨_, rfl⟩; replace H : ((impl_JournalLate.f iE dB aU aX fV).bind fun eX => (if eX.2.2 = 0 then (laws_FnJournal.j5 iE l0 aX aG aK eX.1 eX.2.1) else (laws_FnJournal.j5 iE l0 aX aG aK dB aU))) = some r := u17_10; have kB := aM hY; clear hY; replace H := oB H; obtain ⟨⟨kO, fW, mN⟩, mO, H⟩ := H; (try dsimp only at H); have tC := aM mO; clear mO; have kP := aM H; clear H; obtain ⟨dS, dU, dV, dW⟩ := xf2 (w := wc) aH
           go_upto_if 98 with (first | ((with_reducible refine gD 93 rfl ?_); (try (refine gate_guard (by rfl) ?_; dsimp only)); refine Kd.R_lit Kd.string _ 9 ?hg (N := 93) ?hd (xs := ([(⟨#[97]⟩ : ByteArray), (⟨#[98, 99]⟩ : ByteArray)] : List ByteArray)) (inner := [.string (⟨#[97]⟩ : ByteArray), .string (⟨#[98, 99]⟩ : ByteArray)]) (ok := fun _ => True) (okp := fun _ => True) ?hr ?hp (fun _ hk => hk) trivial (Below.refl _ _) (Nat.le_refl _) (by simp) ?_; (case hd => rfl); (case hg => rfl); (case hr => first | (go_simp; done) | (go_simp; rfl)); (case hp => exact (Reps.one (show Kd.M Kd.string _ _ _ (⟨#[97]⟩ : ByteArray) [.string (⟨#[97]⟩ : ByteArray)] from rfl) (Reps.one (show Kd.M Kd.string _ _ _ (⟨#[98, 99]⟩ : ByteArray) [.string (⟨#[98, 99]⟩ : ByteArray)] from rfl) (Reps.none _ _)))); intro tD uN fX hb hg_ hnew_; clear hg_ hnew_; (first | rw [← kB.out] at fX | (simp only [Int.reduceToNat] at fX; rw [← kB.out] at fX)); replace aD := xrb aD hb; have dX := aM (Kd.R_lower (Kd.R_new' (Kd.R_new' fX (Kd.R_lt (xr aF))) (Kd.R_lt (xr aC))) (below_size xbg)); replace aF := aM (Kd.R_elder' (xr aF) (Kd.R_base fX) hb); replace aC := aM (Kd.R_elder' (xr aC) (Kd.R_base fX) hb); replace aH := xbb aH hb; replace HB := xbs hb; clear hb fX; obtain ⟨jF, jG, oH⟩ := Kd.R_slice dX.out; subst oH) | ((with_reducible refine gC 20 rfl ?_); refine goesLY (some 94) rfl Try.func20 #[.agg #[.int .i64 dB, .slice dQ aU.length dR], .int .i64 aX, .slice jF fV.length jG] ?_; (with_reducible refine (impl_JournalLate.calls iE dB _ _ aU aX _ _ fV kO fW mN _ ?side1 ?side2 ?side3 ?side4 tC.out).mono ?_); (case side1 => exact xC aD); (case side2 => exact (Kd.R_reads' aD.out).2.1); (case side3 => exact xC dX); (case side4 => exact (Kd.R_reads' dX.out).2.1); rintro e uO ⟨tE, rfl, cV, hb⟩; refine ⟨_, rfl, ?_⟩; replace aF := xrb aF hb; replace aC := xrb aC hb; replace dX := xrb dX hb; have fF := aM (Kd.R_lower (Kd.R_new' cV (Kd.R_lt (xr aD))) (below_size xbg)); replace aD := aM (Kd.R_elder' (xr aD) (Kd.R_base cV) hb); replace aH := xbb aH hb; replace HB := xbs hb; (try clear hb cV)) | ((with_reducible refine gD 16 rfl ?_); (try (refine gate_guard (by rfl) ?_; dsimp only)); refine boxE (N := 16) rfl (cs := #[.int .i64 0, .slice none 0 0]) (t := 26) ?_; intro fG hg nL hbox hb; replace aF := xrb aF hb; replace aC := xrb aC hb; replace aD := xrb aD hb; replace dX := xrb dX hb; replace fF := xrb fF hb; have rC := aM (xge hg); have rE := aM (xge hg); replace HB := xbs hb; have fH := nblt aH hg; have fI := nbgt aH hg; replace aH := xbb aH hb; have cY := aM (hbox); clear hb hbox hg; have rF := fI.out; have rG := fH.out; obtain ⟨dY, dZ, eA, eB⟩ := xf2 (w := nL) cY; obtain ⟨jH, jI, oI⟩ := Kd.R_slice fF.out; subst oI))
           (try simp only [Act.put, List.setIfInBounds_toArray, List.set_cons_zero, List.set_cons_succ]); go_cut [] (fun wc => ∃ (kq : Nat) (aS : Int) (aT : List (S95)) (fK : Value), Aside0 (laws_FnJournal.j5 kq l0 aX aG aK aS aT = some r) ∧ Aside0 (kq ≤ iE) ∧ Aside0 (Kd.R Kd.string 9 wc w.heap.size (fun k_ => some k_ ≠ (bV : Value).ownBlock) (.slice bQ aG.length bR) aG) ∧ Aside0 (Kd.R Kd.string 9 wc w.heap.size (fun k_ => some k_ ≠ ((.slice bQ aG.length bR) : Value).ownBlock) bV aK) ∧ Aside0 (Kd.R k95 95 wc w.heap.size (fun _ => True) fK aT) ∧ Aside0 (wc.heap[fG]? = some (.cells #[.int .i64 aS, fK] 26 (0, 0))) ∧ Aside0 (Below w.heap.size w wc))
           case first =>
            have H := kP.out; clear kP; by_cases iX : mN = 0
            ·as_aux_lemma =>
             rw [if_pos iX] at H; obtain ⟨dF, fJ⟩ := bT iX; clear iX; (first | rw [dF] | (simp only [i64_w, i32_w]; rw [dF]) | skip); have H' := aM H; clear H; go_wp2; go_meet
             case rel => exact ⟨_, (kO), (fW), (.slice jH fW.length jI), H', ⟨u17_11⟩, ⟨xrm aF (fun _ hk => hk.1)⟩, ⟨xrm aC (fun _ hk => hk.1)⟩, ⟨xrm fF (fun _ _ => trivial)⟩, ⟨xP⟩, ⟨xbg⟩⟩
            ·as_aux_lemma =>
             rw [if_neg iX] at H; obtain ⟨dF, fJ⟩ := bF iX; (first | rw [dF] | (simp only [i64_w, i32_w]; rw [dF]) | skip); have H' := aM H; clear H; have rH := fH.out; have rI := fI.out; obtain ⟨eC, eD, eE, eF⟩ := xf2 (w := nL) aH; obtain ⟨eG, eH, eI, eJ⟩ := xf2 (w := nL) cY; go_wp2_with (first | ((with_reducible refine gate_store (t := 26) (p := 16) rfl ?_); refine store_event (t := 26) (p := 16) (v := ?vo_w80) (w1 := ((((nL.setCell ⟨fG, 0, none⟩ (.int .i64 kO)).setCell ⟨fG, 1, none⟩ (.slice jH fW.length jI)).setCell ⟨fG, 0, none⟩ (.int .i64 dB)).setCell ⟨fG, 1, none⟩ (.slice dQ aU.length dR))) ?hg ?ho ?hn ?hr ?_; (case ho | hg | hn => rfl); (case hr => first | (go_simp; done) | (go_simp; rfl)); intro lX hw; replace aF : Aside0 (Kd.R Kd.string 9 lX w.heap.size (fun k_ => some k_ ≠ (bV : Value).ownBlock ∧ some k_ ≠ (.slice jF fV.length jG : Value).ownBlock) (.slice bQ aG.length bR) aG) := xwm hw aF (fun _ hk => ⟨hk.1, hk.2⟩); replace aC : Aside0 (Kd.R Kd.string 9 lX w.heap.size (fun k_ => some k_ ≠ (.slice bQ aG.length bR : Value).ownBlock ∧ some k_ ≠ (.slice jF fV.length jG : Value).ownBlock) bV aK) := xwm hw aC (fun _ hk => ⟨hk.1, hk.2⟩); replace aD : Aside0 (Kd.R k95 95 lX w.heap.size (fun k_ => some k_ ≠ (.slice jH fW.length jI : Value).ownBlock) (.slice dQ aU.length dR) aU) := xwm hw aD (fun _ hk => hk.2); replace dX : Aside0 (Kd.R Kd.string 9 lX w.heap.size (fun k_ => some k_ ≠ (.slice bQ aG.length bR : Value).ownBlock ∧ some k_ ≠ (bV : Value).ownBlock) (.slice jF fV.length jG) fV) := xwm hw dX (fun _ hk => ⟨hk.1.2, hk.2⟩); replace fF : Aside0 (Kd.R k95 95 lX w.heap.size (fun k_ => some k_ ≠ (.slice dQ aU.length dR : Value).ownBlock) (.slice jH fW.length jI) fW) := xwm hw fF (fun _ hk => hk.2); replace aH := xwc hw aH; replace cY : Aside0 (lX.heap[fG]? = some (.cells #[.int .i64 dB, .slice dQ aU.length dR] 26 (0, 0))) := xwp hw; replace HB := xbw hw HB; clear hw))
             go_meet
             case rel => exact ⟨_, (dB), (aU), (.slice dQ aU.length dR), H', ⟨u17_11⟩, ⟨by (with_reducible repeat (first | apply Kd.R_alloc | apply Kd.R_drewN | apply Kd.R_drew)); exact Kd.R_mono aF.out (fun _ hk => hk.1)⟩, ⟨by (with_reducible repeat (first | apply Kd.R_alloc | apply Kd.R_drewN | apply Kd.R_drew)); exact Kd.R_mono aC.out (fun _ hk => hk.1)⟩, ⟨u17_9⟩, ⟨xblk⟩, ⟨xbg⟩⟩
           case rest =>
            clear kP; try clear c1
            try clear c2
            try clear p2
            try clear c3
            try clear c4
            try clear c5
            try clear c7
            try clear jV
            try clear jW
            try clear jX
            try clear jY
            try clear kK
            try clear lR
            try clear lS
            try clear lT
            try clear nM
            try clear jZ
            try clear kA
            try clear gH
            try clear bU
            try clear dE
            try clear gP
            try clear bY
            try clear dL
            try clear gQ
            try clear dM
            try clear dN
            try clear lU
            try clear lV
            try clear lW
            try clear hU
            try clear cU
            try clear eR
            try clear iC
            try clear cX
            try clear eZ
            try clear iD
            try clear fA
            try clear fB
            try clear nN
            try clear iX
            try clear dF
            try clear fJ
            try clear nO
            try clear aY aZ
            try clear bC bE
            try clear bI bJ
            try clear bM bN
            try clear bZ cA
            try clear cD cE
            try clear cH cI
            try clear cL cM
            try clear cP cQ
            try clear dS dU
            try clear dY dZ
            try clear eC eD
            try clear eG eH
            try clear bA bB
            try clear bG bH
            try clear bK bL
            try clear bO bP
            try clear cB cC
            try clear cF cG
            try clear cJ cK
            try clear cN cO
            try clear cS cT
            try clear dV dW
            try clear eA eB
            try clear eE eF
            try clear eI eJ
            try clear p2
            obtain ⟨kq, aS, aT, fK, HA, HJ65, aF, aC, aP, cY, HB⟩ := hcut; cases kq with
            | zero => exact absurd HA.out (by simp [laws_FnJournal.j5])
            | succ fR =>
             have H := HA.out; clear HA; simp only [laws_FnJournal.j5] at H; replace H := oB H; obtain ⟨aJ, mP, H⟩ := H; (try dsimp only at H); have tF := aM mP; clear mP
             obtain ⟨kQ, hY⟩ : ∃ y_ : List Int, y_ = (([Int.tmod aJ 20, Int.tmod aJ 20, Int.tmod aJ 20, Int.tmod aJ 20, Int.tmod aJ 20, Int.tmod aJ 20, Int.tmod aJ 20, Int.tmod aJ 20] : List Int)) := ⟨_, rfl⟩; replace H : ((impl_DiskCrash.f fR aS aT kQ).bind fun fN => ((impl_JournalRead.f fR fN.1 fN.2 aX).bind fun bW => (if (bW.1.length : Int) < (wrap64 ((aK.length : Int) + (aG.length : Int))) then (laws_FnJournal.j6 fR aG aK bW.1 true) else (if (bW.1.length : Int) > (wrap64 ((wrap64 ((aK.length : Int) + (aG.length : Int))) + 2)) then (laws_FnJournal.j6 fR aG aK bW.1 true) else (laws_FnJournal.j6 fR aG aK bW.1 (decide (bW.2 < 0))))))) = some r := u17_10; have kC := aM hY; clear hY; replace H := oB H; obtain ⟨⟨kR, kS⟩, mQ, H⟩ := H; (try dsimp only at H); have tG := aM mQ; clear mQ; replace H := oB H
             obtain ⟨⟨aI, mR⟩, mS, H⟩ := H; (try dsimp only at H); have tH := aM mS; clear mS; have kT := aM H; clear H
             go_upto_region 22 with (first | ((with_reducible refine gC 21 rfl ?_); refine goesLY (some 101) rfl Try.func21 #[.slice A0 l0.length c0, .int .i64 1] ?_; (with_reducible refine (laws_at.calls _ _ l0 1 aJ _ ?side1 ?side2 tF.out).mono ?_); (case side1 => exact xcb nQ); (case side2 => exact nR.out); rintro e w' ⟨rfl, ⟨nd, rfl⟩⟩; refine ⟨_, rfl, ?_⟩; obtain ⟨eS, eT, eU, eV⟩ := xf2 (w := wc) cY) | ((with_reducible refine gD 113 rfl ?_); (try (refine gate_guard (by rfl) ?_; dsimp only)); refine Kd.R_lit (Kd.int .i64) _ 3 ?hg (N := 113) ?hd (xs := ([Int.tmod aJ 20, Int.tmod aJ 20, Int.tmod aJ 20, Int.tmod aJ 20, Int.tmod aJ 20, Int.tmod aJ 20, Int.tmod aJ 20, Int.tmod aJ 20] : List Int)) (inner := [.int .i64 (Int.tmod aJ 20), .int .i64 (Int.tmod aJ 20), .int .i64 (Int.tmod aJ 20), .int .i64 (Int.tmod aJ 20), .int .i64 (Int.tmod aJ 20), .int .i64 (Int.tmod aJ 20), .int .i64 (Int.tmod aJ 20), .int .i64 (Int.tmod aJ 20)]) (ok := fun _ => True) (okp := fun _ => True) ?hr ?hp (fun _ hk => hk) trivial (Below.refl _ _) (Nat.le_refl _) (by simp) ?_; (case hd => rfl); (case hg => rfl); (case hr => first | (go_simp; done) | (go_simp; rfl)); (case hp => exact (Reps.one (show Kd.M (Kd.int .i64) _ _ _ (Int.tmod aJ 20) [.int .i64 (Int.tmod aJ 20)] from rfl) (Reps.one (show Kd.M (Kd.int .i64) _ _ _ (Int.tmod aJ 20) [.int .i64 (Int.tmod aJ 20)] from rfl) (Reps.one (show Kd.M (Kd.int .i64) _ _ _ (Int.tmod aJ 20) [.int .i64 (Int.tmod aJ 20)] from rfl) (Reps.one (show Kd.M (Kd.int .i64) _ _ _ (Int.tmod aJ 20) [.int .i64 (Int.tmod aJ 20)] from rfl) (Reps.one (show Kd.M (Kd.int .i64) _ _ _ (Int.tmod aJ 20) [.int .i64 (Int.tmod aJ 20)] from rfl) (Reps.one (show Kd.M (Kd.int .i64) _ _ _ (Int.tmod aJ 20) [.int .i64 (Int.tmod aJ 20)] from rfl) (Reps.one (show Kd.M (Kd.int .i64) _ _ _ (Int.tmod aJ 20) [.int .i64 (Int.tmod aJ 20)] from rfl) (Reps.one (show Kd.M (Kd.int .i64) _ _ _ (Int.tmod aJ 20) [.int .i64 (Int.tmod aJ 20)] from rfl) (Reps.none _ _)))))))))); intro tI uP iF hb hg_ hnew_; clear hg_ hnew_; (first | rw [← kC.out] at iF | (simp only [Int.reduceToNat] at iF; rw [← kC.out] at iF)); replace aF := xrb aF hb; replace aC := xrb aC hb; replace aP := xrb aP hb; have fC := aM (Kd.R_lower iF (below_size xbg)); replace cY := xbb cY hb; replace HB := xbs hb; clear hb iF; obtain ⟨oJ, oK, oL⟩ := Kd.R_slice aP.out; subst oL; obtain ⟨oM, oO, oP⟩ := Kd.R_slice fC.out; subst oP) | ((with_reducible refine gC 22 rfl ?_); refine goesLY (some 114) rfl Try.func22 #[.agg #[.int .i64 aS, .slice oJ aT.length oK], .slice oM kQ.length oO] ?_; (with_reducible refine (impl_DiskCrash.calls fR aS _ _ aT _ _ kQ kR kS _ ?side1 ?side2 ?side3 ?side4 tG.out).mono ?_); (case side1 => exact xC aP); (case side2 => exact (Kd.R_reads' aP.out).2.1); (case side3 => exact xC fC); (case side4 => exact (Kd.R_reads' fC.out).2.1); rintro e uQ ⟨tJ, rfl, cV, hb⟩; refine ⟨_, rfl, ?_⟩; replace aF := xrb aF hb; replace aC := xrb aC hb; replace fC := xrb fC hb; have fS := aM (Kd.R_lower (Kd.R_new' cV (Kd.R_lt (xr aP))) (below_size xbg)); replace aP := aM (Kd.R_elder' (xr aP) (Kd.R_base cV) hb); replace cY := xbb cY hb; replace HB := xbs hb; (try clear hb cV); obtain ⟨oQ, oR, oT⟩ := Kd.R_slice fS.out; subst oT) | ((with_reducible refine gC 17 rfl ?_); refine goesLY (some 116) rfl Try.func17 #[.agg #[.int .i64 kR, .slice oQ kS.length oR], .int .i64 aX] ?_; (with_reducible refine (impl_JournalRead.calls fR kR _ _ kS aX aI mR _ ?side1 ?side2 tH.out).mono ?_); (case side1 => exact xC fS); (case side2 => exact (Kd.R_reads' fS.out).2.1); rintro e uR ⟨fL, rfl, cV, hb⟩; refine ⟨_, rfl, ?_⟩; replace aP := xrb aP hb; replace fC := xrb fC hb; replace fS := xrb fS hb; have gB := aM (Kd.R_lower (Kd.R_new' (Kd.R_new' cV (Kd.R_lt (xr aF))) (Kd.R_lt (xr aC))) (below_size xbg)); replace aF := aM (Kd.R_elder' (xr aF) (Kd.R_base cV) hb); replace aC := aM (Kd.R_elder' (xr aC) (Kd.R_base cV) hb); replace cY := xbb cY hb; replace HB := xbs hb; (try clear hb cV)))
             (try simp only [Act.put, List.setIfInBounds_toArray, List.set_cons_zero, List.set_cons_succ]); go_cut [141] (fun oU wc => ∃ (kq : Nat) (eW : Bool), oU = .bool eW ∧ Aside0 (laws_FnJournal.j6 kq aG aK aI eW = some r) ∧ Aside0 (kq ≤ fR) ∧ Aside0 (Kd.R Kd.string 9 wc w.heap.size (fun k_ => some k_ ≠ (bV : Value).ownBlock ∧ some k_ ≠ (fL : Value).ownBlock) (.slice bQ aG.length bR) aG) ∧ Aside0 (Kd.R Kd.string 9 wc w.heap.size (fun k_ => some k_ ≠ ((.slice bQ aG.length bR) : Value).ownBlock ∧ some k_ ≠ (fL : Value).ownBlock) bV aK) ∧ Aside0 (Kd.R Kd.string 9 wc w.heap.size (fun k_ => some k_ ≠ ((.slice bQ aG.length bR) : Value).ownBlock ∧ some k_ ≠ (bV : Value).ownBlock) fL aI) ∧ Aside0 (Below w.heap.size w wc))
             case first =>
              have H := kT.out; clear kT; by_cases iY : (aI.length : Int) < (wrap64 ((aK.length : Int) + (aG.length : Int)))
              ·as_aux_lemma =>
               rw [if_pos iY] at H; have eK : decide ((aI.length : Int) < (wrap64 ((aK.length : Int) + (aG.length : Int)))) = true := decide_eq_true iY; clear iY; (first | rw [eK] | (simp only [i64_w, i32_w]; rw [eK]) | skip); have H' := aM H; clear H; obtain ⟨tL, tM, oV⟩ := Kd.R_slice gB.out; subst oV; obtain ⟨tN, tO, oW⟩ := Kd.R_slice aC.out; subst oW; go_wp2; go_meet
               case rel => exact ⟨_, (true), u17_3, H', ⟨u17_7⟩, ⟨u17_0⟩, ⟨u17_2⟩, ⟨u17_8⟩, ⟨xbg⟩⟩
              ·as_aux_lemma =>
               rw [if_neg iY] at H; have eK : decide ((aI.length : Int) < (wrap64 ((aK.length : Int) + (aG.length : Int)))) = false := decide_eq_false iY; clear iY; (first | rw [eK] | (simp only [i64_w, i32_w]; rw [eK]) | skip); by_cases iZ : (aI.length : Int) > (wrap64 ((wrap64 ((aK.length : Int) + (aG.length : Int))) + 2))
               ·rw [if_pos iZ] at H; have fT : decide ((wrap64 ((wrap64 ((aK.length : Int) + (aG.length : Int))) + 2)) < (aI.length : Int)) = true := decide_eq_true iZ; clear iZ; have H' := aM H; clear H; obtain ⟨tP, tQ, oX⟩ := Kd.R_slice gB.out; subst oX; obtain ⟨tR, tS, oY⟩ := Kd.R_slice aC.out; subst oY; go_wp2; go_meet
                case rel => exact ⟨_, (true), u17_3, H', ⟨u17_7⟩, ⟨u17_0⟩, ⟨u17_2⟩, ⟨u17_8⟩, ⟨xbg⟩⟩
               ·rw [if_neg iZ] at H; have fT : decide ((wrap64 ((wrap64 ((aK.length : Int) + (aG.length : Int))) + 2)) < (aI.length : Int)) = false := decide_eq_false iZ; clear iZ; have H' := aM H; clear H; obtain ⟨tT, tU, oZ⟩ := Kd.R_slice gB.out; subst oZ; obtain ⟨rJ, rK, mT⟩ := Kd.R_slice aC.out; subst mT; go_wp2; go_meet
                case rel => exact ⟨_, (decide (mR < 0)), u17_3, H', ⟨u17_7⟩, ⟨u17_0⟩, ⟨u17_2⟩, ⟨u17_8⟩, ⟨xbg⟩⟩
             case rest =>
              clear kT; try clear c1
              try clear c2
              try clear p2
              try clear c3
              try clear c4
              try clear c5
              try clear p6
              try clear c7
              try clear c9
              try clear jV
              try clear jW
              try clear jX
              try clear jY
              try clear kK
              try clear lR
              try clear lS
              try clear lT
              try clear nM
              try clear jZ
              try clear kA
              try clear gH
              try clear bU
              try clear dE
              try clear gP
              try clear bY
              try clear dL
              try clear gQ
              try clear dM
              try clear dN
              try clear lU
              try clear lV
              try clear lW
              try clear hU
              try clear cU
              try clear eR
              try clear iC
              try clear cX
              try clear eZ
              try clear iD
              try clear fA
              try clear fB
              try clear p64
              try clear nN
              try clear iX
              try clear dF
              try clear fJ
              try clear nO
              try clear iY
              try clear eK
              try clear iZ
              try clear fT
              try clear aY aZ
              try clear bC bE
              try clear bI bJ
              try clear bM bN
              try clear bZ cA
              try clear cD cE
              try clear cH cI
              try clear cL cM
              try clear cP cQ
              try clear dS dU
              try clear dY dZ
              try clear eC eD
              try clear eG eH
              try clear eS eT
              try clear bA bB
              try clear bG bH
              try clear bK bL
              try clear bO bP
              try clear cB cC
              try clear cF cG
              try clear cJ cK
              try clear cN cO
              try clear cS cT
              try clear dV dW
              try clear eA eB
              try clear eE eF
              try clear eI eJ
              try clear eU eV
              try clear p2
              obtain ⟨kq, eW, rfl, HA, HJ83, aF, aC, aO, HB⟩ := hcut; cases kq with
              | zero => exact absurd HA.out (by simp [laws_FnJournal.j6])
              | succ pA =>
               have H := HA.out; clear HA; simp only [laws_FnJournal.j6] at H; have iG := aM H; clear H; go_upto_if 141 with (fail)
               go_cut [] (fun wc => ∃ (kq : Nat), Aside0 (laws_FnJournal.j7 kq aG aK aI = some r) ∧ Aside0 (kq ≤ pA) ∧ Aside0 (Kd.R Kd.string 9 wc w.heap.size (fun k_ => some k_ ≠ (bV : Value).ownBlock ∧ some k_ ≠ (fL : Value).ownBlock) (.slice bQ aG.length bR) aG) ∧ Aside0 (Kd.R Kd.string 9 wc w.heap.size (fun k_ => some k_ ≠ ((.slice bQ aG.length bR) : Value).ownBlock ∧ some k_ ≠ (fL : Value).ownBlock) bV aK) ∧ Aside0 (Kd.R Kd.string 9 wc w.heap.size (fun k_ => some k_ ≠ ((.slice bQ aG.length bR) : Value).ownBlock ∧ some k_ ≠ (bV : Value).ownBlock) fL aI) ∧ Aside0 (Below w.heap.size w wc))
               case first =>
                have H := iG.out; clear iG; by_cases fY : eW = true
                ·subst fY; replace H := iT H; obtain rfl := Option.some.inj H; go_wp2; go_ret
                 exact ⟨u17_1, xbel⟩
                ·as_aux_lemma =>
                 replace fY := Bool.eq_false_iff.mpr fY; subst fY; replace H := iN H; have H' := aM H; clear H; go_wp2; go_meet
                 case rel => exact ⟨_, H', ⟨by have := HJ2.out; have := HJ7.out; have := HJ25.out; have := HJ37.out; have := HJ55.out; have := HJ65.out; have := HJ83.out; first | omega | exact Nat.le_refl _⟩, ⟨u17_0⟩, ⟨u17_2⟩, ⟨u17_4⟩, ⟨xbel⟩⟩
               case rest =>
                clear iG; try clear c1
                try clear c2
                try clear p2
                try clear c3
                try clear c4
                try clear c5
                try clear p6
                try clear c7
                try clear c9
                try clear c10
                try clear jV
                try clear jW
                try clear jX
                try clear jY
                try clear kK
                try clear lR
                try clear lS
                try clear lT
                try clear nM
                try clear jZ
                try clear kA
                try clear gH
                try clear bU
                try clear dE
                try clear gP
                try clear bY
                try clear dL
                try clear gQ
                try clear dM
                try clear dN
                try clear lU
                try clear lV
                try clear lW
                try clear hU
                try clear cU
                try clear eR
                try clear iC
                try clear cX
                try clear eZ
                try clear iD
                try clear fA
                try clear fB
                try clear p64
                try clear nN
                try clear iX
                try clear dF
                try clear fJ
                try clear nO
                try clear iY
                try clear eK
                try clear iZ
                try clear fT
                try clear fY
                try clear aY aZ
                try clear bC bE
                try clear bI bJ
                try clear bM bN
                try clear bZ cA
                try clear cD cE
                try clear cH cI
                try clear cL cM
                try clear cP cQ
                try clear dS dU
                try clear dY dZ
                try clear eC eD
                try clear eG eH
                try clear eS eT
                try clear bA bB
                try clear bG bH
                try clear bK bL
                try clear bO bP
                try clear cB cC
                try clear cF cG
                try clear cJ cK
                try clear cN cO
                try clear cS cT
                try clear dV dW
                try clear eA eB
                try clear eE eF
                try clear eI eJ
                try clear eU eV
                try clear p2
                try clear p6
                try clear p64
                obtain ⟨kq, HA, HJ100, aF, aC, aO, HB⟩ := hcut; cases kq with
                | zero => exact absurd HA.out (by simp [laws_FnJournal.j7])
                | succ kE =>
                 have H := HA.out; clear HA; simp only [laws_FnJournal.j7] at H; have H' := aM H; clear H; go_wp2; go_loopg [21] kE (fun kq tV w' => ∃ (aA : Int), tV = .int .i64 aA ∧ Aside0 (laws_FnJournal.l0 kq aG aK aI aA = some r) ∧ Aside0 (kq ≤ kE) ∧ Aside0 (Kd.R Kd.string 9 w' w.heap.size (fun k_ => some k_ ≠ (bV : Value).ownBlock ∧ some k_ ≠ (fL : Value).ownBlock) (.slice bQ aG.length bR) aG) ∧ Aside0 (Kd.R Kd.string 9 w' w.heap.size (fun k_ => some k_ ≠ ((.slice bQ aG.length bR) : Value).ownBlock ∧ some k_ ≠ (fL : Value).ownBlock) bV aK) ∧ Aside0 (Kd.R Kd.string 9 w' w.heap.size (fun k_ => some k_ ≠ ((.slice bQ aG.length bR) : Value).ownBlock ∧ some k_ ≠ (bV : Value).ownBlock) fL aI) ∧ Aside0 (Below w.heap.size w w'))
                 case atStart => exact ⟨(0), u17_3, H', ⟨Nat.le_refl _⟩, ⟨u17_0⟩, ⟨u17_2⟩, ⟨u17_4⟩, ⟨xbel⟩⟩
                 case round =>
                  clear H'; try clear c1
                  try clear c2
                  try clear p2
                  try clear c3
                  try clear c4
                  try clear c5
                  try clear p6
                  try clear c7
                  try clear c9
                  try clear c10
                  try clear jV
                  try clear jW
                  try clear jX
                  try clear jY
                  try clear kK
                  try clear lR
                  try clear lS
                  try clear lT
                  try clear nM
                  try clear jZ
                  try clear kA
                  try clear gH
                  try clear bU
                  try clear dE
                  try clear gP
                  try clear bY
                  try clear dL
                  try clear gQ
                  try clear dM
                  try clear dN
                  try clear lU
                  try clear lV
                  try clear lW
                  try clear hU
                  try clear cU
                  try clear eR
                  try clear iC
                  try clear cX
                  try clear eZ
                  try clear iD
                  try clear fA
                  try clear fB
                  try clear p64
                  try clear nN
                  try clear iX
                  try clear dF
                  try clear fJ
                  try clear nO
                  try clear iY
                  try clear eK
                  try clear iZ
                  try clear fT
                  try clear fY
                  try clear aY aZ
                  try clear bC bE
                  try clear bI bJ
                  try clear bM bN
                  try clear bZ cA
                  try clear cD cE
                  try clear cH cI
                  try clear cL cM
                  try clear cP cQ
                  try clear dS dU
                  try clear dY dZ
                  try clear eC eD
                  try clear eG eH
                  try clear eS eT
                  try clear bA bB
                  try clear bG bH
                  try clear bK bL
                  try clear bO bP
                  try clear cB cC
                  try clear cF cG
                  try clear cJ cK
                  try clear cN cO
                  try clear cS cT
                  try clear dV dW
                  try clear eA eB
                  try clear eE eF
                  try clear eI eJ
                  try clear eU eV
                  try clear p2
                  try clear p6
                  try clear p64
                  obtain ⟨aA, rfl, HA, HK9, aF, aC, aO, HB⟩ := hrel; cases gk with
                  | zero => exact absurd HA.out (by simp [laws_FnJournal.l0])
                  | succ k9 =>
                   have H := HA.out; clear HA; simp only [laws_FnJournal.l0] at H; have iH := aM H; clear H; obtain ⟨iI, iJ, mU⟩ := Kd.R_slice aO.out; subst mU; go_upto_if 145 with (fail)
                   go_cut [] (fun wc => ∃ (kq : Nat), Aside0 (laws_FnJournal.j9 kq aG aK aI aA = some r) ∧ Aside0 (kq ≤ k9) ∧ Aside0 (Kd.R Kd.string 9 wc w.heap.size (fun k_ => some k_ ≠ (bV : Value).ownBlock ∧ some k_ ≠ ((.slice iI aI.length iJ) : Value).ownBlock) (.slice bQ aG.length bR) aG) ∧ Aside0 (Kd.R Kd.string 9 wc w.heap.size (fun k_ => some k_ ≠ ((.slice bQ aG.length bR) : Value).ownBlock ∧ some k_ ≠ ((.slice iI aI.length iJ) : Value).ownBlock) bV aK) ∧ Aside0 (Kd.R Kd.string 9 wc w.heap.size (fun k_ => some k_ ≠ ((.slice bQ aG.length bR) : Value).ownBlock ∧ some k_ ≠ (bV : Value).ownBlock) (.slice iI aI.length iJ) aI) ∧ Aside0 (Below w.heap.size w wc))
                   case first =>
                    have H := iH.out; clear iH; by_cases fZ : aA < (aI.length : Int)
                    ·as_aux_lemma =>
                     rw [if_pos fZ] at H; have eP : decide (aA < (aI.length : Int)) = true := decide_eq_true fZ; clear fZ; (first | rw [eP] | (simp only [i64_w, i32_w]; rw [eP]) | skip); have H' := aM H; clear H; go_wp2; go_meet
                     case rel => exact ⟨_, H', ⟨by have := HJ2.out; have := HJ7.out; have := HJ25.out; have := HJ37.out; have := HJ55.out; have := HJ65.out; have := HJ83.out; have := HJ100.out; have := HK9.out; first | omega | exact Nat.le_refl _⟩, ⟨u17_0⟩, ⟨u17_2⟩, ⟨u17_4⟩, ⟨xbel⟩⟩
                    ·as_aux_lemma =>
                     rw [if_neg fZ] at H; have eP : decide (aA < (aI.length : Int)) = false := decide_eq_false fZ; clear fZ; (first | rw [eP] | (simp only [i64_w, i32_w]; rw [eP]) | skip); obtain rfl := Option.some.inj H; go_wp2; go_ret
                     exact ⟨u17_1, xbel⟩
                   case rest =>
                    clear iH; try clear c1
                    try clear c2
                    try clear p2
                    try clear c3
                    try clear c4
                    try clear c5
                    try clear p6
                    try clear c7
                    try clear c9
                    try clear c10
                    try clear jV
                    try clear jW
                    try clear jX
                    try clear jY
                    try clear kK
                    try clear lR
                    try clear lS
                    try clear lT
                    try clear nM
                    try clear jZ
                    try clear kA
                    try clear gH
                    try clear bU
                    try clear dE
                    try clear gP
                    try clear bY
                    try clear dL
                    try clear gQ
                    try clear dM
                    try clear dN
                    try clear lU
                    try clear lV
                    try clear lW
                    try clear hU
                    try clear cU
                    try clear eR
                    try clear iC
                    try clear cX
                    try clear eZ
                    try clear iD
                    try clear fA
                    try clear fB
                    try clear p64
                    try clear nN
                    try clear iX
                    try clear dF
                    try clear fJ
                    try clear nO
                    try clear iY
                    try clear eK
                    try clear iZ
                    try clear fT
                    try clear fY
                    try clear fZ
                    try clear eP
                    try clear aY aZ
                    try clear bC bE
                    try clear bI bJ
                    try clear bM bN
                    try clear bZ cA
                    try clear cD cE
                    try clear cH cI
                    try clear cL cM
                    try clear cP cQ
                    try clear dS dU
                    try clear dY dZ
                    try clear eC eD
                    try clear eG eH
                    try clear eS eT
                    try clear bA bB
                    try clear bG bH
                    try clear bK bL
                    try clear bO bP
                    try clear cB cC
                    try clear cF cG
                    try clear cJ cK
                    try clear cN cO
                    try clear cS cT
                    try clear dV dW
                    try clear eA eB
                    try clear eE eF
                    try clear eI eJ
                    try clear eU eV
                    try clear p2
                    try clear p6
                    try clear p64
                    obtain ⟨kq, HA, HJ102, aF, aC, aO, HB⟩ := hcut; cases kq with
                    | zero => exact absurd HA.out (by simp [laws_FnJournal.j9])
                    | succ fD =>
                     have H := HA.out; clear HA; simp only [laws_FnJournal.j9] at H; by_cases gX : aA < (aK.length : Int)
                     ·as_aux_lemma =>
                      rw [if_pos gX] at H; have kU : decide (aA < (aK.length : Int)) = true := decide_eq_true gX; clear gX; by_cases jJ : 0 ≤ aA
                      ·as_aux_lemma =>
                       rw [if_pos jJ] at H; have pB : decide (0 ≤ aA) = true := decide_eq_true jJ; clear jJ; by_cases jK : aA < (aI.length : Int)
                       ·rw [if_pos jK] at H; have pC : decide (aA < (aI.length : Int)) = true := decide_eq_true jK; clear jK; by_cases iK : (rdOf ByteArray.empty aI aA).toList = (rdOf ByteArray.empty aK aA).toList
                        ·rw [if_pos iK] at H; obtain ⟨kV, kW⟩ := bT iK; clear iK; have H' := aM H; clear H; obtain ⟨rL, rM, mV⟩ := Kd.R_slice aC.out; subst mV; try go_wp2
                         replace aF := rD aF; replace aC := rD aC; replace aO := rD aO; replace HB := lD HB; have p908 : 0 ≤ (aA : Int) := oda; have q908 : aA < (aI.length : Int) := oda; obtain ⟨iL, kX, eL⟩ := Kd.at_string (Kd.R_reads' aO.out).2.2 aA p908 q908; cases kX
                         replace p908 := eq_true p908; replace q908 := eq_true q908; have p909 : 0 ≤ (aA : Int) := oda; have q909 : aA < (aK.length : Int) := oda; obtain ⟨iM, kY, eM⟩ := Kd.at_string (Kd.R_reads' aC.out).2.2 aA p909 q909; cases kY
                         replace p909 := eq_true p909; replace q909 := eq_true q909; refine st_ 9 (fun w' => w'.cell? (iL.add (aA).toNat) = some (.string (rdOf ByteArray.empty aI aA)) ∧ w'.cell? (iM.add (aA).toNat) = some (.string (rdOf ByteArray.empty aK aA))) laws_FnJournal.T28 laws_FnJournal.B28 ⟨eL, eM⟩ (fun hHeld HT_ HW_ => ?_); generalize wc.drew = tW at aF aC aO HB eL eM hHeld ⊢; refine pV 0 153 ?_; refine pV 1 154 ?_; refine pV 2 155 ?_; refine pV 4 157 ?_; refine pV 5 158 ?_; refine pV 6 159 ?_; refine tK 3 156 ?_; refine tK 7 160 ?_; refine pV 8 161 ?_; refine dn_ ?_; try go_wp2
                         go_roundg fD
                         case measure => have := HJ2.out; have := HJ7.out; have := HJ25.out; have := HJ37.out; have := HJ55.out; have := HJ65.out; have := HJ83.out; have := HJ100.out; have := HK9.out; have := HJ102.out; omega
                         case rel => exact ⟨(wrap64 (aA + 1)), u17_3, H', ⟨u17_5⟩, ⟨u17_0⟩, ⟨u17_2⟩, ⟨u17_4⟩, ⟨xbel⟩⟩
                        ·rw [if_neg iK] at H; obtain ⟨kV, kW⟩ := bF iK; obtain rfl := Option.some.inj H; obtain ⟨rN, rO, mW⟩ := Kd.R_slice aC.out; subst mW; try go_wp2
                         replace aF := rD aF; replace aC := rD aC; replace aO := rD aO; replace HB := lD HB; have p908 : 0 ≤ (aA : Int) := oda; have q908 : aA < (aI.length : Int) := oda; obtain ⟨iL, kX, eL⟩ := Kd.at_string (Kd.R_reads' aO.out).2.2 aA p908 q908; cases kX
                         replace p908 := eq_true p908; replace q908 := eq_true q908; have p909 : 0 ≤ (aA : Int) := oda; have q909 : aA < (aK.length : Int) := oda; obtain ⟨iM, kY, eM⟩ := Kd.at_string (Kd.R_reads' aC.out).2.2 aA p909 q909; cases kY
                         replace p909 := eq_true p909; replace q909 := eq_true q909; refine st_ 9 (fun w' => w'.cell? (iL.add (aA).toNat) = some (.string (rdOf ByteArray.empty aI aA)) ∧ w'.cell? (iM.add (aA).toNat) = some (.string (rdOf ByteArray.empty aK aA))) laws_FnJournal.T28 laws_FnJournal.B28 ⟨eL, eM⟩ (fun hHeld HT_ HW_ => ?_); generalize wc.drew = tX at aF aC aO HB eL eM hHeld ⊢; refine pV 0 153 ?_; refine pV 1 154 ?_; refine pV 2 155 ?_; refine pV 4 157 ?_; refine pV 5 158 ?_; refine pV 6 159 ?_; refine tK 3 156 ?_; refine tK 7 160 ?_; refine pV 8 161 ?_; refine dn_ ?_; try go_wp2
                         go_ret
                         exact ⟨u17_1, xbel⟩
                       ·rw [if_neg jK] at H; exact absurd H (by simp)
                      ·rw [if_neg jJ] at H; exact absurd H (by simp)
                     ·as_aux_lemma =>
                      rw [if_neg gX] at H; have kU : decide (aA < (aK.length : Int)) = false := decide_eq_false gX; clear gX; by_cases gY : aA < (wrap64 ((aK.length : Int) + (aG.length : Int)))
                      ·as_aux_lemma =>
                       rw [if_pos gY] at H; have kZ : decide (aA < (wrap64 ((aK.length : Int) + (aG.length : Int)))) = true := decide_eq_true gY; clear gY; by_cases jL : 0 ≤ aA
                       ·rw [if_pos jL] at H; have pD : decide (0 ≤ aA) = true := decide_eq_true jL; clear jL; by_cases jM : aA < (aI.length : Int)
                        ·rw [if_pos jM] at H; have pE : decide (aA < (aI.length : Int)) = true := decide_eq_true jM; clear jM; obtain ⟨ji117, hji117⟩ : ∃ j_ : Int, (wrap64 (aA - (aK.length : Int))) = j_ := ⟨_, rfl⟩; replace H : (if 0 ≤ (ji117) then (if (ji117) < (aG.length : Int) then (if (rdOf ByteArray.empty aI aA).toList = (rdOf ByteArray.empty aG (ji117)).toList then (laws_FnJournal.l0 fD aG aK aI (wrap64 (aA + 1))) else (some false)) else (none)) else (none)) = some r := by first | (rw [hji117] at H; exact H) | (simp only [hji117] at H ⊢; exact H)
                         have hji117w : (IntKind.i64.wrap (aA - (aK.length : Int))) = ji117 := (i64_w _).trans hji117; by_cases jN : 0 ≤ (ji117)
                         ·rw [if_pos jN] at H; have pF : decide (0 ≤ (ji117)) = true := decide_eq_true jN; clear jN; by_cases jO : (ji117) < (aG.length : Int)
                          ·rw [if_pos jO] at H; have pG : decide ((ji117) < (aG.length : Int)) = true := decide_eq_true jO; clear jO; by_cases iO : (rdOf ByteArray.empty aI aA).toList = (rdOf ByteArray.empty aG (ji117)).toList
                           ·rw [if_pos iO] at H; obtain ⟨lA, lB⟩ := bT iO; clear iO; have H' := aM H; clear H; obtain ⟨rP, rQ, mX⟩ := Kd.R_slice aC.out; subst mX; try go_wp2
                            replace aF := rD aF; replace aC := rD aC; replace aO := rD aO; replace HB := lD HB; have p910 : 0 ≤ (aA : Int) := oda; have q910 : aA < (aI.length : Int) := oda; obtain ⟨iP, lC, eN⟩ := Kd.at_string (Kd.R_reads' aO.out).2.2 aA p910 q910; cases lC
                            replace p910 := eq_true p910; replace q910 := eq_true q910; have p911 : 0 ≤ ((ji117) : Int) := oda; have q911 : (ji117) < (aG.length : Int) := oda; obtain ⟨iQ, lE, eO⟩ := Kd.at_string (Kd.R_reads' aF.out).2.2 (ji117) p911 q911; cases lE
                            replace p911 := eq_true p911; replace q911 := eq_true q911; refine st_ 12 (fun w' => w'.cell? (iP.add (aA).toNat) = some (.string (rdOf ByteArray.empty aI aA)) ∧ w'.cell? (iQ.add ((ji117)).toNat) = some (.string (rdOf ByteArray.empty aG (ji117)))) laws_FnJournal.T31 laws_FnJournal.B31 ⟨eN, eO⟩ (fun hHeld HT_ HW_ => ?_); generalize wc.drew = tY at aF aC aO HB eN eO hHeld ⊢; refine pV 0 170 ?_; refine pV 1 171 ?_; refine pV 2 172 ?_; refine pV 4 174 ?_; refine pV 5 175 ?_; refine pV 6 176 ?_; refine pV 7 177 ?_; refine pV 8 178 ?_; refine pV 9 179 ?_; refine tK 3 173 ?_; refine tK 10 180 ?_; refine pV 11 181 ?_; refine dn_ ?_; try go_wp2
                            go_roundg fD
                            case measure => have := HJ2.out; have := HJ7.out; have := HJ25.out; have := HJ37.out; have := HJ55.out; have := HJ65.out; have := HJ83.out; have := HJ100.out; have := HK9.out; have := HJ102.out; omega
                            case rel => exact ⟨(wrap64 (aA + 1)), u17_3, H', ⟨u17_5⟩, ⟨u17_0⟩, ⟨u17_2⟩, ⟨u17_4⟩, ⟨xbel⟩⟩
                           ·rw [if_neg iO] at H; obtain ⟨lA, lB⟩ := bF iO; obtain rfl := Option.some.inj H; obtain ⟨rR, rS, mY⟩ := Kd.R_slice aC.out; subst mY; try go_wp2
                            replace aF := rD aF; replace aC := rD aC; replace aO := rD aO; replace HB := lD HB; have p910 : 0 ≤ (aA : Int) := oda; have q910 : aA < (aI.length : Int) := oda; obtain ⟨iP, lC, eN⟩ := Kd.at_string (Kd.R_reads' aO.out).2.2 aA p910 q910; cases lC
                            replace p910 := eq_true p910; replace q910 := eq_true q910; have p911 : 0 ≤ ((ji117) : Int) := oda; have q911 : (ji117) < (aG.length : Int) := oda; obtain ⟨iQ, lE, eO⟩ := Kd.at_string (Kd.R_reads' aF.out).2.2 (ji117) p911 q911; cases lE
                            replace p911 := eq_true p911; replace q911 := eq_true q911; refine st_ 12 (fun w' => w'.cell? (iP.add (aA).toNat) = some (.string (rdOf ByteArray.empty aI aA)) ∧ w'.cell? (iQ.add ((ji117)).toNat) = some (.string (rdOf ByteArray.empty aG (ji117)))) laws_FnJournal.T31 laws_FnJournal.B31 ⟨eN, eO⟩ (fun hHeld HT_ HW_ => ?_); generalize wc.drew = tZ at aF aC aO HB eN eO hHeld ⊢; refine pV 0 170 ?_; refine pV 1 171 ?_; refine pV 2 172 ?_; refine pV 4 174 ?_; refine pV 5 175 ?_; refine pV 6 176 ?_; refine pV 7 177 ?_; refine pV 8 178 ?_; refine pV 9 179 ?_; refine tK 3 173 ?_; refine tK 10 180 ?_; refine pV 11 181 ?_; refine dn_ ?_; try go_wp2
                            go_ret
                            exact ⟨by first | rfl | (simp [errW_none, errW_some] <;> rfl) | (simp only [← hji117]; first | rfl | (simp [errW_none, errW_some] <;> rfl)) | (simp [*, errW_none, errW_some] <;> rfl), xbel⟩
                          ·rw [if_neg jO] at H; exact absurd H (by simp)
                         ·rw [if_neg jN] at H; exact absurd H (by simp)
                        ·rw [if_neg jM] at H; exact absurd H (by simp)
                       ·rw [if_neg jL] at H; exact absurd H (by simp)
                      ·as_aux_lemma =>
                       rw [if_neg gY] at H; have kZ : decide (aA < (wrap64 ((aK.length : Int) + (aG.length : Int)))) = false := decide_eq_false gY; clear gY; by_cases iR : aA = (wrap64 ((aK.length : Int) + (aG.length : Int)))
                       ·rw [if_pos iR] at H; obtain ⟨lF, lG⟩ := bT iR; clear iR; by_cases jP : 0 ≤ aA
                        ·rw [if_pos jP] at H; have pH : decide (0 ≤ aA) = true := decide_eq_true jP; clear jP; by_cases jQ : aA < (aI.length : Int)
                         ·rw [if_pos jQ] at H; have pI : decide (aA < (aI.length : Int)) = true := decide_eq_true jQ; clear jQ; by_cases iS : (rdOf ByteArray.empty aI aA).toList = ([97] : List UInt8)
                          ·rw [if_pos iS] at H; obtain ⟨lH, lI⟩ := bT iS; clear iS; by_cases gZ : aA > (wrap64 ((aK.length : Int) + (aG.length : Int)))
                           ·rw [if_pos gZ] at H; have lJ : decide ((wrap64 ((aK.length : Int) + (aG.length : Int))) < aA) = true := decide_eq_true gZ; clear gZ; by_cases iU : (rdOf ByteArray.empty aI aA).toList = ([98, 99] : List UInt8)
                            ·rw [if_pos iU] at H; obtain ⟨lK, lL⟩ := bT iU; clear iU; have H' := aM H; clear H; obtain ⟨rT, rU, mZ⟩ := Kd.R_slice aC.out; subst mZ; have p912 : 0 ≤ (aA : Int) := oda; have q912 : aA < (aI.length : Int) := oda; obtain ⟨fU, gA, fM⟩ := Kd.at_string (Kd.R_reads' aO.out).2.2 aA p912 q912; cases gA
                             replace p912 := eq_true p912; replace q912 := eq_true q912; have p913 : 0 ≤ (aA : Int) := oda; have q913 : aA < (aI.length : Int) := oda; obtain ⟨iV, lM, jR⟩ := Kd.at_string (Kd.R_reads' aO.out).2.2 aA p913 q913; obtain rfl : fU = iV := (by injection lM); replace p913 := eq_true p913; replace q913 := eq_true q913; go_wp2; go_roundg fD
                             case measure => have := HJ2.out; have := HJ7.out; have := HJ25.out; have := HJ37.out; have := HJ55.out; have := HJ65.out; have := HJ83.out; have := HJ100.out; have := HK9.out; have := HJ102.out; omega
                             case rel => exact ⟨(wrap64 (aA + 1)), u17_3, H', ⟨u17_5⟩, ⟨u17_0⟩, ⟨u17_2⟩, ⟨u17_4⟩, ⟨xbel⟩⟩
                            ·rw [if_neg iU] at H; obtain ⟨lK, lL⟩ := bF iU; obtain rfl := Option.some.inj H; obtain ⟨rV, rW, nA⟩ := Kd.R_slice aC.out; subst nA; have p912 : 0 ≤ (aA : Int) := oda; have q912 : aA < (aI.length : Int) := oda; obtain ⟨fU, gA, fM⟩ := Kd.at_string (Kd.R_reads' aO.out).2.2 aA p912 q912; cases gA
                             replace p912 := eq_true p912; replace q912 := eq_true q912; have p913 : 0 ≤ (aA : Int) := oda; have q913 : aA < (aI.length : Int) := oda; obtain ⟨iV, lM, jR⟩ := Kd.at_string (Kd.R_reads' aO.out).2.2 aA p913 q913; obtain rfl : fU = iV := (by injection lM); replace p913 := eq_true p913; replace q913 := eq_true q913; go_wp2; go_ret
                             exact ⟨u17_1, xbel⟩
                           ·rw [if_neg gZ] at H; have lJ : decide ((wrap64 ((aK.length : Int) + (aG.length : Int))) < aA) = false := decide_eq_false gZ; clear gZ; have H' := aM H; clear H; obtain ⟨rX, rY, nB⟩ := Kd.R_slice aC.out; subst nB; have p912 : 0 ≤ (aA : Int) := oda; have q912 : aA < (aI.length : Int) := oda; obtain ⟨fU, gA, fM⟩ := Kd.at_string (Kd.R_reads' aO.out).2.2 aA p912 q912; cases gA
                            replace p912 := eq_true p912; replace q912 := eq_true q912; go_wp2; go_roundg fD
                            case measure => have := HJ2.out; have := HJ7.out; have := HJ25.out; have := HJ37.out; have := HJ55.out; have := HJ65.out; have := HJ83.out; have := HJ100.out; have := HK9.out; have := HJ102.out; omega
                            case rel => exact ⟨(wrap64 (aA + 1)), u17_3, H', ⟨u17_5⟩, ⟨u17_0⟩, ⟨u17_2⟩, ⟨u17_4⟩, ⟨xbel⟩⟩
                          ·rw [if_neg iS] at H; obtain ⟨lH, lI⟩ := bF iS; obtain rfl := Option.some.inj H; obtain ⟨rZ, sA, nC⟩ := Kd.R_slice aC.out; subst nC; have p912 : 0 ≤ (aA : Int) := oda; have q912 : aA < (aI.length : Int) := oda; obtain ⟨fU, gA, fM⟩ := Kd.at_string (Kd.R_reads' aO.out).2.2 aA p912 q912; cases gA
                           replace p912 := eq_true p912; replace q912 := eq_true q912; go_wp2; go_ret
                           exact ⟨u17_1, xbel⟩
                         ·rw [if_neg jQ] at H; exact absurd H (by simp)
                        ·rw [if_neg jP] at H; exact absurd H (by simp)
                       ·rw [if_neg iR] at H; obtain ⟨lF, lG⟩ := bF iR; by_cases hJ : aA > (wrap64 ((aK.length : Int) + (aG.length : Int)))
                        ·rw [if_pos hJ] at H; have lN : decide ((wrap64 ((aK.length : Int) + (aG.length : Int))) < aA) = true := decide_eq_true hJ; clear hJ; by_cases jS : 0 ≤ aA
                         ·rw [if_pos jS] at H; have pJ : decide (0 ≤ aA) = true := decide_eq_true jS; clear jS; by_cases jT : aA < (aI.length : Int)
                          ·rw [if_pos jT] at H; have pK : decide (aA < (aI.length : Int)) = true := decide_eq_true jT; clear jT; by_cases iW : (rdOf ByteArray.empty aI aA).toList = ([98, 99] : List UInt8)
                           ·rw [if_pos iW] at H; obtain ⟨lO, lP⟩ := bT iW; clear iW; have H' := aM H; clear H; obtain ⟨sB, sC, nD⟩ := Kd.R_slice aC.out; subst nD; have p914 : 0 ≤ (aA : Int) := oda; have q914 : aA < (aI.length : Int) := oda; obtain ⟨nE, lQ, jU⟩ := Kd.at_string (Kd.R_reads' aO.out).2.2 aA p914 q914; cases lQ
                            replace p914 := eq_true p914; replace q914 := eq_true q914; go_wp2; go_roundg fD
                            case measure => have := HJ2.out; have := HJ7.out; have := HJ25.out; have := HJ37.out; have := HJ55.out; have := HJ65.out; have := HJ83.out; have := HJ100.out; have := HK9.out; have := HJ102.out; omega
                            case rel => exact ⟨(wrap64 (aA + 1)), u17_3, H', ⟨u17_5⟩, ⟨u17_0⟩, ⟨u17_2⟩, ⟨u17_4⟩, ⟨xbel⟩⟩
                           ·rw [if_neg iW] at H; obtain ⟨lO, lP⟩ := bF iW; obtain rfl := Option.some.inj H; obtain ⟨sD, sE, nF⟩ := Kd.R_slice aC.out; subst nF; have p914 : 0 ≤ (aA : Int) := oda; have q914 : aA < (aI.length : Int) := oda; obtain ⟨nE, lQ, jU⟩ := Kd.at_string (Kd.R_reads' aO.out).2.2 aA p914 q914; cases lQ
                            replace p914 := eq_true p914; replace q914 := eq_true q914; go_wp2; go_ret
                            exact ⟨u17_1, xbel⟩
                          ·rw [if_neg jT] at H; exact absurd H (by simp)
                         ·rw [if_neg jS] at H; exact absurd H (by simp)
                        ·rw [if_neg hJ] at H; have lN : decide ((wrap64 ((aK.length : Int) + (aG.length : Int))) < aA) = false := decide_eq_false hJ; clear hJ; have H' := aM H; clear H; obtain ⟨sF, sG, nG⟩ := Kd.R_slice aC.out; subst nG; go_wp2; go_roundg fD
                         case measure => have := HJ2.out; have := HJ7.out; have := HJ25.out; have := HJ37.out; have := HJ55.out; have := HJ65.out; have := HJ83.out; have := HJ100.out; have := HK9.out; have := HJ102.out; omega
                         case rel => exact ⟨(wrap64 (aA + 1)), u17_3, H', ⟨u17_5⟩, ⟨u17_0⟩, ⟨u17_2⟩, ⟨u17_4⟩, ⟨xbel⟩⟩

/-- THE ONE PURE STATEMENT of laws_FnJournal. -/
def laws_FnJournal.Pure : Prop := ∀ (l0 : List Int), l0.length ≤ maxLen → l0.length * 1 ≤ 140737488351232 → (∀ x ∈ l0, (Lit.int .u8 x).wf = true) → ∃ k, laws_FnJournal.f k l0 = some true
theorem laws_FnJournal.walk (P : laws_FnJournal.Pure) (A0 : Option Addr) (c0 : Nat) (l0 : List Int) (w : World) (nH : Kd.C (Kd.int .u8) w A0 l0.length l0) (nI : l0.length ≤ c0) (hm0 : l0.length ≤ maxLen) (hz0 : l0.length * 1 ≤ 140737488351232) (uA : ∀ x ∈ l0, (Lit.int .u8 x).wf = true) :
 Calls Try.prog 3 #[.slice A0 l0.length c0] w fun e w' => e = .returned (.bool true) ∧ Below w.heap.size w w' := by
 obtain ⟨k, h⟩ := P l0 hm0 hz0 uA
 refine (laws_FnJournal.calls k A0 c0 l0 true w nH nI h).mono ?_
 rintro e w' ⟨rfl, hd⟩
 exact ⟨rfl, hd⟩

end Go.Proofs.Ytoojdlobnbakoaa.QFnJournal
