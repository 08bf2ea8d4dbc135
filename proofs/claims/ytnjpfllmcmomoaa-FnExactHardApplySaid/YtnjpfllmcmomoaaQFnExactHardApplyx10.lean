-- A walk, by a program of this session.
import Derived.Test.YtnjpfllmcmomoaaQFnExactHardApplyx0
import Derived.Test.YtnjpfllmcmomoaaQFnExactHardApplyx9
namespace Go.Proofs.Ytnjpfllmcmomoaa.QFnExactHardApply
open Go.RowKit Go.Proofs.YtnjpfllmcmomoaaW.PrintWords Go.Proofs.YtnjpfllmcmomoaaW.PrintLast Go.Proofs.YtnjpfllmcmomoaaW.PrintMore
attribute [local go_sem] max2_int min2_int max_two min_two max_three min_three max_four min_four   -- for this text's walks alone
set_option linter.unusedVariables false
set_option linter.unusedSimpArgs false

/-! ### laws_heldEntryS: function 104 -/
def laws_heldEntryS.l0 : Nat → List (S36) → Int → Int → Option (Int)
 | 0, _, _, _ => none
 | k + 1, x0, x1, x5 => if x5 < (x0.length : Int) then (if 0 ≤ x5 then (if ((rd_T36 x0 x5).f0) = x1 then (if ((rd_T36 x0 x5).f1.f0) = (wrap64 (x1 + 1)) then (if ((rd_T36 x0 x5).f1.f1) = (wrap64 ((wrap64 (x1 + 1)) + 1)) then (if ((rd_T36 x0 x5).f1.f2) = (wrap64 ((wrap64 ((wrap64 (x1 + 1)) + 1)) + 1)) then (if ((rd_T36 x0 x5).f1.f3) = (wrap64 ((wrap64 ((wrap64 ((wrap64 (x1 + 1)) + 1)) + 1)) + 1)) then ((laws_markText.f k (wrap64 ((wrap64 ((wrap64 ((wrap64 ((wrap64 (x1 + 1)) + 1)) + 1)) + 1)) + 1))).bind fun t310 => (if ((rd_T36 x0 x5).f1.f4).toList = t310.toList then (laws_heldEntryS.l0 k x0 (wrap64 ((wrap64 ((wrap64 ((wrap64 ((wrap64 ((wrap64 (x1 + 1)) + 1)) + 1)) + 1)) + 1)) + 1)) (wrap64 (x5 + 1))) else (some (-1)))) else (some (-1))) else (some (-1))) else (some (-1))) else (some (-1))) else (some (-1))) else (none)) else (some x1)
def laws_heldEntryS.f (k : Nat) (l0 : List (S36)) (a1 : Int) : Option (Int) := laws_heldEntryS.l0 k l0 a1 0
set_option maxRecDepth 100000 in
theorem laws_heldEntryS.mono_l : ∀ k, (∀ y0 y1 y2, LeO (laws_heldEntryS.l0 k y0 y1 y2) (laws_heldEntryS.l0 (k + 1) y0 y1 y2))
 | 0 => fun _ _ _ r h => by simp [laws_heldEntryS.l0] at h
 | k + 1 => by
  have ih0 := laws_heldEntryS.mono_l k
  ·intro y0 y1 y2
   unfold laws_heldEntryS.l0
   repeat' first
   | (with_reducible exact ih0 _ _ _)
   | (with_reducible exact laws_markText.mono _ _)
   | (with_reducible exact LeO.refl _)
   | (with_reducible exact LeO.none _)
   | (with_reducible refine LeO.ite ?_ ?_)
   | (with_reducible refine LeO.bind ?_ (fun _ => ?_))
   | exact ih0 _ _ _
   | exact laws_markText.mono _ _
   | exact LeO.none _
   | refine LeO.ite ?_ ?_
   | refine LeO.bind ?_ (fun _ => ?_)
theorem laws_heldEntryS.mono : ∀ a0 a1 k, LeO (laws_heldEntryS.f k a0 a1) (laws_heldEntryS.f (k + 1) a0 a1) := by
 intro a0 a1 k
 have ih0 := laws_heldEntryS.mono_l k
 unfold laws_heldEntryS.f
 repeat' first
  | (with_reducible exact ih0 _ _ _)
  | (with_reducible exact laws_markText.mono _ _)
  | (with_reducible exact LeO.refl _)
  | (with_reducible exact LeO.none _)
  | (with_reducible refine LeO.ite ?_ ?_)
  | (with_reducible refine LeO.bind ?_ (fun _ => ?_))
  | exact ih0 _ _ _
  | exact laws_markText.mono _ _
  | exact LeO.none _
  | refine LeO.ite ?_ ?_
  | refine LeO.bind ?_ (fun _ => ?_)
def laws_heldEntryS.T19 : Bool × List (List Nat × List Nat) := (true, [([], []), ([], []), ([0, 1], [0, 1]), ([2], [2]), ([3], [3]), ([4], [4]), ([], []), ([6], [6]), ([5, 7], [5, 7])])
def laws_heldEntryS.B19 : List Nat := [0, 0, 3, 7, 15, 31, 0, 64, 255]
theorem laws_heldEntryS.tab19 : rtab .any (opsOf Try.f104 19) = laws_heldEntryS.T19 := by kernel_rfl
theorem laws_heldEntryS.bits19 : waitsOk laws_heldEntryS.T19.2 laws_heldEntryS.B19 = true := by kernel_rfl
set_option maxHeartbeats 8000000 in
set_option maxRecDepth 100000 in
theorem laws_heldEntryS.calls (k : Nat) (A0 : Option Addr) (c0 : Nat) (l0 : List (S36)) (a1 : Int) (r : Int) (w : World) (hr0 : Kd.C k36 w A0 l0.length l0) (hc0 : l0.length ≤ c0) (h : laws_heldEntryS.f k l0 a1 = some r) :
 Calls Try.prog 104 #[.slice A0 l0.length c0, .int .i64 a1] w fun e w' => e = .returned (.int .i64 r) ∧ Below w.heap.size w w' := by
 have HR0 := aM hr0
 have HC0 := aM hc0
 clear hr0 hc0
 have HB := aM (Below.refl w.heap.size w)
 have H : (laws_heldEntryS.l0 k l0 a1 0) = some r := h
 clear h
 have H' := aM H
 clear H
 go_enter Try.func104, Try.ntmps104
 go_wp2
 go_loopg [1, 5] k (fun kq v1 v5 w' => ∃ (x1_1 : Int) (x5_1 : Int), v1 = .int .i64 x1_1 ∧ v5 = .int .i64 x5_1 ∧ Aside0 (laws_heldEntryS.l0 kq l0 x1_1 x5_1 = some r) ∧ Aside0 (kq ≤ k) ∧ Aside0 (Below w.heap.size w w'))
 case atStart => exact ⟨(a1), (0), (by first | rfl | (simp; done) | (simp [*]; done)), (by first | rfl | (simp; done) | (simp [*]; done)), H', ⟨Nat.le_refl _⟩, ⟨xbel⟩⟩
 case round =>
  clear H'
  try clear c1
  try clear p2
  obtain ⟨x1_1, x5_1, rfl, rfl, HA, HK1, HB⟩ := hrel
  cases gk with
  | zero => exact absurd HA.out (by simp [laws_heldEntryS.l0])
  | succ k1 =>
   have H := HA.out; clear HA
   simp only [laws_heldEntryS.l0] at H
   by_cases c3 : x5_1 < (l0.length : Int)
   ·rw [if_pos c3] at H
    have c3b0 : decide (x5_1 < (l0.length : Int)) = true := decide_eq_true c3; clear c3
    by_cases c4 : 0 ≤ x5_1
    ·rw [if_pos c4] at H
     have c4b0 : decide (0 ≤ x5_1) = true := decide_eq_true c4; clear c4
     by_cases c5 : ((rd_T36 l0 x5_1).f0) = x1_1
     ·rw [if_pos c5] at H
      have c5b0 : (((rd_T36 l0 x5_1).f0) == x1_1) = true := beq_iff_eq.mpr c5; have c5b1 : (((rd_T36 l0 x5_1).f0) != x1_1) = false := bne_eq_false_iff_eq.mpr c5; clear c5
      by_cases c6 : ((rd_T36 l0 x5_1).f1.f0) = (wrap64 (x1_1 + 1))
      ·rw [if_pos c6] at H
       have c6b0 : (((rd_T36 l0 x5_1).f1.f0) == (wrap64 (x1_1 + 1))) = true := beq_iff_eq.mpr c6; have c6b1 : (((rd_T36 l0 x5_1).f1.f0) != (wrap64 (x1_1 + 1))) = false := bne_eq_false_iff_eq.mpr c6; clear c6
       by_cases c7 : ((rd_T36 l0 x5_1).f1.f1) = (wrap64 ((wrap64 (x1_1 + 1)) + 1))
       ·rw [if_pos c7] at H
        have c7b0 : (((rd_T36 l0 x5_1).f1.f1) == (wrap64 ((wrap64 (x1_1 + 1)) + 1))) = true := beq_iff_eq.mpr c7; have c7b1 : (((rd_T36 l0 x5_1).f1.f1) != (wrap64 ((wrap64 (x1_1 + 1)) + 1))) = false := bne_eq_false_iff_eq.mpr c7; clear c7
        by_cases c8 : ((rd_T36 l0 x5_1).f1.f2) = (wrap64 ((wrap64 ((wrap64 (x1_1 + 1)) + 1)) + 1))
        ·rw [if_pos c8] at H
         have c8b0 : (((rd_T36 l0 x5_1).f1.f2) == (wrap64 ((wrap64 ((wrap64 (x1_1 + 1)) + 1)) + 1))) = true := beq_iff_eq.mpr c8; have c8b1 : (((rd_T36 l0 x5_1).f1.f2) != (wrap64 ((wrap64 ((wrap64 (x1_1 + 1)) + 1)) + 1))) = false := bne_eq_false_iff_eq.mpr c8; clear c8
         by_cases c9 : ((rd_T36 l0 x5_1).f1.f3) = (wrap64 ((wrap64 ((wrap64 ((wrap64 (x1_1 + 1)) + 1)) + 1)) + 1))
         ·rw [if_pos c9] at H
          have c9b0 : (((rd_T36 l0 x5_1).f1.f3) == (wrap64 ((wrap64 ((wrap64 ((wrap64 (x1_1 + 1)) + 1)) + 1)) + 1))) = true := beq_iff_eq.mpr c9; have c9b1 : (((rd_T36 l0 x5_1).f1.f3) != (wrap64 ((wrap64 ((wrap64 ((wrap64 (x1_1 + 1)) + 1)) + 1)) + 1))) = false := bne_eq_false_iff_eq.mpr c9; clear c9; replace H := Option.bind_eq_some_iff.mp H
          obtain ⟨t310, A100, H⟩ := H
          replace H : (if ((rd_T36 l0 x5_1).f1.f4).toList = t310.toList then (laws_heldEntryS.l0 k1 l0 (wrap64 ((wrap64 ((wrap64 ((wrap64 ((wrap64 ((wrap64 (x1_1 + 1)) + 1)) + 1)) + 1)) + 1)) + 1)) (wrap64 (x5_1 + 1))) else (some (-1))) = some r := H; have A10 := aM A100; clear A100
          by_cases c11 : ((rd_T36 l0 x5_1).f1.f4).toList = t310.toList
          ·rw [if_pos c11] at H
           have c11b0 : (((rd_T36 l0 x5_1).f1.f4).toList == t310.toList) = true := beq_iff_eq.mpr c11; have c11b1 : (((rd_T36 l0 x5_1).f1.f4).toList != t310.toList) = false := bne_eq_false_iff_eq.mpr c11; clear c11
           have H' := aM H
           clear H; have p304 : 0 ≤ (x5_1 : Int) := of_decide_eq_true (by first | (with_reducible assumption) | assumption); have q304 : x5_1 < (l0.length : Int) := of_decide_eq_true (by first | (with_reducible assumption) | assumption)
           obtain ⟨ad304, e304, hx304_0, hx304_1, hx304_2, hx304_3, hx304_4, hx304_5⟩ := at_T36 HR0.out x5_1 p304 q304
           cases e304
           replace hx304_0 := xce HB hx304_0; replace hx304_1 := xce HB hx304_1; replace hx304_2 := xce HB hx304_2; replace hx304_3 := xce HB hx304_3; replace hx304_4 := xce HB hx304_4; replace hx304_5 := xce HB hx304_5; replace p304 := eq_true p304; replace q304 := eq_true q304; have p305 : 0 ≤ (x5_1 : Int) := of_decide_eq_true (by first | (with_reducible assumption) | assumption); have q305 : x5_1 < (l0.length : Int) := of_decide_eq_true (by first | (with_reducible assumption) | assumption)
           obtain ⟨ad305, e305, hx305_0, hx305_1, hx305_2, hx305_3, hx305_4, hx305_5⟩ := at_T36 HR0.out x5_1 p305 q305
           obtain rfl : ad304 = ad305 := (by injection e305)
           replace hx305_0 := xce HB hx305_0; replace hx305_1 := xce HB hx305_1; replace hx305_2 := xce HB hx305_2; replace hx305_3 := xce HB hx305_3; replace hx305_4 := xce HB hx305_4; replace hx305_5 := xce HB hx305_5; replace p305 := eq_true p305; replace q305 := eq_true q305; have p306 : 0 ≤ (x5_1 : Int) := of_decide_eq_true (by first | (with_reducible assumption) | assumption); have q306 : x5_1 < (l0.length : Int) := of_decide_eq_true (by first | (with_reducible assumption) | assumption)
           obtain ⟨ad306, e306, hx306_0, hx306_1, hx306_2, hx306_3, hx306_4, hx306_5⟩ := at_T36 HR0.out x5_1 p306 q306
           obtain rfl : ad304 = ad306 := (by injection e306)
           replace hx306_0 := xce HB hx306_0; replace hx306_1 := xce HB hx306_1; replace hx306_2 := xce HB hx306_2; replace hx306_3 := xce HB hx306_3; replace hx306_4 := xce HB hx306_4; replace hx306_5 := xce HB hx306_5; replace p306 := eq_true p306; replace q306 := eq_true q306; have p307 : 0 ≤ (x5_1 : Int) := of_decide_eq_true (by first | (with_reducible assumption) | assumption); have q307 : x5_1 < (l0.length : Int) := of_decide_eq_true (by first | (with_reducible assumption) | assumption)
           obtain ⟨ad307, e307, hx307_0, hx307_1, hx307_2, hx307_3, hx307_4, hx307_5⟩ := at_T36 HR0.out x5_1 p307 q307
           obtain rfl : ad304 = ad307 := (by injection e307)
           replace hx307_0 := xce HB hx307_0; replace hx307_1 := xce HB hx307_1; replace hx307_2 := xce HB hx307_2; replace hx307_3 := xce HB hx307_3; replace hx307_4 := xce HB hx307_4; replace hx307_5 := xce HB hx307_5; replace p307 := eq_true p307; replace q307 := eq_true q307; have p308 : 0 ≤ (x5_1 : Int) := of_decide_eq_true (by first | (with_reducible assumption) | assumption); have q308 : x5_1 < (l0.length : Int) := of_decide_eq_true (by first | (with_reducible assumption) | assumption)
           obtain ⟨ad308, e308, hx308_0, hx308_1, hx308_2, hx308_3, hx308_4, hx308_5⟩ := at_T36 HR0.out x5_1 p308 q308
           obtain rfl : ad304 = ad308 := (by injection e308)
           replace hx308_0 := xce HB hx308_0; replace hx308_1 := xce HB hx308_1; replace hx308_2 := xce HB hx308_2; replace hx308_3 := xce HB hx308_3; replace hx308_4 := xce HB hx308_4; replace hx308_5 := xce HB hx308_5; replace p308 := eq_true p308; replace q308 := eq_true q308
           try go_wp2
           replace HB := aM (below_drew1 HB.out); have p309 : 0 ≤ (x5_1 : Int) := of_decide_eq_true (by first | (with_reducible assumption) | assumption); have q309 : x5_1 < (l0.length : Int) := of_decide_eq_true (by first | (with_reducible assumption) | assumption)
           obtain ⟨ad309, e309, hx309_0, hx309_1, hx309_2, hx309_3, hx309_4, hx309_5⟩ := at_T36 HR0.out x5_1 p309 q309
           have hw309_5 := hx309_5; have hw309_4 := hx309_4; have hw309_3 := hx309_3; have hw309_2 := hx309_2; have hw309_1 := hx309_1; have hw309_0 := hx309_0
           obtain rfl : ad304 = ad309 := (by injection e309)
           replace hx309_0 := xce HB hx309_0; replace hx309_1 := xce HB hx309_1; replace hx309_2 := xce HB hx309_2; replace hx309_3 := xce HB hx309_3; replace hx309_4 := xce HB hx309_4; replace hx309_5 := xce HB hx309_5; replace p309 := eq_true p309; replace q309 := eq_true q309
           refine start_ (n := 9) (S := fun w' => w'.cell? (ad304.add ((x5_1).toNat * 6)) = some (.int .i64 ((rd_T36 l0 x5_1).f0)) ∧ w'.cell? ⟨(ad304.add ((x5_1).toNat * 6)).block, (ad304.add ((x5_1).toNat * 6)).off + 1, none⟩ = some (.int .i64 ((rd_T36 l0 x5_1).f1.f0)) ∧ w'.cell? ⟨(ad304.add ((x5_1).toNat * 6)).block, (ad304.add ((x5_1).toNat * 6)).off + 2, none⟩ = some (.int .i64 ((rd_T36 l0 x5_1).f1.f1)) ∧ w'.cell? ⟨(ad304.add ((x5_1).toNat * 6)).block, (ad304.add ((x5_1).toNat * 6)).off + 3, none⟩ = some (.int .i64 ((rd_T36 l0 x5_1).f1.f2)) ∧ w'.cell? ⟨(ad304.add ((x5_1).toNat * 6)).block, (ad304.add ((x5_1).toNat * 6)).off + 4, none⟩ = some (.int .i64 ((rd_T36 l0 x5_1).f1.f3)) ∧ w'.cell? ⟨(ad304.add ((x5_1).toNat * 6)).block, (ad304.add ((x5_1).toNat * 6)).off + 5, none⟩ = some (.string ((rd_T36 l0 x5_1).f1.f4))) (ds := []) #[false, false, false, false, false, false, false, false, false] (by kernel_rfl) rfl rfl ⟨(xce HB hw309_0), (xce HB hw309_1), (xce HB hw309_2), (xce HB hw309_3), (xce HB hw309_4), (xce HB hw309_5)⟩ (fun hHeld => ?_); refine with_tabW laws_heldEntryS.tab19 laws_heldEntryS.bits19 (fun HT_ HW_ => ?_)
           generalize wr.drew = w12 at HB hx309_0 hx309_1 hx309_2 hx309_3 hx309_4 hx309_5 hHeld ⊢
           refine pv_ 0 61 (h := ?_)
           refine pv_ 1 62 (h := ?_)
           refine pv_ 2 63 (h := ?_)
           refine pv_ 3 64 (h := ?_)
           refine pv_ 4 65 (h := ?_)
           refine pv_ 6 67 (h := ?_)
           refine tk_ 5 66 (h := ?_)
           refine on_ 7 68 (h := fun K hK => ?_)
           refine goesY Try.func127 #[.int .i64 (wrap64 ((wrap64 ((wrap64 ((wrap64 ((wrap64 (x1_1 + 1)) + 1)) + 1)) + 1)) + 1))] ?_
           with_reducible refine (laws_markText.calls k1 (wrap64 ((wrap64 ((wrap64 ((wrap64 ((wrap64 (x1_1 + 1)) + 1)) + 1)) + 1)) + 1)) t310 _ A10.out).mono ?_
           rintro e w13 ⟨rfl, hb⟩
           refine ⟨_, rfl, ?_⟩
           replace HB := xbs hb
           (try clear hb); (try clear hb2); (try clear hk); (try clear hi)
           refine hK.out _ _ ⟨(xce HB hw309_0), (xce HB hw309_1), (xce HB hw309_2), (xce HB hw309_3), (xce HB hw309_4), (xce HB hw309_5)⟩ (fun hHeld => ?_)
           clear hK K
           refine norm_ (a' := ?_) ?_ ?_
           rotate_left
           ·show Act.put _ (some 68) _ = _
            simp only [Act.put, List.setIfInBounds_toArray, List.set_cons_zero, List.set_cons_succ, i64_w, i32_w]
            rfl
           refine pv_ 8 69 (h := ?_)
           refine done_ (done_of HT_.out (by kernel_rfl)) ?_
           try go_wp2
           go_roundg k1
           case measure => have := HK1.out; omega
           case rel => exact ⟨(wrap64 ((wrap64 ((wrap64 ((wrap64 ((wrap64 ((wrap64 (x1_1 + 1)) + 1)) + 1)) + 1)) + 1)) + 1)), (wrap64 (x5_1 + 1)), (by first | rfl | (simp; done) | (simp [*]; done)), (by first | rfl | (simp; done) | (simp [*]; done)), H', ⟨by have := HK1.out; omega⟩, ⟨xbel⟩⟩
          ·rw [if_neg c11] at H
           have c11b0 : (((rd_T36 l0 x5_1).f1.f4).toList == t310.toList) = false := beq_eq_false_iff_ne.mpr c11; have c11b1 : (((rd_T36 l0 x5_1).f1.f4).toList != t310.toList) = true := bne_iff_ne.mpr c11
           obtain rfl := Option.some.inj H
           have p304 : 0 ≤ (x5_1 : Int) := of_decide_eq_true (by first | (with_reducible assumption) | assumption); have q304 : x5_1 < (l0.length : Int) := of_decide_eq_true (by first | (with_reducible assumption) | assumption)
           obtain ⟨ad304, e304, hx304_0, hx304_1, hx304_2, hx304_3, hx304_4, hx304_5⟩ := at_T36 HR0.out x5_1 p304 q304
           cases e304
           replace hx304_0 := xce HB hx304_0; replace hx304_1 := xce HB hx304_1; replace hx304_2 := xce HB hx304_2; replace hx304_3 := xce HB hx304_3; replace hx304_4 := xce HB hx304_4; replace hx304_5 := xce HB hx304_5; replace p304 := eq_true p304; replace q304 := eq_true q304; have p305 : 0 ≤ (x5_1 : Int) := of_decide_eq_true (by first | (with_reducible assumption) | assumption); have q305 : x5_1 < (l0.length : Int) := of_decide_eq_true (by first | (with_reducible assumption) | assumption)
           obtain ⟨ad305, e305, hx305_0, hx305_1, hx305_2, hx305_3, hx305_4, hx305_5⟩ := at_T36 HR0.out x5_1 p305 q305
           obtain rfl : ad304 = ad305 := (by injection e305)
           replace hx305_0 := xce HB hx305_0; replace hx305_1 := xce HB hx305_1; replace hx305_2 := xce HB hx305_2; replace hx305_3 := xce HB hx305_3; replace hx305_4 := xce HB hx305_4; replace hx305_5 := xce HB hx305_5; replace p305 := eq_true p305; replace q305 := eq_true q305; have p306 : 0 ≤ (x5_1 : Int) := of_decide_eq_true (by first | (with_reducible assumption) | assumption); have q306 : x5_1 < (l0.length : Int) := of_decide_eq_true (by first | (with_reducible assumption) | assumption)
           obtain ⟨ad306, e306, hx306_0, hx306_1, hx306_2, hx306_3, hx306_4, hx306_5⟩ := at_T36 HR0.out x5_1 p306 q306
           obtain rfl : ad304 = ad306 := (by injection e306)
           replace hx306_0 := xce HB hx306_0; replace hx306_1 := xce HB hx306_1; replace hx306_2 := xce HB hx306_2; replace hx306_3 := xce HB hx306_3; replace hx306_4 := xce HB hx306_4; replace hx306_5 := xce HB hx306_5; replace p306 := eq_true p306; replace q306 := eq_true q306; have p307 : 0 ≤ (x5_1 : Int) := of_decide_eq_true (by first | (with_reducible assumption) | assumption); have q307 : x5_1 < (l0.length : Int) := of_decide_eq_true (by first | (with_reducible assumption) | assumption)
           obtain ⟨ad307, e307, hx307_0, hx307_1, hx307_2, hx307_3, hx307_4, hx307_5⟩ := at_T36 HR0.out x5_1 p307 q307
           obtain rfl : ad304 = ad307 := (by injection e307)
           replace hx307_0 := xce HB hx307_0; replace hx307_1 := xce HB hx307_1; replace hx307_2 := xce HB hx307_2; replace hx307_3 := xce HB hx307_3; replace hx307_4 := xce HB hx307_4; replace hx307_5 := xce HB hx307_5; replace p307 := eq_true p307; replace q307 := eq_true q307; have p308 : 0 ≤ (x5_1 : Int) := of_decide_eq_true (by first | (with_reducible assumption) | assumption); have q308 : x5_1 < (l0.length : Int) := of_decide_eq_true (by first | (with_reducible assumption) | assumption)
           obtain ⟨ad308, e308, hx308_0, hx308_1, hx308_2, hx308_3, hx308_4, hx308_5⟩ := at_T36 HR0.out x5_1 p308 q308
           obtain rfl : ad304 = ad308 := (by injection e308)
           replace hx308_0 := xce HB hx308_0; replace hx308_1 := xce HB hx308_1; replace hx308_2 := xce HB hx308_2; replace hx308_3 := xce HB hx308_3; replace hx308_4 := xce HB hx308_4; replace hx308_5 := xce HB hx308_5; replace p308 := eq_true p308; replace q308 := eq_true q308
           try go_wp2
           replace HB := aM (below_drew1 HB.out); have p309 : 0 ≤ (x5_1 : Int) := of_decide_eq_true (by first | (with_reducible assumption) | assumption); have q309 : x5_1 < (l0.length : Int) := of_decide_eq_true (by first | (with_reducible assumption) | assumption)
           obtain ⟨ad309, e309, hx309_0, hx309_1, hx309_2, hx309_3, hx309_4, hx309_5⟩ := at_T36 HR0.out x5_1 p309 q309
           have hw309_5 := hx309_5; have hw309_4 := hx309_4; have hw309_3 := hx309_3; have hw309_2 := hx309_2; have hw309_1 := hx309_1; have hw309_0 := hx309_0
           obtain rfl : ad304 = ad309 := (by injection e309)
           replace hx309_0 := xce HB hx309_0; replace hx309_1 := xce HB hx309_1; replace hx309_2 := xce HB hx309_2; replace hx309_3 := xce HB hx309_3; replace hx309_4 := xce HB hx309_4; replace hx309_5 := xce HB hx309_5; replace p309 := eq_true p309; replace q309 := eq_true q309
           refine start_ (n := 9) (S := fun w' => w'.cell? (ad304.add ((x5_1).toNat * 6)) = some (.int .i64 ((rd_T36 l0 x5_1).f0)) ∧ w'.cell? ⟨(ad304.add ((x5_1).toNat * 6)).block, (ad304.add ((x5_1).toNat * 6)).off + 1, none⟩ = some (.int .i64 ((rd_T36 l0 x5_1).f1.f0)) ∧ w'.cell? ⟨(ad304.add ((x5_1).toNat * 6)).block, (ad304.add ((x5_1).toNat * 6)).off + 2, none⟩ = some (.int .i64 ((rd_T36 l0 x5_1).f1.f1)) ∧ w'.cell? ⟨(ad304.add ((x5_1).toNat * 6)).block, (ad304.add ((x5_1).toNat * 6)).off + 3, none⟩ = some (.int .i64 ((rd_T36 l0 x5_1).f1.f2)) ∧ w'.cell? ⟨(ad304.add ((x5_1).toNat * 6)).block, (ad304.add ((x5_1).toNat * 6)).off + 4, none⟩ = some (.int .i64 ((rd_T36 l0 x5_1).f1.f3)) ∧ w'.cell? ⟨(ad304.add ((x5_1).toNat * 6)).block, (ad304.add ((x5_1).toNat * 6)).off + 5, none⟩ = some (.string ((rd_T36 l0 x5_1).f1.f4))) (ds := []) #[false, false, false, false, false, false, false, false, false] (by kernel_rfl) rfl rfl ⟨(xce HB hw309_0), (xce HB hw309_1), (xce HB hw309_2), (xce HB hw309_3), (xce HB hw309_4), (xce HB hw309_5)⟩ (fun hHeld => ?_); refine with_tabW laws_heldEntryS.tab19 laws_heldEntryS.bits19 (fun HT_ HW_ => ?_)
           generalize wr.drew = w14 at HB hx309_0 hx309_1 hx309_2 hx309_3 hx309_4 hx309_5 hHeld ⊢
           refine pv_ 0 61 (h := ?_)
           refine pv_ 1 62 (h := ?_)
           refine pv_ 2 63 (h := ?_)
           refine pv_ 3 64 (h := ?_)
           refine pv_ 4 65 (h := ?_)
           refine pv_ 6 67 (h := ?_)
           refine tk_ 5 66 (h := ?_)
           refine on_ 7 68 (h := fun K hK => ?_)
           refine goesY Try.func127 #[.int .i64 (wrap64 ((wrap64 ((wrap64 ((wrap64 ((wrap64 (x1_1 + 1)) + 1)) + 1)) + 1)) + 1))] ?_
           with_reducible refine (laws_markText.calls k1 (wrap64 ((wrap64 ((wrap64 ((wrap64 ((wrap64 (x1_1 + 1)) + 1)) + 1)) + 1)) + 1)) t310 _ A10.out).mono ?_
           rintro e w15 ⟨rfl, hb⟩
           refine ⟨_, rfl, ?_⟩
           replace HB := xbs hb
           (try clear hb); (try clear hb2); (try clear hk); (try clear hi)
           refine hK.out _ _ ⟨(xce HB hw309_0), (xce HB hw309_1), (xce HB hw309_2), (xce HB hw309_3), (xce HB hw309_4), (xce HB hw309_5)⟩ (fun hHeld => ?_)
           clear hK K
           refine norm_ (a' := ?_) ?_ ?_
           rotate_left
           ·show Act.put _ (some 68) _ = _
            simp only [Act.put, List.setIfInBounds_toArray, List.set_cons_zero, List.set_cons_succ, i64_w, i32_w]
            rfl
           refine pv_ 8 69 (h := ?_)
           refine done_ (done_of HT_.out (by kernel_rfl)) ?_
           try go_wp2
           go_ret
           exact ⟨by first | rfl | (simp [errW_none, errW_some] <;> rfl) | (simp [*, errW_none, errW_some] <;> rfl), xbel⟩
         ·rw [if_neg c9] at H
          have c9b0 : (((rd_T36 l0 x5_1).f1.f3) == (wrap64 ((wrap64 ((wrap64 ((wrap64 (x1_1 + 1)) + 1)) + 1)) + 1))) = false := beq_eq_false_iff_ne.mpr c9; have c9b1 : (((rd_T36 l0 x5_1).f1.f3) != (wrap64 ((wrap64 ((wrap64 ((wrap64 (x1_1 + 1)) + 1)) + 1)) + 1))) = true := bne_iff_ne.mpr c9
          obtain rfl := Option.some.inj H
          have p304 : 0 ≤ (x5_1 : Int) := of_decide_eq_true (by first | (with_reducible assumption) | assumption); have q304 : x5_1 < (l0.length : Int) := of_decide_eq_true (by first | (with_reducible assumption) | assumption)
          obtain ⟨ad304, e304, hx304_0, hx304_1, hx304_2, hx304_3, hx304_4, hx304_5⟩ := at_T36 HR0.out x5_1 p304 q304
          cases e304
          replace hx304_0 := xce HB hx304_0; replace hx304_1 := xce HB hx304_1; replace hx304_2 := xce HB hx304_2; replace hx304_3 := xce HB hx304_3; replace hx304_4 := xce HB hx304_4; replace hx304_5 := xce HB hx304_5; replace p304 := eq_true p304; replace q304 := eq_true q304; have p305 : 0 ≤ (x5_1 : Int) := of_decide_eq_true (by first | (with_reducible assumption) | assumption); have q305 : x5_1 < (l0.length : Int) := of_decide_eq_true (by first | (with_reducible assumption) | assumption)
          obtain ⟨ad305, e305, hx305_0, hx305_1, hx305_2, hx305_3, hx305_4, hx305_5⟩ := at_T36 HR0.out x5_1 p305 q305
          obtain rfl : ad304 = ad305 := (by injection e305)
          replace hx305_0 := xce HB hx305_0; replace hx305_1 := xce HB hx305_1; replace hx305_2 := xce HB hx305_2; replace hx305_3 := xce HB hx305_3; replace hx305_4 := xce HB hx305_4; replace hx305_5 := xce HB hx305_5; replace p305 := eq_true p305; replace q305 := eq_true q305; have p306 : 0 ≤ (x5_1 : Int) := of_decide_eq_true (by first | (with_reducible assumption) | assumption); have q306 : x5_1 < (l0.length : Int) := of_decide_eq_true (by first | (with_reducible assumption) | assumption)
          obtain ⟨ad306, e306, hx306_0, hx306_1, hx306_2, hx306_3, hx306_4, hx306_5⟩ := at_T36 HR0.out x5_1 p306 q306
          obtain rfl : ad304 = ad306 := (by injection e306)
          replace hx306_0 := xce HB hx306_0; replace hx306_1 := xce HB hx306_1; replace hx306_2 := xce HB hx306_2; replace hx306_3 := xce HB hx306_3; replace hx306_4 := xce HB hx306_4; replace hx306_5 := xce HB hx306_5; replace p306 := eq_true p306; replace q306 := eq_true q306; have p307 : 0 ≤ (x5_1 : Int) := of_decide_eq_true (by first | (with_reducible assumption) | assumption); have q307 : x5_1 < (l0.length : Int) := of_decide_eq_true (by first | (with_reducible assumption) | assumption)
          obtain ⟨ad307, e307, hx307_0, hx307_1, hx307_2, hx307_3, hx307_4, hx307_5⟩ := at_T36 HR0.out x5_1 p307 q307
          obtain rfl : ad304 = ad307 := (by injection e307)
          replace hx307_0 := xce HB hx307_0; replace hx307_1 := xce HB hx307_1; replace hx307_2 := xce HB hx307_2; replace hx307_3 := xce HB hx307_3; replace hx307_4 := xce HB hx307_4; replace hx307_5 := xce HB hx307_5; replace p307 := eq_true p307; replace q307 := eq_true q307; have p308 : 0 ≤ (x5_1 : Int) := of_decide_eq_true (by first | (with_reducible assumption) | assumption); have q308 : x5_1 < (l0.length : Int) := of_decide_eq_true (by first | (with_reducible assumption) | assumption)
          obtain ⟨ad308, e308, hx308_0, hx308_1, hx308_2, hx308_3, hx308_4, hx308_5⟩ := at_T36 HR0.out x5_1 p308 q308
          obtain rfl : ad304 = ad308 := (by injection e308)
          replace hx308_0 := xce HB hx308_0; replace hx308_1 := xce HB hx308_1; replace hx308_2 := xce HB hx308_2; replace hx308_3 := xce HB hx308_3; replace hx308_4 := xce HB hx308_4; replace hx308_5 := xce HB hx308_5; replace p308 := eq_true p308; replace q308 := eq_true q308
          go_wp2
          go_ret
          exact ⟨by first | rfl | (simp [errW_none, errW_some] <;> rfl) | (simp [*, errW_none, errW_some] <;> rfl), xbel⟩
        ·rw [if_neg c8] at H
         have c8b0 : (((rd_T36 l0 x5_1).f1.f2) == (wrap64 ((wrap64 ((wrap64 (x1_1 + 1)) + 1)) + 1))) = false := beq_eq_false_iff_ne.mpr c8; have c8b1 : (((rd_T36 l0 x5_1).f1.f2) != (wrap64 ((wrap64 ((wrap64 (x1_1 + 1)) + 1)) + 1))) = true := bne_iff_ne.mpr c8
         obtain rfl := Option.some.inj H
         have p304 : 0 ≤ (x5_1 : Int) := of_decide_eq_true (by first | (with_reducible assumption) | assumption); have q304 : x5_1 < (l0.length : Int) := of_decide_eq_true (by first | (with_reducible assumption) | assumption)
         obtain ⟨ad304, e304, hx304_0, hx304_1, hx304_2, hx304_3, hx304_4, hx304_5⟩ := at_T36 HR0.out x5_1 p304 q304
         cases e304
         replace hx304_0 := xce HB hx304_0; replace hx304_1 := xce HB hx304_1; replace hx304_2 := xce HB hx304_2; replace hx304_3 := xce HB hx304_3; replace hx304_4 := xce HB hx304_4; replace hx304_5 := xce HB hx304_5; replace p304 := eq_true p304; replace q304 := eq_true q304; have p305 : 0 ≤ (x5_1 : Int) := of_decide_eq_true (by first | (with_reducible assumption) | assumption); have q305 : x5_1 < (l0.length : Int) := of_decide_eq_true (by first | (with_reducible assumption) | assumption)
         obtain ⟨ad305, e305, hx305_0, hx305_1, hx305_2, hx305_3, hx305_4, hx305_5⟩ := at_T36 HR0.out x5_1 p305 q305
         obtain rfl : ad304 = ad305 := (by injection e305)
         replace hx305_0 := xce HB hx305_0; replace hx305_1 := xce HB hx305_1; replace hx305_2 := xce HB hx305_2; replace hx305_3 := xce HB hx305_3; replace hx305_4 := xce HB hx305_4; replace hx305_5 := xce HB hx305_5; replace p305 := eq_true p305; replace q305 := eq_true q305; have p306 : 0 ≤ (x5_1 : Int) := of_decide_eq_true (by first | (with_reducible assumption) | assumption); have q306 : x5_1 < (l0.length : Int) := of_decide_eq_true (by first | (with_reducible assumption) | assumption)
         obtain ⟨ad306, e306, hx306_0, hx306_1, hx306_2, hx306_3, hx306_4, hx306_5⟩ := at_T36 HR0.out x5_1 p306 q306
         obtain rfl : ad304 = ad306 := (by injection e306)
         replace hx306_0 := xce HB hx306_0; replace hx306_1 := xce HB hx306_1; replace hx306_2 := xce HB hx306_2; replace hx306_3 := xce HB hx306_3; replace hx306_4 := xce HB hx306_4; replace hx306_5 := xce HB hx306_5; replace p306 := eq_true p306; replace q306 := eq_true q306; have p307 : 0 ≤ (x5_1 : Int) := of_decide_eq_true (by first | (with_reducible assumption) | assumption); have q307 : x5_1 < (l0.length : Int) := of_decide_eq_true (by first | (with_reducible assumption) | assumption)
         obtain ⟨ad307, e307, hx307_0, hx307_1, hx307_2, hx307_3, hx307_4, hx307_5⟩ := at_T36 HR0.out x5_1 p307 q307
         obtain rfl : ad304 = ad307 := (by injection e307)
         replace hx307_0 := xce HB hx307_0; replace hx307_1 := xce HB hx307_1; replace hx307_2 := xce HB hx307_2; replace hx307_3 := xce HB hx307_3; replace hx307_4 := xce HB hx307_4; replace hx307_5 := xce HB hx307_5; replace p307 := eq_true p307; replace q307 := eq_true q307
         go_wp2
         go_ret
         exact ⟨by first | rfl | (simp [errW_none, errW_some] <;> rfl) | (simp [*, errW_none, errW_some] <;> rfl), xbel⟩
       ·rw [if_neg c7] at H
        have c7b0 : (((rd_T36 l0 x5_1).f1.f1) == (wrap64 ((wrap64 (x1_1 + 1)) + 1))) = false := beq_eq_false_iff_ne.mpr c7; have c7b1 : (((rd_T36 l0 x5_1).f1.f1) != (wrap64 ((wrap64 (x1_1 + 1)) + 1))) = true := bne_iff_ne.mpr c7
        obtain rfl := Option.some.inj H
        have p304 : 0 ≤ (x5_1 : Int) := of_decide_eq_true (by first | (with_reducible assumption) | assumption); have q304 : x5_1 < (l0.length : Int) := of_decide_eq_true (by first | (with_reducible assumption) | assumption)
        obtain ⟨ad304, e304, hx304_0, hx304_1, hx304_2, hx304_3, hx304_4, hx304_5⟩ := at_T36 HR0.out x5_1 p304 q304
        cases e304
        replace hx304_0 := xce HB hx304_0; replace hx304_1 := xce HB hx304_1; replace hx304_2 := xce HB hx304_2; replace hx304_3 := xce HB hx304_3; replace hx304_4 := xce HB hx304_4; replace hx304_5 := xce HB hx304_5; replace p304 := eq_true p304; replace q304 := eq_true q304; have p305 : 0 ≤ (x5_1 : Int) := of_decide_eq_true (by first | (with_reducible assumption) | assumption); have q305 : x5_1 < (l0.length : Int) := of_decide_eq_true (by first | (with_reducible assumption) | assumption)
        obtain ⟨ad305, e305, hx305_0, hx305_1, hx305_2, hx305_3, hx305_4, hx305_5⟩ := at_T36 HR0.out x5_1 p305 q305
        obtain rfl : ad304 = ad305 := (by injection e305)
        replace hx305_0 := xce HB hx305_0; replace hx305_1 := xce HB hx305_1; replace hx305_2 := xce HB hx305_2; replace hx305_3 := xce HB hx305_3; replace hx305_4 := xce HB hx305_4; replace hx305_5 := xce HB hx305_5; replace p305 := eq_true p305; replace q305 := eq_true q305; have p306 : 0 ≤ (x5_1 : Int) := of_decide_eq_true (by first | (with_reducible assumption) | assumption); have q306 : x5_1 < (l0.length : Int) := of_decide_eq_true (by first | (with_reducible assumption) | assumption)
        obtain ⟨ad306, e306, hx306_0, hx306_1, hx306_2, hx306_3, hx306_4, hx306_5⟩ := at_T36 HR0.out x5_1 p306 q306
        obtain rfl : ad304 = ad306 := (by injection e306)
        replace hx306_0 := xce HB hx306_0; replace hx306_1 := xce HB hx306_1; replace hx306_2 := xce HB hx306_2; replace hx306_3 := xce HB hx306_3; replace hx306_4 := xce HB hx306_4; replace hx306_5 := xce HB hx306_5; replace p306 := eq_true p306; replace q306 := eq_true q306
        go_wp2
        go_ret
        exact ⟨by first | rfl | (simp [errW_none, errW_some] <;> rfl) | (simp [*, errW_none, errW_some] <;> rfl), xbel⟩
      ·rw [if_neg c6] at H
       have c6b0 : (((rd_T36 l0 x5_1).f1.f0) == (wrap64 (x1_1 + 1))) = false := beq_eq_false_iff_ne.mpr c6; have c6b1 : (((rd_T36 l0 x5_1).f1.f0) != (wrap64 (x1_1 + 1))) = true := bne_iff_ne.mpr c6
       obtain rfl := Option.some.inj H
       have p304 : 0 ≤ (x5_1 : Int) := of_decide_eq_true (by first | (with_reducible assumption) | assumption); have q304 : x5_1 < (l0.length : Int) := of_decide_eq_true (by first | (with_reducible assumption) | assumption)
       obtain ⟨ad304, e304, hx304_0, hx304_1, hx304_2, hx304_3, hx304_4, hx304_5⟩ := at_T36 HR0.out x5_1 p304 q304
       cases e304
       replace hx304_0 := xce HB hx304_0; replace hx304_1 := xce HB hx304_1; replace hx304_2 := xce HB hx304_2; replace hx304_3 := xce HB hx304_3; replace hx304_4 := xce HB hx304_4; replace hx304_5 := xce HB hx304_5; replace p304 := eq_true p304; replace q304 := eq_true q304; have p305 : 0 ≤ (x5_1 : Int) := of_decide_eq_true (by first | (with_reducible assumption) | assumption); have q305 : x5_1 < (l0.length : Int) := of_decide_eq_true (by first | (with_reducible assumption) | assumption)
       obtain ⟨ad305, e305, hx305_0, hx305_1, hx305_2, hx305_3, hx305_4, hx305_5⟩ := at_T36 HR0.out x5_1 p305 q305
       obtain rfl : ad304 = ad305 := (by injection e305)
       replace hx305_0 := xce HB hx305_0; replace hx305_1 := xce HB hx305_1; replace hx305_2 := xce HB hx305_2; replace hx305_3 := xce HB hx305_3; replace hx305_4 := xce HB hx305_4; replace hx305_5 := xce HB hx305_5; replace p305 := eq_true p305; replace q305 := eq_true q305
       go_wp2
       go_ret
       exact ⟨by first | rfl | (simp [errW_none, errW_some] <;> rfl) | (simp [*, errW_none, errW_some] <;> rfl), xbel⟩
     ·rw [if_neg c5] at H
      have c5b0 : (((rd_T36 l0 x5_1).f0) == x1_1) = false := beq_eq_false_iff_ne.mpr c5; have c5b1 : (((rd_T36 l0 x5_1).f0) != x1_1) = true := bne_iff_ne.mpr c5
      obtain rfl := Option.some.inj H
      have p304 : 0 ≤ (x5_1 : Int) := of_decide_eq_true (by first | (with_reducible assumption) | assumption); have q304 : x5_1 < (l0.length : Int) := of_decide_eq_true (by first | (with_reducible assumption) | assumption)
      obtain ⟨ad304, e304, hx304_0, hx304_1, hx304_2, hx304_3, hx304_4, hx304_5⟩ := at_T36 HR0.out x5_1 p304 q304
      cases e304
      replace hx304_0 := xce HB hx304_0; replace hx304_1 := xce HB hx304_1; replace hx304_2 := xce HB hx304_2; replace hx304_3 := xce HB hx304_3; replace hx304_4 := xce HB hx304_4; replace hx304_5 := xce HB hx304_5; replace p304 := eq_true p304; replace q304 := eq_true q304
      go_wp2
      go_ret
      exact ⟨by first | rfl | (simp [errW_none, errW_some] <;> rfl) | (simp [*, errW_none, errW_some] <;> rfl), xbel⟩
    ·rw [if_neg c4] at H
     exact absurd H (by simp)
   ·rw [if_neg c3] at H
    have c3b0 : decide (x5_1 < (l0.length : Int)) = false := decide_eq_false c3; clear c3
    obtain rfl := Option.some.inj H
    go_wp2
    go_ret
    exact ⟨by first | rfl | (simp [errW_none, errW_some] <;> rfl) | (simp [*, errW_none, errW_some] <;> rfl), xbel⟩

/-! ### laws_heldHard: function 36 -/
def laws_heldHard.f (k : Nat) (a0_0 : Int) (a0_1 : Int) (l0_2 : List (S36)) (a1 : Int) : Option (Int) := (laws_heldEntryS.f k l0_2 a1).bind fun t312 => (if t312 < 0 then (some (-1)) else (some t312))
theorem laws_heldHard.mono : ∀ a0 a1 a2 a3 k, LeO (laws_heldHard.f k a0 a1 a2 a3) (laws_heldHard.f (k + 1) a0 a1 a2 a3) := by
 intro a0 a1 a2 a3 k
 unfold laws_heldHard.f
 repeat' first
  | (with_reducible exact laws_heldEntryS.mono _ _ _)
  | (with_reducible exact LeO.refl _)
  | (with_reducible exact LeO.none _)
  | (with_reducible refine LeO.ite ?_ ?_)
  | (with_reducible refine LeO.bind ?_ (fun _ => ?_))
  | exact laws_heldEntryS.mono _ _ _
  | exact LeO.none _
  | refine LeO.ite ?_ ?_
  | refine LeO.bind ?_ (fun _ => ?_)
set_option maxHeartbeats 8000000 in
set_option maxRecDepth 100000 in
theorem laws_heldHard.calls (k : Nat) (a0_0 : Int) (a0_1 : Int) (A0_2 : Option Addr) (c0_2 : Nat) (l0_2 : List (S36)) (a1 : Int) (r : Int) (w : World) (hr0_2 : Kd.C k36 w A0_2 l0_2.length l0_2) (hc0_2 : l0_2.length ≤ c0_2) (h : laws_heldHard.f k a0_0 a0_1 l0_2 a1 = some r) :
 Calls Try.prog 36 #[.agg #[.int .i64 a0_0, .int .i64 a0_1, .slice A0_2 l0_2.length c0_2], .int .i64 a1] w fun e w' => e = .returned (.int .i64 r) ∧ Below w.heap.size w w' := by
 have hu28 := Try.underlying28
 have HR0_2 := aM hr0_2
 have HC0_2 := aM hc0_2
 clear hr0_2 hc0_2
 have HB := aM (Below.refl w.heap.size w)
 have H : ((laws_heldEntryS.f k l0_2 a1).bind fun t312 => (if t312 < 0 then (some (-1)) else (some t312))) = some r := h
 clear h
 replace H := Option.bind_eq_some_iff.mp H
 obtain ⟨t312, A30, H⟩ := H
 replace H : (if t312 < 0 then (some (-1)) else (some t312)) = some r := H
 have A3 := aM A30
 clear A30
 by_cases c4 : t312 < 0
 ·rw [if_pos c4] at H
  have c4b0 : decide (t312 < 0) = true := decide_eq_true c4; clear c4
  obtain rfl := Option.some.inj H
  go_enter Try.func36, Try.ntmps36
  go_wp2_with (first | ((with_reducible refine gate_dst (N := 2) rfl ?_); refine box_event ?hg (N := 2) ?hd (cs := #[.int .i64 a0_0, .int .i64 a0_1, .slice A0_2 l0_2.length c0_2]) (t := 28) ?hr ?_; (case hd => rfl); (case hg => rfl); (case hr => first | (go_simp; done) | (go_simp; rfl)); intro gb311 hg w5 hbox hb; have BK311 := aM (hbox); have GW311 := aM (xge hg); have GE311 := aM (xge hg); replace HB := xbs hb; clear hb hbox hg; have hcz6_0 : w5.cell? ⟨gb311, 0, none⟩ = some (.int .i64 a0_0) := xc BK311 0 rfl; have hcz6_1 : w5.cell? ⟨gb311, 1, none⟩ = some (.int .i64 a0_1) := xc BK311 1 rfl; have hcz6_2 : w5.cell? ⟨gb311, 2, none⟩ = some (.slice A0_2 l0_2.length c0_2) := xc BK311 2 rfl; have hfz6_0 := blk_frozen BK311.out 0; have hfz6_1 := blk_frozen BK311.out 1; have hfz6_2 := blk_frozen BK311.out 2) | ((with_reducible refine gate_callee (f := 104) rfl ?_); refine goesL_ (some 8) rfl rfl Try.func104 (by kernel_rfl) rfl #[.slice A0_2 l0_2.length c0_2, .int .i64 a1] rfl (by (try simp only [List.map_toArray, List.map_cons, List.map_nil]); first | done | rfl | (simp only [List.length_drop, List.length_take]; rfl)) ?_; (with_reducible refine (laws_heldEntryS.calls k _ _ l0_2 a1 t312 _ ?side1 ?side2 A3.out).mono ?_); (case side1 => exact xcb HR0_2); (case side2 => exact HC0_2.out); rintro e w7 ⟨rfl, hb⟩; refine ⟨_, rfl, ?_⟩; replace BK311 := xbb BK311 hb; replace HB := xbs hb; (try clear hb); (try clear hb2); (try clear hk); (try clear hi)))
  go_ret
  exact ⟨by first | rfl | (simp [errW_none, errW_some] <;> rfl) | (simp [*, errW_none, errW_some] <;> rfl), xbg⟩
 ·rw [if_neg c4] at H
  have c4b0 : decide (t312 < 0) = false := decide_eq_false c4; clear c4
  obtain rfl := Option.some.inj H
  go_enter Try.func36, Try.ntmps36
  go_wp2_with (first | ((with_reducible refine gate_dst (N := 2) rfl ?_); refine box_event ?hg (N := 2) ?hd (cs := #[.int .i64 a0_0, .int .i64 a0_1, .slice A0_2 l0_2.length c0_2]) (t := 28) ?hr ?_; (case hd => rfl); (case hg => rfl); (case hr => first | (go_simp; done) | (go_simp; rfl)); intro gb311 hg w8 hbox hb; have BK311 := aM (hbox); have GW311 := aM (xge hg); have GE311 := aM (xge hg); replace HB := xbs hb; clear hb hbox hg; have hcz9_0 : w8.cell? ⟨gb311, 0, none⟩ = some (.int .i64 a0_0) := xc BK311 0 rfl; have hcz9_1 : w8.cell? ⟨gb311, 1, none⟩ = some (.int .i64 a0_1) := xc BK311 1 rfl; have hcz9_2 : w8.cell? ⟨gb311, 2, none⟩ = some (.slice A0_2 l0_2.length c0_2) := xc BK311 2 rfl; have hfz9_0 := blk_frozen BK311.out 0; have hfz9_1 := blk_frozen BK311.out 1; have hfz9_2 := blk_frozen BK311.out 2) | ((with_reducible refine gate_callee (f := 104) rfl ?_); refine goesL_ (some 8) rfl rfl Try.func104 (by kernel_rfl) rfl #[.slice A0_2 l0_2.length c0_2, .int .i64 a1] rfl (by (try simp only [List.map_toArray, List.map_cons, List.map_nil]); first | done | rfl | (simp only [List.length_drop, List.length_take]; rfl)) ?_; (with_reducible refine (laws_heldEntryS.calls k _ _ l0_2 a1 t312 _ ?side1 ?side2 A3.out).mono ?_); (case side1 => exact xcb HR0_2); (case side2 => exact HC0_2.out); rintro e w10 ⟨rfl, hb⟩; refine ⟨_, rfl, ?_⟩; replace BK311 := xbb BK311 hb; replace HB := xbs hb; (try clear hb); (try clear hb2); (try clear hk); (try clear hi)))
  go_ret
  exact ⟨by first | rfl | (simp [errW_none, errW_some] <;> rfl) | (simp [*, errW_none, errW_some] <;> rfl), xbg⟩

end Go.Proofs.Ytnjpfllmcmomoaa.QFnExactHardApply
