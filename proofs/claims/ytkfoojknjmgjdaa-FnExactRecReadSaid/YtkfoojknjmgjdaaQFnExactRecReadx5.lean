-- A walk, by a program of this session.
import Derived.Test.YtkfoojknjmgjdaaQFnExactRecReadx0
import Derived.Test.YtkfoojknjmgjdaaQFnExactRecReadx4
namespace Go.Proofs.Ytkfoojknjmgjdaa.QFnExactRecRead
open Go.RowKit Go.Proofs.YtkfoojknjmgjdaaW.PrintWords Go.Proofs.YtkfoojknjmgjdaaW.PrintLast Go.Proofs.YtkfoojknjmgjdaaW.PrintMore
attribute [local go_sem] max2_int min2_int max_two min_two max_three min_three max_four min_four   -- for this text's walks alone
set_option linter.unusedVariables false
set_option linter.unusedSimpArgs false

/-! ### spec_GetNum: function 121 -/
mutual
def spec_GetNum.j0 : Nat → List Int → Int → Bool → Option (Int × Int × Bool)
 | 0, _, _, _ => none
 | k + 1, x0, x1, x18 => if x18 = true then (some (0, 0, false)) else (spec_GetNum.l0 k x0 x1 0 1 0)
def spec_GetNum.l0 : Nat → List Int → Int → Int → Int → Int → Option (Int × Int × Bool)
 | 0, _, _, _, _, _ => none
 | k + 1, x0, x1, x7, x8, x9 => if x9 < 9 then (spec_GetNum.j2 k x0 x1 x7 x8 x9 (decide ((wrap64 (x1 + x9)) < (x0.length : Int)))) else (spec_GetNum.j2 k x0 x1 x7 x8 x9 false)
def spec_GetNum.j2 : Nat → List Int → Int → Int → Int → Int → Bool → Option (Int × Int × Bool)
 | 0, _, _, _, _, _, _ => none
 | k + 1, x0, x1, x7, x8, x9, x28 => if x28 = true then (if 0 ≤ (wrap64 (x1 + x9)) then (if (wrap64 (x1 + x9)) < (x0.length : Int) then (if (wrap64 (rd x0 (wrap64 (x1 + x9)))) < 128 then (if (wrap64 (rd x0 (wrap64 (x1 + x9)))) = 0 then (if x9 > 0 then (some (0, 0, false)) else (some (wrap64 (x7 + (wrap64 ((Int.tmod (wrap64 (rd x0 (wrap64 (x1 + x9)))) 128) * x8))), wrap64 ((wrap64 (x1 + x9)) + 1), true))) else (some (wrap64 (x7 + (wrap64 ((Int.tmod (wrap64 (rd x0 (wrap64 (x1 + x9)))) 128) * x8))), wrap64 ((wrap64 (x1 + x9)) + 1), true))) else (spec_GetNum.l0 k x0 x1 (wrap64 (x7 + (wrap64 ((Int.tmod (wrap64 (rd x0 (wrap64 (x1 + x9)))) 128) * x8)))) (wrap64 (x8 * 128)) (wrap64 (x9 + 1)))) else (none)) else (none)) else (some (0, 0, false))
end
def spec_GetNum.f (k : Nat) (l0 : List Int) (a1 : Int) : Option (Int × Int × Bool) := if a1 < 0 then (spec_GetNum.j0 k l0 a1 true) else (spec_GetNum.j0 k l0 a1 (decide (a1 ≥ (l0.length : Int))))
set_option maxRecDepth 100000 in
theorem spec_GetNum.mono_l : ∀ k, (∀ y0 y1 y2, LeO (spec_GetNum.j0 k y0 y1 y2) (spec_GetNum.j0 (k + 1) y0 y1 y2)) ∧ (∀ y0 y1 y2 y3 y4, LeO (spec_GetNum.l0 k y0 y1 y2 y3 y4) (spec_GetNum.l0 (k + 1) y0 y1 y2 y3 y4)) ∧ (∀ y0 y1 y2 y3 y4 y5, LeO (spec_GetNum.j2 k y0 y1 y2 y3 y4 y5) (spec_GetNum.j2 (k + 1) y0 y1 y2 y3 y4 y5))
 | 0 => ⟨fun _ _ _ r h => by simp [spec_GetNum.j0] at h, fun _ _ _ _ _ r h => by simp [spec_GetNum.l0] at h, fun _ _ _ _ _ _ r h => by simp [spec_GetNum.j2] at h⟩
 | k + 1 => by
  obtain ⟨ih0, ih1, ih2⟩ := spec_GetNum.mono_l k
  refine ⟨?_, ?_, ?_⟩
  ·intro y0 y1 y2
   unfold spec_GetNum.j0
   repeat' first
   | (with_reducible exact ih0 _ _ _)
   | (with_reducible exact ih1 _ _ _ _ _)
   | (with_reducible exact ih2 _ _ _ _ _ _)
   | (with_reducible exact LeO.refl _)
   | (with_reducible exact LeO.none _)
   | (with_reducible refine LeO.ite ?_ ?_)
   | (with_reducible refine LeO.bind ?_ (fun _ => ?_))
   | exact ih0 _ _ _
   | exact ih1 _ _ _ _ _
   | exact ih2 _ _ _ _ _ _
   | exact LeO.none _
   | refine LeO.ite ?_ ?_
   | refine LeO.bind ?_ (fun _ => ?_)
  ·intro y0 y1 y2 y3 y4
   unfold spec_GetNum.l0
   repeat' first
   | (with_reducible exact ih0 _ _ _)
   | (with_reducible exact ih1 _ _ _ _ _)
   | (with_reducible exact ih2 _ _ _ _ _ _)
   | (with_reducible exact LeO.refl _)
   | (with_reducible exact LeO.none _)
   | (with_reducible refine LeO.ite ?_ ?_)
   | (with_reducible refine LeO.bind ?_ (fun _ => ?_))
   | exact ih0 _ _ _
   | exact ih1 _ _ _ _ _
   | exact ih2 _ _ _ _ _ _
   | exact LeO.none _
   | refine LeO.ite ?_ ?_
   | refine LeO.bind ?_ (fun _ => ?_)
  ·intro y0 y1 y2 y3 y4 y5
   unfold spec_GetNum.j2
   repeat' first
   | (with_reducible exact ih0 _ _ _)
   | (with_reducible exact ih1 _ _ _ _ _)
   | (with_reducible exact ih2 _ _ _ _ _ _)
   | (with_reducible exact LeO.refl _)
   | (with_reducible exact LeO.none _)
   | (with_reducible refine LeO.ite ?_ ?_)
   | (with_reducible refine LeO.bind ?_ (fun _ => ?_))
   | exact ih0 _ _ _
   | exact ih1 _ _ _ _ _
   | exact ih2 _ _ _ _ _ _
   | exact LeO.none _
   | refine LeO.ite ?_ ?_
   | refine LeO.bind ?_ (fun _ => ?_)
theorem spec_GetNum.mono : ∀ a0 a1 k, LeO (spec_GetNum.f k a0 a1) (spec_GetNum.f (k + 1) a0 a1) := by
 intro a0 a1 k
 obtain ⟨ih0, ih1, ih2⟩ := spec_GetNum.mono_l k
 unfold spec_GetNum.f
 repeat' first
  | (with_reducible exact ih0 _ _ _)
  | (with_reducible exact ih1 _ _ _ _ _)
  | (with_reducible exact ih2 _ _ _ _ _ _)
  | (with_reducible exact LeO.refl _)
  | (with_reducible exact LeO.none _)
  | (with_reducible refine LeO.ite ?_ ?_)
  | (with_reducible refine LeO.bind ?_ (fun _ => ?_))
  | exact ih0 _ _ _
  | exact ih1 _ _ _ _ _
  | exact ih2 _ _ _ _ _ _
  | exact LeO.none _
  | refine LeO.ite ?_ ?_
  | refine LeO.bind ?_ (fun _ => ?_)
set_option maxHeartbeats 8000000 in
set_option maxRecDepth 100000 in
theorem spec_GetNum.calls (k : Nat) (A0 : Option Addr) (c0 : Nat) (l0 : List Int) (a1 : Int) (r1 : Int) (r2 : Int) (r3 : Bool) (w : World) (hr0 : Kd.C (Kd.int .u8) w A0 l0.length l0) (hc0 : l0.length ≤ c0) (h : spec_GetNum.f k l0 a1 = some (r1, r2, r3)) :
 Calls Try.prog 121 #[.slice A0 l0.length c0, .int .i64 a1] w fun e w' => e = .returned (.tuple #[.int .i64 r1, .int .i64 r2, .bool r3]) ∧ Drawn0 w w' := by
 have HR0 := Aside0.mk hr0
 have HC0 := Aside0.mk hc0
 clear hr0 hc0
 have H : (if a1 < 0 then (spec_GetNum.j0 k l0 a1 true) else (spec_GetNum.j0 k l0 a1 (decide (a1 ≥ (l0.length : Int))))) = some (r1, r2, r3) := h
 clear h
 have HC3 := Aside0.mk H
 clear H
 go_enter Try.func121, Try.ntmps121
 go_upto_region 1 with (fail)
 go_cut [18] (fun v18 wc => ∃ (kq : Nat) (x18_2 : Bool), v18 = .bool x18_2 ∧ Aside0 (spec_GetNum.j0 kq l0 a1 x18_2 = some (r1, r2, r3)) ∧ Aside0 (kq ≤ k) ∧ Drawn0 w wc)
 case first =>
  have H := HC3.out
  clear HC3
  by_cases c4 : a1 < 0
  ·rw [if_pos c4] at H
   have c4b0 : decide (a1 < 0) = true := decide_eq_true c4
   clear c4
   (first | rw [c4b0] | (simp only [i64_w, i32_w]; rw [c4b0]) | skip)
   have H' := Aside0.mk H
   clear H
   go_wp2
   go_meet
   case rel => exact ⟨_, (true), (by first | rfl | (simp; done) | (simp [*]; done)), H', ⟨by first | omega | exact Nat.le_refl _⟩, by repeat (first | exact Drawn0.refl _ | apply Drawn0.step)⟩
  ·rw [if_neg c4] at H
   have c4b0 : decide (a1 < 0) = false := decide_eq_false c4
   clear c4
   (first | rw [c4b0] | (simp only [i64_w, i32_w]; rw [c4b0]) | skip)
   have H' := Aside0.mk H
   clear H
   go_wp2
   go_meet
   case rel => exact ⟨_, (decide (a1 ≥ (l0.length : Int))), (by first | rfl | (simp; done) | (simp [*]; done)), H', ⟨by first | omega | exact Nat.le_refl _⟩, by repeat (first | exact Drawn0.refl _ | apply Drawn0.step)⟩
 case rest =>
  clear HC3
  try clear c1
  try clear p2
  try clear c4
  try clear c4b0
  obtain ⟨kq, x18_2, rfl, HA, HJ2, ⟨mc2, rfl⟩⟩ := hcut
  cases kq with
  | zero => exact absurd HA.out (by simp [spec_GetNum.j0])
  | succ kj2 =>
   have H := HA.out
   clear HA
   simp only [spec_GetNum.j0] at H
   by_cases c5 : x18_2 = true
   ·subst c5
    have H1 : (some (0, 0, false)) = some (r1, r2, r3) := by rw [if_pos rfl] at H; exact H
    clear H
    have H := H1
    clear H1
    simp only [Option.some.injEq, Prod.mk.injEq] at H
    obtain ⟨rfl, rfl, rfl⟩ := H
    go_wp2
    go_ret3
    exact ⟨by first | rfl | (simp; done) | (simp [*]; done), by repeat (first | exact Drawn0.refl _ | apply Drawn0.step)⟩
   ·replace c5 := Bool.eq_false_iff.mpr c5
    subst c5
    have H1 : (spec_GetNum.l0 kj2 l0 a1 0 1 0) = some (r1, r2, r3) := by rw [if_neg (show ¬ (false = true) by decide)] at H; exact H
    clear H
    have H := H1
    clear H1
    have H' := Aside0.mk H
    clear H
    go_wp2
    go_loopg [7, 8, 9] kj2 (fun kq v7 v8 v9 w' => ∃ (x7_2 : Int) (x8_2 : Int) (x9_2 : Int), v7 = .int .i64 x7_2 ∧ v8 = .int .i64 x8_2 ∧ v9 = .int .i64 x9_2 ∧ Aside0 (spec_GetNum.l0 kq l0 a1 x7_2 x8_2 x9_2 = some (r1, r2, r3)) ∧ Aside0 (kq ≤ kj2) ∧ Drawn0 w w')
    case atStart => exact ⟨(0), (1), (0), (by first | rfl | (simp; done) | (simp [*]; done)), (by first | rfl | (simp; done) | (simp [*]; done)), (by first | rfl | (simp; done) | (simp [*]; done)), H', ⟨Nat.le_refl _⟩, by repeat (first | exact Drawn0.refl _ | apply Drawn0.step)⟩
    case round =>
     clear H'
     try clear c1
     try clear c2
     try clear p2
     try clear c4
     try clear c4b0
     try clear c5
     try clear p2
     obtain ⟨x7_2, x8_2, x9_2, rfl, rfl, rfl, HA, HK2, ⟨m2, rfl⟩⟩ := hrel
     cases gk with
     | zero => exact absurd HA.out (by simp [spec_GetNum.l0])
     | succ k2 =>
      have H := HA.out
      clear HA
      simp only [spec_GetNum.l0] at H
      have HC6 := Aside0.mk H
      clear H
      go_upto_region 6 with (fail)
      go_cut [28] (fun v28 wc => ∃ (kq : Nat) (x28_5 : Bool), v28 = .bool x28_5 ∧ Aside0 (spec_GetNum.j2 kq l0 a1 x7_2 x8_2 x9_2 x28_5 = some (r1, r2, r3)) ∧ Aside0 (kq ≤ k2) ∧ Drawn0 w wc)
      case first =>
       have H := HC6.out
       clear HC6
       by_cases c7 : x9_2 < 9
       ·rw [if_pos c7] at H
        have c7b0 : decide (x9_2 < 9) = true := decide_eq_true c7
        clear c7
        (first | rw [c7b0] | (simp only [i64_w, i32_w]; rw [c7b0]) | skip)
        have H' := Aside0.mk H
        clear H
        go_wp2
        go_meet
        case rel => exact ⟨_, (decide ((wrap64 (a1 + x9_2)) < (l0.length : Int))), (by first | rfl | (simp; done) | (simp [*]; done)), H', ⟨by have := HJ2.out; have := HK2.out; first | omega | exact Nat.le_refl _⟩, by repeat (first | exact Drawn0.refl _ | apply Drawn0.step)⟩
       ·rw [if_neg c7] at H
        have c7b0 : decide (x9_2 < 9) = false := decide_eq_false c7
        clear c7
        (first | rw [c7b0] | (simp only [i64_w, i32_w]; rw [c7b0]) | skip)
        have H' := Aside0.mk H
        clear H
        go_wp2
        go_meet
        case rel => exact ⟨_, (false), (by first | rfl | (simp; done) | (simp [*]; done)), H', ⟨by have := HJ2.out; have := HK2.out; first | omega | exact Nat.le_refl _⟩, by repeat (first | exact Drawn0.refl _ | apply Drawn0.step)⟩
      case rest =>
       clear HC6
       try clear c1
       try clear c2
       try clear p2
       try clear c4
       try clear c4b0
       try clear c5
       try clear p6
       try clear c7
       try clear c7b0
       try clear p2
       obtain ⟨kq, x28_5, rfl, HA, HJ5, ⟨mc5, rfl⟩⟩ := hcut
       cases kq with
       | zero => exact absurd HA.out (by simp [spec_GetNum.j2])
       | succ kj5 =>
        have H := HA.out
        clear HA
        simp only [spec_GetNum.j2] at H
        by_cases c8 : x28_5 = true
        ·subst c8
         have H1 : (if 0 ≤ (wrap64 (a1 + x9_2)) then (if (wrap64 (a1 + x9_2)) < (l0.length : Int) then (if (wrap64 (rd l0 (wrap64 (a1 + x9_2)))) < 128 then (if (wrap64 (rd l0 (wrap64 (a1 + x9_2)))) = 0 then (if x9_2 > 0 then (some (0, 0, false)) else (some (wrap64 (x7_2 + (wrap64 ((Int.tmod (wrap64 (rd l0 (wrap64 (a1 + x9_2)))) 128) * x8_2))), wrap64 ((wrap64 (a1 + x9_2)) + 1), true))) else (some (wrap64 (x7_2 + (wrap64 ((Int.tmod (wrap64 (rd l0 (wrap64 (a1 + x9_2)))) 128) * x8_2))), wrap64 ((wrap64 (a1 + x9_2)) + 1), true))) else (spec_GetNum.l0 kj5 l0 a1 (wrap64 (x7_2 + (wrap64 ((Int.tmod (wrap64 (rd l0 (wrap64 (a1 + x9_2)))) 128) * x8_2)))) (wrap64 (x8_2 * 128)) (wrap64 (x9_2 + 1)))) else (none)) else (none)) = some (r1, r2, r3) := by rw [if_pos rfl] at H; exact H
         clear H
         have H := H1
         clear H1
         obtain ⟨ji9, hji9⟩ : ∃ j_ : Int, (wrap64 (a1 + x9_2)) = j_ := ⟨_, rfl⟩
         replace H : (if 0 ≤ (ji9) then (if (ji9) < (l0.length : Int) then (if (wrap64 (rd l0 (ji9))) < 128 then (if (wrap64 (rd l0 (ji9))) = 0 then (if x9_2 > 0 then (some (0, 0, false)) else (some (wrap64 (x7_2 + (wrap64 ((Int.tmod (wrap64 (rd l0 (ji9))) 128) * x8_2))), wrap64 ((ji9) + 1), true))) else (some (wrap64 (x7_2 + (wrap64 ((Int.tmod (wrap64 (rd l0 (ji9))) 128) * x8_2))), wrap64 ((ji9) + 1), true))) else (spec_GetNum.l0 kj5 l0 a1 (wrap64 (x7_2 + (wrap64 ((Int.tmod (wrap64 (rd l0 (ji9))) 128) * x8_2)))) (wrap64 (x8_2 * 128)) (wrap64 (x9_2 + 1)))) else (none)) else (none)) = some (r1, r2, r3) := by first | (rw [hji9] at H; exact H) | (simp only [hji9] at H ⊢; exact H)
         have hji9w : (IntKind.i64.wrap (a1 + x9_2)) = ji9 := (i64_w _).trans hji9
         by_cases c10 : 0 ≤ (ji9)
         ·rw [if_pos c10] at H
          have c10b0 : decide (0 ≤ (ji9)) = true := decide_eq_true c10
          clear c10
          by_cases c11 : (ji9) < (l0.length : Int)
          ·rw [if_pos c11] at H
           have c11b0 : decide ((ji9) < (l0.length : Int)) = true := decide_eq_true c11
           clear c11
           by_cases c12 : (wrap64 (rd l0 (ji9))) < 128
           ·rw [if_pos c12] at H
            have c12b0 : decide ((wrap64 (rd l0 (ji9))) < 128) = true := decide_eq_true c12
            clear c12
            by_cases c13 : (wrap64 (rd l0 (ji9))) = 0
            ·rw [if_pos c13] at H
             have c13b0 : ((wrap64 (rd l0 (ji9))) == 0) = true := beq_iff_eq.mpr c13
             have c13b1 : ((wrap64 (rd l0 (ji9))) != 0) = false := bne_eq_false_iff_eq.mpr c13
             clear c13
             by_cases c14 : x9_2 > 0
             ·rw [if_pos c14] at H
              have c14b0 : decide (0 < x9_2) = true := decide_eq_true c14
              clear c14
              simp only [Option.some.injEq, Prod.mk.injEq] at H
              obtain ⟨rfl, rfl, rfl⟩ := H
              have p118 : 0 ≤ ((ji9) : Int) := of_decide_eq_true (by first | (with_reducible assumption) | assumption)
              have q118 : (ji9) < (l0.length : Int) := of_decide_eq_true (by first | (with_reducible assumption) | assumption)
              obtain ⟨ad118, e118, hx118_0⟩ := Kd.at_int HR0.out (ji9) p118 q118
              cases e118
              replace p118 := eq_true p118
              replace q118 := eq_true q118
              go_wp2
              go_ret3
              exact ⟨by first | rfl | (simp; done) | (simp only [← hji9] <;> (first | rfl | simp)) | (simp [*]; done), by repeat (first | exact Drawn0.refl _ | apply Drawn0.step)⟩
             ·rw [if_neg c14] at H
              have c14b0 : decide (0 < x9_2) = false := decide_eq_false c14
              clear c14
              simp only [Option.some.injEq, Prod.mk.injEq] at H
              obtain ⟨rfl, rfl, rfl⟩ := H
              have p118 : 0 ≤ ((ji9) : Int) := of_decide_eq_true (by first | (with_reducible assumption) | assumption)
              have q118 : (ji9) < (l0.length : Int) := of_decide_eq_true (by first | (with_reducible assumption) | assumption)
              obtain ⟨ad118, e118, hx118_0⟩ := Kd.at_int HR0.out (ji9) p118 q118
              cases e118
              replace p118 := eq_true p118
              replace q118 := eq_true q118
              go_wp2
              go_ret3
              exact ⟨by first | rfl | (simp; done) | (simp only [← hji9] <;> (first | rfl | simp)) | (simp [*]; done), by repeat (first | exact Drawn0.refl _ | apply Drawn0.step)⟩
            ·rw [if_neg c13] at H
             have c13b0 : ((wrap64 (rd l0 (ji9))) == 0) = false := beq_eq_false_iff_ne.mpr c13
             have c13b1 : ((wrap64 (rd l0 (ji9))) != 0) = true := bne_iff_ne.mpr c13
             simp only [Option.some.injEq, Prod.mk.injEq] at H
             obtain ⟨rfl, rfl, rfl⟩ := H
             have p118 : 0 ≤ ((ji9) : Int) := of_decide_eq_true (by first | (with_reducible assumption) | assumption)
             have q118 : (ji9) < (l0.length : Int) := of_decide_eq_true (by first | (with_reducible assumption) | assumption)
             obtain ⟨ad118, e118, hx118_0⟩ := Kd.at_int HR0.out (ji9) p118 q118
             cases e118
             replace p118 := eq_true p118
             replace q118 := eq_true q118
             go_wp2
             go_ret3
             exact ⟨by first | rfl | (simp; done) | (simp only [← hji9] <;> (first | rfl | simp)) | (simp [*]; done), by repeat (first | exact Drawn0.refl _ | apply Drawn0.step)⟩
           ·rw [if_neg c12] at H
            have c12b0 : decide ((wrap64 (rd l0 (ji9))) < 128) = false := decide_eq_false c12
            clear c12
            have H' := Aside0.mk H
            clear H
            have p118 : 0 ≤ ((ji9) : Int) := of_decide_eq_true (by first | (with_reducible assumption) | assumption)
            have q118 : (ji9) < (l0.length : Int) := of_decide_eq_true (by first | (with_reducible assumption) | assumption)
            obtain ⟨ad118, e118, hx118_0⟩ := Kd.at_int HR0.out (ji9) p118 q118
            cases e118
            replace p118 := eq_true p118
            replace q118 := eq_true q118
            go_wp2
            go_roundg kj5
            case measure => have := HJ2.out; have := HK2.out; have := HJ5.out; omega
            case rel => exact ⟨(wrap64 (x7_2 + (wrap64 ((Int.tmod (wrap64 (rd l0 (ji9))) 128) * x8_2)))), (wrap64 (x8_2 * 128)), (wrap64 (x9_2 + 1)), (by first | rfl | (simp; done) | (simp only [← hji9] <;> (first | rfl | simp)) | (simp [*]; done)), (by first | rfl | (simp; done) | (simp [*]; done)), (by first | rfl | (simp; done) | (simp [*]; done)), H', ⟨by have := HJ2.out; have := HK2.out; have := HJ5.out; omega⟩, by repeat (first | exact Drawn0.refl _ | apply Drawn0.step)⟩
          ·rw [if_neg c11] at H
           exact absurd H (by simp)
         ·rw [if_neg c10] at H
          exact absurd H (by simp)
        ·replace c8 := Bool.eq_false_iff.mpr c8
         subst c8
         have H1 : (some (0, 0, false)) = some (r1, r2, r3) := by rw [if_neg (show ¬ (false = true) by decide)] at H; exact H
         clear H
         have H := H1
         clear H1
         simp only [Option.some.injEq, Prod.mk.injEq] at H
         obtain ⟨rfl, rfl, rfl⟩ := H
         go_wp2
         go_ret3
         exact ⟨by first | rfl | (simp; done) | (simp [*]; done), by repeat (first | exact Drawn0.refl _ | apply Drawn0.step)⟩

/-! ### spec_CmdRead: function 122 -/
def crFin (k : Nat) (x1 x2 x3 x4 : Int) (d : ByteArray) (p : Int) (ok : Bool) : Option (Int × Int × Int × Int × ByteArray × Int × Bool) :=
  if ok = true then (spec_CmdOk.f k x1 x2 x3 x4 d).bind fun o => if o = true then some (x1, x2, x3, x4, d, p, true) else some (0, 0, 0, 0, (⟨#[]⟩ : ByteArray), 0, false) else some (0, 0, 0, 0, (⟨#[]⟩ : ByteArray), 0, false)
def spec_CmdRead.f (k : Nat) (l0 : List Int) (a1 : Int) : Option (Int × Int × Int × Int × ByteArray × Int × Bool) :=
  (spec_GetNum.f k l0 a1).bind fun t1 => if t1.2.2 = true then (spec_l1In.f t1.1 1 5).bind fun o1 => if o1 = true then
      (if t1.1 = 1 then some (1, 0, 0, 0, (⟨#[]⟩ : ByteArray), t1.2.1, true)
       else (spec_GetNum.f k l0 t1.2.1).bind fun t2 => if t2.2.2 = true then
          (if t1.1 = 3 then (spec_GetNum.f k l0 t2.2.1).bind fun t3 => crFin k t1.1 t2.1 t3.1 0 (⟨#[]⟩ : ByteArray) t3.2.1 t3.2.2
           else if t1.1 = 2 then (spec_GetNum.f k l0 t2.2.1).bind fun t3 => if t3.2.2 = true then
                (if wrap64 ((l0.length : Int) - t3.2.1) ≥ 32 then (if 0 ≤ t3.2.1 ∧ t3.2.1 + 32 ≤ (l0.length : Int) then crFin k t1.1 t2.1 0 t3.1 (strOfNums ((l0.take (t3.2.1 + 32).toNat).drop t3.2.1.toNat)) (t3.2.1 + 32) true else none)
                 else crFin k t1.1 t2.1 0 t3.1 (⟨#[]⟩ : ByteArray) t3.2.1 true) else some (0, 0, 0, 0, (⟨#[]⟩ : ByteArray), 0, false)
           else crFin k t1.1 t2.1 0 0 (⟨#[]⟩ : ByteArray) t2.2.1 true) else some (0, 0, 0, 0, (⟨#[]⟩ : ByteArray), 0, false))
    else some (0, 0, 0, 0, (⟨#[]⟩ : ByteArray), 0, false) else some (0, 0, 0, 0, (⟨#[]⟩ : ByteArray), 0, false)
theorem crFin.mono (k : Nat) (x1 x2 x3 x4 : Int) (d : ByteArray) (p : Int) (ok : Bool) : LeO (crFin k x1 x2 x3 x4 d p ok) (crFin (k + 1) x1 x2 x3 x4 d p ok) := by
  unfold crFin
  repeat' first
  | exact spec_CmdOk.mono _ _ _ _ _ _
  | exact LeO.refl _
  | refine LeO.ite ?_ ?_
  | refine LeO.bind ?_ (fun _ => ?_)
theorem spec_CmdRead.mono : ∀ a0 a1 k, LeO (spec_CmdRead.f k a0 a1) (spec_CmdRead.f (k + 1) a0 a1) := by
  intro a0 a1 k
  unfold spec_CmdRead.f
  repeat' first
  | exact spec_GetNum.mono _ _ _
  | exact crFin.mono _ _ _ _ _ _ _ _
  | exact LeO.refl _
  | refine LeO.ite ?_ ?_
  | refine LeO.bind ?_ (fun _ => ?_)
theorem cr_at {w : World} {g : Nat} {o : Obj} (h : w.heap.size = g) : (w.alloc o).heap[g]? = some o := h ▸ blk_new w o
theorem cr_fr {w : World} {g b i : Nat} {o : Obj} (h : w.heap[g]? = some o) (hp : g ≠ b) (u : Value) : (w.setCell ⟨b, i, none⟩ u).heap[g]? = some o := (Below.heap_setCell w ⟨b, i, none⟩ u g hp).trans h
theorem cr_set5 {w : World} {b : Nat} {T : TypeId} {v0 v1 v2 v3 v4 : Value} (h : w.heap[b]? = some (.cells #[.int .i64 0, .int .i64 0, .int .i64 0, .int .i64 0, .string (⟨#[]⟩ : ByteArray)] T (0, 0))) :
    (((((w.setCell ⟨b, 0, none⟩ v0).setCell ⟨b, 1, none⟩ v1).setCell ⟨b, 2, none⟩ v2).setCell ⟨b, 3, none⟩ v3).setCell ⟨b, 4, none⟩ v4).heap[b]? = some (.cells #[v0, v1, v2, v3, v4] T (0, 0)) :=
  (blk_set (blk_set (blk_set (blk_set (blk_set h 0 v0) 1 v1) 2 v2) 3 v3) 4 v4).trans rfl
set_option maxHeartbeats 8000000 in
set_option maxRecDepth 100000 in
theorem spec_CmdRead.calls (k : Nat) (A0 : Option Addr) (c0 : Nat) (l0 : List Int) (a1 : Int) (r1 : Int) (r2 : Int) (r3 : Int) (r4 : Int) (r5 : ByteArray) (r6 : Int) (r7 : Bool) (w : World) (hr0 : Kd.C (Kd.int .u8) w A0 l0.length l0) (hc0 : l0.length ≤ c0) (h : spec_CmdRead.f k l0 a1 = some (r1, r2, r3, r4, r5, r6, r7)) :
    Calls Try.prog 122 #[.slice A0 l0.length c0, .int .i64 a1] w fun e w' => e = .returned (.tuple #[.agg #[.int .i64 r1, .int .i64 r2, .int .i64 r3, .int .i64 r4, .string r5], .int .i64 r6, .bool r7]) ∧ Below w.heap.size w w' := by
  have hu := Try.underlying50
  have HR := Aside0.mk hr0
  have HC := Aside0.mk hc0
  unfold spec_CmdRead.f at h
  replace h := Option.bind_eq_some_iff.1 h; obtain ⟨⟨x1, p1, ok1⟩, hA, h⟩ := h
  simp only at h
  have HA1 := Aside0.mk hA
  clear hA hr0 hc0
  cases ok1
  · simp only [Bool.false_eq_true, ↓reduceIte, Option.some.injEq, Prod.mk.injEq] at h
    obtain ⟨rfl, rfl, rfl, rfl, rfl, rfl, rfl⟩ := h
    go_enter Try.func122, Try.ntmps122
    go_wp2_with (first | (go_at_call 121; with_reducible refine (spec_GetNum.calls k A0 c0 l0 a1 x1 p1 false _ (Kd.C_below HR.out (by repeat (with_reducible first | exact Below.refl _ _ | apply below_alloc | apply pw_below_drewN | refine below_set ?_ (by omega)))) HC.out HA1.out).mono ?_; rintro e w' ⟨rfl, ⟨nd1, rfl⟩⟩))
    refine bodyPost_ret (results_ctt rfl _ _ w.heap.size 50 #[.int .i64 0, .int .i64 0, .int .i64 0, .int .i64 0, .string (⟨#[]⟩ : ByteArray)] (0, 0) _ rfl (by (with_reducible repeat (first | refine blk_drewN ?_ _ | refine blk_alloc ?_ _)); with_reducible refine cr_set5 ?_; repeat (with_reducible first | exact HZ.out | exact blk_new _ _ | refine cr_fr ?_ (by omega) _ | refine blk_drewN ?_ _ | refine blk_alloc ?_ _)) hu rfl (by kernel_rfl)) rfl ?_; exact ⟨by first | rfl | (simp; done) | (simp [*]; done), by repeat (with_reducible first | exact Below.refl _ _ | apply below_alloc | apply pw_below_drewN | refine below_set ?_ (by omega))⟩
  · simp only [↓reduceIte] at h
    replace h := Option.bind_eq_some_iff.1 h; obtain ⟨o1, hO, h⟩ := h
    have HO := Aside0.mk hO
    clear hO
    cases o1
    · simp only [Bool.false_eq_true, ↓reduceIte, Option.some.injEq, Prod.mk.injEq] at h
      obtain ⟨rfl, rfl, rfl, rfl, rfl, rfl, rfl⟩ := h
      go_enter Try.func122, Try.ntmps122
      go_wp2_with (first | (go_at_call 121; with_reducible refine (spec_GetNum.calls k A0 c0 l0 a1 x1 p1 true _ (Kd.C_below HR.out (by repeat (with_reducible first | exact Below.refl _ _ | apply below_alloc | apply pw_below_drewN | refine below_set ?_ (by omega)))) HC.out HA1.out).mono ?_; rintro e w' ⟨rfl, ⟨nd1, rfl⟩⟩) | (go_at_call 73; with_reducible refine (spec_l1In.calls x1 1 5 false _ HO.out).mono ?_; rintro e w' ⟨rfl, ⟨nd0, rfl⟩⟩))
      refine bodyPost_ret (results_ctt rfl _ _ w.heap.size 50 #[.int .i64 0, .int .i64 0, .int .i64 0, .int .i64 0, .string (⟨#[]⟩ : ByteArray)] (0, 0) _ rfl (by (with_reducible repeat (first | refine blk_drewN ?_ _ | refine blk_alloc ?_ _)); with_reducible refine cr_set5 ?_; repeat (with_reducible first | exact HZ.out | exact blk_new _ _ | refine cr_fr ?_ (by omega) _ | refine blk_drewN ?_ _ | refine blk_alloc ?_ _)) hu rfl (by kernel_rfl)) rfl ?_; exact ⟨by first | rfl | (simp; done) | (simp [*]; done), by repeat (with_reducible first | exact Below.refl _ _ | apply below_alloc | apply pw_below_drewN | refine below_set ?_ (by omega))⟩
    · simp only [↓reduceIte] at h
      by_cases e1 : x1 = 1
      · subst e1
        simp only [↓reduceIte, Option.some.injEq, Prod.mk.injEq] at h
        obtain ⟨rfl, rfl, rfl, rfl, rfl, rfl, rfl⟩ := h
        go_enter Try.func122, Try.ntmps122
        go_wp2_with (first | (go_at_call 121; with_reducible refine (spec_GetNum.calls k A0 c0 l0 a1 1 p1 true _ (Kd.C_below HR.out (by repeat (with_reducible first | exact Below.refl _ _ | apply below_alloc | apply pw_below_drewN | refine below_set ?_ (by omega)))) HC.out HA1.out).mono ?_; rintro e w' ⟨rfl, ⟨nd1, rfl⟩⟩) | (go_at_call 73; with_reducible refine (spec_l1In.calls 1 1 5 true _ HO.out).mono ?_; rintro e w' ⟨rfl, ⟨nd0, rfl⟩⟩))
        refine bodyPost_ret (results_ctt rfl _ _ w.heap.size 50 #[.int .i64 1, .int .i64 0, .int .i64 0, .int .i64 0, .string (⟨#[]⟩ : ByteArray)] (0, 0) _ rfl (by (with_reducible repeat (first | refine blk_drewN ?_ _ | refine blk_alloc ?_ _)); with_reducible refine cr_set5 ?_; repeat (with_reducible first | exact HZ.out | exact blk_new _ _ | refine cr_fr ?_ (by omega) _ | refine blk_drewN ?_ _ | refine blk_alloc ?_ _)) hu rfl (by kernel_rfl)) rfl ?_; exact ⟨by first | rfl | (simp; done) | (simp [*]; done), by repeat (with_reducible first | exact Below.refl _ _ | apply below_alloc | apply pw_below_drewN | refine below_set ?_ (by omega))⟩
      · rw [if_neg e1] at h
        have e1b : (x1 == 1) = false := beq_eq_false_iff_ne.mpr e1
        clear e1
        replace h := Option.bind_eq_some_iff.1 h; obtain ⟨⟨x2, p2, ok2⟩, hA, h⟩ := h
        simp only at h
        have HA2 := Aside0.mk hA
        clear hA
        cases ok2
        · simp only [Bool.false_eq_true, ↓reduceIte, Option.some.injEq, Prod.mk.injEq] at h
          obtain ⟨rfl, rfl, rfl, rfl, rfl, rfl, rfl⟩ := h
          go_enter Try.func122, Try.ntmps122
          go_wp2_with (first | (go_at_call 121; with_reducible refine (spec_GetNum.calls k A0 c0 l0 a1 x1 p1 true _ (Kd.C_below HR.out (by repeat (with_reducible first | exact Below.refl _ _ | apply below_alloc | apply pw_below_drewN | refine below_set ?_ (by omega)))) HC.out HA1.out).mono ?_; rintro e w' ⟨rfl, ⟨nd1, rfl⟩⟩) | (go_at_call 121; with_reducible refine (spec_GetNum.calls k A0 c0 l0 p1 x2 p2 false _ (Kd.C_below HR.out (by repeat (with_reducible first | exact Below.refl _ _ | apply below_alloc | apply pw_below_drewN | refine below_set ?_ (by omega)))) HC.out HA2.out).mono ?_; rintro e w' ⟨rfl, ⟨nd2, rfl⟩⟩) | (go_at_call 73; with_reducible refine (spec_l1In.calls x1 1 5 true _ HO.out).mono ?_; rintro e w' ⟨rfl, ⟨nd0, rfl⟩⟩))
          refine bodyPost_ret (results_ctt rfl _ _ w.heap.size 50 #[.int .i64 0, .int .i64 0, .int .i64 0, .int .i64 0, .string (⟨#[]⟩ : ByteArray)] (0, 0) _ rfl (by (with_reducible repeat (first | refine blk_drewN ?_ _ | refine blk_alloc ?_ _)); with_reducible refine cr_set5 ?_; repeat (with_reducible first | exact HZ.out | exact blk_new _ _ | refine cr_fr ?_ (by omega) _ | refine blk_drewN ?_ _ | refine blk_alloc ?_ _)) hu rfl (by kernel_rfl)) rfl ?_; exact ⟨by first | rfl | (simp; done) | (simp [*]; done), by repeat (with_reducible first | exact Below.refl _ _ | apply below_alloc | apply pw_below_drewN | refine below_set ?_ (by omega))⟩
        · simp only [↓reduceIte] at h
          by_cases e3 : x1 = 3
          · subst e3
            simp only [↓reduceIte] at h
            replace h := Option.bind_eq_some_iff.1 h; obtain ⟨⟨x3, p3, ok3⟩, hA, h⟩ := h
            simp only at h
            have HA3 := Aside0.mk hA
            clear hA
            cases ok3
            · unfold crFin at h
              simp only [Bool.false_eq_true, ↓reduceIte, Option.some.injEq, Prod.mk.injEq] at h
              obtain ⟨rfl, rfl, rfl, rfl, rfl, rfl, rfl⟩ := h
              go_enter Try.func122, Try.ntmps122
              go_wp2_with (first | (go_at_call 121; with_reducible refine (spec_GetNum.calls k A0 c0 l0 a1 3 p1 true _ (Kd.C_below HR.out (by repeat (with_reducible first | exact Below.refl _ _ | apply below_alloc | apply pw_below_drewN | refine below_set ?_ (by omega)))) HC.out HA1.out).mono ?_; rintro e w' ⟨rfl, ⟨nd1, rfl⟩⟩) | (go_at_call 121; with_reducible refine (spec_GetNum.calls k A0 c0 l0 p1 x2 p2 true _ (Kd.C_below HR.out (by repeat (with_reducible first | exact Below.refl _ _ | apply below_alloc | apply pw_below_drewN | refine below_set ?_ (by omega)))) HC.out HA2.out).mono ?_; rintro e w' ⟨rfl, ⟨nd2, rfl⟩⟩) | (go_at_call 121; with_reducible refine (spec_GetNum.calls k A0 c0 l0 p2 x3 p3 false _ (Kd.C_below HR.out (by repeat (with_reducible first | exact Below.refl _ _ | apply below_alloc | apply pw_below_drewN | refine below_set ?_ (by omega)))) HC.out HA3.out).mono ?_; rintro e w' ⟨rfl, ⟨nd3, rfl⟩⟩) | (go_at_call 73; with_reducible refine (spec_l1In.calls 3 1 5 true _ HO.out).mono ?_; rintro e w' ⟨rfl, ⟨nd0, rfl⟩⟩))
              refine bodyPost_ret (results_ctt rfl _ _ w.heap.size 50 #[.int .i64 0, .int .i64 0, .int .i64 0, .int .i64 0, .string (⟨#[]⟩ : ByteArray)] (0, 0) _ rfl (by (with_reducible repeat (first | refine blk_drewN ?_ _ | refine blk_alloc ?_ _)); with_reducible refine cr_set5 ?_; repeat (with_reducible first | exact HZ.out | exact blk_new _ _ | refine cr_fr ?_ (by omega) _ | refine blk_drewN ?_ _ | refine blk_alloc ?_ _)) hu rfl (by kernel_rfl)) rfl ?_; exact ⟨by first | rfl | (simp; done) | (simp [*]; done), by repeat (with_reducible first | exact Below.refl _ _ | apply below_alloc | apply pw_below_drewN | refine below_set ?_ (by omega))⟩
            · skip
              unfold crFin at h
              simp only [↓reduceIte] at h
              replace h := Option.bind_eq_some_iff.1 h; obtain ⟨o, hK, h⟩ := h
              have HK := Aside0.mk hK
              clear hK
              cases o
              · simp only [Bool.false_eq_true, ↓reduceIte, Option.some.injEq, Prod.mk.injEq] at h
                obtain ⟨rfl, rfl, rfl, rfl, rfl, rfl, rfl⟩ := h
                go_enter Try.func122, Try.ntmps122
                go_wp2_with (first | (go_at_call 121; with_reducible refine (spec_GetNum.calls k A0 c0 l0 a1 3 p1 true _ (Kd.C_below HR.out (by repeat (with_reducible first | exact Below.refl _ _ | apply below_alloc | apply pw_below_drewN | refine below_set ?_ (by omega)))) HC.out HA1.out).mono ?_; rintro e w' ⟨rfl, ⟨nd1, rfl⟩⟩) | (go_at_call 121; with_reducible refine (spec_GetNum.calls k A0 c0 l0 p1 x2 p2 true _ (Kd.C_below HR.out (by repeat (with_reducible first | exact Below.refl _ _ | apply below_alloc | apply pw_below_drewN | refine below_set ?_ (by omega)))) HC.out HA2.out).mono ?_; rintro e w' ⟨rfl, ⟨nd2, rfl⟩⟩) | (go_at_call 121; with_reducible refine (spec_GetNum.calls k A0 c0 l0 p2 x3 p3 true _ (Kd.C_below HR.out (by repeat (with_reducible first | exact Below.refl _ _ | apply below_alloc | apply pw_below_drewN | refine below_set ?_ (by omega)))) HC.out HA3.out).mono ?_; rintro e w' ⟨rfl, ⟨nd3, rfl⟩⟩) | (go_at_call 73; with_reducible refine (spec_l1In.calls 3 1 5 true _ HO.out).mono ?_; rintro e w' ⟨rfl, ⟨nd0, rfl⟩⟩) | (go_at_call 147; with_reducible refine (spec_CmdOk.calls k _ _ _ _ _ _ _ HK.out).mono ?_; rintro e w2 ⟨rfl, hb⟩; have hz := blk_below (g := w.heap.size) (o := .cells #[.int .i64 0, .int .i64 0, .int .i64 0, .int .i64 0, .string (⟨#[]⟩ : ByteArray)] 50 (0, 0)) (by repeat (with_reducible first | exact blk_new _ _ | refine cr_fr ?_ (by omega) _ | refine blk_drewN ?_ _ | refine blk_alloc ?_ _)) hb; have hy := blk_below (g := w.heap.size + 1) (o := .cells #[.int .i64 0, .int .i64 0, .int .i64 0, .int .i64 0, .string (⟨#[]⟩ : ByteArray)] 50 (0, 0)) (by repeat (with_reducible first | refine cr_fr ?_ (by omega) _ | refine blk_drewN ?_ _ | exact cr_at (by simp) | refine blk_drewN ?_ _ | refine blk_alloc ?_ _)) hb; have hx := blk_below (g := w.heap.size + 1 + 1) (o := .cells #[.int .i64 3, .int .i64 x2, .int .i64 x3, .int .i64 0, .string (⟨#[]⟩ : ByteArray)] 50 (0, 0)) (by exact (blk_set (blk_drewN (blk_set (blk_drewN (cr_at (by simp)) _) 1 _) _) 2 _).trans rfl) hb; have HB2 : Aside0 (Below w.heap.size w w2) := ⟨below_step (by repeat (with_reducible first | exact Below.refl _ _ | apply below_alloc | apply pw_below_drewN | refine below_set ?_ (by omega))) hb⟩; have HZ := Aside0.mk hz; have y0 := (blk_cell hy 0).trans rfl; have x0_ := (blk_cell hx 0).trans rfl; have z0_ := (blk_cell hz 0).trans rfl; have y1 := (blk_cell hy 1).trans rfl; have x1_ := (blk_cell hx 1).trans rfl; have z1_ := (blk_cell hz 1).trans rfl; have y2 := (blk_cell hy 2).trans rfl; have x2_ := (blk_cell hx 2).trans rfl; have z2_ := (blk_cell hz 2).trans rfl; have y3 := (blk_cell hy 3).trans rfl; have x3_ := (blk_cell hx 3).trans rfl; have z3_ := (blk_cell hz 3).trans rfl; have y4 := (blk_cell hy 4).trans rfl; have x4_ := (blk_cell hx 4).trans rfl; have z4_ := (blk_cell hz 4).trans rfl; have hfz := fun (i_ : Nat) => blk_frozen hz i_; clear hb hz hy hx))
                refine bodyPost_ret (results_ctt rfl _ _ w.heap.size 50 #[.int .i64 0, .int .i64 0, .int .i64 0, .int .i64 0, .string (⟨#[]⟩ : ByteArray)] (0, 0) _ rfl (by (with_reducible repeat (first | refine blk_drewN ?_ _ | refine blk_alloc ?_ _)); with_reducible refine cr_set5 ?_; repeat (with_reducible first | exact HZ.out | exact blk_new _ _ | refine cr_fr ?_ (by omega) _ | refine blk_drewN ?_ _ | refine blk_alloc ?_ _)) hu rfl (by kernel_rfl)) rfl ?_; exact ⟨by first | rfl | (simp; done) | (simp [*]; done), by repeat (with_reducible first | exact HB2.out | exact Below.refl _ _ | apply below_alloc | apply pw_below_drewN | refine below_set ?_ (by omega))⟩
              · simp only [↓reduceIte, Option.some.injEq, Prod.mk.injEq] at h
                obtain ⟨rfl, rfl, rfl, rfl, rfl, rfl, rfl⟩ := h
                go_enter Try.func122, Try.ntmps122
                go_wp2_with (first | (go_at_call 121; with_reducible refine (spec_GetNum.calls k A0 c0 l0 a1 3 p1 true _ (Kd.C_below HR.out (by repeat (with_reducible first | exact Below.refl _ _ | apply below_alloc | apply pw_below_drewN | refine below_set ?_ (by omega)))) HC.out HA1.out).mono ?_; rintro e w' ⟨rfl, ⟨nd1, rfl⟩⟩) | (go_at_call 121; with_reducible refine (spec_GetNum.calls k A0 c0 l0 p1 x2 p2 true _ (Kd.C_below HR.out (by repeat (with_reducible first | exact Below.refl _ _ | apply below_alloc | apply pw_below_drewN | refine below_set ?_ (by omega)))) HC.out HA2.out).mono ?_; rintro e w' ⟨rfl, ⟨nd2, rfl⟩⟩) | (go_at_call 121; with_reducible refine (spec_GetNum.calls k A0 c0 l0 p2 x3 p3 true _ (Kd.C_below HR.out (by repeat (with_reducible first | exact Below.refl _ _ | apply below_alloc | apply pw_below_drewN | refine below_set ?_ (by omega)))) HC.out HA3.out).mono ?_; rintro e w' ⟨rfl, ⟨nd3, rfl⟩⟩) | (go_at_call 73; with_reducible refine (spec_l1In.calls 3 1 5 true _ HO.out).mono ?_; rintro e w' ⟨rfl, ⟨nd0, rfl⟩⟩) | (go_at_call 147; with_reducible refine (spec_CmdOk.calls k _ _ _ _ _ _ _ HK.out).mono ?_; rintro e w2 ⟨rfl, hb⟩; have hz := blk_below (g := w.heap.size) (o := .cells #[.int .i64 0, .int .i64 0, .int .i64 0, .int .i64 0, .string (⟨#[]⟩ : ByteArray)] 50 (0, 0)) (by repeat (with_reducible first | exact blk_new _ _ | refine cr_fr ?_ (by omega) _ | refine blk_drewN ?_ _ | refine blk_alloc ?_ _)) hb; have hy := blk_below (g := w.heap.size + 1) (o := .cells #[.int .i64 0, .int .i64 0, .int .i64 0, .int .i64 0, .string (⟨#[]⟩ : ByteArray)] 50 (0, 0)) (by repeat (with_reducible first | refine cr_fr ?_ (by omega) _ | refine blk_drewN ?_ _ | exact cr_at (by simp) | refine blk_drewN ?_ _ | refine blk_alloc ?_ _)) hb; have hx := blk_below (g := w.heap.size + 1 + 1) (o := .cells #[.int .i64 3, .int .i64 x2, .int .i64 x3, .int .i64 0, .string (⟨#[]⟩ : ByteArray)] 50 (0, 0)) (by exact (blk_set (blk_drewN (blk_set (blk_drewN (cr_at (by simp)) _) 1 _) _) 2 _).trans rfl) hb; have HB2 : Aside0 (Below w.heap.size w w2) := ⟨below_step (by repeat (with_reducible first | exact Below.refl _ _ | apply below_alloc | apply pw_below_drewN | refine below_set ?_ (by omega))) hb⟩; have HZ := Aside0.mk hz; have y0 := (blk_cell hy 0).trans rfl; have x0_ := (blk_cell hx 0).trans rfl; have z0_ := (blk_cell hz 0).trans rfl; have y1 := (blk_cell hy 1).trans rfl; have x1_ := (blk_cell hx 1).trans rfl; have z1_ := (blk_cell hz 1).trans rfl; have y2 := (blk_cell hy 2).trans rfl; have x2_ := (blk_cell hx 2).trans rfl; have z2_ := (blk_cell hz 2).trans rfl; have y3 := (blk_cell hy 3).trans rfl; have x3_ := (blk_cell hx 3).trans rfl; have z3_ := (blk_cell hz 3).trans rfl; have y4 := (blk_cell hy 4).trans rfl; have x4_ := (blk_cell hx 4).trans rfl; have z4_ := (blk_cell hz 4).trans rfl; have hfz := fun (i_ : Nat) => blk_frozen hz i_; clear hb hz hy hx))
                refine bodyPost_ret (results_ctt rfl _ _ w.heap.size 50 #[.int .i64 3, .int .i64 x2, .int .i64 x3, .int .i64 0, .string (⟨#[]⟩ : ByteArray)] (0, 0) _ rfl (by (with_reducible repeat (first | refine blk_drewN ?_ _ | refine blk_alloc ?_ _)); with_reducible refine cr_set5 ?_; repeat (with_reducible first | exact HZ.out | exact blk_new _ _ | refine cr_fr ?_ (by omega) _ | refine blk_drewN ?_ _ | refine blk_alloc ?_ _)) hu rfl (by kernel_rfl)) rfl ?_; exact ⟨by first | rfl | (simp; done) | (simp [*]; done), by repeat (with_reducible first | exact HB2.out | exact Below.refl _ _ | apply below_alloc | apply pw_below_drewN | refine below_set ?_ (by omega))⟩
          · rw [if_neg e3] at h
            have e3b : (x1 == 3) = false := beq_eq_false_iff_ne.mpr e3
            clear e3
            by_cases e2 : x1 = 2
            · subst e2
              simp only [↓reduceIte] at h
              replace h := Option.bind_eq_some_iff.1 h; obtain ⟨⟨x3, p3, ok3⟩, hA, h⟩ := h
              simp only at h
              have HA3 := Aside0.mk hA
              clear hA
              cases ok3
              · simp only [Bool.false_eq_true, ↓reduceIte, Option.some.injEq, Prod.mk.injEq] at h
                obtain ⟨rfl, rfl, rfl, rfl, rfl, rfl, rfl⟩ := h
                go_enter Try.func122, Try.ntmps122
                go_wp2_with (first | (go_at_call 121; with_reducible refine (spec_GetNum.calls k A0 c0 l0 a1 2 p1 true _ (Kd.C_below HR.out (by repeat (with_reducible first | exact Below.refl _ _ | apply below_alloc | apply pw_below_drewN | refine below_set ?_ (by omega)))) HC.out HA1.out).mono ?_; rintro e w' ⟨rfl, ⟨nd1, rfl⟩⟩) | (go_at_call 121; with_reducible refine (spec_GetNum.calls k A0 c0 l0 p1 x2 p2 true _ (Kd.C_below HR.out (by repeat (with_reducible first | exact Below.refl _ _ | apply below_alloc | apply pw_below_drewN | refine below_set ?_ (by omega)))) HC.out HA2.out).mono ?_; rintro e w' ⟨rfl, ⟨nd2, rfl⟩⟩) | (go_at_call 121; with_reducible refine (spec_GetNum.calls k A0 c0 l0 p2 x3 p3 false _ (Kd.C_below HR.out (by repeat (with_reducible first | exact Below.refl _ _ | apply below_alloc | apply pw_below_drewN | refine below_set ?_ (by omega)))) HC.out HA3.out).mono ?_; rintro e w' ⟨rfl, ⟨nd3, rfl⟩⟩) | (go_at_call 73; with_reducible refine (spec_l1In.calls 2 1 5 true _ HO.out).mono ?_; rintro e w' ⟨rfl, ⟨nd0, rfl⟩⟩))
                refine bodyPost_ret (results_ctt rfl _ _ w.heap.size 50 #[.int .i64 0, .int .i64 0, .int .i64 0, .int .i64 0, .string (⟨#[]⟩ : ByteArray)] (0, 0) _ rfl (by (with_reducible repeat (first | refine blk_drewN ?_ _ | refine blk_alloc ?_ _)); with_reducible refine cr_set5 ?_; repeat (with_reducible first | exact HZ.out | exact blk_new _ _ | refine cr_fr ?_ (by omega) _ | refine blk_drewN ?_ _ | refine blk_alloc ?_ _)) hu rfl (by kernel_rfl)) rfl ?_; exact ⟨by first | rfl | (simp; done) | (simp [*]; done), by repeat (with_reducible first | exact Below.refl _ _ | apply below_alloc | apply pw_below_drewN | refine below_set ?_ (by omega))⟩
              · simp only [↓reduceIte] at h
                by_cases e4 : wrap64 ((l0.length : Int) - p3) ≥ 32
                · rw [if_pos e4] at h
                  have e4b : decide (32 ≤ wrap64 ((l0.length : Int) - p3)) = true := decide_eq_true e4
                  clear e4
                  split at h
                  · rename_i hb
                    obtain ⟨b0, b2⟩ := hb
                    have hcap := HC.out
                    have hmx := Kd.C_max HR.out
                    have f1 : wrap64 (p3 + 32) = p3 + 32 := by unfold wrap64; omega
                    obtain ⟨i0, hi0, _, hsz, _⟩ := info_parts info5
                    obtain ⟨A2, hcut, hA2, hC2⟩ := print_mid_of (P := Try.prog) (Value.int .u8) 0 34 5 .i64 .i64 Try.underlying34 hi0 hsz A0 c0 l0 p3 (p3 + 32) b0 (by omega) b2 hcap
                    have hcv0 : ∀ W, Below w.heap.size w W → (convert 34 9 (.slice A2 ((p3 + 32).toNat - p3.toNat) (c0 - p3.toNat))).run Try.prog W = .ok (.string (strOfNums ((l0.take (p3 + 32).toNat).drop p3.toNat))) W := fun W hW =>
                      Kd.C_string Try.underlying34 Try.underlying5 Try.underlying9 (by
                        have h_ := Kd.C_of_reads (h1 := fun _ => rfl) (hA2 _ (Kd.reads_of_C (Kd.C_below HR.out hW)))
                        rw [show ((l0.take (p3 + 32).toNat).drop p3.toNat).length = (p3 + 32).toNat - p3.toNat from by rw [List.length_drop, List.length_take]; omega] at h_
                        exact h_)
                    rw [show ((l0.take (p3 + 32).toNat).drop p3.toNat).length = (p3 + 32).toNat - p3.toNat from by rw [List.length_drop, List.length_take]; omega] at hcut
                    have HCV := Aside0.mk hcv0
                    clear hA2 hC2 hi0 hsz b0 b2 hcap hmx hcv0
                    unfold crFin at h
                    simp only [↓reduceIte] at h
                    replace h := Option.bind_eq_some_iff.1 h; obtain ⟨o, hK, h⟩ := h
                    have HK := Aside0.mk hK
                    clear hK
                    cases o
                    · simp only [Bool.false_eq_true, ↓reduceIte, Option.some.injEq, Prod.mk.injEq] at h
                      obtain ⟨rfl, rfl, rfl, rfl, rfl, rfl, rfl⟩ := h
                      go_enter Try.func122, Try.ntmps122
                      go_wp2_with (first | (go_at_call 121; with_reducible refine (spec_GetNum.calls k A0 c0 l0 a1 2 p1 true _ (Kd.C_below HR.out (by repeat (with_reducible first | exact Below.refl _ _ | apply below_alloc | apply pw_below_drewN | refine below_set ?_ (by omega)))) HC.out HA1.out).mono ?_; rintro e w' ⟨rfl, ⟨nd1, rfl⟩⟩) | (go_at_call 121; with_reducible refine (spec_GetNum.calls k A0 c0 l0 p1 x2 p2 true _ (Kd.C_below HR.out (by repeat (with_reducible first | exact Below.refl _ _ | apply below_alloc | apply pw_below_drewN | refine below_set ?_ (by omega)))) HC.out HA2.out).mono ?_; rintro e w' ⟨rfl, ⟨nd2, rfl⟩⟩) | (go_at_call 121; with_reducible refine (spec_GetNum.calls k A0 c0 l0 p2 x3 p3 true _ (Kd.C_below HR.out (by repeat (with_reducible first | exact Below.refl _ _ | apply below_alloc | apply pw_below_drewN | refine below_set ?_ (by omega)))) HC.out HA3.out).mono ?_; rintro e w' ⟨rfl, ⟨nd3, rfl⟩⟩; have hcv := HCV.out (World.setCell (World.drewN (World.setCell (World.drewN (World.alloc (World.drewN (World.alloc (World.alloc w (.cells #[.int .i64 0, .int .i64 0, .int .i64 0, .int .i64 0, .string (⟨#[]⟩ : ByteArray)] 50 (0, 0))) (.cells #[.int .i64 0, .int .i64 0, .int .i64 0, .int .i64 0, .string (⟨#[]⟩ : ByteArray)] 50 (0, 0))) (nd1 + nd0)) (.cells #[.int .i64 2, .int .i64 0, .int .i64 0, .int .i64 0, .string (⟨#[]⟩ : ByteArray)] 50 (0, 0))) nd2) ⟨w.heap.size + 1 + 1, 1, none⟩ (.int .i64 x2)) nd3) ⟨w.heap.size + 1 + 1, 3, none⟩ (.int .i64 x3)) (by repeat (with_reducible first | exact Below.refl _ _ | apply below_alloc | apply pw_below_drewN | refine below_set ?_ (by omega)))) | (go_at_call 73; with_reducible refine (spec_l1In.calls 2 1 5 true _ HO.out).mono ?_; rintro e w' ⟨rfl, ⟨nd0, rfl⟩⟩) | (go_at_call 147; with_reducible refine (spec_CmdOk.calls k _ _ _ _ _ _ _ HK.out).mono ?_; rintro e w2 ⟨rfl, hb⟩; have hz := blk_below (g := w.heap.size) (o := .cells #[.int .i64 0, .int .i64 0, .int .i64 0, .int .i64 0, .string (⟨#[]⟩ : ByteArray)] 50 (0, 0)) (by repeat (with_reducible first | exact blk_new _ _ | refine cr_fr ?_ (by omega) _ | refine blk_drewN ?_ _ | refine blk_alloc ?_ _)) hb; have hy := blk_below (g := w.heap.size + 1) (o := .cells #[.int .i64 0, .int .i64 0, .int .i64 0, .int .i64 0, .string (⟨#[]⟩ : ByteArray)] 50 (0, 0)) (by repeat (with_reducible first | refine cr_fr ?_ (by omega) _ | refine blk_drewN ?_ _ | exact cr_at (by simp) | refine blk_drewN ?_ _ | refine blk_alloc ?_ _)) hb; have hx := blk_below (g := w.heap.size + 1 + 1) (o := .cells #[.int .i64 2, .int .i64 x2, .int .i64 0, .int .i64 x3, .string (strOfNums ((l0.take (p3 + 32).toNat).drop p3.toNat))] 50 (0, 0)) (by exact (blk_set (blk_set (blk_drewN (blk_set (blk_drewN (cr_at (by simp)) _) 1 _) _) 3 _) 4 _).trans rfl) hb; have HB2 : Aside0 (Below w.heap.size w w2) := ⟨below_step (by repeat (with_reducible first | exact Below.refl _ _ | apply below_alloc | apply pw_below_drewN | refine below_set ?_ (by omega))) hb⟩; have HZ := Aside0.mk hz; have y0 := (blk_cell hy 0).trans rfl; have x0_ := (blk_cell hx 0).trans rfl; have z0_ := (blk_cell hz 0).trans rfl; have y1 := (blk_cell hy 1).trans rfl; have x1_ := (blk_cell hx 1).trans rfl; have z1_ := (blk_cell hz 1).trans rfl; have y2 := (blk_cell hy 2).trans rfl; have x2_ := (blk_cell hx 2).trans rfl; have z2_ := (blk_cell hz 2).trans rfl; have y3 := (blk_cell hy 3).trans rfl; have x3_ := (blk_cell hx 3).trans rfl; have z3_ := (blk_cell hz 3).trans rfl; have y4 := (blk_cell hy 4).trans rfl; have x4_ := (blk_cell hx 4).trans rfl; have z4_ := (blk_cell hz 4).trans rfl; have hfz := fun (i_ : Nat) => blk_frozen hz i_; clear hb hz hy hx))
                      refine bodyPost_ret (results_ctt rfl _ _ w.heap.size 50 #[.int .i64 0, .int .i64 0, .int .i64 0, .int .i64 0, .string (⟨#[]⟩ : ByteArray)] (0, 0) _ rfl (by (with_reducible repeat (first | refine blk_drewN ?_ _ | refine blk_alloc ?_ _)); with_reducible refine cr_set5 ?_; repeat (with_reducible first | exact HZ.out | exact blk_new _ _ | refine cr_fr ?_ (by omega) _ | refine blk_drewN ?_ _ | refine blk_alloc ?_ _)) hu rfl (by kernel_rfl)) rfl ?_; exact ⟨by first | rfl | (simp; done) | (simp [*]; done), by repeat (with_reducible first | exact HB2.out | exact Below.refl _ _ | apply below_alloc | apply pw_below_drewN | refine below_set ?_ (by omega))⟩
                    · simp only [↓reduceIte, Option.some.injEq, Prod.mk.injEq] at h
                      obtain ⟨rfl, rfl, rfl, rfl, rfl, rfl, rfl⟩ := h
                      go_enter Try.func122, Try.ntmps122
                      go_wp2_with (first | (go_at_call 121; with_reducible refine (spec_GetNum.calls k A0 c0 l0 a1 2 p1 true _ (Kd.C_below HR.out (by repeat (with_reducible first | exact Below.refl _ _ | apply below_alloc | apply pw_below_drewN | refine below_set ?_ (by omega)))) HC.out HA1.out).mono ?_; rintro e w' ⟨rfl, ⟨nd1, rfl⟩⟩) | (go_at_call 121; with_reducible refine (spec_GetNum.calls k A0 c0 l0 p1 x2 p2 true _ (Kd.C_below HR.out (by repeat (with_reducible first | exact Below.refl _ _ | apply below_alloc | apply pw_below_drewN | refine below_set ?_ (by omega)))) HC.out HA2.out).mono ?_; rintro e w' ⟨rfl, ⟨nd2, rfl⟩⟩) | (go_at_call 121; with_reducible refine (spec_GetNum.calls k A0 c0 l0 p2 x3 p3 true _ (Kd.C_below HR.out (by repeat (with_reducible first | exact Below.refl _ _ | apply below_alloc | apply pw_below_drewN | refine below_set ?_ (by omega)))) HC.out HA3.out).mono ?_; rintro e w' ⟨rfl, ⟨nd3, rfl⟩⟩; have hcv := HCV.out (World.setCell (World.drewN (World.setCell (World.drewN (World.alloc (World.drewN (World.alloc (World.alloc w (.cells #[.int .i64 0, .int .i64 0, .int .i64 0, .int .i64 0, .string (⟨#[]⟩ : ByteArray)] 50 (0, 0))) (.cells #[.int .i64 0, .int .i64 0, .int .i64 0, .int .i64 0, .string (⟨#[]⟩ : ByteArray)] 50 (0, 0))) (nd1 + nd0)) (.cells #[.int .i64 2, .int .i64 0, .int .i64 0, .int .i64 0, .string (⟨#[]⟩ : ByteArray)] 50 (0, 0))) nd2) ⟨w.heap.size + 1 + 1, 1, none⟩ (.int .i64 x2)) nd3) ⟨w.heap.size + 1 + 1, 3, none⟩ (.int .i64 x3)) (by repeat (with_reducible first | exact Below.refl _ _ | apply below_alloc | apply pw_below_drewN | refine below_set ?_ (by omega)))) | (go_at_call 73; with_reducible refine (spec_l1In.calls 2 1 5 true _ HO.out).mono ?_; rintro e w' ⟨rfl, ⟨nd0, rfl⟩⟩) | (go_at_call 147; with_reducible refine (spec_CmdOk.calls k _ _ _ _ _ _ _ HK.out).mono ?_; rintro e w2 ⟨rfl, hb⟩; have hz := blk_below (g := w.heap.size) (o := .cells #[.int .i64 0, .int .i64 0, .int .i64 0, .int .i64 0, .string (⟨#[]⟩ : ByteArray)] 50 (0, 0)) (by repeat (with_reducible first | exact blk_new _ _ | refine cr_fr ?_ (by omega) _ | refine blk_drewN ?_ _ | refine blk_alloc ?_ _)) hb; have hy := blk_below (g := w.heap.size + 1) (o := .cells #[.int .i64 0, .int .i64 0, .int .i64 0, .int .i64 0, .string (⟨#[]⟩ : ByteArray)] 50 (0, 0)) (by repeat (with_reducible first | refine cr_fr ?_ (by omega) _ | refine blk_drewN ?_ _ | exact cr_at (by simp) | refine blk_drewN ?_ _ | refine blk_alloc ?_ _)) hb; have hx := blk_below (g := w.heap.size + 1 + 1) (o := .cells #[.int .i64 2, .int .i64 x2, .int .i64 0, .int .i64 x3, .string (strOfNums ((l0.take (p3 + 32).toNat).drop p3.toNat))] 50 (0, 0)) (by exact (blk_set (blk_set (blk_drewN (blk_set (blk_drewN (cr_at (by simp)) _) 1 _) _) 3 _) 4 _).trans rfl) hb; have HB2 : Aside0 (Below w.heap.size w w2) := ⟨below_step (by repeat (with_reducible first | exact Below.refl _ _ | apply below_alloc | apply pw_below_drewN | refine below_set ?_ (by omega))) hb⟩; have HZ := Aside0.mk hz; have y0 := (blk_cell hy 0).trans rfl; have x0_ := (blk_cell hx 0).trans rfl; have z0_ := (blk_cell hz 0).trans rfl; have y1 := (blk_cell hy 1).trans rfl; have x1_ := (blk_cell hx 1).trans rfl; have z1_ := (blk_cell hz 1).trans rfl; have y2 := (blk_cell hy 2).trans rfl; have x2_ := (blk_cell hx 2).trans rfl; have z2_ := (blk_cell hz 2).trans rfl; have y3 := (blk_cell hy 3).trans rfl; have x3_ := (blk_cell hx 3).trans rfl; have z3_ := (blk_cell hz 3).trans rfl; have y4 := (blk_cell hy 4).trans rfl; have x4_ := (blk_cell hx 4).trans rfl; have z4_ := (blk_cell hz 4).trans rfl; have hfz := fun (i_ : Nat) => blk_frozen hz i_; clear hb hz hy hx))
                      refine bodyPost_ret (results_ctt rfl _ _ w.heap.size 50 #[.int .i64 2, .int .i64 x2, .int .i64 0, .int .i64 x3, .string (strOfNums ((l0.take (p3 + 32).toNat).drop p3.toNat))] (0, 0) _ rfl (by (with_reducible repeat (first | refine blk_drewN ?_ _ | refine blk_alloc ?_ _)); with_reducible refine cr_set5 ?_; repeat (with_reducible first | exact HZ.out | exact blk_new _ _ | refine cr_fr ?_ (by omega) _ | refine blk_drewN ?_ _ | refine blk_alloc ?_ _)) hu rfl (by kernel_rfl)) rfl ?_; exact ⟨by first | rfl | (simp; done) | (simp [*]; done), by repeat (with_reducible first | exact HB2.out | exact Below.refl _ _ | apply below_alloc | apply pw_below_drewN | refine below_set ?_ (by omega))⟩
                  · exact absurd h (by simp)
                · rw [if_neg e4] at h
                  have e4b : decide (32 ≤ wrap64 ((l0.length : Int) - p3)) = false := decide_eq_false e4
                  clear e4
                  unfold crFin at h
                  simp only [↓reduceIte] at h
                  replace h := Option.bind_eq_some_iff.1 h; obtain ⟨o, hK, h⟩ := h
                  have HK := Aside0.mk hK
                  clear hK
                  cases o
                  · simp only [Bool.false_eq_true, ↓reduceIte, Option.some.injEq, Prod.mk.injEq] at h
                    obtain ⟨rfl, rfl, rfl, rfl, rfl, rfl, rfl⟩ := h
                    go_enter Try.func122, Try.ntmps122
                    go_wp2_with (first | (go_at_call 121; with_reducible refine (spec_GetNum.calls k A0 c0 l0 a1 2 p1 true _ (Kd.C_below HR.out (by repeat (with_reducible first | exact Below.refl _ _ | apply below_alloc | apply pw_below_drewN | refine below_set ?_ (by omega)))) HC.out HA1.out).mono ?_; rintro e w' ⟨rfl, ⟨nd1, rfl⟩⟩) | (go_at_call 121; with_reducible refine (spec_GetNum.calls k A0 c0 l0 p1 x2 p2 true _ (Kd.C_below HR.out (by repeat (with_reducible first | exact Below.refl _ _ | apply below_alloc | apply pw_below_drewN | refine below_set ?_ (by omega)))) HC.out HA2.out).mono ?_; rintro e w' ⟨rfl, ⟨nd2, rfl⟩⟩) | (go_at_call 121; with_reducible refine (spec_GetNum.calls k A0 c0 l0 p2 x3 p3 true _ (Kd.C_below HR.out (by repeat (with_reducible first | exact Below.refl _ _ | apply below_alloc | apply pw_below_drewN | refine below_set ?_ (by omega)))) HC.out HA3.out).mono ?_; rintro e w' ⟨rfl, ⟨nd3, rfl⟩⟩) | (go_at_call 73; with_reducible refine (spec_l1In.calls 2 1 5 true _ HO.out).mono ?_; rintro e w' ⟨rfl, ⟨nd0, rfl⟩⟩) | (go_at_call 147; with_reducible refine (spec_CmdOk.calls k _ _ _ _ _ _ _ HK.out).mono ?_; rintro e w2 ⟨rfl, hb⟩; have hz := blk_below (g := w.heap.size) (o := .cells #[.int .i64 0, .int .i64 0, .int .i64 0, .int .i64 0, .string (⟨#[]⟩ : ByteArray)] 50 (0, 0)) (by repeat (with_reducible first | exact blk_new _ _ | refine cr_fr ?_ (by omega) _ | refine blk_drewN ?_ _ | refine blk_alloc ?_ _)) hb; have hy := blk_below (g := w.heap.size + 1) (o := .cells #[.int .i64 0, .int .i64 0, .int .i64 0, .int .i64 0, .string (⟨#[]⟩ : ByteArray)] 50 (0, 0)) (by repeat (with_reducible first | refine cr_fr ?_ (by omega) _ | refine blk_drewN ?_ _ | exact cr_at (by simp) | refine blk_drewN ?_ _ | refine blk_alloc ?_ _)) hb; have hx := blk_below (g := w.heap.size + 1 + 1) (o := .cells #[.int .i64 2, .int .i64 x2, .int .i64 0, .int .i64 x3, .string (⟨#[]⟩ : ByteArray)] 50 (0, 0)) (by exact (blk_set (blk_drewN (blk_set (blk_drewN (cr_at (by simp)) _) 1 _) _) 3 _).trans rfl) hb; have HB2 : Aside0 (Below w.heap.size w w2) := ⟨below_step (by repeat (with_reducible first | exact Below.refl _ _ | apply below_alloc | apply pw_below_drewN | refine below_set ?_ (by omega))) hb⟩; have HZ := Aside0.mk hz; have y0 := (blk_cell hy 0).trans rfl; have x0_ := (blk_cell hx 0).trans rfl; have z0_ := (blk_cell hz 0).trans rfl; have y1 := (blk_cell hy 1).trans rfl; have x1_ := (blk_cell hx 1).trans rfl; have z1_ := (blk_cell hz 1).trans rfl; have y2 := (blk_cell hy 2).trans rfl; have x2_ := (blk_cell hx 2).trans rfl; have z2_ := (blk_cell hz 2).trans rfl; have y3 := (blk_cell hy 3).trans rfl; have x3_ := (blk_cell hx 3).trans rfl; have z3_ := (blk_cell hz 3).trans rfl; have y4 := (blk_cell hy 4).trans rfl; have x4_ := (blk_cell hx 4).trans rfl; have z4_ := (blk_cell hz 4).trans rfl; have hfz := fun (i_ : Nat) => blk_frozen hz i_; clear hb hz hy hx))
                    refine bodyPost_ret (results_ctt rfl _ _ w.heap.size 50 #[.int .i64 0, .int .i64 0, .int .i64 0, .int .i64 0, .string (⟨#[]⟩ : ByteArray)] (0, 0) _ rfl (by (with_reducible repeat (first | refine blk_drewN ?_ _ | refine blk_alloc ?_ _)); with_reducible refine cr_set5 ?_; repeat (with_reducible first | exact HZ.out | exact blk_new _ _ | refine cr_fr ?_ (by omega) _ | refine blk_drewN ?_ _ | refine blk_alloc ?_ _)) hu rfl (by kernel_rfl)) rfl ?_; exact ⟨by first | rfl | (simp; done) | (simp [*]; done), by repeat (with_reducible first | exact HB2.out | exact Below.refl _ _ | apply below_alloc | apply pw_below_drewN | refine below_set ?_ (by omega))⟩
                  · simp only [↓reduceIte, Option.some.injEq, Prod.mk.injEq] at h
                    obtain ⟨rfl, rfl, rfl, rfl, rfl, rfl, rfl⟩ := h
                    go_enter Try.func122, Try.ntmps122
                    go_wp2_with (first | (go_at_call 121; with_reducible refine (spec_GetNum.calls k A0 c0 l0 a1 2 p1 true _ (Kd.C_below HR.out (by repeat (with_reducible first | exact Below.refl _ _ | apply below_alloc | apply pw_below_drewN | refine below_set ?_ (by omega)))) HC.out HA1.out).mono ?_; rintro e w' ⟨rfl, ⟨nd1, rfl⟩⟩) | (go_at_call 121; with_reducible refine (spec_GetNum.calls k A0 c0 l0 p1 x2 p2 true _ (Kd.C_below HR.out (by repeat (with_reducible first | exact Below.refl _ _ | apply below_alloc | apply pw_below_drewN | refine below_set ?_ (by omega)))) HC.out HA2.out).mono ?_; rintro e w' ⟨rfl, ⟨nd2, rfl⟩⟩) | (go_at_call 121; with_reducible refine (spec_GetNum.calls k A0 c0 l0 p2 x3 p3 true _ (Kd.C_below HR.out (by repeat (with_reducible first | exact Below.refl _ _ | apply below_alloc | apply pw_below_drewN | refine below_set ?_ (by omega)))) HC.out HA3.out).mono ?_; rintro e w' ⟨rfl, ⟨nd3, rfl⟩⟩) | (go_at_call 73; with_reducible refine (spec_l1In.calls 2 1 5 true _ HO.out).mono ?_; rintro e w' ⟨rfl, ⟨nd0, rfl⟩⟩) | (go_at_call 147; with_reducible refine (spec_CmdOk.calls k _ _ _ _ _ _ _ HK.out).mono ?_; rintro e w2 ⟨rfl, hb⟩; have hz := blk_below (g := w.heap.size) (o := .cells #[.int .i64 0, .int .i64 0, .int .i64 0, .int .i64 0, .string (⟨#[]⟩ : ByteArray)] 50 (0, 0)) (by repeat (with_reducible first | exact blk_new _ _ | refine cr_fr ?_ (by omega) _ | refine blk_drewN ?_ _ | refine blk_alloc ?_ _)) hb; have hy := blk_below (g := w.heap.size + 1) (o := .cells #[.int .i64 0, .int .i64 0, .int .i64 0, .int .i64 0, .string (⟨#[]⟩ : ByteArray)] 50 (0, 0)) (by repeat (with_reducible first | refine cr_fr ?_ (by omega) _ | refine blk_drewN ?_ _ | exact cr_at (by simp) | refine blk_drewN ?_ _ | refine blk_alloc ?_ _)) hb; have hx := blk_below (g := w.heap.size + 1 + 1) (o := .cells #[.int .i64 2, .int .i64 x2, .int .i64 0, .int .i64 x3, .string (⟨#[]⟩ : ByteArray)] 50 (0, 0)) (by exact (blk_set (blk_drewN (blk_set (blk_drewN (cr_at (by simp)) _) 1 _) _) 3 _).trans rfl) hb; have HB2 : Aside0 (Below w.heap.size w w2) := ⟨below_step (by repeat (with_reducible first | exact Below.refl _ _ | apply below_alloc | apply pw_below_drewN | refine below_set ?_ (by omega))) hb⟩; have HZ := Aside0.mk hz; have y0 := (blk_cell hy 0).trans rfl; have x0_ := (blk_cell hx 0).trans rfl; have z0_ := (blk_cell hz 0).trans rfl; have y1 := (blk_cell hy 1).trans rfl; have x1_ := (blk_cell hx 1).trans rfl; have z1_ := (blk_cell hz 1).trans rfl; have y2 := (blk_cell hy 2).trans rfl; have x2_ := (blk_cell hx 2).trans rfl; have z2_ := (blk_cell hz 2).trans rfl; have y3 := (blk_cell hy 3).trans rfl; have x3_ := (blk_cell hx 3).trans rfl; have z3_ := (blk_cell hz 3).trans rfl; have y4 := (blk_cell hy 4).trans rfl; have x4_ := (blk_cell hx 4).trans rfl; have z4_ := (blk_cell hz 4).trans rfl; have hfz := fun (i_ : Nat) => blk_frozen hz i_; clear hb hz hy hx))
                    refine bodyPost_ret (results_ctt rfl _ _ w.heap.size 50 #[.int .i64 2, .int .i64 x2, .int .i64 0, .int .i64 x3, .string (⟨#[]⟩ : ByteArray)] (0, 0) _ rfl (by (with_reducible repeat (first | refine blk_drewN ?_ _ | refine blk_alloc ?_ _)); with_reducible refine cr_set5 ?_; repeat (with_reducible first | exact HZ.out | exact blk_new _ _ | refine cr_fr ?_ (by omega) _ | refine blk_drewN ?_ _ | refine blk_alloc ?_ _)) hu rfl (by kernel_rfl)) rfl ?_; exact ⟨by first | rfl | (simp; done) | (simp [*]; done), by repeat (with_reducible first | exact HB2.out | exact Below.refl _ _ | apply below_alloc | apply pw_below_drewN | refine below_set ?_ (by omega))⟩
            · rw [if_neg e2] at h
              have e2b : (x1 == 2) = false := beq_eq_false_iff_ne.mpr e2
              clear e2
              unfold crFin at h
              simp only [↓reduceIte] at h
              replace h := Option.bind_eq_some_iff.1 h; obtain ⟨o, hK, h⟩ := h
              have HK := Aside0.mk hK
              clear hK
              cases o
              · simp only [Bool.false_eq_true, ↓reduceIte, Option.some.injEq, Prod.mk.injEq] at h
                obtain ⟨rfl, rfl, rfl, rfl, rfl, rfl, rfl⟩ := h
                go_enter Try.func122, Try.ntmps122
                go_wp2_with (first | (go_at_call 121; with_reducible refine (spec_GetNum.calls k A0 c0 l0 a1 x1 p1 true _ (Kd.C_below HR.out (by repeat (with_reducible first | exact Below.refl _ _ | apply below_alloc | apply pw_below_drewN | refine below_set ?_ (by omega)))) HC.out HA1.out).mono ?_; rintro e w' ⟨rfl, ⟨nd1, rfl⟩⟩) | (go_at_call 121; with_reducible refine (spec_GetNum.calls k A0 c0 l0 p1 x2 p2 true _ (Kd.C_below HR.out (by repeat (with_reducible first | exact Below.refl _ _ | apply below_alloc | apply pw_below_drewN | refine below_set ?_ (by omega)))) HC.out HA2.out).mono ?_; rintro e w' ⟨rfl, ⟨nd2, rfl⟩⟩) | (go_at_call 73; with_reducible refine (spec_l1In.calls x1 1 5 true _ HO.out).mono ?_; rintro e w' ⟨rfl, ⟨nd0, rfl⟩⟩) | (go_at_call 147; with_reducible refine (spec_CmdOk.calls k _ _ _ _ _ _ _ HK.out).mono ?_; rintro e w2 ⟨rfl, hb⟩; have hz := blk_below (g := w.heap.size) (o := .cells #[.int .i64 0, .int .i64 0, .int .i64 0, .int .i64 0, .string (⟨#[]⟩ : ByteArray)] 50 (0, 0)) (by repeat (with_reducible first | exact blk_new _ _ | refine cr_fr ?_ (by omega) _ | refine blk_drewN ?_ _ | refine blk_alloc ?_ _)) hb; have hy := blk_below (g := w.heap.size + 1) (o := .cells #[.int .i64 0, .int .i64 0, .int .i64 0, .int .i64 0, .string (⟨#[]⟩ : ByteArray)] 50 (0, 0)) (by repeat (with_reducible first | refine cr_fr ?_ (by omega) _ | refine blk_drewN ?_ _ | exact cr_at (by simp) | refine blk_drewN ?_ _ | refine blk_alloc ?_ _)) hb; have hx := blk_below (g := w.heap.size + 1 + 1) (o := .cells #[.int .i64 x1, .int .i64 x2, .int .i64 0, .int .i64 0, .string (⟨#[]⟩ : ByteArray)] 50 (0, 0)) (by exact (blk_set (blk_drewN (cr_at (by simp)) _) 1 _).trans rfl) hb; have HB2 : Aside0 (Below w.heap.size w w2) := ⟨below_step (by repeat (with_reducible first | exact Below.refl _ _ | apply below_alloc | apply pw_below_drewN | refine below_set ?_ (by omega))) hb⟩; have HZ := Aside0.mk hz; have y0 := (blk_cell hy 0).trans rfl; have x0_ := (blk_cell hx 0).trans rfl; have z0_ := (blk_cell hz 0).trans rfl; have y1 := (blk_cell hy 1).trans rfl; have x1_ := (blk_cell hx 1).trans rfl; have z1_ := (blk_cell hz 1).trans rfl; have y2 := (blk_cell hy 2).trans rfl; have x2_ := (blk_cell hx 2).trans rfl; have z2_ := (blk_cell hz 2).trans rfl; have y3 := (blk_cell hy 3).trans rfl; have x3_ := (blk_cell hx 3).trans rfl; have z3_ := (blk_cell hz 3).trans rfl; have y4 := (blk_cell hy 4).trans rfl; have x4_ := (blk_cell hx 4).trans rfl; have z4_ := (blk_cell hz 4).trans rfl; have hfz := fun (i_ : Nat) => blk_frozen hz i_; clear hb hz hy hx))
                refine bodyPost_ret (results_ctt rfl _ _ w.heap.size 50 #[.int .i64 0, .int .i64 0, .int .i64 0, .int .i64 0, .string (⟨#[]⟩ : ByteArray)] (0, 0) _ rfl (by (with_reducible repeat (first | refine blk_drewN ?_ _ | refine blk_alloc ?_ _)); with_reducible refine cr_set5 ?_; repeat (with_reducible first | exact HZ.out | exact blk_new _ _ | refine cr_fr ?_ (by omega) _ | refine blk_drewN ?_ _ | refine blk_alloc ?_ _)) hu rfl (by kernel_rfl)) rfl ?_; exact ⟨by first | rfl | (simp; done) | (simp [*]; done), by repeat (with_reducible first | exact HB2.out | exact Below.refl _ _ | apply below_alloc | apply pw_below_drewN | refine below_set ?_ (by omega))⟩
              · simp only [↓reduceIte, Option.some.injEq, Prod.mk.injEq] at h
                obtain ⟨rfl, rfl, rfl, rfl, rfl, rfl, rfl⟩ := h
                go_enter Try.func122, Try.ntmps122
                go_wp2_with (first | (go_at_call 121; with_reducible refine (spec_GetNum.calls k A0 c0 l0 a1 x1 p1 true _ (Kd.C_below HR.out (by repeat (with_reducible first | exact Below.refl _ _ | apply below_alloc | apply pw_below_drewN | refine below_set ?_ (by omega)))) HC.out HA1.out).mono ?_; rintro e w' ⟨rfl, ⟨nd1, rfl⟩⟩) | (go_at_call 121; with_reducible refine (spec_GetNum.calls k A0 c0 l0 p1 x2 p2 true _ (Kd.C_below HR.out (by repeat (with_reducible first | exact Below.refl _ _ | apply below_alloc | apply pw_below_drewN | refine below_set ?_ (by omega)))) HC.out HA2.out).mono ?_; rintro e w' ⟨rfl, ⟨nd2, rfl⟩⟩) | (go_at_call 73; with_reducible refine (spec_l1In.calls x1 1 5 true _ HO.out).mono ?_; rintro e w' ⟨rfl, ⟨nd0, rfl⟩⟩) | (go_at_call 147; with_reducible refine (spec_CmdOk.calls k _ _ _ _ _ _ _ HK.out).mono ?_; rintro e w2 ⟨rfl, hb⟩; have hz := blk_below (g := w.heap.size) (o := .cells #[.int .i64 0, .int .i64 0, .int .i64 0, .int .i64 0, .string (⟨#[]⟩ : ByteArray)] 50 (0, 0)) (by repeat (with_reducible first | exact blk_new _ _ | refine cr_fr ?_ (by omega) _ | refine blk_drewN ?_ _ | refine blk_alloc ?_ _)) hb; have hy := blk_below (g := w.heap.size + 1) (o := .cells #[.int .i64 0, .int .i64 0, .int .i64 0, .int .i64 0, .string (⟨#[]⟩ : ByteArray)] 50 (0, 0)) (by repeat (with_reducible first | refine cr_fr ?_ (by omega) _ | refine blk_drewN ?_ _ | exact cr_at (by simp) | refine blk_drewN ?_ _ | refine blk_alloc ?_ _)) hb; have hx := blk_below (g := w.heap.size + 1 + 1) (o := .cells #[.int .i64 x1, .int .i64 x2, .int .i64 0, .int .i64 0, .string (⟨#[]⟩ : ByteArray)] 50 (0, 0)) (by exact (blk_set (blk_drewN (cr_at (by simp)) _) 1 _).trans rfl) hb; have HB2 : Aside0 (Below w.heap.size w w2) := ⟨below_step (by repeat (with_reducible first | exact Below.refl _ _ | apply below_alloc | apply pw_below_drewN | refine below_set ?_ (by omega))) hb⟩; have HZ := Aside0.mk hz; have y0 := (blk_cell hy 0).trans rfl; have x0_ := (blk_cell hx 0).trans rfl; have z0_ := (blk_cell hz 0).trans rfl; have y1 := (blk_cell hy 1).trans rfl; have x1_ := (blk_cell hx 1).trans rfl; have z1_ := (blk_cell hz 1).trans rfl; have y2 := (blk_cell hy 2).trans rfl; have x2_ := (blk_cell hx 2).trans rfl; have z2_ := (blk_cell hz 2).trans rfl; have y3 := (blk_cell hy 3).trans rfl; have x3_ := (blk_cell hx 3).trans rfl; have z3_ := (blk_cell hz 3).trans rfl; have y4 := (blk_cell hy 4).trans rfl; have x4_ := (blk_cell hx 4).trans rfl; have z4_ := (blk_cell hz 4).trans rfl; have hfz := fun (i_ : Nat) => blk_frozen hz i_; clear hb hz hy hx))
                refine bodyPost_ret (results_ctt rfl _ _ w.heap.size 50 #[.int .i64 x1, .int .i64 x2, .int .i64 0, .int .i64 0, .string (⟨#[]⟩ : ByteArray)] (0, 0) _ rfl (by (with_reducible repeat (first | refine blk_drewN ?_ _ | refine blk_alloc ?_ _)); with_reducible refine cr_set5 ?_; repeat (with_reducible first | exact HZ.out | exact blk_new _ _ | refine cr_fr ?_ (by omega) _ | refine blk_drewN ?_ _ | refine blk_alloc ?_ _)) hu rfl (by kernel_rfl)) rfl ?_; exact ⟨by first | rfl | (simp; done) | (simp [*]; done), by repeat (with_reducible first | exact HB2.out | exact Below.refl _ _ | apply below_alloc | apply pw_below_drewN | refine below_set ?_ (by omega))⟩


/-! ### spec_RecRead: function 53 -/
def srEnd (k : Nat) (l : List Int) (x0 : Int) (x1 : Int) (x2 : Int) (x3 : Int) (x4 : Int) (x5 : Int) (x6 : Int) (x7 : Int) (x8 : Int) (x9 : ByteArray) (p : Int) (ok fine : Bool) : Option (Int × Int × Int × Int × Int × Int × Int × Int × Int × ByteArray × Bool) :=
  if ok = true then (if fine = true then (if p = (l.length : Int) then (spec_RecOk.f k x0 x1 x2 x3 x4 x5 x6 x7 x8 x9).bind fun o => if o = true then some (x0, x1, x2, x3, x4, x5, x6, x7, x8, x9, true) else some (0, 0, 0, 0, 0, 0, 0, 0, 0, (⟨#[]⟩ : ByteArray), false) else some (0, 0, 0, 0, 0, 0, 0, 0, 0, (⟨#[]⟩ : ByteArray), false)) else some (0, 0, 0, 0, 0, 0, 0, 0, 0, (⟨#[]⟩ : ByteArray), false)) else some (0, 0, 0, 0, 0, 0, 0, 0, 0, (⟨#[]⟩ : ByteArray), false)
def srAt (k : Nat) (l : List Int) : Option (Int × Int × Int × Int × Int × Int × Int × Int × Int × ByteArray × Bool) :=
  (spec_GetNum.f k l 0).bind fun a => if a.1 = 1 then (spec_GetNum.f k l a.2.1).bind fun b => if b.2.2 = true then (spec_GetNum.f k l b.2.1).bind fun c => srEnd k l 1 b.1 c.1 0 0 0 0 0 0 (⟨#[]⟩ : ByteArray) c.2.1 c.2.2 true else some (0, 0, 0, 0, 0, 0, 0, 0, 0, (⟨#[]⟩ : ByteArray), false)
    else if a.1 = 2 then (spec_GetNum.f k l a.2.1).bind fun b => if b.2.2 = true then (spec_GetNum.f k l b.2.1).bind fun c => if c.2.2 = true then (spec_CmdRead.f k l c.2.1).bind fun d => srEnd k l 2 0 0 b.1 c.1 d.1 d.2.1 d.2.2.1 d.2.2.2.1 d.2.2.2.2.1 d.2.2.2.2.2.1 true d.2.2.2.2.2.2 else some (0, 0, 0, 0, 0, 0, 0, 0, 0, (⟨#[]⟩ : ByteArray), false) else some (0, 0, 0, 0, 0, 0, 0, 0, 0, (⟨#[]⟩ : ByteArray), false)
    else if a.1 = 3 then (spec_GetNum.f k l a.2.1).bind fun b => srEnd k l 3 0 0 b.1 0 0 0 0 0 (⟨#[]⟩ : ByteArray) b.2.1 b.2.2 true
    else srEnd k l a.1 0 0 0 0 0 0 0 0 (⟨#[]⟩ : ByteArray) a.2.1 a.2.2 true
def spec_RecRead.f (k : Nat) (a0 : ByteArray) : Option (Int × Int × Int × Int × Int × Int × Int × Int × Int × ByteArray × Bool) := if a0.size ≤ 9223372036854775807 then (if ((bytesOf a0).length : Int) > 3000 then some (0, 0, 0, 0, 0, 0, 0, 0, 0, (⟨#[]⟩ : ByteArray), false) else srAt k (bytesOf a0)) else none
theorem srEnd.mono (k : Nat) (l : List Int) (x0 : Int) (x1 : Int) (x2 : Int) (x3 : Int) (x4 : Int) (x5 : Int) (x6 : Int) (x7 : Int) (x8 : Int) (x9 : ByteArray) (p : Int) (ok fine : Bool) : LeO (srEnd k l x0 x1 x2 x3 x4 x5 x6 x7 x8 x9 p ok fine) (srEnd (k + 1) l x0 x1 x2 x3 x4 x5 x6 x7 x8 x9 p ok fine) := by
  unfold srEnd
  repeat' first
  | exact spec_RecOk.mono _ _ _ _ _ _ _ _ _ _ _
  | exact LeO.refl _
  | refine LeO.ite ?_ ?_
  | refine LeO.bind ?_ (fun _ => ?_)
theorem spec_RecRead.mono : ∀ a0 k, LeO (spec_RecRead.f k a0) (spec_RecRead.f (k + 1) a0) := by
  intro a0 k
  unfold spec_RecRead.f srAt
  repeat' first
  | exact spec_GetNum.mono _ _ _
  | exact spec_CmdRead.mono _ _ _
  | exact srEnd.mono _ _ _ _ _ _ _ _ _ _ _ _ _ _ _
  | exact LeO.refl _
  | refine LeO.ite ?_ ?_
  | refine LeO.bind ?_ (fun _ => ?_)
theorem sr_set10 {w : World} {b : Nat} {T : TypeId} {v0 v1 v2 v3 v4 v5 v6 v7 v8 v9 : Value} (h : w.heap[b]? = some (.cells #[.int .i64 0, .int .i64 0, .int .i64 0, .int .i64 0, .int .i64 0, .int .i64 0, .int .i64 0, .int .i64 0, .int .i64 0, .string (⟨#[]⟩ : ByteArray)] T (0, 0))) :
    ((((((((((w.setCell ⟨b, 0, none⟩ v0).setCell ⟨b, 1, none⟩ v1).setCell ⟨b, 2, none⟩ v2).setCell ⟨b, 3, none⟩ v3).setCell ⟨b, 4, none⟩ v4).setCell ⟨b, 5, none⟩ v5).setCell ⟨b, 6, none⟩ v6).setCell ⟨b, 7, none⟩ v7).setCell ⟨b, 8, none⟩ v8).setCell ⟨b, 9, none⟩ v9).heap[b]? = some (.cells #[v0, v1, v2, v3, v4, v5, v6, v7, v8, v9] T (0, 0)) := by
  refine Eq.trans (blk_set (blk_set (blk_set (blk_set (blk_set (blk_set (blk_set (blk_set (blk_set (blk_set (h) 0 v0) 1 v1) 2 v2) 3 v3) 4 v4) 5 v5) 6 v6) 7 v7) 8 v8) 9 v9) ?_
  simp only [List.setIfInBounds_toArray, List.set_cons_zero, List.set_cons_succ]
theorem sr_cells {w : World} {b : Nat} {T : TypeId} {v0 v1 v2 v3 v4 v5 v6 v7 v8 v9 : Value} (h : w.heap[b]? = some (.cells #[v0, v1, v2, v3, v4, v5, v6, v7, v8, v9] T (0, 0))) :
    w.cell? ⟨b, 0, none⟩ = some v0 ∧ w.cell? ⟨b, 1, none⟩ = some v1 ∧ w.cell? ⟨b, 2, none⟩ = some v2 ∧ w.cell? ⟨b, 3, none⟩ = some v3 ∧ w.cell? ⟨b, 4, none⟩ = some v4 ∧ w.cell? ⟨b, 5, none⟩ = some v5 ∧ w.cell? ⟨b, 6, none⟩ = some v6 ∧ w.cell? ⟨b, 7, none⟩ = some v7 ∧ w.cell? ⟨b, 8, none⟩ = some v8 ∧ w.cell? ⟨b, 9, none⟩ = some v9 ∧ ∀ i : Nat, w.frozen? ⟨b, i, none⟩ = false := ⟨(blk_cell h 0).trans rfl, (blk_cell h 1).trans rfl, (blk_cell h 2).trans rfl, (blk_cell h 3).trans rfl, (blk_cell h 4).trans rfl, (blk_cell h 5).trans rfl, (blk_cell h 6).trans rfl, (blk_cell h 7).trans rfl, (blk_cell h 8).trans rfl, (blk_cell h 9).trans rfl, fun i => blk_frozen h i⟩
set_option maxHeartbeats 16000000 in
set_option maxRecDepth 100000 in
theorem spec_RecRead.calls (k : Nat) (a0 : ByteArray) (r1 : Int) (r2 : Int) (r3 : Int) (r4 : Int) (r5 : Int) (r6 : Int) (r7 : Int) (r8 : Int) (r9 : Int) (r10 : ByteArray) (r11 : Bool) (w : World) (h : spec_RecRead.f k a0 = some (r1, r2, r3, r4, r5, r6, r7, r8, r9, r10, r11)) :
    Calls Try.prog 53 #[.string a0] w fun e w' => e = .returned (.tuple #[.agg #[.int .i64 r1, .int .i64 r2, .int .i64 r3, .int .i64 r4, .int .i64 r5, .int .i64 r6, .int .i64 r7, .int .i64 r8, .int .i64 r9, .string r10], .bool r11]) ∧ Below w.heap.size w w' := by
  have hu := Try.underlying54
  unfold spec_RecRead.f at h
  split at h
  case isFalse => exact absurd h (by simp)
  rename_i hsz
  have HSZ := Aside0.mk hsz
  clear hsz
  by_cases el : ((bytesOf a0).length : Int) > 3000
  · rw [if_pos el] at h
    have elb : decide (3000 < ((bytesOf a0).length : Int)) = true := decide_eq_true el
    clear el
    simp only [Bool.false_eq_true, ↓reduceIte, Option.some.injEq, Prod.mk.injEq] at h
    obtain ⟨rfl, rfl, rfl, rfl, rfl, rfl, rfl, rfl, rfl, rfl, rfl⟩ := h
    go_enter Try.func53, Try.ntmps53
    go_wp2_with (first | ((with_reducible refine gate_dst (N := 11) rfl ?_); refine Kd.V_conv (w0 := w) w.heap.size 5 rfl (N := 11) rfl 9 34 _ rfl a0 rfl Try.underlying9 Try.underlying34 Try.underlying5 HSZ.out (ok := fun k_ => w.heap.size + 1 ≤ k_) (by simp) (below_alloc (Below.refl _ _) _) (by simp) ?_; intro v1 w1 hv hb hg hn; obtain ⟨A, c, rfl, hle, hF⟩ := hv; have HC := Aside0.mk (Kd.F_now hF); have HLE := Aside0.mk hle; have hz : w1.heap[w.heap.size]? = some (.cells #[.int .i64 0, .int .i64 0, .int .i64 0, .int .i64 0, .int .i64 0, .int .i64 0, .int .i64 0, .int .i64 0, .int .i64 0, .string (⟨#[]⟩ : ByteArray)] 54 (0, 0)) := blk_grown (blk_new _ _) hg (by simp); have HZ0 := Aside0.mk hz; have HB0 := Aside0.mk hb; have GL := Aside0.mk (blk_lt hz); have hn1 : ¬ w.heap.size = w1.heap.size := Nat.ne_of_lt (blk_lt hz); have hn2 : ¬ w1.heap.size = w.heap.size := Nat.ne_of_gt (blk_lt hz); have hn3 : w.heap.size < w1.heap.size := blk_lt hz; obtain ⟨z0_0, z0_1, z0_2, z0_3, z0_4, z0_5, z0_6, z0_7, z0_8, z0_9, z0_10⟩ := sr_cells hz; clear hb hg hn hz hF hle))
    refine bodyPost_ret (results_ct rfl _ _ w.heap.size 54 #[.int .i64 0, .int .i64 0, .int .i64 0, .int .i64 0, .int .i64 0, .int .i64 0, .int .i64 0, .int .i64 0, .int .i64 0, .string (⟨#[]⟩ : ByteArray)] (0, 0) _ rfl (by (with_reducible repeat (first | refine blk_drewN ?_ _ | refine blk_alloc ?_ _)); with_reducible refine sr_set10 ?_; repeat (with_reducible first | exact HZ0.out | refine cr_fr ?_ (by have := GL.out; omega) _ | refine blk_drewN ?_ _ | refine blk_alloc ?_ _)) hu rfl (by kernel_rfl)) rfl ?_; exact ⟨by first | rfl | (simp; done) | (simp [*]; done), by repeat (with_reducible first | exact HB0.out | apply below_alloc | apply pw_below_drewN | refine below_set ?_ (by first | exact Nat.le_refl _ | exact Nat.le_of_lt GL.out))⟩
  rw [if_neg el] at h
  have elb : decide (3000 < ((bytesOf a0).length : Int)) = false := decide_eq_false el
  clear el
  unfold srAt at h
  replace h := Option.bind_eq_some_iff.1 h; obtain ⟨⟨y1, p1, b1⟩, hA, h⟩ := h
  simp only at h
  have HA1 := Aside0.mk hA
  clear hA
  by_cases e1 : y1 = 1
  · subst e1
    simp only [↓reduceIte] at h
    replace h := Option.bind_eq_some_iff.1 h; obtain ⟨⟨y2, p2, b2⟩, hA, h⟩ := h
    simp only at h
    have HA2 := Aside0.mk hA
    clear hA
    cases b2
    · skip
      simp only [Bool.false_eq_true, ↓reduceIte, Option.some.injEq, Prod.mk.injEq] at h
      obtain ⟨rfl, rfl, rfl, rfl, rfl, rfl, rfl, rfl, rfl, rfl, rfl⟩ := h
      go_enter Try.func53, Try.ntmps53
      go_wp2_with (first | ((with_reducible refine gate_dst (N := 11) rfl ?_); refine Kd.V_conv (w0 := w) w.heap.size 5 rfl (N := 11) rfl 9 34 _ rfl a0 rfl Try.underlying9 Try.underlying34 Try.underlying5 HSZ.out (ok := fun k_ => w.heap.size + 1 ≤ k_) (by simp) (below_alloc (Below.refl _ _) _) (by simp) ?_; intro v1 w1 hv hb hg hn; obtain ⟨A, c, rfl, hle, hF⟩ := hv; have HC := Aside0.mk (Kd.F_now hF); have HLE := Aside0.mk hle; have hz : w1.heap[w.heap.size]? = some (.cells #[.int .i64 0, .int .i64 0, .int .i64 0, .int .i64 0, .int .i64 0, .int .i64 0, .int .i64 0, .int .i64 0, .int .i64 0, .string (⟨#[]⟩ : ByteArray)] 54 (0, 0)) := blk_grown (blk_new _ _) hg (by simp); have HZ0 := Aside0.mk hz; have HB0 := Aside0.mk hb; have GL := Aside0.mk (blk_lt hz); have hn1 : ¬ w.heap.size = w1.heap.size := Nat.ne_of_lt (blk_lt hz); have hn2 : ¬ w1.heap.size = w.heap.size := Nat.ne_of_gt (blk_lt hz); have hn3 : w.heap.size < w1.heap.size := blk_lt hz; obtain ⟨z0_0, z0_1, z0_2, z0_3, z0_4, z0_5, z0_6, z0_7, z0_8, z0_9, z0_10⟩ := sr_cells hz; clear hb hg hn hz hF hle) | (go_at_call 121; with_reducible refine (spec_GetNum.calls k A c (bytesOf a0) 0 1 p1 b1 _ HC.out HLE.out HA1.out).mono ?_; rintro e w2 ⟨rfl, hd⟩; have hb := hd.below; have HC2 := Aside0.mk (Kd.C_below HC.out hb); have hz := blk_below HZ0.out hb; have HZ1 := Aside0.mk hz; have HB1 : Aside0 (Below w.heap.size w w2) := ⟨below_step HB0.out hb⟩; have GL := Aside0.mk (blk_lt hz); have hm1 : ¬ w.heap.size = w2.heap.size := Nat.ne_of_lt (blk_lt hz); have hm2 : ¬ w2.heap.size = w.heap.size := Nat.ne_of_gt (blk_lt hz); have hm3 : w.heap.size < w2.heap.size := blk_lt hz; obtain ⟨z1_0, z1_1, z1_2, z1_3, z1_4, z1_5, z1_6, z1_7, z1_8, z1_9, z1_10⟩ := sr_cells hz; clear hb hd hz) | (go_at_call 121; with_reducible refine (spec_GetNum.calls k A c (bytesOf a0) p1 y2 p2 false _ (Kd.C_below HC2.out (by repeat (with_reducible first | exact Below.refl _ _ | apply below_alloc | apply pw_below_drewN | refine below_set ?_ (Nat.le_refl _)))) HLE.out HA2.out).mono ?_; rintro e w' ⟨rfl, ⟨nd2, rfl⟩⟩))
      refine bodyPost_ret (results_ct rfl _ _ w.heap.size 54 #[.int .i64 0, .int .i64 0, .int .i64 0, .int .i64 0, .int .i64 0, .int .i64 0, .int .i64 0, .int .i64 0, .int .i64 0, .string (⟨#[]⟩ : ByteArray)] (0, 0) _ rfl (by (with_reducible repeat (first | refine blk_drewN ?_ _ | refine blk_alloc ?_ _)); with_reducible refine sr_set10 ?_; repeat (with_reducible first | exact HZ1.out | refine cr_fr ?_ (by have := GL.out; omega) _ | refine blk_drewN ?_ _ | refine blk_alloc ?_ _)) hu rfl (by kernel_rfl)) rfl ?_; exact ⟨by first | rfl | (simp; done) | (simp [*]; done), by repeat (with_reducible first | exact HB1.out | apply below_alloc | apply pw_below_drewN | refine below_set ?_ (by first | exact Nat.le_refl _ | exact Nat.le_of_lt GL.out))⟩
    · simp only [↓reduceIte] at h
      replace h := Option.bind_eq_some_iff.1 h; obtain ⟨⟨y3, p3, b3⟩, hA, h⟩ := h
      simp only at h
      have HA3 := Aside0.mk hA
      clear hA
      unfold srEnd at h
      cases b3
      · simp only [Bool.false_eq_true, ↓reduceIte, Option.some.injEq, Prod.mk.injEq] at h
        obtain ⟨rfl, rfl, rfl, rfl, rfl, rfl, rfl, rfl, rfl, rfl, rfl⟩ := h
        go_enter Try.func53, Try.ntmps53
        go_wp2_with (first | ((with_reducible refine gate_dst (N := 11) rfl ?_); refine Kd.V_conv (w0 := w) w.heap.size 5 rfl (N := 11) rfl 9 34 _ rfl a0 rfl Try.underlying9 Try.underlying34 Try.underlying5 HSZ.out (ok := fun k_ => w.heap.size + 1 ≤ k_) (by simp) (below_alloc (Below.refl _ _) _) (by simp) ?_; intro v1 w1 hv hb hg hn; obtain ⟨A, c, rfl, hle, hF⟩ := hv; have HC := Aside0.mk (Kd.F_now hF); have HLE := Aside0.mk hle; have hz : w1.heap[w.heap.size]? = some (.cells #[.int .i64 0, .int .i64 0, .int .i64 0, .int .i64 0, .int .i64 0, .int .i64 0, .int .i64 0, .int .i64 0, .int .i64 0, .string (⟨#[]⟩ : ByteArray)] 54 (0, 0)) := blk_grown (blk_new _ _) hg (by simp); have HZ0 := Aside0.mk hz; have HB0 := Aside0.mk hb; have GL := Aside0.mk (blk_lt hz); have hn1 : ¬ w.heap.size = w1.heap.size := Nat.ne_of_lt (blk_lt hz); have hn2 : ¬ w1.heap.size = w.heap.size := Nat.ne_of_gt (blk_lt hz); have hn3 : w.heap.size < w1.heap.size := blk_lt hz; obtain ⟨z0_0, z0_1, z0_2, z0_3, z0_4, z0_5, z0_6, z0_7, z0_8, z0_9, z0_10⟩ := sr_cells hz; clear hb hg hn hz hF hle) | (go_at_call 121; with_reducible refine (spec_GetNum.calls k A c (bytesOf a0) 0 1 p1 b1 _ HC.out HLE.out HA1.out).mono ?_; rintro e w2 ⟨rfl, hd⟩; have hb := hd.below; have HC2 := Aside0.mk (Kd.C_below HC.out hb); have hz := blk_below HZ0.out hb; have HZ1 := Aside0.mk hz; have HB1 : Aside0 (Below w.heap.size w w2) := ⟨below_step HB0.out hb⟩; have GL := Aside0.mk (blk_lt hz); have hm1 : ¬ w.heap.size = w2.heap.size := Nat.ne_of_lt (blk_lt hz); have hm2 : ¬ w2.heap.size = w.heap.size := Nat.ne_of_gt (blk_lt hz); have hm3 : w.heap.size < w2.heap.size := blk_lt hz; obtain ⟨z1_0, z1_1, z1_2, z1_3, z1_4, z1_5, z1_6, z1_7, z1_8, z1_9, z1_10⟩ := sr_cells hz; clear hb hd hz) | (go_at_call 121; with_reducible refine (spec_GetNum.calls k A c (bytesOf a0) p1 y2 p2 true _ (Kd.C_below HC2.out (by repeat (with_reducible first | exact Below.refl _ _ | apply below_alloc | apply pw_below_drewN | refine below_set ?_ (Nat.le_refl _)))) HLE.out HA2.out).mono ?_; rintro e w' ⟨rfl, ⟨nd2, rfl⟩⟩) | (go_at_call 121; with_reducible refine (spec_GetNum.calls k A c (bytesOf a0) p2 y3 p3 false _ (Kd.C_below HC2.out (by repeat (with_reducible first | exact Below.refl _ _ | apply below_alloc | apply pw_below_drewN | refine below_set ?_ (Nat.le_refl _)))) HLE.out HA3.out).mono ?_; rintro e w' ⟨rfl, ⟨nd3, rfl⟩⟩))
        refine bodyPost_ret (results_ct rfl _ _ w.heap.size 54 #[.int .i64 0, .int .i64 0, .int .i64 0, .int .i64 0, .int .i64 0, .int .i64 0, .int .i64 0, .int .i64 0, .int .i64 0, .string (⟨#[]⟩ : ByteArray)] (0, 0) _ rfl (by (with_reducible repeat (first | refine blk_drewN ?_ _ | refine blk_alloc ?_ _)); with_reducible refine sr_set10 ?_; repeat (with_reducible first | exact HZ1.out | refine cr_fr ?_ (by have := GL.out; omega) _ | refine blk_drewN ?_ _ | refine blk_alloc ?_ _)) hu rfl (by kernel_rfl)) rfl ?_; exact ⟨by first | rfl | (simp; done) | (simp [*]; done), by repeat (with_reducible first | exact HB1.out | apply below_alloc | apply pw_below_drewN | refine below_set ?_ (by first | exact Nat.le_refl _ | exact Nat.le_of_lt GL.out))⟩
      · simp only [↓reduceIte] at h
        by_cases ep : p3 = ((bytesOf a0).length : Int)
        · rw [if_pos ep] at h
          have ep1 : (p3 != ((bytesOf a0).length : Int)) = false := by rw [ep]; exact bne_self_eq_false _
          clear ep
          replace h := Option.bind_eq_some_iff.1 h; obtain ⟨o, hK, h⟩ := h
          have HOK := Aside0.mk hK
          clear hK
          cases o
          · simp only [Bool.false_eq_true, ↓reduceIte, Option.some.injEq, Prod.mk.injEq] at h
            obtain ⟨rfl, rfl, rfl, rfl, rfl, rfl, rfl, rfl, rfl, rfl, rfl⟩ := h
            go_enter Try.func53, Try.ntmps53
            go_wp2_with (first | ((with_reducible refine gate_dst (N := 11) rfl ?_); refine Kd.V_conv (w0 := w) w.heap.size 5 rfl (N := 11) rfl 9 34 _ rfl a0 rfl Try.underlying9 Try.underlying34 Try.underlying5 HSZ.out (ok := fun k_ => w.heap.size + 1 ≤ k_) (by simp) (below_alloc (Below.refl _ _) _) (by simp) ?_; intro v1 w1 hv hb hg hn; obtain ⟨A, c, rfl, hle, hF⟩ := hv; have HC := Aside0.mk (Kd.F_now hF); have HLE := Aside0.mk hle; have hz : w1.heap[w.heap.size]? = some (.cells #[.int .i64 0, .int .i64 0, .int .i64 0, .int .i64 0, .int .i64 0, .int .i64 0, .int .i64 0, .int .i64 0, .int .i64 0, .string (⟨#[]⟩ : ByteArray)] 54 (0, 0)) := blk_grown (blk_new _ _) hg (by simp); have HZ0 := Aside0.mk hz; have HB0 := Aside0.mk hb; have GL := Aside0.mk (blk_lt hz); have hn1 : ¬ w.heap.size = w1.heap.size := Nat.ne_of_lt (blk_lt hz); have hn2 : ¬ w1.heap.size = w.heap.size := Nat.ne_of_gt (blk_lt hz); have hn3 : w.heap.size < w1.heap.size := blk_lt hz; obtain ⟨z0_0, z0_1, z0_2, z0_3, z0_4, z0_5, z0_6, z0_7, z0_8, z0_9, z0_10⟩ := sr_cells hz; clear hb hg hn hz hF hle) | (go_at_call 121; with_reducible refine (spec_GetNum.calls k A c (bytesOf a0) 0 1 p1 b1 _ HC.out HLE.out HA1.out).mono ?_; rintro e w2 ⟨rfl, hd⟩; have hb := hd.below; have HC2 := Aside0.mk (Kd.C_below HC.out hb); have hz := blk_below HZ0.out hb; have HZ1 := Aside0.mk hz; have HB1 : Aside0 (Below w.heap.size w w2) := ⟨below_step HB0.out hb⟩; have GL := Aside0.mk (blk_lt hz); have hm1 : ¬ w.heap.size = w2.heap.size := Nat.ne_of_lt (blk_lt hz); have hm2 : ¬ w2.heap.size = w.heap.size := Nat.ne_of_gt (blk_lt hz); have hm3 : w.heap.size < w2.heap.size := blk_lt hz; obtain ⟨z1_0, z1_1, z1_2, z1_3, z1_4, z1_5, z1_6, z1_7, z1_8, z1_9, z1_10⟩ := sr_cells hz; clear hb hd hz) | (go_at_call 121; with_reducible refine (spec_GetNum.calls k A c (bytesOf a0) p1 y2 p2 true _ (Kd.C_below HC2.out (by repeat (with_reducible first | exact Below.refl _ _ | apply below_alloc | apply pw_below_drewN | refine below_set ?_ (Nat.le_refl _)))) HLE.out HA2.out).mono ?_; rintro e w' ⟨rfl, ⟨nd2, rfl⟩⟩) | (go_at_call 121; with_reducible refine (spec_GetNum.calls k A c (bytesOf a0) p2 y3 p3 true _ (Kd.C_below HC2.out (by repeat (with_reducible first | exact Below.refl _ _ | apply below_alloc | apply pw_below_drewN | refine below_set ?_ (Nat.le_refl _)))) HLE.out HA3.out).mono ?_; rintro e w' ⟨rfl, ⟨nd3, rfl⟩⟩) | (go_at_call 96; with_reducible refine (spec_RecOk.calls k _ _ _ _ _ _ _ _ _ _ _ _ HOK.out).mono ?_; rintro e uo ⟨rfl, hb⟩; have hz := blk_below (g := w.heap.size) (o := .cells #[.int .i64 0, .int .i64 0, .int .i64 0, .int .i64 0, .int .i64 0, .int .i64 0, .int .i64 0, .int .i64 0, .int .i64 0, .string (⟨#[]⟩ : ByteArray)] 54 (0, 0)) (by repeat (with_reducible first | exact HZ1.out | refine cr_fr ?_ (by have := GL.out; omega) _ | refine blk_drewN ?_ _ | refine blk_alloc ?_ _)) hb; have hx := blk_below (g := w2.heap.size) (o := .cells #[.int .i64 1, .int .i64 y2, .int .i64 y3, .int .i64 0, .int .i64 0, .int .i64 0, .int .i64 0, .int .i64 0, .int .i64 0, .string (⟨#[]⟩ : ByteArray)] 54 (0, 0)) (by refine Eq.trans (blk_set (blk_drewN (blk_set (blk_drewN (blk_new _ _) _) 1 _) _) 2 _) ?_; simp only [List.setIfInBounds_toArray, List.set_cons_zero, List.set_cons_succ]) hb; obtain ⟨xo_0, xo_1, xo_2, xo_3, xo_4, xo_5, xo_6, xo_7, xo_8, xo_9, xo_10⟩ := sr_cells hx; obtain ⟨zo_0, zo_1, zo_2, zo_3, zo_4, zo_5, zo_6, zo_7, zo_8, zo_9, zo_10⟩ := sr_cells hz; have HZo := Aside0.mk hz; have HBo : Aside0 (Below w.heap.size w uo) := ⟨below_step (by repeat (with_reducible first | exact HB1.out | apply below_alloc | apply pw_below_drewN | refine below_set ?_ (by first | exact Nat.le_refl _ | exact Nat.le_of_lt GL.out))) hb⟩; clear hb hz hx))
            refine bodyPost_ret (results_ct rfl _ _ w.heap.size 54 #[.int .i64 0, .int .i64 0, .int .i64 0, .int .i64 0, .int .i64 0, .int .i64 0, .int .i64 0, .int .i64 0, .int .i64 0, .string (⟨#[]⟩ : ByteArray)] (0, 0) _ rfl (by (with_reducible repeat (first | refine blk_drewN ?_ _ | refine blk_alloc ?_ _)); with_reducible refine sr_set10 ?_; repeat (with_reducible first | exact HZo.out | refine cr_fr ?_ (by have := GL.out; omega) _ | refine blk_drewN ?_ _ | refine blk_alloc ?_ _)) hu rfl (by kernel_rfl)) rfl ?_; exact ⟨by first | rfl | (simp; done) | (simp [*]; done), by repeat (with_reducible first | exact HBo.out | apply below_alloc | apply pw_below_drewN | refine below_set ?_ (by first | exact Nat.le_refl _ | exact Nat.le_of_lt GL.out))⟩
          · simp only [Bool.false_eq_true, ↓reduceIte, Option.some.injEq, Prod.mk.injEq] at h
            obtain ⟨rfl, rfl, rfl, rfl, rfl, rfl, rfl, rfl, rfl, rfl, rfl⟩ := h
            go_enter Try.func53, Try.ntmps53
            go_wp2_with (first | ((with_reducible refine gate_dst (N := 11) rfl ?_); refine Kd.V_conv (w0 := w) w.heap.size 5 rfl (N := 11) rfl 9 34 _ rfl a0 rfl Try.underlying9 Try.underlying34 Try.underlying5 HSZ.out (ok := fun k_ => w.heap.size + 1 ≤ k_) (by simp) (below_alloc (Below.refl _ _) _) (by simp) ?_; intro v1 w1 hv hb hg hn; obtain ⟨A, c, rfl, hle, hF⟩ := hv; have HC := Aside0.mk (Kd.F_now hF); have HLE := Aside0.mk hle; have hz : w1.heap[w.heap.size]? = some (.cells #[.int .i64 0, .int .i64 0, .int .i64 0, .int .i64 0, .int .i64 0, .int .i64 0, .int .i64 0, .int .i64 0, .int .i64 0, .string (⟨#[]⟩ : ByteArray)] 54 (0, 0)) := blk_grown (blk_new _ _) hg (by simp); have HZ0 := Aside0.mk hz; have HB0 := Aside0.mk hb; have GL := Aside0.mk (blk_lt hz); have hn1 : ¬ w.heap.size = w1.heap.size := Nat.ne_of_lt (blk_lt hz); have hn2 : ¬ w1.heap.size = w.heap.size := Nat.ne_of_gt (blk_lt hz); have hn3 : w.heap.size < w1.heap.size := blk_lt hz; obtain ⟨z0_0, z0_1, z0_2, z0_3, z0_4, z0_5, z0_6, z0_7, z0_8, z0_9, z0_10⟩ := sr_cells hz; clear hb hg hn hz hF hle) | (go_at_call 121; with_reducible refine (spec_GetNum.calls k A c (bytesOf a0) 0 1 p1 b1 _ HC.out HLE.out HA1.out).mono ?_; rintro e w2 ⟨rfl, hd⟩; have hb := hd.below; have HC2 := Aside0.mk (Kd.C_below HC.out hb); have hz := blk_below HZ0.out hb; have HZ1 := Aside0.mk hz; have HB1 : Aside0 (Below w.heap.size w w2) := ⟨below_step HB0.out hb⟩; have GL := Aside0.mk (blk_lt hz); have hm1 : ¬ w.heap.size = w2.heap.size := Nat.ne_of_lt (blk_lt hz); have hm2 : ¬ w2.heap.size = w.heap.size := Nat.ne_of_gt (blk_lt hz); have hm3 : w.heap.size < w2.heap.size := blk_lt hz; obtain ⟨z1_0, z1_1, z1_2, z1_3, z1_4, z1_5, z1_6, z1_7, z1_8, z1_9, z1_10⟩ := sr_cells hz; clear hb hd hz) | (go_at_call 121; with_reducible refine (spec_GetNum.calls k A c (bytesOf a0) p1 y2 p2 true _ (Kd.C_below HC2.out (by repeat (with_reducible first | exact Below.refl _ _ | apply below_alloc | apply pw_below_drewN | refine below_set ?_ (Nat.le_refl _)))) HLE.out HA2.out).mono ?_; rintro e w' ⟨rfl, ⟨nd2, rfl⟩⟩) | (go_at_call 121; with_reducible refine (spec_GetNum.calls k A c (bytesOf a0) p2 y3 p3 true _ (Kd.C_below HC2.out (by repeat (with_reducible first | exact Below.refl _ _ | apply below_alloc | apply pw_below_drewN | refine below_set ?_ (Nat.le_refl _)))) HLE.out HA3.out).mono ?_; rintro e w' ⟨rfl, ⟨nd3, rfl⟩⟩) | (go_at_call 96; with_reducible refine (spec_RecOk.calls k _ _ _ _ _ _ _ _ _ _ _ _ HOK.out).mono ?_; rintro e uo ⟨rfl, hb⟩; have hz := blk_below (g := w.heap.size) (o := .cells #[.int .i64 0, .int .i64 0, .int .i64 0, .int .i64 0, .int .i64 0, .int .i64 0, .int .i64 0, .int .i64 0, .int .i64 0, .string (⟨#[]⟩ : ByteArray)] 54 (0, 0)) (by repeat (with_reducible first | exact HZ1.out | refine cr_fr ?_ (by have := GL.out; omega) _ | refine blk_drewN ?_ _ | refine blk_alloc ?_ _)) hb; have hx := blk_below (g := w2.heap.size) (o := .cells #[.int .i64 1, .int .i64 y2, .int .i64 y3, .int .i64 0, .int .i64 0, .int .i64 0, .int .i64 0, .int .i64 0, .int .i64 0, .string (⟨#[]⟩ : ByteArray)] 54 (0, 0)) (by refine Eq.trans (blk_set (blk_drewN (blk_set (blk_drewN (blk_new _ _) _) 1 _) _) 2 _) ?_; simp only [List.setIfInBounds_toArray, List.set_cons_zero, List.set_cons_succ]) hb; obtain ⟨xo_0, xo_1, xo_2, xo_3, xo_4, xo_5, xo_6, xo_7, xo_8, xo_9, xo_10⟩ := sr_cells hx; obtain ⟨zo_0, zo_1, zo_2, zo_3, zo_4, zo_5, zo_6, zo_7, zo_8, zo_9, zo_10⟩ := sr_cells hz; have HZo := Aside0.mk hz; have HBo : Aside0 (Below w.heap.size w uo) := ⟨below_step (by repeat (with_reducible first | exact HB1.out | apply below_alloc | apply pw_below_drewN | refine below_set ?_ (by first | exact Nat.le_refl _ | exact Nat.le_of_lt GL.out))) hb⟩; clear hb hz hx))
            refine bodyPost_ret (results_ct rfl _ _ w.heap.size 54 #[.int .i64 1, .int .i64 y2, .int .i64 y3, .int .i64 0, .int .i64 0, .int .i64 0, .int .i64 0, .int .i64 0, .int .i64 0, .string (⟨#[]⟩ : ByteArray)] (0, 0) _ rfl (by (with_reducible repeat (first | refine blk_drewN ?_ _ | refine blk_alloc ?_ _)); with_reducible refine sr_set10 ?_; repeat (with_reducible first | exact HZo.out | refine cr_fr ?_ (by have := GL.out; omega) _ | refine blk_drewN ?_ _ | refine blk_alloc ?_ _)) hu rfl (by kernel_rfl)) rfl ?_; exact ⟨by first | rfl | (simp; done) | (simp [*]; done), by repeat (with_reducible first | exact HBo.out | apply below_alloc | apply pw_below_drewN | refine below_set ?_ (by first | exact Nat.le_refl _ | exact Nat.le_of_lt GL.out))⟩
        · rw [if_neg ep] at h
          have ep1 : (p3 != ((bytesOf a0).length : Int)) = true := bne_iff_ne.mpr ep
          clear ep
          simp only [Bool.false_eq_true, ↓reduceIte, Option.some.injEq, Prod.mk.injEq] at h
          obtain ⟨rfl, rfl, rfl, rfl, rfl, rfl, rfl, rfl, rfl, rfl, rfl⟩ := h
          go_enter Try.func53, Try.ntmps53
          go_wp2_with (first | ((with_reducible refine gate_dst (N := 11) rfl ?_); refine Kd.V_conv (w0 := w) w.heap.size 5 rfl (N := 11) rfl 9 34 _ rfl a0 rfl Try.underlying9 Try.underlying34 Try.underlying5 HSZ.out (ok := fun k_ => w.heap.size + 1 ≤ k_) (by simp) (below_alloc (Below.refl _ _) _) (by simp) ?_; intro v1 w1 hv hb hg hn; obtain ⟨A, c, rfl, hle, hF⟩ := hv; have HC := Aside0.mk (Kd.F_now hF); have HLE := Aside0.mk hle; have hz : w1.heap[w.heap.size]? = some (.cells #[.int .i64 0, .int .i64 0, .int .i64 0, .int .i64 0, .int .i64 0, .int .i64 0, .int .i64 0, .int .i64 0, .int .i64 0, .string (⟨#[]⟩ : ByteArray)] 54 (0, 0)) := blk_grown (blk_new _ _) hg (by simp); have HZ0 := Aside0.mk hz; have HB0 := Aside0.mk hb; have GL := Aside0.mk (blk_lt hz); have hn1 : ¬ w.heap.size = w1.heap.size := Nat.ne_of_lt (blk_lt hz); have hn2 : ¬ w1.heap.size = w.heap.size := Nat.ne_of_gt (blk_lt hz); have hn3 : w.heap.size < w1.heap.size := blk_lt hz; obtain ⟨z0_0, z0_1, z0_2, z0_3, z0_4, z0_5, z0_6, z0_7, z0_8, z0_9, z0_10⟩ := sr_cells hz; clear hb hg hn hz hF hle) | (go_at_call 121; with_reducible refine (spec_GetNum.calls k A c (bytesOf a0) 0 1 p1 b1 _ HC.out HLE.out HA1.out).mono ?_; rintro e w2 ⟨rfl, hd⟩; have hb := hd.below; have HC2 := Aside0.mk (Kd.C_below HC.out hb); have hz := blk_below HZ0.out hb; have HZ1 := Aside0.mk hz; have HB1 : Aside0 (Below w.heap.size w w2) := ⟨below_step HB0.out hb⟩; have GL := Aside0.mk (blk_lt hz); have hm1 : ¬ w.heap.size = w2.heap.size := Nat.ne_of_lt (blk_lt hz); have hm2 : ¬ w2.heap.size = w.heap.size := Nat.ne_of_gt (blk_lt hz); have hm3 : w.heap.size < w2.heap.size := blk_lt hz; obtain ⟨z1_0, z1_1, z1_2, z1_3, z1_4, z1_5, z1_6, z1_7, z1_8, z1_9, z1_10⟩ := sr_cells hz; clear hb hd hz) | (go_at_call 121; with_reducible refine (spec_GetNum.calls k A c (bytesOf a0) p1 y2 p2 true _ (Kd.C_below HC2.out (by repeat (with_reducible first | exact Below.refl _ _ | apply below_alloc | apply pw_below_drewN | refine below_set ?_ (Nat.le_refl _)))) HLE.out HA2.out).mono ?_; rintro e w' ⟨rfl, ⟨nd2, rfl⟩⟩) | (go_at_call 121; with_reducible refine (spec_GetNum.calls k A c (bytesOf a0) p2 y3 p3 true _ (Kd.C_below HC2.out (by repeat (with_reducible first | exact Below.refl _ _ | apply below_alloc | apply pw_below_drewN | refine below_set ?_ (Nat.le_refl _)))) HLE.out HA3.out).mono ?_; rintro e w' ⟨rfl, ⟨nd3, rfl⟩⟩))
          refine bodyPost_ret (results_ct rfl _ _ w.heap.size 54 #[.int .i64 0, .int .i64 0, .int .i64 0, .int .i64 0, .int .i64 0, .int .i64 0, .int .i64 0, .int .i64 0, .int .i64 0, .string (⟨#[]⟩ : ByteArray)] (0, 0) _ rfl (by (with_reducible repeat (first | refine blk_drewN ?_ _ | refine blk_alloc ?_ _)); with_reducible refine sr_set10 ?_; repeat (with_reducible first | exact HZ1.out | refine cr_fr ?_ (by have := GL.out; omega) _ | refine blk_drewN ?_ _ | refine blk_alloc ?_ _)) hu rfl (by kernel_rfl)) rfl ?_; exact ⟨by first | rfl | (simp; done) | (simp [*]; done), by repeat (with_reducible first | exact HB1.out | apply below_alloc | apply pw_below_drewN | refine below_set ?_ (by first | exact Nat.le_refl _ | exact Nat.le_of_lt GL.out))⟩
  · rw [if_neg e1] at h
    have e1b : (y1 == 1) = false := beq_eq_false_iff_ne.mpr e1
    clear e1
    by_cases e2 : y1 = 2
    · subst e2
      simp only [↓reduceIte] at h
      replace h := Option.bind_eq_some_iff.1 h; obtain ⟨⟨y2, p2, b2⟩, hA, h⟩ := h
      simp only at h
      have HA2 := Aside0.mk hA
      clear hA
      cases b2
      · skip
        simp only [Bool.false_eq_true, ↓reduceIte, Option.some.injEq, Prod.mk.injEq] at h
        obtain ⟨rfl, rfl, rfl, rfl, rfl, rfl, rfl, rfl, rfl, rfl, rfl⟩ := h
        go_enter Try.func53, Try.ntmps53
        go_wp2_with (first | ((with_reducible refine gate_dst (N := 11) rfl ?_); refine Kd.V_conv (w0 := w) w.heap.size 5 rfl (N := 11) rfl 9 34 _ rfl a0 rfl Try.underlying9 Try.underlying34 Try.underlying5 HSZ.out (ok := fun k_ => w.heap.size + 1 ≤ k_) (by simp) (below_alloc (Below.refl _ _) _) (by simp) ?_; intro v1 w1 hv hb hg hn; obtain ⟨A, c, rfl, hle, hF⟩ := hv; have HC := Aside0.mk (Kd.F_now hF); have HLE := Aside0.mk hle; have hz : w1.heap[w.heap.size]? = some (.cells #[.int .i64 0, .int .i64 0, .int .i64 0, .int .i64 0, .int .i64 0, .int .i64 0, .int .i64 0, .int .i64 0, .int .i64 0, .string (⟨#[]⟩ : ByteArray)] 54 (0, 0)) := blk_grown (blk_new _ _) hg (by simp); have HZ0 := Aside0.mk hz; have HB0 := Aside0.mk hb; have GL := Aside0.mk (blk_lt hz); have hn1 : ¬ w.heap.size = w1.heap.size := Nat.ne_of_lt (blk_lt hz); have hn2 : ¬ w1.heap.size = w.heap.size := Nat.ne_of_gt (blk_lt hz); have hn3 : w.heap.size < w1.heap.size := blk_lt hz; obtain ⟨z0_0, z0_1, z0_2, z0_3, z0_4, z0_5, z0_6, z0_7, z0_8, z0_9, z0_10⟩ := sr_cells hz; clear hb hg hn hz hF hle) | (go_at_call 121; with_reducible refine (spec_GetNum.calls k A c (bytesOf a0) 0 2 p1 b1 _ HC.out HLE.out HA1.out).mono ?_; rintro e w2 ⟨rfl, hd⟩; have hb := hd.below; have HC2 := Aside0.mk (Kd.C_below HC.out hb); have hz := blk_below HZ0.out hb; have HZ1 := Aside0.mk hz; have HB1 : Aside0 (Below w.heap.size w w2) := ⟨below_step HB0.out hb⟩; have GL := Aside0.mk (blk_lt hz); have hm1 : ¬ w.heap.size = w2.heap.size := Nat.ne_of_lt (blk_lt hz); have hm2 : ¬ w2.heap.size = w.heap.size := Nat.ne_of_gt (blk_lt hz); have hm3 : w.heap.size < w2.heap.size := blk_lt hz; obtain ⟨z1_0, z1_1, z1_2, z1_3, z1_4, z1_5, z1_6, z1_7, z1_8, z1_9, z1_10⟩ := sr_cells hz; clear hb hd hz) | (go_at_call 121; with_reducible refine (spec_GetNum.calls k A c (bytesOf a0) p1 y2 p2 false _ (Kd.C_below HC2.out (by repeat (with_reducible first | exact Below.refl _ _ | apply below_alloc | apply pw_below_drewN | refine below_set ?_ (Nat.le_refl _)))) HLE.out HA2.out).mono ?_; rintro e w' ⟨rfl, ⟨nd2, rfl⟩⟩))
        refine bodyPost_ret (results_ct rfl _ _ w.heap.size 54 #[.int .i64 0, .int .i64 0, .int .i64 0, .int .i64 0, .int .i64 0, .int .i64 0, .int .i64 0, .int .i64 0, .int .i64 0, .string (⟨#[]⟩ : ByteArray)] (0, 0) _ rfl (by (with_reducible repeat (first | refine blk_drewN ?_ _ | refine blk_alloc ?_ _)); with_reducible refine sr_set10 ?_; repeat (with_reducible first | exact HZ1.out | refine cr_fr ?_ (by have := GL.out; omega) _ | refine blk_drewN ?_ _ | refine blk_alloc ?_ _)) hu rfl (by kernel_rfl)) rfl ?_; exact ⟨by first | rfl | (simp; done) | (simp [*]; done), by repeat (with_reducible first | exact HB1.out | apply below_alloc | apply pw_below_drewN | refine below_set ?_ (by first | exact Nat.le_refl _ | exact Nat.le_of_lt GL.out))⟩
      · simp only [↓reduceIte] at h
        replace h := Option.bind_eq_some_iff.1 h; obtain ⟨⟨y3, p3, b3⟩, hA, h⟩ := h
        simp only at h
        have HA3 := Aside0.mk hA
        clear hA
        cases b3
        · skip
          simp only [Bool.false_eq_true, ↓reduceIte, Option.some.injEq, Prod.mk.injEq] at h
          obtain ⟨rfl, rfl, rfl, rfl, rfl, rfl, rfl, rfl, rfl, rfl, rfl⟩ := h
          go_enter Try.func53, Try.ntmps53
          go_wp2_with (first | ((with_reducible refine gate_dst (N := 11) rfl ?_); refine Kd.V_conv (w0 := w) w.heap.size 5 rfl (N := 11) rfl 9 34 _ rfl a0 rfl Try.underlying9 Try.underlying34 Try.underlying5 HSZ.out (ok := fun k_ => w.heap.size + 1 ≤ k_) (by simp) (below_alloc (Below.refl _ _) _) (by simp) ?_; intro v1 w1 hv hb hg hn; obtain ⟨A, c, rfl, hle, hF⟩ := hv; have HC := Aside0.mk (Kd.F_now hF); have HLE := Aside0.mk hle; have hz : w1.heap[w.heap.size]? = some (.cells #[.int .i64 0, .int .i64 0, .int .i64 0, .int .i64 0, .int .i64 0, .int .i64 0, .int .i64 0, .int .i64 0, .int .i64 0, .string (⟨#[]⟩ : ByteArray)] 54 (0, 0)) := blk_grown (blk_new _ _) hg (by simp); have HZ0 := Aside0.mk hz; have HB0 := Aside0.mk hb; have GL := Aside0.mk (blk_lt hz); have hn1 : ¬ w.heap.size = w1.heap.size := Nat.ne_of_lt (blk_lt hz); have hn2 : ¬ w1.heap.size = w.heap.size := Nat.ne_of_gt (blk_lt hz); have hn3 : w.heap.size < w1.heap.size := blk_lt hz; obtain ⟨z0_0, z0_1, z0_2, z0_3, z0_4, z0_5, z0_6, z0_7, z0_8, z0_9, z0_10⟩ := sr_cells hz; clear hb hg hn hz hF hle) | (go_at_call 121; with_reducible refine (spec_GetNum.calls k A c (bytesOf a0) 0 2 p1 b1 _ HC.out HLE.out HA1.out).mono ?_; rintro e w2 ⟨rfl, hd⟩; have hb := hd.below; have HC2 := Aside0.mk (Kd.C_below HC.out hb); have hz := blk_below HZ0.out hb; have HZ1 := Aside0.mk hz; have HB1 : Aside0 (Below w.heap.size w w2) := ⟨below_step HB0.out hb⟩; have GL := Aside0.mk (blk_lt hz); have hm1 : ¬ w.heap.size = w2.heap.size := Nat.ne_of_lt (blk_lt hz); have hm2 : ¬ w2.heap.size = w.heap.size := Nat.ne_of_gt (blk_lt hz); have hm3 : w.heap.size < w2.heap.size := blk_lt hz; obtain ⟨z1_0, z1_1, z1_2, z1_3, z1_4, z1_5, z1_6, z1_7, z1_8, z1_9, z1_10⟩ := sr_cells hz; clear hb hd hz) | (go_at_call 121; with_reducible refine (spec_GetNum.calls k A c (bytesOf a0) p1 y2 p2 true _ (Kd.C_below HC2.out (by repeat (with_reducible first | exact Below.refl _ _ | apply below_alloc | apply pw_below_drewN | refine below_set ?_ (Nat.le_refl _)))) HLE.out HA2.out).mono ?_; rintro e w' ⟨rfl, ⟨nd2, rfl⟩⟩) | (go_at_call 121; with_reducible refine (spec_GetNum.calls k A c (bytesOf a0) p2 y3 p3 false _ (Kd.C_below HC2.out (by repeat (with_reducible first | exact Below.refl _ _ | apply below_alloc | apply pw_below_drewN | refine below_set ?_ (Nat.le_refl _)))) HLE.out HA3.out).mono ?_; rintro e w' ⟨rfl, ⟨nd3, rfl⟩⟩))
          refine bodyPost_ret (results_ct rfl _ _ w.heap.size 54 #[.int .i64 0, .int .i64 0, .int .i64 0, .int .i64 0, .int .i64 0, .int .i64 0, .int .i64 0, .int .i64 0, .int .i64 0, .string (⟨#[]⟩ : ByteArray)] (0, 0) _ rfl (by (with_reducible repeat (first | refine blk_drewN ?_ _ | refine blk_alloc ?_ _)); with_reducible refine sr_set10 ?_; repeat (with_reducible first | exact HZ1.out | refine cr_fr ?_ (by have := GL.out; omega) _ | refine blk_drewN ?_ _ | refine blk_alloc ?_ _)) hu rfl (by kernel_rfl)) rfl ?_; exact ⟨by first | rfl | (simp; done) | (simp [*]; done), by repeat (with_reducible first | exact HB1.out | apply below_alloc | apply pw_below_drewN | refine below_set ?_ (by first | exact Nat.le_refl _ | exact Nat.le_of_lt GL.out))⟩
        · simp only [↓reduceIte] at h
          replace h := Option.bind_eq_some_iff.1 h; obtain ⟨⟨d1, d2, d3, d4, d5, p4, b4⟩, hA, h⟩ := h
          simp only at h
          have HA4 := Aside0.mk hA
          clear hA
          unfold srEnd at h
          simp only [↓reduceIte] at h
          cases b4
          · simp only [Bool.false_eq_true, ↓reduceIte, Option.some.injEq, Prod.mk.injEq] at h
            obtain ⟨rfl, rfl, rfl, rfl, rfl, rfl, rfl, rfl, rfl, rfl, rfl⟩ := h
            go_enter Try.func53, Try.ntmps53
            go_wp2_with (first | ((with_reducible refine gate_dst (N := 11) rfl ?_); refine Kd.V_conv (w0 := w) w.heap.size 5 rfl (N := 11) rfl 9 34 _ rfl a0 rfl Try.underlying9 Try.underlying34 Try.underlying5 HSZ.out (ok := fun k_ => w.heap.size + 1 ≤ k_) (by simp) (below_alloc (Below.refl _ _) _) (by simp) ?_; intro v1 w1 hv hb hg hn; obtain ⟨A, c, rfl, hle, hF⟩ := hv; have HC := Aside0.mk (Kd.F_now hF); have HLE := Aside0.mk hle; have hz : w1.heap[w.heap.size]? = some (.cells #[.int .i64 0, .int .i64 0, .int .i64 0, .int .i64 0, .int .i64 0, .int .i64 0, .int .i64 0, .int .i64 0, .int .i64 0, .string (⟨#[]⟩ : ByteArray)] 54 (0, 0)) := blk_grown (blk_new _ _) hg (by simp); have HZ0 := Aside0.mk hz; have HB0 := Aside0.mk hb; have GL := Aside0.mk (blk_lt hz); have hn1 : ¬ w.heap.size = w1.heap.size := Nat.ne_of_lt (blk_lt hz); have hn2 : ¬ w1.heap.size = w.heap.size := Nat.ne_of_gt (blk_lt hz); have hn3 : w.heap.size < w1.heap.size := blk_lt hz; obtain ⟨z0_0, z0_1, z0_2, z0_3, z0_4, z0_5, z0_6, z0_7, z0_8, z0_9, z0_10⟩ := sr_cells hz; clear hb hg hn hz hF hle) | (go_at_call 121; with_reducible refine (spec_GetNum.calls k A c (bytesOf a0) 0 2 p1 b1 _ HC.out HLE.out HA1.out).mono ?_; rintro e w2 ⟨rfl, hd⟩; have hb := hd.below; have HC2 := Aside0.mk (Kd.C_below HC.out hb); have hz := blk_below HZ0.out hb; have HZ1 := Aside0.mk hz; have HB1 : Aside0 (Below w.heap.size w w2) := ⟨below_step HB0.out hb⟩; have GL := Aside0.mk (blk_lt hz); have hm1 : ¬ w.heap.size = w2.heap.size := Nat.ne_of_lt (blk_lt hz); have hm2 : ¬ w2.heap.size = w.heap.size := Nat.ne_of_gt (blk_lt hz); have hm3 : w.heap.size < w2.heap.size := blk_lt hz; obtain ⟨z1_0, z1_1, z1_2, z1_3, z1_4, z1_5, z1_6, z1_7, z1_8, z1_9, z1_10⟩ := sr_cells hz; clear hb hd hz) | (go_at_call 121; with_reducible refine (spec_GetNum.calls k A c (bytesOf a0) p1 y2 p2 true _ (Kd.C_below HC2.out (by repeat (with_reducible first | exact Below.refl _ _ | apply below_alloc | apply pw_below_drewN | refine below_set ?_ (Nat.le_refl _)))) HLE.out HA2.out).mono ?_; rintro e w' ⟨rfl, ⟨nd2, rfl⟩⟩) | (go_at_call 121; with_reducible refine (spec_GetNum.calls k A c (bytesOf a0) p2 y3 p3 true _ (Kd.C_below HC2.out (by repeat (with_reducible first | exact Below.refl _ _ | apply below_alloc | apply pw_below_drewN | refine below_set ?_ (Nat.le_refl _)))) HLE.out HA3.out).mono ?_; rintro e w' ⟨rfl, ⟨nd3, rfl⟩⟩) | (go_at_call 122; with_reducible refine (spec_CmdRead.calls k A c (bytesOf a0) p3 d1 d2 d3 d4 d5 p4 false _ (Kd.C_below HC2.out (by repeat (with_reducible first | exact Below.refl _ _ | apply below_alloc | apply pw_below_drewN | refine below_set ?_ (Nat.le_refl _)))) HLE.out HA4.out).mono ?_; rintro e uc ⟨rfl, hb⟩; have hz := blk_below (g := w.heap.size) (o := .cells #[.int .i64 0, .int .i64 0, .int .i64 0, .int .i64 0, .int .i64 0, .int .i64 0, .int .i64 0, .int .i64 0, .int .i64 0, .string (⟨#[]⟩ : ByteArray)] 54 (0, 0)) (by repeat (with_reducible first | exact HZ1.out | refine cr_fr ?_ (by have := GL.out; omega) _ | refine blk_drewN ?_ _ | refine blk_alloc ?_ _)) hb; have hx := blk_below (g := w2.heap.size) (o := .cells #[.int .i64 2, .int .i64 0, .int .i64 0, .int .i64 y2, .int .i64 y3, .int .i64 0, .int .i64 0, .int .i64 0, .int .i64 0, .string (⟨#[]⟩ : ByteArray)] 54 (0, 0)) (by refine Eq.trans (blk_set (blk_drewN (blk_set (blk_drewN (blk_new _ _) _) 3 _) _) 4 _) ?_; simp only [List.setIfInBounds_toArray, List.set_cons_zero, List.set_cons_succ]) hb; obtain ⟨xc_0, xc_1, xc_2, xc_3, xc_4, xc_5, xc_6, xc_7, xc_8, xc_9, xc_10⟩ := sr_cells hx; obtain ⟨zc_0, zc_1, zc_2, zc_3, zc_4, zc_5, zc_6, zc_7, zc_8, zc_9, zc_10⟩ := sr_cells hz; have HZc := Aside0.mk hz; have HXc := Aside0.mk hx; have HBc : Aside0 (Below w.heap.size w uc) := ⟨below_step (by repeat (with_reducible first | exact HB1.out | apply below_alloc | apply pw_below_drewN | refine below_set ?_ (by first | exact Nat.le_refl _ | exact Nat.le_of_lt GL.out))) hb⟩; clear hb hz hx))
            refine bodyPost_ret (results_ct rfl _ _ w.heap.size 54 #[.int .i64 0, .int .i64 0, .int .i64 0, .int .i64 0, .int .i64 0, .int .i64 0, .int .i64 0, .int .i64 0, .int .i64 0, .string (⟨#[]⟩ : ByteArray)] (0, 0) _ rfl (by (with_reducible repeat (first | refine blk_drewN ?_ _ | refine blk_alloc ?_ _)); with_reducible refine sr_set10 ?_; repeat (with_reducible first | exact HZc.out | refine cr_fr ?_ (by have := GL.out; omega) _ | refine blk_drewN ?_ _ | refine blk_alloc ?_ _)) hu rfl (by kernel_rfl)) rfl ?_; exact ⟨by first | rfl | (simp; done) | (simp [*]; done), by repeat (with_reducible first | exact HBc.out | apply below_alloc | apply pw_below_drewN | refine below_set ?_ (by first | exact Nat.le_refl _ | exact Nat.le_of_lt GL.out))⟩
          · simp only [↓reduceIte] at h
            by_cases ep : p4 = ((bytesOf a0).length : Int)
            · rw [if_pos ep] at h
              have ep1 : (p4 != ((bytesOf a0).length : Int)) = false := by rw [ep]; exact bne_self_eq_false _
              clear ep
              replace h := Option.bind_eq_some_iff.1 h; obtain ⟨o, hK, h⟩ := h
              have HOK := Aside0.mk hK
              clear hK
              cases o
              · simp only [Bool.false_eq_true, ↓reduceIte, Option.some.injEq, Prod.mk.injEq] at h
                obtain ⟨rfl, rfl, rfl, rfl, rfl, rfl, rfl, rfl, rfl, rfl, rfl⟩ := h
                go_enter Try.func53, Try.ntmps53
                go_wp2_with (first | ((with_reducible refine gate_dst (N := 11) rfl ?_); refine Kd.V_conv (w0 := w) w.heap.size 5 rfl (N := 11) rfl 9 34 _ rfl a0 rfl Try.underlying9 Try.underlying34 Try.underlying5 HSZ.out (ok := fun k_ => w.heap.size + 1 ≤ k_) (by simp) (below_alloc (Below.refl _ _) _) (by simp) ?_; intro v1 w1 hv hb hg hn; obtain ⟨A, c, rfl, hle, hF⟩ := hv; have HC := Aside0.mk (Kd.F_now hF); have HLE := Aside0.mk hle; have hz : w1.heap[w.heap.size]? = some (.cells #[.int .i64 0, .int .i64 0, .int .i64 0, .int .i64 0, .int .i64 0, .int .i64 0, .int .i64 0, .int .i64 0, .int .i64 0, .string (⟨#[]⟩ : ByteArray)] 54 (0, 0)) := blk_grown (blk_new _ _) hg (by simp); have HZ0 := Aside0.mk hz; have HB0 := Aside0.mk hb; have GL := Aside0.mk (blk_lt hz); have hn1 : ¬ w.heap.size = w1.heap.size := Nat.ne_of_lt (blk_lt hz); have hn2 : ¬ w1.heap.size = w.heap.size := Nat.ne_of_gt (blk_lt hz); have hn3 : w.heap.size < w1.heap.size := blk_lt hz; obtain ⟨z0_0, z0_1, z0_2, z0_3, z0_4, z0_5, z0_6, z0_7, z0_8, z0_9, z0_10⟩ := sr_cells hz; clear hb hg hn hz hF hle) | (go_at_call 121; with_reducible refine (spec_GetNum.calls k A c (bytesOf a0) 0 2 p1 b1 _ HC.out HLE.out HA1.out).mono ?_; rintro e w2 ⟨rfl, hd⟩; have hb := hd.below; have HC2 := Aside0.mk (Kd.C_below HC.out hb); have hz := blk_below HZ0.out hb; have HZ1 := Aside0.mk hz; have HB1 : Aside0 (Below w.heap.size w w2) := ⟨below_step HB0.out hb⟩; have GL := Aside0.mk (blk_lt hz); have hm1 : ¬ w.heap.size = w2.heap.size := Nat.ne_of_lt (blk_lt hz); have hm2 : ¬ w2.heap.size = w.heap.size := Nat.ne_of_gt (blk_lt hz); have hm3 : w.heap.size < w2.heap.size := blk_lt hz; obtain ⟨z1_0, z1_1, z1_2, z1_3, z1_4, z1_5, z1_6, z1_7, z1_8, z1_9, z1_10⟩ := sr_cells hz; clear hb hd hz) | (go_at_call 121; with_reducible refine (spec_GetNum.calls k A c (bytesOf a0) p1 y2 p2 true _ (Kd.C_below HC2.out (by repeat (with_reducible first | exact Below.refl _ _ | apply below_alloc | apply pw_below_drewN | refine below_set ?_ (Nat.le_refl _)))) HLE.out HA2.out).mono ?_; rintro e w' ⟨rfl, ⟨nd2, rfl⟩⟩) | (go_at_call 121; with_reducible refine (spec_GetNum.calls k A c (bytesOf a0) p2 y3 p3 true _ (Kd.C_below HC2.out (by repeat (with_reducible first | exact Below.refl _ _ | apply below_alloc | apply pw_below_drewN | refine below_set ?_ (Nat.le_refl _)))) HLE.out HA3.out).mono ?_; rintro e w' ⟨rfl, ⟨nd3, rfl⟩⟩) | (go_at_call 122; with_reducible refine (spec_CmdRead.calls k A c (bytesOf a0) p3 d1 d2 d3 d4 d5 p4 true _ (Kd.C_below HC2.out (by repeat (with_reducible first | exact Below.refl _ _ | apply below_alloc | apply pw_below_drewN | refine below_set ?_ (Nat.le_refl _)))) HLE.out HA4.out).mono ?_; rintro e uc ⟨rfl, hb⟩; have hz := blk_below (g := w.heap.size) (o := .cells #[.int .i64 0, .int .i64 0, .int .i64 0, .int .i64 0, .int .i64 0, .int .i64 0, .int .i64 0, .int .i64 0, .int .i64 0, .string (⟨#[]⟩ : ByteArray)] 54 (0, 0)) (by repeat (with_reducible first | exact HZ1.out | refine cr_fr ?_ (by have := GL.out; omega) _ | refine blk_drewN ?_ _ | refine blk_alloc ?_ _)) hb; have hx := blk_below (g := w2.heap.size) (o := .cells #[.int .i64 2, .int .i64 0, .int .i64 0, .int .i64 y2, .int .i64 y3, .int .i64 0, .int .i64 0, .int .i64 0, .int .i64 0, .string (⟨#[]⟩ : ByteArray)] 54 (0, 0)) (by refine Eq.trans (blk_set (blk_drewN (blk_set (blk_drewN (blk_new _ _) _) 3 _) _) 4 _) ?_; simp only [List.setIfInBounds_toArray, List.set_cons_zero, List.set_cons_succ]) hb; obtain ⟨xc_0, xc_1, xc_2, xc_3, xc_4, xc_5, xc_6, xc_7, xc_8, xc_9, xc_10⟩ := sr_cells hx; obtain ⟨zc_0, zc_1, zc_2, zc_3, zc_4, zc_5, zc_6, zc_7, zc_8, zc_9, zc_10⟩ := sr_cells hz; have HZc := Aside0.mk hz; have HXc := Aside0.mk hx; have HBc : Aside0 (Below w.heap.size w uc) := ⟨below_step (by repeat (with_reducible first | exact HB1.out | apply below_alloc | apply pw_below_drewN | refine below_set ?_ (by first | exact Nat.le_refl _ | exact Nat.le_of_lt GL.out))) hb⟩; clear hb hz hx) | (go_at_call 96; with_reducible refine (spec_RecOk.calls k _ _ _ _ _ _ _ _ _ _ _ _ HOK.out).mono ?_; rintro e uo ⟨rfl, hb⟩; have hz := blk_below (g := w.heap.size) (o := .cells #[.int .i64 0, .int .i64 0, .int .i64 0, .int .i64 0, .int .i64 0, .int .i64 0, .int .i64 0, .int .i64 0, .int .i64 0, .string (⟨#[]⟩ : ByteArray)] 54 (0, 0)) (by repeat (with_reducible first | exact HZc.out | refine cr_fr ?_ (by have := GL.out; omega) _ | refine blk_drewN ?_ _ | refine blk_alloc ?_ _)) hb; have hx := blk_below (g := w2.heap.size) (o := .cells #[.int .i64 2, .int .i64 0, .int .i64 0, .int .i64 y2, .int .i64 y3, .int .i64 d1, .int .i64 d2, .int .i64 d3, .int .i64 d4, .string d5] 54 (0, 0)) (by refine Eq.trans (blk_set (blk_set (blk_set (blk_set (blk_set (HXc.out) 5 _) 6 _) 7 _) 8 _) 9 _) ?_; simp only [List.setIfInBounds_toArray, List.set_cons_zero, List.set_cons_succ]) hb; obtain ⟨xo_0, xo_1, xo_2, xo_3, xo_4, xo_5, xo_6, xo_7, xo_8, xo_9, xo_10⟩ := sr_cells hx; obtain ⟨zo_0, zo_1, zo_2, zo_3, zo_4, zo_5, zo_6, zo_7, zo_8, zo_9, zo_10⟩ := sr_cells hz; have HZo := Aside0.mk hz; have HBo : Aside0 (Below w.heap.size w uo) := ⟨below_step (by repeat (with_reducible first | exact HBc.out | apply below_alloc | apply pw_below_drewN | refine below_set ?_ (by first | exact Nat.le_refl _ | exact Nat.le_of_lt GL.out))) hb⟩; clear hb hz hx))
                refine bodyPost_ret (results_ct rfl _ _ w.heap.size 54 #[.int .i64 0, .int .i64 0, .int .i64 0, .int .i64 0, .int .i64 0, .int .i64 0, .int .i64 0, .int .i64 0, .int .i64 0, .string (⟨#[]⟩ : ByteArray)] (0, 0) _ rfl (by (with_reducible repeat (first | refine blk_drewN ?_ _ | refine blk_alloc ?_ _)); with_reducible refine sr_set10 ?_; repeat (with_reducible first | exact HZo.out | refine cr_fr ?_ (by have := GL.out; omega) _ | refine blk_drewN ?_ _ | refine blk_alloc ?_ _)) hu rfl (by kernel_rfl)) rfl ?_; exact ⟨by first | rfl | (simp; done) | (simp [*]; done), by repeat (with_reducible first | exact HBo.out | apply below_alloc | apply pw_below_drewN | refine below_set ?_ (by first | exact Nat.le_refl _ | exact Nat.le_of_lt GL.out))⟩
              · simp only [Bool.false_eq_true, ↓reduceIte, Option.some.injEq, Prod.mk.injEq] at h
                obtain ⟨rfl, rfl, rfl, rfl, rfl, rfl, rfl, rfl, rfl, rfl, rfl⟩ := h
                go_enter Try.func53, Try.ntmps53
                go_wp2_with (first | ((with_reducible refine gate_dst (N := 11) rfl ?_); refine Kd.V_conv (w0 := w) w.heap.size 5 rfl (N := 11) rfl 9 34 _ rfl a0 rfl Try.underlying9 Try.underlying34 Try.underlying5 HSZ.out (ok := fun k_ => w.heap.size + 1 ≤ k_) (by simp) (below_alloc (Below.refl _ _) _) (by simp) ?_; intro v1 w1 hv hb hg hn; obtain ⟨A, c, rfl, hle, hF⟩ := hv; have HC := Aside0.mk (Kd.F_now hF); have HLE := Aside0.mk hle; have hz : w1.heap[w.heap.size]? = some (.cells #[.int .i64 0, .int .i64 0, .int .i64 0, .int .i64 0, .int .i64 0, .int .i64 0, .int .i64 0, .int .i64 0, .int .i64 0, .string (⟨#[]⟩ : ByteArray)] 54 (0, 0)) := blk_grown (blk_new _ _) hg (by simp); have HZ0 := Aside0.mk hz; have HB0 := Aside0.mk hb; have GL := Aside0.mk (blk_lt hz); have hn1 : ¬ w.heap.size = w1.heap.size := Nat.ne_of_lt (blk_lt hz); have hn2 : ¬ w1.heap.size = w.heap.size := Nat.ne_of_gt (blk_lt hz); have hn3 : w.heap.size < w1.heap.size := blk_lt hz; obtain ⟨z0_0, z0_1, z0_2, z0_3, z0_4, z0_5, z0_6, z0_7, z0_8, z0_9, z0_10⟩ := sr_cells hz; clear hb hg hn hz hF hle) | (go_at_call 121; with_reducible refine (spec_GetNum.calls k A c (bytesOf a0) 0 2 p1 b1 _ HC.out HLE.out HA1.out).mono ?_; rintro e w2 ⟨rfl, hd⟩; have hb := hd.below; have HC2 := Aside0.mk (Kd.C_below HC.out hb); have hz := blk_below HZ0.out hb; have HZ1 := Aside0.mk hz; have HB1 : Aside0 (Below w.heap.size w w2) := ⟨below_step HB0.out hb⟩; have GL := Aside0.mk (blk_lt hz); have hm1 : ¬ w.heap.size = w2.heap.size := Nat.ne_of_lt (blk_lt hz); have hm2 : ¬ w2.heap.size = w.heap.size := Nat.ne_of_gt (blk_lt hz); have hm3 : w.heap.size < w2.heap.size := blk_lt hz; obtain ⟨z1_0, z1_1, z1_2, z1_3, z1_4, z1_5, z1_6, z1_7, z1_8, z1_9, z1_10⟩ := sr_cells hz; clear hb hd hz) | (go_at_call 121; with_reducible refine (spec_GetNum.calls k A c (bytesOf a0) p1 y2 p2 true _ (Kd.C_below HC2.out (by repeat (with_reducible first | exact Below.refl _ _ | apply below_alloc | apply pw_below_drewN | refine below_set ?_ (Nat.le_refl _)))) HLE.out HA2.out).mono ?_; rintro e w' ⟨rfl, ⟨nd2, rfl⟩⟩) | (go_at_call 121; with_reducible refine (spec_GetNum.calls k A c (bytesOf a0) p2 y3 p3 true _ (Kd.C_below HC2.out (by repeat (with_reducible first | exact Below.refl _ _ | apply below_alloc | apply pw_below_drewN | refine below_set ?_ (Nat.le_refl _)))) HLE.out HA3.out).mono ?_; rintro e w' ⟨rfl, ⟨nd3, rfl⟩⟩) | (go_at_call 122; with_reducible refine (spec_CmdRead.calls k A c (bytesOf a0) p3 d1 d2 d3 d4 d5 p4 true _ (Kd.C_below HC2.out (by repeat (with_reducible first | exact Below.refl _ _ | apply below_alloc | apply pw_below_drewN | refine below_set ?_ (Nat.le_refl _)))) HLE.out HA4.out).mono ?_; rintro e uc ⟨rfl, hb⟩; have hz := blk_below (g := w.heap.size) (o := .cells #[.int .i64 0, .int .i64 0, .int .i64 0, .int .i64 0, .int .i64 0, .int .i64 0, .int .i64 0, .int .i64 0, .int .i64 0, .string (⟨#[]⟩ : ByteArray)] 54 (0, 0)) (by repeat (with_reducible first | exact HZ1.out | refine cr_fr ?_ (by have := GL.out; omega) _ | refine blk_drewN ?_ _ | refine blk_alloc ?_ _)) hb; have hx := blk_below (g := w2.heap.size) (o := .cells #[.int .i64 2, .int .i64 0, .int .i64 0, .int .i64 y2, .int .i64 y3, .int .i64 0, .int .i64 0, .int .i64 0, .int .i64 0, .string (⟨#[]⟩ : ByteArray)] 54 (0, 0)) (by refine Eq.trans (blk_set (blk_drewN (blk_set (blk_drewN (blk_new _ _) _) 3 _) _) 4 _) ?_; simp only [List.setIfInBounds_toArray, List.set_cons_zero, List.set_cons_succ]) hb; obtain ⟨xc_0, xc_1, xc_2, xc_3, xc_4, xc_5, xc_6, xc_7, xc_8, xc_9, xc_10⟩ := sr_cells hx; obtain ⟨zc_0, zc_1, zc_2, zc_3, zc_4, zc_5, zc_6, zc_7, zc_8, zc_9, zc_10⟩ := sr_cells hz; have HZc := Aside0.mk hz; have HXc := Aside0.mk hx; have HBc : Aside0 (Below w.heap.size w uc) := ⟨below_step (by repeat (with_reducible first | exact HB1.out | apply below_alloc | apply pw_below_drewN | refine below_set ?_ (by first | exact Nat.le_refl _ | exact Nat.le_of_lt GL.out))) hb⟩; clear hb hz hx) | (go_at_call 96; with_reducible refine (spec_RecOk.calls k _ _ _ _ _ _ _ _ _ _ _ _ HOK.out).mono ?_; rintro e uo ⟨rfl, hb⟩; have hz := blk_below (g := w.heap.size) (o := .cells #[.int .i64 0, .int .i64 0, .int .i64 0, .int .i64 0, .int .i64 0, .int .i64 0, .int .i64 0, .int .i64 0, .int .i64 0, .string (⟨#[]⟩ : ByteArray)] 54 (0, 0)) (by repeat (with_reducible first | exact HZc.out | refine cr_fr ?_ (by have := GL.out; omega) _ | refine blk_drewN ?_ _ | refine blk_alloc ?_ _)) hb; have hx := blk_below (g := w2.heap.size) (o := .cells #[.int .i64 2, .int .i64 0, .int .i64 0, .int .i64 y2, .int .i64 y3, .int .i64 d1, .int .i64 d2, .int .i64 d3, .int .i64 d4, .string d5] 54 (0, 0)) (by refine Eq.trans (blk_set (blk_set (blk_set (blk_set (blk_set (HXc.out) 5 _) 6 _) 7 _) 8 _) 9 _) ?_; simp only [List.setIfInBounds_toArray, List.set_cons_zero, List.set_cons_succ]) hb; obtain ⟨xo_0, xo_1, xo_2, xo_3, xo_4, xo_5, xo_6, xo_7, xo_8, xo_9, xo_10⟩ := sr_cells hx; obtain ⟨zo_0, zo_1, zo_2, zo_3, zo_4, zo_5, zo_6, zo_7, zo_8, zo_9, zo_10⟩ := sr_cells hz; have HZo := Aside0.mk hz; have HBo : Aside0 (Below w.heap.size w uo) := ⟨below_step (by repeat (with_reducible first | exact HBc.out | apply below_alloc | apply pw_below_drewN | refine below_set ?_ (by first | exact Nat.le_refl _ | exact Nat.le_of_lt GL.out))) hb⟩; clear hb hz hx))
                refine bodyPost_ret (results_ct rfl _ _ w.heap.size 54 #[.int .i64 2, .int .i64 0, .int .i64 0, .int .i64 y2, .int .i64 y3, .int .i64 d1, .int .i64 d2, .int .i64 d3, .int .i64 d4, .string d5] (0, 0) _ rfl (by (with_reducible repeat (first | refine blk_drewN ?_ _ | refine blk_alloc ?_ _)); with_reducible refine sr_set10 ?_; repeat (with_reducible first | exact HZo.out | refine cr_fr ?_ (by have := GL.out; omega) _ | refine blk_drewN ?_ _ | refine blk_alloc ?_ _)) hu rfl (by kernel_rfl)) rfl ?_; exact ⟨by first | rfl | (simp; done) | (simp [*]; done), by repeat (with_reducible first | exact HBo.out | apply below_alloc | apply pw_below_drewN | refine below_set ?_ (by first | exact Nat.le_refl _ | exact Nat.le_of_lt GL.out))⟩
            · rw [if_neg ep] at h
              have ep1 : (p4 != ((bytesOf a0).length : Int)) = true := bne_iff_ne.mpr ep
              clear ep
              simp only [Bool.false_eq_true, ↓reduceIte, Option.some.injEq, Prod.mk.injEq] at h
              obtain ⟨rfl, rfl, rfl, rfl, rfl, rfl, rfl, rfl, rfl, rfl, rfl⟩ := h
              go_enter Try.func53, Try.ntmps53
              go_wp2_with (first | ((with_reducible refine gate_dst (N := 11) rfl ?_); refine Kd.V_conv (w0 := w) w.heap.size 5 rfl (N := 11) rfl 9 34 _ rfl a0 rfl Try.underlying9 Try.underlying34 Try.underlying5 HSZ.out (ok := fun k_ => w.heap.size + 1 ≤ k_) (by simp) (below_alloc (Below.refl _ _) _) (by simp) ?_; intro v1 w1 hv hb hg hn; obtain ⟨A, c, rfl, hle, hF⟩ := hv; have HC := Aside0.mk (Kd.F_now hF); have HLE := Aside0.mk hle; have hz : w1.heap[w.heap.size]? = some (.cells #[.int .i64 0, .int .i64 0, .int .i64 0, .int .i64 0, .int .i64 0, .int .i64 0, .int .i64 0, .int .i64 0, .int .i64 0, .string (⟨#[]⟩ : ByteArray)] 54 (0, 0)) := blk_grown (blk_new _ _) hg (by simp); have HZ0 := Aside0.mk hz; have HB0 := Aside0.mk hb; have GL := Aside0.mk (blk_lt hz); have hn1 : ¬ w.heap.size = w1.heap.size := Nat.ne_of_lt (blk_lt hz); have hn2 : ¬ w1.heap.size = w.heap.size := Nat.ne_of_gt (blk_lt hz); have hn3 : w.heap.size < w1.heap.size := blk_lt hz; obtain ⟨z0_0, z0_1, z0_2, z0_3, z0_4, z0_5, z0_6, z0_7, z0_8, z0_9, z0_10⟩ := sr_cells hz; clear hb hg hn hz hF hle) | (go_at_call 121; with_reducible refine (spec_GetNum.calls k A c (bytesOf a0) 0 2 p1 b1 _ HC.out HLE.out HA1.out).mono ?_; rintro e w2 ⟨rfl, hd⟩; have hb := hd.below; have HC2 := Aside0.mk (Kd.C_below HC.out hb); have hz := blk_below HZ0.out hb; have HZ1 := Aside0.mk hz; have HB1 : Aside0 (Below w.heap.size w w2) := ⟨below_step HB0.out hb⟩; have GL := Aside0.mk (blk_lt hz); have hm1 : ¬ w.heap.size = w2.heap.size := Nat.ne_of_lt (blk_lt hz); have hm2 : ¬ w2.heap.size = w.heap.size := Nat.ne_of_gt (blk_lt hz); have hm3 : w.heap.size < w2.heap.size := blk_lt hz; obtain ⟨z1_0, z1_1, z1_2, z1_3, z1_4, z1_5, z1_6, z1_7, z1_8, z1_9, z1_10⟩ := sr_cells hz; clear hb hd hz) | (go_at_call 121; with_reducible refine (spec_GetNum.calls k A c (bytesOf a0) p1 y2 p2 true _ (Kd.C_below HC2.out (by repeat (with_reducible first | exact Below.refl _ _ | apply below_alloc | apply pw_below_drewN | refine below_set ?_ (Nat.le_refl _)))) HLE.out HA2.out).mono ?_; rintro e w' ⟨rfl, ⟨nd2, rfl⟩⟩) | (go_at_call 121; with_reducible refine (spec_GetNum.calls k A c (bytesOf a0) p2 y3 p3 true _ (Kd.C_below HC2.out (by repeat (with_reducible first | exact Below.refl _ _ | apply below_alloc | apply pw_below_drewN | refine below_set ?_ (Nat.le_refl _)))) HLE.out HA3.out).mono ?_; rintro e w' ⟨rfl, ⟨nd3, rfl⟩⟩) | (go_at_call 122; with_reducible refine (spec_CmdRead.calls k A c (bytesOf a0) p3 d1 d2 d3 d4 d5 p4 true _ (Kd.C_below HC2.out (by repeat (with_reducible first | exact Below.refl _ _ | apply below_alloc | apply pw_below_drewN | refine below_set ?_ (Nat.le_refl _)))) HLE.out HA4.out).mono ?_; rintro e uc ⟨rfl, hb⟩; have hz := blk_below (g := w.heap.size) (o := .cells #[.int .i64 0, .int .i64 0, .int .i64 0, .int .i64 0, .int .i64 0, .int .i64 0, .int .i64 0, .int .i64 0, .int .i64 0, .string (⟨#[]⟩ : ByteArray)] 54 (0, 0)) (by repeat (with_reducible first | exact HZ1.out | refine cr_fr ?_ (by have := GL.out; omega) _ | refine blk_drewN ?_ _ | refine blk_alloc ?_ _)) hb; have hx := blk_below (g := w2.heap.size) (o := .cells #[.int .i64 2, .int .i64 0, .int .i64 0, .int .i64 y2, .int .i64 y3, .int .i64 0, .int .i64 0, .int .i64 0, .int .i64 0, .string (⟨#[]⟩ : ByteArray)] 54 (0, 0)) (by refine Eq.trans (blk_set (blk_drewN (blk_set (blk_drewN (blk_new _ _) _) 3 _) _) 4 _) ?_; simp only [List.setIfInBounds_toArray, List.set_cons_zero, List.set_cons_succ]) hb; obtain ⟨xc_0, xc_1, xc_2, xc_3, xc_4, xc_5, xc_6, xc_7, xc_8, xc_9, xc_10⟩ := sr_cells hx; obtain ⟨zc_0, zc_1, zc_2, zc_3, zc_4, zc_5, zc_6, zc_7, zc_8, zc_9, zc_10⟩ := sr_cells hz; have HZc := Aside0.mk hz; have HXc := Aside0.mk hx; have HBc : Aside0 (Below w.heap.size w uc) := ⟨below_step (by repeat (with_reducible first | exact HB1.out | apply below_alloc | apply pw_below_drewN | refine below_set ?_ (by first | exact Nat.le_refl _ | exact Nat.le_of_lt GL.out))) hb⟩; clear hb hz hx))
              refine bodyPost_ret (results_ct rfl _ _ w.heap.size 54 #[.int .i64 0, .int .i64 0, .int .i64 0, .int .i64 0, .int .i64 0, .int .i64 0, .int .i64 0, .int .i64 0, .int .i64 0, .string (⟨#[]⟩ : ByteArray)] (0, 0) _ rfl (by (with_reducible repeat (first | refine blk_drewN ?_ _ | refine blk_alloc ?_ _)); with_reducible refine sr_set10 ?_; repeat (with_reducible first | exact HZc.out | refine cr_fr ?_ (by have := GL.out; omega) _ | refine blk_drewN ?_ _ | refine blk_alloc ?_ _)) hu rfl (by kernel_rfl)) rfl ?_; exact ⟨by first | rfl | (simp; done) | (simp [*]; done), by repeat (with_reducible first | exact HBc.out | apply below_alloc | apply pw_below_drewN | refine below_set ?_ (by first | exact Nat.le_refl _ | exact Nat.le_of_lt GL.out))⟩
    · rw [if_neg e2] at h
      have e2b : (y1 == 2) = false := beq_eq_false_iff_ne.mpr e2
      clear e2
      by_cases e3 : y1 = 3
      · subst e3
        simp only [↓reduceIte] at h
        replace h := Option.bind_eq_some_iff.1 h; obtain ⟨⟨y2, p2, b2⟩, hA, h⟩ := h
        simp only at h
        have HA2 := Aside0.mk hA
        clear hA
        unfold srEnd at h
        cases b2
        · simp only [Bool.false_eq_true, ↓reduceIte, Option.some.injEq, Prod.mk.injEq] at h
          obtain ⟨rfl, rfl, rfl, rfl, rfl, rfl, rfl, rfl, rfl, rfl, rfl⟩ := h
          go_enter Try.func53, Try.ntmps53
          go_wp2_with (first | ((with_reducible refine gate_dst (N := 11) rfl ?_); refine Kd.V_conv (w0 := w) w.heap.size 5 rfl (N := 11) rfl 9 34 _ rfl a0 rfl Try.underlying9 Try.underlying34 Try.underlying5 HSZ.out (ok := fun k_ => w.heap.size + 1 ≤ k_) (by simp) (below_alloc (Below.refl _ _) _) (by simp) ?_; intro v1 w1 hv hb hg hn; obtain ⟨A, c, rfl, hle, hF⟩ := hv; have HC := Aside0.mk (Kd.F_now hF); have HLE := Aside0.mk hle; have hz : w1.heap[w.heap.size]? = some (.cells #[.int .i64 0, .int .i64 0, .int .i64 0, .int .i64 0, .int .i64 0, .int .i64 0, .int .i64 0, .int .i64 0, .int .i64 0, .string (⟨#[]⟩ : ByteArray)] 54 (0, 0)) := blk_grown (blk_new _ _) hg (by simp); have HZ0 := Aside0.mk hz; have HB0 := Aside0.mk hb; have GL := Aside0.mk (blk_lt hz); have hn1 : ¬ w.heap.size = w1.heap.size := Nat.ne_of_lt (blk_lt hz); have hn2 : ¬ w1.heap.size = w.heap.size := Nat.ne_of_gt (blk_lt hz); have hn3 : w.heap.size < w1.heap.size := blk_lt hz; obtain ⟨z0_0, z0_1, z0_2, z0_3, z0_4, z0_5, z0_6, z0_7, z0_8, z0_9, z0_10⟩ := sr_cells hz; clear hb hg hn hz hF hle) | (go_at_call 121; with_reducible refine (spec_GetNum.calls k A c (bytesOf a0) 0 3 p1 b1 _ HC.out HLE.out HA1.out).mono ?_; rintro e w2 ⟨rfl, hd⟩; have hb := hd.below; have HC2 := Aside0.mk (Kd.C_below HC.out hb); have hz := blk_below HZ0.out hb; have HZ1 := Aside0.mk hz; have HB1 : Aside0 (Below w.heap.size w w2) := ⟨below_step HB0.out hb⟩; have GL := Aside0.mk (blk_lt hz); have hm1 : ¬ w.heap.size = w2.heap.size := Nat.ne_of_lt (blk_lt hz); have hm2 : ¬ w2.heap.size = w.heap.size := Nat.ne_of_gt (blk_lt hz); have hm3 : w.heap.size < w2.heap.size := blk_lt hz; obtain ⟨z1_0, z1_1, z1_2, z1_3, z1_4, z1_5, z1_6, z1_7, z1_8, z1_9, z1_10⟩ := sr_cells hz; clear hb hd hz) | (go_at_call 121; with_reducible refine (spec_GetNum.calls k A c (bytesOf a0) p1 y2 p2 false _ (Kd.C_below HC2.out (by repeat (with_reducible first | exact Below.refl _ _ | apply below_alloc | apply pw_below_drewN | refine below_set ?_ (Nat.le_refl _)))) HLE.out HA2.out).mono ?_; rintro e w' ⟨rfl, ⟨nd2, rfl⟩⟩))
          refine bodyPost_ret (results_ct rfl _ _ w.heap.size 54 #[.int .i64 0, .int .i64 0, .int .i64 0, .int .i64 0, .int .i64 0, .int .i64 0, .int .i64 0, .int .i64 0, .int .i64 0, .string (⟨#[]⟩ : ByteArray)] (0, 0) _ rfl (by (with_reducible repeat (first | refine blk_drewN ?_ _ | refine blk_alloc ?_ _)); with_reducible refine sr_set10 ?_; repeat (with_reducible first | exact HZ1.out | refine cr_fr ?_ (by have := GL.out; omega) _ | refine blk_drewN ?_ _ | refine blk_alloc ?_ _)) hu rfl (by kernel_rfl)) rfl ?_; exact ⟨by first | rfl | (simp; done) | (simp [*]; done), by repeat (with_reducible first | exact HB1.out | apply below_alloc | apply pw_below_drewN | refine below_set ?_ (by first | exact Nat.le_refl _ | exact Nat.le_of_lt GL.out))⟩
        · simp only [↓reduceIte] at h
          by_cases ep : p2 = ((bytesOf a0).length : Int)
          · rw [if_pos ep] at h
            have ep1 : (p2 != ((bytesOf a0).length : Int)) = false := by rw [ep]; exact bne_self_eq_false _
            clear ep
            replace h := Option.bind_eq_some_iff.1 h; obtain ⟨o, hK, h⟩ := h
            have HOK := Aside0.mk hK
            clear hK
            cases o
            · simp only [Bool.false_eq_true, ↓reduceIte, Option.some.injEq, Prod.mk.injEq] at h
              obtain ⟨rfl, rfl, rfl, rfl, rfl, rfl, rfl, rfl, rfl, rfl, rfl⟩ := h
              go_enter Try.func53, Try.ntmps53
              go_wp2_with (first | ((with_reducible refine gate_dst (N := 11) rfl ?_); refine Kd.V_conv (w0 := w) w.heap.size 5 rfl (N := 11) rfl 9 34 _ rfl a0 rfl Try.underlying9 Try.underlying34 Try.underlying5 HSZ.out (ok := fun k_ => w.heap.size + 1 ≤ k_) (by simp) (below_alloc (Below.refl _ _) _) (by simp) ?_; intro v1 w1 hv hb hg hn; obtain ⟨A, c, rfl, hle, hF⟩ := hv; have HC := Aside0.mk (Kd.F_now hF); have HLE := Aside0.mk hle; have hz : w1.heap[w.heap.size]? = some (.cells #[.int .i64 0, .int .i64 0, .int .i64 0, .int .i64 0, .int .i64 0, .int .i64 0, .int .i64 0, .int .i64 0, .int .i64 0, .string (⟨#[]⟩ : ByteArray)] 54 (0, 0)) := blk_grown (blk_new _ _) hg (by simp); have HZ0 := Aside0.mk hz; have HB0 := Aside0.mk hb; have GL := Aside0.mk (blk_lt hz); have hn1 : ¬ w.heap.size = w1.heap.size := Nat.ne_of_lt (blk_lt hz); have hn2 : ¬ w1.heap.size = w.heap.size := Nat.ne_of_gt (blk_lt hz); have hn3 : w.heap.size < w1.heap.size := blk_lt hz; obtain ⟨z0_0, z0_1, z0_2, z0_3, z0_4, z0_5, z0_6, z0_7, z0_8, z0_9, z0_10⟩ := sr_cells hz; clear hb hg hn hz hF hle) | (go_at_call 121; with_reducible refine (spec_GetNum.calls k A c (bytesOf a0) 0 3 p1 b1 _ HC.out HLE.out HA1.out).mono ?_; rintro e w2 ⟨rfl, hd⟩; have hb := hd.below; have HC2 := Aside0.mk (Kd.C_below HC.out hb); have hz := blk_below HZ0.out hb; have HZ1 := Aside0.mk hz; have HB1 : Aside0 (Below w.heap.size w w2) := ⟨below_step HB0.out hb⟩; have GL := Aside0.mk (blk_lt hz); have hm1 : ¬ w.heap.size = w2.heap.size := Nat.ne_of_lt (blk_lt hz); have hm2 : ¬ w2.heap.size = w.heap.size := Nat.ne_of_gt (blk_lt hz); have hm3 : w.heap.size < w2.heap.size := blk_lt hz; obtain ⟨z1_0, z1_1, z1_2, z1_3, z1_4, z1_5, z1_6, z1_7, z1_8, z1_9, z1_10⟩ := sr_cells hz; clear hb hd hz) | (go_at_call 121; with_reducible refine (spec_GetNum.calls k A c (bytesOf a0) p1 y2 p2 true _ (Kd.C_below HC2.out (by repeat (with_reducible first | exact Below.refl _ _ | apply below_alloc | apply pw_below_drewN | refine below_set ?_ (Nat.le_refl _)))) HLE.out HA2.out).mono ?_; rintro e w' ⟨rfl, ⟨nd2, rfl⟩⟩) | (go_at_call 96; with_reducible refine (spec_RecOk.calls k _ _ _ _ _ _ _ _ _ _ _ _ HOK.out).mono ?_; rintro e uo ⟨rfl, hb⟩; have hz := blk_below (g := w.heap.size) (o := .cells #[.int .i64 0, .int .i64 0, .int .i64 0, .int .i64 0, .int .i64 0, .int .i64 0, .int .i64 0, .int .i64 0, .int .i64 0, .string (⟨#[]⟩ : ByteArray)] 54 (0, 0)) (by repeat (with_reducible first | exact HZ1.out | refine cr_fr ?_ (by have := GL.out; omega) _ | refine blk_drewN ?_ _ | refine blk_alloc ?_ _)) hb; have hx := blk_below (g := w2.heap.size) (o := .cells #[.int .i64 3, .int .i64 0, .int .i64 0, .int .i64 y2, .int .i64 0, .int .i64 0, .int .i64 0, .int .i64 0, .int .i64 0, .string (⟨#[]⟩ : ByteArray)] 54 (0, 0)) (by refine Eq.trans (blk_set (blk_drewN (blk_new _ _) _) 3 _) ?_; simp only [List.setIfInBounds_toArray, List.set_cons_zero, List.set_cons_succ]) hb; obtain ⟨xo_0, xo_1, xo_2, xo_3, xo_4, xo_5, xo_6, xo_7, xo_8, xo_9, xo_10⟩ := sr_cells hx; obtain ⟨zo_0, zo_1, zo_2, zo_3, zo_4, zo_5, zo_6, zo_7, zo_8, zo_9, zo_10⟩ := sr_cells hz; have HZo := Aside0.mk hz; have HBo : Aside0 (Below w.heap.size w uo) := ⟨below_step (by repeat (with_reducible first | exact HB1.out | apply below_alloc | apply pw_below_drewN | refine below_set ?_ (by first | exact Nat.le_refl _ | exact Nat.le_of_lt GL.out))) hb⟩; clear hb hz hx))
              refine bodyPost_ret (results_ct rfl _ _ w.heap.size 54 #[.int .i64 0, .int .i64 0, .int .i64 0, .int .i64 0, .int .i64 0, .int .i64 0, .int .i64 0, .int .i64 0, .int .i64 0, .string (⟨#[]⟩ : ByteArray)] (0, 0) _ rfl (by (with_reducible repeat (first | refine blk_drewN ?_ _ | refine blk_alloc ?_ _)); with_reducible refine sr_set10 ?_; repeat (with_reducible first | exact HZo.out | refine cr_fr ?_ (by have := GL.out; omega) _ | refine blk_drewN ?_ _ | refine blk_alloc ?_ _)) hu rfl (by kernel_rfl)) rfl ?_; exact ⟨by first | rfl | (simp; done) | (simp [*]; done), by repeat (with_reducible first | exact HBo.out | apply below_alloc | apply pw_below_drewN | refine below_set ?_ (by first | exact Nat.le_refl _ | exact Nat.le_of_lt GL.out))⟩
            · simp only [Bool.false_eq_true, ↓reduceIte, Option.some.injEq, Prod.mk.injEq] at h
              obtain ⟨rfl, rfl, rfl, rfl, rfl, rfl, rfl, rfl, rfl, rfl, rfl⟩ := h
              go_enter Try.func53, Try.ntmps53
              go_wp2_with (first | ((with_reducible refine gate_dst (N := 11) rfl ?_); refine Kd.V_conv (w0 := w) w.heap.size 5 rfl (N := 11) rfl 9 34 _ rfl a0 rfl Try.underlying9 Try.underlying34 Try.underlying5 HSZ.out (ok := fun k_ => w.heap.size + 1 ≤ k_) (by simp) (below_alloc (Below.refl _ _) _) (by simp) ?_; intro v1 w1 hv hb hg hn; obtain ⟨A, c, rfl, hle, hF⟩ := hv; have HC := Aside0.mk (Kd.F_now hF); have HLE := Aside0.mk hle; have hz : w1.heap[w.heap.size]? = some (.cells #[.int .i64 0, .int .i64 0, .int .i64 0, .int .i64 0, .int .i64 0, .int .i64 0, .int .i64 0, .int .i64 0, .int .i64 0, .string (⟨#[]⟩ : ByteArray)] 54 (0, 0)) := blk_grown (blk_new _ _) hg (by simp); have HZ0 := Aside0.mk hz; have HB0 := Aside0.mk hb; have GL := Aside0.mk (blk_lt hz); have hn1 : ¬ w.heap.size = w1.heap.size := Nat.ne_of_lt (blk_lt hz); have hn2 : ¬ w1.heap.size = w.heap.size := Nat.ne_of_gt (blk_lt hz); have hn3 : w.heap.size < w1.heap.size := blk_lt hz; obtain ⟨z0_0, z0_1, z0_2, z0_3, z0_4, z0_5, z0_6, z0_7, z0_8, z0_9, z0_10⟩ := sr_cells hz; clear hb hg hn hz hF hle) | (go_at_call 121; with_reducible refine (spec_GetNum.calls k A c (bytesOf a0) 0 3 p1 b1 _ HC.out HLE.out HA1.out).mono ?_; rintro e w2 ⟨rfl, hd⟩; have hb := hd.below; have HC2 := Aside0.mk (Kd.C_below HC.out hb); have hz := blk_below HZ0.out hb; have HZ1 := Aside0.mk hz; have HB1 : Aside0 (Below w.heap.size w w2) := ⟨below_step HB0.out hb⟩; have GL := Aside0.mk (blk_lt hz); have hm1 : ¬ w.heap.size = w2.heap.size := Nat.ne_of_lt (blk_lt hz); have hm2 : ¬ w2.heap.size = w.heap.size := Nat.ne_of_gt (blk_lt hz); have hm3 : w.heap.size < w2.heap.size := blk_lt hz; obtain ⟨z1_0, z1_1, z1_2, z1_3, z1_4, z1_5, z1_6, z1_7, z1_8, z1_9, z1_10⟩ := sr_cells hz; clear hb hd hz) | (go_at_call 121; with_reducible refine (spec_GetNum.calls k A c (bytesOf a0) p1 y2 p2 true _ (Kd.C_below HC2.out (by repeat (with_reducible first | exact Below.refl _ _ | apply below_alloc | apply pw_below_drewN | refine below_set ?_ (Nat.le_refl _)))) HLE.out HA2.out).mono ?_; rintro e w' ⟨rfl, ⟨nd2, rfl⟩⟩) | (go_at_call 96; with_reducible refine (spec_RecOk.calls k _ _ _ _ _ _ _ _ _ _ _ _ HOK.out).mono ?_; rintro e uo ⟨rfl, hb⟩; have hz := blk_below (g := w.heap.size) (o := .cells #[.int .i64 0, .int .i64 0, .int .i64 0, .int .i64 0, .int .i64 0, .int .i64 0, .int .i64 0, .int .i64 0, .int .i64 0, .string (⟨#[]⟩ : ByteArray)] 54 (0, 0)) (by repeat (with_reducible first | exact HZ1.out | refine cr_fr ?_ (by have := GL.out; omega) _ | refine blk_drewN ?_ _ | refine blk_alloc ?_ _)) hb; have hx := blk_below (g := w2.heap.size) (o := .cells #[.int .i64 3, .int .i64 0, .int .i64 0, .int .i64 y2, .int .i64 0, .int .i64 0, .int .i64 0, .int .i64 0, .int .i64 0, .string (⟨#[]⟩ : ByteArray)] 54 (0, 0)) (by refine Eq.trans (blk_set (blk_drewN (blk_new _ _) _) 3 _) ?_; simp only [List.setIfInBounds_toArray, List.set_cons_zero, List.set_cons_succ]) hb; obtain ⟨xo_0, xo_1, xo_2, xo_3, xo_4, xo_5, xo_6, xo_7, xo_8, xo_9, xo_10⟩ := sr_cells hx; obtain ⟨zo_0, zo_1, zo_2, zo_3, zo_4, zo_5, zo_6, zo_7, zo_8, zo_9, zo_10⟩ := sr_cells hz; have HZo := Aside0.mk hz; have HBo : Aside0 (Below w.heap.size w uo) := ⟨below_step (by repeat (with_reducible first | exact HB1.out | apply below_alloc | apply pw_below_drewN | refine below_set ?_ (by first | exact Nat.le_refl _ | exact Nat.le_of_lt GL.out))) hb⟩; clear hb hz hx))
              refine bodyPost_ret (results_ct rfl _ _ w.heap.size 54 #[.int .i64 3, .int .i64 0, .int .i64 0, .int .i64 y2, .int .i64 0, .int .i64 0, .int .i64 0, .int .i64 0, .int .i64 0, .string (⟨#[]⟩ : ByteArray)] (0, 0) _ rfl (by (with_reducible repeat (first | refine blk_drewN ?_ _ | refine blk_alloc ?_ _)); with_reducible refine sr_set10 ?_; repeat (with_reducible first | exact HZo.out | refine cr_fr ?_ (by have := GL.out; omega) _ | refine blk_drewN ?_ _ | refine blk_alloc ?_ _)) hu rfl (by kernel_rfl)) rfl ?_; exact ⟨by first | rfl | (simp; done) | (simp [*]; done), by repeat (with_reducible first | exact HBo.out | apply below_alloc | apply pw_below_drewN | refine below_set ?_ (by first | exact Nat.le_refl _ | exact Nat.le_of_lt GL.out))⟩
          · rw [if_neg ep] at h
            have ep1 : (p2 != ((bytesOf a0).length : Int)) = true := bne_iff_ne.mpr ep
            clear ep
            simp only [Bool.false_eq_true, ↓reduceIte, Option.some.injEq, Prod.mk.injEq] at h
            obtain ⟨rfl, rfl, rfl, rfl, rfl, rfl, rfl, rfl, rfl, rfl, rfl⟩ := h
            go_enter Try.func53, Try.ntmps53
            go_wp2_with (first | ((with_reducible refine gate_dst (N := 11) rfl ?_); refine Kd.V_conv (w0 := w) w.heap.size 5 rfl (N := 11) rfl 9 34 _ rfl a0 rfl Try.underlying9 Try.underlying34 Try.underlying5 HSZ.out (ok := fun k_ => w.heap.size + 1 ≤ k_) (by simp) (below_alloc (Below.refl _ _) _) (by simp) ?_; intro v1 w1 hv hb hg hn; obtain ⟨A, c, rfl, hle, hF⟩ := hv; have HC := Aside0.mk (Kd.F_now hF); have HLE := Aside0.mk hle; have hz : w1.heap[w.heap.size]? = some (.cells #[.int .i64 0, .int .i64 0, .int .i64 0, .int .i64 0, .int .i64 0, .int .i64 0, .int .i64 0, .int .i64 0, .int .i64 0, .string (⟨#[]⟩ : ByteArray)] 54 (0, 0)) := blk_grown (blk_new _ _) hg (by simp); have HZ0 := Aside0.mk hz; have HB0 := Aside0.mk hb; have GL := Aside0.mk (blk_lt hz); have hn1 : ¬ w.heap.size = w1.heap.size := Nat.ne_of_lt (blk_lt hz); have hn2 : ¬ w1.heap.size = w.heap.size := Nat.ne_of_gt (blk_lt hz); have hn3 : w.heap.size < w1.heap.size := blk_lt hz; obtain ⟨z0_0, z0_1, z0_2, z0_3, z0_4, z0_5, z0_6, z0_7, z0_8, z0_9, z0_10⟩ := sr_cells hz; clear hb hg hn hz hF hle) | (go_at_call 121; with_reducible refine (spec_GetNum.calls k A c (bytesOf a0) 0 3 p1 b1 _ HC.out HLE.out HA1.out).mono ?_; rintro e w2 ⟨rfl, hd⟩; have hb := hd.below; have HC2 := Aside0.mk (Kd.C_below HC.out hb); have hz := blk_below HZ0.out hb; have HZ1 := Aside0.mk hz; have HB1 : Aside0 (Below w.heap.size w w2) := ⟨below_step HB0.out hb⟩; have GL := Aside0.mk (blk_lt hz); have hm1 : ¬ w.heap.size = w2.heap.size := Nat.ne_of_lt (blk_lt hz); have hm2 : ¬ w2.heap.size = w.heap.size := Nat.ne_of_gt (blk_lt hz); have hm3 : w.heap.size < w2.heap.size := blk_lt hz; obtain ⟨z1_0, z1_1, z1_2, z1_3, z1_4, z1_5, z1_6, z1_7, z1_8, z1_9, z1_10⟩ := sr_cells hz; clear hb hd hz) | (go_at_call 121; with_reducible refine (spec_GetNum.calls k A c (bytesOf a0) p1 y2 p2 true _ (Kd.C_below HC2.out (by repeat (with_reducible first | exact Below.refl _ _ | apply below_alloc | apply pw_below_drewN | refine below_set ?_ (Nat.le_refl _)))) HLE.out HA2.out).mono ?_; rintro e w' ⟨rfl, ⟨nd2, rfl⟩⟩))
            refine bodyPost_ret (results_ct rfl _ _ w.heap.size 54 #[.int .i64 0, .int .i64 0, .int .i64 0, .int .i64 0, .int .i64 0, .int .i64 0, .int .i64 0, .int .i64 0, .int .i64 0, .string (⟨#[]⟩ : ByteArray)] (0, 0) _ rfl (by (with_reducible repeat (first | refine blk_drewN ?_ _ | refine blk_alloc ?_ _)); with_reducible refine sr_set10 ?_; repeat (with_reducible first | exact HZ1.out | refine cr_fr ?_ (by have := GL.out; omega) _ | refine blk_drewN ?_ _ | refine blk_alloc ?_ _)) hu rfl (by kernel_rfl)) rfl ?_; exact ⟨by first | rfl | (simp; done) | (simp [*]; done), by repeat (with_reducible first | exact HB1.out | apply below_alloc | apply pw_below_drewN | refine below_set ?_ (by first | exact Nat.le_refl _ | exact Nat.le_of_lt GL.out))⟩
      · rw [if_neg e3] at h
        have e3b : (y1 == 3) = false := beq_eq_false_iff_ne.mpr e3
        clear e3
        unfold srEnd at h
        cases b1
        · simp only [Bool.false_eq_true, ↓reduceIte, Option.some.injEq, Prod.mk.injEq] at h
          obtain ⟨rfl, rfl, rfl, rfl, rfl, rfl, rfl, rfl, rfl, rfl, rfl⟩ := h
          go_enter Try.func53, Try.ntmps53
          go_wp2_with (first | ((with_reducible refine gate_dst (N := 11) rfl ?_); refine Kd.V_conv (w0 := w) w.heap.size 5 rfl (N := 11) rfl 9 34 _ rfl a0 rfl Try.underlying9 Try.underlying34 Try.underlying5 HSZ.out (ok := fun k_ => w.heap.size + 1 ≤ k_) (by simp) (below_alloc (Below.refl _ _) _) (by simp) ?_; intro v1 w1 hv hb hg hn; obtain ⟨A, c, rfl, hle, hF⟩ := hv; have HC := Aside0.mk (Kd.F_now hF); have HLE := Aside0.mk hle; have hz : w1.heap[w.heap.size]? = some (.cells #[.int .i64 0, .int .i64 0, .int .i64 0, .int .i64 0, .int .i64 0, .int .i64 0, .int .i64 0, .int .i64 0, .int .i64 0, .string (⟨#[]⟩ : ByteArray)] 54 (0, 0)) := blk_grown (blk_new _ _) hg (by simp); have HZ0 := Aside0.mk hz; have HB0 := Aside0.mk hb; have GL := Aside0.mk (blk_lt hz); have hn1 : ¬ w.heap.size = w1.heap.size := Nat.ne_of_lt (blk_lt hz); have hn2 : ¬ w1.heap.size = w.heap.size := Nat.ne_of_gt (blk_lt hz); have hn3 : w.heap.size < w1.heap.size := blk_lt hz; obtain ⟨z0_0, z0_1, z0_2, z0_3, z0_4, z0_5, z0_6, z0_7, z0_8, z0_9, z0_10⟩ := sr_cells hz; clear hb hg hn hz hF hle) | (go_at_call 121; with_reducible refine (spec_GetNum.calls k A c (bytesOf a0) 0 y1 p1 false _ HC.out HLE.out HA1.out).mono ?_; rintro e w2 ⟨rfl, hd⟩; have hb := hd.below; have HC2 := Aside0.mk (Kd.C_below HC.out hb); have hz := blk_below HZ0.out hb; have HZ1 := Aside0.mk hz; have HB1 : Aside0 (Below w.heap.size w w2) := ⟨below_step HB0.out hb⟩; have GL := Aside0.mk (blk_lt hz); have hm1 : ¬ w.heap.size = w2.heap.size := Nat.ne_of_lt (blk_lt hz); have hm2 : ¬ w2.heap.size = w.heap.size := Nat.ne_of_gt (blk_lt hz); have hm3 : w.heap.size < w2.heap.size := blk_lt hz; obtain ⟨z1_0, z1_1, z1_2, z1_3, z1_4, z1_5, z1_6, z1_7, z1_8, z1_9, z1_10⟩ := sr_cells hz; clear hb hd hz))
          refine bodyPost_ret (results_ct rfl _ _ w.heap.size 54 #[.int .i64 0, .int .i64 0, .int .i64 0, .int .i64 0, .int .i64 0, .int .i64 0, .int .i64 0, .int .i64 0, .int .i64 0, .string (⟨#[]⟩ : ByteArray)] (0, 0) _ rfl (by (with_reducible repeat (first | refine blk_drewN ?_ _ | refine blk_alloc ?_ _)); with_reducible refine sr_set10 ?_; repeat (with_reducible first | exact HZ1.out | refine cr_fr ?_ (by have := GL.out; omega) _ | refine blk_drewN ?_ _ | refine blk_alloc ?_ _)) hu rfl (by kernel_rfl)) rfl ?_; exact ⟨by first | rfl | (simp; done) | (simp [*]; done), by repeat (with_reducible first | exact HB1.out | apply below_alloc | apply pw_below_drewN | refine below_set ?_ (by first | exact Nat.le_refl _ | exact Nat.le_of_lt GL.out))⟩
        · simp only [↓reduceIte] at h
          by_cases ep : p1 = ((bytesOf a0).length : Int)
          · rw [if_pos ep] at h
            have ep1 : (p1 != ((bytesOf a0).length : Int)) = false := by rw [ep]; exact bne_self_eq_false _
            clear ep
            replace h := Option.bind_eq_some_iff.1 h; obtain ⟨o, hK, h⟩ := h
            have HOK := Aside0.mk hK
            clear hK
            cases o
            · simp only [Bool.false_eq_true, ↓reduceIte, Option.some.injEq, Prod.mk.injEq] at h
              obtain ⟨rfl, rfl, rfl, rfl, rfl, rfl, rfl, rfl, rfl, rfl, rfl⟩ := h
              go_enter Try.func53, Try.ntmps53
              go_wp2_with (first | ((with_reducible refine gate_dst (N := 11) rfl ?_); refine Kd.V_conv (w0 := w) w.heap.size 5 rfl (N := 11) rfl 9 34 _ rfl a0 rfl Try.underlying9 Try.underlying34 Try.underlying5 HSZ.out (ok := fun k_ => w.heap.size + 1 ≤ k_) (by simp) (below_alloc (Below.refl _ _) _) (by simp) ?_; intro v1 w1 hv hb hg hn; obtain ⟨A, c, rfl, hle, hF⟩ := hv; have HC := Aside0.mk (Kd.F_now hF); have HLE := Aside0.mk hle; have hz : w1.heap[w.heap.size]? = some (.cells #[.int .i64 0, .int .i64 0, .int .i64 0, .int .i64 0, .int .i64 0, .int .i64 0, .int .i64 0, .int .i64 0, .int .i64 0, .string (⟨#[]⟩ : ByteArray)] 54 (0, 0)) := blk_grown (blk_new _ _) hg (by simp); have HZ0 := Aside0.mk hz; have HB0 := Aside0.mk hb; have GL := Aside0.mk (blk_lt hz); have hn1 : ¬ w.heap.size = w1.heap.size := Nat.ne_of_lt (blk_lt hz); have hn2 : ¬ w1.heap.size = w.heap.size := Nat.ne_of_gt (blk_lt hz); have hn3 : w.heap.size < w1.heap.size := blk_lt hz; obtain ⟨z0_0, z0_1, z0_2, z0_3, z0_4, z0_5, z0_6, z0_7, z0_8, z0_9, z0_10⟩ := sr_cells hz; clear hb hg hn hz hF hle) | (go_at_call 121; with_reducible refine (spec_GetNum.calls k A c (bytesOf a0) 0 y1 p1 true _ HC.out HLE.out HA1.out).mono ?_; rintro e w2 ⟨rfl, hd⟩; have hb := hd.below; have HC2 := Aside0.mk (Kd.C_below HC.out hb); have hz := blk_below HZ0.out hb; have HZ1 := Aside0.mk hz; have HB1 : Aside0 (Below w.heap.size w w2) := ⟨below_step HB0.out hb⟩; have GL := Aside0.mk (blk_lt hz); have hm1 : ¬ w.heap.size = w2.heap.size := Nat.ne_of_lt (blk_lt hz); have hm2 : ¬ w2.heap.size = w.heap.size := Nat.ne_of_gt (blk_lt hz); have hm3 : w.heap.size < w2.heap.size := blk_lt hz; obtain ⟨z1_0, z1_1, z1_2, z1_3, z1_4, z1_5, z1_6, z1_7, z1_8, z1_9, z1_10⟩ := sr_cells hz; clear hb hd hz) | (go_at_call 96; with_reducible refine (spec_RecOk.calls k _ _ _ _ _ _ _ _ _ _ _ _ HOK.out).mono ?_; rintro e uo ⟨rfl, hb⟩; have hz := blk_below (g := w.heap.size) (o := .cells #[.int .i64 0, .int .i64 0, .int .i64 0, .int .i64 0, .int .i64 0, .int .i64 0, .int .i64 0, .int .i64 0, .int .i64 0, .string (⟨#[]⟩ : ByteArray)] 54 (0, 0)) (by repeat (with_reducible first | exact HZ1.out | refine cr_fr ?_ (by have := GL.out; omega) _ | refine blk_drewN ?_ _ | refine blk_alloc ?_ _)) hb; have hx := blk_below (g := w2.heap.size) (o := .cells #[.int .i64 y1, .int .i64 0, .int .i64 0, .int .i64 0, .int .i64 0, .int .i64 0, .int .i64 0, .int .i64 0, .int .i64 0, .string (⟨#[]⟩ : ByteArray)] 54 (0, 0)) (by refine Eq.trans (blk_new _ _) ?_; simp only [List.setIfInBounds_toArray, List.set_cons_zero, List.set_cons_succ]) hb; obtain ⟨xo_0, xo_1, xo_2, xo_3, xo_4, xo_5, xo_6, xo_7, xo_8, xo_9, xo_10⟩ := sr_cells hx; obtain ⟨zo_0, zo_1, zo_2, zo_3, zo_4, zo_5, zo_6, zo_7, zo_8, zo_9, zo_10⟩ := sr_cells hz; have HZo := Aside0.mk hz; have HBo : Aside0 (Below w.heap.size w uo) := ⟨below_step (by repeat (with_reducible first | exact HB1.out | apply below_alloc | apply pw_below_drewN | refine below_set ?_ (by first | exact Nat.le_refl _ | exact Nat.le_of_lt GL.out))) hb⟩; clear hb hz hx))
              refine bodyPost_ret (results_ct rfl _ _ w.heap.size 54 #[.int .i64 0, .int .i64 0, .int .i64 0, .int .i64 0, .int .i64 0, .int .i64 0, .int .i64 0, .int .i64 0, .int .i64 0, .string (⟨#[]⟩ : ByteArray)] (0, 0) _ rfl (by (with_reducible repeat (first | refine blk_drewN ?_ _ | refine blk_alloc ?_ _)); with_reducible refine sr_set10 ?_; repeat (with_reducible first | exact HZo.out | refine cr_fr ?_ (by have := GL.out; omega) _ | refine blk_drewN ?_ _ | refine blk_alloc ?_ _)) hu rfl (by kernel_rfl)) rfl ?_; exact ⟨by first | rfl | (simp; done) | (simp [*]; done), by repeat (with_reducible first | exact HBo.out | apply below_alloc | apply pw_below_drewN | refine below_set ?_ (by first | exact Nat.le_refl _ | exact Nat.le_of_lt GL.out))⟩
            · simp only [Bool.false_eq_true, ↓reduceIte, Option.some.injEq, Prod.mk.injEq] at h
              obtain ⟨rfl, rfl, rfl, rfl, rfl, rfl, rfl, rfl, rfl, rfl, rfl⟩ := h
              go_enter Try.func53, Try.ntmps53
              go_wp2_with (first | ((with_reducible refine gate_dst (N := 11) rfl ?_); refine Kd.V_conv (w0 := w) w.heap.size 5 rfl (N := 11) rfl 9 34 _ rfl a0 rfl Try.underlying9 Try.underlying34 Try.underlying5 HSZ.out (ok := fun k_ => w.heap.size + 1 ≤ k_) (by simp) (below_alloc (Below.refl _ _) _) (by simp) ?_; intro v1 w1 hv hb hg hn; obtain ⟨A, c, rfl, hle, hF⟩ := hv; have HC := Aside0.mk (Kd.F_now hF); have HLE := Aside0.mk hle; have hz : w1.heap[w.heap.size]? = some (.cells #[.int .i64 0, .int .i64 0, .int .i64 0, .int .i64 0, .int .i64 0, .int .i64 0, .int .i64 0, .int .i64 0, .int .i64 0, .string (⟨#[]⟩ : ByteArray)] 54 (0, 0)) := blk_grown (blk_new _ _) hg (by simp); have HZ0 := Aside0.mk hz; have HB0 := Aside0.mk hb; have GL := Aside0.mk (blk_lt hz); have hn1 : ¬ w.heap.size = w1.heap.size := Nat.ne_of_lt (blk_lt hz); have hn2 : ¬ w1.heap.size = w.heap.size := Nat.ne_of_gt (blk_lt hz); have hn3 : w.heap.size < w1.heap.size := blk_lt hz; obtain ⟨z0_0, z0_1, z0_2, z0_3, z0_4, z0_5, z0_6, z0_7, z0_8, z0_9, z0_10⟩ := sr_cells hz; clear hb hg hn hz hF hle) | (go_at_call 121; with_reducible refine (spec_GetNum.calls k A c (bytesOf a0) 0 y1 p1 true _ HC.out HLE.out HA1.out).mono ?_; rintro e w2 ⟨rfl, hd⟩; have hb := hd.below; have HC2 := Aside0.mk (Kd.C_below HC.out hb); have hz := blk_below HZ0.out hb; have HZ1 := Aside0.mk hz; have HB1 : Aside0 (Below w.heap.size w w2) := ⟨below_step HB0.out hb⟩; have GL := Aside0.mk (blk_lt hz); have hm1 : ¬ w.heap.size = w2.heap.size := Nat.ne_of_lt (blk_lt hz); have hm2 : ¬ w2.heap.size = w.heap.size := Nat.ne_of_gt (blk_lt hz); have hm3 : w.heap.size < w2.heap.size := blk_lt hz; obtain ⟨z1_0, z1_1, z1_2, z1_3, z1_4, z1_5, z1_6, z1_7, z1_8, z1_9, z1_10⟩ := sr_cells hz; clear hb hd hz) | (go_at_call 96; with_reducible refine (spec_RecOk.calls k _ _ _ _ _ _ _ _ _ _ _ _ HOK.out).mono ?_; rintro e uo ⟨rfl, hb⟩; have hz := blk_below (g := w.heap.size) (o := .cells #[.int .i64 0, .int .i64 0, .int .i64 0, .int .i64 0, .int .i64 0, .int .i64 0, .int .i64 0, .int .i64 0, .int .i64 0, .string (⟨#[]⟩ : ByteArray)] 54 (0, 0)) (by repeat (with_reducible first | exact HZ1.out | refine cr_fr ?_ (by have := GL.out; omega) _ | refine blk_drewN ?_ _ | refine blk_alloc ?_ _)) hb; have hx := blk_below (g := w2.heap.size) (o := .cells #[.int .i64 y1, .int .i64 0, .int .i64 0, .int .i64 0, .int .i64 0, .int .i64 0, .int .i64 0, .int .i64 0, .int .i64 0, .string (⟨#[]⟩ : ByteArray)] 54 (0, 0)) (by refine Eq.trans (blk_new _ _) ?_; simp only [List.setIfInBounds_toArray, List.set_cons_zero, List.set_cons_succ]) hb; obtain ⟨xo_0, xo_1, xo_2, xo_3, xo_4, xo_5, xo_6, xo_7, xo_8, xo_9, xo_10⟩ := sr_cells hx; obtain ⟨zo_0, zo_1, zo_2, zo_3, zo_4, zo_5, zo_6, zo_7, zo_8, zo_9, zo_10⟩ := sr_cells hz; have HZo := Aside0.mk hz; have HBo : Aside0 (Below w.heap.size w uo) := ⟨below_step (by repeat (with_reducible first | exact HB1.out | apply below_alloc | apply pw_below_drewN | refine below_set ?_ (by first | exact Nat.le_refl _ | exact Nat.le_of_lt GL.out))) hb⟩; clear hb hz hx))
              refine bodyPost_ret (results_ct rfl _ _ w.heap.size 54 #[.int .i64 y1, .int .i64 0, .int .i64 0, .int .i64 0, .int .i64 0, .int .i64 0, .int .i64 0, .int .i64 0, .int .i64 0, .string (⟨#[]⟩ : ByteArray)] (0, 0) _ rfl (by (with_reducible repeat (first | refine blk_drewN ?_ _ | refine blk_alloc ?_ _)); with_reducible refine sr_set10 ?_; repeat (with_reducible first | exact HZo.out | refine cr_fr ?_ (by have := GL.out; omega) _ | refine blk_drewN ?_ _ | refine blk_alloc ?_ _)) hu rfl (by kernel_rfl)) rfl ?_; exact ⟨by first | rfl | (simp; done) | (simp [*]; done), by repeat (with_reducible first | exact HBo.out | apply below_alloc | apply pw_below_drewN | refine below_set ?_ (by first | exact Nat.le_refl _ | exact Nat.le_of_lt GL.out))⟩
          · rw [if_neg ep] at h
            have ep1 : (p1 != ((bytesOf a0).length : Int)) = true := bne_iff_ne.mpr ep
            clear ep
            simp only [Bool.false_eq_true, ↓reduceIte, Option.some.injEq, Prod.mk.injEq] at h
            obtain ⟨rfl, rfl, rfl, rfl, rfl, rfl, rfl, rfl, rfl, rfl, rfl⟩ := h
            go_enter Try.func53, Try.ntmps53
            go_wp2_with (first | ((with_reducible refine gate_dst (N := 11) rfl ?_); refine Kd.V_conv (w0 := w) w.heap.size 5 rfl (N := 11) rfl 9 34 _ rfl a0 rfl Try.underlying9 Try.underlying34 Try.underlying5 HSZ.out (ok := fun k_ => w.heap.size + 1 ≤ k_) (by simp) (below_alloc (Below.refl _ _) _) (by simp) ?_; intro v1 w1 hv hb hg hn; obtain ⟨A, c, rfl, hle, hF⟩ := hv; have HC := Aside0.mk (Kd.F_now hF); have HLE := Aside0.mk hle; have hz : w1.heap[w.heap.size]? = some (.cells #[.int .i64 0, .int .i64 0, .int .i64 0, .int .i64 0, .int .i64 0, .int .i64 0, .int .i64 0, .int .i64 0, .int .i64 0, .string (⟨#[]⟩ : ByteArray)] 54 (0, 0)) := blk_grown (blk_new _ _) hg (by simp); have HZ0 := Aside0.mk hz; have HB0 := Aside0.mk hb; have GL := Aside0.mk (blk_lt hz); have hn1 : ¬ w.heap.size = w1.heap.size := Nat.ne_of_lt (blk_lt hz); have hn2 : ¬ w1.heap.size = w.heap.size := Nat.ne_of_gt (blk_lt hz); have hn3 : w.heap.size < w1.heap.size := blk_lt hz; obtain ⟨z0_0, z0_1, z0_2, z0_3, z0_4, z0_5, z0_6, z0_7, z0_8, z0_9, z0_10⟩ := sr_cells hz; clear hb hg hn hz hF hle) | (go_at_call 121; with_reducible refine (spec_GetNum.calls k A c (bytesOf a0) 0 y1 p1 true _ HC.out HLE.out HA1.out).mono ?_; rintro e w2 ⟨rfl, hd⟩; have hb := hd.below; have HC2 := Aside0.mk (Kd.C_below HC.out hb); have hz := blk_below HZ0.out hb; have HZ1 := Aside0.mk hz; have HB1 : Aside0 (Below w.heap.size w w2) := ⟨below_step HB0.out hb⟩; have GL := Aside0.mk (blk_lt hz); have hm1 : ¬ w.heap.size = w2.heap.size := Nat.ne_of_lt (blk_lt hz); have hm2 : ¬ w2.heap.size = w.heap.size := Nat.ne_of_gt (blk_lt hz); have hm3 : w.heap.size < w2.heap.size := blk_lt hz; obtain ⟨z1_0, z1_1, z1_2, z1_3, z1_4, z1_5, z1_6, z1_7, z1_8, z1_9, z1_10⟩ := sr_cells hz; clear hb hd hz))
            refine bodyPost_ret (results_ct rfl _ _ w.heap.size 54 #[.int .i64 0, .int .i64 0, .int .i64 0, .int .i64 0, .int .i64 0, .int .i64 0, .int .i64 0, .int .i64 0, .int .i64 0, .string (⟨#[]⟩ : ByteArray)] (0, 0) _ rfl (by (with_reducible repeat (first | refine blk_drewN ?_ _ | refine blk_alloc ?_ _)); with_reducible refine sr_set10 ?_; repeat (with_reducible first | exact HZ1.out | refine cr_fr ?_ (by have := GL.out; omega) _ | refine blk_drewN ?_ _ | refine blk_alloc ?_ _)) hu rfl (by kernel_rfl)) rfl ?_; exact ⟨by first | rfl | (simp; done) | (simp [*]; done), by repeat (with_reducible first | exact HB1.out | apply below_alloc | apply pw_below_drewN | refine below_set ?_ (by first | exact Nat.le_refl _ | exact Nat.le_of_lt GL.out))⟩


/-! ### impl_within: function 79 -/
def impl_within.f (a0 : Int) (a1 : Int) (a2 : Int) : Option (Bool) := if a0 ≥ a1 then (some (decide (a0 ≤ a2))) else (some false)
set_option maxHeartbeats 8000000 in
set_option maxRecDepth 100000 in
theorem impl_within.calls (a0 : Int) (a1 : Int) (a2 : Int) (r : Bool) (w : World) (h : impl_within.f a0 a1 a2 = some r) :
 Calls Try.prog 79 #[.int .i64 a0, .int .i64 a1, .int .i64 a2] w fun e w' => e = .returned (.bool r) ∧ Drawn0 w w' := by
 have H : (if a0 ≥ a1 then (some (decide (a0 ≤ a2))) else (some false)) = some r := h
 clear h
 by_cases c4 : a0 ≥ a1
 ·rw [if_pos c4] at H
  have c4b0 : decide (a1 ≤ a0) = true := decide_eq_true c4
  clear c4
  obtain rfl := Option.some.inj H
  go_enter Try.func79, Try.ntmps79
  go_wp2
  go_ret
  exact ⟨by first | rfl | (simp; done) | (simp [*]; done), by repeat (first | exact Drawn0.refl _ | apply Drawn0.step)⟩
 ·rw [if_neg c4] at H
  have c4b0 : decide (a1 ≤ a0) = false := decide_eq_false c4
  clear c4
  obtain rfl := Option.some.inj H
  go_enter Try.func79, Try.ntmps79
  go_wp2
  go_ret
  exact ⟨by first | rfl | (simp; done) | (simp [*]; done), by repeat (first | exact Drawn0.refl _ | apply Drawn0.step)⟩

/-! ### impl_isWhole: function 149 -/
def impl_isWhole.f (a0 : Int) : Option (Bool) := (impl_within.f a0 0 1000000000).bind fun t119 => (some t119)
set_option maxHeartbeats 8000000 in
set_option maxRecDepth 100000 in
theorem impl_isWhole.calls (a0 : Int) (r : Bool) (w : World) (h : impl_isWhole.f a0 = some r) :
 Calls Try.prog 149 #[.int .i64 a0] w fun e w' => e = .returned (.bool r) ∧ Drawn0 w w' := by
 have H : ((impl_within.f a0 0 1000000000).bind fun t119 => (some t119)) = some r := h
 clear h
 replace H := Option.bind_eq_some_iff.mp H
 obtain ⟨t119, A20, H⟩ := H
 replace H : (some t119) = some r := H
 have A2 := Aside0.mk A20
 clear A20
 obtain rfl := Option.some.inj H
 go_enter Try.func149, Try.ntmps149
 go_wp2_with (first | ((with_reducible refine gate_callee (f := 79) rfl ?_); refine goesL_ (some 4) rfl rfl Try.func79 (by kernel_rfl) rfl #[.int .i64 a0, .int .i64 0, .int .i64 1000000000] rfl (by (try simp only [List.map_toArray, List.map_cons, List.map_nil]); first | done | rfl | (simp only [List.length_drop, List.length_take]; rfl)) ?_; (with_reducible refine (impl_within.calls a0 0 1000000000 t119 _ A2.out).mono ?_); rintro e w' ⟨rfl, ⟨nd, rfl⟩⟩; refine ⟨_, rfl, ?_⟩))
 go_ret
 exact ⟨by first | rfl | (simp; done) | (simp [*]; done), by repeat (first | exact Drawn0.refl _ | apply Drawn0.step)⟩

/-! ### impl_isRelease: function 76 -/
def impl_isRelease.f (a0 : Int) : Option (Bool) := (impl_within.f a0 1 1000).bind fun t120 => (some t120)
set_option maxHeartbeats 8000000 in
set_option maxRecDepth 100000 in
theorem impl_isRelease.calls (a0 : Int) (r : Bool) (w : World) (h : impl_isRelease.f a0 = some r) :
 Calls Try.prog 76 #[.int .i64 a0] w fun e w' => e = .returned (.bool r) ∧ Drawn0 w w' := by
 have H : ((impl_within.f a0 1 1000).bind fun t120 => (some t120)) = some r := h
 clear h
 replace H := Option.bind_eq_some_iff.mp H
 obtain ⟨t120, A20, H⟩ := H
 replace H : (some t120) = some r := H
 have A2 := Aside0.mk A20
 clear A20
 obtain rfl := Option.some.inj H
 go_enter Try.func76, Try.ntmps76
 go_wp2_with (first | ((with_reducible refine gate_callee (f := 79) rfl ?_); refine goesL_ (some 4) rfl rfl Try.func79 (by kernel_rfl) rfl #[.int .i64 a0, .int .i64 1, .int .i64 1000] rfl (by (try simp only [List.map_toArray, List.map_cons, List.map_nil]); first | done | rfl | (simp only [List.length_drop, List.length_take]; rfl)) ?_; (with_reducible refine (impl_within.calls a0 1 1000 t120 _ A2.out).mono ?_); rintro e w' ⟨rfl, ⟨nd, rfl⟩⟩; refine ⟨_, rfl, ?_⟩))
 go_ret
 exact ⟨by first | rfl | (simp; done) | (simp [*]; done), by repeat (first | exact Drawn0.refl _ | apply Drawn0.step)⟩

/-! ### impl_isSize: function 77 -/
def impl_isSize.f (a0 : Int) : Option (Bool) := (impl_within.f a0 0 1000).bind fun t121 => (some t121)
set_option maxHeartbeats 8000000 in
set_option maxRecDepth 100000 in
theorem impl_isSize.calls (a0 : Int) (r : Bool) (w : World) (h : impl_isSize.f a0 = some r) :
 Calls Try.prog 77 #[.int .i64 a0] w fun e w' => e = .returned (.bool r) ∧ Drawn0 w w' := by
 have H : ((impl_within.f a0 0 1000).bind fun t121 => (some t121)) = some r := h
 clear h
 replace H := Option.bind_eq_some_iff.mp H
 obtain ⟨t121, A20, H⟩ := H
 replace H : (some t121) = some r := H
 have A2 := Aside0.mk A20
 clear A20
 obtain rfl := Option.some.inj H
 go_enter Try.func77, Try.ntmps77
 go_wp2_with (first | ((with_reducible refine gate_callee (f := 79) rfl ?_); refine goesL_ (some 4) rfl rfl Try.func79 (by kernel_rfl) rfl #[.int .i64 a0, .int .i64 0, .int .i64 1000] rfl (by (try simp only [List.map_toArray, List.map_cons, List.map_nil]); first | done | rfl | (simp only [List.length_drop, List.length_take]; rfl)) ?_; (with_reducible refine (impl_within.calls a0 0 1000 t121 _ A2.out).mono ?_); rintro e w' ⟨rfl, ⟨nd, rfl⟩⟩; refine ⟨_, rfl, ?_⟩))
 go_ret
 exact ⟨by first | rfl | (simp; done) | (simp [*]; done), by repeat (first | exact Drawn0.refl _ | apply Drawn0.step)⟩

/-! ### impl_isNode: function 169 -/
def impl_isNode.f (a0 : Int) : Option (Bool) := (impl_within.f a0 0 4).bind fun t122 => (some t122)
set_option maxHeartbeats 8000000 in
set_option maxRecDepth 100000 in
theorem impl_isNode.calls (a0 : Int) (r : Bool) (w : World) (h : impl_isNode.f a0 = some r) :
 Calls Try.prog 169 #[.int .i64 a0] w fun e w' => e = .returned (.bool r) ∧ Drawn0 w w' := by
 have H : ((impl_within.f a0 0 4).bind fun t122 => (some t122)) = some r := h
 clear h
 replace H := Option.bind_eq_some_iff.mp H
 obtain ⟨t122, A20, H⟩ := H
 replace H : (some t122) = some r := H
 have A2 := Aside0.mk A20
 clear A20
 obtain rfl := Option.some.inj H
 go_enter Try.func169, Try.ntmps169
 go_wp2_with (first | ((with_reducible refine gate_callee (f := 79) rfl ?_); refine goesL_ (some 4) rfl rfl Try.func79 (by kernel_rfl) rfl #[.int .i64 a0, .int .i64 0, .int .i64 4] rfl (by (try simp only [List.map_toArray, List.map_cons, List.map_nil]); first | done | rfl | (simp only [List.length_drop, List.length_take]; rfl)) ?_; (with_reducible refine (impl_within.calls a0 0 4 t122 _ A2.out).mono ?_); rintro e w' ⟨rfl, ⟨nd, rfl⟩⟩; refine ⟨_, rfl, ?_⟩))
 go_ret
 exact ⟨by first | rfl | (simp; done) | (simp [*]; done), by repeat (first | exact Drawn0.refl _ | apply Drawn0.step)⟩

end Go.Proofs.Ytkfoojknjmgjdaa.QFnExactRecRead
