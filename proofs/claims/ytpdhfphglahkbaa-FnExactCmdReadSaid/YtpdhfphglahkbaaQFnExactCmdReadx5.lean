-- A walk, by a program of this session.
import Derived.Test.YtpdhfphglahkbaaQFnExactCmdReadx0
import Derived.Test.YtpdhfphglahkbaaQFnExactCmdReadx4
namespace Go.Proofs.Ytpdhfphglahkbaa.QFnExactCmdRead
open Go.RowKit Go.Proofs.YtpdhfphglahkbaaW.PrintWords Go.Proofs.YtpdhfphglahkbaaW.PrintLast Go.Proofs.YtpdhfphglahkbaaW.PrintMore
attribute [local go_sem] max2_int min2_int max_two min_two max_three min_three max_four min_four   -- for this text's walks alone
set_option linter.unusedVariables false
set_option linter.unusedSimpArgs false

/-! ### impl_GetNum: function 34 -/
mutual
def impl_GetNum.l0 : Nat → List Int → Int → Int → Int → Option (Int × Int × Bool)
 | 0, _, _, _, _ => none
 | k + 1, x0, x1, x7, x8 => if x8 < 9 then (impl_GetNum.j1 k x0 x1 x7 x8 (decide (x8 < (wrap64 ((x0.length : Int) - x1))))) else (impl_GetNum.j1 k x0 x1 x7 x8 false)
def impl_GetNum.j1 : Nat → List Int → Int → Int → Int → Bool → Option (Int × Int × Bool)
 | 0, _, _, _, _, _ => none
 | k + 1, x0, x1, x7, x8, x21 => if x21 = true then (if 0 ≤ (wrap64 (x1 + x8)) then (if (wrap64 (x1 + x8)) < (x0.length : Int) then (if 0 ≤ (wrap64 (7 * x8)) then (if (wrap64 (rd x0 (wrap64 (x1 + x8)))) > 127 then (impl_GetNum.l0 k x0 x1 (Go.bits .or .i64 x7 (shl .i64 (Go.bits .and .i64 (wrap64 (rd x0 (wrap64 (x1 + x8)))) 127) (wrap64 (7 * x8)))) (wrap64 (x8 + 1))) else (if x8 > 0 then (if (wrap64 (rd x0 (wrap64 (x1 + x8)))) = 0 then (some (0, 0, false)) else (some (Go.bits .or .i64 x7 (shl .i64 (Go.bits .and .i64 (wrap64 (rd x0 (wrap64 (x1 + x8)))) 127) (wrap64 (7 * x8))), wrap64 ((wrap64 (x1 + x8)) + 1), true))) else (some (Go.bits .or .i64 x7 (shl .i64 (Go.bits .and .i64 (wrap64 (rd x0 (wrap64 (x1 + x8)))) 127) (wrap64 (7 * x8))), wrap64 ((wrap64 (x1 + x8)) + 1), true)))) else (none)) else (none)) else (none)) else (some (0, 0, false))
end
def impl_GetNum.f (k : Nat) (l0 : List Int) (a1 : Int) : Option (Int × Int × Bool) := if a1 < 0 then (some (0, 0, false)) else (impl_GetNum.l0 k l0 a1 0 0)
set_option maxRecDepth 100000 in
theorem impl_GetNum.mono_l : ∀ k, (∀ y0 y1 y2 y3, LeO (impl_GetNum.l0 k y0 y1 y2 y3) (impl_GetNum.l0 (k + 1) y0 y1 y2 y3)) ∧ (∀ y0 y1 y2 y3 y4, LeO (impl_GetNum.j1 k y0 y1 y2 y3 y4) (impl_GetNum.j1 (k + 1) y0 y1 y2 y3 y4))
 | 0 => ⟨fun _ _ _ _ r h => by simp [impl_GetNum.l0] at h, fun _ _ _ _ _ r h => by simp [impl_GetNum.j1] at h⟩
 | k + 1 => by
  obtain ⟨ih0, ih1⟩ := impl_GetNum.mono_l k
  refine ⟨?_, ?_⟩
  ·intro y0 y1 y2 y3
   unfold impl_GetNum.l0
   repeat' first
   | (with_reducible exact ih0 _ _ _ _)
   | (with_reducible exact ih1 _ _ _ _ _)
   | (with_reducible exact LeO.refl _)
   | (with_reducible exact LeO.none _)
   | (with_reducible refine LeO.ite ?_ ?_)
   | (with_reducible refine LeO.bind ?_ (fun _ => ?_))
   | exact ih0 _ _ _ _
   | exact ih1 _ _ _ _ _
   | exact LeO.none _
   | refine LeO.ite ?_ ?_
   | refine LeO.bind ?_ (fun _ => ?_)
  ·intro y0 y1 y2 y3 y4
   unfold impl_GetNum.j1
   repeat' first
   | (with_reducible exact ih0 _ _ _ _)
   | (with_reducible exact ih1 _ _ _ _ _)
   | (with_reducible exact LeO.refl _)
   | (with_reducible exact LeO.none _)
   | (with_reducible refine LeO.ite ?_ ?_)
   | (with_reducible refine LeO.bind ?_ (fun _ => ?_))
   | exact ih0 _ _ _ _
   | exact ih1 _ _ _ _ _
   | exact LeO.none _
   | refine LeO.ite ?_ ?_
   | refine LeO.bind ?_ (fun _ => ?_)
theorem impl_GetNum.mono : ∀ a0 a1 k, LeO (impl_GetNum.f k a0 a1) (impl_GetNum.f (k + 1) a0 a1) := by
 intro a0 a1 k
 obtain ⟨ih0, ih1⟩ := impl_GetNum.mono_l k
 unfold impl_GetNum.f
 repeat' first
  | (with_reducible exact ih0 _ _ _ _)
  | (with_reducible exact ih1 _ _ _ _ _)
  | (with_reducible exact LeO.refl _)
  | (with_reducible exact LeO.none _)
  | (with_reducible refine LeO.ite ?_ ?_)
  | (with_reducible refine LeO.bind ?_ (fun _ => ?_))
  | exact ih0 _ _ _ _
  | exact ih1 _ _ _ _ _
  | exact LeO.none _
  | refine LeO.ite ?_ ?_
  | refine LeO.bind ?_ (fun _ => ?_)
set_option maxHeartbeats 8000000 in
set_option maxRecDepth 100000 in
theorem impl_GetNum.calls (k : Nat) (A0 : Option Addr) (c0 : Nat) (l0 : List Int) (a1 : Int) (r1 : Int) (r2 : Int) (r3 : Bool) (w : World) (hr0 : Kd.C (Kd.int .u8) w A0 l0.length l0) (hc0 : l0.length ≤ c0) (h : impl_GetNum.f k l0 a1 = some (r1, r2, r3)) :
 Calls Try.prog 34 #[.slice A0 l0.length c0, .int .i64 a1] w fun e w' => e = .returned (.tuple #[.int .i64 r1, .int .i64 r2, .bool r3]) ∧ Drawn0 w w' := by
 have HR0 := Aside0.mk hr0
 have HC0 := Aside0.mk hc0
 clear hr0 hc0
 have H : (if a1 < 0 then (some (0, 0, false)) else (impl_GetNum.l0 k l0 a1 0 0)) = some (r1, r2, r3) := h
 clear h
 by_cases c3 : a1 < 0
 ·rw [if_pos c3] at H
  have c3b0 : decide (a1 < 0) = true := decide_eq_true c3
  clear c3
  simp only [Option.some.injEq, Prod.mk.injEq] at H
  obtain ⟨rfl, rfl, rfl⟩ := H
  go_enter Try.func34, Try.ntmps34
  go_wp2
  go_ret3
  exact ⟨by first | rfl | (simp; done) | (simp [*]; done), by repeat (first | exact Drawn0.refl _ | apply Drawn0.step)⟩
 ·rw [if_neg c3] at H
  have c3b0 : decide (a1 < 0) = false := decide_eq_false c3
  clear c3
  have H' := Aside0.mk H
  clear H
  go_enter Try.func34, Try.ntmps34
  go_wp2
  go_loopg [7, 8] k (fun kq v7 v8 w' => ∃ (x7_1 : Int) (x8_1 : Int), v7 = .int .i64 x7_1 ∧ v8 = .int .i64 x8_1 ∧ Aside0 (impl_GetNum.l0 kq l0 a1 x7_1 x8_1 = some (r1, r2, r3)) ∧ Aside0 (kq ≤ k) ∧ Drawn0 w w')
  case atStart => exact ⟨(0), (0), (by first | rfl | (simp; done) | (simp [*]; done)), (by first | rfl | (simp; done) | (simp [*]; done)), H', ⟨Nat.le_refl _⟩, by repeat (first | exact Drawn0.refl _ | apply Drawn0.step)⟩
  case round =>
   clear H'
   try clear p2
   try clear c3
   try clear c3b0
   obtain ⟨x7_1, x8_1, rfl, rfl, HA, HK1, ⟨m1, rfl⟩⟩ := hrel
   cases gk with
   | zero => exact absurd HA.out (by simp [impl_GetNum.l0])
   | succ k1 =>
    have H := HA.out
    clear HA
    simp only [impl_GetNum.l0] at H
    have HC4 := Aside0.mk H
    clear H
    go_upto_region 5 with (fail)
    go_cut [21] (fun v21 wc => ∃ (kq : Nat) (x21_3 : Bool), v21 = .bool x21_3 ∧ Aside0 (impl_GetNum.j1 kq l0 a1 x7_1 x8_1 x21_3 = some (r1, r2, r3)) ∧ Aside0 (kq ≤ k1) ∧ Drawn0 w wc)
    case first =>
     have H := HC4.out
     clear HC4
     by_cases c5 : x8_1 < 9
     ·rw [if_pos c5] at H
      have c5b0 : decide (x8_1 < 9) = true := decide_eq_true c5
      clear c5
      (first | rw [c5b0] | (simp only [i64_w, i32_w]; rw [c5b0]) | skip)
      have H' := Aside0.mk H
      clear H
      go_wp2
      go_meet
      case rel => exact ⟨_, (decide (x8_1 < (wrap64 ((l0.length : Int) - a1)))), (by first | rfl | (simp; done) | (simp [*]; done)), H', ⟨by have := HK1.out; first | omega | exact Nat.le_refl _⟩, by repeat (first | exact Drawn0.refl _ | apply Drawn0.step)⟩
     ·rw [if_neg c5] at H
      have c5b0 : decide (x8_1 < 9) = false := decide_eq_false c5
      clear c5
      (first | rw [c5b0] | (simp only [i64_w, i32_w]; rw [c5b0]) | skip)
      have H' := Aside0.mk H
      clear H
      go_wp2
      go_meet
      case rel => exact ⟨_, (false), (by first | rfl | (simp; done) | (simp [*]; done)), H', ⟨by have := HK1.out; first | omega | exact Nat.le_refl _⟩, by repeat (first | exact Drawn0.refl _ | apply Drawn0.step)⟩
    case rest =>
     clear HC4
     try clear p2
     try clear c3
     try clear c3b0
     try clear c5
     try clear c5b0
     try clear p2
     obtain ⟨kq, x21_3, rfl, HA, HJ3, ⟨mc3, rfl⟩⟩ := hcut
     cases kq with
     | zero => exact absurd HA.out (by simp [impl_GetNum.j1])
     | succ kj3 =>
      have H := HA.out
      clear HA
      simp only [impl_GetNum.j1] at H
      by_cases c6 : x21_3 = true
      ·subst c6
       have H1 : (if 0 ≤ (wrap64 (a1 + x8_1)) then (if (wrap64 (a1 + x8_1)) < (l0.length : Int) then (if 0 ≤ (wrap64 (7 * x8_1)) then (if (wrap64 (rd l0 (wrap64 (a1 + x8_1)))) > 127 then (impl_GetNum.l0 kj3 l0 a1 (Go.bits .or .i64 x7_1 (shl .i64 (Go.bits .and .i64 (wrap64 (rd l0 (wrap64 (a1 + x8_1)))) 127) (wrap64 (7 * x8_1)))) (wrap64 (x8_1 + 1))) else (if x8_1 > 0 then (if (wrap64 (rd l0 (wrap64 (a1 + x8_1)))) = 0 then (some (0, 0, false)) else (some (Go.bits .or .i64 x7_1 (shl .i64 (Go.bits .and .i64 (wrap64 (rd l0 (wrap64 (a1 + x8_1)))) 127) (wrap64 (7 * x8_1))), wrap64 ((wrap64 (a1 + x8_1)) + 1), true))) else (some (Go.bits .or .i64 x7_1 (shl .i64 (Go.bits .and .i64 (wrap64 (rd l0 (wrap64 (a1 + x8_1)))) 127) (wrap64 (7 * x8_1))), wrap64 ((wrap64 (a1 + x8_1)) + 1), true)))) else (none)) else (none)) else (none)) = some (r1, r2, r3) := by rw [if_pos rfl] at H; exact H
       clear H
       have H := H1
       clear H1
       obtain ⟨ji7, hji7⟩ : ∃ j_ : Int, (wrap64 (a1 + x8_1)) = j_ := ⟨_, rfl⟩
       replace H : (if 0 ≤ (ji7) then (if (ji7) < (l0.length : Int) then (if 0 ≤ (wrap64 (7 * x8_1)) then (if (wrap64 (rd l0 (ji7))) > 127 then (impl_GetNum.l0 kj3 l0 a1 (Go.bits .or .i64 x7_1 (shl .i64 (Go.bits .and .i64 (wrap64 (rd l0 (ji7))) 127) (wrap64 (7 * x8_1)))) (wrap64 (x8_1 + 1))) else (if x8_1 > 0 then (if (wrap64 (rd l0 (ji7))) = 0 then (some (0, 0, false)) else (some (Go.bits .or .i64 x7_1 (shl .i64 (Go.bits .and .i64 (wrap64 (rd l0 (ji7))) 127) (wrap64 (7 * x8_1))), wrap64 ((ji7) + 1), true))) else (some (Go.bits .or .i64 x7_1 (shl .i64 (Go.bits .and .i64 (wrap64 (rd l0 (ji7))) 127) (wrap64 (7 * x8_1))), wrap64 ((ji7) + 1), true)))) else (none)) else (none)) else (none)) = some (r1, r2, r3) := by first | (rw [hji7] at H; exact H) | (simp only [hji7] at H ⊢; exact H)
       have hji7w : (IntKind.i64.wrap (a1 + x8_1)) = ji7 := (i64_w _).trans hji7
       by_cases c8 : 0 ≤ (ji7)
       ·rw [if_pos c8] at H
        have c8b0 : decide (0 ≤ (ji7)) = true := decide_eq_true c8
        clear c8
        by_cases c9 : (ji7) < (l0.length : Int)
        ·rw [if_pos c9] at H
         have c9b0 : decide ((ji7) < (l0.length : Int)) = true := decide_eq_true c9
         clear c9
         obtain ⟨ji10, hji10⟩ : ∃ j_ : Int, (wrap64 (7 * x8_1)) = j_ := ⟨_, rfl⟩
         replace H : (if 0 ≤ (ji10) then (if (wrap64 (rd l0 (ji7))) > 127 then (impl_GetNum.l0 kj3 l0 a1 (Go.bits .or .i64 x7_1 (shl .i64 (Go.bits .and .i64 (wrap64 (rd l0 (ji7))) 127) (ji10))) (wrap64 (x8_1 + 1))) else (if x8_1 > 0 then (if (wrap64 (rd l0 (ji7))) = 0 then (some (0, 0, false)) else (some (Go.bits .or .i64 x7_1 (shl .i64 (Go.bits .and .i64 (wrap64 (rd l0 (ji7))) 127) (ji10)), wrap64 ((ji7) + 1), true))) else (some (Go.bits .or .i64 x7_1 (shl .i64 (Go.bits .and .i64 (wrap64 (rd l0 (ji7))) 127) (ji10)), wrap64 ((ji7) + 1), true)))) else (none)) = some (r1, r2, r3) := by first | (rw [hji10] at H; exact H) | (simp only [hji10] at H ⊢; exact H)
         have hji10w : (IntKind.i64.wrap (7 * x8_1)) = ji10 := (i64_w _).trans hji10
         by_cases c11 : 0 ≤ (ji10)
         ·rw [if_pos c11] at H
          have c11b0 := eq_true c11
          have c11b1 : decide (0 ≤ (ji10)) = true := decide_eq_true c11
          clear c11
          obtain ⟨ji12, hji12⟩ : ∃ j_ : Int, (shl .i64 (Go.bits .and .i64 (wrap64 (rd l0 (ji7))) 127) (ji10)) = j_ := ⟨_, rfl⟩
          replace H : (if (wrap64 (rd l0 (ji7))) > 127 then (impl_GetNum.l0 kj3 l0 a1 (Go.bits .or .i64 x7_1 (ji12)) (wrap64 (x8_1 + 1))) else (if x8_1 > 0 then (if (wrap64 (rd l0 (ji7))) = 0 then (some (0, 0, false)) else (some (Go.bits .or .i64 x7_1 (ji12), wrap64 ((ji7) + 1), true))) else (some (Go.bits .or .i64 x7_1 (ji12), wrap64 ((ji7) + 1), true)))) = some (r1, r2, r3) := by first | (rw [hji12] at H; exact H) | (simp only [hji12] at H ⊢; exact H)
          have hji12_ : (IntKind.i64.wrap ((Go.bits .and .i64 (wrap64 (rd l0 (ji7))) 127) * 2 ^ min (ji10).toNat 64)) = ji12 := hji12
          have hji12z : (ji10) ≤ 64 → (IntKind.i64.wrap ((Go.bits .and .i64 (wrap64 (rd l0 (ji7))) 127) * 2 ^ (ji10).toNat)) = ji12 := shl_small hji12
          have hji12y : (wrap64 ((Go.bits .and .i64 (wrap64 (rd l0 (ji7))) 127) * 2 ^ min (ji10).toNat 64)) = ji12 := (i64_w _).symm.trans hji12_
          have hji12x : (ji10) ≤ 64 → (wrap64 ((Go.bits .and .i64 (wrap64 (rd l0 (ji7))) 127) * 2 ^ (ji10).toNat)) = ji12 := fun h_ => (i64_w _).symm.trans (hji12z h_)
          by_cases c13 : (wrap64 (rd l0 (ji7))) > 127
          ·rw [if_pos c13] at H
           have c13b0 : decide (127 < (wrap64 (rd l0 (ji7)))) = true := decide_eq_true c13
           clear c13
           have H' := Aside0.mk H
           clear H
           have p123 : 0 ≤ ((ji7) : Int) := of_decide_eq_true (by first | (with_reducible assumption) | assumption)
           have q123 : (ji7) < (l0.length : Int) := of_decide_eq_true (by first | (with_reducible assumption) | assumption)
           obtain ⟨ad123, e123, hx123_0⟩ := Kd.at_int HR0.out (ji7) p123 q123
           cases e123
           replace p123 := eq_true p123
           replace q123 := eq_true q123
           go_wp2
           go_roundg kj3
           case measure => have := HK1.out; have := HJ3.out; omega
           case rel => exact ⟨(Go.bits .or .i64 x7_1 (ji12)), (wrap64 (x8_1 + 1)), (by first | rfl | (simp; done) | (simp only [← hji12] <;> (first | rfl | simp)) | (simp [*]; done)), (by first | rfl | (simp; done) | (simp [*]; done)), H', ⟨by have := HK1.out; have := HJ3.out; omega⟩, by repeat (first | exact Drawn0.refl _ | apply Drawn0.step)⟩
          ·rw [if_neg c13] at H
           have c13b0 : decide (127 < (wrap64 (rd l0 (ji7)))) = false := decide_eq_false c13
           clear c13
           by_cases c14 : x8_1 > 0
           ·rw [if_pos c14] at H
            have c14b0 : decide (0 < x8_1) = true := decide_eq_true c14
            clear c14
            by_cases c15 : (wrap64 (rd l0 (ji7))) = 0
            ·rw [if_pos c15] at H
             have c15b0 : ((wrap64 (rd l0 (ji7))) == 0) = true := beq_iff_eq.mpr c15
             have c15b1 : ((wrap64 (rd l0 (ji7))) != 0) = false := bne_eq_false_iff_eq.mpr c15
             clear c15
             simp only [Option.some.injEq, Prod.mk.injEq] at H
             obtain ⟨rfl, rfl, rfl⟩ := H
             have p123 : 0 ≤ ((ji7) : Int) := of_decide_eq_true (by first | (with_reducible assumption) | assumption)
             have q123 : (ji7) < (l0.length : Int) := of_decide_eq_true (by first | (with_reducible assumption) | assumption)
             obtain ⟨ad123, e123, hx123_0⟩ := Kd.at_int HR0.out (ji7) p123 q123
             cases e123
             replace p123 := eq_true p123
             replace q123 := eq_true q123
             go_wp2
             go_ret3
             exact ⟨by first | rfl | (simp; done) | (simp only [← hji7, ← hji10, ← hji12] <;> (first | rfl | simp)) | (simp [*]; done), by repeat (first | exact Drawn0.refl _ | apply Drawn0.step)⟩
            ·rw [if_neg c15] at H
             have c15b0 : ((wrap64 (rd l0 (ji7))) == 0) = false := beq_eq_false_iff_ne.mpr c15
             have c15b1 : ((wrap64 (rd l0 (ji7))) != 0) = true := bne_iff_ne.mpr c15
             simp only [Option.some.injEq, Prod.mk.injEq] at H
             obtain ⟨rfl, rfl, rfl⟩ := H
             have p123 : 0 ≤ ((ji7) : Int) := of_decide_eq_true (by first | (with_reducible assumption) | assumption)
             have q123 : (ji7) < (l0.length : Int) := of_decide_eq_true (by first | (with_reducible assumption) | assumption)
             obtain ⟨ad123, e123, hx123_0⟩ := Kd.at_int HR0.out (ji7) p123 q123
             cases e123
             replace p123 := eq_true p123
             replace q123 := eq_true q123
             go_wp2
             go_ret3
             exact ⟨by first | rfl | (simp; done) | (simp only [← hji7, ← hji10, ← hji12] <;> (first | rfl | simp)) | (simp [*]; done), by repeat (first | exact Drawn0.refl _ | apply Drawn0.step)⟩
           ·rw [if_neg c14] at H
            have c14b0 : decide (0 < x8_1) = false := decide_eq_false c14
            clear c14
            simp only [Option.some.injEq, Prod.mk.injEq] at H
            obtain ⟨rfl, rfl, rfl⟩ := H
            have p123 : 0 ≤ ((ji7) : Int) := of_decide_eq_true (by first | (with_reducible assumption) | assumption)
            have q123 : (ji7) < (l0.length : Int) := of_decide_eq_true (by first | (with_reducible assumption) | assumption)
            obtain ⟨ad123, e123, hx123_0⟩ := Kd.at_int HR0.out (ji7) p123 q123
            cases e123
            replace p123 := eq_true p123
            replace q123 := eq_true q123
            go_wp2
            go_ret3
            exact ⟨by first | rfl | (simp; done) | (simp only [← hji7, ← hji10, ← hji12] <;> (first | rfl | simp)) | (simp [*]; done), by repeat (first | exact Drawn0.refl _ | apply Drawn0.step)⟩
         ·rw [if_neg c11] at H
          exact absurd H (by simp)
        ·rw [if_neg c9] at H
         exact absurd H (by simp)
       ·rw [if_neg c8] at H
        exact absurd H (by simp)
      ·replace c6 := Bool.eq_false_iff.mpr c6
       subst c6
       have H1 : (some (0, 0, false)) = some (r1, r2, r3) := by rw [if_neg (show ¬ (false = true) by decide)] at H; exact H
       clear H
       have H := H1
       clear H1
       simp only [Option.some.injEq, Prod.mk.injEq] at H
       obtain ⟨rfl, rfl, rfl⟩ := H
       go_wp2
       go_ret3
       exact ⟨by first | rfl | (simp; done) | (simp [*]; done), by repeat (first | exact Drawn0.refl _ | apply Drawn0.step)⟩

/-! ### impl_reader_num: function 113 -/
structure IsRd (w0 w : World) (g : Nat) (A : Option Addr) (c : Nat) (l : List Int) (at_ : Int) (bad : Bool) : Prop where
  blk : w.heap[g]? = some (.cells #[.slice A l.length c, .int .i64 at_, .bool bad] 99 (0, 0))
  cap : l.length ≤ c
  ge : w0.heap.size ≤ g
  bel : Below w0.heap.size w0 w
  rd : Kd.C (Kd.int .u8) w0 A l.length l
section
variable {w0 w : World} {g : Nat} {A : Option Addr} {c : Nat} {l : List Int} {at_ : Int} {bad : Bool}
theorem IsRd.now (h : IsRd w0 w g A c l at_ bad) : Kd.C (Kd.int .u8) w A l.length l := Kd.C_below h.rd h.bel
theorem IsRd.drewN (h : IsRd w0 w g A c l at_ bad) (n : Nat) : IsRd w0 (w.drewN n) g A c l at_ bad := ⟨blk_drewN h.blk n, h.cap, h.ge, pw_below_drewN h.bel n, h.rd⟩
theorem IsRd.drew (h : IsRd w0 w g A c l at_ bad) : IsRd w0 w.drew g A c l at_ bad := ⟨blk_drew h.blk, h.cap, h.ge, below_drew h.bel, h.rd⟩
theorem IsRd.alloc (h : IsRd w0 w g A c l at_ bad) (o : Obj) : IsRd w0 (w.alloc o) g A c l at_ bad := ⟨blk_alloc h.blk o, h.cap, h.ge, below_alloc h.bel o, h.rd⟩
theorem IsRd.set1 (h : IsRd w0 w g A c l at_ bad) (v : Int) : IsRd w0 (w.setCell ⟨g, 1, none⟩ (.int .i64 v)) g A c l v bad := ⟨(blk_set h.blk 1 _).trans rfl, h.cap, h.ge, below_set h.bel h.ge, h.rd⟩
theorem IsRd.set2 (h : IsRd w0 w g A c l at_ bad) (v : Bool) : IsRd w0 (w.setCell ⟨g, 2, none⟩ (.bool v)) g A c l at_ v := ⟨(blk_set h.blk 2 _).trans rfl, h.cap, h.ge, below_set h.bel h.ge, h.rd⟩
theorem IsRd.far (h : IsRd w0 w g A c l at_ bad) {b i : Nat} {v : Value} (hb : w0.heap.size ≤ b) (hne : g ≠ b) : IsRd w0 (w.setCell ⟨b, i, none⟩ v) g A c l at_ bad := ⟨blk_far h.blk hne v, h.cap, h.ge, below_set h.bel hb, h.rd⟩
theorem IsRd.step (h : IsRd w0 w g A c l at_ bad) {w' : World} (hb : Below w.heap.size w w') : IsRd w0 w' g A c l at_ bad := ⟨blk_below h.blk hb, h.cap, h.ge, below_step h.bel hb, h.rd⟩
theorem IsRd.lt (h : IsRd w0 w g A c l at_ bad) : g < w.heap.size := blk_lt h.blk
end
theorem IsRd.made (w : World) (A : Option Addr) (c : Nat) (l : List Int) (at_ : Int) (hr : Kd.C (Kd.int .u8) w A l.length l) (hc : l.length ≤ c) :
    IsRd w (w.alloc (.cells #[.slice A l.length c, .int .i64 at_, .bool false] 99 (0, 0))) w.heap.size A c l at_ false :=
  ⟨blk_new w _, hc, Nat.le_refl _, below_alloc (Below.refl _ _) _, hr⟩
theorem keep_fr {w W : World} {g b i : Nat} (h : KeepBut w W g none) (hb : w.heap.size ≤ b) (v : Value) : KeepBut w (W.setCell ⟨b, i, none⟩ v) g none :=
  ⟨by have := h.1; simp only [World.setCell, Array.size_modify]; exact this, fun j hj hn hr => (Below.heap_setCell W ⟨b, i, none⟩ v j (by show j ≠ b; omega)).trans (h.2 j hj hn hr)⟩
def rdNum (k : Nat) (l : List Int) (at_ : Int) (bad : Bool) : Option (Int × Int × Bool) :=
  (impl_GetNum.f k l at_).bind fun t => some (if bad = true then (0, at_, true) else if t.2.2 = true then (t.1, t.2.1, false) else (0, at_, true))
set_option maxHeartbeats 4000000 in
set_option maxRecDepth 100000 in
theorem rd_num (k g : Nat) (A : Option Addr) (c : Nat) (l : List Int) (at_ : Int) (bad : Bool) (r at' : Int) (bad' : Bool) (w0 w : World) (hI : IsRd w0 w g A c l at_ bad) (h : rdNum k l at_ bad = some (r, at', bad')) :
    Calls Try.prog 113 #[.pointer (some ⟨g, 0, none⟩)] w fun e w' => e = .returned (.int .i64 r) ∧ IsRd w0 w' g A c l at' bad' ∧ KeepBut w w' g none := by
  have hc0 : w.cell? ⟨g, 0, none⟩ = some (.slice A l.length c) := (blk_cell hI.blk 0).trans rfl
  have hc1 : w.cell? ⟨g, 1, none⟩ = some (.int .i64 at_) := (blk_cell hI.blk 1).trans rfl
  have hc2 : w.cell? ⟨g, 2, none⟩ = some (.bool bad) := (blk_cell hI.blk 2).trans rfl
  have hf1 := blk_frozen hI.blk 1
  have hf2 := blk_frozen hI.blk 2
  have HI := Aside0.mk hI
  unfold rdNum at h
  obtain ⟨⟨x, nx, ok⟩, hA, h⟩ := Option.bind_eq_some_iff.1 h
  have HA := Aside0.mk hA
  clear hI hA
  cases bad <;> cases ok <;> simp only [Bool.false_eq_true, ↓reduceIte, Option.some.injEq, Prod.mk.injEq] at h <;> obtain ⟨rfl, rfl, rfl⟩ := h
  all_goals
    go_enter Try.func113, Try.ntmps113
    go_wp2
    go_quiet (first | (go_at_call 34; refine (impl_GetNum.calls k A c l at_ _ _ _ _ (HI.out.drewN _).now HI.out.cap HA.out).mono ?_; rintro e w' ⟨rfl, ⟨nd, rfl⟩⟩; exact ⟨rfl, _, World.drewN_drewN _ _ _⟩))
    go_wp2
    go_ret
    exact ⟨rfl, by repeat (first | exact HI.out | apply IsRd.set1 | apply IsRd.set2 | apply IsRd.drewN | apply IsRd.drew), by repeat (first | exact KeepBut.refl _ _ _ | apply KeepBut.set_ | apply keep_drewN | apply keep_drew)⟩


/-! ### impl_reader_bytes: function 114 -/
def rdBytes (l : List Int) (at_ : Int) (bad : Bool) (n : Int) : Option (ByteArray × Int × Bool) :=
  if bad = true then some (ByteArray.empty, at_, true) else if n > wrap64 ((l.length : Int) - at_) then some (ByteArray.empty, at_, true)
  else if 0 ≤ at_ ∧ 0 ≤ n ∧ at_ + n ≤ (l.length : Int) then some (strOfNums ((l.take (at_ + n).toNat).drop at_.toNat), at_ + n, false) else none
set_option maxHeartbeats 4000000 in
set_option maxRecDepth 100000 in
theorem rd_bytes (g : Nat) (A : Option Addr) (c : Nat) (l : List Int) (at_ : Int) (bad : Bool) (n : Int) (r : ByteArray) (at' : Int) (bad' : Bool) (w0 w : World) (hI : IsRd w0 w g A c l at_ bad) (h : rdBytes l at_ bad n = some (r, at', bad')) :
    Calls Try.prog 114 #[.pointer (some ⟨g, 0, none⟩), .int .i64 n] w fun e w' => e = .returned (.string r) ∧ IsRd w0 w' g A c l at' bad' ∧ KeepBut w w' g none := by
  have hc0 : w.cell? ⟨g, 0, none⟩ = some (.slice A l.length c) := (blk_cell hI.blk 0).trans rfl
  have hc1 : w.cell? ⟨g, 1, none⟩ = some (.int .i64 at_) := (blk_cell hI.blk 1).trans rfl
  have hc2 : w.cell? ⟨g, 2, none⟩ = some (.bool bad) := (blk_cell hI.blk 2).trans rfl
  have hf1 := blk_frozen hI.blk 1
  have hf2 := blk_frozen hI.blk 2
  have HI := Aside0.mk hI
  clear hI
  unfold rdBytes at h
  cases bad
  · simp only [Bool.false_eq_true, ↓reduceIte] at h
    by_cases c1 : n > wrap64 ((l.length : Int) - at_)
    · simp only [c1, ↓reduceIte, Option.some.injEq, Prod.mk.injEq] at h
      obtain ⟨rfl, rfl, rfl⟩ := h
      have c1b : decide (wrap64 ((l.length : Int) - at_) < n) = true := decide_eq_true c1
      clear c1
      go_enter Try.func114, Try.ntmps114
      go_wp2
      go_quiet (fail)
      go_wp2
      go_ret
      exact ⟨rfl, by repeat (first | exact HI.out | apply IsRd.set1 | apply IsRd.set2 | apply IsRd.drewN | apply IsRd.drew), by repeat (first | exact KeepBut.refl _ _ _ | apply KeepBut.set_ | apply keep_drewN | apply keep_drew)⟩
    · simp only [c1, ↓reduceIte] at h
      split at h
      · rename_i hb
        simp only [Option.some.injEq, Prod.mk.injEq] at h
        obtain ⟨rfl, rfl, rfl⟩ := h
        obtain ⟨b0, b1, b2⟩ := hb
        have hcap := HI.out.cap
        have c1b : decide (wrap64 ((l.length : Int) - at_) < n) = false := decide_eq_false c1
        clear c1
        have hmx := Kd.C_max HI.out.now
        have e1 : wrap64 (at_ + n) = at_ + n := by unfold wrap64; omega
        have e2 : wrap64 at_ = at_ := by unfold wrap64; omega
        have e3 : IntKind.i64.wrap at_ = at_ := by rw [IntKind.wrap_i64]; omega
        have HP : Aside0 (0 ≤ at_ ∧ 0 ≤ n ∧ at_ + n ≤ (l.length : Int) ∧ l.length ≤ c) := ⟨⟨b0, b1, b2, hcap⟩⟩
        clear b0 b1 b2 hcap hmx
        go_enter Try.func114, Try.ntmps114
        go_wp2
        go_quiet (fail)
        go_wp2
        have HI2 : IsRd w0 ((w.drewN nq).setCell ⟨g, 1, none⟩ (.int .i64 (at_ + n))) g A c l (at_ + n) false := (HI.out.drewN nq).set1 (at_ + n)
        have HK2 : KeepBut w ((w.drewN nq).setCell ⟨g, 1, none⟩ (.int .i64 (at_ + n))) g none := (keep_drewN (KeepBut.refl _ _ _) nq).set_ 1 _
        generalize ((w.drewN nq).setCell ⟨g, 1, none⟩ (.int .i64 (at_ + n))) = W at *
        clear hc0 hc1 hc2 hf1 hf2 HI
        have hc0 : W.cell? ⟨g, 0, none⟩ = some (.slice A l.length c) := (blk_cell HI2.blk 0).trans rfl
        have hc1 : W.cell? ⟨g, 1, none⟩ = some (.int .i64 (at_ + n)) := (blk_cell HI2.blk 1).trans rfl
        have HI := Aside0.mk HI2
        have HK := Aside0.mk HK2
        clear HI2 HK2
        obtain ⟨b0, b1, b2, hcap⟩ := HP.out
        obtain ⟨i0, hi0, _, hsz, _⟩ := info_parts info5
        obtain ⟨A2, hcut, hA2, hC2⟩ := print_mid_of (P := Try.prog) (Value.int .u8) 0 33 5 .i64 .i64 Try.underlying33 hi0 hsz A c l at_ (at_ + n) b0 (by omega) b2 hcap
        have hcv : ∀ m, (convert 33 9 (.slice A2 ((at_ + n).toNat - at_.toNat) (c - at_.toNat))).run Try.prog (W.drewN m) = .ok (.string (strOfNums ((l.take (at_ + n).toNat).drop at_.toNat))) (W.drewN m) := fun m =>
          Kd.C_string Try.underlying33 Try.underlying5 Try.underlying9 (by
            have h_ := Kd.C_of_reads (h1 := fun _ => rfl) (hA2 _ (Kd.reads_of_C ((HI.out.drewN m).now)))
            rw [show ((l.take (at_ + n).toNat).drop at_.toNat).length = (at_ + n).toNat - at_.toNat from by rw [List.length_drop, List.length_take]; omega] at h_
            exact h_)
        rw [show ((l.take (at_ + n).toNat).drop at_.toNat).length = (at_ + n).toNat - at_.toNat from by rw [List.length_drop, List.length_take]; omega] at hcut
        clear hA2 hC2 hi0 hsz b0 b1 b2 hcap
        go_wp2
        go_quiet (fail)
        go_wp2
        go_ret
        exact ⟨rfl, HI.out.drewN nq, keep_drewN HK.out nq⟩
      · exact absurd h (by simp)
  · simp only [↓reduceIte, Option.some.injEq, Prod.mk.injEq] at h
    obtain ⟨rfl, rfl, rfl⟩ := h
    go_enter Try.func114, Try.ntmps114
    go_wp2
    go_quiet (fail)
    go_wp2
    go_ret
    exact ⟨rfl, by repeat (first | exact HI.out | apply IsRd.set1 | apply IsRd.set2 | apply IsRd.drewN | apply IsRd.drew), by repeat (first | exact KeepBut.refl _ _ _ | apply KeepBut.set_ | apply keep_drewN | apply keep_drew)⟩


/-! ### impl_reader_cmd: function 104 -/
def rcFin (k : Nat) (x1 x2 x3 x4 : Int) (d : ByteArray) (p : Int) (bad : Bool) : Option (Int × Int × Int × Int × ByteArray × Int × Bool) :=
  if bad = true then some (0, 0, 0, 0, (⟨#[]⟩ : ByteArray), p, true) else (impl_CmdOk.f k x1 x2 x3 x4 d).bind fun o => if o = true then some (x1, x2, x3, x4, d, p, false) else some (0, 0, 0, 0, (⟨#[]⟩ : ByteArray), p, true)
def rdCmd (k : Nat) (l : List Int) (at_ : Int) (bad : Bool) : Option (Int × Int × Int × Int × ByteArray × Int × Bool) :=
  (rdNum k l at_ bad).bind fun a => if a.1 = 1 then rcFin k 1 0 0 0 (⟨#[]⟩ : ByteArray) a.2.1 a.2.2
    else (rdNum k l a.2.1 a.2.2).bind fun b => if a.1 = 3 then (rdNum k l b.2.1 b.2.2).bind fun c => rcFin k 3 b.1 c.1 0 (⟨#[]⟩ : ByteArray) c.2.1 c.2.2
      else if a.1 = 2 then (rdNum k l b.2.1 b.2.2).bind fun c => (rdBytes l c.2.1 c.2.2 32).bind fun d => rcFin k 2 b.1 0 c.1 d.1 d.2.1 d.2.2
      else rcFin k a.1 b.1 0 0 (⟨#[]⟩ : ByteArray) b.2.1 b.2.2
theorem rcFin.mono (k : Nat) (x1 x2 x3 x4 : Int) (d : ByteArray) (p : Int) (bad : Bool) : LeO (rcFin k x1 x2 x3 x4 d p bad) (rcFin (k + 1) x1 x2 x3 x4 d p bad) := by
  unfold rcFin
  repeat' first
  | exact impl_CmdOk.mono _ _ _ _ _ _
  | exact LeO.refl _
  | refine LeO.ite ?_ ?_
  | refine LeO.bind ?_ (fun _ => ?_)
theorem rdNum.mono (k : Nat) (l : List Int) (at_ : Int) (bad : Bool) : LeO (rdNum k l at_ bad) (rdNum (k + 1) l at_ bad) := by
  unfold rdNum
  repeat' first
  | exact impl_GetNum.mono _ _ _
  | exact LeO.refl _
  | refine LeO.bind ?_ (fun _ => ?_)
theorem rdCmd.mono (k : Nat) (l : List Int) (at_ : Int) (bad : Bool) : LeO (rdCmd k l at_ bad) (rdCmd (k + 1) l at_ bad) := by
  unfold rdCmd
  repeat' first
  | exact rdNum.mono _ _ _ _
  | exact rcFin.mono _ _ _ _ _ _ _ _
  | exact LeO.refl _
  | refine LeO.ite ?_ ?_
  | refine LeO.bind ?_ (fun _ => ?_)
theorem rc_at {w : World} {g : Nat} {o : Obj} (h : w.heap.size = g) : (w.alloc o).heap[g]? = some o := h ▸ blk_new w o
theorem rc_fr {w : World} {g b i : Nat} {o : Obj} (h : w.heap[g]? = some o) (hp : g ≠ b) (u : Value) : (w.setCell ⟨b, i, none⟩ u).heap[g]? = some o := (Below.heap_setCell w ⟨b, i, none⟩ u g hp).trans h
theorem rc_kp {w w' : World} {g b : Nat} {o : Obj} (hk : KeepBut w w' g none) (h : w.heap[b]? = some o) (hp : b ≠ g) : w'.heap[b]? = some o := KeepBut.blk hk h hp (by simp)
theorem rc_set5 {w : World} {b : Nat} {T : TypeId} {v0 v1 v2 v3 v4 : Value} (h : w.heap[b]? = some (.cells #[.int .i64 0, .int .i64 0, .int .i64 0, .int .i64 0, .string (⟨#[]⟩ : ByteArray)] T (0, 0))) :
    (((((w.setCell ⟨b, 0, none⟩ v0).setCell ⟨b, 1, none⟩ v1).setCell ⟨b, 2, none⟩ v2).setCell ⟨b, 3, none⟩ v3).setCell ⟨b, 4, none⟩ v4).heap[b]? = some (.cells #[v0, v1, v2, v3, v4] T (0, 0)) :=
  (blk_set (blk_set (blk_set (blk_set (blk_set h 0 v0) 1 v1) 2 v2) 3 v3) 4 v4).trans rfl
set_option maxHeartbeats 8000000 in
set_option maxRecDepth 100000 in
theorem rd_cmd (k g : Nat) (A : Option Addr) (c : Nat) (l : List Int) (at_ : Int) (bad : Bool) (r1 r2 r3 r4 : Int) (r5 : ByteArray) (at' : Int) (bad' : Bool) (w0 w : World) (hI : IsRd w0 w g A c l at_ bad) (h : rdCmd k l at_ bad = some (r1, r2, r3, r4, r5, at', bad')) :
    Calls Try.prog 104 #[.pointer (some ⟨g, 0, none⟩)] w fun e w' => e = .returned (.agg #[.int .i64 r1, .int .i64 r2, .int .i64 r3, .int .i64 r4, .string r5]) ∧ IsRd w0 w' g A c l at' bad' ∧ KeepBut w w' g none := by
  have hu := Try.underlying56
  have HI := Aside0.mk hI
  have GL := Aside0.mk hI.lt
  have G0 := Aside0.mk hI.bel.size
  have hn1 : ¬ g = w.heap.size := by have := hI.lt; omega
  have hn2 : ¬ w.heap.size = g := by have := hI.lt; omega
  have hn3 : ¬ g = w.heap.size + 1 := by have := hI.lt; omega
  have hn4 : ¬ w.heap.size + 1 = g := by have := hI.lt; omega
  clear hI
  unfold rdCmd at h
  replace h := Option.bind_eq_some_iff.1 h; obtain ⟨⟨x1, p1, b1⟩, hA, h⟩ := h
  simp only at h
  have HA1 := Aside0.mk hA
  clear hA
  by_cases e1 : x1 = 1
  · subst e1
    simp only [↓reduceIte] at h
    unfold rcFin at h
    cases b1
    · simp only [Bool.false_eq_true, ↓reduceIte] at h
      replace h := Option.bind_eq_some_iff.1 h; obtain ⟨o, hK, h⟩ := h
      have HOK := Aside0.mk hK
      clear hK
      cases o
      · simp only [Bool.false_eq_true, ↓reduceIte, Option.some.injEq, Prod.mk.injEq] at h
        obtain ⟨rfl, rfl, rfl, rfl, rfl, rfl, rfl⟩ := h
        go_enter Try.func104, Try.ntmps104
        go_wp2_with (first | (go_at_call 113; with_reducible refine (rd_num k g A c l at_ bad 1 p1 false w0 _ (by repeat (with_reducible first | exact HI.out | refine IsRd.far ?_ (by have := G0.out; omega) (by have := GL.out; omega) | apply IsRd.alloc)) HA1.out).mono ?_; rintro e w1 ⟨rfl, hi, hk⟩; have hz := rc_kp hk (b := w.heap.size) (o := .cells #[.int .i64 0, .int .i64 0, .int .i64 0, .int .i64 0, .string (⟨#[]⟩ : ByteArray)] 56 (0, 0)) (by exact blk_alloc (blk_new _ _) _) (by have := GL.out; omega); have hx := rc_kp hk (b := w.heap.size + 1) (o := .cells #[.int .i64 0, .int .i64 0, .int .i64 0, .int .i64 0, .string (⟨#[]⟩ : ByteArray)] 56 (0, 0)) (by exact rc_at (by simp)) (by have := GL.out; omega); have x1_0 := (blk_cell hx 0).trans rfl; have z1_0 := (blk_cell hz 0).trans rfl; have x1_1 := (blk_cell hx 1).trans rfl; have z1_1 := (blk_cell hz 1).trans rfl; have x1_2 := (blk_cell hx 2).trans rfl; have z1_2 := (blk_cell hz 2).trans rfl; have x1_3 := (blk_cell hx 3).trans rfl; have z1_3 := (blk_cell hz 3).trans rfl; have x1_4 := (blk_cell hx 4).trans rfl; have z1_4 := (blk_cell hz 4).trans rfl; have hf1 := fun (i_ : Nat) => blk_frozen hx i_; have hz1 := fun (i_ : Nat) => blk_frozen hz i_; have hq1 := (blk_cell hi.blk 2).trans rfl; have hg1 := blk_frozen hi.blk 2; have HX1 := Aside0.mk hx; have HZ1 := Aside0.mk hz; have HI1 := Aside0.mk hi; have HK1 : Aside0 (KeepBut w w1 g none) := ⟨KeepBut.trans (keep_alloc (keep_alloc (KeepBut.refl _ _ _) _) _) hk (.inl rfl)⟩; clear hi hk hz hx) | (go_at_call 80; with_reducible refine (impl_CmdOk.calls k _ _ _ _ _ _ _ HOK.out).mono ?_; rintro e wo ⟨rfl, hb⟩; have hz := blk_below (g := w.heap.size) (o := .cells #[.int .i64 0, .int .i64 0, .int .i64 0, .int .i64 0, .string (⟨#[]⟩ : ByteArray)] 56 (0, 0)) (by exact rc_fr HZ1.out (by omega) _) hb; have hx := blk_below (g := w.heap.size + 1) (o := .cells #[.int .i64 1, .int .i64 0, .int .i64 0, .int .i64 0, .string (⟨#[]⟩ : ByteArray)] 56 (0, 0)) (by exact (blk_set HX1.out 0 _).trans rfl) hb; have hi : IsRd w0 wo g A c l p1 false := IsRd.step (by repeat (with_reducible first | exact HI1.out | refine IsRd.far ?_ (by have := G0.out; omega) (by have := GL.out; omega) | apply IsRd.alloc)) hb; have xo_0 := (blk_cell hx 0).trans rfl; have zo_0 := (blk_cell hz 0).trans rfl; have xo_1 := (blk_cell hx 1).trans rfl; have zo_1 := (blk_cell hz 1).trans rfl; have xo_2 := (blk_cell hx 2).trans rfl; have zo_2 := (blk_cell hz 2).trans rfl; have xo_3 := (blk_cell hx 3).trans rfl; have zo_3 := (blk_cell hz 3).trans rfl; have xo_4 := (blk_cell hx 4).trans rfl; have zo_4 := (blk_cell hz 4).trans rfl; have hfo := fun (i_ : Nat) => blk_frozen hx i_; have hzo := fun (i_ : Nat) => blk_frozen hz i_; have hqo := (blk_cell hi.blk 2).trans rfl; have hgo := blk_frozen hi.blk 2; have HZo := Aside0.mk hz; have HIo := Aside0.mk hi; have HKo : Aside0 (KeepBut w wo g none) := ⟨KeepBut.trans (keep_fr HK1.out (by omega) _) (KeepBut.of_below hb g none) (.inl rfl)⟩; clear hi hb hz hx))
        refine bodyPost_ret (results_cell_row rfl _ _ w.heap.size 56 #[.int .i64 0, .int .i64 0, .int .i64 0, .int .i64 0, .string (⟨#[]⟩ : ByteArray)] (0, 0) _ rfl (by (with_reducible repeat (first | refine blk_drewN ?_ _ | refine blk_alloc ?_ _)); with_reducible refine rc_set5 ?_; repeat (with_reducible first | exact HZo.out | refine rc_fr ?_ (by first | omega | (have := GL.out; omega)) _ | refine blk_drewN ?_ _ | refine blk_alloc ?_ _)) hu rfl (by kernel_rfl)) rfl ?_; exact ⟨by first | rfl | (simp; done) | (simp [*]; done), by repeat (with_reducible first | exact HIo.out | refine IsRd.set2 (bad := false) ?_ _ | refine IsRd.far ?_ (by have := G0.out; omega) (by have := GL.out; omega) | apply IsRd.alloc), by repeat (with_reducible first | exact HKo.out | apply KeepBut.set_ | refine keep_fr ?_ (by omega) _)⟩
      · simp only [Bool.false_eq_true, ↓reduceIte, Option.some.injEq, Prod.mk.injEq] at h
        obtain ⟨rfl, rfl, rfl, rfl, rfl, rfl, rfl⟩ := h
        go_enter Try.func104, Try.ntmps104
        go_wp2_with (first | (go_at_call 113; with_reducible refine (rd_num k g A c l at_ bad 1 p1 false w0 _ (by repeat (with_reducible first | exact HI.out | refine IsRd.far ?_ (by have := G0.out; omega) (by have := GL.out; omega) | apply IsRd.alloc)) HA1.out).mono ?_; rintro e w1 ⟨rfl, hi, hk⟩; have hz := rc_kp hk (b := w.heap.size) (o := .cells #[.int .i64 0, .int .i64 0, .int .i64 0, .int .i64 0, .string (⟨#[]⟩ : ByteArray)] 56 (0, 0)) (by exact blk_alloc (blk_new _ _) _) (by have := GL.out; omega); have hx := rc_kp hk (b := w.heap.size + 1) (o := .cells #[.int .i64 0, .int .i64 0, .int .i64 0, .int .i64 0, .string (⟨#[]⟩ : ByteArray)] 56 (0, 0)) (by exact rc_at (by simp)) (by have := GL.out; omega); have x1_0 := (blk_cell hx 0).trans rfl; have z1_0 := (blk_cell hz 0).trans rfl; have x1_1 := (blk_cell hx 1).trans rfl; have z1_1 := (blk_cell hz 1).trans rfl; have x1_2 := (blk_cell hx 2).trans rfl; have z1_2 := (blk_cell hz 2).trans rfl; have x1_3 := (blk_cell hx 3).trans rfl; have z1_3 := (blk_cell hz 3).trans rfl; have x1_4 := (blk_cell hx 4).trans rfl; have z1_4 := (blk_cell hz 4).trans rfl; have hf1 := fun (i_ : Nat) => blk_frozen hx i_; have hz1 := fun (i_ : Nat) => blk_frozen hz i_; have hq1 := (blk_cell hi.blk 2).trans rfl; have hg1 := blk_frozen hi.blk 2; have HX1 := Aside0.mk hx; have HZ1 := Aside0.mk hz; have HI1 := Aside0.mk hi; have HK1 : Aside0 (KeepBut w w1 g none) := ⟨KeepBut.trans (keep_alloc (keep_alloc (KeepBut.refl _ _ _) _) _) hk (.inl rfl)⟩; clear hi hk hz hx) | (go_at_call 80; with_reducible refine (impl_CmdOk.calls k _ _ _ _ _ _ _ HOK.out).mono ?_; rintro e wo ⟨rfl, hb⟩; have hz := blk_below (g := w.heap.size) (o := .cells #[.int .i64 0, .int .i64 0, .int .i64 0, .int .i64 0, .string (⟨#[]⟩ : ByteArray)] 56 (0, 0)) (by exact rc_fr HZ1.out (by omega) _) hb; have hx := blk_below (g := w.heap.size + 1) (o := .cells #[.int .i64 1, .int .i64 0, .int .i64 0, .int .i64 0, .string (⟨#[]⟩ : ByteArray)] 56 (0, 0)) (by exact (blk_set HX1.out 0 _).trans rfl) hb; have hi : IsRd w0 wo g A c l p1 false := IsRd.step (by repeat (with_reducible first | exact HI1.out | refine IsRd.far ?_ (by have := G0.out; omega) (by have := GL.out; omega) | apply IsRd.alloc)) hb; have xo_0 := (blk_cell hx 0).trans rfl; have zo_0 := (blk_cell hz 0).trans rfl; have xo_1 := (blk_cell hx 1).trans rfl; have zo_1 := (blk_cell hz 1).trans rfl; have xo_2 := (blk_cell hx 2).trans rfl; have zo_2 := (blk_cell hz 2).trans rfl; have xo_3 := (blk_cell hx 3).trans rfl; have zo_3 := (blk_cell hz 3).trans rfl; have xo_4 := (blk_cell hx 4).trans rfl; have zo_4 := (blk_cell hz 4).trans rfl; have hfo := fun (i_ : Nat) => blk_frozen hx i_; have hzo := fun (i_ : Nat) => blk_frozen hz i_; have hqo := (blk_cell hi.blk 2).trans rfl; have hgo := blk_frozen hi.blk 2; have HZo := Aside0.mk hz; have HIo := Aside0.mk hi; have HKo : Aside0 (KeepBut w wo g none) := ⟨KeepBut.trans (keep_fr HK1.out (by omega) _) (KeepBut.of_below hb g none) (.inl rfl)⟩; clear hi hb hz hx))
        refine bodyPost_ret (results_cell_row rfl _ _ w.heap.size 56 #[.int .i64 1, .int .i64 0, .int .i64 0, .int .i64 0, .string (⟨#[]⟩ : ByteArray)] (0, 0) _ rfl (by (with_reducible repeat (first | refine blk_drewN ?_ _ | refine blk_alloc ?_ _)); with_reducible refine rc_set5 ?_; repeat (with_reducible first | exact HZo.out | refine rc_fr ?_ (by first | omega | (have := GL.out; omega)) _ | refine blk_drewN ?_ _ | refine blk_alloc ?_ _)) hu rfl (by kernel_rfl)) rfl ?_; exact ⟨by first | rfl | (simp; done) | (simp [*]; done), by repeat (with_reducible first | exact HIo.out | refine IsRd.set2 (bad := false) ?_ _ | refine IsRd.far ?_ (by have := G0.out; omega) (by have := GL.out; omega) | apply IsRd.alloc), by repeat (with_reducible first | exact HKo.out | apply KeepBut.set_ | refine keep_fr ?_ (by omega) _)⟩
    · simp only [Bool.false_eq_true, ↓reduceIte, Option.some.injEq, Prod.mk.injEq] at h
      obtain ⟨rfl, rfl, rfl, rfl, rfl, rfl, rfl⟩ := h
      go_enter Try.func104, Try.ntmps104
      go_wp2_with (first | (go_at_call 113; with_reducible refine (rd_num k g A c l at_ bad 1 p1 true w0 _ (by repeat (with_reducible first | exact HI.out | refine IsRd.far ?_ (by have := G0.out; omega) (by have := GL.out; omega) | apply IsRd.alloc)) HA1.out).mono ?_; rintro e w1 ⟨rfl, hi, hk⟩; have hz := rc_kp hk (b := w.heap.size) (o := .cells #[.int .i64 0, .int .i64 0, .int .i64 0, .int .i64 0, .string (⟨#[]⟩ : ByteArray)] 56 (0, 0)) (by exact blk_alloc (blk_new _ _) _) (by have := GL.out; omega); have hx := rc_kp hk (b := w.heap.size + 1) (o := .cells #[.int .i64 0, .int .i64 0, .int .i64 0, .int .i64 0, .string (⟨#[]⟩ : ByteArray)] 56 (0, 0)) (by exact rc_at (by simp)) (by have := GL.out; omega); have x1_0 := (blk_cell hx 0).trans rfl; have z1_0 := (blk_cell hz 0).trans rfl; have x1_1 := (blk_cell hx 1).trans rfl; have z1_1 := (blk_cell hz 1).trans rfl; have x1_2 := (blk_cell hx 2).trans rfl; have z1_2 := (blk_cell hz 2).trans rfl; have x1_3 := (blk_cell hx 3).trans rfl; have z1_3 := (blk_cell hz 3).trans rfl; have x1_4 := (blk_cell hx 4).trans rfl; have z1_4 := (blk_cell hz 4).trans rfl; have hf1 := fun (i_ : Nat) => blk_frozen hx i_; have hz1 := fun (i_ : Nat) => blk_frozen hz i_; have hq1 := (blk_cell hi.blk 2).trans rfl; have hg1 := blk_frozen hi.blk 2; have HX1 := Aside0.mk hx; have HZ1 := Aside0.mk hz; have HI1 := Aside0.mk hi; have HK1 : Aside0 (KeepBut w w1 g none) := ⟨KeepBut.trans (keep_alloc (keep_alloc (KeepBut.refl _ _ _) _) _) hk (.inl rfl)⟩; clear hi hk hz hx))
      refine bodyPost_ret (results_cell_row rfl _ _ w.heap.size 56 #[.int .i64 0, .int .i64 0, .int .i64 0, .int .i64 0, .string (⟨#[]⟩ : ByteArray)] (0, 0) _ rfl (by (with_reducible repeat (first | refine blk_drewN ?_ _ | refine blk_alloc ?_ _)); with_reducible refine rc_set5 ?_; repeat (with_reducible first | exact HZ1.out | refine rc_fr ?_ (by first | omega | (have := GL.out; omega)) _ | refine blk_drewN ?_ _ | refine blk_alloc ?_ _)) hu rfl (by kernel_rfl)) rfl ?_; exact ⟨by first | rfl | (simp; done) | (simp [*]; done), by repeat (with_reducible first | exact HI1.out | refine IsRd.set2 (bad := true) ?_ _ | refine IsRd.far ?_ (by have := G0.out; omega) (by have := GL.out; omega) | apply IsRd.alloc), by repeat (with_reducible first | exact HK1.out | apply KeepBut.set_ | refine keep_fr ?_ (by omega) _)⟩
  · rw [if_neg e1] at h
    have e1b : (x1 == 1) = false := beq_eq_false_iff_ne.mpr e1
    have e1c : (x1 != 1) = true := bne_iff_ne.mpr e1
    clear e1
    replace h := Option.bind_eq_some_iff.1 h; obtain ⟨⟨x2, p2, b2⟩, hA, h⟩ := h
    simp only at h
    have HA2 := Aside0.mk hA
    clear hA
    by_cases e3 : x1 = 3
    · subst e3
      simp only [↓reduceIte] at h
      replace h := Option.bind_eq_some_iff.1 h; obtain ⟨⟨x3, p3, b3⟩, hA, h⟩ := h
      simp only at h
      have HA3 := Aside0.mk hA
      clear hA
      unfold rcFin at h
      cases b3
      · simp only [Bool.false_eq_true, ↓reduceIte] at h
        replace h := Option.bind_eq_some_iff.1 h; obtain ⟨o, hK, h⟩ := h
        have HOK := Aside0.mk hK
        clear hK
        cases o
        · simp only [Bool.false_eq_true, ↓reduceIte, Option.some.injEq, Prod.mk.injEq] at h
          obtain ⟨rfl, rfl, rfl, rfl, rfl, rfl, rfl⟩ := h
          go_enter Try.func104, Try.ntmps104
          go_wp2_with (first | (go_at_call 113; with_reducible refine (rd_num k g A c l at_ bad 3 p1 b1 w0 _ (by repeat (with_reducible first | exact HI.out | refine IsRd.far ?_ (by have := G0.out; omega) (by have := GL.out; omega) | apply IsRd.alloc)) HA1.out).mono ?_; rintro e w1 ⟨rfl, hi, hk⟩; have hz := rc_kp hk (b := w.heap.size) (o := .cells #[.int .i64 0, .int .i64 0, .int .i64 0, .int .i64 0, .string (⟨#[]⟩ : ByteArray)] 56 (0, 0)) (by exact blk_alloc (blk_new _ _) _) (by have := GL.out; omega); have hx := rc_kp hk (b := w.heap.size + 1) (o := .cells #[.int .i64 0, .int .i64 0, .int .i64 0, .int .i64 0, .string (⟨#[]⟩ : ByteArray)] 56 (0, 0)) (by exact rc_at (by simp)) (by have := GL.out; omega); have x1_0 := (blk_cell hx 0).trans rfl; have z1_0 := (blk_cell hz 0).trans rfl; have x1_1 := (blk_cell hx 1).trans rfl; have z1_1 := (blk_cell hz 1).trans rfl; have x1_2 := (blk_cell hx 2).trans rfl; have z1_2 := (blk_cell hz 2).trans rfl; have x1_3 := (blk_cell hx 3).trans rfl; have z1_3 := (blk_cell hz 3).trans rfl; have x1_4 := (blk_cell hx 4).trans rfl; have z1_4 := (blk_cell hz 4).trans rfl; have hf1 := fun (i_ : Nat) => blk_frozen hx i_; have hz1 := fun (i_ : Nat) => blk_frozen hz i_; have hq1 := (blk_cell hi.blk 2).trans rfl; have hg1 := blk_frozen hi.blk 2; have HX1 := Aside0.mk hx; have HZ1 := Aside0.mk hz; have HI1 := Aside0.mk hi; have HK1 : Aside0 (KeepBut w w1 g none) := ⟨KeepBut.trans (keep_alloc (keep_alloc (KeepBut.refl _ _ _) _) _) hk (.inl rfl)⟩; clear hi hk hz hx) | (go_at_call 113; with_reducible refine (rd_num k g A c l p1 b1 x2 p2 b2 w0 _ (by repeat (with_reducible first | exact HI1.out | refine IsRd.far ?_ (by have := G0.out; omega) (by have := GL.out; omega) | apply IsRd.alloc)) HA2.out).mono ?_; rintro e w2 ⟨rfl, hi, hk⟩; have hz := rc_kp hk (b := w.heap.size) (o := .cells #[.int .i64 0, .int .i64 0, .int .i64 0, .int .i64 0, .string (⟨#[]⟩ : ByteArray)] 56 (0, 0)) (by exact rc_fr HZ1.out (by omega) _) (by have := GL.out; omega); have hx := rc_kp hk (b := w.heap.size + 1) (o := .cells #[.int .i64 3, .int .i64 0, .int .i64 0, .int .i64 0, .string (⟨#[]⟩ : ByteArray)] 56 (0, 0)) (by exact (blk_set HX1.out 0 _).trans rfl) (by have := GL.out; omega); have x2_0 := (blk_cell hx 0).trans rfl; have z2_0 := (blk_cell hz 0).trans rfl; have x2_1 := (blk_cell hx 1).trans rfl; have z2_1 := (blk_cell hz 1).trans rfl; have x2_2 := (blk_cell hx 2).trans rfl; have z2_2 := (blk_cell hz 2).trans rfl; have x2_3 := (blk_cell hx 3).trans rfl; have z2_3 := (blk_cell hz 3).trans rfl; have x2_4 := (blk_cell hx 4).trans rfl; have z2_4 := (blk_cell hz 4).trans rfl; have hf2 := fun (i_ : Nat) => blk_frozen hx i_; have hz2 := fun (i_ : Nat) => blk_frozen hz i_; have hq2 := (blk_cell hi.blk 2).trans rfl; have hg2 := blk_frozen hi.blk 2; have HX2 := Aside0.mk hx; have HZ2 := Aside0.mk hz; have HI2 := Aside0.mk hi; have HK2 : Aside0 (KeepBut w w2 g none) := ⟨KeepBut.trans (keep_fr HK1.out (by omega) _) hk (.inl rfl)⟩; clear hi hk hz hx) | (go_at_call 113; with_reducible refine (rd_num k g A c l p2 b2 x3 p3 false w0 _ (by repeat (with_reducible first | exact HI2.out | refine IsRd.far ?_ (by have := G0.out; omega) (by have := GL.out; omega) | apply IsRd.alloc)) HA3.out).mono ?_; rintro e w3 ⟨rfl, hi, hk⟩; have hz := rc_kp hk (b := w.heap.size) (o := .cells #[.int .i64 0, .int .i64 0, .int .i64 0, .int .i64 0, .string (⟨#[]⟩ : ByteArray)] 56 (0, 0)) (by exact rc_fr HZ2.out (by omega) _) (by have := GL.out; omega); have hx := rc_kp hk (b := w.heap.size + 1) (o := .cells #[.int .i64 3, .int .i64 x2, .int .i64 0, .int .i64 0, .string (⟨#[]⟩ : ByteArray)] 56 (0, 0)) (by exact (blk_set HX2.out 1 _).trans rfl) (by have := GL.out; omega); have x3_0 := (blk_cell hx 0).trans rfl; have z3_0 := (blk_cell hz 0).trans rfl; have x3_1 := (blk_cell hx 1).trans rfl; have z3_1 := (blk_cell hz 1).trans rfl; have x3_2 := (blk_cell hx 2).trans rfl; have z3_2 := (blk_cell hz 2).trans rfl; have x3_3 := (blk_cell hx 3).trans rfl; have z3_3 := (blk_cell hz 3).trans rfl; have x3_4 := (blk_cell hx 4).trans rfl; have z3_4 := (blk_cell hz 4).trans rfl; have hf3 := fun (i_ : Nat) => blk_frozen hx i_; have hz3 := fun (i_ : Nat) => blk_frozen hz i_; have hq3 := (blk_cell hi.blk 2).trans rfl; have hg3 := blk_frozen hi.blk 2; have HX3 := Aside0.mk hx; have HZ3 := Aside0.mk hz; have HI3 := Aside0.mk hi; have HK3 : Aside0 (KeepBut w w3 g none) := ⟨KeepBut.trans (keep_fr HK2.out (by omega) _) hk (.inl rfl)⟩; clear hi hk hz hx) | (go_at_call 80; with_reducible refine (impl_CmdOk.calls k _ _ _ _ _ _ _ HOK.out).mono ?_; rintro e wo ⟨rfl, hb⟩; have hz := blk_below (g := w.heap.size) (o := .cells #[.int .i64 0, .int .i64 0, .int .i64 0, .int .i64 0, .string (⟨#[]⟩ : ByteArray)] 56 (0, 0)) (by exact rc_fr HZ3.out (by omega) _) hb; have hx := blk_below (g := w.heap.size + 1) (o := .cells #[.int .i64 3, .int .i64 x2, .int .i64 x3, .int .i64 0, .string (⟨#[]⟩ : ByteArray)] 56 (0, 0)) (by exact (blk_set HX3.out 2 _).trans rfl) hb; have hi : IsRd w0 wo g A c l p3 false := IsRd.step (by repeat (with_reducible first | exact HI3.out | refine IsRd.far ?_ (by have := G0.out; omega) (by have := GL.out; omega) | apply IsRd.alloc)) hb; have xo_0 := (blk_cell hx 0).trans rfl; have zo_0 := (blk_cell hz 0).trans rfl; have xo_1 := (blk_cell hx 1).trans rfl; have zo_1 := (blk_cell hz 1).trans rfl; have xo_2 := (blk_cell hx 2).trans rfl; have zo_2 := (blk_cell hz 2).trans rfl; have xo_3 := (blk_cell hx 3).trans rfl; have zo_3 := (blk_cell hz 3).trans rfl; have xo_4 := (blk_cell hx 4).trans rfl; have zo_4 := (blk_cell hz 4).trans rfl; have hfo := fun (i_ : Nat) => blk_frozen hx i_; have hzo := fun (i_ : Nat) => blk_frozen hz i_; have hqo := (blk_cell hi.blk 2).trans rfl; have hgo := blk_frozen hi.blk 2; have HZo := Aside0.mk hz; have HIo := Aside0.mk hi; have HKo : Aside0 (KeepBut w wo g none) := ⟨KeepBut.trans (keep_fr HK3.out (by omega) _) (KeepBut.of_below hb g none) (.inl rfl)⟩; clear hi hb hz hx))
          refine bodyPost_ret (results_cell_row rfl _ _ w.heap.size 56 #[.int .i64 0, .int .i64 0, .int .i64 0, .int .i64 0, .string (⟨#[]⟩ : ByteArray)] (0, 0) _ rfl (by (with_reducible repeat (first | refine blk_drewN ?_ _ | refine blk_alloc ?_ _)); with_reducible refine rc_set5 ?_; repeat (with_reducible first | exact HZo.out | refine rc_fr ?_ (by first | omega | (have := GL.out; omega)) _ | refine blk_drewN ?_ _ | refine blk_alloc ?_ _)) hu rfl (by kernel_rfl)) rfl ?_; exact ⟨by first | rfl | (simp; done) | (simp [*]; done), by repeat (with_reducible first | exact HIo.out | refine IsRd.set2 (bad := false) ?_ _ | refine IsRd.far ?_ (by have := G0.out; omega) (by have := GL.out; omega) | apply IsRd.alloc), by repeat (with_reducible first | exact HKo.out | apply KeepBut.set_ | refine keep_fr ?_ (by omega) _)⟩
        · simp only [Bool.false_eq_true, ↓reduceIte, Option.some.injEq, Prod.mk.injEq] at h
          obtain ⟨rfl, rfl, rfl, rfl, rfl, rfl, rfl⟩ := h
          go_enter Try.func104, Try.ntmps104
          go_wp2_with (first | (go_at_call 113; with_reducible refine (rd_num k g A c l at_ bad 3 p1 b1 w0 _ (by repeat (with_reducible first | exact HI.out | refine IsRd.far ?_ (by have := G0.out; omega) (by have := GL.out; omega) | apply IsRd.alloc)) HA1.out).mono ?_; rintro e w1 ⟨rfl, hi, hk⟩; have hz := rc_kp hk (b := w.heap.size) (o := .cells #[.int .i64 0, .int .i64 0, .int .i64 0, .int .i64 0, .string (⟨#[]⟩ : ByteArray)] 56 (0, 0)) (by exact blk_alloc (blk_new _ _) _) (by have := GL.out; omega); have hx := rc_kp hk (b := w.heap.size + 1) (o := .cells #[.int .i64 0, .int .i64 0, .int .i64 0, .int .i64 0, .string (⟨#[]⟩ : ByteArray)] 56 (0, 0)) (by exact rc_at (by simp)) (by have := GL.out; omega); have x1_0 := (blk_cell hx 0).trans rfl; have z1_0 := (blk_cell hz 0).trans rfl; have x1_1 := (blk_cell hx 1).trans rfl; have z1_1 := (blk_cell hz 1).trans rfl; have x1_2 := (blk_cell hx 2).trans rfl; have z1_2 := (blk_cell hz 2).trans rfl; have x1_3 := (blk_cell hx 3).trans rfl; have z1_3 := (blk_cell hz 3).trans rfl; have x1_4 := (blk_cell hx 4).trans rfl; have z1_4 := (blk_cell hz 4).trans rfl; have hf1 := fun (i_ : Nat) => blk_frozen hx i_; have hz1 := fun (i_ : Nat) => blk_frozen hz i_; have hq1 := (blk_cell hi.blk 2).trans rfl; have hg1 := blk_frozen hi.blk 2; have HX1 := Aside0.mk hx; have HZ1 := Aside0.mk hz; have HI1 := Aside0.mk hi; have HK1 : Aside0 (KeepBut w w1 g none) := ⟨KeepBut.trans (keep_alloc (keep_alloc (KeepBut.refl _ _ _) _) _) hk (.inl rfl)⟩; clear hi hk hz hx) | (go_at_call 113; with_reducible refine (rd_num k g A c l p1 b1 x2 p2 b2 w0 _ (by repeat (with_reducible first | exact HI1.out | refine IsRd.far ?_ (by have := G0.out; omega) (by have := GL.out; omega) | apply IsRd.alloc)) HA2.out).mono ?_; rintro e w2 ⟨rfl, hi, hk⟩; have hz := rc_kp hk (b := w.heap.size) (o := .cells #[.int .i64 0, .int .i64 0, .int .i64 0, .int .i64 0, .string (⟨#[]⟩ : ByteArray)] 56 (0, 0)) (by exact rc_fr HZ1.out (by omega) _) (by have := GL.out; omega); have hx := rc_kp hk (b := w.heap.size + 1) (o := .cells #[.int .i64 3, .int .i64 0, .int .i64 0, .int .i64 0, .string (⟨#[]⟩ : ByteArray)] 56 (0, 0)) (by exact (blk_set HX1.out 0 _).trans rfl) (by have := GL.out; omega); have x2_0 := (blk_cell hx 0).trans rfl; have z2_0 := (blk_cell hz 0).trans rfl; have x2_1 := (blk_cell hx 1).trans rfl; have z2_1 := (blk_cell hz 1).trans rfl; have x2_2 := (blk_cell hx 2).trans rfl; have z2_2 := (blk_cell hz 2).trans rfl; have x2_3 := (blk_cell hx 3).trans rfl; have z2_3 := (blk_cell hz 3).trans rfl; have x2_4 := (blk_cell hx 4).trans rfl; have z2_4 := (blk_cell hz 4).trans rfl; have hf2 := fun (i_ : Nat) => blk_frozen hx i_; have hz2 := fun (i_ : Nat) => blk_frozen hz i_; have hq2 := (blk_cell hi.blk 2).trans rfl; have hg2 := blk_frozen hi.blk 2; have HX2 := Aside0.mk hx; have HZ2 := Aside0.mk hz; have HI2 := Aside0.mk hi; have HK2 : Aside0 (KeepBut w w2 g none) := ⟨KeepBut.trans (keep_fr HK1.out (by omega) _) hk (.inl rfl)⟩; clear hi hk hz hx) | (go_at_call 113; with_reducible refine (rd_num k g A c l p2 b2 x3 p3 false w0 _ (by repeat (with_reducible first | exact HI2.out | refine IsRd.far ?_ (by have := G0.out; omega) (by have := GL.out; omega) | apply IsRd.alloc)) HA3.out).mono ?_; rintro e w3 ⟨rfl, hi, hk⟩; have hz := rc_kp hk (b := w.heap.size) (o := .cells #[.int .i64 0, .int .i64 0, .int .i64 0, .int .i64 0, .string (⟨#[]⟩ : ByteArray)] 56 (0, 0)) (by exact rc_fr HZ2.out (by omega) _) (by have := GL.out; omega); have hx := rc_kp hk (b := w.heap.size + 1) (o := .cells #[.int .i64 3, .int .i64 x2, .int .i64 0, .int .i64 0, .string (⟨#[]⟩ : ByteArray)] 56 (0, 0)) (by exact (blk_set HX2.out 1 _).trans rfl) (by have := GL.out; omega); have x3_0 := (blk_cell hx 0).trans rfl; have z3_0 := (blk_cell hz 0).trans rfl; have x3_1 := (blk_cell hx 1).trans rfl; have z3_1 := (blk_cell hz 1).trans rfl; have x3_2 := (blk_cell hx 2).trans rfl; have z3_2 := (blk_cell hz 2).trans rfl; have x3_3 := (blk_cell hx 3).trans rfl; have z3_3 := (blk_cell hz 3).trans rfl; have x3_4 := (blk_cell hx 4).trans rfl; have z3_4 := (blk_cell hz 4).trans rfl; have hf3 := fun (i_ : Nat) => blk_frozen hx i_; have hz3 := fun (i_ : Nat) => blk_frozen hz i_; have hq3 := (blk_cell hi.blk 2).trans rfl; have hg3 := blk_frozen hi.blk 2; have HX3 := Aside0.mk hx; have HZ3 := Aside0.mk hz; have HI3 := Aside0.mk hi; have HK3 : Aside0 (KeepBut w w3 g none) := ⟨KeepBut.trans (keep_fr HK2.out (by omega) _) hk (.inl rfl)⟩; clear hi hk hz hx) | (go_at_call 80; with_reducible refine (impl_CmdOk.calls k _ _ _ _ _ _ _ HOK.out).mono ?_; rintro e wo ⟨rfl, hb⟩; have hz := blk_below (g := w.heap.size) (o := .cells #[.int .i64 0, .int .i64 0, .int .i64 0, .int .i64 0, .string (⟨#[]⟩ : ByteArray)] 56 (0, 0)) (by exact rc_fr HZ3.out (by omega) _) hb; have hx := blk_below (g := w.heap.size + 1) (o := .cells #[.int .i64 3, .int .i64 x2, .int .i64 x3, .int .i64 0, .string (⟨#[]⟩ : ByteArray)] 56 (0, 0)) (by exact (blk_set HX3.out 2 _).trans rfl) hb; have hi : IsRd w0 wo g A c l p3 false := IsRd.step (by repeat (with_reducible first | exact HI3.out | refine IsRd.far ?_ (by have := G0.out; omega) (by have := GL.out; omega) | apply IsRd.alloc)) hb; have xo_0 := (blk_cell hx 0).trans rfl; have zo_0 := (blk_cell hz 0).trans rfl; have xo_1 := (blk_cell hx 1).trans rfl; have zo_1 := (blk_cell hz 1).trans rfl; have xo_2 := (blk_cell hx 2).trans rfl; have zo_2 := (blk_cell hz 2).trans rfl; have xo_3 := (blk_cell hx 3).trans rfl; have zo_3 := (blk_cell hz 3).trans rfl; have xo_4 := (blk_cell hx 4).trans rfl; have zo_4 := (blk_cell hz 4).trans rfl; have hfo := fun (i_ : Nat) => blk_frozen hx i_; have hzo := fun (i_ : Nat) => blk_frozen hz i_; have hqo := (blk_cell hi.blk 2).trans rfl; have hgo := blk_frozen hi.blk 2; have HZo := Aside0.mk hz; have HIo := Aside0.mk hi; have HKo : Aside0 (KeepBut w wo g none) := ⟨KeepBut.trans (keep_fr HK3.out (by omega) _) (KeepBut.of_below hb g none) (.inl rfl)⟩; clear hi hb hz hx))
          refine bodyPost_ret (results_cell_row rfl _ _ w.heap.size 56 #[.int .i64 3, .int .i64 x2, .int .i64 x3, .int .i64 0, .string (⟨#[]⟩ : ByteArray)] (0, 0) _ rfl (by (with_reducible repeat (first | refine blk_drewN ?_ _ | refine blk_alloc ?_ _)); with_reducible refine rc_set5 ?_; repeat (with_reducible first | exact HZo.out | refine rc_fr ?_ (by first | omega | (have := GL.out; omega)) _ | refine blk_drewN ?_ _ | refine blk_alloc ?_ _)) hu rfl (by kernel_rfl)) rfl ?_; exact ⟨by first | rfl | (simp; done) | (simp [*]; done), by repeat (with_reducible first | exact HIo.out | refine IsRd.set2 (bad := false) ?_ _ | refine IsRd.far ?_ (by have := G0.out; omega) (by have := GL.out; omega) | apply IsRd.alloc), by repeat (with_reducible first | exact HKo.out | apply KeepBut.set_ | refine keep_fr ?_ (by omega) _)⟩
      · simp only [Bool.false_eq_true, ↓reduceIte, Option.some.injEq, Prod.mk.injEq] at h
        obtain ⟨rfl, rfl, rfl, rfl, rfl, rfl, rfl⟩ := h
        go_enter Try.func104, Try.ntmps104
        go_wp2_with (first | (go_at_call 113; with_reducible refine (rd_num k g A c l at_ bad 3 p1 b1 w0 _ (by repeat (with_reducible first | exact HI.out | refine IsRd.far ?_ (by have := G0.out; omega) (by have := GL.out; omega) | apply IsRd.alloc)) HA1.out).mono ?_; rintro e w1 ⟨rfl, hi, hk⟩; have hz := rc_kp hk (b := w.heap.size) (o := .cells #[.int .i64 0, .int .i64 0, .int .i64 0, .int .i64 0, .string (⟨#[]⟩ : ByteArray)] 56 (0, 0)) (by exact blk_alloc (blk_new _ _) _) (by have := GL.out; omega); have hx := rc_kp hk (b := w.heap.size + 1) (o := .cells #[.int .i64 0, .int .i64 0, .int .i64 0, .int .i64 0, .string (⟨#[]⟩ : ByteArray)] 56 (0, 0)) (by exact rc_at (by simp)) (by have := GL.out; omega); have x1_0 := (blk_cell hx 0).trans rfl; have z1_0 := (blk_cell hz 0).trans rfl; have x1_1 := (blk_cell hx 1).trans rfl; have z1_1 := (blk_cell hz 1).trans rfl; have x1_2 := (blk_cell hx 2).trans rfl; have z1_2 := (blk_cell hz 2).trans rfl; have x1_3 := (blk_cell hx 3).trans rfl; have z1_3 := (blk_cell hz 3).trans rfl; have x1_4 := (blk_cell hx 4).trans rfl; have z1_4 := (blk_cell hz 4).trans rfl; have hf1 := fun (i_ : Nat) => blk_frozen hx i_; have hz1 := fun (i_ : Nat) => blk_frozen hz i_; have hq1 := (blk_cell hi.blk 2).trans rfl; have hg1 := blk_frozen hi.blk 2; have HX1 := Aside0.mk hx; have HZ1 := Aside0.mk hz; have HI1 := Aside0.mk hi; have HK1 : Aside0 (KeepBut w w1 g none) := ⟨KeepBut.trans (keep_alloc (keep_alloc (KeepBut.refl _ _ _) _) _) hk (.inl rfl)⟩; clear hi hk hz hx) | (go_at_call 113; with_reducible refine (rd_num k g A c l p1 b1 x2 p2 b2 w0 _ (by repeat (with_reducible first | exact HI1.out | refine IsRd.far ?_ (by have := G0.out; omega) (by have := GL.out; omega) | apply IsRd.alloc)) HA2.out).mono ?_; rintro e w2 ⟨rfl, hi, hk⟩; have hz := rc_kp hk (b := w.heap.size) (o := .cells #[.int .i64 0, .int .i64 0, .int .i64 0, .int .i64 0, .string (⟨#[]⟩ : ByteArray)] 56 (0, 0)) (by exact rc_fr HZ1.out (by omega) _) (by have := GL.out; omega); have hx := rc_kp hk (b := w.heap.size + 1) (o := .cells #[.int .i64 3, .int .i64 0, .int .i64 0, .int .i64 0, .string (⟨#[]⟩ : ByteArray)] 56 (0, 0)) (by exact (blk_set HX1.out 0 _).trans rfl) (by have := GL.out; omega); have x2_0 := (blk_cell hx 0).trans rfl; have z2_0 := (blk_cell hz 0).trans rfl; have x2_1 := (blk_cell hx 1).trans rfl; have z2_1 := (blk_cell hz 1).trans rfl; have x2_2 := (blk_cell hx 2).trans rfl; have z2_2 := (blk_cell hz 2).trans rfl; have x2_3 := (blk_cell hx 3).trans rfl; have z2_3 := (blk_cell hz 3).trans rfl; have x2_4 := (blk_cell hx 4).trans rfl; have z2_4 := (blk_cell hz 4).trans rfl; have hf2 := fun (i_ : Nat) => blk_frozen hx i_; have hz2 := fun (i_ : Nat) => blk_frozen hz i_; have hq2 := (blk_cell hi.blk 2).trans rfl; have hg2 := blk_frozen hi.blk 2; have HX2 := Aside0.mk hx; have HZ2 := Aside0.mk hz; have HI2 := Aside0.mk hi; have HK2 : Aside0 (KeepBut w w2 g none) := ⟨KeepBut.trans (keep_fr HK1.out (by omega) _) hk (.inl rfl)⟩; clear hi hk hz hx) | (go_at_call 113; with_reducible refine (rd_num k g A c l p2 b2 x3 p3 true w0 _ (by repeat (with_reducible first | exact HI2.out | refine IsRd.far ?_ (by have := G0.out; omega) (by have := GL.out; omega) | apply IsRd.alloc)) HA3.out).mono ?_; rintro e w3 ⟨rfl, hi, hk⟩; have hz := rc_kp hk (b := w.heap.size) (o := .cells #[.int .i64 0, .int .i64 0, .int .i64 0, .int .i64 0, .string (⟨#[]⟩ : ByteArray)] 56 (0, 0)) (by exact rc_fr HZ2.out (by omega) _) (by have := GL.out; omega); have hx := rc_kp hk (b := w.heap.size + 1) (o := .cells #[.int .i64 3, .int .i64 x2, .int .i64 0, .int .i64 0, .string (⟨#[]⟩ : ByteArray)] 56 (0, 0)) (by exact (blk_set HX2.out 1 _).trans rfl) (by have := GL.out; omega); have x3_0 := (blk_cell hx 0).trans rfl; have z3_0 := (blk_cell hz 0).trans rfl; have x3_1 := (blk_cell hx 1).trans rfl; have z3_1 := (blk_cell hz 1).trans rfl; have x3_2 := (blk_cell hx 2).trans rfl; have z3_2 := (blk_cell hz 2).trans rfl; have x3_3 := (blk_cell hx 3).trans rfl; have z3_3 := (blk_cell hz 3).trans rfl; have x3_4 := (blk_cell hx 4).trans rfl; have z3_4 := (blk_cell hz 4).trans rfl; have hf3 := fun (i_ : Nat) => blk_frozen hx i_; have hz3 := fun (i_ : Nat) => blk_frozen hz i_; have hq3 := (blk_cell hi.blk 2).trans rfl; have hg3 := blk_frozen hi.blk 2; have HX3 := Aside0.mk hx; have HZ3 := Aside0.mk hz; have HI3 := Aside0.mk hi; have HK3 : Aside0 (KeepBut w w3 g none) := ⟨KeepBut.trans (keep_fr HK2.out (by omega) _) hk (.inl rfl)⟩; clear hi hk hz hx))
        refine bodyPost_ret (results_cell_row rfl _ _ w.heap.size 56 #[.int .i64 0, .int .i64 0, .int .i64 0, .int .i64 0, .string (⟨#[]⟩ : ByteArray)] (0, 0) _ rfl (by (with_reducible repeat (first | refine blk_drewN ?_ _ | refine blk_alloc ?_ _)); with_reducible refine rc_set5 ?_; repeat (with_reducible first | exact HZ3.out | refine rc_fr ?_ (by first | omega | (have := GL.out; omega)) _ | refine blk_drewN ?_ _ | refine blk_alloc ?_ _)) hu rfl (by kernel_rfl)) rfl ?_; exact ⟨by first | rfl | (simp; done) | (simp [*]; done), by repeat (with_reducible first | exact HI3.out | refine IsRd.set2 (bad := true) ?_ _ | refine IsRd.far ?_ (by have := G0.out; omega) (by have := GL.out; omega) | apply IsRd.alloc), by repeat (with_reducible first | exact HK3.out | apply KeepBut.set_ | refine keep_fr ?_ (by omega) _)⟩
    · rw [if_neg e3] at h
      have e3b : (x1 == 3) = false := beq_eq_false_iff_ne.mpr e3
      clear e3
      by_cases e2 : x1 = 2
      · subst e2
        simp only [↓reduceIte] at h
        replace h := Option.bind_eq_some_iff.1 h; obtain ⟨⟨x3, p3, b3⟩, hA, h⟩ := h
        simp only at h
        have HA3 := Aside0.mk hA
        clear hA
        replace h := Option.bind_eq_some_iff.1 h; obtain ⟨⟨x4, p4, b4⟩, hA, h⟩ := h
        simp only at h
        have HA4 := Aside0.mk hA
        clear hA
        unfold rcFin at h
        cases b4
        · simp only [Bool.false_eq_true, ↓reduceIte] at h
          replace h := Option.bind_eq_some_iff.1 h; obtain ⟨o, hK, h⟩ := h
          have HOK := Aside0.mk hK
          clear hK
          cases o
          · simp only [Bool.false_eq_true, ↓reduceIte, Option.some.injEq, Prod.mk.injEq] at h
            obtain ⟨rfl, rfl, rfl, rfl, rfl, rfl, rfl⟩ := h
            go_enter Try.func104, Try.ntmps104
            go_wp2_with (first | (go_at_call 113; with_reducible refine (rd_num k g A c l at_ bad 2 p1 b1 w0 _ (by repeat (with_reducible first | exact HI.out | refine IsRd.far ?_ (by have := G0.out; omega) (by have := GL.out; omega) | apply IsRd.alloc)) HA1.out).mono ?_; rintro e w1 ⟨rfl, hi, hk⟩; have hz := rc_kp hk (b := w.heap.size) (o := .cells #[.int .i64 0, .int .i64 0, .int .i64 0, .int .i64 0, .string (⟨#[]⟩ : ByteArray)] 56 (0, 0)) (by exact blk_alloc (blk_new _ _) _) (by have := GL.out; omega); have hx := rc_kp hk (b := w.heap.size + 1) (o := .cells #[.int .i64 0, .int .i64 0, .int .i64 0, .int .i64 0, .string (⟨#[]⟩ : ByteArray)] 56 (0, 0)) (by exact rc_at (by simp)) (by have := GL.out; omega); have x1_0 := (blk_cell hx 0).trans rfl; have z1_0 := (blk_cell hz 0).trans rfl; have x1_1 := (blk_cell hx 1).trans rfl; have z1_1 := (blk_cell hz 1).trans rfl; have x1_2 := (blk_cell hx 2).trans rfl; have z1_2 := (blk_cell hz 2).trans rfl; have x1_3 := (blk_cell hx 3).trans rfl; have z1_3 := (blk_cell hz 3).trans rfl; have x1_4 := (blk_cell hx 4).trans rfl; have z1_4 := (blk_cell hz 4).trans rfl; have hf1 := fun (i_ : Nat) => blk_frozen hx i_; have hz1 := fun (i_ : Nat) => blk_frozen hz i_; have hq1 := (blk_cell hi.blk 2).trans rfl; have hg1 := blk_frozen hi.blk 2; have HX1 := Aside0.mk hx; have HZ1 := Aside0.mk hz; have HI1 := Aside0.mk hi; have HK1 : Aside0 (KeepBut w w1 g none) := ⟨KeepBut.trans (keep_alloc (keep_alloc (KeepBut.refl _ _ _) _) _) hk (.inl rfl)⟩; clear hi hk hz hx) | (go_at_call 113; with_reducible refine (rd_num k g A c l p1 b1 x2 p2 b2 w0 _ (by repeat (with_reducible first | exact HI1.out | refine IsRd.far ?_ (by have := G0.out; omega) (by have := GL.out; omega) | apply IsRd.alloc)) HA2.out).mono ?_; rintro e w2 ⟨rfl, hi, hk⟩; have hz := rc_kp hk (b := w.heap.size) (o := .cells #[.int .i64 0, .int .i64 0, .int .i64 0, .int .i64 0, .string (⟨#[]⟩ : ByteArray)] 56 (0, 0)) (by exact rc_fr HZ1.out (by omega) _) (by have := GL.out; omega); have hx := rc_kp hk (b := w.heap.size + 1) (o := .cells #[.int .i64 2, .int .i64 0, .int .i64 0, .int .i64 0, .string (⟨#[]⟩ : ByteArray)] 56 (0, 0)) (by exact (blk_set HX1.out 0 _).trans rfl) (by have := GL.out; omega); have x2_0 := (blk_cell hx 0).trans rfl; have z2_0 := (blk_cell hz 0).trans rfl; have x2_1 := (blk_cell hx 1).trans rfl; have z2_1 := (blk_cell hz 1).trans rfl; have x2_2 := (blk_cell hx 2).trans rfl; have z2_2 := (blk_cell hz 2).trans rfl; have x2_3 := (blk_cell hx 3).trans rfl; have z2_3 := (blk_cell hz 3).trans rfl; have x2_4 := (blk_cell hx 4).trans rfl; have z2_4 := (blk_cell hz 4).trans rfl; have hf2 := fun (i_ : Nat) => blk_frozen hx i_; have hz2 := fun (i_ : Nat) => blk_frozen hz i_; have hq2 := (blk_cell hi.blk 2).trans rfl; have hg2 := blk_frozen hi.blk 2; have HX2 := Aside0.mk hx; have HZ2 := Aside0.mk hz; have HI2 := Aside0.mk hi; have HK2 : Aside0 (KeepBut w w2 g none) := ⟨KeepBut.trans (keep_fr HK1.out (by omega) _) hk (.inl rfl)⟩; clear hi hk hz hx) | (go_at_call 113; with_reducible refine (rd_num k g A c l p2 b2 x3 p3 b3 w0 _ (by repeat (with_reducible first | exact HI2.out | refine IsRd.far ?_ (by have := G0.out; omega) (by have := GL.out; omega) | apply IsRd.alloc)) HA3.out).mono ?_; rintro e w3 ⟨rfl, hi, hk⟩; have hz := rc_kp hk (b := w.heap.size) (o := .cells #[.int .i64 0, .int .i64 0, .int .i64 0, .int .i64 0, .string (⟨#[]⟩ : ByteArray)] 56 (0, 0)) (by exact rc_fr HZ2.out (by omega) _) (by have := GL.out; omega); have hx := rc_kp hk (b := w.heap.size + 1) (o := .cells #[.int .i64 2, .int .i64 x2, .int .i64 0, .int .i64 0, .string (⟨#[]⟩ : ByteArray)] 56 (0, 0)) (by exact (blk_set HX2.out 1 _).trans rfl) (by have := GL.out; omega); have x3_0 := (blk_cell hx 0).trans rfl; have z3_0 := (blk_cell hz 0).trans rfl; have x3_1 := (blk_cell hx 1).trans rfl; have z3_1 := (blk_cell hz 1).trans rfl; have x3_2 := (blk_cell hx 2).trans rfl; have z3_2 := (blk_cell hz 2).trans rfl; have x3_3 := (blk_cell hx 3).trans rfl; have z3_3 := (blk_cell hz 3).trans rfl; have x3_4 := (blk_cell hx 4).trans rfl; have z3_4 := (blk_cell hz 4).trans rfl; have hf3 := fun (i_ : Nat) => blk_frozen hx i_; have hz3 := fun (i_ : Nat) => blk_frozen hz i_; have hq3 := (blk_cell hi.blk 2).trans rfl; have hg3 := blk_frozen hi.blk 2; have HX3 := Aside0.mk hx; have HZ3 := Aside0.mk hz; have HI3 := Aside0.mk hi; have HK3 : Aside0 (KeepBut w w3 g none) := ⟨KeepBut.trans (keep_fr HK2.out (by omega) _) hk (.inl rfl)⟩; clear hi hk hz hx) | (go_at_call 114; with_reducible refine (rd_bytes g A c l p3 b3 32 x4 p4 false w0 _ (by repeat (with_reducible first | exact HI3.out | refine IsRd.far ?_ (by have := G0.out; omega) (by have := GL.out; omega) | apply IsRd.alloc)) HA4.out).mono ?_; rintro e w4 ⟨rfl, hi, hk⟩; have hz := rc_kp hk (b := w.heap.size) (o := .cells #[.int .i64 0, .int .i64 0, .int .i64 0, .int .i64 0, .string (⟨#[]⟩ : ByteArray)] 56 (0, 0)) (by exact rc_fr HZ3.out (by omega) _) (by have := GL.out; omega); have hx := rc_kp hk (b := w.heap.size + 1) (o := .cells #[.int .i64 2, .int .i64 x2, .int .i64 0, .int .i64 x3, .string (⟨#[]⟩ : ByteArray)] 56 (0, 0)) (by exact (blk_set HX3.out 3 _).trans rfl) (by have := GL.out; omega); have x4_0 := (blk_cell hx 0).trans rfl; have z4_0 := (blk_cell hz 0).trans rfl; have x4_1 := (blk_cell hx 1).trans rfl; have z4_1 := (blk_cell hz 1).trans rfl; have x4_2 := (blk_cell hx 2).trans rfl; have z4_2 := (blk_cell hz 2).trans rfl; have x4_3 := (blk_cell hx 3).trans rfl; have z4_3 := (blk_cell hz 3).trans rfl; have x4_4 := (blk_cell hx 4).trans rfl; have z4_4 := (blk_cell hz 4).trans rfl; have hf4 := fun (i_ : Nat) => blk_frozen hx i_; have hz4 := fun (i_ : Nat) => blk_frozen hz i_; have hq4 := (blk_cell hi.blk 2).trans rfl; have hg4 := blk_frozen hi.blk 2; have HX4 := Aside0.mk hx; have HZ4 := Aside0.mk hz; have HI4 := Aside0.mk hi; have HK4 : Aside0 (KeepBut w w4 g none) := ⟨KeepBut.trans (keep_fr HK3.out (by omega) _) hk (.inl rfl)⟩; clear hi hk hz hx) | (go_at_call 80; with_reducible refine (impl_CmdOk.calls k _ _ _ _ _ _ _ HOK.out).mono ?_; rintro e wo ⟨rfl, hb⟩; have hz := blk_below (g := w.heap.size) (o := .cells #[.int .i64 0, .int .i64 0, .int .i64 0, .int .i64 0, .string (⟨#[]⟩ : ByteArray)] 56 (0, 0)) (by exact rc_fr HZ4.out (by omega) _) hb; have hx := blk_below (g := w.heap.size + 1) (o := .cells #[.int .i64 2, .int .i64 x2, .int .i64 0, .int .i64 x3, .string x4] 56 (0, 0)) (by exact (blk_set HX4.out 4 _).trans rfl) hb; have hi : IsRd w0 wo g A c l p4 false := IsRd.step (by repeat (with_reducible first | exact HI4.out | refine IsRd.far ?_ (by have := G0.out; omega) (by have := GL.out; omega) | apply IsRd.alloc)) hb; have xo_0 := (blk_cell hx 0).trans rfl; have zo_0 := (blk_cell hz 0).trans rfl; have xo_1 := (blk_cell hx 1).trans rfl; have zo_1 := (blk_cell hz 1).trans rfl; have xo_2 := (blk_cell hx 2).trans rfl; have zo_2 := (blk_cell hz 2).trans rfl; have xo_3 := (blk_cell hx 3).trans rfl; have zo_3 := (blk_cell hz 3).trans rfl; have xo_4 := (blk_cell hx 4).trans rfl; have zo_4 := (blk_cell hz 4).trans rfl; have hfo := fun (i_ : Nat) => blk_frozen hx i_; have hzo := fun (i_ : Nat) => blk_frozen hz i_; have hqo := (blk_cell hi.blk 2).trans rfl; have hgo := blk_frozen hi.blk 2; have HZo := Aside0.mk hz; have HIo := Aside0.mk hi; have HKo : Aside0 (KeepBut w wo g none) := ⟨KeepBut.trans (keep_fr HK4.out (by omega) _) (KeepBut.of_below hb g none) (.inl rfl)⟩; clear hi hb hz hx))
            refine bodyPost_ret (results_cell_row rfl _ _ w.heap.size 56 #[.int .i64 0, .int .i64 0, .int .i64 0, .int .i64 0, .string (⟨#[]⟩ : ByteArray)] (0, 0) _ rfl (by (with_reducible repeat (first | refine blk_drewN ?_ _ | refine blk_alloc ?_ _)); with_reducible refine rc_set5 ?_; repeat (with_reducible first | exact HZo.out | refine rc_fr ?_ (by first | omega | (have := GL.out; omega)) _ | refine blk_drewN ?_ _ | refine blk_alloc ?_ _)) hu rfl (by kernel_rfl)) rfl ?_; exact ⟨by first | rfl | (simp; done) | (simp [*]; done), by repeat (with_reducible first | exact HIo.out | refine IsRd.set2 (bad := false) ?_ _ | refine IsRd.far ?_ (by have := G0.out; omega) (by have := GL.out; omega) | apply IsRd.alloc), by repeat (with_reducible first | exact HKo.out | apply KeepBut.set_ | refine keep_fr ?_ (by omega) _)⟩
          · simp only [Bool.false_eq_true, ↓reduceIte, Option.some.injEq, Prod.mk.injEq] at h
            obtain ⟨rfl, rfl, rfl, rfl, rfl, rfl, rfl⟩ := h
            go_enter Try.func104, Try.ntmps104
            go_wp2_with (first | (go_at_call 113; with_reducible refine (rd_num k g A c l at_ bad 2 p1 b1 w0 _ (by repeat (with_reducible first | exact HI.out | refine IsRd.far ?_ (by have := G0.out; omega) (by have := GL.out; omega) | apply IsRd.alloc)) HA1.out).mono ?_; rintro e w1 ⟨rfl, hi, hk⟩; have hz := rc_kp hk (b := w.heap.size) (o := .cells #[.int .i64 0, .int .i64 0, .int .i64 0, .int .i64 0, .string (⟨#[]⟩ : ByteArray)] 56 (0, 0)) (by exact blk_alloc (blk_new _ _) _) (by have := GL.out; omega); have hx := rc_kp hk (b := w.heap.size + 1) (o := .cells #[.int .i64 0, .int .i64 0, .int .i64 0, .int .i64 0, .string (⟨#[]⟩ : ByteArray)] 56 (0, 0)) (by exact rc_at (by simp)) (by have := GL.out; omega); have x1_0 := (blk_cell hx 0).trans rfl; have z1_0 := (blk_cell hz 0).trans rfl; have x1_1 := (blk_cell hx 1).trans rfl; have z1_1 := (blk_cell hz 1).trans rfl; have x1_2 := (blk_cell hx 2).trans rfl; have z1_2 := (blk_cell hz 2).trans rfl; have x1_3 := (blk_cell hx 3).trans rfl; have z1_3 := (blk_cell hz 3).trans rfl; have x1_4 := (blk_cell hx 4).trans rfl; have z1_4 := (blk_cell hz 4).trans rfl; have hf1 := fun (i_ : Nat) => blk_frozen hx i_; have hz1 := fun (i_ : Nat) => blk_frozen hz i_; have hq1 := (blk_cell hi.blk 2).trans rfl; have hg1 := blk_frozen hi.blk 2; have HX1 := Aside0.mk hx; have HZ1 := Aside0.mk hz; have HI1 := Aside0.mk hi; have HK1 : Aside0 (KeepBut w w1 g none) := ⟨KeepBut.trans (keep_alloc (keep_alloc (KeepBut.refl _ _ _) _) _) hk (.inl rfl)⟩; clear hi hk hz hx) | (go_at_call 113; with_reducible refine (rd_num k g A c l p1 b1 x2 p2 b2 w0 _ (by repeat (with_reducible first | exact HI1.out | refine IsRd.far ?_ (by have := G0.out; omega) (by have := GL.out; omega) | apply IsRd.alloc)) HA2.out).mono ?_; rintro e w2 ⟨rfl, hi, hk⟩; have hz := rc_kp hk (b := w.heap.size) (o := .cells #[.int .i64 0, .int .i64 0, .int .i64 0, .int .i64 0, .string (⟨#[]⟩ : ByteArray)] 56 (0, 0)) (by exact rc_fr HZ1.out (by omega) _) (by have := GL.out; omega); have hx := rc_kp hk (b := w.heap.size + 1) (o := .cells #[.int .i64 2, .int .i64 0, .int .i64 0, .int .i64 0, .string (⟨#[]⟩ : ByteArray)] 56 (0, 0)) (by exact (blk_set HX1.out 0 _).trans rfl) (by have := GL.out; omega); have x2_0 := (blk_cell hx 0).trans rfl; have z2_0 := (blk_cell hz 0).trans rfl; have x2_1 := (blk_cell hx 1).trans rfl; have z2_1 := (blk_cell hz 1).trans rfl; have x2_2 := (blk_cell hx 2).trans rfl; have z2_2 := (blk_cell hz 2).trans rfl; have x2_3 := (blk_cell hx 3).trans rfl; have z2_3 := (blk_cell hz 3).trans rfl; have x2_4 := (blk_cell hx 4).trans rfl; have z2_4 := (blk_cell hz 4).trans rfl; have hf2 := fun (i_ : Nat) => blk_frozen hx i_; have hz2 := fun (i_ : Nat) => blk_frozen hz i_; have hq2 := (blk_cell hi.blk 2).trans rfl; have hg2 := blk_frozen hi.blk 2; have HX2 := Aside0.mk hx; have HZ2 := Aside0.mk hz; have HI2 := Aside0.mk hi; have HK2 : Aside0 (KeepBut w w2 g none) := ⟨KeepBut.trans (keep_fr HK1.out (by omega) _) hk (.inl rfl)⟩; clear hi hk hz hx) | (go_at_call 113; with_reducible refine (rd_num k g A c l p2 b2 x3 p3 b3 w0 _ (by repeat (with_reducible first | exact HI2.out | refine IsRd.far ?_ (by have := G0.out; omega) (by have := GL.out; omega) | apply IsRd.alloc)) HA3.out).mono ?_; rintro e w3 ⟨rfl, hi, hk⟩; have hz := rc_kp hk (b := w.heap.size) (o := .cells #[.int .i64 0, .int .i64 0, .int .i64 0, .int .i64 0, .string (⟨#[]⟩ : ByteArray)] 56 (0, 0)) (by exact rc_fr HZ2.out (by omega) _) (by have := GL.out; omega); have hx := rc_kp hk (b := w.heap.size + 1) (o := .cells #[.int .i64 2, .int .i64 x2, .int .i64 0, .int .i64 0, .string (⟨#[]⟩ : ByteArray)] 56 (0, 0)) (by exact (blk_set HX2.out 1 _).trans rfl) (by have := GL.out; omega); have x3_0 := (blk_cell hx 0).trans rfl; have z3_0 := (blk_cell hz 0).trans rfl; have x3_1 := (blk_cell hx 1).trans rfl; have z3_1 := (blk_cell hz 1).trans rfl; have x3_2 := (blk_cell hx 2).trans rfl; have z3_2 := (blk_cell hz 2).trans rfl; have x3_3 := (blk_cell hx 3).trans rfl; have z3_3 := (blk_cell hz 3).trans rfl; have x3_4 := (blk_cell hx 4).trans rfl; have z3_4 := (blk_cell hz 4).trans rfl; have hf3 := fun (i_ : Nat) => blk_frozen hx i_; have hz3 := fun (i_ : Nat) => blk_frozen hz i_; have hq3 := (blk_cell hi.blk 2).trans rfl; have hg3 := blk_frozen hi.blk 2; have HX3 := Aside0.mk hx; have HZ3 := Aside0.mk hz; have HI3 := Aside0.mk hi; have HK3 : Aside0 (KeepBut w w3 g none) := ⟨KeepBut.trans (keep_fr HK2.out (by omega) _) hk (.inl rfl)⟩; clear hi hk hz hx) | (go_at_call 114; with_reducible refine (rd_bytes g A c l p3 b3 32 x4 p4 false w0 _ (by repeat (with_reducible first | exact HI3.out | refine IsRd.far ?_ (by have := G0.out; omega) (by have := GL.out; omega) | apply IsRd.alloc)) HA4.out).mono ?_; rintro e w4 ⟨rfl, hi, hk⟩; have hz := rc_kp hk (b := w.heap.size) (o := .cells #[.int .i64 0, .int .i64 0, .int .i64 0, .int .i64 0, .string (⟨#[]⟩ : ByteArray)] 56 (0, 0)) (by exact rc_fr HZ3.out (by omega) _) (by have := GL.out; omega); have hx := rc_kp hk (b := w.heap.size + 1) (o := .cells #[.int .i64 2, .int .i64 x2, .int .i64 0, .int .i64 x3, .string (⟨#[]⟩ : ByteArray)] 56 (0, 0)) (by exact (blk_set HX3.out 3 _).trans rfl) (by have := GL.out; omega); have x4_0 := (blk_cell hx 0).trans rfl; have z4_0 := (blk_cell hz 0).trans rfl; have x4_1 := (blk_cell hx 1).trans rfl; have z4_1 := (blk_cell hz 1).trans rfl; have x4_2 := (blk_cell hx 2).trans rfl; have z4_2 := (blk_cell hz 2).trans rfl; have x4_3 := (blk_cell hx 3).trans rfl; have z4_3 := (blk_cell hz 3).trans rfl; have x4_4 := (blk_cell hx 4).trans rfl; have z4_4 := (blk_cell hz 4).trans rfl; have hf4 := fun (i_ : Nat) => blk_frozen hx i_; have hz4 := fun (i_ : Nat) => blk_frozen hz i_; have hq4 := (blk_cell hi.blk 2).trans rfl; have hg4 := blk_frozen hi.blk 2; have HX4 := Aside0.mk hx; have HZ4 := Aside0.mk hz; have HI4 := Aside0.mk hi; have HK4 : Aside0 (KeepBut w w4 g none) := ⟨KeepBut.trans (keep_fr HK3.out (by omega) _) hk (.inl rfl)⟩; clear hi hk hz hx) | (go_at_call 80; with_reducible refine (impl_CmdOk.calls k _ _ _ _ _ _ _ HOK.out).mono ?_; rintro e wo ⟨rfl, hb⟩; have hz := blk_below (g := w.heap.size) (o := .cells #[.int .i64 0, .int .i64 0, .int .i64 0, .int .i64 0, .string (⟨#[]⟩ : ByteArray)] 56 (0, 0)) (by exact rc_fr HZ4.out (by omega) _) hb; have hx := blk_below (g := w.heap.size + 1) (o := .cells #[.int .i64 2, .int .i64 x2, .int .i64 0, .int .i64 x3, .string x4] 56 (0, 0)) (by exact (blk_set HX4.out 4 _).trans rfl) hb; have hi : IsRd w0 wo g A c l p4 false := IsRd.step (by repeat (with_reducible first | exact HI4.out | refine IsRd.far ?_ (by have := G0.out; omega) (by have := GL.out; omega) | apply IsRd.alloc)) hb; have xo_0 := (blk_cell hx 0).trans rfl; have zo_0 := (blk_cell hz 0).trans rfl; have xo_1 := (blk_cell hx 1).trans rfl; have zo_1 := (blk_cell hz 1).trans rfl; have xo_2 := (blk_cell hx 2).trans rfl; have zo_2 := (blk_cell hz 2).trans rfl; have xo_3 := (blk_cell hx 3).trans rfl; have zo_3 := (blk_cell hz 3).trans rfl; have xo_4 := (blk_cell hx 4).trans rfl; have zo_4 := (blk_cell hz 4).trans rfl; have hfo := fun (i_ : Nat) => blk_frozen hx i_; have hzo := fun (i_ : Nat) => blk_frozen hz i_; have hqo := (blk_cell hi.blk 2).trans rfl; have hgo := blk_frozen hi.blk 2; have HZo := Aside0.mk hz; have HIo := Aside0.mk hi; have HKo : Aside0 (KeepBut w wo g none) := ⟨KeepBut.trans (keep_fr HK4.out (by omega) _) (KeepBut.of_below hb g none) (.inl rfl)⟩; clear hi hb hz hx))
            refine bodyPost_ret (results_cell_row rfl _ _ w.heap.size 56 #[.int .i64 2, .int .i64 x2, .int .i64 0, .int .i64 x3, .string x4] (0, 0) _ rfl (by (with_reducible repeat (first | refine blk_drewN ?_ _ | refine blk_alloc ?_ _)); with_reducible refine rc_set5 ?_; repeat (with_reducible first | exact HZo.out | refine rc_fr ?_ (by first | omega | (have := GL.out; omega)) _ | refine blk_drewN ?_ _ | refine blk_alloc ?_ _)) hu rfl (by kernel_rfl)) rfl ?_; exact ⟨by first | rfl | (simp; done) | (simp [*]; done), by repeat (with_reducible first | exact HIo.out | refine IsRd.set2 (bad := false) ?_ _ | refine IsRd.far ?_ (by have := G0.out; omega) (by have := GL.out; omega) | apply IsRd.alloc), by repeat (with_reducible first | exact HKo.out | apply KeepBut.set_ | refine keep_fr ?_ (by omega) _)⟩
        · simp only [Bool.false_eq_true, ↓reduceIte, Option.some.injEq, Prod.mk.injEq] at h
          obtain ⟨rfl, rfl, rfl, rfl, rfl, rfl, rfl⟩ := h
          go_enter Try.func104, Try.ntmps104
          go_wp2_with (first | (go_at_call 113; with_reducible refine (rd_num k g A c l at_ bad 2 p1 b1 w0 _ (by repeat (with_reducible first | exact HI.out | refine IsRd.far ?_ (by have := G0.out; omega) (by have := GL.out; omega) | apply IsRd.alloc)) HA1.out).mono ?_; rintro e w1 ⟨rfl, hi, hk⟩; have hz := rc_kp hk (b := w.heap.size) (o := .cells #[.int .i64 0, .int .i64 0, .int .i64 0, .int .i64 0, .string (⟨#[]⟩ : ByteArray)] 56 (0, 0)) (by exact blk_alloc (blk_new _ _) _) (by have := GL.out; omega); have hx := rc_kp hk (b := w.heap.size + 1) (o := .cells #[.int .i64 0, .int .i64 0, .int .i64 0, .int .i64 0, .string (⟨#[]⟩ : ByteArray)] 56 (0, 0)) (by exact rc_at (by simp)) (by have := GL.out; omega); have x1_0 := (blk_cell hx 0).trans rfl; have z1_0 := (blk_cell hz 0).trans rfl; have x1_1 := (blk_cell hx 1).trans rfl; have z1_1 := (blk_cell hz 1).trans rfl; have x1_2 := (blk_cell hx 2).trans rfl; have z1_2 := (blk_cell hz 2).trans rfl; have x1_3 := (blk_cell hx 3).trans rfl; have z1_3 := (blk_cell hz 3).trans rfl; have x1_4 := (blk_cell hx 4).trans rfl; have z1_4 := (blk_cell hz 4).trans rfl; have hf1 := fun (i_ : Nat) => blk_frozen hx i_; have hz1 := fun (i_ : Nat) => blk_frozen hz i_; have hq1 := (blk_cell hi.blk 2).trans rfl; have hg1 := blk_frozen hi.blk 2; have HX1 := Aside0.mk hx; have HZ1 := Aside0.mk hz; have HI1 := Aside0.mk hi; have HK1 : Aside0 (KeepBut w w1 g none) := ⟨KeepBut.trans (keep_alloc (keep_alloc (KeepBut.refl _ _ _) _) _) hk (.inl rfl)⟩; clear hi hk hz hx) | (go_at_call 113; with_reducible refine (rd_num k g A c l p1 b1 x2 p2 b2 w0 _ (by repeat (with_reducible first | exact HI1.out | refine IsRd.far ?_ (by have := G0.out; omega) (by have := GL.out; omega) | apply IsRd.alloc)) HA2.out).mono ?_; rintro e w2 ⟨rfl, hi, hk⟩; have hz := rc_kp hk (b := w.heap.size) (o := .cells #[.int .i64 0, .int .i64 0, .int .i64 0, .int .i64 0, .string (⟨#[]⟩ : ByteArray)] 56 (0, 0)) (by exact rc_fr HZ1.out (by omega) _) (by have := GL.out; omega); have hx := rc_kp hk (b := w.heap.size + 1) (o := .cells #[.int .i64 2, .int .i64 0, .int .i64 0, .int .i64 0, .string (⟨#[]⟩ : ByteArray)] 56 (0, 0)) (by exact (blk_set HX1.out 0 _).trans rfl) (by have := GL.out; omega); have x2_0 := (blk_cell hx 0).trans rfl; have z2_0 := (blk_cell hz 0).trans rfl; have x2_1 := (blk_cell hx 1).trans rfl; have z2_1 := (blk_cell hz 1).trans rfl; have x2_2 := (blk_cell hx 2).trans rfl; have z2_2 := (blk_cell hz 2).trans rfl; have x2_3 := (blk_cell hx 3).trans rfl; have z2_3 := (blk_cell hz 3).trans rfl; have x2_4 := (blk_cell hx 4).trans rfl; have z2_4 := (blk_cell hz 4).trans rfl; have hf2 := fun (i_ : Nat) => blk_frozen hx i_; have hz2 := fun (i_ : Nat) => blk_frozen hz i_; have hq2 := (blk_cell hi.blk 2).trans rfl; have hg2 := blk_frozen hi.blk 2; have HX2 := Aside0.mk hx; have HZ2 := Aside0.mk hz; have HI2 := Aside0.mk hi; have HK2 : Aside0 (KeepBut w w2 g none) := ⟨KeepBut.trans (keep_fr HK1.out (by omega) _) hk (.inl rfl)⟩; clear hi hk hz hx) | (go_at_call 113; with_reducible refine (rd_num k g A c l p2 b2 x3 p3 b3 w0 _ (by repeat (with_reducible first | exact HI2.out | refine IsRd.far ?_ (by have := G0.out; omega) (by have := GL.out; omega) | apply IsRd.alloc)) HA3.out).mono ?_; rintro e w3 ⟨rfl, hi, hk⟩; have hz := rc_kp hk (b := w.heap.size) (o := .cells #[.int .i64 0, .int .i64 0, .int .i64 0, .int .i64 0, .string (⟨#[]⟩ : ByteArray)] 56 (0, 0)) (by exact rc_fr HZ2.out (by omega) _) (by have := GL.out; omega); have hx := rc_kp hk (b := w.heap.size + 1) (o := .cells #[.int .i64 2, .int .i64 x2, .int .i64 0, .int .i64 0, .string (⟨#[]⟩ : ByteArray)] 56 (0, 0)) (by exact (blk_set HX2.out 1 _).trans rfl) (by have := GL.out; omega); have x3_0 := (blk_cell hx 0).trans rfl; have z3_0 := (blk_cell hz 0).trans rfl; have x3_1 := (blk_cell hx 1).trans rfl; have z3_1 := (blk_cell hz 1).trans rfl; have x3_2 := (blk_cell hx 2).trans rfl; have z3_2 := (blk_cell hz 2).trans rfl; have x3_3 := (blk_cell hx 3).trans rfl; have z3_3 := (blk_cell hz 3).trans rfl; have x3_4 := (blk_cell hx 4).trans rfl; have z3_4 := (blk_cell hz 4).trans rfl; have hf3 := fun (i_ : Nat) => blk_frozen hx i_; have hz3 := fun (i_ : Nat) => blk_frozen hz i_; have hq3 := (blk_cell hi.blk 2).trans rfl; have hg3 := blk_frozen hi.blk 2; have HX3 := Aside0.mk hx; have HZ3 := Aside0.mk hz; have HI3 := Aside0.mk hi; have HK3 : Aside0 (KeepBut w w3 g none) := ⟨KeepBut.trans (keep_fr HK2.out (by omega) _) hk (.inl rfl)⟩; clear hi hk hz hx) | (go_at_call 114; with_reducible refine (rd_bytes g A c l p3 b3 32 x4 p4 true w0 _ (by repeat (with_reducible first | exact HI3.out | refine IsRd.far ?_ (by have := G0.out; omega) (by have := GL.out; omega) | apply IsRd.alloc)) HA4.out).mono ?_; rintro e w4 ⟨rfl, hi, hk⟩; have hz := rc_kp hk (b := w.heap.size) (o := .cells #[.int .i64 0, .int .i64 0, .int .i64 0, .int .i64 0, .string (⟨#[]⟩ : ByteArray)] 56 (0, 0)) (by exact rc_fr HZ3.out (by omega) _) (by have := GL.out; omega); have hx := rc_kp hk (b := w.heap.size + 1) (o := .cells #[.int .i64 2, .int .i64 x2, .int .i64 0, .int .i64 x3, .string (⟨#[]⟩ : ByteArray)] 56 (0, 0)) (by exact (blk_set HX3.out 3 _).trans rfl) (by have := GL.out; omega); have x4_0 := (blk_cell hx 0).trans rfl; have z4_0 := (blk_cell hz 0).trans rfl; have x4_1 := (blk_cell hx 1).trans rfl; have z4_1 := (blk_cell hz 1).trans rfl; have x4_2 := (blk_cell hx 2).trans rfl; have z4_2 := (blk_cell hz 2).trans rfl; have x4_3 := (blk_cell hx 3).trans rfl; have z4_3 := (blk_cell hz 3).trans rfl; have x4_4 := (blk_cell hx 4).trans rfl; have z4_4 := (blk_cell hz 4).trans rfl; have hf4 := fun (i_ : Nat) => blk_frozen hx i_; have hz4 := fun (i_ : Nat) => blk_frozen hz i_; have hq4 := (blk_cell hi.blk 2).trans rfl; have hg4 := blk_frozen hi.blk 2; have HX4 := Aside0.mk hx; have HZ4 := Aside0.mk hz; have HI4 := Aside0.mk hi; have HK4 : Aside0 (KeepBut w w4 g none) := ⟨KeepBut.trans (keep_fr HK3.out (by omega) _) hk (.inl rfl)⟩; clear hi hk hz hx))
          refine bodyPost_ret (results_cell_row rfl _ _ w.heap.size 56 #[.int .i64 0, .int .i64 0, .int .i64 0, .int .i64 0, .string (⟨#[]⟩ : ByteArray)] (0, 0) _ rfl (by (with_reducible repeat (first | refine blk_drewN ?_ _ | refine blk_alloc ?_ _)); with_reducible refine rc_set5 ?_; repeat (with_reducible first | exact HZ4.out | refine rc_fr ?_ (by first | omega | (have := GL.out; omega)) _ | refine blk_drewN ?_ _ | refine blk_alloc ?_ _)) hu rfl (by kernel_rfl)) rfl ?_; exact ⟨by first | rfl | (simp; done) | (simp [*]; done), by repeat (with_reducible first | exact HI4.out | refine IsRd.set2 (bad := true) ?_ _ | refine IsRd.far ?_ (by have := G0.out; omega) (by have := GL.out; omega) | apply IsRd.alloc), by repeat (with_reducible first | exact HK4.out | apply KeepBut.set_ | refine keep_fr ?_ (by omega) _)⟩
      · rw [if_neg e2] at h
        have e2b : (x1 == 2) = false := beq_eq_false_iff_ne.mpr e2
        clear e2
        unfold rcFin at h
        cases b2
        · simp only [Bool.false_eq_true, ↓reduceIte] at h
          replace h := Option.bind_eq_some_iff.1 h; obtain ⟨o, hK, h⟩ := h
          have HOK := Aside0.mk hK
          clear hK
          cases o
          · simp only [Bool.false_eq_true, ↓reduceIte, Option.some.injEq, Prod.mk.injEq] at h
            obtain ⟨rfl, rfl, rfl, rfl, rfl, rfl, rfl⟩ := h
            go_enter Try.func104, Try.ntmps104
            go_wp2_with (first | (go_at_call 113; with_reducible refine (rd_num k g A c l at_ bad x1 p1 b1 w0 _ (by repeat (with_reducible first | exact HI.out | refine IsRd.far ?_ (by have := G0.out; omega) (by have := GL.out; omega) | apply IsRd.alloc)) HA1.out).mono ?_; rintro e w1 ⟨rfl, hi, hk⟩; have hz := rc_kp hk (b := w.heap.size) (o := .cells #[.int .i64 0, .int .i64 0, .int .i64 0, .int .i64 0, .string (⟨#[]⟩ : ByteArray)] 56 (0, 0)) (by exact blk_alloc (blk_new _ _) _) (by have := GL.out; omega); have hx := rc_kp hk (b := w.heap.size + 1) (o := .cells #[.int .i64 0, .int .i64 0, .int .i64 0, .int .i64 0, .string (⟨#[]⟩ : ByteArray)] 56 (0, 0)) (by exact rc_at (by simp)) (by have := GL.out; omega); have x1_0 := (blk_cell hx 0).trans rfl; have z1_0 := (blk_cell hz 0).trans rfl; have x1_1 := (blk_cell hx 1).trans rfl; have z1_1 := (blk_cell hz 1).trans rfl; have x1_2 := (blk_cell hx 2).trans rfl; have z1_2 := (blk_cell hz 2).trans rfl; have x1_3 := (blk_cell hx 3).trans rfl; have z1_3 := (blk_cell hz 3).trans rfl; have x1_4 := (blk_cell hx 4).trans rfl; have z1_4 := (blk_cell hz 4).trans rfl; have hf1 := fun (i_ : Nat) => blk_frozen hx i_; have hz1 := fun (i_ : Nat) => blk_frozen hz i_; have hq1 := (blk_cell hi.blk 2).trans rfl; have hg1 := blk_frozen hi.blk 2; have HX1 := Aside0.mk hx; have HZ1 := Aside0.mk hz; have HI1 := Aside0.mk hi; have HK1 : Aside0 (KeepBut w w1 g none) := ⟨KeepBut.trans (keep_alloc (keep_alloc (KeepBut.refl _ _ _) _) _) hk (.inl rfl)⟩; clear hi hk hz hx) | (go_at_call 113; with_reducible refine (rd_num k g A c l p1 b1 x2 p2 false w0 _ (by repeat (with_reducible first | exact HI1.out | refine IsRd.far ?_ (by have := G0.out; omega) (by have := GL.out; omega) | apply IsRd.alloc)) HA2.out).mono ?_; rintro e w2 ⟨rfl, hi, hk⟩; have hz := rc_kp hk (b := w.heap.size) (o := .cells #[.int .i64 0, .int .i64 0, .int .i64 0, .int .i64 0, .string (⟨#[]⟩ : ByteArray)] 56 (0, 0)) (by exact rc_fr HZ1.out (by omega) _) (by have := GL.out; omega); have hx := rc_kp hk (b := w.heap.size + 1) (o := .cells #[.int .i64 x1, .int .i64 0, .int .i64 0, .int .i64 0, .string (⟨#[]⟩ : ByteArray)] 56 (0, 0)) (by exact (blk_set HX1.out 0 _).trans rfl) (by have := GL.out; omega); have x2_0 := (blk_cell hx 0).trans rfl; have z2_0 := (blk_cell hz 0).trans rfl; have x2_1 := (blk_cell hx 1).trans rfl; have z2_1 := (blk_cell hz 1).trans rfl; have x2_2 := (blk_cell hx 2).trans rfl; have z2_2 := (blk_cell hz 2).trans rfl; have x2_3 := (blk_cell hx 3).trans rfl; have z2_3 := (blk_cell hz 3).trans rfl; have x2_4 := (blk_cell hx 4).trans rfl; have z2_4 := (blk_cell hz 4).trans rfl; have hf2 := fun (i_ : Nat) => blk_frozen hx i_; have hz2 := fun (i_ : Nat) => blk_frozen hz i_; have hq2 := (blk_cell hi.blk 2).trans rfl; have hg2 := blk_frozen hi.blk 2; have HX2 := Aside0.mk hx; have HZ2 := Aside0.mk hz; have HI2 := Aside0.mk hi; have HK2 : Aside0 (KeepBut w w2 g none) := ⟨KeepBut.trans (keep_fr HK1.out (by omega) _) hk (.inl rfl)⟩; clear hi hk hz hx) | (go_at_call 80; with_reducible refine (impl_CmdOk.calls k _ _ _ _ _ _ _ HOK.out).mono ?_; rintro e wo ⟨rfl, hb⟩; have hz := blk_below (g := w.heap.size) (o := .cells #[.int .i64 0, .int .i64 0, .int .i64 0, .int .i64 0, .string (⟨#[]⟩ : ByteArray)] 56 (0, 0)) (by exact rc_fr HZ2.out (by omega) _) hb; have hx := blk_below (g := w.heap.size + 1) (o := .cells #[.int .i64 x1, .int .i64 x2, .int .i64 0, .int .i64 0, .string (⟨#[]⟩ : ByteArray)] 56 (0, 0)) (by exact (blk_set HX2.out 1 _).trans rfl) hb; have hi : IsRd w0 wo g A c l p2 false := IsRd.step (by repeat (with_reducible first | exact HI2.out | refine IsRd.far ?_ (by have := G0.out; omega) (by have := GL.out; omega) | apply IsRd.alloc)) hb; have xo_0 := (blk_cell hx 0).trans rfl; have zo_0 := (blk_cell hz 0).trans rfl; have xo_1 := (blk_cell hx 1).trans rfl; have zo_1 := (blk_cell hz 1).trans rfl; have xo_2 := (blk_cell hx 2).trans rfl; have zo_2 := (blk_cell hz 2).trans rfl; have xo_3 := (blk_cell hx 3).trans rfl; have zo_3 := (blk_cell hz 3).trans rfl; have xo_4 := (blk_cell hx 4).trans rfl; have zo_4 := (blk_cell hz 4).trans rfl; have hfo := fun (i_ : Nat) => blk_frozen hx i_; have hzo := fun (i_ : Nat) => blk_frozen hz i_; have hqo := (blk_cell hi.blk 2).trans rfl; have hgo := blk_frozen hi.blk 2; have HZo := Aside0.mk hz; have HIo := Aside0.mk hi; have HKo : Aside0 (KeepBut w wo g none) := ⟨KeepBut.trans (keep_fr HK2.out (by omega) _) (KeepBut.of_below hb g none) (.inl rfl)⟩; clear hi hb hz hx))
            refine bodyPost_ret (results_cell_row rfl _ _ w.heap.size 56 #[.int .i64 0, .int .i64 0, .int .i64 0, .int .i64 0, .string (⟨#[]⟩ : ByteArray)] (0, 0) _ rfl (by (with_reducible repeat (first | refine blk_drewN ?_ _ | refine blk_alloc ?_ _)); with_reducible refine rc_set5 ?_; repeat (with_reducible first | exact HZo.out | refine rc_fr ?_ (by first | omega | (have := GL.out; omega)) _ | refine blk_drewN ?_ _ | refine blk_alloc ?_ _)) hu rfl (by kernel_rfl)) rfl ?_; exact ⟨by first | rfl | (simp; done) | (simp [*]; done), by repeat (with_reducible first | exact HIo.out | refine IsRd.set2 (bad := false) ?_ _ | refine IsRd.far ?_ (by have := G0.out; omega) (by have := GL.out; omega) | apply IsRd.alloc), by repeat (with_reducible first | exact HKo.out | apply KeepBut.set_ | refine keep_fr ?_ (by omega) _)⟩
          · simp only [Bool.false_eq_true, ↓reduceIte, Option.some.injEq, Prod.mk.injEq] at h
            obtain ⟨rfl, rfl, rfl, rfl, rfl, rfl, rfl⟩ := h
            go_enter Try.func104, Try.ntmps104
            go_wp2_with (first | (go_at_call 113; with_reducible refine (rd_num k g A c l at_ bad x1 p1 b1 w0 _ (by repeat (with_reducible first | exact HI.out | refine IsRd.far ?_ (by have := G0.out; omega) (by have := GL.out; omega) | apply IsRd.alloc)) HA1.out).mono ?_; rintro e w1 ⟨rfl, hi, hk⟩; have hz := rc_kp hk (b := w.heap.size) (o := .cells #[.int .i64 0, .int .i64 0, .int .i64 0, .int .i64 0, .string (⟨#[]⟩ : ByteArray)] 56 (0, 0)) (by exact blk_alloc (blk_new _ _) _) (by have := GL.out; omega); have hx := rc_kp hk (b := w.heap.size + 1) (o := .cells #[.int .i64 0, .int .i64 0, .int .i64 0, .int .i64 0, .string (⟨#[]⟩ : ByteArray)] 56 (0, 0)) (by exact rc_at (by simp)) (by have := GL.out; omega); have x1_0 := (blk_cell hx 0).trans rfl; have z1_0 := (blk_cell hz 0).trans rfl; have x1_1 := (blk_cell hx 1).trans rfl; have z1_1 := (blk_cell hz 1).trans rfl; have x1_2 := (blk_cell hx 2).trans rfl; have z1_2 := (blk_cell hz 2).trans rfl; have x1_3 := (blk_cell hx 3).trans rfl; have z1_3 := (blk_cell hz 3).trans rfl; have x1_4 := (blk_cell hx 4).trans rfl; have z1_4 := (blk_cell hz 4).trans rfl; have hf1 := fun (i_ : Nat) => blk_frozen hx i_; have hz1 := fun (i_ : Nat) => blk_frozen hz i_; have hq1 := (blk_cell hi.blk 2).trans rfl; have hg1 := blk_frozen hi.blk 2; have HX1 := Aside0.mk hx; have HZ1 := Aside0.mk hz; have HI1 := Aside0.mk hi; have HK1 : Aside0 (KeepBut w w1 g none) := ⟨KeepBut.trans (keep_alloc (keep_alloc (KeepBut.refl _ _ _) _) _) hk (.inl rfl)⟩; clear hi hk hz hx) | (go_at_call 113; with_reducible refine (rd_num k g A c l p1 b1 x2 p2 false w0 _ (by repeat (with_reducible first | exact HI1.out | refine IsRd.far ?_ (by have := G0.out; omega) (by have := GL.out; omega) | apply IsRd.alloc)) HA2.out).mono ?_; rintro e w2 ⟨rfl, hi, hk⟩; have hz := rc_kp hk (b := w.heap.size) (o := .cells #[.int .i64 0, .int .i64 0, .int .i64 0, .int .i64 0, .string (⟨#[]⟩ : ByteArray)] 56 (0, 0)) (by exact rc_fr HZ1.out (by omega) _) (by have := GL.out; omega); have hx := rc_kp hk (b := w.heap.size + 1) (o := .cells #[.int .i64 x1, .int .i64 0, .int .i64 0, .int .i64 0, .string (⟨#[]⟩ : ByteArray)] 56 (0, 0)) (by exact (blk_set HX1.out 0 _).trans rfl) (by have := GL.out; omega); have x2_0 := (blk_cell hx 0).trans rfl; have z2_0 := (blk_cell hz 0).trans rfl; have x2_1 := (blk_cell hx 1).trans rfl; have z2_1 := (blk_cell hz 1).trans rfl; have x2_2 := (blk_cell hx 2).trans rfl; have z2_2 := (blk_cell hz 2).trans rfl; have x2_3 := (blk_cell hx 3).trans rfl; have z2_3 := (blk_cell hz 3).trans rfl; have x2_4 := (blk_cell hx 4).trans rfl; have z2_4 := (blk_cell hz 4).trans rfl; have hf2 := fun (i_ : Nat) => blk_frozen hx i_; have hz2 := fun (i_ : Nat) => blk_frozen hz i_; have hq2 := (blk_cell hi.blk 2).trans rfl; have hg2 := blk_frozen hi.blk 2; have HX2 := Aside0.mk hx; have HZ2 := Aside0.mk hz; have HI2 := Aside0.mk hi; have HK2 : Aside0 (KeepBut w w2 g none) := ⟨KeepBut.trans (keep_fr HK1.out (by omega) _) hk (.inl rfl)⟩; clear hi hk hz hx) | (go_at_call 80; with_reducible refine (impl_CmdOk.calls k _ _ _ _ _ _ _ HOK.out).mono ?_; rintro e wo ⟨rfl, hb⟩; have hz := blk_below (g := w.heap.size) (o := .cells #[.int .i64 0, .int .i64 0, .int .i64 0, .int .i64 0, .string (⟨#[]⟩ : ByteArray)] 56 (0, 0)) (by exact rc_fr HZ2.out (by omega) _) hb; have hx := blk_below (g := w.heap.size + 1) (o := .cells #[.int .i64 x1, .int .i64 x2, .int .i64 0, .int .i64 0, .string (⟨#[]⟩ : ByteArray)] 56 (0, 0)) (by exact (blk_set HX2.out 1 _).trans rfl) hb; have hi : IsRd w0 wo g A c l p2 false := IsRd.step (by repeat (with_reducible first | exact HI2.out | refine IsRd.far ?_ (by have := G0.out; omega) (by have := GL.out; omega) | apply IsRd.alloc)) hb; have xo_0 := (blk_cell hx 0).trans rfl; have zo_0 := (blk_cell hz 0).trans rfl; have xo_1 := (blk_cell hx 1).trans rfl; have zo_1 := (blk_cell hz 1).trans rfl; have xo_2 := (blk_cell hx 2).trans rfl; have zo_2 := (blk_cell hz 2).trans rfl; have xo_3 := (blk_cell hx 3).trans rfl; have zo_3 := (blk_cell hz 3).trans rfl; have xo_4 := (blk_cell hx 4).trans rfl; have zo_4 := (blk_cell hz 4).trans rfl; have hfo := fun (i_ : Nat) => blk_frozen hx i_; have hzo := fun (i_ : Nat) => blk_frozen hz i_; have hqo := (blk_cell hi.blk 2).trans rfl; have hgo := blk_frozen hi.blk 2; have HZo := Aside0.mk hz; have HIo := Aside0.mk hi; have HKo : Aside0 (KeepBut w wo g none) := ⟨KeepBut.trans (keep_fr HK2.out (by omega) _) (KeepBut.of_below hb g none) (.inl rfl)⟩; clear hi hb hz hx))
            refine bodyPost_ret (results_cell_row rfl _ _ w.heap.size 56 #[.int .i64 x1, .int .i64 x2, .int .i64 0, .int .i64 0, .string (⟨#[]⟩ : ByteArray)] (0, 0) _ rfl (by (with_reducible repeat (first | refine blk_drewN ?_ _ | refine blk_alloc ?_ _)); with_reducible refine rc_set5 ?_; repeat (with_reducible first | exact HZo.out | refine rc_fr ?_ (by first | omega | (have := GL.out; omega)) _ | refine blk_drewN ?_ _ | refine blk_alloc ?_ _)) hu rfl (by kernel_rfl)) rfl ?_; exact ⟨by first | rfl | (simp; done) | (simp [*]; done), by repeat (with_reducible first | exact HIo.out | refine IsRd.set2 (bad := false) ?_ _ | refine IsRd.far ?_ (by have := G0.out; omega) (by have := GL.out; omega) | apply IsRd.alloc), by repeat (with_reducible first | exact HKo.out | apply KeepBut.set_ | refine keep_fr ?_ (by omega) _)⟩
        · simp only [Bool.false_eq_true, ↓reduceIte, Option.some.injEq, Prod.mk.injEq] at h
          obtain ⟨rfl, rfl, rfl, rfl, rfl, rfl, rfl⟩ := h
          go_enter Try.func104, Try.ntmps104
          go_wp2_with (first | (go_at_call 113; with_reducible refine (rd_num k g A c l at_ bad x1 p1 b1 w0 _ (by repeat (with_reducible first | exact HI.out | refine IsRd.far ?_ (by have := G0.out; omega) (by have := GL.out; omega) | apply IsRd.alloc)) HA1.out).mono ?_; rintro e w1 ⟨rfl, hi, hk⟩; have hz := rc_kp hk (b := w.heap.size) (o := .cells #[.int .i64 0, .int .i64 0, .int .i64 0, .int .i64 0, .string (⟨#[]⟩ : ByteArray)] 56 (0, 0)) (by exact blk_alloc (blk_new _ _) _) (by have := GL.out; omega); have hx := rc_kp hk (b := w.heap.size + 1) (o := .cells #[.int .i64 0, .int .i64 0, .int .i64 0, .int .i64 0, .string (⟨#[]⟩ : ByteArray)] 56 (0, 0)) (by exact rc_at (by simp)) (by have := GL.out; omega); have x1_0 := (blk_cell hx 0).trans rfl; have z1_0 := (blk_cell hz 0).trans rfl; have x1_1 := (blk_cell hx 1).trans rfl; have z1_1 := (blk_cell hz 1).trans rfl; have x1_2 := (blk_cell hx 2).trans rfl; have z1_2 := (blk_cell hz 2).trans rfl; have x1_3 := (blk_cell hx 3).trans rfl; have z1_3 := (blk_cell hz 3).trans rfl; have x1_4 := (blk_cell hx 4).trans rfl; have z1_4 := (blk_cell hz 4).trans rfl; have hf1 := fun (i_ : Nat) => blk_frozen hx i_; have hz1 := fun (i_ : Nat) => blk_frozen hz i_; have hq1 := (blk_cell hi.blk 2).trans rfl; have hg1 := blk_frozen hi.blk 2; have HX1 := Aside0.mk hx; have HZ1 := Aside0.mk hz; have HI1 := Aside0.mk hi; have HK1 : Aside0 (KeepBut w w1 g none) := ⟨KeepBut.trans (keep_alloc (keep_alloc (KeepBut.refl _ _ _) _) _) hk (.inl rfl)⟩; clear hi hk hz hx) | (go_at_call 113; with_reducible refine (rd_num k g A c l p1 b1 x2 p2 true w0 _ (by repeat (with_reducible first | exact HI1.out | refine IsRd.far ?_ (by have := G0.out; omega) (by have := GL.out; omega) | apply IsRd.alloc)) HA2.out).mono ?_; rintro e w2 ⟨rfl, hi, hk⟩; have hz := rc_kp hk (b := w.heap.size) (o := .cells #[.int .i64 0, .int .i64 0, .int .i64 0, .int .i64 0, .string (⟨#[]⟩ : ByteArray)] 56 (0, 0)) (by exact rc_fr HZ1.out (by omega) _) (by have := GL.out; omega); have hx := rc_kp hk (b := w.heap.size + 1) (o := .cells #[.int .i64 x1, .int .i64 0, .int .i64 0, .int .i64 0, .string (⟨#[]⟩ : ByteArray)] 56 (0, 0)) (by exact (blk_set HX1.out 0 _).trans rfl) (by have := GL.out; omega); have x2_0 := (blk_cell hx 0).trans rfl; have z2_0 := (blk_cell hz 0).trans rfl; have x2_1 := (blk_cell hx 1).trans rfl; have z2_1 := (blk_cell hz 1).trans rfl; have x2_2 := (blk_cell hx 2).trans rfl; have z2_2 := (blk_cell hz 2).trans rfl; have x2_3 := (blk_cell hx 3).trans rfl; have z2_3 := (blk_cell hz 3).trans rfl; have x2_4 := (blk_cell hx 4).trans rfl; have z2_4 := (blk_cell hz 4).trans rfl; have hf2 := fun (i_ : Nat) => blk_frozen hx i_; have hz2 := fun (i_ : Nat) => blk_frozen hz i_; have hq2 := (blk_cell hi.blk 2).trans rfl; have hg2 := blk_frozen hi.blk 2; have HX2 := Aside0.mk hx; have HZ2 := Aside0.mk hz; have HI2 := Aside0.mk hi; have HK2 : Aside0 (KeepBut w w2 g none) := ⟨KeepBut.trans (keep_fr HK1.out (by omega) _) hk (.inl rfl)⟩; clear hi hk hz hx))
          refine bodyPost_ret (results_cell_row rfl _ _ w.heap.size 56 #[.int .i64 0, .int .i64 0, .int .i64 0, .int .i64 0, .string (⟨#[]⟩ : ByteArray)] (0, 0) _ rfl (by (with_reducible repeat (first | refine blk_drewN ?_ _ | refine blk_alloc ?_ _)); with_reducible refine rc_set5 ?_; repeat (with_reducible first | exact HZ2.out | refine rc_fr ?_ (by first | omega | (have := GL.out; omega)) _ | refine blk_drewN ?_ _ | refine blk_alloc ?_ _)) hu rfl (by kernel_rfl)) rfl ?_; exact ⟨by first | rfl | (simp; done) | (simp [*]; done), by repeat (with_reducible first | exact HI2.out | refine IsRd.set2 (bad := true) ?_ _ | refine IsRd.far ?_ (by have := G0.out; omega) (by have := GL.out; omega) | apply IsRd.alloc), by repeat (with_reducible first | exact HK2.out | apply KeepBut.set_ | refine keep_fr ?_ (by omega) _)⟩


/-! ### impl_CmdRead: function 59 -/
def impl_CmdRead.f (k : Nat) (l0 : List Int) (a1 : Int) : Option (Int × Int × Int × Int × ByteArray × Int × Bool) :=
  (rdCmd k l0 a1 false).bind fun t => if t.2.2.2.2.2.2 = true then some (0, 0, 0, 0, (⟨#[]⟩ : ByteArray), 0, false) else some (t.1, t.2.1, t.2.2.1, t.2.2.2.1, t.2.2.2.2.1, t.2.2.2.2.2.1, true)
theorem impl_CmdRead.mono : ∀ a0 a1 k, LeO (impl_CmdRead.f k a0 a1) (impl_CmdRead.f (k + 1) a0 a1) := by
  intro a0 a1 k
  unfold impl_CmdRead.f
  repeat' first
  | exact rdCmd.mono _ _ _ _
  | exact LeO.refl _
  | refine LeO.bind ?_ (fun _ => ?_)
set_option maxHeartbeats 4000000 in
set_option maxRecDepth 100000 in
theorem impl_CmdRead.calls (k : Nat) (A0 : Option Addr) (c0 : Nat) (l0 : List Int) (a1 : Int) (r1 : Int) (r2 : Int) (r3 : Int) (r4 : Int) (r5 : ByteArray) (r6 : Int) (r7 : Bool) (w : World) (hr0 : Kd.C (Kd.int .u8) w A0 l0.length l0) (hc0 : l0.length ≤ c0) (h : impl_CmdRead.f k l0 a1 = some (r1, r2, r3, r4, r5, r6, r7)) :
    Calls Try.prog 59 #[.slice A0 l0.length c0, .int .i64 a1] w fun e w' => e = .returned (.tuple #[.agg #[.int .i64 r1, .int .i64 r2, .int .i64 r3, .int .i64 r4, .string r5], .int .i64 r6, .bool r7]) ∧ Below w.heap.size w w' := by
  have hu := Try.underlying56
  have HI : Aside0 (IsRd w ((w.alloc (.cells #[.int .i64 0, .int .i64 0, .int .i64 0, .int .i64 0, .string (⟨#[]⟩ : ByteArray)] 56 (0, 0))).alloc (.cells #[.slice A0 l0.length c0, .int .i64 a1, .bool false] 99 (0, 0))) (w.heap.size + 1) A0 c0 l0 a1 false) :=
    ⟨⟨rc_at (by simp), hc0, by omega, below_alloc (below_alloc (Below.refl _ _) _) _, hr0⟩⟩
  unfold impl_CmdRead.f at h
  replace h := Option.bind_eq_some_iff.1 h
  obtain ⟨⟨x1, x2, x3, x4, x5, p, b⟩, hA, h⟩ := h
  simp only at h
  have HA := Aside0.mk hA
  clear hA hr0 hc0
  cases b
  · simp only [Bool.false_eq_true, ↓reduceIte, Option.some.injEq, Prod.mk.injEq] at h
    obtain ⟨rfl, rfl, rfl, rfl, rfl, rfl, rfl⟩ := h
    go_enter Try.func59, Try.ntmps59
    go_wp2_with (go_at_call 104; with_reducible refine (rd_cmd k (w.heap.size + 1) A0 c0 l0 a1 false _ _ _ _ _ _ _ w _ HI.out HA.out).mono ?_; rintro e w1 ⟨rfl, hi, hk⟩; have hz := rc_kp hk (b := w.heap.size) (o := .cells #[.int .i64 0, .int .i64 0, .int .i64 0, .int .i64 0, .string (⟨#[]⟩ : ByteArray)] 56 (0, 0)) (by exact blk_alloc (blk_new _ _) _) (by omega); have z0 := (blk_cell hz 0).trans rfl; have z1 := (blk_cell hz 1).trans rfl; have z2 := (blk_cell hz 2).trans rfl; have z3 := (blk_cell hz 3).trans rfl; have z4 := (blk_cell hz 4).trans rfl; have fz := fun (i_ : Nat) => blk_frozen hz i_; have q1 := (blk_cell hi.blk 1).trans rfl; have q2 := (blk_cell hi.blk 2).trans rfl; have hm1 : ¬ w.heap.size + 1 = w1.heap.size := Nat.ne_of_lt hi.lt; have hm2 : ¬ w1.heap.size = w.heap.size + 1 := Nat.ne_of_gt hi.lt; have hm3 : ¬ w.heap.size = w1.heap.size := Nat.ne_of_lt (blk_lt hz); have hm4 : ¬ w1.heap.size = w.heap.size := Nat.ne_of_gt (blk_lt hz); have hm5 : w.heap.size < w1.heap.size := blk_lt hz; have hm6 : w.heap.size + 1 < w1.heap.size := hi.lt; have HZ := Aside0.mk hz; have HB := Aside0.mk hi.bel; clear hi hk hz)
    go_region
    all_goals go_wp2
    all_goals (refine bodyPost_ret (results_ctt rfl _ _ w.heap.size 56 #[.int .i64 x1, .int .i64 x2, .int .i64 x3, .int .i64 x4, .string x5] (0, 0) _ rfl (by (with_reducible repeat (first | refine blk_drewN ?_ _ | refine blk_drew ?_ | refine blk_alloc ?_ _)); with_reducible refine rc_set5 ?_; repeat (with_reducible first | exact HZ.out | refine blk_drewN ?_ _ | refine blk_drew ?_ | refine blk_alloc ?_ _)) hu rfl (by kernel_rfl)) rfl ?_)
    all_goals exact ⟨by first | rfl | (simp; done) | (simp [*]; done), by repeat (with_reducible first | exact HB.out | apply below_alloc | apply pw_below_drewN | apply below_drew | refine below_set ?_ (Nat.le_refl _))⟩
  · simp only [↓reduceIte, Option.some.injEq, Prod.mk.injEq] at h
    obtain ⟨rfl, rfl, rfl, rfl, rfl, rfl, rfl⟩ := h
    go_enter Try.func59, Try.ntmps59
    go_wp2_with (go_at_call 104; with_reducible refine (rd_cmd k (w.heap.size + 1) A0 c0 l0 a1 false _ _ _ _ _ _ _ w _ HI.out HA.out).mono ?_; rintro e w1 ⟨rfl, hi, hk⟩; have hz := rc_kp hk (b := w.heap.size) (o := .cells #[.int .i64 0, .int .i64 0, .int .i64 0, .int .i64 0, .string (⟨#[]⟩ : ByteArray)] 56 (0, 0)) (by exact blk_alloc (blk_new _ _) _) (by omega); have z0 := (blk_cell hz 0).trans rfl; have z1 := (blk_cell hz 1).trans rfl; have z2 := (blk_cell hz 2).trans rfl; have z3 := (blk_cell hz 3).trans rfl; have z4 := (blk_cell hz 4).trans rfl; have fz := fun (i_ : Nat) => blk_frozen hz i_; have q1 := (blk_cell hi.blk 1).trans rfl; have q2 := (blk_cell hi.blk 2).trans rfl; have hm1 : ¬ w.heap.size + 1 = w1.heap.size := Nat.ne_of_lt hi.lt; have hm2 : ¬ w1.heap.size = w.heap.size + 1 := Nat.ne_of_gt hi.lt; have hm3 : ¬ w.heap.size = w1.heap.size := Nat.ne_of_lt (blk_lt hz); have hm4 : ¬ w1.heap.size = w.heap.size := Nat.ne_of_gt (blk_lt hz); have hm5 : w.heap.size < w1.heap.size := blk_lt hz; have hm6 : w.heap.size + 1 < w1.heap.size := hi.lt; have HZ := Aside0.mk hz; have HB := Aside0.mk hi.bel; clear hi hk hz)
    refine bodyPost_ret (results_ctt rfl _ _ w.heap.size 56 #[.int .i64 0, .int .i64 0, .int .i64 0, .int .i64 0, .string (⟨#[]⟩ : ByteArray)] (0, 0) _ rfl (by (with_reducible repeat (first | refine blk_drewN ?_ _ | refine blk_alloc ?_ _)); with_reducible refine rc_set5 ?_; repeat (with_reducible first | exact HZ.out | refine blk_drewN ?_ _ | refine blk_alloc ?_ _)) hu rfl (by kernel_rfl)) rfl ?_
    exact ⟨by first | rfl | (simp; done), by repeat (with_reducible first | exact HB.out | apply below_alloc | apply pw_below_drewN | refine below_set ?_ (Nat.le_refl _))⟩


/-! ### laws_eqCmd: function 60 -/
def laws_eqCmd.f (a0_0 : Int) (a0_1 : Int) (a0_2 : Int) (a0_3 : Int) (a0_4 : ByteArray) (a1_0 : Int) (a1_1 : Int) (a1_2 : Int) (a1_3 : Int) (a1_4 : ByteArray) : Option (Bool) := if a0_0 = a1_0 then (if a0_1 = a1_1 then (if a0_2 = a1_2 then (if a0_3 = a1_3 then (if a0_4.toList = a1_4.toList then (some true) else (some false)) else (some false)) else (some false)) else (some false)) else (some false)
set_option maxHeartbeats 8000000 in
set_option maxRecDepth 100000 in
theorem laws_eqCmd.calls (a0_0 : Int) (a0_1 : Int) (a0_2 : Int) (a0_3 : Int) (a0_4 : ByteArray) (a1_0 : Int) (a1_1 : Int) (a1_2 : Int) (a1_3 : Int) (a1_4 : ByteArray) (r : Bool) (w : World) (h : laws_eqCmd.f a0_0 a0_1 a0_2 a0_3 a0_4 a1_0 a1_1 a1_2 a1_3 a1_4 = some r) :
 Calls Try.prog 60 #[.agg #[.int .i64 a0_0, .int .i64 a0_1, .int .i64 a0_2, .int .i64 a0_3, .string a0_4], .agg #[.int .i64 a1_0, .int .i64 a1_1, .int .i64 a1_2, .int .i64 a1_3, .string a1_4]] w fun e w' => e = .returned (.bool r) ∧ Below w.heap.size w w' := by
 have hu56 := Try.underlying56
 have HB := Aside0.mk (Below.refl w.heap.size w)
 have H : (if a0_0 = a1_0 then (if a0_1 = a1_1 then (if a0_2 = a1_2 then (if a0_3 = a1_3 then (if a0_4.toList = a1_4.toList then (some true) else (some false)) else (some false)) else (some false)) else (some false)) else (some false)) = some r := h
 clear h
 by_cases c3 : a0_0 = a1_0
 ·rw [if_pos c3] at H
  have c3b0 : (a0_0 == a1_0) = true := beq_iff_eq.mpr c3
  have c3b1 : (a0_0 != a1_0) = false := bne_eq_false_iff_eq.mpr c3
  clear c3
  by_cases c4 : a0_1 = a1_1
  ·rw [if_pos c4] at H
   have c4b0 : (a0_1 == a1_1) = true := beq_iff_eq.mpr c4
   have c4b1 : (a0_1 != a1_1) = false := bne_eq_false_iff_eq.mpr c4
   clear c4
   by_cases c5 : a0_2 = a1_2
   ·rw [if_pos c5] at H
    have c5b0 : (a0_2 == a1_2) = true := beq_iff_eq.mpr c5
    have c5b1 : (a0_2 != a1_2) = false := bne_eq_false_iff_eq.mpr c5
    clear c5
    by_cases c6 : a0_3 = a1_3
    ·rw [if_pos c6] at H
     have c6b0 : (a0_3 == a1_3) = true := beq_iff_eq.mpr c6
     have c6b1 : (a0_3 != a1_3) = false := bne_eq_false_iff_eq.mpr c6
     clear c6
     by_cases c7 : a0_4.toList = a1_4.toList
     ·rw [if_pos c7] at H
      have c7b0 : (a0_4.toList == a1_4.toList) = true := beq_iff_eq.mpr c7
      have c7b1 : (a0_4.toList != a1_4.toList) = false := bne_eq_false_iff_eq.mpr c7
      clear c7
      obtain rfl := Option.some.inj H
      go_enter Try.func60, Try.ntmps60
      go_wp2_with (first | ((with_reducible refine gate_dst (N := 2) rfl ?_); refine box_event ?hg (N := 2) ?hd (cs := #[.int .i64 a0_0, .int .i64 a0_1, .int .i64 a0_2, .int .i64 a0_3, .string a0_4]) (t := 56) ?hr ?_; (case hd => rfl); (case hg => rfl); (case hr => first | (go_simp; done) | (go_simp; rfl)); intro gb124 hg w8 hbox hb; have n0_ := Aside0.mk (below_step xbel hb); have n1_ := Aside0.mk (hbox); have n2_ := Aside0.mk ((by rw [hg]; exact (below_size xbel) : w.heap.size ≤ gb124)); have n3_ := Aside0.mk ((by rw [hg]; exact (below_size xbel) : w.heap.size ≤ gb124)); clear HB; have HB := n0_; have BK124 := n1_; have GW124 := n2_; have GE124 := n3_; clear n0_ n1_ n2_ n3_; clear hb hbox hg) | ((with_reducible refine gate_dst (N := 3) rfl ?_); refine box_event ?hg (N := 3) ?hd (cs := #[.int .i64 a1_0, .int .i64 a1_1, .int .i64 a1_2, .int .i64 a1_3, .string a1_4]) (t := 56) ?hr ?_; (case hd => rfl); (case hg => rfl); (case hr => first | (go_simp; done) | (go_simp; rfl)); intro gb125 hg w9 hbox hb; have n0_ := Aside0.mk (blk_below (g := gb124) (o := .cells #[.int .i64 a0_0, .int .i64 a0_1, .int .i64 a0_2, .int .i64 a0_3, .string a0_4] 56 (0, 0)) (by (with_reducible repeat (first | refine blk_drewN ?_ _ | refine blk_drew ?_ | refine blk_alloc ?_ _)); exact BK124.out) hb); have n1_ := Aside0.mk (below_step (by repeat (first | (with_reducible first | exact HB.out | apply below_alloc | apply pw_below_drewN | apply below_drew1 | refine below_set ?_ GE124.out) | exact HB.out)) hb); have n2_ := Aside0.mk (hbox); have n3_ := Aside0.mk ((by rw [hg]; exact (below_size (by repeat (first | (with_reducible first | exact HB.out | apply below_alloc | apply pw_below_drewN | apply below_drew1 | refine below_set ?_ GE124.out) | exact HB.out))) : w.heap.size ≤ gb125)); have n4_ := Aside0.mk ((by rw [hg]; exact (below_size (by repeat (first | (with_reducible first | exact HB.out | apply below_alloc | apply pw_below_drewN | apply below_drew1 | refine below_set ?_ GE124.out) | exact HB.out))) : w.heap.size ≤ gb125)); have n5_ := Aside0.mk ((by rw [hg]; exact Nat.ne_of_lt (blk_lt (g := gb124) (o := .cells #[.int .i64 a0_0, .int .i64 a0_1, .int .i64 a0_2, .int .i64 a0_3, .string a0_4] 56 (0, 0)) (by (with_reducible repeat (first | refine blk_drewN ?_ _ | refine blk_drew ?_ | refine blk_alloc ?_ _)); exact BK124.out)) : gb124 ≠ gb125)); have n6_ := Aside0.mk ((by rw [hg]; exact Nat.ne_of_gt (blk_lt (g := gb124) (o := .cells #[.int .i64 a0_0, .int .i64 a0_1, .int .i64 a0_2, .int .i64 a0_3, .string a0_4] 56 (0, 0)) (by (with_reducible repeat (first | refine blk_drewN ?_ _ | refine blk_drew ?_ | refine blk_alloc ?_ _)); exact BK124.out)) : gb125 ≠ gb124)); clear BK124; clear HB; have BK124 := n0_; have HB := n1_; have BK125 := n2_; have GW125 := n3_; have GE125 := n4_; have NB124_125 := n5_; have NB125_124 := n6_; clear n0_ n1_ n2_ n3_ n4_ n5_ n6_; clear hb hbox hg; have hnb10 := NB124_125.out; have hnc10 := NB125_124.out; have hcz11_0 : w9.cell? ⟨gb124, 0, none⟩ = some (.int .i64 a0_0) := (blk_cell BK124.out 0).trans rfl; have hcz11_1 : w9.cell? ⟨gb124, 1, none⟩ = some (.int .i64 a0_1) := (blk_cell BK124.out 1).trans rfl; have hcz11_2 : w9.cell? ⟨gb124, 2, none⟩ = some (.int .i64 a0_2) := (blk_cell BK124.out 2).trans rfl; have hcz11_3 : w9.cell? ⟨gb124, 3, none⟩ = some (.int .i64 a0_3) := (blk_cell BK124.out 3).trans rfl; have hcz11_4 : w9.cell? ⟨gb124, 4, none⟩ = some (.string a0_4) := (blk_cell BK124.out 4).trans rfl; have hfz11_0 := blk_frozen BK124.out 0; have hfz11_1 := blk_frozen BK124.out 1; have hfz11_2 := blk_frozen BK124.out 2; have hfz11_3 := blk_frozen BK124.out 3; have hfz11_4 := blk_frozen BK124.out 4; have hcz12_0 : w9.cell? ⟨gb125, 0, none⟩ = some (.int .i64 a1_0) := (blk_cell BK125.out 0).trans rfl; have hcz12_1 : w9.cell? ⟨gb125, 1, none⟩ = some (.int .i64 a1_1) := (blk_cell BK125.out 1).trans rfl; have hcz12_2 : w9.cell? ⟨gb125, 2, none⟩ = some (.int .i64 a1_2) := (blk_cell BK125.out 2).trans rfl; have hcz12_3 : w9.cell? ⟨gb125, 3, none⟩ = some (.int .i64 a1_3) := (blk_cell BK125.out 3).trans rfl; have hcz12_4 : w9.cell? ⟨gb125, 4, none⟩ = some (.string a1_4) := (blk_cell BK125.out 4).trans rfl; have hfz12_0 := blk_frozen BK125.out 0; have hfz12_1 := blk_frozen BK125.out 1; have hfz12_2 := blk_frozen BK125.out 2; have hfz12_3 := blk_frozen BK125.out 3; have hfz12_4 := blk_frozen BK125.out 4))
      go_ret
      exact ⟨by first | rfl | (simp [errW_none, errW_some] <;> rfl) | (simp [*, errW_none, errW_some] <;> rfl), by repeat (first | (with_reducible first | exact HB.out | apply below_alloc | apply pw_below_drewN | apply below_drew1 | refine below_set ?_ GE124.out | refine below_set ?_ GE125.out) | exact HB.out)⟩
     ·rw [if_neg c7] at H
      have c7b0 : (a0_4.toList == a1_4.toList) = false := beq_eq_false_iff_ne.mpr c7
      have c7b1 : (a0_4.toList != a1_4.toList) = true := bne_iff_ne.mpr c7
      obtain rfl := Option.some.inj H
      go_enter Try.func60, Try.ntmps60
      go_wp2_with (first | ((with_reducible refine gate_dst (N := 2) rfl ?_); refine box_event ?hg (N := 2) ?hd (cs := #[.int .i64 a0_0, .int .i64 a0_1, .int .i64 a0_2, .int .i64 a0_3, .string a0_4]) (t := 56) ?hr ?_; (case hd => rfl); (case hg => rfl); (case hr => first | (go_simp; done) | (go_simp; rfl)); intro gb124 hg w13 hbox hb; have n0_ := Aside0.mk (below_step xbel hb); have n1_ := Aside0.mk (hbox); have n2_ := Aside0.mk ((by rw [hg]; exact (below_size xbel) : w.heap.size ≤ gb124)); have n3_ := Aside0.mk ((by rw [hg]; exact (below_size xbel) : w.heap.size ≤ gb124)); clear HB; have HB := n0_; have BK124 := n1_; have GW124 := n2_; have GE124 := n3_; clear n0_ n1_ n2_ n3_; clear hb hbox hg) | ((with_reducible refine gate_dst (N := 3) rfl ?_); refine box_event ?hg (N := 3) ?hd (cs := #[.int .i64 a1_0, .int .i64 a1_1, .int .i64 a1_2, .int .i64 a1_3, .string a1_4]) (t := 56) ?hr ?_; (case hd => rfl); (case hg => rfl); (case hr => first | (go_simp; done) | (go_simp; rfl)); intro gb125 hg w14 hbox hb; have n0_ := Aside0.mk (blk_below (g := gb124) (o := .cells #[.int .i64 a0_0, .int .i64 a0_1, .int .i64 a0_2, .int .i64 a0_3, .string a0_4] 56 (0, 0)) (by (with_reducible repeat (first | refine blk_drewN ?_ _ | refine blk_drew ?_ | refine blk_alloc ?_ _)); exact BK124.out) hb); have n1_ := Aside0.mk (below_step (by repeat (first | (with_reducible first | exact HB.out | apply below_alloc | apply pw_below_drewN | apply below_drew1 | refine below_set ?_ GE124.out) | exact HB.out)) hb); have n2_ := Aside0.mk (hbox); have n3_ := Aside0.mk ((by rw [hg]; exact (below_size (by repeat (first | (with_reducible first | exact HB.out | apply below_alloc | apply pw_below_drewN | apply below_drew1 | refine below_set ?_ GE124.out) | exact HB.out))) : w.heap.size ≤ gb125)); have n4_ := Aside0.mk ((by rw [hg]; exact (below_size (by repeat (first | (with_reducible first | exact HB.out | apply below_alloc | apply pw_below_drewN | apply below_drew1 | refine below_set ?_ GE124.out) | exact HB.out))) : w.heap.size ≤ gb125)); have n5_ := Aside0.mk ((by rw [hg]; exact Nat.ne_of_lt (blk_lt (g := gb124) (o := .cells #[.int .i64 a0_0, .int .i64 a0_1, .int .i64 a0_2, .int .i64 a0_3, .string a0_4] 56 (0, 0)) (by (with_reducible repeat (first | refine blk_drewN ?_ _ | refine blk_drew ?_ | refine blk_alloc ?_ _)); exact BK124.out)) : gb124 ≠ gb125)); have n6_ := Aside0.mk ((by rw [hg]; exact Nat.ne_of_gt (blk_lt (g := gb124) (o := .cells #[.int .i64 a0_0, .int .i64 a0_1, .int .i64 a0_2, .int .i64 a0_3, .string a0_4] 56 (0, 0)) (by (with_reducible repeat (first | refine blk_drewN ?_ _ | refine blk_drew ?_ | refine blk_alloc ?_ _)); exact BK124.out)) : gb125 ≠ gb124)); clear BK124; clear HB; have BK124 := n0_; have HB := n1_; have BK125 := n2_; have GW125 := n3_; have GE125 := n4_; have NB124_125 := n5_; have NB125_124 := n6_; clear n0_ n1_ n2_ n3_ n4_ n5_ n6_; clear hb hbox hg; have hnb15 := NB124_125.out; have hnc15 := NB125_124.out; have hcz16_0 : w14.cell? ⟨gb124, 0, none⟩ = some (.int .i64 a0_0) := (blk_cell BK124.out 0).trans rfl; have hcz16_1 : w14.cell? ⟨gb124, 1, none⟩ = some (.int .i64 a0_1) := (blk_cell BK124.out 1).trans rfl; have hcz16_2 : w14.cell? ⟨gb124, 2, none⟩ = some (.int .i64 a0_2) := (blk_cell BK124.out 2).trans rfl; have hcz16_3 : w14.cell? ⟨gb124, 3, none⟩ = some (.int .i64 a0_3) := (blk_cell BK124.out 3).trans rfl; have hcz16_4 : w14.cell? ⟨gb124, 4, none⟩ = some (.string a0_4) := (blk_cell BK124.out 4).trans rfl; have hfz16_0 := blk_frozen BK124.out 0; have hfz16_1 := blk_frozen BK124.out 1; have hfz16_2 := blk_frozen BK124.out 2; have hfz16_3 := blk_frozen BK124.out 3; have hfz16_4 := blk_frozen BK124.out 4; have hcz17_0 : w14.cell? ⟨gb125, 0, none⟩ = some (.int .i64 a1_0) := (blk_cell BK125.out 0).trans rfl; have hcz17_1 : w14.cell? ⟨gb125, 1, none⟩ = some (.int .i64 a1_1) := (blk_cell BK125.out 1).trans rfl; have hcz17_2 : w14.cell? ⟨gb125, 2, none⟩ = some (.int .i64 a1_2) := (blk_cell BK125.out 2).trans rfl; have hcz17_3 : w14.cell? ⟨gb125, 3, none⟩ = some (.int .i64 a1_3) := (blk_cell BK125.out 3).trans rfl; have hcz17_4 : w14.cell? ⟨gb125, 4, none⟩ = some (.string a1_4) := (blk_cell BK125.out 4).trans rfl; have hfz17_0 := blk_frozen BK125.out 0; have hfz17_1 := blk_frozen BK125.out 1; have hfz17_2 := blk_frozen BK125.out 2; have hfz17_3 := blk_frozen BK125.out 3; have hfz17_4 := blk_frozen BK125.out 4))
      go_ret
      exact ⟨by first | rfl | (simp [errW_none, errW_some] <;> rfl) | (simp [*, errW_none, errW_some] <;> rfl), by repeat (first | (with_reducible first | exact HB.out | apply below_alloc | apply pw_below_drewN | apply below_drew1 | refine below_set ?_ GE124.out | refine below_set ?_ GE125.out) | exact HB.out)⟩
    ·rw [if_neg c6] at H
     have c6b0 : (a0_3 == a1_3) = false := beq_eq_false_iff_ne.mpr c6
     have c6b1 : (a0_3 != a1_3) = true := bne_iff_ne.mpr c6
     obtain rfl := Option.some.inj H
     go_enter Try.func60, Try.ntmps60
     go_wp2_with (first | ((with_reducible refine gate_dst (N := 2) rfl ?_); refine box_event ?hg (N := 2) ?hd (cs := #[.int .i64 a0_0, .int .i64 a0_1, .int .i64 a0_2, .int .i64 a0_3, .string a0_4]) (t := 56) ?hr ?_; (case hd => rfl); (case hg => rfl); (case hr => first | (go_simp; done) | (go_simp; rfl)); intro gb124 hg w18 hbox hb; have n0_ := Aside0.mk (below_step xbel hb); have n1_ := Aside0.mk (hbox); have n2_ := Aside0.mk ((by rw [hg]; exact (below_size xbel) : w.heap.size ≤ gb124)); have n3_ := Aside0.mk ((by rw [hg]; exact (below_size xbel) : w.heap.size ≤ gb124)); clear HB; have HB := n0_; have BK124 := n1_; have GW124 := n2_; have GE124 := n3_; clear n0_ n1_ n2_ n3_; clear hb hbox hg) | ((with_reducible refine gate_dst (N := 3) rfl ?_); refine box_event ?hg (N := 3) ?hd (cs := #[.int .i64 a1_0, .int .i64 a1_1, .int .i64 a1_2, .int .i64 a1_3, .string a1_4]) (t := 56) ?hr ?_; (case hd => rfl); (case hg => rfl); (case hr => first | (go_simp; done) | (go_simp; rfl)); intro gb125 hg w19 hbox hb; have n0_ := Aside0.mk (blk_below (g := gb124) (o := .cells #[.int .i64 a0_0, .int .i64 a0_1, .int .i64 a0_2, .int .i64 a0_3, .string a0_4] 56 (0, 0)) (by (with_reducible repeat (first | refine blk_drewN ?_ _ | refine blk_drew ?_ | refine blk_alloc ?_ _)); exact BK124.out) hb); have n1_ := Aside0.mk (below_step (by repeat (first | (with_reducible first | exact HB.out | apply below_alloc | apply pw_below_drewN | apply below_drew1 | refine below_set ?_ GE124.out) | exact HB.out)) hb); have n2_ := Aside0.mk (hbox); have n3_ := Aside0.mk ((by rw [hg]; exact (below_size (by repeat (first | (with_reducible first | exact HB.out | apply below_alloc | apply pw_below_drewN | apply below_drew1 | refine below_set ?_ GE124.out) | exact HB.out))) : w.heap.size ≤ gb125)); have n4_ := Aside0.mk ((by rw [hg]; exact (below_size (by repeat (first | (with_reducible first | exact HB.out | apply below_alloc | apply pw_below_drewN | apply below_drew1 | refine below_set ?_ GE124.out) | exact HB.out))) : w.heap.size ≤ gb125)); have n5_ := Aside0.mk ((by rw [hg]; exact Nat.ne_of_lt (blk_lt (g := gb124) (o := .cells #[.int .i64 a0_0, .int .i64 a0_1, .int .i64 a0_2, .int .i64 a0_3, .string a0_4] 56 (0, 0)) (by (with_reducible repeat (first | refine blk_drewN ?_ _ | refine blk_drew ?_ | refine blk_alloc ?_ _)); exact BK124.out)) : gb124 ≠ gb125)); have n6_ := Aside0.mk ((by rw [hg]; exact Nat.ne_of_gt (blk_lt (g := gb124) (o := .cells #[.int .i64 a0_0, .int .i64 a0_1, .int .i64 a0_2, .int .i64 a0_3, .string a0_4] 56 (0, 0)) (by (with_reducible repeat (first | refine blk_drewN ?_ _ | refine blk_drew ?_ | refine blk_alloc ?_ _)); exact BK124.out)) : gb125 ≠ gb124)); clear BK124; clear HB; have BK124 := n0_; have HB := n1_; have BK125 := n2_; have GW125 := n3_; have GE125 := n4_; have NB124_125 := n5_; have NB125_124 := n6_; clear n0_ n1_ n2_ n3_ n4_ n5_ n6_; clear hb hbox hg; have hnb20 := NB124_125.out; have hnc20 := NB125_124.out; have hcz21_0 : w19.cell? ⟨gb124, 0, none⟩ = some (.int .i64 a0_0) := (blk_cell BK124.out 0).trans rfl; have hcz21_1 : w19.cell? ⟨gb124, 1, none⟩ = some (.int .i64 a0_1) := (blk_cell BK124.out 1).trans rfl; have hcz21_2 : w19.cell? ⟨gb124, 2, none⟩ = some (.int .i64 a0_2) := (blk_cell BK124.out 2).trans rfl; have hcz21_3 : w19.cell? ⟨gb124, 3, none⟩ = some (.int .i64 a0_3) := (blk_cell BK124.out 3).trans rfl; have hcz21_4 : w19.cell? ⟨gb124, 4, none⟩ = some (.string a0_4) := (blk_cell BK124.out 4).trans rfl; have hfz21_0 := blk_frozen BK124.out 0; have hfz21_1 := blk_frozen BK124.out 1; have hfz21_2 := blk_frozen BK124.out 2; have hfz21_3 := blk_frozen BK124.out 3; have hfz21_4 := blk_frozen BK124.out 4; have hcz22_0 : w19.cell? ⟨gb125, 0, none⟩ = some (.int .i64 a1_0) := (blk_cell BK125.out 0).trans rfl; have hcz22_1 : w19.cell? ⟨gb125, 1, none⟩ = some (.int .i64 a1_1) := (blk_cell BK125.out 1).trans rfl; have hcz22_2 : w19.cell? ⟨gb125, 2, none⟩ = some (.int .i64 a1_2) := (blk_cell BK125.out 2).trans rfl; have hcz22_3 : w19.cell? ⟨gb125, 3, none⟩ = some (.int .i64 a1_3) := (blk_cell BK125.out 3).trans rfl; have hcz22_4 : w19.cell? ⟨gb125, 4, none⟩ = some (.string a1_4) := (blk_cell BK125.out 4).trans rfl; have hfz22_0 := blk_frozen BK125.out 0; have hfz22_1 := blk_frozen BK125.out 1; have hfz22_2 := blk_frozen BK125.out 2; have hfz22_3 := blk_frozen BK125.out 3; have hfz22_4 := blk_frozen BK125.out 4))
     go_ret
     exact ⟨by first | rfl | (simp [errW_none, errW_some] <;> rfl) | (simp [*, errW_none, errW_some] <;> rfl), by repeat (first | (with_reducible first | exact HB.out | apply below_alloc | apply pw_below_drewN | apply below_drew1 | refine below_set ?_ GE124.out | refine below_set ?_ GE125.out) | exact HB.out)⟩
   ·rw [if_neg c5] at H
    have c5b0 : (a0_2 == a1_2) = false := beq_eq_false_iff_ne.mpr c5
    have c5b1 : (a0_2 != a1_2) = true := bne_iff_ne.mpr c5
    obtain rfl := Option.some.inj H
    go_enter Try.func60, Try.ntmps60
    go_wp2_with (first | ((with_reducible refine gate_dst (N := 2) rfl ?_); refine box_event ?hg (N := 2) ?hd (cs := #[.int .i64 a0_0, .int .i64 a0_1, .int .i64 a0_2, .int .i64 a0_3, .string a0_4]) (t := 56) ?hr ?_; (case hd => rfl); (case hg => rfl); (case hr => first | (go_simp; done) | (go_simp; rfl)); intro gb124 hg w23 hbox hb; have n0_ := Aside0.mk (below_step xbel hb); have n1_ := Aside0.mk (hbox); have n2_ := Aside0.mk ((by rw [hg]; exact (below_size xbel) : w.heap.size ≤ gb124)); have n3_ := Aside0.mk ((by rw [hg]; exact (below_size xbel) : w.heap.size ≤ gb124)); clear HB; have HB := n0_; have BK124 := n1_; have GW124 := n2_; have GE124 := n3_; clear n0_ n1_ n2_ n3_; clear hb hbox hg) | ((with_reducible refine gate_dst (N := 3) rfl ?_); refine box_event ?hg (N := 3) ?hd (cs := #[.int .i64 a1_0, .int .i64 a1_1, .int .i64 a1_2, .int .i64 a1_3, .string a1_4]) (t := 56) ?hr ?_; (case hd => rfl); (case hg => rfl); (case hr => first | (go_simp; done) | (go_simp; rfl)); intro gb125 hg w24 hbox hb; have n0_ := Aside0.mk (blk_below (g := gb124) (o := .cells #[.int .i64 a0_0, .int .i64 a0_1, .int .i64 a0_2, .int .i64 a0_3, .string a0_4] 56 (0, 0)) (by (with_reducible repeat (first | refine blk_drewN ?_ _ | refine blk_drew ?_ | refine blk_alloc ?_ _)); exact BK124.out) hb); have n1_ := Aside0.mk (below_step (by repeat (first | (with_reducible first | exact HB.out | apply below_alloc | apply pw_below_drewN | apply below_drew1 | refine below_set ?_ GE124.out) | exact HB.out)) hb); have n2_ := Aside0.mk (hbox); have n3_ := Aside0.mk ((by rw [hg]; exact (below_size (by repeat (first | (with_reducible first | exact HB.out | apply below_alloc | apply pw_below_drewN | apply below_drew1 | refine below_set ?_ GE124.out) | exact HB.out))) : w.heap.size ≤ gb125)); have n4_ := Aside0.mk ((by rw [hg]; exact (below_size (by repeat (first | (with_reducible first | exact HB.out | apply below_alloc | apply pw_below_drewN | apply below_drew1 | refine below_set ?_ GE124.out) | exact HB.out))) : w.heap.size ≤ gb125)); have n5_ := Aside0.mk ((by rw [hg]; exact Nat.ne_of_lt (blk_lt (g := gb124) (o := .cells #[.int .i64 a0_0, .int .i64 a0_1, .int .i64 a0_2, .int .i64 a0_3, .string a0_4] 56 (0, 0)) (by (with_reducible repeat (first | refine blk_drewN ?_ _ | refine blk_drew ?_ | refine blk_alloc ?_ _)); exact BK124.out)) : gb124 ≠ gb125)); have n6_ := Aside0.mk ((by rw [hg]; exact Nat.ne_of_gt (blk_lt (g := gb124) (o := .cells #[.int .i64 a0_0, .int .i64 a0_1, .int .i64 a0_2, .int .i64 a0_3, .string a0_4] 56 (0, 0)) (by (with_reducible repeat (first | refine blk_drewN ?_ _ | refine blk_drew ?_ | refine blk_alloc ?_ _)); exact BK124.out)) : gb125 ≠ gb124)); clear BK124; clear HB; have BK124 := n0_; have HB := n1_; have BK125 := n2_; have GW125 := n3_; have GE125 := n4_; have NB124_125 := n5_; have NB125_124 := n6_; clear n0_ n1_ n2_ n3_ n4_ n5_ n6_; clear hb hbox hg; have hnb25 := NB124_125.out; have hnc25 := NB125_124.out; have hcz26_0 : w24.cell? ⟨gb124, 0, none⟩ = some (.int .i64 a0_0) := (blk_cell BK124.out 0).trans rfl; have hcz26_1 : w24.cell? ⟨gb124, 1, none⟩ = some (.int .i64 a0_1) := (blk_cell BK124.out 1).trans rfl; have hcz26_2 : w24.cell? ⟨gb124, 2, none⟩ = some (.int .i64 a0_2) := (blk_cell BK124.out 2).trans rfl; have hcz26_3 : w24.cell? ⟨gb124, 3, none⟩ = some (.int .i64 a0_3) := (blk_cell BK124.out 3).trans rfl; have hcz26_4 : w24.cell? ⟨gb124, 4, none⟩ = some (.string a0_4) := (blk_cell BK124.out 4).trans rfl; have hfz26_0 := blk_frozen BK124.out 0; have hfz26_1 := blk_frozen BK124.out 1; have hfz26_2 := blk_frozen BK124.out 2; have hfz26_3 := blk_frozen BK124.out 3; have hfz26_4 := blk_frozen BK124.out 4; have hcz27_0 : w24.cell? ⟨gb125, 0, none⟩ = some (.int .i64 a1_0) := (blk_cell BK125.out 0).trans rfl; have hcz27_1 : w24.cell? ⟨gb125, 1, none⟩ = some (.int .i64 a1_1) := (blk_cell BK125.out 1).trans rfl; have hcz27_2 : w24.cell? ⟨gb125, 2, none⟩ = some (.int .i64 a1_2) := (blk_cell BK125.out 2).trans rfl; have hcz27_3 : w24.cell? ⟨gb125, 3, none⟩ = some (.int .i64 a1_3) := (blk_cell BK125.out 3).trans rfl; have hcz27_4 : w24.cell? ⟨gb125, 4, none⟩ = some (.string a1_4) := (blk_cell BK125.out 4).trans rfl; have hfz27_0 := blk_frozen BK125.out 0; have hfz27_1 := blk_frozen BK125.out 1; have hfz27_2 := blk_frozen BK125.out 2; have hfz27_3 := blk_frozen BK125.out 3; have hfz27_4 := blk_frozen BK125.out 4))
    go_ret
    exact ⟨by first | rfl | (simp [errW_none, errW_some] <;> rfl) | (simp [*, errW_none, errW_some] <;> rfl), by repeat (first | (with_reducible first | exact HB.out | apply below_alloc | apply pw_below_drewN | apply below_drew1 | refine below_set ?_ GE124.out | refine below_set ?_ GE125.out) | exact HB.out)⟩
  ·rw [if_neg c4] at H
   have c4b0 : (a0_1 == a1_1) = false := beq_eq_false_iff_ne.mpr c4
   have c4b1 : (a0_1 != a1_1) = true := bne_iff_ne.mpr c4
   obtain rfl := Option.some.inj H
   go_enter Try.func60, Try.ntmps60
   go_wp2_with (first | ((with_reducible refine gate_dst (N := 2) rfl ?_); refine box_event ?hg (N := 2) ?hd (cs := #[.int .i64 a0_0, .int .i64 a0_1, .int .i64 a0_2, .int .i64 a0_3, .string a0_4]) (t := 56) ?hr ?_; (case hd => rfl); (case hg => rfl); (case hr => first | (go_simp; done) | (go_simp; rfl)); intro gb124 hg w28 hbox hb; have n0_ := Aside0.mk (below_step xbel hb); have n1_ := Aside0.mk (hbox); have n2_ := Aside0.mk ((by rw [hg]; exact (below_size xbel) : w.heap.size ≤ gb124)); have n3_ := Aside0.mk ((by rw [hg]; exact (below_size xbel) : w.heap.size ≤ gb124)); clear HB; have HB := n0_; have BK124 := n1_; have GW124 := n2_; have GE124 := n3_; clear n0_ n1_ n2_ n3_; clear hb hbox hg) | ((with_reducible refine gate_dst (N := 3) rfl ?_); refine box_event ?hg (N := 3) ?hd (cs := #[.int .i64 a1_0, .int .i64 a1_1, .int .i64 a1_2, .int .i64 a1_3, .string a1_4]) (t := 56) ?hr ?_; (case hd => rfl); (case hg => rfl); (case hr => first | (go_simp; done) | (go_simp; rfl)); intro gb125 hg w29 hbox hb; have n0_ := Aside0.mk (blk_below (g := gb124) (o := .cells #[.int .i64 a0_0, .int .i64 a0_1, .int .i64 a0_2, .int .i64 a0_3, .string a0_4] 56 (0, 0)) (by (with_reducible repeat (first | refine blk_drewN ?_ _ | refine blk_drew ?_ | refine blk_alloc ?_ _)); exact BK124.out) hb); have n1_ := Aside0.mk (below_step (by repeat (first | (with_reducible first | exact HB.out | apply below_alloc | apply pw_below_drewN | apply below_drew1 | refine below_set ?_ GE124.out) | exact HB.out)) hb); have n2_ := Aside0.mk (hbox); have n3_ := Aside0.mk ((by rw [hg]; exact (below_size (by repeat (first | (with_reducible first | exact HB.out | apply below_alloc | apply pw_below_drewN | apply below_drew1 | refine below_set ?_ GE124.out) | exact HB.out))) : w.heap.size ≤ gb125)); have n4_ := Aside0.mk ((by rw [hg]; exact (below_size (by repeat (first | (with_reducible first | exact HB.out | apply below_alloc | apply pw_below_drewN | apply below_drew1 | refine below_set ?_ GE124.out) | exact HB.out))) : w.heap.size ≤ gb125)); have n5_ := Aside0.mk ((by rw [hg]; exact Nat.ne_of_lt (blk_lt (g := gb124) (o := .cells #[.int .i64 a0_0, .int .i64 a0_1, .int .i64 a0_2, .int .i64 a0_3, .string a0_4] 56 (0, 0)) (by (with_reducible repeat (first | refine blk_drewN ?_ _ | refine blk_drew ?_ | refine blk_alloc ?_ _)); exact BK124.out)) : gb124 ≠ gb125)); have n6_ := Aside0.mk ((by rw [hg]; exact Nat.ne_of_gt (blk_lt (g := gb124) (o := .cells #[.int .i64 a0_0, .int .i64 a0_1, .int .i64 a0_2, .int .i64 a0_3, .string a0_4] 56 (0, 0)) (by (with_reducible repeat (first | refine blk_drewN ?_ _ | refine blk_drew ?_ | refine blk_alloc ?_ _)); exact BK124.out)) : gb125 ≠ gb124)); clear BK124; clear HB; have BK124 := n0_; have HB := n1_; have BK125 := n2_; have GW125 := n3_; have GE125 := n4_; have NB124_125 := n5_; have NB125_124 := n6_; clear n0_ n1_ n2_ n3_ n4_ n5_ n6_; clear hb hbox hg; have hnb30 := NB124_125.out; have hnc30 := NB125_124.out; have hcz31_0 : w29.cell? ⟨gb124, 0, none⟩ = some (.int .i64 a0_0) := (blk_cell BK124.out 0).trans rfl; have hcz31_1 : w29.cell? ⟨gb124, 1, none⟩ = some (.int .i64 a0_1) := (blk_cell BK124.out 1).trans rfl; have hcz31_2 : w29.cell? ⟨gb124, 2, none⟩ = some (.int .i64 a0_2) := (blk_cell BK124.out 2).trans rfl; have hcz31_3 : w29.cell? ⟨gb124, 3, none⟩ = some (.int .i64 a0_3) := (blk_cell BK124.out 3).trans rfl; have hcz31_4 : w29.cell? ⟨gb124, 4, none⟩ = some (.string a0_4) := (blk_cell BK124.out 4).trans rfl; have hfz31_0 := blk_frozen BK124.out 0; have hfz31_1 := blk_frozen BK124.out 1; have hfz31_2 := blk_frozen BK124.out 2; have hfz31_3 := blk_frozen BK124.out 3; have hfz31_4 := blk_frozen BK124.out 4; have hcz32_0 : w29.cell? ⟨gb125, 0, none⟩ = some (.int .i64 a1_0) := (blk_cell BK125.out 0).trans rfl; have hcz32_1 : w29.cell? ⟨gb125, 1, none⟩ = some (.int .i64 a1_1) := (blk_cell BK125.out 1).trans rfl; have hcz32_2 : w29.cell? ⟨gb125, 2, none⟩ = some (.int .i64 a1_2) := (blk_cell BK125.out 2).trans rfl; have hcz32_3 : w29.cell? ⟨gb125, 3, none⟩ = some (.int .i64 a1_3) := (blk_cell BK125.out 3).trans rfl; have hcz32_4 : w29.cell? ⟨gb125, 4, none⟩ = some (.string a1_4) := (blk_cell BK125.out 4).trans rfl; have hfz32_0 := blk_frozen BK125.out 0; have hfz32_1 := blk_frozen BK125.out 1; have hfz32_2 := blk_frozen BK125.out 2; have hfz32_3 := blk_frozen BK125.out 3; have hfz32_4 := blk_frozen BK125.out 4))
   go_ret
   exact ⟨by first | rfl | (simp [errW_none, errW_some] <;> rfl) | (simp [*, errW_none, errW_some] <;> rfl), by repeat (first | (with_reducible first | exact HB.out | apply below_alloc | apply pw_below_drewN | apply below_drew1 | refine below_set ?_ GE124.out | refine below_set ?_ GE125.out) | exact HB.out)⟩
 ·rw [if_neg c3] at H
  have c3b0 : (a0_0 == a1_0) = false := beq_eq_false_iff_ne.mpr c3
  have c3b1 : (a0_0 != a1_0) = true := bne_iff_ne.mpr c3
  obtain rfl := Option.some.inj H
  go_enter Try.func60, Try.ntmps60
  go_wp2_with (first | ((with_reducible refine gate_dst (N := 2) rfl ?_); refine box_event ?hg (N := 2) ?hd (cs := #[.int .i64 a0_0, .int .i64 a0_1, .int .i64 a0_2, .int .i64 a0_3, .string a0_4]) (t := 56) ?hr ?_; (case hd => rfl); (case hg => rfl); (case hr => first | (go_simp; done) | (go_simp; rfl)); intro gb124 hg w33 hbox hb; have n0_ := Aside0.mk (below_step xbel hb); have n1_ := Aside0.mk (hbox); have n2_ := Aside0.mk ((by rw [hg]; exact (below_size xbel) : w.heap.size ≤ gb124)); have n3_ := Aside0.mk ((by rw [hg]; exact (below_size xbel) : w.heap.size ≤ gb124)); clear HB; have HB := n0_; have BK124 := n1_; have GW124 := n2_; have GE124 := n3_; clear n0_ n1_ n2_ n3_; clear hb hbox hg) | ((with_reducible refine gate_dst (N := 3) rfl ?_); refine box_event ?hg (N := 3) ?hd (cs := #[.int .i64 a1_0, .int .i64 a1_1, .int .i64 a1_2, .int .i64 a1_3, .string a1_4]) (t := 56) ?hr ?_; (case hd => rfl); (case hg => rfl); (case hr => first | (go_simp; done) | (go_simp; rfl)); intro gb125 hg w34 hbox hb; have n0_ := Aside0.mk (blk_below (g := gb124) (o := .cells #[.int .i64 a0_0, .int .i64 a0_1, .int .i64 a0_2, .int .i64 a0_3, .string a0_4] 56 (0, 0)) (by (with_reducible repeat (first | refine blk_drewN ?_ _ | refine blk_drew ?_ | refine blk_alloc ?_ _)); exact BK124.out) hb); have n1_ := Aside0.mk (below_step (by repeat (first | (with_reducible first | exact HB.out | apply below_alloc | apply pw_below_drewN | apply below_drew1 | refine below_set ?_ GE124.out) | exact HB.out)) hb); have n2_ := Aside0.mk (hbox); have n3_ := Aside0.mk ((by rw [hg]; exact (below_size (by repeat (first | (with_reducible first | exact HB.out | apply below_alloc | apply pw_below_drewN | apply below_drew1 | refine below_set ?_ GE124.out) | exact HB.out))) : w.heap.size ≤ gb125)); have n4_ := Aside0.mk ((by rw [hg]; exact (below_size (by repeat (first | (with_reducible first | exact HB.out | apply below_alloc | apply pw_below_drewN | apply below_drew1 | refine below_set ?_ GE124.out) | exact HB.out))) : w.heap.size ≤ gb125)); have n5_ := Aside0.mk ((by rw [hg]; exact Nat.ne_of_lt (blk_lt (g := gb124) (o := .cells #[.int .i64 a0_0, .int .i64 a0_1, .int .i64 a0_2, .int .i64 a0_3, .string a0_4] 56 (0, 0)) (by (with_reducible repeat (first | refine blk_drewN ?_ _ | refine blk_drew ?_ | refine blk_alloc ?_ _)); exact BK124.out)) : gb124 ≠ gb125)); have n6_ := Aside0.mk ((by rw [hg]; exact Nat.ne_of_gt (blk_lt (g := gb124) (o := .cells #[.int .i64 a0_0, .int .i64 a0_1, .int .i64 a0_2, .int .i64 a0_3, .string a0_4] 56 (0, 0)) (by (with_reducible repeat (first | refine blk_drewN ?_ _ | refine blk_drew ?_ | refine blk_alloc ?_ _)); exact BK124.out)) : gb125 ≠ gb124)); clear BK124; clear HB; have BK124 := n0_; have HB := n1_; have BK125 := n2_; have GW125 := n3_; have GE125 := n4_; have NB124_125 := n5_; have NB125_124 := n6_; clear n0_ n1_ n2_ n3_ n4_ n5_ n6_; clear hb hbox hg; have hnb35 := NB124_125.out; have hnc35 := NB125_124.out; have hcz36_0 : w34.cell? ⟨gb124, 0, none⟩ = some (.int .i64 a0_0) := (blk_cell BK124.out 0).trans rfl; have hcz36_1 : w34.cell? ⟨gb124, 1, none⟩ = some (.int .i64 a0_1) := (blk_cell BK124.out 1).trans rfl; have hcz36_2 : w34.cell? ⟨gb124, 2, none⟩ = some (.int .i64 a0_2) := (blk_cell BK124.out 2).trans rfl; have hcz36_3 : w34.cell? ⟨gb124, 3, none⟩ = some (.int .i64 a0_3) := (blk_cell BK124.out 3).trans rfl; have hcz36_4 : w34.cell? ⟨gb124, 4, none⟩ = some (.string a0_4) := (blk_cell BK124.out 4).trans rfl; have hfz36_0 := blk_frozen BK124.out 0; have hfz36_1 := blk_frozen BK124.out 1; have hfz36_2 := blk_frozen BK124.out 2; have hfz36_3 := blk_frozen BK124.out 3; have hfz36_4 := blk_frozen BK124.out 4; have hcz37_0 : w34.cell? ⟨gb125, 0, none⟩ = some (.int .i64 a1_0) := (blk_cell BK125.out 0).trans rfl; have hcz37_1 : w34.cell? ⟨gb125, 1, none⟩ = some (.int .i64 a1_1) := (blk_cell BK125.out 1).trans rfl; have hcz37_2 : w34.cell? ⟨gb125, 2, none⟩ = some (.int .i64 a1_2) := (blk_cell BK125.out 2).trans rfl; have hcz37_3 : w34.cell? ⟨gb125, 3, none⟩ = some (.int .i64 a1_3) := (blk_cell BK125.out 3).trans rfl; have hcz37_4 : w34.cell? ⟨gb125, 4, none⟩ = some (.string a1_4) := (blk_cell BK125.out 4).trans rfl; have hfz37_0 := blk_frozen BK125.out 0; have hfz37_1 := blk_frozen BK125.out 1; have hfz37_2 := blk_frozen BK125.out 2; have hfz37_3 := blk_frozen BK125.out 3; have hfz37_4 := blk_frozen BK125.out 4))
  go_ret
  exact ⟨by first | rfl | (simp [errW_none, errW_some] <;> rfl) | (simp [*, errW_none, errW_some] <;> rfl), by repeat (first | (with_reducible first | exact HB.out | apply below_alloc | apply pw_below_drewN | apply below_drew1 | refine below_set ?_ GE124.out | refine below_set ?_ GE125.out) | exact HB.out)⟩

end Go.Proofs.Ytpdhfphglahkbaa.QFnExactCmdRead
