-- A walk, by a program of this session.
import Derived.Test.YtppfnnpfamkclaaQFnExactRollLacksx0
namespace Go.Proofs.Ytppfnnpfamkclaa.QFnExactRollLacks
open Go.RowKit Go.Proofs.YtppfnnpfamkclaaW.PrintWords Go.Proofs.YtppfnnpfamkclaaW.PrintLast Go.Proofs.YtppfnnpfamkclaaW.PrintMore
attribute [local go_sem] max2_int min2_int max_two min_two max_three min_three max_four min_four   -- for this text's walks alone
set_option linter.unusedVariables false
set_option linter.unusedSimpArgs false

theorem u4_0 {p : Prop} (h : p := by first | rfl | (simp; done) | (simp [*]; done)) : p := h
theorem u4_1 {p : Prop} (h : p := by repeat (first | exact Drawn0.refl _ | apply Drawn0.step)) : p := h
/-! ### impl_isOf: function 41 -/
def impl_isOf.f (a0 : Int) : Option (Bool) := if a0 = 1 then (some true) else (if a0 = 3 then (some true) else (some (a0 == 5)))
set_option maxHeartbeats 8000000 in
set_option maxRecDepth 100000 in
theorem impl_isOf.calls (a0 : Int) (r : Bool) (w : World) (h : impl_isOf.f a0 = some r) :
 Calls Try.prog 41 #[.int .i64 a0] w fun e w' => e = .returned (.bool r) ∧ Drawn0 w w' := by
 have H : (if a0 = 1 then (some true) else (if a0 = 3 then (some true) else (some (a0 == 5)))) = some r := h
 clear h
 by_cases c2 : a0 = 1
 ·rw [if_pos c2] at H; obtain ⟨aL, aN⟩ := bT c2; clear c2; obtain rfl := Option.some.inj H; go_enter Try.func41, Try.ntmps41
  go_wp2; go_ret
  exact ⟨u4_0, u4_1⟩
 ·rw [if_neg c2] at H; obtain ⟨aL, aN⟩ := bF c2; by_cases c3 : a0 = 3
  ·rw [if_pos c3] at H; obtain ⟨aB, aC⟩ := bT c3; clear c3; obtain rfl := Option.some.inj H; go_enter Try.func41, Try.ntmps41
   go_wp2; go_ret
   exact ⟨u4_0, u4_1⟩
  ·rw [if_neg c3] at H; obtain ⟨aB, aC⟩ := bF c3; obtain rfl := Option.some.inj H; go_enter Try.func41, Try.ntmps41
   go_wp2; go_ret
   exact ⟨u4_0, u4_1⟩

/-! ### slices_Equal_int_int: function 42 -/
def slices_Equal_int_int.l0 : Nat → List Int → List Int → Int → Int → Option (Bool)
 | 0, _, _, _, _ => none
 | k + 1, x0, x1, aR, aF => if aF < aR then (if 0 ≤ aF then (if aF < (x0.length : Int) then (if aF < (x1.length : Int) then (if (rd x0 aF) = (rd x1 aF) then (slices_Equal_int_int.l0 k x0 x1 aR (wrap64 (aF + 1))) else (some false)) else (none)) else (none)) else (none)) else (some true)
def slices_Equal_int_int.f (k : Nat) (l0 : List Int) (l1 : List Int) : Option (Bool) := if (l0.length : Int) = (l1.length : Int) then (slices_Equal_int_int.l0 k l0 l1 (l0.length : Int) 0) else (some false)
theorem u4_mq0 {p : Prop} (h : p := by repeat' first | (with_reducible first | exact aS _ _ _ _ | exact LeO.refl _ | exact LeO.none _ | refine LeO.ite ?_ ?_ | refine LeO.bind ?_ (fun _ => ?_)) | exact LeO.none _ | refine LeO.ite ?_ ?_ | refine LeO.bind ?_ (fun _ => ?_)) : p := h
set_option maxRecDepth 100000 in
theorem slices_Equal_int_int.mono_l : ∀ k, (∀ y0 y1 y2 y3, LeO (slices_Equal_int_int.l0 k y0 y1 y2 y3) (slices_Equal_int_int.l0 (k + 1) y0 y1 y2 y3))
 | 0 => fun _ _ _ _ r h => by simp [slices_Equal_int_int.l0] at h
 | k + 1 => by
  have aS := slices_Equal_int_int.mono_l k
  ·intro y0 y1 y2 y3; unfold slices_Equal_int_int.l0; exact u4_mq0
theorem slices_Equal_int_int.mono : ∀ a0 a1 k, LeO (slices_Equal_int_int.f k a0 a1) (slices_Equal_int_int.f (k + 1) a0 a1) := by
 intro a0 a1 k
 have aS := slices_Equal_int_int.mono_l k
 unfold slices_Equal_int_int.f
 exact u4_mq0
set_option maxHeartbeats 8000000 in
set_option maxRecDepth 100000 in
theorem slices_Equal_int_int.calls (k : Nat) (A0 : Option Addr) (c0 : Nat) (l0 : List Int) (A1 : Option Addr) (c1 : Nat) (l1 : List Int) (r : Bool) (w : World) (aT : Kd.C (Kd.int .i64) w A0 l0.length l0) (aU : l0.length ≤ c0) (aV : Kd.C (Kd.int .i64) w A1 l1.length l1) (aW : l1.length ≤ c1) (h : slices_Equal_int_int.f k l0 l1 = some r) :
 Calls Try.prog 42 #[.slice A0 l0.length c0, .slice A1 l1.length c1] w fun e w' => e = .returned (.bool r) ∧ Drawn0 w w' := by
 have aX := aM aT
 have bC := aM aU
 clear aT aU
 have aY := aM aV
 have bE := aM aW
 clear aV aW
 have H : (if (l0.length : Int) = (l1.length : Int) then (slices_Equal_int_int.l0 k l0 l1 (l0.length : Int) 0) else (some false)) = some r := h
 clear h
 by_cases c3 : (l0.length : Int) = (l1.length : Int)
 ·rw [if_pos c3] at H; obtain ⟨aB, aC⟩ := bT c3; have aI : (l0.length == l1.length) = true := by first | simpa using c3 | (simp at c3 ⊢; omega)
  clear c3; have H' := aM H; clear H; go_enter Try.func42, Try.ntmps42
  go_wp2
  repeat (go_quiet (fail); try go_wp2)
  go_loopg [13] k (fun kq v13 w' => ∃ (aA : Int), v13 = .int .i64 aA ∧ Aside0 (slices_Equal_int_int.l0 kq l0 l1 (l0.length : Int) aA = some r) ∧ Aside0 (kq ≤ k) ∧ Drawn0 w w')
  case atStart => exact ⟨(0), u4_0, H', ⟨Nat.le_refl _⟩, u4_1⟩
  case round =>
   clear H'; try clear c1
   try clear p2
   try clear c3
   try clear aB
   try clear aC
   try clear aI
   obtain ⟨aA, rfl, HA, HK1, ⟨m1, rfl⟩⟩ := hrel; cases gk with
   | zero => exact absurd HA.out (by simp [slices_Equal_int_int.l0])
   | succ k1 =>
    have H := HA.out; clear HA; simp only [slices_Equal_int_int.l0] at H; by_cases c4 : aA < (l0.length : Int)
    ·rw [if_pos c4] at H; have aO : decide (aA < (l0.length : Int)) = true := decide_eq_true c4; clear c4; by_cases c5 : 0 ≤ aA
     ·rw [if_pos c5] at H; have aZ : decide (0 ≤ aA) = true := decide_eq_true c5; clear c5; by_cases c6 : aA < (l0.length : Int)
      ·rw [if_pos c6] at H; have bA : decide (aA < (l0.length : Int)) = true := decide_eq_true c6; clear c6; by_cases c7 : aA < (l1.length : Int)
       ·rw [if_pos c7] at H; have bB : decide (aA < (l1.length : Int)) = true := decide_eq_true c7; clear c7; by_cases c8 : (rd l0 aA) = (rd l1 aA)
        ·rw [if_pos c8] at H; obtain ⟨aP, aQ⟩ := bT c8; clear c8; have H' := aM H; clear H; have p184 : 0 ≤ (aA : Int) := oda; have q184 : aA < (l0.length : Int) := oda; obtain ⟨aJ, aG, aD⟩ := Kd.at_int aX.out aA p184 q184; cases aG
         replace p184 := eq_true p184; replace q184 := eq_true q184; have p185 : 0 ≤ (aA : Int) := oda; have q185 : aA < (l1.length : Int) := oda; obtain ⟨aK, aH, aE⟩ := Kd.at_int aY.out aA p185 q185; cases aH
         replace p185 := eq_true p185; replace q185 := eq_true q185; go_wp2
         repeat (go_quiet (fail); try go_wp2)
         go_roundg k1
         case measure => have := HK1.out; omega
         case rel => exact ⟨(wrap64 (aA + 1)), u4_0, H', ⟨by have := HK1.out; omega⟩, u4_1⟩
        ·rw [if_neg c8] at H; obtain ⟨aP, aQ⟩ := bF c8; obtain rfl := Option.some.inj H; have p184 : 0 ≤ (aA : Int) := oda; have q184 : aA < (l0.length : Int) := oda; obtain ⟨aJ, aG, aD⟩ := Kd.at_int aX.out aA p184 q184; cases aG
         replace p184 := eq_true p184; replace q184 := eq_true q184; have p185 : 0 ≤ (aA : Int) := oda; have q185 : aA < (l1.length : Int) := oda; obtain ⟨aK, aH, aE⟩ := Kd.at_int aY.out aA p185 q185; cases aH
         replace p185 := eq_true p185; replace q185 := eq_true q185; go_wp2
         repeat (go_quiet (fail); try go_wp2)
         go_ret
         exact ⟨u4_0, u4_1⟩
       ·rw [if_neg c7] at H; exact absurd H (by simp)
      ·rw [if_neg c6] at H; exact absurd H (by simp)
     ·rw [if_neg c5] at H; exact absurd H (by simp)
    ·rw [if_neg c4] at H; have aO : decide (aA < (l0.length : Int)) = false := decide_eq_false c4; clear c4; obtain rfl := Option.some.inj H; go_wp2
     repeat (go_quiet (fail); try go_wp2)
     go_ret
     exact ⟨u4_0, u4_1⟩
 ·rw [if_neg c3] at H; obtain ⟨aB, aC⟩ := bF c3; have aI : (l0.length == l1.length) = false := by first | simpa using c3 | (simp at c3 ⊢; omega)
  obtain rfl := Option.some.inj H; go_enter Try.func42, Try.ntmps42
  go_wp2
  repeat (go_quiet (fail); try go_wp2)
  go_ret
  exact ⟨u4_0, u4_1⟩

end Go.Proofs.Ytppfnnpfamkclaa.QFnExactRollLacks
