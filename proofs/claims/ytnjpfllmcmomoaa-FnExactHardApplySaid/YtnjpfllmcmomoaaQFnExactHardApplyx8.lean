-- A walk, by a program of this session.
import Derived.Test.YtnjpfllmcmomoaaQFnExactHardApplyx0
import Derived.Test.YtnjpfllmcmomoaaQFnExactHardApplyx6
import Derived.Test.YtnjpfllmcmomoaaQFnExactHardApplyx7
namespace Go.Proofs.Ytnjpfllmcmomoaa.QFnExactHardApply
open Go.RowKit Go.Proofs.YtnjpfllmcmomoaaW.PrintWords Go.Proofs.YtnjpfllmcmomoaaW.PrintLast Go.Proofs.YtnjpfllmcmomoaaW.PrintMore
attribute [local go_sem] max2_int min2_int max_two min_two max_three min_three max_four min_four   -- for this text's walks alone
set_option linter.unusedVariables false
set_option linter.unusedSimpArgs false

/-! ### spec_HardApply: function 31 -/
def spec_HardApply.j0 : Nat → Bool → Int → Int → List (S36) → Int → Int → List (S36) → Option (Int × Int × (List (S36)) × Bool)
 | 0, _, _, _, _, _, _, _ => none
 | k + 1, x7, x213000, x213001, x213002, x222000, x222001, x222002 => if x7 = true then ((spec_HardOk.f k x222000 x222001 x222002).bind fun t232 => (if t232 = true then (some (x222000, x222001, x222002, true)) else ((spec_l6Copy.f x213000 x213001 x213002).bind fun bt233 => (some (bt233.1, bt233.2.1, bt233.2.2, false))))) else ((spec_l6Copy.f x213000 x213001 x213002).bind fun bt238 => (some (bt238.1, bt238.2.1, bt238.2.2, false)))
def spec_HardApply.f (k : Nat) (a0_0 : Int) (a0_1 : Int) (l0_2 : List (S36)) (a1_0 : Int) (a1_1 : Int) (a1_2 : Int) (a1_3 : Int) (a1_4 : Int) (a1_5 : Int) (a1_6 : Int) (a1_7 : Int) (a1_8 : Int) (a1_9 : ByteArray) : Option (Int × Int × (List (S36)) × Bool) := (spec_HardOk.f k a0_0 a0_1 l0_2).bind fun t215 => (if t215 = true then ((spec_l6Copy.f a0_0 a0_1 l0_2).bind fun bt216 => ((spec_RecOk.f k a1_0 a1_1 a1_2 a1_3 a1_4 a1_5 a1_6 a1_7 a1_8 a1_9).bind fun t222 => (if a1_0 = 1 then (if t222 = true then (if a1_1 > a0_0 then (spec_HardApply.j0 k true a0_0 a0_1 l0_2 a1_1 a1_2 bt216.2.2) else (if a1_1 = a0_0 then (if a0_1 = 0 then (spec_HardApply.j0 k true a0_0 a0_1 l0_2 a1_1 a1_2 bt216.2.2) else (spec_HardApply.j0 k (a0_1 == a1_2) a0_0 a0_1 l0_2 a1_1 a1_2 bt216.2.2)) else (spec_HardApply.j0 k false a0_0 a0_1 l0_2 a1_1 a1_2 bt216.2.2))) else (spec_HardApply.j0 k false a0_0 a0_1 l0_2 a1_1 a1_2 bt216.2.2)) else (if a1_0 = 2 then (if t222 = true then (if bt216.2.2.length < 2513169434916 then (spec_HardApply.j0 k (a1_3 == (wrap64 ((l0_2.length : Int) + 1))) a0_0 a0_1 l0_2 bt216.1 bt216.2.1 (bt216.2.2 ++ [(⟨a1_4, (⟨a1_5, a1_6, a1_7, a1_8, a1_9⟩ : S34)⟩ : S36)])) else (none)) else (if bt216.2.2.length < 2513169434916 then (spec_HardApply.j0 k false a0_0 a0_1 l0_2 bt216.1 bt216.2.1 (bt216.2.2 ++ [(⟨a1_4, (⟨a1_5, a1_6, a1_7, a1_8, a1_9⟩ : S34)⟩ : S36)])) else (none))) else (if a1_0 = 3 then (if t222 = true then (if a1_3 ≤ (l0_2.length : Int) then (if 0 ≤ a1_3 then (if a1_3 ≤ (bt216.2.2.length : Int) then (spec_HardApply.j0 k (decide (a1_3 ≤ (l0_2.length : Int))) a0_0 a0_1 l0_2 bt216.1 bt216.2.1 (bt216.2.2.take (a1_3 : Int).toNat)) else (none)) else (none)) else (spec_HardApply.j0 k (decide (a1_3 ≤ (l0_2.length : Int))) a0_0 a0_1 l0_2 bt216.1 bt216.2.1 bt216.2.2)) else (spec_HardApply.j0 k false a0_0 a0_1 l0_2 bt216.1 bt216.2.1 bt216.2.2)) else (spec_HardApply.j0 k t222 a0_0 a0_1 l0_2 bt216.1 bt216.2.1 bt216.2.2)))))) else (some (0, 0, ([] : List (S36)), false)))
set_option maxRecDepth 100000 in
theorem spec_HardApply.mono_l : ∀ k, (∀ y0 y1 y2 y3 y4 y5 y6, LeO (spec_HardApply.j0 k y0 y1 y2 y3 y4 y5 y6) (spec_HardApply.j0 (k + 1) y0 y1 y2 y3 y4 y5 y6))
 | 0 => fun _ _ _ _ _ _ _ r h => by simp [spec_HardApply.j0] at h
 | k + 1 => by
  have ih0 := spec_HardApply.mono_l k
  ·intro y0 y1 y2 y3 y4 y5 y6
   unfold spec_HardApply.j0
   repeat' first
   | (with_reducible exact ih0 _ _ _ _ _ _ _)
   | (with_reducible exact spec_HardOk.mono _ _ _ _)
   | (with_reducible exact spec_RecOk.mono _ _ _ _ _ _ _ _ _ _ _)
   | (with_reducible exact LeO.refl _)
   | (with_reducible exact LeO.none _)
   | (with_reducible refine LeO.ite ?_ ?_)
   | (with_reducible refine LeO.bind ?_ (fun _ => ?_))
   | exact ih0 _ _ _ _ _ _ _
   | exact spec_HardOk.mono _ _ _ _
   | exact spec_RecOk.mono _ _ _ _ _ _ _ _ _ _ _
   | exact LeO.none _
   | refine LeO.ite ?_ ?_
   | refine LeO.bind ?_ (fun _ => ?_)
theorem spec_HardApply.mono : ∀ a0 a1 a2 a3 a4 a5 a6 a7 a8 a9 a10 a11 a12 k, LeO (spec_HardApply.f k a0 a1 a2 a3 a4 a5 a6 a7 a8 a9 a10 a11 a12) (spec_HardApply.f (k + 1) a0 a1 a2 a3 a4 a5 a6 a7 a8 a9 a10 a11 a12) := by
 intro a0 a1 a2 a3 a4 a5 a6 a7 a8 a9 a10 a11 a12 k
 have ih0 := spec_HardApply.mono_l k
 unfold spec_HardApply.f
 repeat' first
  | (with_reducible exact ih0 _ _ _ _ _ _ _)
  | (with_reducible exact spec_HardOk.mono _ _ _ _)
  | (with_reducible exact spec_RecOk.mono _ _ _ _ _ _ _ _ _ _ _)
  | (with_reducible exact LeO.refl _)
  | (with_reducible exact LeO.none _)
  | (with_reducible refine LeO.ite ?_ ?_)
  | (with_reducible refine LeO.bind ?_ (fun _ => ?_))
  | exact ih0 _ _ _ _ _ _ _
  | exact spec_HardOk.mono _ _ _ _
  | exact spec_RecOk.mono _ _ _ _ _ _ _ _ _ _ _
  | exact LeO.none _
  | refine LeO.ite ?_ ?_
  | refine LeO.bind ?_ (fun _ => ?_)
set_option maxHeartbeats 8000000 in
set_option maxRecDepth 100000 in
theorem spec_HardApply.calls (k : Nat) (a0_0 : Int) (a0_1 : Int) (A0_2 : Option Addr) (c0_2 : Nat) (l0_2 : List (S36)) (a1_0 : Int) (a1_1 : Int) (a1_2 : Int) (a1_3 : Int) (a1_4 : Int) (a1_5 : Int) (a1_6 : Int) (a1_7 : Int) (a1_8 : Int) (a1_9 : ByteArray) (r1 : Int) (r2 : Int) (r3 : List (S36)) (r4 : Bool) (w : World) (hr0_2 : Kd.C k36 w A0_2 l0_2.length l0_2) (hc0_2 : l0_2.length ≤ c0_2) (h : spec_HardApply.f k a0_0 a0_1 l0_2 a1_0 a1_1 a1_2 a1_3 a1_4 a1_5 a1_6 a1_7 a1_8 a1_9 = some (r1, r2, r3, r4)) :
 Calls Try.prog 31 #[.agg #[.int .i64 a0_0, .int .i64 a0_1, .slice A0_2 l0_2.length c0_2], .agg #[.int .i64 a1_0, .int .i64 a1_1, .int .i64 a1_2, .int .i64 a1_3, .int .i64 a1_4, .int .i64 a1_5, .int .i64 a1_6, .int .i64 a1_7, .int .i64 a1_8, .string a1_9]] w fun e w' => ∃ v2_ : Value, e = .returned (.tuple #[.agg #[.int .i64 r1, .int .i64 r2, v2_], .bool r4]) ∧ Kd.R k36 36 w' w.heap.size (fun _ => True) v2_ r3 ∧ Below w.heap.size w w' := by
 have hu28 := Try.underlying28
 have hu38 := Try.underlying38
 have hu36 := Try.underlying36
 have HR0_2 := aM hr0_2
 have HC0_2 := aM hc0_2
 clear hr0_2 hc0_2
 have HB := aM (Below.refl w.heap.size w)
 have H : ((spec_HardOk.f k a0_0 a0_1 l0_2).bind fun t215 => (if t215 = true then ((spec_l6Copy.f a0_0 a0_1 l0_2).bind fun bt216 => ((spec_RecOk.f k a1_0 a1_1 a1_2 a1_3 a1_4 a1_5 a1_6 a1_7 a1_8 a1_9).bind fun t222 => (if a1_0 = 1 then (if t222 = true then (if a1_1 > a0_0 then (spec_HardApply.j0 k true a0_0 a0_1 l0_2 a1_1 a1_2 bt216.2.2) else (if a1_1 = a0_0 then (if a0_1 = 0 then (spec_HardApply.j0 k true a0_0 a0_1 l0_2 a1_1 a1_2 bt216.2.2) else (spec_HardApply.j0 k (a0_1 == a1_2) a0_0 a0_1 l0_2 a1_1 a1_2 bt216.2.2)) else (spec_HardApply.j0 k false a0_0 a0_1 l0_2 a1_1 a1_2 bt216.2.2))) else (spec_HardApply.j0 k false a0_0 a0_1 l0_2 a1_1 a1_2 bt216.2.2)) else (if a1_0 = 2 then (if t222 = true then (if bt216.2.2.length < 2513169434916 then (spec_HardApply.j0 k (a1_3 == (wrap64 ((l0_2.length : Int) + 1))) a0_0 a0_1 l0_2 bt216.1 bt216.2.1 (bt216.2.2 ++ [(⟨a1_4, (⟨a1_5, a1_6, a1_7, a1_8, a1_9⟩ : S34)⟩ : S36)])) else (none)) else (if bt216.2.2.length < 2513169434916 then (spec_HardApply.j0 k false a0_0 a0_1 l0_2 bt216.1 bt216.2.1 (bt216.2.2 ++ [(⟨a1_4, (⟨a1_5, a1_6, a1_7, a1_8, a1_9⟩ : S34)⟩ : S36)])) else (none))) else (if a1_0 = 3 then (if t222 = true then (if a1_3 ≤ (l0_2.length : Int) then (if 0 ≤ a1_3 then (if a1_3 ≤ (bt216.2.2.length : Int) then (spec_HardApply.j0 k (decide (a1_3 ≤ (l0_2.length : Int))) a0_0 a0_1 l0_2 bt216.1 bt216.2.1 (bt216.2.2.take (a1_3 : Int).toNat)) else (none)) else (none)) else (spec_HardApply.j0 k (decide (a1_3 ≤ (l0_2.length : Int))) a0_0 a0_1 l0_2 bt216.1 bt216.2.1 bt216.2.2)) else (spec_HardApply.j0 k false a0_0 a0_1 l0_2 bt216.1 bt216.2.1 bt216.2.2)) else (spec_HardApply.j0 k t222 a0_0 a0_1 l0_2 bt216.1 bt216.2.1 bt216.2.2)))))) else (some (0, 0, ([] : List (S36)), false)))) = some (r1, r2, r3, r4) := h
 clear h
 replace H := Option.bind_eq_some_iff.mp H
 obtain ⟨t215, A30, H⟩ := H
 replace H : (if t215 = true then ((spec_l6Copy.f a0_0 a0_1 l0_2).bind fun bt216 => ((spec_RecOk.f k a1_0 a1_1 a1_2 a1_3 a1_4 a1_5 a1_6 a1_7 a1_8 a1_9).bind fun t222 => (if a1_0 = 1 then (if t222 = true then (if a1_1 > a0_0 then (spec_HardApply.j0 k true a0_0 a0_1 l0_2 a1_1 a1_2 bt216.2.2) else (if a1_1 = a0_0 then (if a0_1 = 0 then (spec_HardApply.j0 k true a0_0 a0_1 l0_2 a1_1 a1_2 bt216.2.2) else (spec_HardApply.j0 k (a0_1 == a1_2) a0_0 a0_1 l0_2 a1_1 a1_2 bt216.2.2)) else (spec_HardApply.j0 k false a0_0 a0_1 l0_2 a1_1 a1_2 bt216.2.2))) else (spec_HardApply.j0 k false a0_0 a0_1 l0_2 a1_1 a1_2 bt216.2.2)) else (if a1_0 = 2 then (if t222 = true then (if bt216.2.2.length < 2513169434916 then (spec_HardApply.j0 k (a1_3 == (wrap64 ((l0_2.length : Int) + 1))) a0_0 a0_1 l0_2 bt216.1 bt216.2.1 (bt216.2.2 ++ [(⟨a1_4, (⟨a1_5, a1_6, a1_7, a1_8, a1_9⟩ : S34)⟩ : S36)])) else (none)) else (if bt216.2.2.length < 2513169434916 then (spec_HardApply.j0 k false a0_0 a0_1 l0_2 bt216.1 bt216.2.1 (bt216.2.2 ++ [(⟨a1_4, (⟨a1_5, a1_6, a1_7, a1_8, a1_9⟩ : S34)⟩ : S36)])) else (none))) else (if a1_0 = 3 then (if t222 = true then (if a1_3 ≤ (l0_2.length : Int) then (if 0 ≤ a1_3 then (if a1_3 ≤ (bt216.2.2.length : Int) then (spec_HardApply.j0 k (decide (a1_3 ≤ (l0_2.length : Int))) a0_0 a0_1 l0_2 bt216.1 bt216.2.1 (bt216.2.2.take (a1_3 : Int).toNat)) else (none)) else (none)) else (spec_HardApply.j0 k (decide (a1_3 ≤ (l0_2.length : Int))) a0_0 a0_1 l0_2 bt216.1 bt216.2.1 bt216.2.2)) else (spec_HardApply.j0 k false a0_0 a0_1 l0_2 bt216.1 bt216.2.1 bt216.2.2)) else (spec_HardApply.j0 k t222 a0_0 a0_1 l0_2 bt216.1 bt216.2.1 bt216.2.2)))))) else (some (0, 0, ([] : List (S36)), false))) = some (r1, r2, r3, r4) := H
 have A3 := aM A30
 clear A30
 by_cases c4 : t215 = true
 ·subst c4
  have H1 : ((spec_l6Copy.f a0_0 a0_1 l0_2).bind fun bt216 => ((spec_RecOk.f k a1_0 a1_1 a1_2 a1_3 a1_4 a1_5 a1_6 a1_7 a1_8 a1_9).bind fun t222 => (if a1_0 = 1 then (if t222 = true then (if a1_1 > a0_0 then (spec_HardApply.j0 k true a0_0 a0_1 l0_2 a1_1 a1_2 bt216.2.2) else (if a1_1 = a0_0 then (if a0_1 = 0 then (spec_HardApply.j0 k true a0_0 a0_1 l0_2 a1_1 a1_2 bt216.2.2) else (spec_HardApply.j0 k (a0_1 == a1_2) a0_0 a0_1 l0_2 a1_1 a1_2 bt216.2.2)) else (spec_HardApply.j0 k false a0_0 a0_1 l0_2 a1_1 a1_2 bt216.2.2))) else (spec_HardApply.j0 k false a0_0 a0_1 l0_2 a1_1 a1_2 bt216.2.2)) else (if a1_0 = 2 then (if t222 = true then (if bt216.2.2.length < 2513169434916 then (spec_HardApply.j0 k (a1_3 == (wrap64 ((l0_2.length : Int) + 1))) a0_0 a0_1 l0_2 bt216.1 bt216.2.1 (bt216.2.2 ++ [(⟨a1_4, (⟨a1_5, a1_6, a1_7, a1_8, a1_9⟩ : S34)⟩ : S36)])) else (none)) else (if bt216.2.2.length < 2513169434916 then (spec_HardApply.j0 k false a0_0 a0_1 l0_2 bt216.1 bt216.2.1 (bt216.2.2 ++ [(⟨a1_4, (⟨a1_5, a1_6, a1_7, a1_8, a1_9⟩ : S34)⟩ : S36)])) else (none))) else (if a1_0 = 3 then (if t222 = true then (if a1_3 ≤ (l0_2.length : Int) then (if 0 ≤ a1_3 then (if a1_3 ≤ (bt216.2.2.length : Int) then (spec_HardApply.j0 k (decide (a1_3 ≤ (l0_2.length : Int))) a0_0 a0_1 l0_2 bt216.1 bt216.2.1 (bt216.2.2.take (a1_3 : Int).toNat)) else (none)) else (none)) else (spec_HardApply.j0 k (decide (a1_3 ≤ (l0_2.length : Int))) a0_0 a0_1 l0_2 bt216.1 bt216.2.1 bt216.2.2)) else (spec_HardApply.j0 k false a0_0 a0_1 l0_2 bt216.1 bt216.2.1 bt216.2.2)) else (spec_HardApply.j0 k t222 a0_0 a0_1 l0_2 bt216.1 bt216.2.1 bt216.2.2)))))) = some (r1, r2, r3, r4) := by rw [if_pos rfl] at H; exact H
  clear H; have H := H1; clear H1; replace H := Option.bind_eq_some_iff.mp H
  obtain ⟨⟨t216, t217, t218⟩, A50, H⟩ := H
  replace H : ((spec_RecOk.f k a1_0 a1_1 a1_2 a1_3 a1_4 a1_5 a1_6 a1_7 a1_8 a1_9).bind fun t222 => (if a1_0 = 1 then (if t222 = true then (if a1_1 > a0_0 then (spec_HardApply.j0 k true a0_0 a0_1 l0_2 a1_1 a1_2 t218) else (if a1_1 = a0_0 then (if a0_1 = 0 then (spec_HardApply.j0 k true a0_0 a0_1 l0_2 a1_1 a1_2 t218) else (spec_HardApply.j0 k (a0_1 == a1_2) a0_0 a0_1 l0_2 a1_1 a1_2 t218)) else (spec_HardApply.j0 k false a0_0 a0_1 l0_2 a1_1 a1_2 t218))) else (spec_HardApply.j0 k false a0_0 a0_1 l0_2 a1_1 a1_2 t218)) else (if a1_0 = 2 then (if t222 = true then (if t218.length < 2513169434916 then (spec_HardApply.j0 k (a1_3 == (wrap64 ((l0_2.length : Int) + 1))) a0_0 a0_1 l0_2 t216 t217 (t218 ++ [(⟨a1_4, (⟨a1_5, a1_6, a1_7, a1_8, a1_9⟩ : S34)⟩ : S36)])) else (none)) else (if t218.length < 2513169434916 then (spec_HardApply.j0 k false a0_0 a0_1 l0_2 t216 t217 (t218 ++ [(⟨a1_4, (⟨a1_5, a1_6, a1_7, a1_8, a1_9⟩ : S34)⟩ : S36)])) else (none))) else (if a1_0 = 3 then (if t222 = true then (if a1_3 ≤ (l0_2.length : Int) then (if 0 ≤ a1_3 then (if a1_3 ≤ (t218.length : Int) then (spec_HardApply.j0 k (decide (a1_3 ≤ (l0_2.length : Int))) a0_0 a0_1 l0_2 t216 t217 (t218.take (a1_3 : Int).toNat)) else (none)) else (none)) else (spec_HardApply.j0 k (decide (a1_3 ≤ (l0_2.length : Int))) a0_0 a0_1 l0_2 t216 t217 t218)) else (spec_HardApply.j0 k false a0_0 a0_1 l0_2 t216 t217 t218)) else (spec_HardApply.j0 k t222 a0_0 a0_1 l0_2 t216 t217 t218))))) = some (r1, r2, r3, r4) := H; have A5 := aM A50; clear A50
  replace H := Option.bind_eq_some_iff.mp H
  obtain ⟨t222, A60, H⟩ := H
  replace H : (if a1_0 = 1 then (if t222 = true then (if a1_1 > a0_0 then (spec_HardApply.j0 k true a0_0 a0_1 l0_2 a1_1 a1_2 t218) else (if a1_1 = a0_0 then (if a0_1 = 0 then (spec_HardApply.j0 k true a0_0 a0_1 l0_2 a1_1 a1_2 t218) else (spec_HardApply.j0 k (a0_1 == a1_2) a0_0 a0_1 l0_2 a1_1 a1_2 t218)) else (spec_HardApply.j0 k false a0_0 a0_1 l0_2 a1_1 a1_2 t218))) else (spec_HardApply.j0 k false a0_0 a0_1 l0_2 a1_1 a1_2 t218)) else (if a1_0 = 2 then (if t222 = true then (if t218.length < 2513169434916 then (spec_HardApply.j0 k (a1_3 == (wrap64 ((l0_2.length : Int) + 1))) a0_0 a0_1 l0_2 t216 t217 (t218 ++ [(⟨a1_4, (⟨a1_5, a1_6, a1_7, a1_8, a1_9⟩ : S34)⟩ : S36)])) else (none)) else (if t218.length < 2513169434916 then (spec_HardApply.j0 k false a0_0 a0_1 l0_2 t216 t217 (t218 ++ [(⟨a1_4, (⟨a1_5, a1_6, a1_7, a1_8, a1_9⟩ : S34)⟩ : S36)])) else (none))) else (if a1_0 = 3 then (if t222 = true then (if a1_3 ≤ (l0_2.length : Int) then (if 0 ≤ a1_3 then (if a1_3 ≤ (t218.length : Int) then (spec_HardApply.j0 k (decide (a1_3 ≤ (l0_2.length : Int))) a0_0 a0_1 l0_2 t216 t217 (t218.take (a1_3 : Int).toNat)) else (none)) else (none)) else (spec_HardApply.j0 k (decide (a1_3 ≤ (l0_2.length : Int))) a0_0 a0_1 l0_2 t216 t217 t218)) else (spec_HardApply.j0 k false a0_0 a0_1 l0_2 t216 t217 t218)) else (spec_HardApply.j0 k t222 a0_0 a0_1 l0_2 t216 t217 t218)))) = some (r1, r2, r3, r4) := H; have A6 := aM A60; clear A60; have HC7 := aM H; clear H
  go_enter Try.func31, Try.ntmps31
  go_upto_block 0 with (first | ((with_reducible refine gate_dst (N := 2) rfl ?_); (try (refine gate_guard (by rfl) ?_; dsimp only)); refine box_event ?hg (N := 2) ?hd (cs := #[.int .i64 a0_0, .int .i64 a0_1, .slice A0_2 l0_2.length c0_2]) (t := 28) ?hr ?_; (case hd => rfl); (case hg => rfl); (case hr => first | (go_simp; done) | (go_simp; rfl)); intro gb212 hg w8 hbox hb; have BK212 := aM (hbox); have GW212 := aM (xge hg); have GE212 := aM (xge hg); replace HB := xbs hb; clear hb hbox hg) | ((with_reducible refine gate_dst (N := 3) rfl ?_); (try (refine gate_guard (by rfl) ?_; dsimp only)); refine box_event ?hg (N := 3) ?hd (cs := #[.int .i64 a1_0, .int .i64 a1_1, .int .i64 a1_2, .int .i64 a1_3, .int .i64 a1_4, .int .i64 a1_5, .int .i64 a1_6, .int .i64 a1_7, .int .i64 a1_8, .string a1_9]) (t := 38) ?hr ?_; (case hd => rfl); (case hg => rfl); (case hr => first | (go_simp; done) | (go_simp; rfl)); intro gb213 hg w9 hbox hb; have GW213 := aM (xge hg); have GE213 := aM (xge hg); replace HB := xbs hb; have NB212_213 := aM ((by rw [hg]; exact Nat.ne_of_lt (blk_lt (g := gb212) (o := .cells #[.int .i64 a0_0, .int .i64 a0_1, .slice A0_2 l0_2.length c0_2] 28 (0, 0)) xblk) : gb212 ≠ gb213)); have NB213_212 := aM ((by rw [hg]; exact Nat.ne_of_gt (blk_lt (g := gb212) (o := .cells #[.int .i64 a0_0, .int .i64 a0_1, .slice A0_2 l0_2.length c0_2] 28 (0, 0)) xblk) : gb213 ≠ gb212)); replace BK212 := xbb BK212 hb; have BK213 := aM (hbox); clear hb hbox hg) | ((with_reducible refine gate_dst (N := 4) rfl ?_); (try (refine gate_guard (by rfl) ?_; dsimp only)); refine box_event ?hg (N := 4) ?hd (cs := #[.int .i64 0, .int .i64 0, .slice none 0 0]) (t := 28) ?hr ?_; (case hd => rfl); (case hg => rfl); (case hr => first | (go_simp; done) | (go_simp; rfl)); intro gb214 hg w10 hbox hb; have GW214 := aM (xge hg); have GE214 := aM (xge hg); replace HB := xbs hb; have NB212_214 := aM ((by rw [hg]; exact Nat.ne_of_lt (blk_lt (g := gb212) (o := .cells #[.int .i64 a0_0, .int .i64 a0_1, .slice A0_2 l0_2.length c0_2] 28 (0, 0)) xblk) : gb212 ≠ gb214)); have NB214_212 := aM ((by rw [hg]; exact Nat.ne_of_gt (blk_lt (g := gb212) (o := .cells #[.int .i64 a0_0, .int .i64 a0_1, .slice A0_2 l0_2.length c0_2] 28 (0, 0)) xblk) : gb214 ≠ gb212)); have NB213_214 := aM ((by rw [hg]; exact Nat.ne_of_lt (blk_lt (g := gb213) (o := .cells #[.int .i64 a1_0, .int .i64 a1_1, .int .i64 a1_2, .int .i64 a1_3, .int .i64 a1_4, .int .i64 a1_5, .int .i64 a1_6, .int .i64 a1_7, .int .i64 a1_8, .string a1_9] 38 (0, 0)) xblk) : gb213 ≠ gb214)); have NB214_213 := aM ((by rw [hg]; exact Nat.ne_of_gt (blk_lt (g := gb213) (o := .cells #[.int .i64 a1_0, .int .i64 a1_1, .int .i64 a1_2, .int .i64 a1_3, .int .i64 a1_4, .int .i64 a1_5, .int .i64 a1_6, .int .i64 a1_7, .int .i64 a1_8, .string a1_9] 38 (0, 0)) xblk) : gb214 ≠ gb213)); replace BK212 := xbb BK212 hb; replace BK213 := xbb BK213 hb; have BK214 := aM (hbox); clear hb hbox hg; have hnb11 := NB212_213.out; have hnc11 := NB213_212.out; have hnb12 := NB212_214.out; have hnc12 := NB214_212.out; have hcz13_0 : w10.cell? ⟨gb212, 0, none⟩ = some (.int .i64 a0_0) := xc BK212 0 rfl; have hcz13_1 : w10.cell? ⟨gb212, 1, none⟩ = some (.int .i64 a0_1) := xc BK212 1 rfl; have hcz13_2 : w10.cell? ⟨gb212, 2, none⟩ = some (.slice A0_2 l0_2.length c0_2) := xc BK212 2 rfl; have hfz13_0 := blk_frozen BK212.out 0; have hfz13_1 := blk_frozen BK212.out 1; have hfz13_2 := blk_frozen BK212.out 2) | ((with_reducible refine gate_callee (f := 98) rfl ?_); refine goesL_ (some 9) rfl rfl Try.func98 (by kernel_rfl) rfl #[.agg #[.int .i64 a0_0, .int .i64 a0_1, .slice A0_2 l0_2.length c0_2]] rfl (by (try simp only [List.map_toArray, List.map_cons, List.map_nil]); first | done | rfl | (simp only [List.length_drop, List.length_take]; rfl)) ?_; (with_reducible refine (spec_HardOk.calls k a0_0 a0_1 _ _ l0_2 true _ ?side1 ?side2 A3.out).mono ?_); (case side1 => exact xcb HR0_2); (case side2 => exact HC0_2.out); rintro e w14 ⟨rfl, hb⟩; refine ⟨_, rfl, ?_⟩; replace BK212 := xbb BK212 hb; replace BK213 := xbb BK213 hb; replace BK214 := xbb BK214 hb; replace HB := xbs hb; (try clear hb); (try clear hb2); (try clear hk); (try clear hi); have hcz15_0 : w14.cell? ⟨gb212, 0, none⟩ = some (.int .i64 a0_0) := xc BK212 0 rfl; have hcz15_1 : w14.cell? ⟨gb212, 1, none⟩ = some (.int .i64 a0_1) := xc BK212 1 rfl; have hcz15_2 : w14.cell? ⟨gb212, 2, none⟩ = some (.slice A0_2 l0_2.length c0_2) := xc BK212 2 rfl; have hfz15_0 := blk_frozen BK212.out 0; have hfz15_1 := blk_frozen BK212.out 1; have hfz15_2 := blk_frozen BK212.out 2) | ((with_reducible refine gate_callee (f := 99) rfl ?_); refine goesL_ (some 13) rfl rfl Try.func99 (by kernel_rfl) rfl #[.agg #[.int .i64 a0_0, .int .i64 a0_1, .slice A0_2 l0_2.length c0_2]] rfl (by (try simp only [List.map_toArray, List.map_cons, List.map_nil]); first | done | rfl | (simp only [List.length_drop, List.length_take]; rfl)) ?_; (with_reducible refine (spec_l6Copy.calls a0_0 a0_1 _ _ l0_2 t216 t217 t218 _ ?side1 ?side2 A5.out).mono ?_); (case side1 => exact xcb HR0_2); (case side2 => exact HC0_2.out); rintro e w16 ⟨v219, rfl, ho0, hb⟩; refine ⟨_, rfl, ?_⟩; have HO220 := aM (Kd.R_lower ho0 (below_size xbg)); replace BK212 := xbb BK212 hb; replace BK213 := xbb BK213 hb; replace BK214 := xbb BK214 hb; replace HB := xbs hb; (try clear hb); (try clear hb2); (try clear hk); (try clear hi); (try clear ho0)) | ((with_reducible refine gate_dst (N := 6) rfl ?_); (try (refine gate_guard (by rfl) ?_; dsimp only)); refine box_event ?hg (N := 6) ?hd (cs := #[.int .i64 0, .int .i64 0, .slice none 0 0]) (t := 28) ?hr ?_; (case hd => rfl); (case hg => rfl); (case hr => first | (go_simp; done) | (go_simp; rfl)); intro gb221 hg w17 hbox hb; replace HO220 := aM (Kd.R_below (xr HO220) hb); have GW221 := aM (xge hg); have GE221 := aM (xge hg); replace HB := xbs hb; have NB212_221 := aM ((by rw [hg]; exact Nat.ne_of_lt (blk_lt (g := gb212) (o := .cells #[.int .i64 a0_0, .int .i64 a0_1, .slice A0_2 l0_2.length c0_2] 28 (0, 0)) xblk) : gb212 ≠ gb221)); have NB221_212 := aM ((by rw [hg]; exact Nat.ne_of_gt (blk_lt (g := gb212) (o := .cells #[.int .i64 a0_0, .int .i64 a0_1, .slice A0_2 l0_2.length c0_2] 28 (0, 0)) xblk) : gb221 ≠ gb212)); have NB213_221 := aM ((by rw [hg]; exact Nat.ne_of_lt (blk_lt (g := gb213) (o := .cells #[.int .i64 a1_0, .int .i64 a1_1, .int .i64 a1_2, .int .i64 a1_3, .int .i64 a1_4, .int .i64 a1_5, .int .i64 a1_6, .int .i64 a1_7, .int .i64 a1_8, .string a1_9] 38 (0, 0)) xblk) : gb213 ≠ gb221)); have NB221_213 := aM ((by rw [hg]; exact Nat.ne_of_gt (blk_lt (g := gb213) (o := .cells #[.int .i64 a1_0, .int .i64 a1_1, .int .i64 a1_2, .int .i64 a1_3, .int .i64 a1_4, .int .i64 a1_5, .int .i64 a1_6, .int .i64 a1_7, .int .i64 a1_8, .string a1_9] 38 (0, 0)) xblk) : gb221 ≠ gb213)); have NB214_221 := aM ((by rw [hg]; exact Nat.ne_of_lt (blk_lt (g := gb214) (o := .cells #[.int .i64 0, .int .i64 0, .slice none 0 0] 28 (0, 0)) xblk) : gb214 ≠ gb221)); have NB221_214 := aM ((by rw [hg]; exact Nat.ne_of_gt (blk_lt (g := gb214) (o := .cells #[.int .i64 0, .int .i64 0, .slice none 0 0] 28 (0, 0)) xblk) : gb221 ≠ gb214)); replace BK212 := xbb BK212 hb; replace BK213 := xbb BK213 hb; replace BK214 := xbb BK214 hb; have BK221 := aM (hbox); clear hb hbox hg; have hnb18 := NB221_212.out; have hnc18 := NB212_221.out; have hnb19 := NB221_213.out; have hnc19 := NB213_221.out; have hnb20 := NB221_214.out; have hnc20 := NB214_221.out; have hcz21_0 : w17.cell? ⟨gb221, 0, none⟩ = some (.int .i64 0) := xc BK221 0 rfl; have hcz21_1 : w17.cell? ⟨gb221, 1, none⟩ = some (.int .i64 0) := xc BK221 1 rfl; have hcz21_2 : w17.cell? ⟨gb221, 2, none⟩ = some (.slice none 0 0) := xc BK221 2 rfl; have hfz21_0 := blk_frozen BK221.out 0; have hfz21_1 := blk_frozen BK221.out 1; have hfz21_2 := blk_frozen BK221.out 2; obtain ⟨Ao22, co22, eo22⟩ := Kd.R_slice HO220.out; subst eo22; have hnb23 := NB213_214.out; have hnc23 := NB214_213.out; have hcz24_0 : w17.cell? ⟨gb213, 0, none⟩ = some (.int .i64 a1_0) := xc BK213 0 rfl; have hcz24_1 : w17.cell? ⟨gb213, 1, none⟩ = some (.int .i64 a1_1) := xc BK213 1 rfl; have hcz24_2 : w17.cell? ⟨gb213, 2, none⟩ = some (.int .i64 a1_2) := xc BK213 2 rfl; have hcz24_3 : w17.cell? ⟨gb213, 3, none⟩ = some (.int .i64 a1_3) := xc BK213 3 rfl; have hcz24_4 : w17.cell? ⟨gb213, 4, none⟩ = some (.int .i64 a1_4) := xc BK213 4 rfl; have hcz24_5 : w17.cell? ⟨gb213, 5, none⟩ = some (.int .i64 a1_5) := xc BK213 5 rfl; have hcz24_6 : w17.cell? ⟨gb213, 6, none⟩ = some (.int .i64 a1_6) := xc BK213 6 rfl; have hcz24_7 : w17.cell? ⟨gb213, 7, none⟩ = some (.int .i64 a1_7) := xc BK213 7 rfl; have hcz24_8 : w17.cell? ⟨gb213, 8, none⟩ = some (.int .i64 a1_8) := xc BK213 8 rfl; have hcz24_9 : w17.cell? ⟨gb213, 9, none⟩ = some (.string a1_9) := xc BK213 9 rfl; have hfz24_0 := blk_frozen BK213.out 0; have hfz24_1 := blk_frozen BK213.out 1; have hfz24_2 := blk_frozen BK213.out 2; have hfz24_3 := blk_frozen BK213.out 3; have hfz24_4 := blk_frozen BK213.out 4; have hfz24_5 := blk_frozen BK213.out 5; have hfz24_6 := blk_frozen BK213.out 6; have hfz24_7 := blk_frozen BK213.out 7; have hfz24_8 := blk_frozen BK213.out 8; have hfz24_9 := blk_frozen BK213.out 9) | ((with_reducible refine gate_callee (f := 69) rfl ?_); refine goesL_ (some 15) rfl rfl Try.func69 (by kernel_rfl) rfl #[.agg #[.int .i64 a1_0, .int .i64 a1_1, .int .i64 a1_2, .int .i64 a1_3, .int .i64 a1_4, .int .i64 a1_5, .int .i64 a1_6, .int .i64 a1_7, .int .i64 a1_8, .string a1_9]] rfl (by (try simp only [List.map_toArray, List.map_cons, List.map_nil]); first | done | rfl | (simp only [List.length_drop, List.length_take]; rfl)) ?_; (with_reducible refine (spec_RecOk.calls k a1_0 a1_1 a1_2 a1_3 a1_4 a1_5 a1_6 a1_7 a1_8 a1_9 t222 _ A6.out).mono ?_); rintro e w25 ⟨rfl, hb⟩; refine ⟨_, rfl, ?_⟩; replace HO220 := aM (Kd.R_below (xrt (Kd.R_mono (Kd.R_far (p := ⟨gb221, 2, none⟩) (Kd.R_far (p := ⟨gb221, 1, none⟩) (Kd.R_far (p := ⟨gb221, 0, none⟩) (Kd.R_types HO220.out BK221.out (by decide)) (fun _ hk => hk.2) (.int .i64 t216)) (fun _ hk => hk.2) (.int .i64 t217)) (fun _ hk => hk.2) (.slice Ao22 t218.length co22)) (fun _ h_ => h_.1))) hb); replace BK212 := aM (blk_below (g := gb212) (o := .cells #[.int .i64 a0_0, .int .i64 a0_1, .slice A0_2 l0_2.length c0_2] 28 (0, 0)) (by (with_reducible repeat (first | refine blk_drewN ?_ _ | refine blk_drew ?_ | refine blk_alloc ?_ _)); refine blk_far ?_ NB212_221.out _; (with_reducible repeat (first | refine blk_drewN ?_ _ | refine blk_drew ?_ | refine blk_alloc ?_ _)); refine blk_far ?_ NB212_221.out _; (with_reducible repeat (first | refine blk_drewN ?_ _ | refine blk_drew ?_ | refine blk_alloc ?_ _)); refine blk_far ?_ NB212_221.out _; (with_reducible repeat (first | refine blk_drewN ?_ _ | refine blk_drew ?_ | refine blk_alloc ?_ _)); exact BK212.out) hb); replace BK213 := aM (blk_below (g := gb213) (o := .cells #[.int .i64 a1_0, .int .i64 a1_1, .int .i64 a1_2, .int .i64 a1_3, .int .i64 a1_4, .int .i64 a1_5, .int .i64 a1_6, .int .i64 a1_7, .int .i64 a1_8, .string a1_9] 38 (0, 0)) (by (with_reducible repeat (first | refine blk_drewN ?_ _ | refine blk_drew ?_ | refine blk_alloc ?_ _)); refine blk_far ?_ NB213_221.out _; (with_reducible repeat (first | refine blk_drewN ?_ _ | refine blk_drew ?_ | refine blk_alloc ?_ _)); refine blk_far ?_ NB213_221.out _; (with_reducible repeat (first | refine blk_drewN ?_ _ | refine blk_drew ?_ | refine blk_alloc ?_ _)); refine blk_far ?_ NB213_221.out _; (with_reducible repeat (first | refine blk_drewN ?_ _ | refine blk_drew ?_ | refine blk_alloc ?_ _)); exact BK213.out) hb); replace BK214 := aM (blk_below (g := gb214) (o := .cells #[.int .i64 0, .int .i64 0, .slice none 0 0] 28 (0, 0)) (by (with_reducible repeat (first | refine blk_drewN ?_ _ | refine blk_drew ?_ | refine blk_alloc ?_ _)); refine blk_far ?_ NB214_221.out _; (with_reducible repeat (first | refine blk_drewN ?_ _ | refine blk_drew ?_ | refine blk_alloc ?_ _)); refine blk_far ?_ NB214_221.out _; (with_reducible repeat (first | refine blk_drewN ?_ _ | refine blk_drew ?_ | refine blk_alloc ?_ _)); refine blk_far ?_ NB214_221.out _; (with_reducible repeat (first | refine blk_drewN ?_ _ | refine blk_drew ?_ | refine blk_alloc ?_ _)); exact BK214.out) hb); replace BK221 := aM (blk_below (g := gb221) (o := .cells #[.int .i64 t216, .int .i64 t217, .slice Ao22 t218.length co22] 28 (0, 0)) (by (with_reducible repeat (first | refine blk_drewN ?_ _ | refine blk_drew ?_ | refine blk_alloc ?_ _)); refine blk_put (cs := #[.int .i64 t216, .int .i64 t217, .slice none 0 0]) ?_ 2 _ rfl; (with_reducible repeat (first | refine blk_drewN ?_ _ | refine blk_drew ?_ | refine blk_alloc ?_ _)); refine blk_put (cs := #[.int .i64 t216, .int .i64 0, .slice none 0 0]) ?_ 1 _ rfl; (with_reducible repeat (first | refine blk_drewN ?_ _ | refine blk_drew ?_ | refine blk_alloc ?_ _)); refine blk_put (cs := #[.int .i64 0, .int .i64 0, .slice none 0 0]) ?_ 0 _ rfl; (with_reducible repeat (first | refine blk_drewN ?_ _ | refine blk_drew ?_ | refine blk_alloc ?_ _)); exact BK221.out) hb); replace HB := xbs hb; (try clear hb); (try clear hb2); (try clear hk); (try clear hi); have hcz26_0 : w25.cell? ⟨gb213, 0, none⟩ = some (.int .i64 a1_0) := xc BK213 0 rfl; have hcz26_1 : w25.cell? ⟨gb213, 1, none⟩ = some (.int .i64 a1_1) := xc BK213 1 rfl; have hcz26_2 : w25.cell? ⟨gb213, 2, none⟩ = some (.int .i64 a1_2) := xc BK213 2 rfl; have hcz26_3 : w25.cell? ⟨gb213, 3, none⟩ = some (.int .i64 a1_3) := xc BK213 3 rfl; have hcz26_4 : w25.cell? ⟨gb213, 4, none⟩ = some (.int .i64 a1_4) := xc BK213 4 rfl; have hcz26_5 : w25.cell? ⟨gb213, 5, none⟩ = some (.int .i64 a1_5) := xc BK213 5 rfl; have hcz26_6 : w25.cell? ⟨gb213, 6, none⟩ = some (.int .i64 a1_6) := xc BK213 6 rfl; have hcz26_7 : w25.cell? ⟨gb213, 7, none⟩ = some (.int .i64 a1_7) := xc BK213 7 rfl; have hcz26_8 : w25.cell? ⟨gb213, 8, none⟩ = some (.int .i64 a1_8) := xc BK213 8 rfl; have hcz26_9 : w25.cell? ⟨gb213, 9, none⟩ = some (.string a1_9) := xc BK213 9 rfl; have hfz26_0 := blk_frozen BK213.out 0; have hfz26_1 := blk_frozen BK213.out 1; have hfz26_2 := blk_frozen BK213.out 2; have hfz26_3 := blk_frozen BK213.out 3; have hfz26_4 := blk_frozen BK213.out 4; have hfz26_5 := blk_frozen BK213.out 5; have hfz26_6 := blk_frozen BK213.out 6; have hfz26_7 := blk_frozen BK213.out 7; have hfz26_8 := blk_frozen BK213.out 8; have hfz26_9 := blk_frozen BK213.out 9))
  (try simp only [Act.put, List.setIfInBounds_toArray, List.set_cons_zero, List.set_cons_succ])
  go_cut [7] (fun v7 wc => ∃ (kq : Nat) (x7_6 : Bool) (x222000_6 : Int) (x222001_6 : Int) (x222002_6 : List (S36)) (u222002 : Value), v7 = .bool x7_6 ∧ Aside0 (spec_HardApply.j0 kq x7_6 a0_0 a0_1 l0_2 x222000_6 x222001_6 x222002_6 = some (r1, r2, r3, r4)) ∧ Aside0 (kq ≤ k) ∧ Aside0 (Kd.R k36 36 wc w.heap.size (fun _ => True) u222002 x222002_6) ∧ Aside0 (wc.heap[gb212]? = some (.cells #[.int .i64 a0_0, .int .i64 a0_1, (.slice A0_2 l0_2.length c0_2)] 28 (0, 0))) ∧ Aside0 (wc.heap[gb213]? = some (.cells #[.int .i64 a1_0, .int .i64 a1_1, .int .i64 a1_2, .int .i64 a1_3, .int .i64 a1_4, .int .i64 a1_5, .int .i64 a1_6, .int .i64 a1_7, .int .i64 a1_8, .string a1_9] 38 (0, 0))) ∧ Aside0 (wc.heap[gb214]? = some (.cells #[.int .i64 0, .int .i64 0, (.slice none 0 0)] 28 (0, 0))) ∧ Aside0 (wc.heap[gb221]? = some (.cells #[.int .i64 x222000_6, .int .i64 x222001_6, u222002] 28 (0, 0))) ∧ Aside0 (Below w.heap.size w wc))
  case first =>
   have H := HC7.out; clear HC7
   by_cases c27 : a1_0 = 1
   ·rw [if_pos c27] at H
    have c27b0 : (a1_0 == 1) = true := beq_iff_eq.mpr c27; have c27b1 : (a1_0 != 1) = false := bne_eq_false_iff_eq.mpr c27; clear c27
    (first | rw [c27b0] | (simp only [i64_w, i32_w]; rw [c27b0]) | skip)
    by_cases c28 : t222 = true
    ·subst c28
     have H1 : (if a1_1 > a0_0 then (spec_HardApply.j0 k true a0_0 a0_1 l0_2 a1_1 a1_2 t218) else (if a1_1 = a0_0 then (if a0_1 = 0 then (spec_HardApply.j0 k true a0_0 a0_1 l0_2 a1_1 a1_2 t218) else (spec_HardApply.j0 k (a0_1 == a1_2) a0_0 a0_1 l0_2 a1_1 a1_2 t218)) else (spec_HardApply.j0 k false a0_0 a0_1 l0_2 a1_1 a1_2 t218))) = some (r1, r2, r3, r4) := by rw [if_pos rfl] at H; exact H
     clear H; have H := H1; clear H1
     by_cases c29 : a1_1 > a0_0
     ·rw [if_pos c29] at H
      have c29b0 : decide (a0_0 < a1_1) = true := decide_eq_true c29; clear c29
      have H' := aM H
      clear H; have hnb30 := NB213_212.out; have hnc30 := NB212_213.out; have hnb31 := NB213_214.out; have hnc31 := NB214_213.out; have hnb32 := NB213_221.out; have hnc32 := NB221_213.out; have hcz33_0 : w25.cell? ⟨gb213, 0, none⟩ = some (.int .i64 a1_0) := xc BK213 0 rfl; have hcz33_1 : w25.cell? ⟨gb213, 1, none⟩ = some (.int .i64 a1_1) := xc BK213 1 rfl; have hcz33_2 : w25.cell? ⟨gb213, 2, none⟩ = some (.int .i64 a1_2) := xc BK213 2 rfl; have hcz33_3 : w25.cell? ⟨gb213, 3, none⟩ = some (.int .i64 a1_3) := xc BK213 3 rfl; have hcz33_4 : w25.cell? ⟨gb213, 4, none⟩ = some (.int .i64 a1_4) := xc BK213 4 rfl; have hcz33_5 : w25.cell? ⟨gb213, 5, none⟩ = some (.int .i64 a1_5) := xc BK213 5 rfl; have hcz33_6 : w25.cell? ⟨gb213, 6, none⟩ = some (.int .i64 a1_6) := xc BK213 6 rfl; have hcz33_7 : w25.cell? ⟨gb213, 7, none⟩ = some (.int .i64 a1_7) := xc BK213 7 rfl; have hcz33_8 : w25.cell? ⟨gb213, 8, none⟩ = some (.int .i64 a1_8) := xc BK213 8 rfl; have hcz33_9 : w25.cell? ⟨gb213, 9, none⟩ = some (.string a1_9) := xc BK213 9 rfl; have hfz33_0 := blk_frozen BK213.out 0; have hfz33_1 := blk_frozen BK213.out 1; have hfz33_2 := blk_frozen BK213.out 2; have hfz33_3 := blk_frozen BK213.out 3; have hfz33_4 := blk_frozen BK213.out 4; have hfz33_5 := blk_frozen BK213.out 5; have hfz33_6 := blk_frozen BK213.out 6; have hfz33_7 := blk_frozen BK213.out 7; have hfz33_8 := blk_frozen BK213.out 8; have hfz33_9 := blk_frozen BK213.out 9; have hnb34 := NB212_214.out; have hnc34 := NB214_212.out; have hnb35 := NB212_221.out
      have hnc35 := NB221_212.out; have hcz36_0 : w25.cell? ⟨gb212, 0, none⟩ = some (.int .i64 a0_0) := xc BK212 0 rfl; have hcz36_1 : w25.cell? ⟨gb212, 1, none⟩ = some (.int .i64 a0_1) := xc BK212 1 rfl; have hcz36_2 : w25.cell? ⟨gb212, 2, none⟩ = some (.slice A0_2 l0_2.length c0_2) := xc BK212 2 rfl; have hfz36_0 := blk_frozen BK212.out 0; have hfz36_1 := blk_frozen BK212.out 1; have hfz36_2 := blk_frozen BK212.out 2; have hnb37 := NB221_214.out; have hnc37 := NB214_221.out; have hcz38_0 : w25.cell? ⟨gb221, 0, none⟩ = some (.int .i64 t216) := xc BK221 0 rfl; have hcz38_1 : w25.cell? ⟨gb221, 1, none⟩ = some (.int .i64 t217) := xc BK221 1 rfl; have hcz38_2 : w25.cell? ⟨gb221, 2, none⟩ = some (.slice Ao22 t218.length co22) := xc BK221 2 rfl; have hfz38_0 := blk_frozen BK221.out 0; have hfz38_1 := blk_frozen BK221.out 1; have hfz38_2 := blk_frozen BK221.out 2
      go_wp2
      go_meet
      case rel => exact ⟨_, (true), (a1_1), (a1_2), (t218), (.slice Ao22 t218.length co22), (by first | rfl | (simp; done) | (simp [*]; done)), H', ⟨by first | omega | exact Nat.le_refl _⟩, ⟨by (with_reducible repeat (first | apply Kd.R_alloc | apply Kd.R_drewN | apply Kd.R_drew)); exact Kd.R_mono (Kd.R_far (p := ⟨gb221, 1, none⟩) (Kd.R_far (p := ⟨gb221, 0, none⟩) (Kd.R_types HO220.out BK221.out (by decide)) (fun _ hk => hk.2) (.int .i64 a1_1)) (fun _ hk => hk.2) (.int .i64 a1_2)) (fun _ hk => trivial)⟩, ⟨by (with_reducible repeat (first | refine blk_drewN ?_ _ | refine blk_drew ?_ | refine blk_alloc ?_ _)); refine blk_far ?_ NB212_221.out _; (with_reducible repeat (first | refine blk_drewN ?_ _ | refine blk_drew ?_ | refine blk_alloc ?_ _)); refine blk_far ?_ NB212_221.out _; (with_reducible repeat (first | refine blk_drewN ?_ _ | refine blk_drew ?_ | refine blk_alloc ?_ _)); exact BK212.out⟩, ⟨by (with_reducible repeat (first | refine blk_drewN ?_ _ | refine blk_drew ?_ | refine blk_alloc ?_ _)); refine blk_far ?_ NB213_221.out _; (with_reducible repeat (first | refine blk_drewN ?_ _ | refine blk_drew ?_ | refine blk_alloc ?_ _)); refine blk_far ?_ NB213_221.out _; (with_reducible repeat (first | refine blk_drewN ?_ _ | refine blk_drew ?_ | refine blk_alloc ?_ _)); exact BK213.out⟩, ⟨by (with_reducible repeat (first | refine blk_drewN ?_ _ | refine blk_drew ?_ | refine blk_alloc ?_ _)); refine blk_far ?_ NB214_221.out _; (with_reducible repeat (first | refine blk_drewN ?_ _ | refine blk_drew ?_ | refine blk_alloc ?_ _)); refine blk_far ?_ NB214_221.out _; (with_reducible repeat (first | refine blk_drewN ?_ _ | refine blk_drew ?_ | refine blk_alloc ?_ _)); exact BK214.out⟩, ⟨by (with_reducible repeat (first | refine blk_drewN ?_ _ | refine blk_drew ?_ | refine blk_alloc ?_ _)); refine blk_put (cs := #[.int .i64 a1_1, .int .i64 t217, .slice Ao22 t218.length co22]) ?_ 1 _ rfl; (with_reducible repeat (first | refine blk_drewN ?_ _ | refine blk_drew ?_ | refine blk_alloc ?_ _)); refine blk_put (cs := #[.int .i64 t216, .int .i64 t217, .slice Ao22 t218.length co22]) ?_ 0 _ rfl; (with_reducible repeat (first | refine blk_drewN ?_ _ | refine blk_drew ?_ | refine blk_alloc ?_ _)); exact BK221.out⟩, ⟨xbg⟩⟩
     ·rw [if_neg c29] at H
      have c29b0 : decide (a0_0 < a1_1) = false := decide_eq_false c29; clear c29
      by_cases c39 : a1_1 = a0_0
      ·rw [if_pos c39] at H
       have c39b0 : (a1_1 == a0_0) = true := beq_iff_eq.mpr c39; have c39b1 : (a1_1 != a0_0) = false := bne_eq_false_iff_eq.mpr c39; clear c39
       by_cases c40 : a0_1 = 0
       ·rw [if_pos c40] at H
        have c40b0 : (a0_1 == 0) = true := beq_iff_eq.mpr c40; have c40b1 : (a0_1 != 0) = false := bne_eq_false_iff_eq.mpr c40; clear c40
        have H' := aM H
        clear H; have hnb41 := NB213_212.out; have hnc41 := NB212_213.out; have hnb42 := NB213_214.out; have hnc42 := NB214_213.out; have hnb43 := NB213_221.out; have hnc43 := NB221_213.out; have hcz44_0 : w25.cell? ⟨gb213, 0, none⟩ = some (.int .i64 a1_0) := xc BK213 0 rfl; have hcz44_1 : w25.cell? ⟨gb213, 1, none⟩ = some (.int .i64 a1_1) := xc BK213 1 rfl; have hcz44_2 : w25.cell? ⟨gb213, 2, none⟩ = some (.int .i64 a1_2) := xc BK213 2 rfl; have hcz44_3 : w25.cell? ⟨gb213, 3, none⟩ = some (.int .i64 a1_3) := xc BK213 3 rfl; have hcz44_4 : w25.cell? ⟨gb213, 4, none⟩ = some (.int .i64 a1_4) := xc BK213 4 rfl; have hcz44_5 : w25.cell? ⟨gb213, 5, none⟩ = some (.int .i64 a1_5) := xc BK213 5 rfl; have hcz44_6 : w25.cell? ⟨gb213, 6, none⟩ = some (.int .i64 a1_6) := xc BK213 6 rfl; have hcz44_7 : w25.cell? ⟨gb213, 7, none⟩ = some (.int .i64 a1_7) := xc BK213 7 rfl; have hcz44_8 : w25.cell? ⟨gb213, 8, none⟩ = some (.int .i64 a1_8) := xc BK213 8 rfl; have hcz44_9 : w25.cell? ⟨gb213, 9, none⟩ = some (.string a1_9) := xc BK213 9 rfl; have hfz44_0 := blk_frozen BK213.out 0; have hfz44_1 := blk_frozen BK213.out 1; have hfz44_2 := blk_frozen BK213.out 2; have hfz44_3 := blk_frozen BK213.out 3; have hfz44_4 := blk_frozen BK213.out 4; have hfz44_5 := blk_frozen BK213.out 5; have hfz44_6 := blk_frozen BK213.out 6; have hfz44_7 := blk_frozen BK213.out 7; have hfz44_8 := blk_frozen BK213.out 8; have hfz44_9 := blk_frozen BK213.out 9; have hnb45 := NB212_214.out; have hnc45 := NB214_212.out; have hnb46 := NB212_221.out
        have hnc46 := NB221_212.out; have hcz47_0 : w25.cell? ⟨gb212, 0, none⟩ = some (.int .i64 a0_0) := xc BK212 0 rfl; have hcz47_1 : w25.cell? ⟨gb212, 1, none⟩ = some (.int .i64 a0_1) := xc BK212 1 rfl; have hcz47_2 : w25.cell? ⟨gb212, 2, none⟩ = some (.slice A0_2 l0_2.length c0_2) := xc BK212 2 rfl; have hfz47_0 := blk_frozen BK212.out 0; have hfz47_1 := blk_frozen BK212.out 1; have hfz47_2 := blk_frozen BK212.out 2; have hnb48 := NB221_214.out; have hnc48 := NB214_221.out; have hcz49_0 : w25.cell? ⟨gb221, 0, none⟩ = some (.int .i64 t216) := xc BK221 0 rfl; have hcz49_1 : w25.cell? ⟨gb221, 1, none⟩ = some (.int .i64 t217) := xc BK221 1 rfl; have hcz49_2 : w25.cell? ⟨gb221, 2, none⟩ = some (.slice Ao22 t218.length co22) := xc BK221 2 rfl; have hfz49_0 := blk_frozen BK221.out 0; have hfz49_1 := blk_frozen BK221.out 1; have hfz49_2 := blk_frozen BK221.out 2
        go_wp2
        go_meet
        case rel => exact ⟨_, (true), (a1_1), (a1_2), (t218), (.slice Ao22 t218.length co22), (by first | rfl | (simp; done) | (simp [*]; done)), H', ⟨by first | omega | exact Nat.le_refl _⟩, ⟨by (with_reducible repeat (first | apply Kd.R_alloc | apply Kd.R_drewN | apply Kd.R_drew)); exact Kd.R_mono (Kd.R_far (p := ⟨gb221, 1, none⟩) (Kd.R_far (p := ⟨gb221, 0, none⟩) (Kd.R_types HO220.out BK221.out (by decide)) (fun _ hk => hk.2) (.int .i64 a1_1)) (fun _ hk => hk.2) (.int .i64 a1_2)) (fun _ hk => trivial)⟩, ⟨by (with_reducible repeat (first | refine blk_drewN ?_ _ | refine blk_drew ?_ | refine blk_alloc ?_ _)); refine blk_far ?_ NB212_221.out _; (with_reducible repeat (first | refine blk_drewN ?_ _ | refine blk_drew ?_ | refine blk_alloc ?_ _)); refine blk_far ?_ NB212_221.out _; (with_reducible repeat (first | refine blk_drewN ?_ _ | refine blk_drew ?_ | refine blk_alloc ?_ _)); exact BK212.out⟩, ⟨by (with_reducible repeat (first | refine blk_drewN ?_ _ | refine blk_drew ?_ | refine blk_alloc ?_ _)); refine blk_far ?_ NB213_221.out _; (with_reducible repeat (first | refine blk_drewN ?_ _ | refine blk_drew ?_ | refine blk_alloc ?_ _)); refine blk_far ?_ NB213_221.out _; (with_reducible repeat (first | refine blk_drewN ?_ _ | refine blk_drew ?_ | refine blk_alloc ?_ _)); exact BK213.out⟩, ⟨by (with_reducible repeat (first | refine blk_drewN ?_ _ | refine blk_drew ?_ | refine blk_alloc ?_ _)); refine blk_far ?_ NB214_221.out _; (with_reducible repeat (first | refine blk_drewN ?_ _ | refine blk_drew ?_ | refine blk_alloc ?_ _)); refine blk_far ?_ NB214_221.out _; (with_reducible repeat (first | refine blk_drewN ?_ _ | refine blk_drew ?_ | refine blk_alloc ?_ _)); exact BK214.out⟩, ⟨by (with_reducible repeat (first | refine blk_drewN ?_ _ | refine blk_drew ?_ | refine blk_alloc ?_ _)); refine blk_put (cs := #[.int .i64 a1_1, .int .i64 t217, .slice Ao22 t218.length co22]) ?_ 1 _ rfl; (with_reducible repeat (first | refine blk_drewN ?_ _ | refine blk_drew ?_ | refine blk_alloc ?_ _)); refine blk_put (cs := #[.int .i64 t216, .int .i64 t217, .slice Ao22 t218.length co22]) ?_ 0 _ rfl; (with_reducible repeat (first | refine blk_drewN ?_ _ | refine blk_drew ?_ | refine blk_alloc ?_ _)); exact BK221.out⟩, ⟨xbg⟩⟩
       ·rw [if_neg c40] at H
        have c40b0 : (a0_1 == 0) = false := beq_eq_false_iff_ne.mpr c40; have c40b1 : (a0_1 != 0) = true := bne_iff_ne.mpr c40
        have H' := aM H
        clear H; have hnb50 := NB213_212.out; have hnc50 := NB212_213.out; have hnb51 := NB213_214.out; have hnc51 := NB214_213.out; have hnb52 := NB213_221.out; have hnc52 := NB221_213.out; have hcz53_0 : w25.cell? ⟨gb213, 0, none⟩ = some (.int .i64 a1_0) := xc BK213 0 rfl; have hcz53_1 : w25.cell? ⟨gb213, 1, none⟩ = some (.int .i64 a1_1) := xc BK213 1 rfl; have hcz53_2 : w25.cell? ⟨gb213, 2, none⟩ = some (.int .i64 a1_2) := xc BK213 2 rfl; have hcz53_3 : w25.cell? ⟨gb213, 3, none⟩ = some (.int .i64 a1_3) := xc BK213 3 rfl; have hcz53_4 : w25.cell? ⟨gb213, 4, none⟩ = some (.int .i64 a1_4) := xc BK213 4 rfl; have hcz53_5 : w25.cell? ⟨gb213, 5, none⟩ = some (.int .i64 a1_5) := xc BK213 5 rfl; have hcz53_6 : w25.cell? ⟨gb213, 6, none⟩ = some (.int .i64 a1_6) := xc BK213 6 rfl; have hcz53_7 : w25.cell? ⟨gb213, 7, none⟩ = some (.int .i64 a1_7) := xc BK213 7 rfl; have hcz53_8 : w25.cell? ⟨gb213, 8, none⟩ = some (.int .i64 a1_8) := xc BK213 8 rfl; have hcz53_9 : w25.cell? ⟨gb213, 9, none⟩ = some (.string a1_9) := xc BK213 9 rfl; have hfz53_0 := blk_frozen BK213.out 0; have hfz53_1 := blk_frozen BK213.out 1; have hfz53_2 := blk_frozen BK213.out 2; have hfz53_3 := blk_frozen BK213.out 3; have hfz53_4 := blk_frozen BK213.out 4; have hfz53_5 := blk_frozen BK213.out 5; have hfz53_6 := blk_frozen BK213.out 6; have hfz53_7 := blk_frozen BK213.out 7; have hfz53_8 := blk_frozen BK213.out 8; have hfz53_9 := blk_frozen BK213.out 9; have hnb54 := NB212_214.out; have hnc54 := NB214_212.out; have hnb55 := NB212_221.out
        have hnc55 := NB221_212.out; have hcz56_0 : w25.cell? ⟨gb212, 0, none⟩ = some (.int .i64 a0_0) := xc BK212 0 rfl; have hcz56_1 : w25.cell? ⟨gb212, 1, none⟩ = some (.int .i64 a0_1) := xc BK212 1 rfl; have hcz56_2 : w25.cell? ⟨gb212, 2, none⟩ = some (.slice A0_2 l0_2.length c0_2) := xc BK212 2 rfl; have hfz56_0 := blk_frozen BK212.out 0; have hfz56_1 := blk_frozen BK212.out 1; have hfz56_2 := blk_frozen BK212.out 2; have hnb57 := NB221_214.out; have hnc57 := NB214_221.out; have hcz58_0 : w25.cell? ⟨gb221, 0, none⟩ = some (.int .i64 t216) := xc BK221 0 rfl; have hcz58_1 : w25.cell? ⟨gb221, 1, none⟩ = some (.int .i64 t217) := xc BK221 1 rfl; have hcz58_2 : w25.cell? ⟨gb221, 2, none⟩ = some (.slice Ao22 t218.length co22) := xc BK221 2 rfl; have hfz58_0 := blk_frozen BK221.out 0; have hfz58_1 := blk_frozen BK221.out 1; have hfz58_2 := blk_frozen BK221.out 2
        go_wp2
        go_meet
        case rel => exact ⟨_, ((a0_1 == a1_2)), (a1_1), (a1_2), (t218), (.slice Ao22 t218.length co22), (by first | rfl | (simp; done) | (simp [*]; done)), H', ⟨by first | omega | exact Nat.le_refl _⟩, ⟨by (with_reducible repeat (first | apply Kd.R_alloc | apply Kd.R_drewN | apply Kd.R_drew)); exact Kd.R_mono (Kd.R_far (p := ⟨gb221, 1, none⟩) (Kd.R_far (p := ⟨gb221, 0, none⟩) (Kd.R_types HO220.out BK221.out (by decide)) (fun _ hk => hk.2) (.int .i64 a1_1)) (fun _ hk => hk.2) (.int .i64 a1_2)) (fun _ hk => trivial)⟩, ⟨by (with_reducible repeat (first | refine blk_drewN ?_ _ | refine blk_drew ?_ | refine blk_alloc ?_ _)); refine blk_far ?_ NB212_221.out _; (with_reducible repeat (first | refine blk_drewN ?_ _ | refine blk_drew ?_ | refine blk_alloc ?_ _)); refine blk_far ?_ NB212_221.out _; (with_reducible repeat (first | refine blk_drewN ?_ _ | refine blk_drew ?_ | refine blk_alloc ?_ _)); exact BK212.out⟩, ⟨by (with_reducible repeat (first | refine blk_drewN ?_ _ | refine blk_drew ?_ | refine blk_alloc ?_ _)); refine blk_far ?_ NB213_221.out _; (with_reducible repeat (first | refine blk_drewN ?_ _ | refine blk_drew ?_ | refine blk_alloc ?_ _)); refine blk_far ?_ NB213_221.out _; (with_reducible repeat (first | refine blk_drewN ?_ _ | refine blk_drew ?_ | refine blk_alloc ?_ _)); exact BK213.out⟩, ⟨by (with_reducible repeat (first | refine blk_drewN ?_ _ | refine blk_drew ?_ | refine blk_alloc ?_ _)); refine blk_far ?_ NB214_221.out _; (with_reducible repeat (first | refine blk_drewN ?_ _ | refine blk_drew ?_ | refine blk_alloc ?_ _)); refine blk_far ?_ NB214_221.out _; (with_reducible repeat (first | refine blk_drewN ?_ _ | refine blk_drew ?_ | refine blk_alloc ?_ _)); exact BK214.out⟩, ⟨by (with_reducible repeat (first | refine blk_drewN ?_ _ | refine blk_drew ?_ | refine blk_alloc ?_ _)); refine blk_put (cs := #[.int .i64 a1_1, .int .i64 t217, .slice Ao22 t218.length co22]) ?_ 1 _ rfl; (with_reducible repeat (first | refine blk_drewN ?_ _ | refine blk_drew ?_ | refine blk_alloc ?_ _)); refine blk_put (cs := #[.int .i64 t216, .int .i64 t217, .slice Ao22 t218.length co22]) ?_ 0 _ rfl; (with_reducible repeat (first | refine blk_drewN ?_ _ | refine blk_drew ?_ | refine blk_alloc ?_ _)); exact BK221.out⟩, ⟨xbg⟩⟩
      ·rw [if_neg c39] at H
       have c39b0 : (a1_1 == a0_0) = false := beq_eq_false_iff_ne.mpr c39; have c39b1 : (a1_1 != a0_0) = true := bne_iff_ne.mpr c39
       have H' := aM H
       clear H; have hnb59 := NB213_212.out; have hnc59 := NB212_213.out; have hnb60 := NB213_214.out; have hnc60 := NB214_213.out; have hnb61 := NB213_221.out; have hnc61 := NB221_213.out; have hcz62_0 : w25.cell? ⟨gb213, 0, none⟩ = some (.int .i64 a1_0) := xc BK213 0 rfl; have hcz62_1 : w25.cell? ⟨gb213, 1, none⟩ = some (.int .i64 a1_1) := xc BK213 1 rfl; have hcz62_2 : w25.cell? ⟨gb213, 2, none⟩ = some (.int .i64 a1_2) := xc BK213 2 rfl; have hcz62_3 : w25.cell? ⟨gb213, 3, none⟩ = some (.int .i64 a1_3) := xc BK213 3 rfl; have hcz62_4 : w25.cell? ⟨gb213, 4, none⟩ = some (.int .i64 a1_4) := xc BK213 4 rfl; have hcz62_5 : w25.cell? ⟨gb213, 5, none⟩ = some (.int .i64 a1_5) := xc BK213 5 rfl; have hcz62_6 : w25.cell? ⟨gb213, 6, none⟩ = some (.int .i64 a1_6) := xc BK213 6 rfl; have hcz62_7 : w25.cell? ⟨gb213, 7, none⟩ = some (.int .i64 a1_7) := xc BK213 7 rfl; have hcz62_8 : w25.cell? ⟨gb213, 8, none⟩ = some (.int .i64 a1_8) := xc BK213 8 rfl; have hcz62_9 : w25.cell? ⟨gb213, 9, none⟩ = some (.string a1_9) := xc BK213 9 rfl; have hfz62_0 := blk_frozen BK213.out 0; have hfz62_1 := blk_frozen BK213.out 1; have hfz62_2 := blk_frozen BK213.out 2; have hfz62_3 := blk_frozen BK213.out 3; have hfz62_4 := blk_frozen BK213.out 4; have hfz62_5 := blk_frozen BK213.out 5; have hfz62_6 := blk_frozen BK213.out 6; have hfz62_7 := blk_frozen BK213.out 7; have hfz62_8 := blk_frozen BK213.out 8; have hfz62_9 := blk_frozen BK213.out 9; have hnb63 := NB212_214.out; have hnc63 := NB214_212.out; have hnb64 := NB212_221.out
       have hnc64 := NB221_212.out; have hcz65_0 : w25.cell? ⟨gb212, 0, none⟩ = some (.int .i64 a0_0) := xc BK212 0 rfl; have hcz65_1 : w25.cell? ⟨gb212, 1, none⟩ = some (.int .i64 a0_1) := xc BK212 1 rfl; have hcz65_2 : w25.cell? ⟨gb212, 2, none⟩ = some (.slice A0_2 l0_2.length c0_2) := xc BK212 2 rfl; have hfz65_0 := blk_frozen BK212.out 0; have hfz65_1 := blk_frozen BK212.out 1; have hfz65_2 := blk_frozen BK212.out 2; have hnb66 := NB221_214.out; have hnc66 := NB214_221.out; have hcz67_0 : w25.cell? ⟨gb221, 0, none⟩ = some (.int .i64 t216) := xc BK221 0 rfl; have hcz67_1 : w25.cell? ⟨gb221, 1, none⟩ = some (.int .i64 t217) := xc BK221 1 rfl; have hcz67_2 : w25.cell? ⟨gb221, 2, none⟩ = some (.slice Ao22 t218.length co22) := xc BK221 2 rfl; have hfz67_0 := blk_frozen BK221.out 0; have hfz67_1 := blk_frozen BK221.out 1; have hfz67_2 := blk_frozen BK221.out 2
       go_wp2
       go_meet
       case rel => exact ⟨_, (false), (a1_1), (a1_2), (t218), (.slice Ao22 t218.length co22), (by first | rfl | (simp; done) | (simp [*]; done)), H', ⟨by first | omega | exact Nat.le_refl _⟩, ⟨by (with_reducible repeat (first | apply Kd.R_alloc | apply Kd.R_drewN | apply Kd.R_drew)); exact Kd.R_mono (Kd.R_far (p := ⟨gb221, 1, none⟩) (Kd.R_far (p := ⟨gb221, 0, none⟩) (Kd.R_types HO220.out BK221.out (by decide)) (fun _ hk => hk.2) (.int .i64 a1_1)) (fun _ hk => hk.2) (.int .i64 a1_2)) (fun _ hk => trivial)⟩, ⟨by (with_reducible repeat (first | refine blk_drewN ?_ _ | refine blk_drew ?_ | refine blk_alloc ?_ _)); refine blk_far ?_ NB212_221.out _; (with_reducible repeat (first | refine blk_drewN ?_ _ | refine blk_drew ?_ | refine blk_alloc ?_ _)); refine blk_far ?_ NB212_221.out _; (with_reducible repeat (first | refine blk_drewN ?_ _ | refine blk_drew ?_ | refine blk_alloc ?_ _)); exact BK212.out⟩, ⟨by (with_reducible repeat (first | refine blk_drewN ?_ _ | refine blk_drew ?_ | refine blk_alloc ?_ _)); refine blk_far ?_ NB213_221.out _; (with_reducible repeat (first | refine blk_drewN ?_ _ | refine blk_drew ?_ | refine blk_alloc ?_ _)); refine blk_far ?_ NB213_221.out _; (with_reducible repeat (first | refine blk_drewN ?_ _ | refine blk_drew ?_ | refine blk_alloc ?_ _)); exact BK213.out⟩, ⟨by (with_reducible repeat (first | refine blk_drewN ?_ _ | refine blk_drew ?_ | refine blk_alloc ?_ _)); refine blk_far ?_ NB214_221.out _; (with_reducible repeat (first | refine blk_drewN ?_ _ | refine blk_drew ?_ | refine blk_alloc ?_ _)); refine blk_far ?_ NB214_221.out _; (with_reducible repeat (first | refine blk_drewN ?_ _ | refine blk_drew ?_ | refine blk_alloc ?_ _)); exact BK214.out⟩, ⟨by (with_reducible repeat (first | refine blk_drewN ?_ _ | refine blk_drew ?_ | refine blk_alloc ?_ _)); refine blk_put (cs := #[.int .i64 a1_1, .int .i64 t217, .slice Ao22 t218.length co22]) ?_ 1 _ rfl; (with_reducible repeat (first | refine blk_drewN ?_ _ | refine blk_drew ?_ | refine blk_alloc ?_ _)); refine blk_put (cs := #[.int .i64 t216, .int .i64 t217, .slice Ao22 t218.length co22]) ?_ 0 _ rfl; (with_reducible repeat (first | refine blk_drewN ?_ _ | refine blk_drew ?_ | refine blk_alloc ?_ _)); exact BK221.out⟩, ⟨xbg⟩⟩
    ·replace c28 := Bool.eq_false_iff.mpr c28
     subst c28
     have H1 : (spec_HardApply.j0 k false a0_0 a0_1 l0_2 a1_1 a1_2 t218) = some (r1, r2, r3, r4) := by rw [if_neg (show ¬ (false = true) by decide)] at H; exact H
     clear H; have H := H1; clear H1
     have H' := aM H
     clear H; have hnb68 := NB213_212.out; have hnc68 := NB212_213.out; have hnb69 := NB213_214.out; have hnc69 := NB214_213.out; have hnb70 := NB213_221.out; have hnc70 := NB221_213.out; have hcz71_0 : w25.cell? ⟨gb213, 0, none⟩ = some (.int .i64 a1_0) := xc BK213 0 rfl; have hcz71_1 : w25.cell? ⟨gb213, 1, none⟩ = some (.int .i64 a1_1) := xc BK213 1 rfl; have hcz71_2 : w25.cell? ⟨gb213, 2, none⟩ = some (.int .i64 a1_2) := xc BK213 2 rfl; have hcz71_3 : w25.cell? ⟨gb213, 3, none⟩ = some (.int .i64 a1_3) := xc BK213 3 rfl; have hcz71_4 : w25.cell? ⟨gb213, 4, none⟩ = some (.int .i64 a1_4) := xc BK213 4 rfl; have hcz71_5 : w25.cell? ⟨gb213, 5, none⟩ = some (.int .i64 a1_5) := xc BK213 5 rfl; have hcz71_6 : w25.cell? ⟨gb213, 6, none⟩ = some (.int .i64 a1_6) := xc BK213 6 rfl; have hcz71_7 : w25.cell? ⟨gb213, 7, none⟩ = some (.int .i64 a1_7) := xc BK213 7 rfl; have hcz71_8 : w25.cell? ⟨gb213, 8, none⟩ = some (.int .i64 a1_8) := xc BK213 8 rfl; have hcz71_9 : w25.cell? ⟨gb213, 9, none⟩ = some (.string a1_9) := xc BK213 9 rfl; have hfz71_0 := blk_frozen BK213.out 0; have hfz71_1 := blk_frozen BK213.out 1; have hfz71_2 := blk_frozen BK213.out 2; have hfz71_3 := blk_frozen BK213.out 3; have hfz71_4 := blk_frozen BK213.out 4; have hfz71_5 := blk_frozen BK213.out 5; have hfz71_6 := blk_frozen BK213.out 6; have hfz71_7 := blk_frozen BK213.out 7; have hfz71_8 := blk_frozen BK213.out 8; have hfz71_9 := blk_frozen BK213.out 9; have hnb72 := NB221_212.out; have hnc72 := NB212_221.out; have hnb73 := NB221_214.out
     have hnc73 := NB214_221.out; have hcz74_0 : w25.cell? ⟨gb221, 0, none⟩ = some (.int .i64 t216) := xc BK221 0 rfl; have hcz74_1 : w25.cell? ⟨gb221, 1, none⟩ = some (.int .i64 t217) := xc BK221 1 rfl; have hcz74_2 : w25.cell? ⟨gb221, 2, none⟩ = some (.slice Ao22 t218.length co22) := xc BK221 2 rfl; have hfz74_0 := blk_frozen BK221.out 0; have hfz74_1 := blk_frozen BK221.out 1; have hfz74_2 := blk_frozen BK221.out 2
     go_wp2
     go_meet
     case rel => exact ⟨_, (false), (a1_1), (a1_2), (t218), (.slice Ao22 t218.length co22), (by first | rfl | (simp; done) | (simp [*]; done)), H', ⟨by first | omega | exact Nat.le_refl _⟩, ⟨by (with_reducible repeat (first | apply Kd.R_alloc | apply Kd.R_drewN | apply Kd.R_drew)); exact Kd.R_mono (Kd.R_far (p := ⟨gb221, 1, none⟩) (Kd.R_far (p := ⟨gb221, 0, none⟩) (Kd.R_types HO220.out BK221.out (by decide)) (fun _ hk => hk.2) (.int .i64 a1_1)) (fun _ hk => hk.2) (.int .i64 a1_2)) (fun _ hk => trivial)⟩, ⟨by (with_reducible repeat (first | refine blk_drewN ?_ _ | refine blk_drew ?_ | refine blk_alloc ?_ _)); refine blk_far ?_ NB212_221.out _; (with_reducible repeat (first | refine blk_drewN ?_ _ | refine blk_drew ?_ | refine blk_alloc ?_ _)); refine blk_far ?_ NB212_221.out _; (with_reducible repeat (first | refine blk_drewN ?_ _ | refine blk_drew ?_ | refine blk_alloc ?_ _)); exact BK212.out⟩, ⟨by (with_reducible repeat (first | refine blk_drewN ?_ _ | refine blk_drew ?_ | refine blk_alloc ?_ _)); refine blk_far ?_ NB213_221.out _; (with_reducible repeat (first | refine blk_drewN ?_ _ | refine blk_drew ?_ | refine blk_alloc ?_ _)); refine blk_far ?_ NB213_221.out _; (with_reducible repeat (first | refine blk_drewN ?_ _ | refine blk_drew ?_ | refine blk_alloc ?_ _)); exact BK213.out⟩, ⟨by (with_reducible repeat (first | refine blk_drewN ?_ _ | refine blk_drew ?_ | refine blk_alloc ?_ _)); refine blk_far ?_ NB214_221.out _; (with_reducible repeat (first | refine blk_drewN ?_ _ | refine blk_drew ?_ | refine blk_alloc ?_ _)); refine blk_far ?_ NB214_221.out _; (with_reducible repeat (first | refine blk_drewN ?_ _ | refine blk_drew ?_ | refine blk_alloc ?_ _)); exact BK214.out⟩, ⟨by (with_reducible repeat (first | refine blk_drewN ?_ _ | refine blk_drew ?_ | refine blk_alloc ?_ _)); refine blk_put (cs := #[.int .i64 a1_1, .int .i64 t217, .slice Ao22 t218.length co22]) ?_ 1 _ rfl; (with_reducible repeat (first | refine blk_drewN ?_ _ | refine blk_drew ?_ | refine blk_alloc ?_ _)); refine blk_put (cs := #[.int .i64 t216, .int .i64 t217, .slice Ao22 t218.length co22]) ?_ 0 _ rfl; (with_reducible repeat (first | refine blk_drewN ?_ _ | refine blk_drew ?_ | refine blk_alloc ?_ _)); exact BK221.out⟩, ⟨xbg⟩⟩
   ·rw [if_neg c27] at H
    have c27b0 : (a1_0 == 1) = false := beq_eq_false_iff_ne.mpr c27; have c27b1 : (a1_0 != 1) = true := bne_iff_ne.mpr c27
    (first | rw [c27b0] | (simp only [i64_w, i32_w]; rw [c27b0]) | skip)
    by_cases c75 : a1_0 = 2
    ·rw [if_pos c75] at H
     have c75b0 : (a1_0 == 2) = true := beq_iff_eq.mpr c75; have c75b1 : (a1_0 != 2) = false := bne_eq_false_iff_eq.mpr c75; clear c75
     by_cases c76 : t222 = true
     ·subst c76
      have H1 : (if t218.length < 2513169434916 then (spec_HardApply.j0 k (a1_3 == (wrap64 ((l0_2.length : Int) + 1))) a0_0 a0_1 l0_2 t216 t217 (t218 ++ [(⟨a1_4, (⟨a1_5, a1_6, a1_7, a1_8, a1_9⟩ : S34)⟩ : S36)])) else (none)) = some (r1, r2, r3, r4) := by rw [if_pos rfl] at H; exact H
      clear H; have H := H1; clear H1
      by_cases c77 : t218.length < 2513169434916
      ·rw [if_pos c77] at H
       have LMc77 := aM c77; clear c77
       obtain ⟨y223, hy223⟩ : ∃ y_ : List (S36), y_ = (t218 ++ [(⟨a1_4, (⟨a1_5, a1_6, a1_7, a1_8, a1_9⟩ : S34)⟩ : S36)]) := ⟨_, rfl⟩
       replace H : (spec_HardApply.j0 k (a1_3 == (wrap64 ((l0_2.length : Int) + 1))) a0_0 a0_1 l0_2 t216 t217 y223) = some (r1, r2, r3, r4) := by first | (rw [hy223]; with_reducible exact H) | (have H2_ := (Option.bind_some _ _).symm.trans H; rw [hy223]; with_reducible exact H2_) | (have H2_ := (Option.bind_some _ _).symm.trans H; with_reducible exact H2_) | with_reducible exact H | (rw [hy223]; exact H) | exact H
       have Ny223 := aM hy223; clear hy223
       have H' := aM H
       clear H; have hnb78 := NB213_212.out; have hnc78 := NB212_213.out; have hnb79 := NB213_214.out; have hnc79 := NB214_213.out; have hnb80 := NB213_221.out; have hnc80 := NB221_213.out; have hcz81_0 : w25.cell? ⟨gb213, 0, none⟩ = some (.int .i64 a1_0) := xc BK213 0 rfl; have hcz81_1 : w25.cell? ⟨gb213, 1, none⟩ = some (.int .i64 a1_1) := xc BK213 1 rfl; have hcz81_2 : w25.cell? ⟨gb213, 2, none⟩ = some (.int .i64 a1_2) := xc BK213 2 rfl; have hcz81_3 : w25.cell? ⟨gb213, 3, none⟩ = some (.int .i64 a1_3) := xc BK213 3 rfl; have hcz81_4 : w25.cell? ⟨gb213, 4, none⟩ = some (.int .i64 a1_4) := xc BK213 4 rfl; have hcz81_5 : w25.cell? ⟨gb213, 5, none⟩ = some (.int .i64 a1_5) := xc BK213 5 rfl; have hcz81_6 : w25.cell? ⟨gb213, 6, none⟩ = some (.int .i64 a1_6) := xc BK213 6 rfl; have hcz81_7 : w25.cell? ⟨gb213, 7, none⟩ = some (.int .i64 a1_7) := xc BK213 7 rfl; have hcz81_8 : w25.cell? ⟨gb213, 8, none⟩ = some (.int .i64 a1_8) := xc BK213 8 rfl; have hcz81_9 : w25.cell? ⟨gb213, 9, none⟩ = some (.string a1_9) := xc BK213 9 rfl; have hfz81_0 := blk_frozen BK213.out 0; have hfz81_1 := blk_frozen BK213.out 1; have hfz81_2 := blk_frozen BK213.out 2; have hfz81_3 := blk_frozen BK213.out 3; have hfz81_4 := blk_frozen BK213.out 4; have hfz81_5 := blk_frozen BK213.out 5; have hfz81_6 := blk_frozen BK213.out 6; have hfz81_7 := blk_frozen BK213.out 7; have hfz81_8 := blk_frozen BK213.out 8; have hfz81_9 := blk_frozen BK213.out 9; have hnb82 := NB212_214.out; have hnc82 := NB214_212.out; have hnb83 := NB212_221.out
       have hnc83 := NB221_212.out; have hcz84_0 : w25.cell? ⟨gb212, 0, none⟩ = some (.int .i64 a0_0) := xc BK212 0 rfl; have hcz84_1 : w25.cell? ⟨gb212, 1, none⟩ = some (.int .i64 a0_1) := xc BK212 1 rfl; have hcz84_2 : w25.cell? ⟨gb212, 2, none⟩ = some (.slice A0_2 l0_2.length c0_2) := xc BK212 2 rfl; have hfz84_0 := blk_frozen BK212.out 0; have hfz84_1 := blk_frozen BK212.out 1; have hfz84_2 := blk_frozen BK212.out 2; have hnb85 := NB221_214.out; have hnc85 := NB214_221.out; have hcz86_0 : w25.cell? ⟨gb221, 0, none⟩ = some (.int .i64 t216) := xc BK221 0 rfl; have hcz86_1 : w25.cell? ⟨gb221, 1, none⟩ = some (.int .i64 t217) := xc BK221 1 rfl; have hcz86_2 : w25.cell? ⟨gb221, 2, none⟩ = some (.slice Ao22 t218.length co22) := xc BK221 2 rfl; have hfz86_0 := blk_frozen BK221.out 0; have hfz86_1 := blk_frozen BK221.out 1; have hfz86_2 := blk_frozen BK221.out 2
       go_wp2_with (first | ((with_reducible refine gate_builtin (b := .append) (xs := #[.tmp 66, .tmp 69]) rfl ?_); (try (refine gate_guard (by rfl) ?_; dsimp only)); at_builtin; refine Kd.R_append k36 (w0 := w) w.heap.size rfl (.tmp 66) (.tmp 69) 26 36 (.agg #[(.int .i64 0), (.int .i64 0), (.int .i64 0), (.int .i64 0), (.int .i64 0), (.string ⟨#[]⟩)]) 56 rfl Try.underlying26 info36 rfl (by decide) (by omega) (.slice Ao22 t218.length co22) t218 (⟨a1_4, (⟨a1_5, a1_6, a1_7, a1_8, a1_9⟩ : S34)⟩ : S36) [.int .i64 a1_4, .int .i64 a1_5, .int .i64 a1_6, .int .i64 a1_7, .int .i64 a1_8, .string a1_9] (fun _ => True) (fun _ => False) rfl rfl ?aP (fun _ hk => hk.elim) ?aF ?aO ?aB ?aS ?aL ?_; (case aP => exact k36_mkM _ _ _ (⟨a1_4, (⟨a1_5, a1_6, a1_7, a1_8, a1_9⟩ : S34)⟩ : S36)); (case aB => exact xbg); (case aF => exact (fun _ _ => trivial)); (case aO => exact (xr HO220)); (case aS => exact (below_size xbg)); (case aL => have := LMc77.out; omega); intro v224 w87 ho hb hg hat; rw [← Ny223.out] at ho; have n0_ := aM (blk_grown (g := gb212) (o := .cells #[.int .i64 a0_0, .int .i64 a0_1, .slice A0_2 l0_2.length c0_2] 28 (0, 0)) xblk hg (Kd.R_ne HO220.out BK212.out (by decide))); have n1_ := aM (blk_grown (g := gb213) (o := .cells #[.int .i64 a1_0, .int .i64 a1_1, .int .i64 a1_2, .int .i64 a1_3, .int .i64 a1_4, .int .i64 a1_5, .int .i64 a1_6, .int .i64 a1_7, .int .i64 a1_8, .string a1_9] 38 (0, 0)) xblk hg (Kd.R_ne HO220.out BK213.out (by decide))); have n2_ := aM (blk_grown (g := gb214) (o := .cells #[.int .i64 0, .int .i64 0, .slice none 0 0] 28 (0, 0)) xblk hg (Kd.R_ne HO220.out BK214.out (by decide))); have n3_ := aM (blk_grown (g := gb221) (o := .cells #[.int .i64 t216, .int .i64 t217, .slice Ao22 t218.length co22] 28 (0, 0)) xblk hg (Kd.R_ne HO220.out BK221.out (by decide))); have n4_ := aM (hb); have n5_ := aM (ho); clear BK212; clear BK213; clear BK214; clear BK221; clear HB; clear HO220; have BK212 := n0_; have BK213 := n1_; have BK214 := n2_; have BK221 := n3_; have HB := n4_; have HO225 := n5_; clear n0_ n1_ n2_ n3_ n4_ n5_; clear ho hb hg hat; obtain ⟨Ao88, co88, eo88⟩ := Kd.R_slice HO225.out; subst eo88; have hcz89_0 : w87.cell? ⟨gb221, 0, none⟩ = some (.int .i64 t216) := xc BK221 0 rfl; have hcz89_1 : w87.cell? ⟨gb221, 1, none⟩ = some (.int .i64 t217) := xc BK221 1 rfl; have hcz89_2 : w87.cell? ⟨gb221, 2, none⟩ = some (.slice Ao22 t218.length co22) := xc BK221 2 rfl; have hfz89_0 := blk_frozen BK221.out 0; have hfz89_1 := blk_frozen BK221.out 1; have hfz89_2 := blk_frozen BK221.out 2))
       go_meet
       case rel => exact ⟨_, ((a1_3 == (wrap64 ((l0_2.length : Int) + 1)))), (t216), (t217), (y223), (.slice Ao88 y223.length co88), (by first | rfl | (simp; done) | (simp [*]; done)), H', ⟨by first | omega | exact Nat.le_refl _⟩, ⟨by (with_reducible repeat (first | apply Kd.R_alloc | apply Kd.R_drewN | apply Kd.R_drew)); exact Kd.R_mono (Kd.R_far (p := ⟨gb221, 2, none⟩) (Kd.R_types HO225.out BK221.out (by decide)) (fun _ hk => hk.2) (.slice Ao88 y223.length co88)) (fun _ hk => trivial)⟩, ⟨by (with_reducible repeat (first | refine blk_drewN ?_ _ | refine blk_drew ?_ | refine blk_alloc ?_ _)); refine blk_far ?_ NB212_221.out _; (with_reducible repeat (first | refine blk_drewN ?_ _ | refine blk_drew ?_ | refine blk_alloc ?_ _)); exact BK212.out⟩, ⟨by (with_reducible repeat (first | refine blk_drewN ?_ _ | refine blk_drew ?_ | refine blk_alloc ?_ _)); refine blk_far ?_ NB213_221.out _; (with_reducible repeat (first | refine blk_drewN ?_ _ | refine blk_drew ?_ | refine blk_alloc ?_ _)); exact BK213.out⟩, ⟨by (with_reducible repeat (first | refine blk_drewN ?_ _ | refine blk_drew ?_ | refine blk_alloc ?_ _)); refine blk_far ?_ NB214_221.out _; (with_reducible repeat (first | refine blk_drewN ?_ _ | refine blk_drew ?_ | refine blk_alloc ?_ _)); exact BK214.out⟩, ⟨by (with_reducible repeat (first | refine blk_drewN ?_ _ | refine blk_drew ?_ | refine blk_alloc ?_ _)); refine blk_put (cs := #[.int .i64 t216, .int .i64 t217, .slice Ao22 t218.length co22]) ?_ 2 _ rfl; (with_reducible repeat (first | refine blk_drewN ?_ _ | refine blk_drew ?_ | refine blk_alloc ?_ _)); exact BK221.out⟩, ⟨xbg⟩⟩
      ·rw [if_neg c77] at H
       exact absurd H (by simp)
     ·replace c76 := Bool.eq_false_iff.mpr c76
      subst c76
      have H1 : (if t218.length < 2513169434916 then (spec_HardApply.j0 k false a0_0 a0_1 l0_2 t216 t217 (t218 ++ [(⟨a1_4, (⟨a1_5, a1_6, a1_7, a1_8, a1_9⟩ : S34)⟩ : S36)])) else (none)) = some (r1, r2, r3, r4) := by rw [if_neg (show ¬ (false = true) by decide)] at H; exact H
      clear H; have H := H1; clear H1
      by_cases c90 : t218.length < 2513169434916
      ·rw [if_pos c90] at H
       have LMc90 := aM c90; clear c90
       obtain ⟨y226, hy226⟩ : ∃ y_ : List (S36), y_ = (t218 ++ [(⟨a1_4, (⟨a1_5, a1_6, a1_7, a1_8, a1_9⟩ : S34)⟩ : S36)]) := ⟨_, rfl⟩
       replace H : (spec_HardApply.j0 k false a0_0 a0_1 l0_2 t216 t217 y226) = some (r1, r2, r3, r4) := by first | (rw [hy226]; with_reducible exact H) | (have H2_ := (Option.bind_some _ _).symm.trans H; rw [hy226]; with_reducible exact H2_) | (have H2_ := (Option.bind_some _ _).symm.trans H; with_reducible exact H2_) | with_reducible exact H | (rw [hy226]; exact H) | exact H
       have Ny226 := aM hy226; clear hy226
       have H' := aM H
       clear H; have hnb91 := NB221_212.out; have hnc91 := NB212_221.out; have hnb92 := NB221_213.out; have hnc92 := NB213_221.out; have hnb93 := NB221_214.out; have hnc93 := NB214_221.out; have hcz94_0 : w25.cell? ⟨gb221, 0, none⟩ = some (.int .i64 t216) := xc BK221 0 rfl; have hcz94_1 : w25.cell? ⟨gb221, 1, none⟩ = some (.int .i64 t217) := xc BK221 1 rfl; have hcz94_2 : w25.cell? ⟨gb221, 2, none⟩ = some (.slice Ao22 t218.length co22) := xc BK221 2 rfl; have hfz94_0 := blk_frozen BK221.out 0; have hfz94_1 := blk_frozen BK221.out 1; have hfz94_2 := blk_frozen BK221.out 2; have hnb95 := NB213_212.out; have hnc95 := NB212_213.out; have hnb96 := NB213_214.out; have hnc96 := NB214_213.out; have hcz97_0 : w25.cell? ⟨gb213, 0, none⟩ = some (.int .i64 a1_0) := xc BK213 0 rfl; have hcz97_1 : w25.cell? ⟨gb213, 1, none⟩ = some (.int .i64 a1_1) := xc BK213 1 rfl; have hcz97_2 : w25.cell? ⟨gb213, 2, none⟩ = some (.int .i64 a1_2) := xc BK213 2 rfl; have hcz97_3 : w25.cell? ⟨gb213, 3, none⟩ = some (.int .i64 a1_3) := xc BK213 3 rfl; have hcz97_4 : w25.cell? ⟨gb213, 4, none⟩ = some (.int .i64 a1_4) := xc BK213 4 rfl; have hcz97_5 : w25.cell? ⟨gb213, 5, none⟩ = some (.int .i64 a1_5) := xc BK213 5 rfl; have hcz97_6 : w25.cell? ⟨gb213, 6, none⟩ = some (.int .i64 a1_6) := xc BK213 6 rfl; have hcz97_7 : w25.cell? ⟨gb213, 7, none⟩ = some (.int .i64 a1_7) := xc BK213 7 rfl; have hcz97_8 : w25.cell? ⟨gb213, 8, none⟩ = some (.int .i64 a1_8) := xc BK213 8 rfl; have hcz97_9 : w25.cell? ⟨gb213, 9, none⟩ = some (.string a1_9) := xc BK213 9 rfl
       have hfz97_0 := blk_frozen BK213.out 0; have hfz97_1 := blk_frozen BK213.out 1; have hfz97_2 := blk_frozen BK213.out 2; have hfz97_3 := blk_frozen BK213.out 3; have hfz97_4 := blk_frozen BK213.out 4; have hfz97_5 := blk_frozen BK213.out 5; have hfz97_6 := blk_frozen BK213.out 6; have hfz97_7 := blk_frozen BK213.out 7; have hfz97_8 := blk_frozen BK213.out 8; have hfz97_9 := blk_frozen BK213.out 9
       go_wp2_with (first | ((with_reducible refine gate_builtin (b := .append) (xs := #[.tmp 66, .tmp 69]) rfl ?_); (try (refine gate_guard (by rfl) ?_; dsimp only)); at_builtin; refine Kd.R_append k36 (w0 := w) w.heap.size rfl (.tmp 66) (.tmp 69) 26 36 (.agg #[(.int .i64 0), (.int .i64 0), (.int .i64 0), (.int .i64 0), (.int .i64 0), (.string ⟨#[]⟩)]) 56 rfl Try.underlying26 info36 rfl (by decide) (by omega) (.slice Ao22 t218.length co22) t218 (⟨a1_4, (⟨a1_5, a1_6, a1_7, a1_8, a1_9⟩ : S34)⟩ : S36) [.int .i64 a1_4, .int .i64 a1_5, .int .i64 a1_6, .int .i64 a1_7, .int .i64 a1_8, .string a1_9] (fun _ => True) (fun _ => False) rfl rfl ?aP (fun _ hk => hk.elim) ?aF ?aO ?aB ?aS ?aL ?_; (case aP => exact k36_mkM _ _ _ (⟨a1_4, (⟨a1_5, a1_6, a1_7, a1_8, a1_9⟩ : S34)⟩ : S36)); (case aB => exact xbg); (case aF => exact (fun _ _ => trivial)); (case aO => exact (xr HO220)); (case aS => exact (below_size xbg)); (case aL => have := LMc90.out; omega); intro v227 w98 ho hb hg hat; rw [← Ny226.out] at ho; have n0_ := aM (blk_grown (g := gb212) (o := .cells #[.int .i64 a0_0, .int .i64 a0_1, .slice A0_2 l0_2.length c0_2] 28 (0, 0)) xblk hg (Kd.R_ne HO220.out BK212.out (by decide))); have n1_ := aM (blk_grown (g := gb213) (o := .cells #[.int .i64 a1_0, .int .i64 a1_1, .int .i64 a1_2, .int .i64 a1_3, .int .i64 a1_4, .int .i64 a1_5, .int .i64 a1_6, .int .i64 a1_7, .int .i64 a1_8, .string a1_9] 38 (0, 0)) xblk hg (Kd.R_ne HO220.out BK213.out (by decide))); have n2_ := aM (blk_grown (g := gb214) (o := .cells #[.int .i64 0, .int .i64 0, .slice none 0 0] 28 (0, 0)) xblk hg (Kd.R_ne HO220.out BK214.out (by decide))); have n3_ := aM (blk_grown (g := gb221) (o := .cells #[.int .i64 t216, .int .i64 t217, .slice Ao22 t218.length co22] 28 (0, 0)) xblk hg (Kd.R_ne HO220.out BK221.out (by decide))); have n4_ := aM (hb); have n5_ := aM (ho); clear BK212; clear BK213; clear BK214; clear BK221; clear HB; clear HO220; have BK212 := n0_; have BK213 := n1_; have BK214 := n2_; have BK221 := n3_; have HB := n4_; have HO228 := n5_; clear n0_ n1_ n2_ n3_ n4_ n5_; clear ho hb hg hat; obtain ⟨Ao99, co99, eo99⟩ := Kd.R_slice HO228.out; subst eo99; have hcz100_0 : w98.cell? ⟨gb221, 0, none⟩ = some (.int .i64 t216) := xc BK221 0 rfl; have hcz100_1 : w98.cell? ⟨gb221, 1, none⟩ = some (.int .i64 t217) := xc BK221 1 rfl; have hcz100_2 : w98.cell? ⟨gb221, 2, none⟩ = some (.slice Ao22 t218.length co22) := xc BK221 2 rfl; have hfz100_0 := blk_frozen BK221.out 0; have hfz100_1 := blk_frozen BK221.out 1; have hfz100_2 := blk_frozen BK221.out 2))
       go_meet
       case rel => exact ⟨_, (false), (t216), (t217), (y226), (.slice Ao99 y226.length co99), (by first | rfl | (simp; done) | (simp [*]; done)), H', ⟨by first | omega | exact Nat.le_refl _⟩, ⟨by (with_reducible repeat (first | apply Kd.R_alloc | apply Kd.R_drewN | apply Kd.R_drew)); exact Kd.R_mono (Kd.R_far (p := ⟨gb221, 2, none⟩) (Kd.R_types HO228.out BK221.out (by decide)) (fun _ hk => hk.2) (.slice Ao99 y226.length co99)) (fun _ hk => trivial)⟩, ⟨by (with_reducible repeat (first | refine blk_drewN ?_ _ | refine blk_drew ?_ | refine blk_alloc ?_ _)); refine blk_far ?_ NB212_221.out _; (with_reducible repeat (first | refine blk_drewN ?_ _ | refine blk_drew ?_ | refine blk_alloc ?_ _)); exact BK212.out⟩, ⟨by (with_reducible repeat (first | refine blk_drewN ?_ _ | refine blk_drew ?_ | refine blk_alloc ?_ _)); refine blk_far ?_ NB213_221.out _; (with_reducible repeat (first | refine blk_drewN ?_ _ | refine blk_drew ?_ | refine blk_alloc ?_ _)); exact BK213.out⟩, ⟨by (with_reducible repeat (first | refine blk_drewN ?_ _ | refine blk_drew ?_ | refine blk_alloc ?_ _)); refine blk_far ?_ NB214_221.out _; (with_reducible repeat (first | refine blk_drewN ?_ _ | refine blk_drew ?_ | refine blk_alloc ?_ _)); exact BK214.out⟩, ⟨by (with_reducible repeat (first | refine blk_drewN ?_ _ | refine blk_drew ?_ | refine blk_alloc ?_ _)); refine blk_put (cs := #[.int .i64 t216, .int .i64 t217, .slice Ao22 t218.length co22]) ?_ 2 _ rfl; (with_reducible repeat (first | refine blk_drewN ?_ _ | refine blk_drew ?_ | refine blk_alloc ?_ _)); exact BK221.out⟩, ⟨xbg⟩⟩
      ·rw [if_neg c90] at H
       exact absurd H (by simp)
    ·rw [if_neg c75] at H
     have c75b0 : (a1_0 == 2) = false := beq_eq_false_iff_ne.mpr c75; have c75b1 : (a1_0 != 2) = true := bne_iff_ne.mpr c75
     by_cases c101 : a1_0 = 3
     ·rw [if_pos c101] at H
      have c101b0 : (a1_0 == 3) = true := beq_iff_eq.mpr c101; have c101b1 : (a1_0 != 3) = false := bne_eq_false_iff_eq.mpr c101; clear c101
      by_cases c102 : t222 = true
      ·subst c102
       have H1 : (if a1_3 ≤ (l0_2.length : Int) then (if 0 ≤ a1_3 then (if a1_3 ≤ (t218.length : Int) then (spec_HardApply.j0 k (decide (a1_3 ≤ (l0_2.length : Int))) a0_0 a0_1 l0_2 t216 t217 (t218.take (a1_3 : Int).toNat)) else (none)) else (none)) else (spec_HardApply.j0 k (decide (a1_3 ≤ (l0_2.length : Int))) a0_0 a0_1 l0_2 t216 t217 t218)) = some (r1, r2, r3, r4) := by rw [if_pos rfl] at H; exact H
       clear H; have H := H1; clear H1
       by_cases c103 : a1_3 ≤ (l0_2.length : Int)
       ·rw [if_pos c103] at H
        have c103b0 : decide (a1_3 ≤ (l0_2.length : Int)) = true := decide_eq_true c103; clear c103
        by_cases c104 : 0 ≤ a1_3
        ·rw [if_pos c104] at H
         have c104b0 := eq_true c104; have c104b1 : decide (0 ≤ a1_3) = true := decide_eq_true c104; clear c104
         by_cases c105 : a1_3 ≤ (t218.length : Int)
         ·rw [if_pos c105] at H
          have c105b0 := eq_true c105; have c105b1 : decide (a1_3 ≤ (t218.length : Int)) = true := decide_eq_true c105; clear c105
          obtain ⟨y229, hy229⟩ : ∃ y_ : List (S36), y_ = (t218.take (a1_3 : Int).toNat) := ⟨_, rfl⟩
          replace H : (spec_HardApply.j0 k (decide (a1_3 ≤ (l0_2.length : Int))) a0_0 a0_1 l0_2 t216 t217 y229) = some (r1, r2, r3, r4) := by first | (rw [hy229]; with_reducible exact H) | (have H2_ := (Option.bind_some _ _).symm.trans H; rw [hy229]; with_reducible exact H2_) | (have H2_ := (Option.bind_some _ _).symm.trans H; with_reducible exact H2_) | with_reducible exact H | (rw [hy229]; exact H) | exact H
          have Ny229 := aM hy229; clear hy229
          have H' := aM H
          clear H; have hnb106 := NB213_212.out; have hnc106 := NB212_213.out; have hnb107 := NB213_214.out; have hnc107 := NB214_213.out; have hnb108 := NB213_221.out; have hnc108 := NB221_213.out; have hcz109_0 : w25.cell? ⟨gb213, 0, none⟩ = some (.int .i64 a1_0) := xc BK213 0 rfl; have hcz109_1 : w25.cell? ⟨gb213, 1, none⟩ = some (.int .i64 a1_1) := xc BK213 1 rfl; have hcz109_2 : w25.cell? ⟨gb213, 2, none⟩ = some (.int .i64 a1_2) := xc BK213 2 rfl; have hcz109_3 : w25.cell? ⟨gb213, 3, none⟩ = some (.int .i64 a1_3) := xc BK213 3 rfl; have hcz109_4 : w25.cell? ⟨gb213, 4, none⟩ = some (.int .i64 a1_4) := xc BK213 4 rfl; have hcz109_5 : w25.cell? ⟨gb213, 5, none⟩ = some (.int .i64 a1_5) := xc BK213 5 rfl; have hcz109_6 : w25.cell? ⟨gb213, 6, none⟩ = some (.int .i64 a1_6) := xc BK213 6 rfl; have hcz109_7 : w25.cell? ⟨gb213, 7, none⟩ = some (.int .i64 a1_7) := xc BK213 7 rfl; have hcz109_8 : w25.cell? ⟨gb213, 8, none⟩ = some (.int .i64 a1_8) := xc BK213 8 rfl; have hcz109_9 : w25.cell? ⟨gb213, 9, none⟩ = some (.string a1_9) := xc BK213 9 rfl; have hfz109_0 := blk_frozen BK213.out 0; have hfz109_1 := blk_frozen BK213.out 1; have hfz109_2 := blk_frozen BK213.out 2; have hfz109_3 := blk_frozen BK213.out 3; have hfz109_4 := blk_frozen BK213.out 4; have hfz109_5 := blk_frozen BK213.out 5; have hfz109_6 := blk_frozen BK213.out 6; have hfz109_7 := blk_frozen BK213.out 7; have hfz109_8 := blk_frozen BK213.out 8; have hfz109_9 := blk_frozen BK213.out 9; have hnb110 := NB212_214.out; have hnc110 := NB214_212.out
          have hnb111 := NB212_221.out; have hnc111 := NB221_212.out; have hcz112_0 : w25.cell? ⟨gb212, 0, none⟩ = some (.int .i64 a0_0) := xc BK212 0 rfl; have hcz112_1 : w25.cell? ⟨gb212, 1, none⟩ = some (.int .i64 a0_1) := xc BK212 1 rfl; have hcz112_2 : w25.cell? ⟨gb212, 2, none⟩ = some (.slice A0_2 l0_2.length c0_2) := xc BK212 2 rfl; have hfz112_0 := blk_frozen BK212.out 0; have hfz112_1 := blk_frozen BK212.out 1; have hfz112_2 := blk_frozen BK212.out 2; have hnb113 := NB221_214.out; have hnc113 := NB214_221.out; have hcz114_0 : w25.cell? ⟨gb221, 0, none⟩ = some (.int .i64 t216) := xc BK221 0 rfl; have hcz114_1 : w25.cell? ⟨gb221, 1, none⟩ = some (.int .i64 t217) := xc BK221 1 rfl; have hcz114_2 : w25.cell? ⟨gb221, 2, none⟩ = some (.slice Ao22 t218.length co22) := xc BK221 2 rfl; have hfz114_0 := blk_frozen BK221.out 0; have hfz114_1 := blk_frozen BK221.out 1; have hfz114_2 := blk_frozen BK221.out 2; have q115 : (a1_3 : Int) ≤ ((t218.length : Int) : Int) := of_decide_eq_true (by first | (with_reducible assumption) | assumption)
          obtain ⟨i0115, hi0115, _, hsz115, _⟩ := info_parts info36
          have hcut115 := cut_to (P := Try.prog) 26 36 .i64 Try.underlying26 hi0115 Ao22 t218.length co22 a1_3 (of_decide_eq_true (by first | (with_reducible assumption) | assumption)) q115 (Kd.R_reads' HO220.out).2.1; have hr115 := Kd.R_take (m := (a1_3 : Int).toNat) HO220.out (by omega); have hy115 : y229.length = (a1_3 : Int).toNat := (by rw [Ny229.out, List.length_take]; omega)
          rw [← Ny229.out] at hr115
          rw [← hy115] at hr115 hcut115
          clear hy115 hi0115 hsz115 HO220; have HO231 := aM hr115; clear hr115; replace q115 := eq_true q115
          go_wp2
          go_meet
          case rel => exact ⟨_, (decide (a1_3 ≤ (l0_2.length : Int))), (t216), (t217), (y229), (.slice Ao22 y229.length co22), (by first | rfl | (simp; done) | (simp [*]; done)), H', ⟨by first | omega | exact Nat.le_refl _⟩, ⟨by (with_reducible repeat (first | apply Kd.R_alloc | apply Kd.R_drewN | apply Kd.R_drew)); exact Kd.R_mono (Kd.R_far (p := ⟨gb221, 2, none⟩) (Kd.R_types HO231.out BK221.out (by decide)) (fun _ hk => hk.2) (.slice Ao22 y229.length co22)) (fun _ hk => trivial)⟩, ⟨by (with_reducible repeat (first | refine blk_drewN ?_ _ | refine blk_drew ?_ | refine blk_alloc ?_ _)); refine blk_far ?_ NB212_221.out _; (with_reducible repeat (first | refine blk_drewN ?_ _ | refine blk_drew ?_ | refine blk_alloc ?_ _)); exact BK212.out⟩, ⟨by (with_reducible repeat (first | refine blk_drewN ?_ _ | refine blk_drew ?_ | refine blk_alloc ?_ _)); refine blk_far ?_ NB213_221.out _; (with_reducible repeat (first | refine blk_drewN ?_ _ | refine blk_drew ?_ | refine blk_alloc ?_ _)); exact BK213.out⟩, ⟨by (with_reducible repeat (first | refine blk_drewN ?_ _ | refine blk_drew ?_ | refine blk_alloc ?_ _)); refine blk_far ?_ NB214_221.out _; (with_reducible repeat (first | refine blk_drewN ?_ _ | refine blk_drew ?_ | refine blk_alloc ?_ _)); exact BK214.out⟩, ⟨by (with_reducible repeat (first | refine blk_drewN ?_ _ | refine blk_drew ?_ | refine blk_alloc ?_ _)); refine blk_put (cs := #[.int .i64 t216, .int .i64 t217, .slice Ao22 t218.length co22]) ?_ 2 _ rfl; (with_reducible repeat (first | refine blk_drewN ?_ _ | refine blk_drew ?_ | refine blk_alloc ?_ _)); exact BK221.out⟩, ⟨xbg⟩⟩
         ·rw [if_neg c105] at H
          exact absurd H (by simp)
        ·rw [if_neg c104] at H
         exact absurd H (by simp)
       ·rw [if_neg c103] at H
        have c103b0 : decide (a1_3 ≤ (l0_2.length : Int)) = false := decide_eq_false c103; clear c103
        have H' := aM H
        clear H; have hnb116 := NB213_212.out; have hnc116 := NB212_213.out; have hnb117 := NB213_214.out; have hnc117 := NB214_213.out; have hnb118 := NB213_221.out; have hnc118 := NB221_213.out; have hcz119_0 : w25.cell? ⟨gb213, 0, none⟩ = some (.int .i64 a1_0) := xc BK213 0 rfl; have hcz119_1 : w25.cell? ⟨gb213, 1, none⟩ = some (.int .i64 a1_1) := xc BK213 1 rfl; have hcz119_2 : w25.cell? ⟨gb213, 2, none⟩ = some (.int .i64 a1_2) := xc BK213 2 rfl; have hcz119_3 : w25.cell? ⟨gb213, 3, none⟩ = some (.int .i64 a1_3) := xc BK213 3 rfl; have hcz119_4 : w25.cell? ⟨gb213, 4, none⟩ = some (.int .i64 a1_4) := xc BK213 4 rfl; have hcz119_5 : w25.cell? ⟨gb213, 5, none⟩ = some (.int .i64 a1_5) := xc BK213 5 rfl; have hcz119_6 : w25.cell? ⟨gb213, 6, none⟩ = some (.int .i64 a1_6) := xc BK213 6 rfl; have hcz119_7 : w25.cell? ⟨gb213, 7, none⟩ = some (.int .i64 a1_7) := xc BK213 7 rfl; have hcz119_8 : w25.cell? ⟨gb213, 8, none⟩ = some (.int .i64 a1_8) := xc BK213 8 rfl; have hcz119_9 : w25.cell? ⟨gb213, 9, none⟩ = some (.string a1_9) := xc BK213 9 rfl; have hfz119_0 := blk_frozen BK213.out 0; have hfz119_1 := blk_frozen BK213.out 1; have hfz119_2 := blk_frozen BK213.out 2; have hfz119_3 := blk_frozen BK213.out 3; have hfz119_4 := blk_frozen BK213.out 4; have hfz119_5 := blk_frozen BK213.out 5; have hfz119_6 := blk_frozen BK213.out 6; have hfz119_7 := blk_frozen BK213.out 7; have hfz119_8 := blk_frozen BK213.out 8; have hfz119_9 := blk_frozen BK213.out 9; have hnb120 := NB212_214.out; have hnc120 := NB214_212.out
        have hnb121 := NB212_221.out; have hnc121 := NB221_212.out; have hcz122_0 : w25.cell? ⟨gb212, 0, none⟩ = some (.int .i64 a0_0) := xc BK212 0 rfl; have hcz122_1 : w25.cell? ⟨gb212, 1, none⟩ = some (.int .i64 a0_1) := xc BK212 1 rfl; have hcz122_2 : w25.cell? ⟨gb212, 2, none⟩ = some (.slice A0_2 l0_2.length c0_2) := xc BK212 2 rfl; have hfz122_0 := blk_frozen BK212.out 0; have hfz122_1 := blk_frozen BK212.out 1; have hfz122_2 := blk_frozen BK212.out 2
        go_wp2
        go_meet
        case rel => exact ⟨_, (decide (a1_3 ≤ (l0_2.length : Int))), (t216), (t217), (t218), (.slice Ao22 t218.length co22), (by first | rfl | (simp; done) | (simp [*]; done)), H', ⟨by first | omega | exact Nat.le_refl _⟩, ⟨by (with_reducible repeat (first | apply Kd.R_alloc | apply Kd.R_drewN | apply Kd.R_drew)); exact HO220.out⟩, ⟨xblk⟩, ⟨xblk⟩, ⟨xblk⟩, ⟨xblk⟩, ⟨xbg⟩⟩
      ·replace c102 := Bool.eq_false_iff.mpr c102
       subst c102
       have H1 : (spec_HardApply.j0 k false a0_0 a0_1 l0_2 t216 t217 t218) = some (r1, r2, r3, r4) := by rw [if_neg (show ¬ (false = true) by decide)] at H; exact H
       clear H; have H := H1; clear H1
       have H' := aM H
       clear H
       go_wp2
       go_meet
       case rel => exact ⟨_, (false), (t216), (t217), (t218), (.slice Ao22 t218.length co22), (by first | rfl | (simp; done) | (simp [*]; done)), H', ⟨by first | omega | exact Nat.le_refl _⟩, ⟨by (with_reducible repeat (first | apply Kd.R_alloc | apply Kd.R_drewN | apply Kd.R_drew)); exact HO220.out⟩, ⟨xblk⟩, ⟨xblk⟩, ⟨xblk⟩, ⟨xblk⟩, ⟨xbg⟩⟩
     ·rw [if_neg c101] at H
      have c101b0 : (a1_0 == 3) = false := beq_eq_false_iff_ne.mpr c101; have c101b1 : (a1_0 != 3) = true := bne_iff_ne.mpr c101
      have H' := aM H
      clear H
      go_wp2
      go_meet
      case rel => exact ⟨_, (t222), (t216), (t217), (t218), (.slice Ao22 t218.length co22), (by first | rfl | (simp; done) | (simp [*]; done)), H', ⟨by first | omega | exact Nat.le_refl _⟩, ⟨by (with_reducible repeat (first | apply Kd.R_alloc | apply Kd.R_drewN | apply Kd.R_drew)); exact HO220.out⟩, ⟨xblk⟩, ⟨xblk⟩, ⟨xblk⟩, ⟨xblk⟩, ⟨xbg⟩⟩
  case rest =>
   clear HC7
   try clear c1
   try clear q1
   try clear c2
   try clear p2
   try clear c3
   try clear c4
   try clear c5
   try clear c6
   try clear p6
   try clear c7
   try clear c8
   try clear c9
   try clear c10
   try clear c11
   try clear q11
   try clear c12
   try clear c18
   try clear c19
   try clear c20
   try clear c23
   try clear c27
   try clear c27b0
   try clear c27b1
   try clear c28
   try clear c29
   try clear c29b0
   try clear c30
   try clear c31
   try clear c32
   try clear c34
   try clear c35
   try clear c37
   try clear c39
   try clear c39b0
   try clear c39b1
   try clear c40
   try clear c40b0
   try clear c40b1
   try clear c41
   try clear c42
   try clear c43
   try clear c45
   try clear c46
   try clear c48
   try clear c50
   try clear c51
   try clear c52
   try clear c54
   try clear c55
   try clear c57
   try clear c59
   try clear c60
   try clear c61
   try clear c63
   try clear c64
   try clear p64
   try clear c66
   try clear c68
   try clear c69
   try clear c70
   try clear c72
   try clear c73
   try clear c75
   try clear c75b0
   try clear c75b1
   try clear c76
   try clear c77
   try clear c78
   try clear c79
   try clear c80
   try clear c82
   try clear c83
   try clear c85
   try clear c90
   try clear c91
   try clear c92
   try clear c93
   try clear c95
   try clear c96
   try clear c98
   try clear c99
   try clear c101
   try clear c101b0
   try clear c101b1
   try clear c102
   try clear c103
   try clear c103b0
   try clear c104
   try clear c104b0
   try clear c104b1
   try clear c105
   try clear c105b0
   try clear c105b1
   try clear c106
   try clear c107
   try clear c108
   try clear c110
   try clear c111
   try clear c113
   try clear q115
   try clear c116
   try clear c117
   try clear c118
   try clear c120
   try clear c121
   try clear hcz100_0
   try clear hcz100_1
   try clear hcz100_2
   try clear hcz109_0
   try clear hcz109_1
   try clear hcz109_2
   try clear hcz109_3
   try clear hcz109_4
   try clear hcz109_5
   try clear hcz109_6
   try clear hcz109_7
   try clear hcz109_8
   try clear hcz109_9
   try clear hcz112_0
   try clear hcz112_1
   try clear hcz112_2
   try clear hcz114_0
   try clear hcz114_1
   try clear hcz114_2
   try clear hcz119_0
   try clear hcz119_1
   try clear hcz119_2
   try clear hcz119_3
   try clear hcz119_4
   try clear hcz119_5
   try clear hcz119_6
   try clear hcz119_7
   try clear hcz119_8
   try clear hcz119_9
   try clear hcz122_0
   try clear hcz122_1
   try clear hcz122_2
   try clear hcz13_0
   try clear hcz13_1
   try clear hcz13_2
   try clear hcz15_0
   try clear hcz15_1
   try clear hcz15_2
   try clear hcz21_0
   try clear hcz21_1
   try clear hcz21_2
   try clear hcz24_0
   try clear hcz24_1
   try clear hcz24_2
   try clear hcz24_3
   try clear hcz24_4
   try clear hcz24_5
   try clear hcz24_6
   try clear hcz24_7
   try clear hcz24_8
   try clear hcz24_9
   try clear hcz26_0
   try clear hcz26_1
   try clear hcz26_2
   try clear hcz26_3
   try clear hcz26_4
   try clear hcz26_5
   try clear hcz26_6
   try clear hcz26_7
   try clear hcz26_8
   try clear hcz26_9
   try clear hcz33_0
   try clear hcz33_1
   try clear hcz33_2
   try clear hcz33_3
   try clear hcz33_4
   try clear hcz33_5
   try clear hcz33_6
   try clear hcz33_7
   try clear hcz33_8
   try clear hcz33_9
   try clear hcz36_0
   try clear hcz36_1
   try clear hcz36_2
   try clear hcz38_0
   try clear hcz38_1
   try clear hcz38_2
   try clear hcz44_0
   try clear hcz44_1
   try clear hcz44_2
   try clear hcz44_3
   try clear hcz44_4
   try clear hcz44_5
   try clear hcz44_6
   try clear hcz44_7
   try clear hcz44_8
   try clear hcz44_9
   try clear hcz47_0
   try clear hcz47_1
   try clear hcz47_2
   try clear hcz49_0
   try clear hcz49_1
   try clear hcz49_2
   try clear hcz53_0
   try clear hcz53_1
   try clear hcz53_2
   try clear hcz53_3
   try clear hcz53_4
   try clear hcz53_5
   try clear hcz53_6
   try clear hcz53_7
   try clear hcz53_8
   try clear hcz53_9
   try clear hcz56_0
   try clear hcz56_1
   try clear hcz56_2
   try clear hcz58_0
   try clear hcz58_1
   try clear hcz58_2
   try clear hcz62_0
   try clear hcz62_1
   try clear hcz62_2
   try clear hcz62_3
   try clear hcz62_4
   try clear hcz62_5
   try clear hcz62_6
   try clear hcz62_7
   try clear hcz62_8
   try clear hcz62_9
   try clear hcz65_0
   try clear hcz65_1
   try clear hcz65_2
   try clear hcz67_0
   try clear hcz67_1
   try clear hcz67_2
   try clear hcz71_0
   try clear hcz71_1
   try clear hcz71_2
   try clear hcz71_3
   try clear hcz71_4
   try clear hcz71_5
   try clear hcz71_6
   try clear hcz71_7
   try clear hcz71_8
   try clear hcz71_9
   try clear hcz74_0
   try clear hcz74_1
   try clear hcz74_2
   try clear hcz81_0
   try clear hcz81_1
   try clear hcz81_2
   try clear hcz81_3
   try clear hcz81_4
   try clear hcz81_5
   try clear hcz81_6
   try clear hcz81_7
   try clear hcz81_8
   try clear hcz81_9
   try clear hcz84_0
   try clear hcz84_1
   try clear hcz84_2
   try clear hcz86_0
   try clear hcz86_1
   try clear hcz86_2
   try clear hcz89_0
   try clear hcz89_1
   try clear hcz89_2
   try clear hcz94_0
   try clear hcz94_1
   try clear hcz94_2
   try clear hcz97_0
   try clear hcz97_1
   try clear hcz97_2
   try clear hcz97_3
   try clear hcz97_4
   try clear hcz97_5
   try clear hcz97_6
   try clear hcz97_7
   try clear hcz97_8
   try clear hcz97_9
   try clear hfz100_0
   try clear hfz100_1
   try clear hfz100_2
   try clear hfz109_0
   try clear hfz109_1
   try clear hfz109_2
   try clear hfz109_3
   try clear hfz109_4
   try clear hfz109_5
   try clear hfz109_6
   try clear hfz109_7
   try clear hfz109_8
   try clear hfz109_9
   try clear hfz112_0
   try clear hfz112_1
   try clear hfz112_2
   try clear hfz114_0
   try clear hfz114_1
   try clear hfz114_2
   try clear hfz119_0
   try clear hfz119_1
   try clear hfz119_2
   try clear hfz119_3
   try clear hfz119_4
   try clear hfz119_5
   try clear hfz119_6
   try clear hfz119_7
   try clear hfz119_8
   try clear hfz119_9
   try clear hfz122_0
   try clear hfz122_1
   try clear hfz122_2
   try clear hfz13_0
   try clear hfz13_1
   try clear hfz13_2
   try clear hfz15_0
   try clear hfz15_1
   try clear hfz15_2
   try clear hfz21_0
   try clear hfz21_1
   try clear hfz21_2
   try clear hfz24_0
   try clear hfz24_1
   try clear hfz24_2
   try clear hfz24_3
   try clear hfz24_4
   try clear hfz24_5
   try clear hfz24_6
   try clear hfz24_7
   try clear hfz24_8
   try clear hfz24_9
   try clear hfz26_0
   try clear hfz26_1
   try clear hfz26_2
   try clear hfz26_3
   try clear hfz26_4
   try clear hfz26_5
   try clear hfz26_6
   try clear hfz26_7
   try clear hfz26_8
   try clear hfz26_9
   try clear hfz33_0
   try clear hfz33_1
   try clear hfz33_2
   try clear hfz33_3
   try clear hfz33_4
   try clear hfz33_5
   try clear hfz33_6
   try clear hfz33_7
   try clear hfz33_8
   try clear hfz33_9
   try clear hfz36_0
   try clear hfz36_1
   try clear hfz36_2
   try clear hfz38_0
   try clear hfz38_1
   try clear hfz38_2
   try clear hfz44_0
   try clear hfz44_1
   try clear hfz44_2
   try clear hfz44_3
   try clear hfz44_4
   try clear hfz44_5
   try clear hfz44_6
   try clear hfz44_7
   try clear hfz44_8
   try clear hfz44_9
   try clear hfz47_0
   try clear hfz47_1
   try clear hfz47_2
   try clear hfz49_0
   try clear hfz49_1
   try clear hfz49_2
   try clear hfz53_0
   try clear hfz53_1
   try clear hfz53_2
   try clear hfz53_3
   try clear hfz53_4
   try clear hfz53_5
   try clear hfz53_6
   try clear hfz53_7
   try clear hfz53_8
   try clear hfz53_9
   try clear hfz56_0
   try clear hfz56_1
   try clear hfz56_2
   try clear hfz58_0
   try clear hfz58_1
   try clear hfz58_2
   try clear hfz62_0
   try clear hfz62_1
   try clear hfz62_2
   try clear hfz62_3
   try clear hfz62_4
   try clear hfz62_5
   try clear hfz62_6
   try clear hfz62_7
   try clear hfz62_8
   try clear hfz62_9
   try clear hfz65_0
   try clear hfz65_1
   try clear hfz65_2
   try clear hfz67_0
   try clear hfz67_1
   try clear hfz67_2
   try clear hfz71_0
   try clear hfz71_1
   try clear hfz71_2
   try clear hfz71_3
   try clear hfz71_4
   try clear hfz71_5
   try clear hfz71_6
   try clear hfz71_7
   try clear hfz71_8
   try clear hfz71_9
   try clear hfz74_0
   try clear hfz74_1
   try clear hfz74_2
   try clear hfz81_0
   try clear hfz81_1
   try clear hfz81_2
   try clear hfz81_3
   try clear hfz81_4
   try clear hfz81_5
   try clear hfz81_6
   try clear hfz81_7
   try clear hfz81_8
   try clear hfz81_9
   try clear hfz84_0
   try clear hfz84_1
   try clear hfz84_2
   try clear hfz86_0
   try clear hfz86_1
   try clear hfz86_2
   try clear hfz89_0
   try clear hfz89_1
   try clear hfz89_2
   try clear hfz94_0
   try clear hfz94_1
   try clear hfz94_2
   try clear hfz97_0
   try clear hfz97_1
   try clear hfz97_2
   try clear hfz97_3
   try clear hfz97_4
   try clear hfz97_5
   try clear hfz97_6
   try clear hfz97_7
   try clear hfz97_8
   try clear hfz97_9
   try clear q115
   obtain ⟨kq, x7_6, x222000_6, x222001_6, x222002_6, u222002, rfl, HA, HJ6, HO_222002, BK212, BK213, BK214, BK221, HB⟩ := hcut
   cases kq with
   | zero => exact absurd HA.out (by simp [spec_HardApply.j0])
   | succ kj6 =>
    have H := HA.out; clear HA
    simp only [spec_HardApply.j0] at H
    by_cases c123 : x7_6 = true
    ·subst c123
     have H1 : ((spec_HardOk.f kj6 x222000_6 x222001_6 x222002_6).bind fun t232 => (if t232 = true then (some (x222000_6, x222001_6, x222002_6, true)) else ((spec_l6Copy.f a0_0 a0_1 l0_2).bind fun bt233 => (some (bt233.1, bt233.2.1, bt233.2.2, false))))) = some (r1, r2, r3, r4) := by rw [if_pos rfl] at H; exact H
     clear H; have H := H1; clear H1; replace H := Option.bind_eq_some_iff.mp H
     obtain ⟨t232, A1240, H⟩ := H
     replace H : (if t232 = true then (some (x222000_6, x222001_6, x222002_6, true)) else ((spec_l6Copy.f a0_0 a0_1 l0_2).bind fun bt233 => (some (bt233.1, bt233.2.1, bt233.2.2, false)))) = some (r1, r2, r3, r4) := H; have A124 := aM A1240; clear A1240
     by_cases c125 : t232 = true
     ·subst c125
      have H1 : (some (x222000_6, x222001_6, x222002_6, true)) = some (r1, r2, r3, r4) := by rw [if_pos rfl] at H; exact H
      clear H; have H := H1; clear H1
      simp only [Option.some.injEq, Prod.mk.injEq] at H
      obtain ⟨rfl, rfl, rfl, rfl⟩ := H
      have hnb126 := NB221_212.out; have hnc126 := NB212_221.out; have hnb127 := NB221_213.out; have hnc127 := NB213_221.out; have hnb128 := NB221_214.out; have hnc128 := NB214_221.out; have hcz129_0 : wc.cell? ⟨gb221, 0, none⟩ = some (.int .i64 x222000_6) := xc BK221 0 rfl; have hcz129_1 : wc.cell? ⟨gb221, 1, none⟩ = some (.int .i64 x222001_6) := xc BK221 1 rfl; have hcz129_2 : wc.cell? ⟨gb221, 2, none⟩ = some (u222002) := xc BK221 2 rfl; have hfz129_0 := blk_frozen BK221.out 0; have hfz129_1 := blk_frozen BK221.out 1; have hfz129_2 := blk_frozen BK221.out 2
      obtain ⟨Ao130, co130, eo130⟩ := Kd.R_slice HO_222002.out
      subst eo130
      go_wp2_with (first | (go_at_call 98; (with_reducible refine (spec_HardOk.calls kj6 x222000_6 x222001_6 _ _ x222002_6 true _ ?side1 ?side2 A124.out).mono ?_); (case side1 => repeat (first | exact (Kd.R_reads' HO_222002.out).2.2 | (with_reducible refine Kd.C_alloc ?_ _) | (with_reducible refine Kd.C_drewN ?_ _) | (with_reducible refine Kd.C_drew ?_))); (case side2 => exact (Kd.R_reads' HO_222002.out).2.1); rintro e w131 ⟨rfl, hb⟩; replace HO_222002 := aM (Kd.R_below (xr HO_222002) hb); replace BK212 := xbb BK212 hb; replace BK213 := xbb BK213 hb; replace BK214 := xbb BK214 hb; replace BK221 := xbb BK221 hb; replace HB := xbs hb; (try clear hb); (try clear hb2); (try clear hk); (try clear hi); have hcz132_0 : w131.cell? ⟨gb221, 0, none⟩ = some (.int .i64 x222000_6) := xc BK221 0 rfl; have hcz132_1 : w131.cell? ⟨gb221, 1, none⟩ = some (.int .i64 x222001_6) := xc BK221 1 rfl; have hcz132_2 : w131.cell? ⟨gb221, 2, none⟩ = some (.slice Ao130 x222002_6.length co130) := xc BK221 2 rfl; have hfz132_0 := blk_frozen BK221.out 0; have hfz132_1 := blk_frozen BK221.out 1; have hfz132_2 := blk_frozen BK221.out 2; have hnb133 := NB214_212.out; have hnc133 := NB212_214.out; have hnb134 := NB214_213.out; have hnc134 := NB213_214.out; have hcz135_0 : w131.cell? ⟨gb214, 0, none⟩ = some (.int .i64 0) := xc BK214 0 rfl; have hcz135_1 : w131.cell? ⟨gb214, 1, none⟩ = some (.int .i64 0) := xc BK214 1 rfl; have hcz135_2 : w131.cell? ⟨gb214, 2, none⟩ = some (.slice none 0 0) := xc BK214 2 rfl; have hfz135_0 := blk_frozen BK214.out 0; have hfz135_1 := blk_frozen BK214.out 1; have hfz135_2 := blk_frozen BK214.out 2))
      refine bodyPost_ret (results_ct rfl _ _ gb214 28 #[.int .i64 x222000_6, .int .i64 x222001_6, .slice Ao130 x222002_6.length co130] (0, 0) _ rfl (by (with_reducible repeat (first | refine blk_drewN ?_ _ | refine blk_drew ?_ | refine blk_alloc ?_ _)); refine blk_put (cs := #[.int .i64 x222000_6, .int .i64 x222001_6, .slice none 0 0]) ?_ 2 _ rfl; (with_reducible repeat (first | refine blk_drewN ?_ _ | refine blk_drew ?_ | refine blk_alloc ?_ _)); refine blk_put (cs := #[.int .i64 x222000_6, .int .i64 0, .slice none 0 0]) ?_ 1 _ rfl; (with_reducible repeat (first | refine blk_drewN ?_ _ | refine blk_drew ?_ | refine blk_alloc ?_ _)); refine blk_put (cs := #[.int .i64 0, .int .i64 0, .slice none 0 0]) ?_ 0 _ rfl; (with_reducible repeat (first | refine blk_drewN ?_ _ | refine blk_drew ?_ | refine blk_alloc ?_ _)); exact BK214.out) Try.underlying28 rfl (by kernel_rfl)) rfl ?_
      exact ⟨_, by first | rfl | (simp [errW_none, errW_some] <;> rfl) | (simp [*, errW_none, errW_some] <;> rfl), by (with_reducible repeat (first | apply Kd.R_alloc | apply Kd.R_drewN | apply Kd.R_drew)); exact Kd.R_mono (Kd.R_far (p := ⟨gb214, 2, none⟩) (Kd.R_far (p := ⟨gb214, 1, none⟩) (Kd.R_far (p := ⟨gb214, 0, none⟩) (Kd.R_types HO_222002.out BK214.out (by decide)) (fun _ hk => hk.2) (.int .i64 x222000_6)) (fun _ hk => hk.2) (.int .i64 x222001_6)) (fun _ hk => hk.2) (.slice Ao130 x222002_6.length co130)) (fun _ hk => trivial), xbg⟩
     ·replace c125 := Bool.eq_false_iff.mpr c125
      subst c125
      have H1 : ((spec_l6Copy.f a0_0 a0_1 l0_2).bind fun bt233 => (some (bt233.1, bt233.2.1, bt233.2.2, false))) = some (r1, r2, r3, r4) := by rw [if_neg (show ¬ (false = true) by decide)] at H; exact H
      clear H; have H := H1; clear H1; replace H := Option.bind_eq_some_iff.mp H
      obtain ⟨⟨t233, t234, t235⟩, A1360, H⟩ := H
      replace H : (some (t233, t234, t235, false)) = some (r1, r2, r3, r4) := H; have A136 := aM A1360; clear A1360
      simp only [Option.some.injEq, Prod.mk.injEq] at H
      obtain ⟨rfl, rfl, rfl, rfl⟩ := H
      have hnb137 := NB221_212.out; have hnc137 := NB212_221.out; have hnb138 := NB221_213.out; have hnc138 := NB213_221.out; have hnb139 := NB221_214.out; have hnc139 := NB214_221.out; have hcz140_0 : wc.cell? ⟨gb221, 0, none⟩ = some (.int .i64 x222000_6) := xc BK221 0 rfl; have hcz140_1 : wc.cell? ⟨gb221, 1, none⟩ = some (.int .i64 x222001_6) := xc BK221 1 rfl; have hcz140_2 : wc.cell? ⟨gb221, 2, none⟩ = some (u222002) := xc BK221 2 rfl; have hfz140_0 := blk_frozen BK221.out 0; have hfz140_1 := blk_frozen BK221.out 1; have hfz140_2 := blk_frozen BK221.out 2
      obtain ⟨Ao141, co141, eo141⟩ := Kd.R_slice HO_222002.out
      subst eo141
      go_wp2_with (first | (go_at_call 98; (with_reducible refine (spec_HardOk.calls kj6 x222000_6 x222001_6 _ _ x222002_6 false _ ?side1 ?side2 A124.out).mono ?_); (case side1 => repeat (first | exact (Kd.R_reads' HO_222002.out).2.2 | (with_reducible refine Kd.C_alloc ?_ _) | (with_reducible refine Kd.C_drewN ?_ _) | (with_reducible refine Kd.C_drew ?_))); (case side2 => exact (Kd.R_reads' HO_222002.out).2.1); rintro e w142 ⟨rfl, hb⟩; replace HO_222002 := aM (Kd.R_below (xr HO_222002) hb); replace BK212 := xbb BK212 hb; replace BK213 := xbb BK213 hb; replace BK214 := xbb BK214 hb; replace BK221 := xbb BK221 hb; replace HB := xbs hb; (try clear hb); (try clear hb2); (try clear hk); (try clear hi); have hnb143 := NB212_213.out; have hnc143 := NB213_212.out; have hnb144 := NB212_214.out; have hnc144 := NB214_212.out; have hcz145_0 : w142.cell? ⟨gb212, 0, none⟩ = some (.int .i64 a0_0) := xc BK212 0 rfl; have hcz145_1 : w142.cell? ⟨gb212, 1, none⟩ = some (.int .i64 a0_1) := xc BK212 1 rfl; have hcz145_2 : w142.cell? ⟨gb212, 2, none⟩ = some (.slice A0_2 l0_2.length c0_2) := xc BK212 2 rfl; have hfz145_0 := blk_frozen BK212.out 0; have hfz145_1 := blk_frozen BK212.out 1; have hfz145_2 := blk_frozen BK212.out 2) | ((with_reducible refine gate_callee (f := 99) rfl ?_); refine goesL_ (some 98) rfl rfl Try.func99 (by kernel_rfl) rfl #[.agg #[.int .i64 a0_0, .int .i64 a0_1, .slice A0_2 l0_2.length c0_2]] rfl (by (try simp only [List.map_toArray, List.map_cons, List.map_nil]); first | done | rfl | (simp only [List.length_drop, List.length_take]; rfl)) ?_; (with_reducible refine (spec_l6Copy.calls a0_0 a0_1 _ _ l0_2 t233 t234 t235 _ ?side1 ?side2 A136.out).mono ?_); (case side1 => exact xcb HR0_2); (case side2 => exact HC0_2.out); rintro e w146 ⟨v236, rfl, ho0, hb⟩; refine ⟨_, rfl, ?_⟩; have HO237 := aM (Kd.R_lower (Kd.R_new' ho0 (Kd.R_lt (xr HO_222002))) (below_size xbg)); replace HO_222002 := aM (Kd.R_elder' (xr HO_222002) (Kd.R_base ho0) hb); replace BK212 := xbb BK212 hb; replace BK213 := xbb BK213 hb; replace BK214 := xbb BK214 hb; replace BK221 := xbb BK221 hb; replace HB := xbs hb; (try clear hb); (try clear hb2); (try clear hk); (try clear hi); (try clear ho0); have hnb147 := NB214_213.out; have hnc147 := NB213_214.out; have hcz148_0 : w146.cell? ⟨gb214, 0, none⟩ = some (.int .i64 0) := xc BK214 0 rfl; have hcz148_1 : w146.cell? ⟨gb214, 1, none⟩ = some (.int .i64 0) := xc BK214 1 rfl; have hcz148_2 : w146.cell? ⟨gb214, 2, none⟩ = some (.slice none 0 0) := xc BK214 2 rfl; have hfz148_0 := blk_frozen BK214.out 0; have hfz148_1 := blk_frozen BK214.out 1; have hfz148_2 := blk_frozen BK214.out 2; obtain ⟨Ao149, co149, eo149⟩ := Kd.R_slice HO237.out; subst eo149))
      refine bodyPost_ret (results_ct rfl _ _ gb214 28 #[.int .i64 t233, .int .i64 t234, .slice Ao149 t235.length co149] (0, 0) _ rfl (by (with_reducible repeat (first | refine blk_drewN ?_ _ | refine blk_drew ?_ | refine blk_alloc ?_ _)); refine blk_put (cs := #[.int .i64 t233, .int .i64 t234, .slice none 0 0]) ?_ 2 _ rfl; (with_reducible repeat (first | refine blk_drewN ?_ _ | refine blk_drew ?_ | refine blk_alloc ?_ _)); refine blk_put (cs := #[.int .i64 t233, .int .i64 0, .slice none 0 0]) ?_ 1 _ rfl; (with_reducible repeat (first | refine blk_drewN ?_ _ | refine blk_drew ?_ | refine blk_alloc ?_ _)); refine blk_put (cs := #[.int .i64 0, .int .i64 0, .slice none 0 0]) ?_ 0 _ rfl; (with_reducible repeat (first | refine blk_drewN ?_ _ | refine blk_drew ?_ | refine blk_alloc ?_ _)); exact BK214.out) Try.underlying28 rfl (by kernel_rfl)) rfl ?_
      exact ⟨_, by first | rfl | (simp [errW_none, errW_some] <;> rfl) | (simp [*, errW_none, errW_some] <;> rfl), by (with_reducible repeat (first | apply Kd.R_alloc | apply Kd.R_drewN | apply Kd.R_drew)); exact Kd.R_mono (Kd.R_far (p := ⟨gb214, 2, none⟩) (Kd.R_far (p := ⟨gb214, 1, none⟩) (Kd.R_far (p := ⟨gb214, 0, none⟩) (Kd.R_types HO237.out BK214.out (by decide)) (fun _ hk => hk.2) (.int .i64 t233)) (fun _ hk => hk.2) (.int .i64 t234)) (fun _ hk => hk.2) (.slice Ao149 t235.length co149)) (fun _ hk => trivial), xbg⟩
    ·replace c123 := Bool.eq_false_iff.mpr c123
     subst c123
     have H1 : ((spec_l6Copy.f a0_0 a0_1 l0_2).bind fun bt238 => (some (bt238.1, bt238.2.1, bt238.2.2, false))) = some (r1, r2, r3, r4) := by rw [if_neg (show ¬ (false = true) by decide)] at H; exact H
     clear H; have H := H1; clear H1; replace H := Option.bind_eq_some_iff.mp H
     obtain ⟨⟨t238, t239, t240⟩, A1500, H⟩ := H
     replace H : (some (t238, t239, t240, false)) = some (r1, r2, r3, r4) := H; have A150 := aM A1500; clear A1500
     simp only [Option.some.injEq, Prod.mk.injEq] at H
     obtain ⟨rfl, rfl, rfl, rfl⟩ := H
     have hnb151 := NB212_213.out; have hnc151 := NB213_212.out; have hnb152 := NB212_214.out; have hnc152 := NB214_212.out; have hnb153 := NB212_221.out; have hnc153 := NB221_212.out; have hcz154_0 : wc.cell? ⟨gb212, 0, none⟩ = some (.int .i64 a0_0) := xc BK212 0 rfl; have hcz154_1 : wc.cell? ⟨gb212, 1, none⟩ = some (.int .i64 a0_1) := xc BK212 1 rfl; have hcz154_2 : wc.cell? ⟨gb212, 2, none⟩ = some (.slice A0_2 l0_2.length c0_2) := xc BK212 2 rfl; have hfz154_0 := blk_frozen BK212.out 0; have hfz154_1 := blk_frozen BK212.out 1; have hfz154_2 := blk_frozen BK212.out 2
     go_wp2_with (first | ((with_reducible refine gate_callee (f := 99) rfl ?_); refine goesL_ (some 98) rfl rfl Try.func99 (by kernel_rfl) rfl #[.agg #[.int .i64 a0_0, .int .i64 a0_1, .slice A0_2 l0_2.length c0_2]] rfl (by (try simp only [List.map_toArray, List.map_cons, List.map_nil]); first | done | rfl | (simp only [List.length_drop, List.length_take]; rfl)) ?_; (with_reducible refine (spec_l6Copy.calls a0_0 a0_1 _ _ l0_2 t238 t239 t240 _ ?side1 ?side2 A150.out).mono ?_); (case side1 => exact xcb HR0_2); (case side2 => exact HC0_2.out); rintro e w155 ⟨v241, rfl, ho0, hb⟩; refine ⟨_, rfl, ?_⟩; have HO242 := aM (Kd.R_lower (Kd.R_new' ho0 (Kd.R_lt (xr HO_222002))) (below_size xbg)); replace HO_222002 := aM (Kd.R_elder' (xr HO_222002) (Kd.R_base ho0) hb); replace BK212 := xbb BK212 hb; replace BK213 := xbb BK213 hb; replace BK214 := xbb BK214 hb; replace BK221 := xbb BK221 hb; replace HB := xbs hb; (try clear hb); (try clear hb2); (try clear hk); (try clear hi); (try clear ho0); have hnb156 := NB214_213.out; have hnc156 := NB213_214.out; have hnb157 := NB214_221.out; have hnc157 := NB221_214.out; have hcz158_0 : w155.cell? ⟨gb214, 0, none⟩ = some (.int .i64 0) := xc BK214 0 rfl; have hcz158_1 : w155.cell? ⟨gb214, 1, none⟩ = some (.int .i64 0) := xc BK214 1 rfl; have hcz158_2 : w155.cell? ⟨gb214, 2, none⟩ = some (.slice none 0 0) := xc BK214 2 rfl; have hfz158_0 := blk_frozen BK214.out 0; have hfz158_1 := blk_frozen BK214.out 1; have hfz158_2 := blk_frozen BK214.out 2; obtain ⟨Ao159, co159, eo159⟩ := Kd.R_slice HO242.out; subst eo159))
     refine bodyPost_ret (results_ct rfl _ _ gb214 28 #[.int .i64 t238, .int .i64 t239, .slice Ao159 t240.length co159] (0, 0) _ rfl (by (with_reducible repeat (first | refine blk_drewN ?_ _ | refine blk_drew ?_ | refine blk_alloc ?_ _)); refine blk_put (cs := #[.int .i64 t238, .int .i64 t239, .slice none 0 0]) ?_ 2 _ rfl; (with_reducible repeat (first | refine blk_drewN ?_ _ | refine blk_drew ?_ | refine blk_alloc ?_ _)); refine blk_put (cs := #[.int .i64 t238, .int .i64 0, .slice none 0 0]) ?_ 1 _ rfl; (with_reducible repeat (first | refine blk_drewN ?_ _ | refine blk_drew ?_ | refine blk_alloc ?_ _)); refine blk_put (cs := #[.int .i64 0, .int .i64 0, .slice none 0 0]) ?_ 0 _ rfl; (with_reducible repeat (first | refine blk_drewN ?_ _ | refine blk_drew ?_ | refine blk_alloc ?_ _)); exact BK214.out) Try.underlying28 rfl (by kernel_rfl)) rfl ?_
     exact ⟨_, by first | rfl | (simp [errW_none, errW_some] <;> rfl) | (simp [*, errW_none, errW_some] <;> rfl), by (with_reducible repeat (first | apply Kd.R_alloc | apply Kd.R_drewN | apply Kd.R_drew)); exact Kd.R_mono (Kd.R_far (p := ⟨gb214, 2, none⟩) (Kd.R_far (p := ⟨gb214, 1, none⟩) (Kd.R_far (p := ⟨gb214, 0, none⟩) (Kd.R_types HO242.out BK214.out (by decide)) (fun _ hk => hk.2) (.int .i64 t238)) (fun _ hk => hk.2) (.int .i64 t239)) (fun _ hk => hk.2) (.slice Ao159 t240.length co159)) (fun _ hk => trivial), xbg⟩
 ·replace c4 := Bool.eq_false_iff.mpr c4
  subst c4
  have H1 : (some (0, 0, ([] : List (S36)), false)) = some (r1, r2, r3, r4) := by rw [if_neg (show ¬ (false = true) by decide)] at H; exact H
  clear H; have H := H1; clear H1
  simp only [Option.some.injEq, Prod.mk.injEq] at H
  obtain ⟨rfl, rfl, rfl, rfl⟩ := H
  go_enter Try.func31, Try.ntmps31
  go_wp2_with (first | ((with_reducible refine gate_dst (N := 2) rfl ?_); (try (refine gate_guard (by rfl) ?_; dsimp only)); refine box_event ?hg (N := 2) ?hd (cs := #[.int .i64 a0_0, .int .i64 a0_1, .slice A0_2 l0_2.length c0_2]) (t := 28) ?hr ?_; (case hd => rfl); (case hg => rfl); (case hr => first | (go_simp; done) | (go_simp; rfl)); intro gb212 hg w160 hbox hb; have BK212 := aM (hbox); have GW212 := aM (xge hg); have GE212 := aM (xge hg); replace HB := xbs hb; clear hb hbox hg) | ((with_reducible refine gate_dst (N := 3) rfl ?_); (try (refine gate_guard (by rfl) ?_; dsimp only)); refine box_event ?hg (N := 3) ?hd (cs := #[.int .i64 a1_0, .int .i64 a1_1, .int .i64 a1_2, .int .i64 a1_3, .int .i64 a1_4, .int .i64 a1_5, .int .i64 a1_6, .int .i64 a1_7, .int .i64 a1_8, .string a1_9]) (t := 38) ?hr ?_; (case hd => rfl); (case hg => rfl); (case hr => first | (go_simp; done) | (go_simp; rfl)); intro gb213 hg w161 hbox hb; have GW213 := aM (xge hg); have GE213 := aM (xge hg); replace HB := xbs hb; have NB212_213 := aM ((by rw [hg]; exact Nat.ne_of_lt (blk_lt (g := gb212) (o := .cells #[.int .i64 a0_0, .int .i64 a0_1, .slice A0_2 l0_2.length c0_2] 28 (0, 0)) xblk) : gb212 ≠ gb213)); have NB213_212 := aM ((by rw [hg]; exact Nat.ne_of_gt (blk_lt (g := gb212) (o := .cells #[.int .i64 a0_0, .int .i64 a0_1, .slice A0_2 l0_2.length c0_2] 28 (0, 0)) xblk) : gb213 ≠ gb212)); replace BK212 := xbb BK212 hb; have BK213 := aM (hbox); clear hb hbox hg) | ((with_reducible refine gate_dst (N := 4) rfl ?_); (try (refine gate_guard (by rfl) ?_; dsimp only)); refine box_event ?hg (N := 4) ?hd (cs := #[.int .i64 0, .int .i64 0, .slice none 0 0]) (t := 28) ?hr ?_; (case hd => rfl); (case hg => rfl); (case hr => first | (go_simp; done) | (go_simp; rfl)); intro gb214 hg w162 hbox hb; have GW214 := aM (xge hg); have GE214 := aM (xge hg); replace HB := xbs hb; have NB212_214 := aM ((by rw [hg]; exact Nat.ne_of_lt (blk_lt (g := gb212) (o := .cells #[.int .i64 a0_0, .int .i64 a0_1, .slice A0_2 l0_2.length c0_2] 28 (0, 0)) xblk) : gb212 ≠ gb214)); have NB214_212 := aM ((by rw [hg]; exact Nat.ne_of_gt (blk_lt (g := gb212) (o := .cells #[.int .i64 a0_0, .int .i64 a0_1, .slice A0_2 l0_2.length c0_2] 28 (0, 0)) xblk) : gb214 ≠ gb212)); have NB213_214 := aM ((by rw [hg]; exact Nat.ne_of_lt (blk_lt (g := gb213) (o := .cells #[.int .i64 a1_0, .int .i64 a1_1, .int .i64 a1_2, .int .i64 a1_3, .int .i64 a1_4, .int .i64 a1_5, .int .i64 a1_6, .int .i64 a1_7, .int .i64 a1_8, .string a1_9] 38 (0, 0)) xblk) : gb213 ≠ gb214)); have NB214_213 := aM ((by rw [hg]; exact Nat.ne_of_gt (blk_lt (g := gb213) (o := .cells #[.int .i64 a1_0, .int .i64 a1_1, .int .i64 a1_2, .int .i64 a1_3, .int .i64 a1_4, .int .i64 a1_5, .int .i64 a1_6, .int .i64 a1_7, .int .i64 a1_8, .string a1_9] 38 (0, 0)) xblk) : gb214 ≠ gb213)); replace BK212 := xbb BK212 hb; replace BK213 := xbb BK213 hb; have BK214 := aM (hbox); clear hb hbox hg; have hnb163 := NB212_213.out; have hnc163 := NB213_212.out; have hnb164 := NB212_214.out; have hnc164 := NB214_212.out; have hcz165_0 : w162.cell? ⟨gb212, 0, none⟩ = some (.int .i64 a0_0) := xc BK212 0 rfl; have hcz165_1 : w162.cell? ⟨gb212, 1, none⟩ = some (.int .i64 a0_1) := xc BK212 1 rfl; have hcz165_2 : w162.cell? ⟨gb212, 2, none⟩ = some (.slice A0_2 l0_2.length c0_2) := xc BK212 2 rfl; have hfz165_0 := blk_frozen BK212.out 0; have hfz165_1 := blk_frozen BK212.out 1; have hfz165_2 := blk_frozen BK212.out 2) | ((with_reducible refine gate_callee (f := 98) rfl ?_); refine goesL_ (some 9) rfl rfl Try.func98 (by kernel_rfl) rfl #[.agg #[.int .i64 a0_0, .int .i64 a0_1, .slice A0_2 l0_2.length c0_2]] rfl (by (try simp only [List.map_toArray, List.map_cons, List.map_nil]); first | done | rfl | (simp only [List.length_drop, List.length_take]; rfl)) ?_; (with_reducible refine (spec_HardOk.calls k a0_0 a0_1 _ _ l0_2 false _ ?side1 ?side2 A3.out).mono ?_); (case side1 => exact xcb HR0_2); (case side2 => exact HC0_2.out); rintro e w166 ⟨rfl, hb⟩; refine ⟨_, rfl, ?_⟩; replace BK212 := xbb BK212 hb; replace BK213 := xbb BK213 hb; replace BK214 := xbb BK214 hb; replace HB := xbs hb; (try clear hb); (try clear hb2); (try clear hk); (try clear hi); have hnb167 := NB214_213.out; have hnc167 := NB213_214.out; have hcz168_0 : w166.cell? ⟨gb214, 0, none⟩ = some (.int .i64 0) := xc BK214 0 rfl; have hcz168_1 : w166.cell? ⟨gb214, 1, none⟩ = some (.int .i64 0) := xc BK214 1 rfl; have hcz168_2 : w166.cell? ⟨gb214, 2, none⟩ = some (.slice none 0 0) := xc BK214 2 rfl; have hfz168_0 := blk_frozen BK214.out 0; have hfz168_1 := blk_frozen BK214.out 1; have hfz168_2 := blk_frozen BK214.out 2))
  refine bodyPost_ret (results_ct rfl _ _ gb214 28 #[.int .i64 0, .int .i64 0, .slice none 0 0] (0, 0) _ rfl (by (with_reducible repeat (first | refine blk_drewN ?_ _ | refine blk_drew ?_ | refine blk_alloc ?_ _)); refine blk_put (cs := #[.int .i64 0, .int .i64 0, .slice none 0 0]) ?_ 2 _ rfl; (with_reducible repeat (first | refine blk_drewN ?_ _ | refine blk_drew ?_ | refine blk_alloc ?_ _)); refine blk_put (cs := #[.int .i64 0, .int .i64 0, .slice none 0 0]) ?_ 1 _ rfl; (with_reducible repeat (first | refine blk_drewN ?_ _ | refine blk_drew ?_ | refine blk_alloc ?_ _)); refine blk_put (cs := #[.int .i64 0, .int .i64 0, .slice none 0 0]) ?_ 0 _ rfl; (with_reducible repeat (first | refine blk_drewN ?_ _ | refine blk_drew ?_ | refine blk_alloc ?_ _)); exact BK214.out) Try.underlying28 rfl (by kernel_rfl)) rfl ?_
  exact ⟨_, by first | rfl | (simp [errW_none, errW_some] <;> rfl) | (simp [*, errW_none, errW_some] <;> rfl), by first | exact Kd.R_nil _ _ _ _ _ | exact Kd.N_nil _ _ _ _ _ | exact Kd.V_nil _ _ _ _ _ | exact Kd.Q_nil _ _ _ _ _ | exact Kd.S_nil _ _ _ _ _, xbg⟩

/-! ### laws_toCmd: function 150 -/
def laws_toCmd.f (a0_0 : Int) (a0_1 : Int) (a0_2 : Int) (a0_3 : Int) (a0_4 : ByteArray) : Option (Int × Int × Int × Int × ByteArray) := some (a0_0, a0_1, a0_2, a0_3, a0_4)
set_option maxHeartbeats 8000000 in
set_option maxRecDepth 100000 in
theorem laws_toCmd.calls (a0_0 : Int) (a0_1 : Int) (a0_2 : Int) (a0_3 : Int) (a0_4 : ByteArray) (r1 : Int) (r2 : Int) (r3 : Int) (r4 : Int) (r5 : ByteArray) (w : World) (h : laws_toCmd.f a0_0 a0_1 a0_2 a0_3 a0_4 = some (r1, r2, r3, r4, r5)) :
 Calls Try.prog 150 #[.agg #[.int .i64 a0_0, .int .i64 a0_1, .int .i64 a0_2, .int .i64 a0_3, .string a0_4]] w fun e w' => e = .returned (.agg #[.int .i64 r1, .int .i64 r2, .int .i64 r3, .int .i64 r4, .string r5]) ∧ Below w.heap.size w w' := by
 have hu52 := Try.underlying52
 have hu34 := Try.underlying34
 have HB := aM (Below.refl w.heap.size w)
 have H : (some (a0_0, a0_1, a0_2, a0_3, a0_4)) = some (r1, r2, r3, r4, r5) := h
 clear h
 simp only [Option.some.injEq, Prod.mk.injEq] at H
 obtain ⟨rfl, rfl, rfl, rfl, rfl⟩ := H
 go_enter Try.func150, Try.ntmps150
 go_wp2_with (first | ((with_reducible refine gate_dst (N := 1) rfl ?_); refine box_event ?hg (N := 1) ?hd (cs := #[.int .i64 a0_0, .int .i64 a0_1, .int .i64 a0_2, .int .i64 a0_3, .string a0_4]) (t := 52) ?hr ?_; (case hd => rfl); (case hg => rfl); (case hr => first | (go_simp; done) | (go_simp; rfl)); intro gb243 hg w2 hbox hb; have BK243 := aM (hbox); have GW243 := aM (xge hg); have GE243 := aM (xge hg); replace HB := xbs hb; clear hb hbox hg) | ((with_reducible refine gate_dst (N := 2) rfl ?_); refine box_event ?hg (N := 2) ?hd (cs := #[.int .i64 0, .int .i64 0, .int .i64 0, .int .i64 0, .string (⟨#[]⟩ : ByteArray)]) (t := 34) ?hr ?_; (case hd => rfl); (case hg => rfl); (case hr => first | (go_simp; done) | (go_simp; rfl)); intro gb244 hg w3 hbox hb; have GW244 := aM (xge hg); have GE244 := aM (xge hg); replace HB := xbs hb; have NB243_244 := aM ((by rw [hg]; exact Nat.ne_of_lt (blk_lt (g := gb243) (o := .cells #[.int .i64 a0_0, .int .i64 a0_1, .int .i64 a0_2, .int .i64 a0_3, .string a0_4] 52 (0, 0)) xblk) : gb243 ≠ gb244)); have NB244_243 := aM ((by rw [hg]; exact Nat.ne_of_gt (blk_lt (g := gb243) (o := .cells #[.int .i64 a0_0, .int .i64 a0_1, .int .i64 a0_2, .int .i64 a0_3, .string a0_4] 52 (0, 0)) xblk) : gb244 ≠ gb243)); replace BK243 := xbb BK243 hb; have BK244 := aM (hbox); clear hb hbox hg) | ((with_reducible refine gate_dst (N := 3) rfl ?_); refine box_event ?hg (N := 3) ?hd (cs := #[.int .i64 0, .int .i64 0, .int .i64 0, .int .i64 0, .string (⟨#[]⟩ : ByteArray)]) (t := 34) ?hr ?_; (case hd => rfl); (case hg => rfl); (case hr => first | (go_simp; done) | (go_simp; rfl)); intro gb245 hg w4 hbox hb; have GW245 := aM (xge hg); have GE245 := aM (xge hg); replace HB := xbs hb; have NB243_245 := aM ((by rw [hg]; exact Nat.ne_of_lt (blk_lt (g := gb243) (o := .cells #[.int .i64 a0_0, .int .i64 a0_1, .int .i64 a0_2, .int .i64 a0_3, .string a0_4] 52 (0, 0)) xblk) : gb243 ≠ gb245)); have NB245_243 := aM ((by rw [hg]; exact Nat.ne_of_gt (blk_lt (g := gb243) (o := .cells #[.int .i64 a0_0, .int .i64 a0_1, .int .i64 a0_2, .int .i64 a0_3, .string a0_4] 52 (0, 0)) xblk) : gb245 ≠ gb243)); have NB244_245 := aM ((by rw [hg]; exact Nat.ne_of_lt (blk_lt (g := gb244) (o := .cells #[.int .i64 0, .int .i64 0, .int .i64 0, .int .i64 0, .string (⟨#[]⟩ : ByteArray)] 34 (0, 0)) xblk) : gb244 ≠ gb245)); have NB245_244 := aM ((by rw [hg]; exact Nat.ne_of_gt (blk_lt (g := gb244) (o := .cells #[.int .i64 0, .int .i64 0, .int .i64 0, .int .i64 0, .string (⟨#[]⟩ : ByteArray)] 34 (0, 0)) xblk) : gb245 ≠ gb244)); replace BK243 := xbb BK243 hb; replace BK244 := xbb BK244 hb; have BK245 := aM (hbox); clear hb hbox hg; have hnb5 := NB243_244.out; have hnc5 := NB244_243.out; have hnb6 := NB243_245.out; have hnc6 := NB245_243.out; have hcz7_0 : w4.cell? ⟨gb243, 0, none⟩ = some (.int .i64 a0_0) := xc BK243 0 rfl; have hcz7_1 : w4.cell? ⟨gb243, 1, none⟩ = some (.int .i64 a0_1) := xc BK243 1 rfl; have hcz7_2 : w4.cell? ⟨gb243, 2, none⟩ = some (.int .i64 a0_2) := xc BK243 2 rfl; have hcz7_3 : w4.cell? ⟨gb243, 3, none⟩ = some (.int .i64 a0_3) := xc BK243 3 rfl; have hcz7_4 : w4.cell? ⟨gb243, 4, none⟩ = some (.string a0_4) := xc BK243 4 rfl; have hfz7_0 := blk_frozen BK243.out 0; have hfz7_1 := blk_frozen BK243.out 1; have hfz7_2 := blk_frozen BK243.out 2; have hfz7_3 := blk_frozen BK243.out 3; have hfz7_4 := blk_frozen BK243.out 4; have hnb8 := NB245_244.out; have hnc8 := NB244_245.out; have hcz9_0 : w4.cell? ⟨gb245, 0, none⟩ = some (.int .i64 0) := xc BK245 0 rfl; have hcz9_1 : w4.cell? ⟨gb245, 1, none⟩ = some (.int .i64 0) := xc BK245 1 rfl; have hcz9_2 : w4.cell? ⟨gb245, 2, none⟩ = some (.int .i64 0) := xc BK245 2 rfl; have hcz9_3 : w4.cell? ⟨gb245, 3, none⟩ = some (.int .i64 0) := xc BK245 3 rfl; have hcz9_4 : w4.cell? ⟨gb245, 4, none⟩ = some (.string (⟨#[]⟩ : ByteArray)) := xc BK245 4 rfl; have hfz9_0 := blk_frozen BK245.out 0; have hfz9_1 := blk_frozen BK245.out 1; have hfz9_2 := blk_frozen BK245.out 2; have hfz9_3 := blk_frozen BK245.out 3; have hfz9_4 := blk_frozen BK245.out 4) | ((with_reducible refine gate_store (t := 3) (p := 15) rfl ?_); refine store_event (t := 3) (p := 15) (v := ?vo_w10) (w1 := ((((w4.setCell ⟨gb245, 0, none⟩ (.int .i64 a0_0)).setCell ⟨gb245, 1, none⟩ (.int .i64 a0_1)).setCell ⟨gb245, 2, none⟩ (.int .i64 a0_2)).setCell ⟨gb245, 3, none⟩ (.int .i64 a0_3))) ?hg ?ho ?hn ?hr ?_; (case ho => rfl); (case hg => rfl); (case hn => rfl); (case hr => first | (go_simp; done) | (go_simp; rfl)); intro w10 hw; replace BK243 : Aside0 (w10.heap[gb243]? = some (.cells #[.int .i64 a0_0, .int .i64 a0_1, .int .i64 a0_2, .int .i64 a0_3, .string a0_4] 52 (0, 0))) := ⟨(by rw [hw]; exact (by (with_reducible repeat (first | refine blk_drewN ?_ _ | refine blk_drew ?_ | refine blk_alloc ?_ _)); refine blk_far ?_ NB243_245.out _; (with_reducible repeat (first | refine blk_drewN ?_ _ | refine blk_drew ?_ | refine blk_alloc ?_ _)); refine blk_far ?_ NB243_245.out _; (with_reducible repeat (first | refine blk_drewN ?_ _ | refine blk_drew ?_ | refine blk_alloc ?_ _)); refine blk_far ?_ NB243_245.out _; (with_reducible repeat (first | refine blk_drewN ?_ _ | refine blk_drew ?_ | refine blk_alloc ?_ _)); refine blk_far ?_ NB243_245.out _; (with_reducible repeat (first | refine blk_drewN ?_ _ | refine blk_drew ?_ | refine blk_alloc ?_ _)); exact BK243.out))⟩; replace BK244 : Aside0 (w10.heap[gb244]? = some (.cells #[.int .i64 0, .int .i64 0, .int .i64 0, .int .i64 0, .string (⟨#[]⟩ : ByteArray)] 34 (0, 0))) := ⟨(by rw [hw]; exact (by (with_reducible repeat (first | refine blk_drewN ?_ _ | refine blk_drew ?_ | refine blk_alloc ?_ _)); refine blk_far ?_ NB244_245.out _; (with_reducible repeat (first | refine blk_drewN ?_ _ | refine blk_drew ?_ | refine blk_alloc ?_ _)); refine blk_far ?_ NB244_245.out _; (with_reducible repeat (first | refine blk_drewN ?_ _ | refine blk_drew ?_ | refine blk_alloc ?_ _)); refine blk_far ?_ NB244_245.out _; (with_reducible repeat (first | refine blk_drewN ?_ _ | refine blk_drew ?_ | refine blk_alloc ?_ _)); refine blk_far ?_ NB244_245.out _; (with_reducible repeat (first | refine blk_drewN ?_ _ | refine blk_drew ?_ | refine blk_alloc ?_ _)); exact BK244.out))⟩; replace BK245 : Aside0 (w10.heap[gb245]? = some (.cells #[.int .i64 a0_0, .int .i64 a0_1, .int .i64 a0_2, .int .i64 a0_3, .string (⟨#[]⟩ : ByteArray)] 34 (0, 0))) := ⟨(by rw [hw]; exact (by (with_reducible repeat (first | refine blk_drewN ?_ _ | refine blk_drew ?_ | refine blk_alloc ?_ _)); refine blk_put (cs := #[.int .i64 a0_0, .int .i64 a0_1, .int .i64 a0_2, .int .i64 0, .string (⟨#[]⟩ : ByteArray)]) ?_ 3 _ rfl; (with_reducible repeat (first | refine blk_drewN ?_ _ | refine blk_drew ?_ | refine blk_alloc ?_ _)); refine blk_put (cs := #[.int .i64 a0_0, .int .i64 a0_1, .int .i64 0, .int .i64 0, .string (⟨#[]⟩ : ByteArray)]) ?_ 2 _ rfl; (with_reducible repeat (first | refine blk_drewN ?_ _ | refine blk_drew ?_ | refine blk_alloc ?_ _)); refine blk_put (cs := #[.int .i64 a0_0, .int .i64 0, .int .i64 0, .int .i64 0, .string (⟨#[]⟩ : ByteArray)]) ?_ 1 _ rfl; (with_reducible repeat (first | refine blk_drewN ?_ _ | refine blk_drew ?_ | refine blk_alloc ?_ _)); refine blk_put (cs := #[.int .i64 0, .int .i64 0, .int .i64 0, .int .i64 0, .string (⟨#[]⟩ : ByteArray)]) ?_ 0 _ rfl; (with_reducible repeat (first | refine blk_drewN ?_ _ | refine blk_drew ?_ | refine blk_alloc ?_ _)); exact BK245.out))⟩; replace HB : Aside0 (Below w.heap.size w w10) := ⟨(by rw [hw]; exact xbg)⟩; clear hw; have hcz11_0 : w10.cell? ⟨gb243, 0, none⟩ = some (.int .i64 a0_0) := xc BK243 0 rfl; have hcz11_1 : w10.cell? ⟨gb243, 1, none⟩ = some (.int .i64 a0_1) := xc BK243 1 rfl; have hcz11_2 : w10.cell? ⟨gb243, 2, none⟩ = some (.int .i64 a0_2) := xc BK243 2 rfl; have hcz11_3 : w10.cell? ⟨gb243, 3, none⟩ = some (.int .i64 a0_3) := xc BK243 3 rfl; have hcz11_4 : w10.cell? ⟨gb243, 4, none⟩ = some (.string a0_4) := xc BK243 4 rfl; have hfz11_0 := blk_frozen BK243.out 0; have hfz11_1 := blk_frozen BK243.out 1; have hfz11_2 := blk_frozen BK243.out 2; have hfz11_3 := blk_frozen BK243.out 3; have hfz11_4 := blk_frozen BK243.out 4; have hcz12_0 : w10.cell? ⟨gb245, 0, none⟩ = some (.int .i64 a0_0) := xc BK245 0 rfl; have hcz12_1 : w10.cell? ⟨gb245, 1, none⟩ = some (.int .i64 a0_1) := xc BK245 1 rfl; have hcz12_2 : w10.cell? ⟨gb245, 2, none⟩ = some (.int .i64 a0_2) := xc BK245 2 rfl; have hcz12_3 : w10.cell? ⟨gb245, 3, none⟩ = some (.int .i64 a0_3) := xc BK245 3 rfl; have hcz12_4 : w10.cell? ⟨gb245, 4, none⟩ = some (.string (⟨#[]⟩ : ByteArray)) := xc BK245 4 rfl; have hfz12_0 := blk_frozen BK245.out 0; have hfz12_1 := blk_frozen BK245.out 1; have hfz12_2 := blk_frozen BK245.out 2; have hfz12_3 := blk_frozen BK245.out 3; have hfz12_4 := blk_frozen BK245.out 4; have hcz13_0 : w10.cell? ⟨gb244, 0, none⟩ = some (.int .i64 0) := xc BK244 0 rfl; have hcz13_1 : w10.cell? ⟨gb244, 1, none⟩ = some (.int .i64 0) := xc BK244 1 rfl; have hcz13_2 : w10.cell? ⟨gb244, 2, none⟩ = some (.int .i64 0) := xc BK244 2 rfl; have hcz13_3 : w10.cell? ⟨gb244, 3, none⟩ = some (.int .i64 0) := xc BK244 3 rfl; have hcz13_4 : w10.cell? ⟨gb244, 4, none⟩ = some (.string (⟨#[]⟩ : ByteArray)) := xc BK244 4 rfl; have hfz13_0 := blk_frozen BK244.out 0; have hfz13_1 := blk_frozen BK244.out 1; have hfz13_2 := blk_frozen BK244.out 2; have hfz13_3 := blk_frozen BK244.out 3; have hfz13_4 := blk_frozen BK244.out 4) | ((with_reducible refine gate_store (t := 34) (p := 2) rfl ?_); refine store_event (t := 34) (p := 2) (v := ?vo_w14) (w1 := ((((((w10.setCell ⟨gb245, 4, none⟩ (.string a0_4)).setCell ⟨gb244, 0, none⟩ (.int .i64 a0_0)).setCell ⟨gb244, 1, none⟩ (.int .i64 a0_1)).setCell ⟨gb244, 2, none⟩ (.int .i64 a0_2)).setCell ⟨gb244, 3, none⟩ (.int .i64 a0_3)).setCell ⟨gb244, 4, none⟩ (.string a0_4))) ?hg ?ho ?hn ?hr ?_; (case ho => rfl); (case hg => rfl); (case hn => rfl); (case hr => first | (go_simp; done) | (go_simp; rfl)); intro w14 hw; replace BK243 : Aside0 (w14.heap[gb243]? = some (.cells #[.int .i64 a0_0, .int .i64 a0_1, .int .i64 a0_2, .int .i64 a0_3, .string a0_4] 52 (0, 0))) := ⟨(by rw [hw]; exact (by (with_reducible repeat (first | refine blk_drewN ?_ _ | refine blk_drew ?_ | refine blk_alloc ?_ _)); refine blk_far ?_ NB243_244.out _; (with_reducible repeat (first | refine blk_drewN ?_ _ | refine blk_drew ?_ | refine blk_alloc ?_ _)); refine blk_far ?_ NB243_244.out _; (with_reducible repeat (first | refine blk_drewN ?_ _ | refine blk_drew ?_ | refine blk_alloc ?_ _)); refine blk_far ?_ NB243_244.out _; (with_reducible repeat (first | refine blk_drewN ?_ _ | refine blk_drew ?_ | refine blk_alloc ?_ _)); refine blk_far ?_ NB243_244.out _; (with_reducible repeat (first | refine blk_drewN ?_ _ | refine blk_drew ?_ | refine blk_alloc ?_ _)); refine blk_far ?_ NB243_244.out _; (with_reducible repeat (first | refine blk_drewN ?_ _ | refine blk_drew ?_ | refine blk_alloc ?_ _)); refine blk_far ?_ NB243_245.out _; (with_reducible repeat (first | refine blk_drewN ?_ _ | refine blk_drew ?_ | refine blk_alloc ?_ _)); exact BK243.out))⟩; replace BK244 : Aside0 (w14.heap[gb244]? = some (.cells #[.int .i64 a0_0, .int .i64 a0_1, .int .i64 a0_2, .int .i64 a0_3, .string a0_4] 34 (0, 0))) := ⟨(by rw [hw]; exact (by (with_reducible repeat (first | refine blk_drewN ?_ _ | refine blk_drew ?_ | refine blk_alloc ?_ _)); refine blk_put (cs := #[.int .i64 a0_0, .int .i64 a0_1, .int .i64 a0_2, .int .i64 a0_3, .string (⟨#[]⟩ : ByteArray)]) ?_ 4 _ rfl; (with_reducible repeat (first | refine blk_drewN ?_ _ | refine blk_drew ?_ | refine blk_alloc ?_ _)); refine blk_put (cs := #[.int .i64 a0_0, .int .i64 a0_1, .int .i64 a0_2, .int .i64 0, .string (⟨#[]⟩ : ByteArray)]) ?_ 3 _ rfl; (with_reducible repeat (first | refine blk_drewN ?_ _ | refine blk_drew ?_ | refine blk_alloc ?_ _)); refine blk_put (cs := #[.int .i64 a0_0, .int .i64 a0_1, .int .i64 0, .int .i64 0, .string (⟨#[]⟩ : ByteArray)]) ?_ 2 _ rfl; (with_reducible repeat (first | refine blk_drewN ?_ _ | refine blk_drew ?_ | refine blk_alloc ?_ _)); refine blk_put (cs := #[.int .i64 a0_0, .int .i64 0, .int .i64 0, .int .i64 0, .string (⟨#[]⟩ : ByteArray)]) ?_ 1 _ rfl; (with_reducible repeat (first | refine blk_drewN ?_ _ | refine blk_drew ?_ | refine blk_alloc ?_ _)); refine blk_put (cs := #[.int .i64 0, .int .i64 0, .int .i64 0, .int .i64 0, .string (⟨#[]⟩ : ByteArray)]) ?_ 0 _ rfl; (with_reducible repeat (first | refine blk_drewN ?_ _ | refine blk_drew ?_ | refine blk_alloc ?_ _)); refine blk_far ?_ NB244_245.out _; (with_reducible repeat (first | refine blk_drewN ?_ _ | refine blk_drew ?_ | refine blk_alloc ?_ _)); exact BK244.out))⟩; replace BK245 : Aside0 (w14.heap[gb245]? = some (.cells #[.int .i64 a0_0, .int .i64 a0_1, .int .i64 a0_2, .int .i64 a0_3, .string a0_4] 34 (0, 0))) := ⟨(by rw [hw]; exact (by (with_reducible repeat (first | refine blk_drewN ?_ _ | refine blk_drew ?_ | refine blk_alloc ?_ _)); refine blk_far ?_ NB245_244.out _; (with_reducible repeat (first | refine blk_drewN ?_ _ | refine blk_drew ?_ | refine blk_alloc ?_ _)); refine blk_far ?_ NB245_244.out _; (with_reducible repeat (first | refine blk_drewN ?_ _ | refine blk_drew ?_ | refine blk_alloc ?_ _)); refine blk_far ?_ NB245_244.out _; (with_reducible repeat (first | refine blk_drewN ?_ _ | refine blk_drew ?_ | refine blk_alloc ?_ _)); refine blk_far ?_ NB245_244.out _; (with_reducible repeat (first | refine blk_drewN ?_ _ | refine blk_drew ?_ | refine blk_alloc ?_ _)); refine blk_far ?_ NB245_244.out _; (with_reducible repeat (first | refine blk_drewN ?_ _ | refine blk_drew ?_ | refine blk_alloc ?_ _)); refine blk_put (cs := #[.int .i64 a0_0, .int .i64 a0_1, .int .i64 a0_2, .int .i64 a0_3, .string (⟨#[]⟩ : ByteArray)]) ?_ 4 _ rfl; (with_reducible repeat (first | refine blk_drewN ?_ _ | refine blk_drew ?_ | refine blk_alloc ?_ _)); exact BK245.out))⟩; replace HB : Aside0 (Below w.heap.size w w14) := ⟨(by rw [hw]; exact xbg)⟩; clear hw))
 refine bodyPost_ret (results_cell_row rfl _ _ gb244 34 #[.int .i64 a0_0, .int .i64 a0_1, .int .i64 a0_2, .int .i64 a0_3, .string a0_4] (0, 0) _ rfl xblk Try.underlying34 rfl (by kernel_rfl)) rfl ?_
 exact ⟨by first | rfl | (simp [errW_none, errW_some] <;> rfl) | (simp [*, errW_none, errW_some] <;> rfl), xbg⟩

/-! ### laws_toEntry: function 101 -/
def laws_toEntry.f (a0_0 : Int) (a0_1 : Int) (a0_2 : Int) (a0_3 : Int) (a0_4 : Int) (a0_5 : ByteArray) : Option (Int × Int × Int × Int × Int × ByteArray) := (laws_toCmd.f a0_1 a0_2 a0_3 a0_4 a0_5).bind fun bt249 => (some (a0_0, bt249.1, bt249.2.1, bt249.2.2.1, bt249.2.2.2.1, bt249.2.2.2.2))
set_option maxHeartbeats 8000000 in
set_option maxRecDepth 100000 in
theorem laws_toEntry.calls (a0_0 : Int) (a0_1 : Int) (a0_2 : Int) (a0_3 : Int) (a0_4 : Int) (a0_5 : ByteArray) (r1 : Int) (r2 : Int) (r3 : Int) (r4 : Int) (r5 : Int) (r6 : ByteArray) (w : World) (h : laws_toEntry.f a0_0 a0_1 a0_2 a0_3 a0_4 a0_5 = some (r1, r2, r3, r4, r5, r6)) :
 Calls Try.prog 101 #[.agg #[.int .i64 a0_0, .int .i64 a0_1, .int .i64 a0_2, .int .i64 a0_3, .int .i64 a0_4, .string a0_5]] w fun e w' => e = .returned (.agg #[.int .i64 r1, .int .i64 r2, .int .i64 r3, .int .i64 r4, .int .i64 r5, .string r6]) ∧ Below w.heap.size w w' := by
 have hu54 := Try.underlying54
 have hu36 := Try.underlying36
 have hu52 := Try.underlying52
 have hu34 := Try.underlying34
 have HB := aM (Below.refl w.heap.size w)
 have H : ((laws_toCmd.f a0_1 a0_2 a0_3 a0_4 a0_5).bind fun bt249 => (some (a0_0, bt249.1, bt249.2.1, bt249.2.2.1, bt249.2.2.2.1, bt249.2.2.2.2))) = some (r1, r2, r3, r4, r5, r6) := h
 clear h
 replace H := Option.bind_eq_some_iff.mp H
 obtain ⟨⟨t249, t250, t251, t252, t253⟩, A20, H⟩ := H
 replace H : (some (a0_0, t249, t250, t251, t252, t253)) = some (r1, r2, r3, r4, r5, r6) := H
 have A2 := aM A20
 clear A20
 simp only [Option.some.injEq, Prod.mk.injEq] at H
 obtain ⟨rfl, rfl, rfl, rfl, rfl, rfl⟩ := H
 go_enter Try.func101, Try.ntmps101
 go_wp2_with (first | ((with_reducible refine gate_dst (N := 1) rfl ?_); refine box_event ?hg (N := 1) ?hd (cs := #[.int .i64 a0_0, .int .i64 a0_1, .int .i64 a0_2, .int .i64 a0_3, .int .i64 a0_4, .string a0_5]) (t := 54) ?hr ?_; (case hd => rfl); (case hg => rfl); (case hr => first | (go_simp; done) | (go_simp; rfl)); intro gb246 hg w3 hbox hb; have BK246 := aM (hbox); have GW246 := aM (xge hg); have GE246 := aM (xge hg); replace HB := xbs hb; clear hb hbox hg) | ((with_reducible refine gate_dst (N := 2) rfl ?_); refine box_event ?hg (N := 2) ?hd (cs := #[.int .i64 0, .int .i64 0, .int .i64 0, .int .i64 0, .int .i64 0, .string (⟨#[]⟩ : ByteArray)]) (t := 36) ?hr ?_; (case hd => rfl); (case hg => rfl); (case hr => first | (go_simp; done) | (go_simp; rfl)); intro gb247 hg w4 hbox hb; have GW247 := aM (xge hg); have GE247 := aM (xge hg); replace HB := xbs hb; have NB246_247 := aM ((by rw [hg]; exact Nat.ne_of_lt (blk_lt (g := gb246) (o := .cells #[.int .i64 a0_0, .int .i64 a0_1, .int .i64 a0_2, .int .i64 a0_3, .int .i64 a0_4, .string a0_5] 54 (0, 0)) xblk) : gb246 ≠ gb247)); have NB247_246 := aM ((by rw [hg]; exact Nat.ne_of_gt (blk_lt (g := gb246) (o := .cells #[.int .i64 a0_0, .int .i64 a0_1, .int .i64 a0_2, .int .i64 a0_3, .int .i64 a0_4, .string a0_5] 54 (0, 0)) xblk) : gb247 ≠ gb246)); replace BK246 := xbb BK246 hb; have BK247 := aM (hbox); clear hb hbox hg) | ((with_reducible refine gate_dst (N := 3) rfl ?_); refine box_event ?hg (N := 3) ?hd (cs := #[.int .i64 0, .int .i64 0, .int .i64 0, .int .i64 0, .int .i64 0, .string (⟨#[]⟩ : ByteArray)]) (t := 36) ?hr ?_; (case hd => rfl); (case hg => rfl); (case hr => first | (go_simp; done) | (go_simp; rfl)); intro gb248 hg w5 hbox hb; have GW248 := aM (xge hg); have GE248 := aM (xge hg); replace HB := xbs hb; have NB246_248 := aM ((by rw [hg]; exact Nat.ne_of_lt (blk_lt (g := gb246) (o := .cells #[.int .i64 a0_0, .int .i64 a0_1, .int .i64 a0_2, .int .i64 a0_3, .int .i64 a0_4, .string a0_5] 54 (0, 0)) xblk) : gb246 ≠ gb248)); have NB248_246 := aM ((by rw [hg]; exact Nat.ne_of_gt (blk_lt (g := gb246) (o := .cells #[.int .i64 a0_0, .int .i64 a0_1, .int .i64 a0_2, .int .i64 a0_3, .int .i64 a0_4, .string a0_5] 54 (0, 0)) xblk) : gb248 ≠ gb246)); have NB247_248 := aM ((by rw [hg]; exact Nat.ne_of_lt (blk_lt (g := gb247) (o := .cells #[.int .i64 0, .int .i64 0, .int .i64 0, .int .i64 0, .int .i64 0, .string (⟨#[]⟩ : ByteArray)] 36 (0, 0)) xblk) : gb247 ≠ gb248)); have NB248_247 := aM ((by rw [hg]; exact Nat.ne_of_gt (blk_lt (g := gb247) (o := .cells #[.int .i64 0, .int .i64 0, .int .i64 0, .int .i64 0, .int .i64 0, .string (⟨#[]⟩ : ByteArray)] 36 (0, 0)) xblk) : gb248 ≠ gb247)); replace BK246 := xbb BK246 hb; replace BK247 := xbb BK247 hb; have BK248 := aM (hbox); clear hb hbox hg; have hnb6 := NB246_247.out; have hnc6 := NB247_246.out; have hnb7 := NB246_248.out; have hnc7 := NB248_246.out; have hcz8_0 : w5.cell? ⟨gb246, 0, none⟩ = some (.int .i64 a0_0) := xc BK246 0 rfl; have hcz8_1 : w5.cell? ⟨gb246, 1, none⟩ = some (.int .i64 a0_1) := xc BK246 1 rfl; have hcz8_2 : w5.cell? ⟨gb246, 2, none⟩ = some (.int .i64 a0_2) := xc BK246 2 rfl; have hcz8_3 : w5.cell? ⟨gb246, 3, none⟩ = some (.int .i64 a0_3) := xc BK246 3 rfl; have hcz8_4 : w5.cell? ⟨gb246, 4, none⟩ = some (.int .i64 a0_4) := xc BK246 4 rfl; have hcz8_5 : w5.cell? ⟨gb246, 5, none⟩ = some (.string a0_5) := xc BK246 5 rfl; have hfz8_0 := blk_frozen BK246.out 0; have hfz8_1 := blk_frozen BK246.out 1; have hfz8_2 := blk_frozen BK246.out 2; have hfz8_3 := blk_frozen BK246.out 3; have hfz8_4 := blk_frozen BK246.out 4; have hfz8_5 := blk_frozen BK246.out 5; have hnb9 := NB248_247.out; have hnc9 := NB247_248.out; have hcz10_0 : w5.cell? ⟨gb248, 0, none⟩ = some (.int .i64 0) := xc BK248 0 rfl; have hcz10_1 : w5.cell? ⟨gb248, 1, none⟩ = some (.int .i64 0) := xc BK248 1 rfl; have hcz10_2 : w5.cell? ⟨gb248, 2, none⟩ = some (.int .i64 0) := xc BK248 2 rfl; have hcz10_3 : w5.cell? ⟨gb248, 3, none⟩ = some (.int .i64 0) := xc BK248 3 rfl; have hcz10_4 : w5.cell? ⟨gb248, 4, none⟩ = some (.int .i64 0) := xc BK248 4 rfl; have hcz10_5 : w5.cell? ⟨gb248, 5, none⟩ = some (.string (⟨#[]⟩ : ByteArray)) := xc BK248 5 rfl; have hfz10_0 := blk_frozen BK248.out 0; have hfz10_1 := blk_frozen BK248.out 1; have hfz10_2 := blk_frozen BK248.out 2; have hfz10_3 := blk_frozen BK248.out 3; have hfz10_4 := blk_frozen BK248.out 4; have hfz10_5 := blk_frozen BK248.out 5) | ((with_reducible refine gate_callee (f := 150) rfl ?_); refine goesL_ (some 9) rfl rfl Try.func150 (by kernel_rfl) rfl #[.agg #[.int .i64 a0_1, .int .i64 a0_2, .int .i64 a0_3, .int .i64 a0_4, .string a0_5]] rfl (by (try simp only [List.map_toArray, List.map_cons, List.map_nil]); first | done | rfl | (simp only [List.length_drop, List.length_take]; rfl)) ?_; (with_reducible refine (laws_toCmd.calls a0_1 a0_2 a0_3 a0_4 a0_5 t249 t250 t251 t252 t253 _ A2.out).mono ?_); rintro e w11 ⟨rfl, hb⟩; refine ⟨_, rfl, ?_⟩; replace BK246 := aM (blk_below (g := gb246) (o := .cells #[.int .i64 a0_0, .int .i64 a0_1, .int .i64 a0_2, .int .i64 a0_3, .int .i64 a0_4, .string a0_5] 54 (0, 0)) (by (with_reducible repeat (first | refine blk_drewN ?_ _ | refine blk_drew ?_ | refine blk_alloc ?_ _)); refine blk_far ?_ NB246_248.out _; (with_reducible repeat (first | refine blk_drewN ?_ _ | refine blk_drew ?_ | refine blk_alloc ?_ _)); exact BK246.out) hb); replace BK247 := aM (blk_below (g := gb247) (o := .cells #[.int .i64 0, .int .i64 0, .int .i64 0, .int .i64 0, .int .i64 0, .string (⟨#[]⟩ : ByteArray)] 36 (0, 0)) (by (with_reducible repeat (first | refine blk_drewN ?_ _ | refine blk_drew ?_ | refine blk_alloc ?_ _)); refine blk_far ?_ NB247_248.out _; (with_reducible repeat (first | refine blk_drewN ?_ _ | refine blk_drew ?_ | refine blk_alloc ?_ _)); exact BK247.out) hb); replace BK248 := aM (blk_below (g := gb248) (o := .cells #[.int .i64 a0_0, .int .i64 0, .int .i64 0, .int .i64 0, .int .i64 0, .string (⟨#[]⟩ : ByteArray)] 36 (0, 0)) (by (with_reducible repeat (first | refine blk_drewN ?_ _ | refine blk_drew ?_ | refine blk_alloc ?_ _)); refine blk_put (cs := #[.int .i64 0, .int .i64 0, .int .i64 0, .int .i64 0, .int .i64 0, .string (⟨#[]⟩ : ByteArray)]) ?_ 0 _ rfl; (with_reducible repeat (first | refine blk_drewN ?_ _ | refine blk_drew ?_ | refine blk_alloc ?_ _)); exact BK248.out) hb); replace HB := xbs hb; (try clear hb); (try clear hb2); (try clear hk); (try clear hi); have hcz12_0 : w11.cell? ⟨gb248, 0, none⟩ = some (.int .i64 a0_0) := xc BK248 0 rfl; have hcz12_1 : w11.cell? ⟨gb248, 1, none⟩ = some (.int .i64 0) := xc BK248 1 rfl; have hcz12_2 : w11.cell? ⟨gb248, 2, none⟩ = some (.int .i64 0) := xc BK248 2 rfl; have hcz12_3 : w11.cell? ⟨gb248, 3, none⟩ = some (.int .i64 0) := xc BK248 3 rfl; have hcz12_4 : w11.cell? ⟨gb248, 4, none⟩ = some (.int .i64 0) := xc BK248 4 rfl; have hcz12_5 : w11.cell? ⟨gb248, 5, none⟩ = some (.string (⟨#[]⟩ : ByteArray)) := xc BK248 5 rfl; have hfz12_0 := blk_frozen BK248.out 0; have hfz12_1 := blk_frozen BK248.out 1; have hfz12_2 := blk_frozen BK248.out 2; have hfz12_3 := blk_frozen BK248.out 3; have hfz12_4 := blk_frozen BK248.out 4; have hfz12_5 := blk_frozen BK248.out 5) | ((with_reducible refine gate_store (t := 34) (p := 10) rfl ?_); refine store_event (t := 34) (p := 10) (v := ?vo_w13) (w1 := (((((w11.setCell ⟨gb248, 1, none⟩ (.int .i64 t249)).setCell ⟨gb248, 2, none⟩ (.int .i64 t250)).setCell ⟨gb248, 3, none⟩ (.int .i64 t251)).setCell ⟨gb248, 4, none⟩ (.int .i64 t252)).setCell ⟨gb248, 5, none⟩ (.string t253))) ?hg ?ho ?hn ?hr ?_; (case ho => rfl); (case hg => rfl); (case hn => rfl); (case hr => first | (go_simp; done) | (go_simp; rfl)); intro w13 hw; replace BK246 : Aside0 (w13.heap[gb246]? = some (.cells #[.int .i64 a0_0, .int .i64 a0_1, .int .i64 a0_2, .int .i64 a0_3, .int .i64 a0_4, .string a0_5] 54 (0, 0))) := ⟨(by rw [hw]; exact (by (with_reducible repeat (first | refine blk_drewN ?_ _ | refine blk_drew ?_ | refine blk_alloc ?_ _)); refine blk_far ?_ NB246_248.out _; (with_reducible repeat (first | refine blk_drewN ?_ _ | refine blk_drew ?_ | refine blk_alloc ?_ _)); refine blk_far ?_ NB246_248.out _; (with_reducible repeat (first | refine blk_drewN ?_ _ | refine blk_drew ?_ | refine blk_alloc ?_ _)); refine blk_far ?_ NB246_248.out _; (with_reducible repeat (first | refine blk_drewN ?_ _ | refine blk_drew ?_ | refine blk_alloc ?_ _)); refine blk_far ?_ NB246_248.out _; (with_reducible repeat (first | refine blk_drewN ?_ _ | refine blk_drew ?_ | refine blk_alloc ?_ _)); refine blk_far ?_ NB246_248.out _; (with_reducible repeat (first | refine blk_drewN ?_ _ | refine blk_drew ?_ | refine blk_alloc ?_ _)); exact BK246.out))⟩; replace BK247 : Aside0 (w13.heap[gb247]? = some (.cells #[.int .i64 0, .int .i64 0, .int .i64 0, .int .i64 0, .int .i64 0, .string (⟨#[]⟩ : ByteArray)] 36 (0, 0))) := ⟨(by rw [hw]; exact (by (with_reducible repeat (first | refine blk_drewN ?_ _ | refine blk_drew ?_ | refine blk_alloc ?_ _)); refine blk_far ?_ NB247_248.out _; (with_reducible repeat (first | refine blk_drewN ?_ _ | refine blk_drew ?_ | refine blk_alloc ?_ _)); refine blk_far ?_ NB247_248.out _; (with_reducible repeat (first | refine blk_drewN ?_ _ | refine blk_drew ?_ | refine blk_alloc ?_ _)); refine blk_far ?_ NB247_248.out _; (with_reducible repeat (first | refine blk_drewN ?_ _ | refine blk_drew ?_ | refine blk_alloc ?_ _)); refine blk_far ?_ NB247_248.out _; (with_reducible repeat (first | refine blk_drewN ?_ _ | refine blk_drew ?_ | refine blk_alloc ?_ _)); refine blk_far ?_ NB247_248.out _; (with_reducible repeat (first | refine blk_drewN ?_ _ | refine blk_drew ?_ | refine blk_alloc ?_ _)); exact BK247.out))⟩; replace BK248 : Aside0 (w13.heap[gb248]? = some (.cells #[.int .i64 a0_0, .int .i64 t249, .int .i64 t250, .int .i64 t251, .int .i64 t252, .string t253] 36 (0, 0))) := ⟨(by rw [hw]; exact (by (with_reducible repeat (first | refine blk_drewN ?_ _ | refine blk_drew ?_ | refine blk_alloc ?_ _)); refine blk_put (cs := #[.int .i64 a0_0, .int .i64 t249, .int .i64 t250, .int .i64 t251, .int .i64 t252, .string (⟨#[]⟩ : ByteArray)]) ?_ 5 _ rfl; (with_reducible repeat (first | refine blk_drewN ?_ _ | refine blk_drew ?_ | refine blk_alloc ?_ _)); refine blk_put (cs := #[.int .i64 a0_0, .int .i64 t249, .int .i64 t250, .int .i64 t251, .int .i64 0, .string (⟨#[]⟩ : ByteArray)]) ?_ 4 _ rfl; (with_reducible repeat (first | refine blk_drewN ?_ _ | refine blk_drew ?_ | refine blk_alloc ?_ _)); refine blk_put (cs := #[.int .i64 a0_0, .int .i64 t249, .int .i64 t250, .int .i64 0, .int .i64 0, .string (⟨#[]⟩ : ByteArray)]) ?_ 3 _ rfl; (with_reducible repeat (first | refine blk_drewN ?_ _ | refine blk_drew ?_ | refine blk_alloc ?_ _)); refine blk_put (cs := #[.int .i64 a0_0, .int .i64 t249, .int .i64 0, .int .i64 0, .int .i64 0, .string (⟨#[]⟩ : ByteArray)]) ?_ 2 _ rfl; (with_reducible repeat (first | refine blk_drewN ?_ _ | refine blk_drew ?_ | refine blk_alloc ?_ _)); refine blk_put (cs := #[.int .i64 a0_0, .int .i64 0, .int .i64 0, .int .i64 0, .int .i64 0, .string (⟨#[]⟩ : ByteArray)]) ?_ 1 _ rfl; (with_reducible repeat (first | refine blk_drewN ?_ _ | refine blk_drew ?_ | refine blk_alloc ?_ _)); exact BK248.out))⟩; replace HB : Aside0 (Below w.heap.size w w13) := ⟨(by rw [hw]; exact xbg)⟩; clear hw; have hcz14_0 : w13.cell? ⟨gb248, 0, none⟩ = some (.int .i64 a0_0) := xc BK248 0 rfl; have hcz14_1 : w13.cell? ⟨gb248, 1, none⟩ = some (.int .i64 t249) := xc BK248 1 rfl; have hcz14_2 : w13.cell? ⟨gb248, 2, none⟩ = some (.int .i64 t250) := xc BK248 2 rfl; have hcz14_3 : w13.cell? ⟨gb248, 3, none⟩ = some (.int .i64 t251) := xc BK248 3 rfl; have hcz14_4 : w13.cell? ⟨gb248, 4, none⟩ = some (.int .i64 t252) := xc BK248 4 rfl; have hcz14_5 : w13.cell? ⟨gb248, 5, none⟩ = some (.string t253) := xc BK248 5 rfl; have hfz14_0 := blk_frozen BK248.out 0; have hfz14_1 := blk_frozen BK248.out 1; have hfz14_2 := blk_frozen BK248.out 2; have hfz14_3 := blk_frozen BK248.out 3; have hfz14_4 := blk_frozen BK248.out 4; have hfz14_5 := blk_frozen BK248.out 5; have hcz15_0 : w13.cell? ⟨gb247, 0, none⟩ = some (.int .i64 0) := xc BK247 0 rfl; have hcz15_1 : w13.cell? ⟨gb247, 1, none⟩ = some (.int .i64 0) := xc BK247 1 rfl; have hcz15_2 : w13.cell? ⟨gb247, 2, none⟩ = some (.int .i64 0) := xc BK247 2 rfl; have hcz15_3 : w13.cell? ⟨gb247, 3, none⟩ = some (.int .i64 0) := xc BK247 3 rfl; have hcz15_4 : w13.cell? ⟨gb247, 4, none⟩ = some (.int .i64 0) := xc BK247 4 rfl; have hcz15_5 : w13.cell? ⟨gb247, 5, none⟩ = some (.string (⟨#[]⟩ : ByteArray)) := xc BK247 5 rfl; have hfz15_0 := blk_frozen BK247.out 0; have hfz15_1 := blk_frozen BK247.out 1; have hfz15_2 := blk_frozen BK247.out 2; have hfz15_3 := blk_frozen BK247.out 3; have hfz15_4 := blk_frozen BK247.out 4; have hfz15_5 := blk_frozen BK247.out 5) | ((with_reducible refine gate_store (t := 36) (p := 2) rfl ?_); refine store_event (t := 36) (p := 2) (v := ?vo_w16) (w1 := ((((((w13.setCell ⟨gb247, 0, none⟩ (.int .i64 a0_0)).setCell ⟨gb247, 1, none⟩ (.int .i64 t249)).setCell ⟨gb247, 2, none⟩ (.int .i64 t250)).setCell ⟨gb247, 3, none⟩ (.int .i64 t251)).setCell ⟨gb247, 4, none⟩ (.int .i64 t252)).setCell ⟨gb247, 5, none⟩ (.string t253))) ?hg ?ho ?hn ?hr ?_; (case ho => rfl); (case hg => rfl); (case hn => rfl); (case hr => first | (go_simp; done) | (go_simp; rfl)); intro w16 hw; replace BK246 : Aside0 (w16.heap[gb246]? = some (.cells #[.int .i64 a0_0, .int .i64 a0_1, .int .i64 a0_2, .int .i64 a0_3, .int .i64 a0_4, .string a0_5] 54 (0, 0))) := ⟨(by rw [hw]; exact (by (with_reducible repeat (first | refine blk_drewN ?_ _ | refine blk_drew ?_ | refine blk_alloc ?_ _)); refine blk_far ?_ NB246_247.out _; (with_reducible repeat (first | refine blk_drewN ?_ _ | refine blk_drew ?_ | refine blk_alloc ?_ _)); refine blk_far ?_ NB246_247.out _; (with_reducible repeat (first | refine blk_drewN ?_ _ | refine blk_drew ?_ | refine blk_alloc ?_ _)); refine blk_far ?_ NB246_247.out _; (with_reducible repeat (first | refine blk_drewN ?_ _ | refine blk_drew ?_ | refine blk_alloc ?_ _)); refine blk_far ?_ NB246_247.out _; (with_reducible repeat (first | refine blk_drewN ?_ _ | refine blk_drew ?_ | refine blk_alloc ?_ _)); refine blk_far ?_ NB246_247.out _; (with_reducible repeat (first | refine blk_drewN ?_ _ | refine blk_drew ?_ | refine blk_alloc ?_ _)); refine blk_far ?_ NB246_247.out _; (with_reducible repeat (first | refine blk_drewN ?_ _ | refine blk_drew ?_ | refine blk_alloc ?_ _)); exact BK246.out))⟩; replace BK247 : Aside0 (w16.heap[gb247]? = some (.cells #[.int .i64 a0_0, .int .i64 t249, .int .i64 t250, .int .i64 t251, .int .i64 t252, .string t253] 36 (0, 0))) := ⟨(by rw [hw]; exact (by (with_reducible repeat (first | refine blk_drewN ?_ _ | refine blk_drew ?_ | refine blk_alloc ?_ _)); refine blk_put (cs := #[.int .i64 a0_0, .int .i64 t249, .int .i64 t250, .int .i64 t251, .int .i64 t252, .string (⟨#[]⟩ : ByteArray)]) ?_ 5 _ rfl; (with_reducible repeat (first | refine blk_drewN ?_ _ | refine blk_drew ?_ | refine blk_alloc ?_ _)); refine blk_put (cs := #[.int .i64 a0_0, .int .i64 t249, .int .i64 t250, .int .i64 t251, .int .i64 0, .string (⟨#[]⟩ : ByteArray)]) ?_ 4 _ rfl; (with_reducible repeat (first | refine blk_drewN ?_ _ | refine blk_drew ?_ | refine blk_alloc ?_ _)); refine blk_put (cs := #[.int .i64 a0_0, .int .i64 t249, .int .i64 t250, .int .i64 0, .int .i64 0, .string (⟨#[]⟩ : ByteArray)]) ?_ 3 _ rfl; (with_reducible repeat (first | refine blk_drewN ?_ _ | refine blk_drew ?_ | refine blk_alloc ?_ _)); refine blk_put (cs := #[.int .i64 a0_0, .int .i64 t249, .int .i64 0, .int .i64 0, .int .i64 0, .string (⟨#[]⟩ : ByteArray)]) ?_ 2 _ rfl; (with_reducible repeat (first | refine blk_drewN ?_ _ | refine blk_drew ?_ | refine blk_alloc ?_ _)); refine blk_put (cs := #[.int .i64 a0_0, .int .i64 0, .int .i64 0, .int .i64 0, .int .i64 0, .string (⟨#[]⟩ : ByteArray)]) ?_ 1 _ rfl; (with_reducible repeat (first | refine blk_drewN ?_ _ | refine blk_drew ?_ | refine blk_alloc ?_ _)); refine blk_put (cs := #[.int .i64 0, .int .i64 0, .int .i64 0, .int .i64 0, .int .i64 0, .string (⟨#[]⟩ : ByteArray)]) ?_ 0 _ rfl; (with_reducible repeat (first | refine blk_drewN ?_ _ | refine blk_drew ?_ | refine blk_alloc ?_ _)); exact BK247.out))⟩; replace BK248 : Aside0 (w16.heap[gb248]? = some (.cells #[.int .i64 a0_0, .int .i64 t249, .int .i64 t250, .int .i64 t251, .int .i64 t252, .string t253] 36 (0, 0))) := ⟨(by rw [hw]; exact (by (with_reducible repeat (first | refine blk_drewN ?_ _ | refine blk_drew ?_ | refine blk_alloc ?_ _)); refine blk_far ?_ NB248_247.out _; (with_reducible repeat (first | refine blk_drewN ?_ _ | refine blk_drew ?_ | refine blk_alloc ?_ _)); refine blk_far ?_ NB248_247.out _; (with_reducible repeat (first | refine blk_drewN ?_ _ | refine blk_drew ?_ | refine blk_alloc ?_ _)); refine blk_far ?_ NB248_247.out _; (with_reducible repeat (first | refine blk_drewN ?_ _ | refine blk_drew ?_ | refine blk_alloc ?_ _)); refine blk_far ?_ NB248_247.out _; (with_reducible repeat (first | refine blk_drewN ?_ _ | refine blk_drew ?_ | refine blk_alloc ?_ _)); refine blk_far ?_ NB248_247.out _; (with_reducible repeat (first | refine blk_drewN ?_ _ | refine blk_drew ?_ | refine blk_alloc ?_ _)); refine blk_far ?_ NB248_247.out _; (with_reducible repeat (first | refine blk_drewN ?_ _ | refine blk_drew ?_ | refine blk_alloc ?_ _)); exact BK248.out))⟩; replace HB : Aside0 (Below w.heap.size w w16) := ⟨(by rw [hw]; exact xbg)⟩; clear hw))
 refine bodyPost_ret (results_cell_row rfl _ _ gb247 36 #[.int .i64 a0_0, .int .i64 t249, .int .i64 t250, .int .i64 t251, .int .i64 t252, .string t253] (0, 0) _ rfl xblk Try.underlying36 rfl (by kernel_rfl)) rfl ?_
 exact ⟨by first | rfl | (simp [errW_none, errW_some] <;> rfl) | (simp [*, errW_none, errW_some] <;> rfl), xbg⟩

end Go.Proofs.Ytnjpfllmcmomoaa.QFnExactHardApply
