-- A walk, by a program of this session.
import Derived.Test.YtnjpfllmcmomoaaQFnExactHardOfx0
import Derived.Test.YtnjpfllmcmomoaaQFnExactHardOfx7
namespace Go.Proofs.Ytnjpfllmcmomoaa.QFnExactHardOf
open Go.RowKit Go.Proofs.YtnjpfllmcmomoaaW.PrintWords Go.Proofs.YtnjpfllmcmomoaaW.PrintLast Go.Proofs.YtnjpfllmcmomoaaW.PrintMore
attribute [local go_sem] max2_int min2_int max_two min_two max_three min_three max_four min_four   -- for this text's walks alone
set_option linter.unusedVariables false
set_option linter.unusedSimpArgs false

/-! ### spec_HardApply: function 31 -/
def spec_HardApply.j0 : Nat → Bool → Int → Int → List (S36) → Int → Int → List (S36) → Option (Int × Int × (List (S36)) × Bool)
 | 0, _, _, _, _, _, _, _ => none
 | k + 1, x7, x215000, x215001, x215002, x224000, x224001, x224002 => if x7 = true then ((spec_HardOk.f k x224000 x224001 x224002).bind fun t234 => (if t234 = true then (some (x224000, x224001, x224002, true)) else ((spec_l6Copy.f x215000 x215001 x215002).bind fun bt235 => (some (bt235.1, bt235.2.1, bt235.2.2, false))))) else ((spec_l6Copy.f x215000 x215001 x215002).bind fun bt240 => (some (bt240.1, bt240.2.1, bt240.2.2, false)))
def spec_HardApply.f (k : Nat) (a0_0 : Int) (a0_1 : Int) (l0_2 : List (S36)) (a1_0 : Int) (a1_1 : Int) (a1_2 : Int) (a1_3 : Int) (a1_4 : Int) (a1_5 : Int) (a1_6 : Int) (a1_7 : Int) (a1_8 : Int) (a1_9 : ByteArray) : Option (Int × Int × (List (S36)) × Bool) := (spec_HardOk.f k a0_0 a0_1 l0_2).bind fun t217 => (if t217 = true then ((spec_l6Copy.f a0_0 a0_1 l0_2).bind fun bt218 => ((spec_RecOk.f k a1_0 a1_1 a1_2 a1_3 a1_4 a1_5 a1_6 a1_7 a1_8 a1_9).bind fun t224 => (if a1_0 = 1 then (if t224 = true then (if a1_1 > a0_0 then (spec_HardApply.j0 k true a0_0 a0_1 l0_2 a1_1 a1_2 bt218.2.2) else (if a1_1 = a0_0 then (if a0_1 = 0 then (spec_HardApply.j0 k true a0_0 a0_1 l0_2 a1_1 a1_2 bt218.2.2) else (spec_HardApply.j0 k (a0_1 == a1_2) a0_0 a0_1 l0_2 a1_1 a1_2 bt218.2.2)) else (spec_HardApply.j0 k false a0_0 a0_1 l0_2 a1_1 a1_2 bt218.2.2))) else (spec_HardApply.j0 k false a0_0 a0_1 l0_2 a1_1 a1_2 bt218.2.2)) else (if a1_0 = 2 then (if t224 = true then (if bt218.2.2.length < 2513169434916 then (spec_HardApply.j0 k (a1_3 == (wrap64 ((l0_2.length : Int) + 1))) a0_0 a0_1 l0_2 bt218.1 bt218.2.1 (bt218.2.2 ++ [(⟨a1_4, (⟨a1_5, a1_6, a1_7, a1_8, a1_9⟩ : S34)⟩ : S36)])) else (none)) else (if bt218.2.2.length < 2513169434916 then (spec_HardApply.j0 k false a0_0 a0_1 l0_2 bt218.1 bt218.2.1 (bt218.2.2 ++ [(⟨a1_4, (⟨a1_5, a1_6, a1_7, a1_8, a1_9⟩ : S34)⟩ : S36)])) else (none))) else (if a1_0 = 3 then (if t224 = true then (if a1_3 ≤ (l0_2.length : Int) then (if 0 ≤ a1_3 then (if a1_3 ≤ (bt218.2.2.length : Int) then (spec_HardApply.j0 k (decide (a1_3 ≤ (l0_2.length : Int))) a0_0 a0_1 l0_2 bt218.1 bt218.2.1 (bt218.2.2.take (a1_3 : Int).toNat)) else (none)) else (none)) else (spec_HardApply.j0 k (decide (a1_3 ≤ (l0_2.length : Int))) a0_0 a0_1 l0_2 bt218.1 bt218.2.1 bt218.2.2)) else (spec_HardApply.j0 k false a0_0 a0_1 l0_2 bt218.1 bt218.2.1 bt218.2.2)) else (spec_HardApply.j0 k t224 a0_0 a0_1 l0_2 bt218.1 bt218.2.1 bt218.2.2)))))) else (some (0, 0, ([] : List (S36)), false)))
set_option maxRecDepth 100000 in
theorem spec_HardApply.mono_l : ∀ k, (∀ y0 y1 y2 y3 y4 y5 y6, LeO (spec_HardApply.j0 k y0 y1 y2 y3 y4 y5 y6) (spec_HardApply.j0 (k + 1) y0 y1 y2 y3 y4 y5 y6))
 | 0 => fun _ _ _ _ _ _ _ r h => by simp [spec_HardApply.j0] at h
 | k + 1 => by
  have ih0 := spec_HardApply.mono_l k
  ·intro y0 y1 y2 y3 y4 y5 y6
   unfold spec_HardApply.j0
   repeat' first
   | (with_reducible exact ih0 _ _ _ _ _ _ _)
   | (with_reducible exact spec_HardOk.mono _ _ _ _)
   | (with_reducible exact spec_RecOk.mono _ _ _ _ _ _ _ _ _ _ _)
   | (with_reducible exact LeO.refl _)
   | (with_reducible exact LeO.none _)
   | (with_reducible refine LeO.ite ?_ ?_)
   | (with_reducible refine LeO.bind ?_ (fun _ => ?_))
   | exact ih0 _ _ _ _ _ _ _
   | exact spec_HardOk.mono _ _ _ _
   | exact spec_RecOk.mono _ _ _ _ _ _ _ _ _ _ _
   | exact LeO.none _
   | refine LeO.ite ?_ ?_
   | refine LeO.bind ?_ (fun _ => ?_)
theorem spec_HardApply.mono : ∀ a0 a1 a2 a3 a4 a5 a6 a7 a8 a9 a10 a11 a12 k, LeO (spec_HardApply.f k a0 a1 a2 a3 a4 a5 a6 a7 a8 a9 a10 a11 a12) (spec_HardApply.f (k + 1) a0 a1 a2 a3 a4 a5 a6 a7 a8 a9 a10 a11 a12) := by
 intro a0 a1 a2 a3 a4 a5 a6 a7 a8 a9 a10 a11 a12 k
 have ih0 := spec_HardApply.mono_l k
 unfold spec_HardApply.f
 repeat' first
  | (with_reducible exact ih0 _ _ _ _ _ _ _)
  | (with_reducible exact spec_HardOk.mono _ _ _ _)
  | (with_reducible exact spec_RecOk.mono _ _ _ _ _ _ _ _ _ _ _)
  | (with_reducible exact LeO.refl _)
  | (with_reducible exact LeO.none _)
  | (with_reducible refine LeO.ite ?_ ?_)
  | (with_reducible refine LeO.bind ?_ (fun _ => ?_))
  | exact ih0 _ _ _ _ _ _ _
  | exact spec_HardOk.mono _ _ _ _
  | exact spec_RecOk.mono _ _ _ _ _ _ _ _ _ _ _
  | exact LeO.none _
  | refine LeO.ite ?_ ?_
  | refine LeO.bind ?_ (fun _ => ?_)
set_option maxHeartbeats 8000000 in
set_option maxRecDepth 100000 in
theorem spec_HardApply.calls (k : Nat) (a0_0 : Int) (a0_1 : Int) (A0_2 : Option Addr) (c0_2 : Nat) (l0_2 : List (S36)) (a1_0 : Int) (a1_1 : Int) (a1_2 : Int) (a1_3 : Int) (a1_4 : Int) (a1_5 : Int) (a1_6 : Int) (a1_7 : Int) (a1_8 : Int) (a1_9 : ByteArray) (r1 : Int) (r2 : Int) (r3 : List (S36)) (r4 : Bool) (w : World) (hr0_2 : Kd.C k36 w A0_2 l0_2.length l0_2) (hc0_2 : l0_2.length ≤ c0_2) (h : spec_HardApply.f k a0_0 a0_1 l0_2 a1_0 a1_1 a1_2 a1_3 a1_4 a1_5 a1_6 a1_7 a1_8 a1_9 = some (r1, r2, r3, r4)) :
 Calls Try.prog 31 #[.agg #[.int .i64 a0_0, .int .i64 a0_1, .slice A0_2 l0_2.length c0_2], .agg #[.int .i64 a1_0, .int .i64 a1_1, .int .i64 a1_2, .int .i64 a1_3, .int .i64 a1_4, .int .i64 a1_5, .int .i64 a1_6, .int .i64 a1_7, .int .i64 a1_8, .string a1_9]] w fun e w' => ∃ v2_ : Value, e = .returned (.tuple #[.agg #[.int .i64 r1, .int .i64 r2, v2_], .bool r4]) ∧ Kd.R k36 36 w' w.heap.size (fun _ => True) v2_ r3 ∧ Below w.heap.size w w' := by
 have hu28 := Try.underlying28
 have hu38 := Try.underlying38
 have hu36 := Try.underlying36
 have HR0_2 := aM hr0_2
 have HC0_2 := aM hc0_2
 clear hr0_2 hc0_2
 have HB := aM (Below.refl w.heap.size w)
 have H : ((spec_HardOk.f k a0_0 a0_1 l0_2).bind fun t217 => (if t217 = true then ((spec_l6Copy.f a0_0 a0_1 l0_2).bind fun bt218 => ((spec_RecOk.f k a1_0 a1_1 a1_2 a1_3 a1_4 a1_5 a1_6 a1_7 a1_8 a1_9).bind fun t224 => (if a1_0 = 1 then (if t224 = true then (if a1_1 > a0_0 then (spec_HardApply.j0 k true a0_0 a0_1 l0_2 a1_1 a1_2 bt218.2.2) else (if a1_1 = a0_0 then (if a0_1 = 0 then (spec_HardApply.j0 k true a0_0 a0_1 l0_2 a1_1 a1_2 bt218.2.2) else (spec_HardApply.j0 k (a0_1 == a1_2) a0_0 a0_1 l0_2 a1_1 a1_2 bt218.2.2)) else (spec_HardApply.j0 k false a0_0 a0_1 l0_2 a1_1 a1_2 bt218.2.2))) else (spec_HardApply.j0 k false a0_0 a0_1 l0_2 a1_1 a1_2 bt218.2.2)) else (if a1_0 = 2 then (if t224 = true then (if bt218.2.2.length < 2513169434916 then (spec_HardApply.j0 k (a1_3 == (wrap64 ((l0_2.length : Int) + 1))) a0_0 a0_1 l0_2 bt218.1 bt218.2.1 (bt218.2.2 ++ [(⟨a1_4, (⟨a1_5, a1_6, a1_7, a1_8, a1_9⟩ : S34)⟩ : S36)])) else (none)) else (if bt218.2.2.length < 2513169434916 then (spec_HardApply.j0 k false a0_0 a0_1 l0_2 bt218.1 bt218.2.1 (bt218.2.2 ++ [(⟨a1_4, (⟨a1_5, a1_6, a1_7, a1_8, a1_9⟩ : S34)⟩ : S36)])) else (none))) else (if a1_0 = 3 then (if t224 = true then (if a1_3 ≤ (l0_2.length : Int) then (if 0 ≤ a1_3 then (if a1_3 ≤ (bt218.2.2.length : Int) then (spec_HardApply.j0 k (decide (a1_3 ≤ (l0_2.length : Int))) a0_0 a0_1 l0_2 bt218.1 bt218.2.1 (bt218.2.2.take (a1_3 : Int).toNat)) else (none)) else (none)) else (spec_HardApply.j0 k (decide (a1_3 ≤ (l0_2.length : Int))) a0_0 a0_1 l0_2 bt218.1 bt218.2.1 bt218.2.2)) else (spec_HardApply.j0 k false a0_0 a0_1 l0_2 bt218.1 bt218.2.1 bt218.2.2)) else (spec_HardApply.j0 k t224 a0_0 a0_1 l0_2 bt218.1 bt218.2.1 bt218.2.2)))))) else (some (0, 0, ([] : List (S36)), false)))) = some (r1, r2, r3, r4) := h
 clear h
 replace H := Option.bind_eq_some_iff.mp H
 obtain ⟨t217, A30, H⟩ := H
 replace H : (if t217 = true then ((spec_l6Copy.f a0_0 a0_1 l0_2).bind fun bt218 => ((spec_RecOk.f k a1_0 a1_1 a1_2 a1_3 a1_4 a1_5 a1_6 a1_7 a1_8 a1_9).bind fun t224 => (if a1_0 = 1 then (if t224 = true then (if a1_1 > a0_0 then (spec_HardApply.j0 k true a0_0 a0_1 l0_2 a1_1 a1_2 bt218.2.2) else (if a1_1 = a0_0 then (if a0_1 = 0 then (spec_HardApply.j0 k true a0_0 a0_1 l0_2 a1_1 a1_2 bt218.2.2) else (spec_HardApply.j0 k (a0_1 == a1_2) a0_0 a0_1 l0_2 a1_1 a1_2 bt218.2.2)) else (spec_HardApply.j0 k false a0_0 a0_1 l0_2 a1_1 a1_2 bt218.2.2))) else (spec_HardApply.j0 k false a0_0 a0_1 l0_2 a1_1 a1_2 bt218.2.2)) else (if a1_0 = 2 then (if t224 = true then (if bt218.2.2.length < 2513169434916 then (spec_HardApply.j0 k (a1_3 == (wrap64 ((l0_2.length : Int) + 1))) a0_0 a0_1 l0_2 bt218.1 bt218.2.1 (bt218.2.2 ++ [(⟨a1_4, (⟨a1_5, a1_6, a1_7, a1_8, a1_9⟩ : S34)⟩ : S36)])) else (none)) else (if bt218.2.2.length < 2513169434916 then (spec_HardApply.j0 k false a0_0 a0_1 l0_2 bt218.1 bt218.2.1 (bt218.2.2 ++ [(⟨a1_4, (⟨a1_5, a1_6, a1_7, a1_8, a1_9⟩ : S34)⟩ : S36)])) else (none))) else (if a1_0 = 3 then (if t224 = true then (if a1_3 ≤ (l0_2.length : Int) then (if 0 ≤ a1_3 then (if a1_3 ≤ (bt218.2.2.length : Int) then (spec_HardApply.j0 k (decide (a1_3 ≤ (l0_2.length : Int))) a0_0 a0_1 l0_2 bt218.1 bt218.2.1 (bt218.2.2.take (a1_3 : Int).toNat)) else (none)) else (none)) else (spec_HardApply.j0 k (decide (a1_3 ≤ (l0_2.length : Int))) a0_0 a0_1 l0_2 bt218.1 bt218.2.1 bt218.2.2)) else (spec_HardApply.j0 k false a0_0 a0_1 l0_2 bt218.1 bt218.2.1 bt218.2.2)) else (spec_HardApply.j0 k t224 a0_0 a0_1 l0_2 bt218.1 bt218.2.1 bt218.2.2)))))) else (some (0, 0, ([] : List (S36)), false))) = some (r1, r2, r3, r4) := H
 have A3 := aM A30
 clear A30
 by_cases c4 : t217 = true
 ·subst c4
  have H1 : ((spec_l6Copy.f a0_0 a0_1 l0_2).bind fun bt218 => ((spec_RecOk.f k a1_0 a1_1 a1_2 a1_3 a1_4 a1_5 a1_6 a1_7 a1_8 a1_9).bind fun t224 => (if a1_0 = 1 then (if t224 = true then (if a1_1 > a0_0 then (spec_HardApply.j0 k true a0_0 a0_1 l0_2 a1_1 a1_2 bt218.2.2) else (if a1_1 = a0_0 then (if a0_1 = 0 then (spec_HardApply.j0 k true a0_0 a0_1 l0_2 a1_1 a1_2 bt218.2.2) else (spec_HardApply.j0 k (a0_1 == a1_2) a0_0 a0_1 l0_2 a1_1 a1_2 bt218.2.2)) else (spec_HardApply.j0 k false a0_0 a0_1 l0_2 a1_1 a1_2 bt218.2.2))) else (spec_HardApply.j0 k false a0_0 a0_1 l0_2 a1_1 a1_2 bt218.2.2)) else (if a1_0 = 2 then (if t224 = true then (if bt218.2.2.length < 2513169434916 then (spec_HardApply.j0 k (a1_3 == (wrap64 ((l0_2.length : Int) + 1))) a0_0 a0_1 l0_2 bt218.1 bt218.2.1 (bt218.2.2 ++ [(⟨a1_4, (⟨a1_5, a1_6, a1_7, a1_8, a1_9⟩ : S34)⟩ : S36)])) else (none)) else (if bt218.2.2.length < 2513169434916 then (spec_HardApply.j0 k false a0_0 a0_1 l0_2 bt218.1 bt218.2.1 (bt218.2.2 ++ [(⟨a1_4, (⟨a1_5, a1_6, a1_7, a1_8, a1_9⟩ : S34)⟩ : S36)])) else (none))) else (if a1_0 = 3 then (if t224 = true then (if a1_3 ≤ (l0_2.length : Int) then (if 0 ≤ a1_3 then (if a1_3 ≤ (bt218.2.2.length : Int) then (spec_HardApply.j0 k (decide (a1_3 ≤ (l0_2.length : Int))) a0_0 a0_1 l0_2 bt218.1 bt218.2.1 (bt218.2.2.take (a1_3 : Int).toNat)) else (none)) else (none)) else (spec_HardApply.j0 k (decide (a1_3 ≤ (l0_2.length : Int))) a0_0 a0_1 l0_2 bt218.1 bt218.2.1 bt218.2.2)) else (spec_HardApply.j0 k false a0_0 a0_1 l0_2 bt218.1 bt218.2.1 bt218.2.2)) else (spec_HardApply.j0 k t224 a0_0 a0_1 l0_2 bt218.1 bt218.2.1 bt218.2.2)))))) = some (r1, r2, r3, r4) := by rw [if_pos rfl] at H; exact H
  clear H; have H := H1; clear H1; replace H := Option.bind_eq_some_iff.mp H
  obtain ⟨⟨t218, t219, t220⟩, A50, H⟩ := H
  replace H : ((spec_RecOk.f k a1_0 a1_1 a1_2 a1_3 a1_4 a1_5 a1_6 a1_7 a1_8 a1_9).bind fun t224 => (if a1_0 = 1 then (if t224 = true then (if a1_1 > a0_0 then (spec_HardApply.j0 k true a0_0 a0_1 l0_2 a1_1 a1_2 t220) else (if a1_1 = a0_0 then (if a0_1 = 0 then (spec_HardApply.j0 k true a0_0 a0_1 l0_2 a1_1 a1_2 t220) else (spec_HardApply.j0 k (a0_1 == a1_2) a0_0 a0_1 l0_2 a1_1 a1_2 t220)) else (spec_HardApply.j0 k false a0_0 a0_1 l0_2 a1_1 a1_2 t220))) else (spec_HardApply.j0 k false a0_0 a0_1 l0_2 a1_1 a1_2 t220)) else (if a1_0 = 2 then (if t224 = true then (if t220.length < 2513169434916 then (spec_HardApply.j0 k (a1_3 == (wrap64 ((l0_2.length : Int) + 1))) a0_0 a0_1 l0_2 t218 t219 (t220 ++ [(⟨a1_4, (⟨a1_5, a1_6, a1_7, a1_8, a1_9⟩ : S34)⟩ : S36)])) else (none)) else (if t220.length < 2513169434916 then (spec_HardApply.j0 k false a0_0 a0_1 l0_2 t218 t219 (t220 ++ [(⟨a1_4, (⟨a1_5, a1_6, a1_7, a1_8, a1_9⟩ : S34)⟩ : S36)])) else (none))) else (if a1_0 = 3 then (if t224 = true then (if a1_3 ≤ (l0_2.length : Int) then (if 0 ≤ a1_3 then (if a1_3 ≤ (t220.length : Int) then (spec_HardApply.j0 k (decide (a1_3 ≤ (l0_2.length : Int))) a0_0 a0_1 l0_2 t218 t219 (t220.take (a1_3 : Int).toNat)) else (none)) else (none)) else (spec_HardApply.j0 k (decide (a1_3 ≤ (l0_2.length : Int))) a0_0 a0_1 l0_2 t218 t219 t220)) else (spec_HardApply.j0 k false a0_0 a0_1 l0_2 t218 t219 t220)) else (spec_HardApply.j0 k t224 a0_0 a0_1 l0_2 t218 t219 t220))))) = some (r1, r2, r3, r4) := H; have A5 := aM A50; clear A50
  replace H := Option.bind_eq_some_iff.mp H
  obtain ⟨t224, A60, H⟩ := H
  replace H : (if a1_0 = 1 then (if t224 = true then (if a1_1 > a0_0 then (spec_HardApply.j0 k true a0_0 a0_1 l0_2 a1_1 a1_2 t220) else (if a1_1 = a0_0 then (if a0_1 = 0 then (spec_HardApply.j0 k true a0_0 a0_1 l0_2 a1_1 a1_2 t220) else (spec_HardApply.j0 k (a0_1 == a1_2) a0_0 a0_1 l0_2 a1_1 a1_2 t220)) else (spec_HardApply.j0 k false a0_0 a0_1 l0_2 a1_1 a1_2 t220))) else (spec_HardApply.j0 k false a0_0 a0_1 l0_2 a1_1 a1_2 t220)) else (if a1_0 = 2 then (if t224 = true then (if t220.length < 2513169434916 then (spec_HardApply.j0 k (a1_3 == (wrap64 ((l0_2.length : Int) + 1))) a0_0 a0_1 l0_2 t218 t219 (t220 ++ [(⟨a1_4, (⟨a1_5, a1_6, a1_7, a1_8, a1_9⟩ : S34)⟩ : S36)])) else (none)) else (if t220.length < 2513169434916 then (spec_HardApply.j0 k false a0_0 a0_1 l0_2 t218 t219 (t220 ++ [(⟨a1_4, (⟨a1_5, a1_6, a1_7, a1_8, a1_9⟩ : S34)⟩ : S36)])) else (none))) else (if a1_0 = 3 then (if t224 = true then (if a1_3 ≤ (l0_2.length : Int) then (if 0 ≤ a1_3 then (if a1_3 ≤ (t220.length : Int) then (spec_HardApply.j0 k (decide (a1_3 ≤ (l0_2.length : Int))) a0_0 a0_1 l0_2 t218 t219 (t220.take (a1_3 : Int).toNat)) else (none)) else (none)) else (spec_HardApply.j0 k (decide (a1_3 ≤ (l0_2.length : Int))) a0_0 a0_1 l0_2 t218 t219 t220)) else (spec_HardApply.j0 k false a0_0 a0_1 l0_2 t218 t219 t220)) else (spec_HardApply.j0 k t224 a0_0 a0_1 l0_2 t218 t219 t220)))) = some (r1, r2, r3, r4) := H; have A6 := aM A60; clear A60; have HC7 := aM H; clear H
  go_enter Try.func31, Try.ntmps31
  go_upto_block 0 with (first | ((with_reducible refine gate_dst (N := 2) rfl ?_); (try (refine gate_guard (by rfl) ?_; dsimp only)); refine box_event ?hg (N := 2) ?hd (cs := #[.int .i64 a0_0, .int .i64 a0_1, .slice A0_2 l0_2.length c0_2]) (t := 28) ?hr ?_; (case hd => rfl); (case hg => rfl); (case hr => first | (go_simp; done) | (go_simp; rfl)); intro gb214 hg w8 hbox hb; have BK214 := aM (hbox); have GW214 := aM (xge hg); have GE214 := aM (xge hg); replace HB := xbs hb; clear hb hbox hg) | ((with_reducible refine gate_dst (N := 3) rfl ?_); (try (refine gate_guard (by rfl) ?_; dsimp only)); refine box_event ?hg (N := 3) ?hd (cs := #[.int .i64 a1_0, .int .i64 a1_1, .int .i64 a1_2, .int .i64 a1_3, .int .i64 a1_4, .int .i64 a1_5, .int .i64 a1_6, .int .i64 a1_7, .int .i64 a1_8, .string a1_9]) (t := 38) ?hr ?_; (case hd => rfl); (case hg => rfl); (case hr => first | (go_simp; done) | (go_simp; rfl)); intro gb215 hg w9 hbox hb; have GW215 := aM (xge hg); have GE215 := aM (xge hg); replace HB := xbs hb; have NB214_215 := aM ((by rw [hg]; exact Nat.ne_of_lt (blk_lt (g := gb214) (o := .cells #[.int .i64 a0_0, .int .i64 a0_1, .slice A0_2 l0_2.length c0_2] 28 (0, 0)) xblk) : gb214 ≠ gb215)); have NB215_214 := aM ((by rw [hg]; exact Nat.ne_of_gt (blk_lt (g := gb214) (o := .cells #[.int .i64 a0_0, .int .i64 a0_1, .slice A0_2 l0_2.length c0_2] 28 (0, 0)) xblk) : gb215 ≠ gb214)); replace BK214 := xbb BK214 hb; have BK215 := aM (hbox); clear hb hbox hg) | ((with_reducible refine gate_dst (N := 4) rfl ?_); (try (refine gate_guard (by rfl) ?_; dsimp only)); refine box_event ?hg (N := 4) ?hd (cs := #[.int .i64 0, .int .i64 0, .slice none 0 0]) (t := 28) ?hr ?_; (case hd => rfl); (case hg => rfl); (case hr => first | (go_simp; done) | (go_simp; rfl)); intro gb216 hg w10 hbox hb; have GW216 := aM (xge hg); have GE216 := aM (xge hg); replace HB := xbs hb; have NB214_216 := aM ((by rw [hg]; exact Nat.ne_of_lt (blk_lt (g := gb214) (o := .cells #[.int .i64 a0_0, .int .i64 a0_1, .slice A0_2 l0_2.length c0_2] 28 (0, 0)) xblk) : gb214 ≠ gb216)); have NB216_214 := aM ((by rw [hg]; exact Nat.ne_of_gt (blk_lt (g := gb214) (o := .cells #[.int .i64 a0_0, .int .i64 a0_1, .slice A0_2 l0_2.length c0_2] 28 (0, 0)) xblk) : gb216 ≠ gb214)); have NB215_216 := aM ((by rw [hg]; exact Nat.ne_of_lt (blk_lt (g := gb215) (o := .cells #[.int .i64 a1_0, .int .i64 a1_1, .int .i64 a1_2, .int .i64 a1_3, .int .i64 a1_4, .int .i64 a1_5, .int .i64 a1_6, .int .i64 a1_7, .int .i64 a1_8, .string a1_9] 38 (0, 0)) xblk) : gb215 ≠ gb216)); have NB216_215 := aM ((by rw [hg]; exact Nat.ne_of_gt (blk_lt (g := gb215) (o := .cells #[.int .i64 a1_0, .int .i64 a1_1, .int .i64 a1_2, .int .i64 a1_3, .int .i64 a1_4, .int .i64 a1_5, .int .i64 a1_6, .int .i64 a1_7, .int .i64 a1_8, .string a1_9] 38 (0, 0)) xblk) : gb216 ≠ gb215)); replace BK214 := xbb BK214 hb; replace BK215 := xbb BK215 hb; have BK216 := aM (hbox); clear hb hbox hg; have hnb11 := NB214_215.out; have hnc11 := NB215_214.out; have hnb12 := NB214_216.out; have hnc12 := NB216_214.out; obtain ⟨hcz13_0, hcz13_1, hcz13_2, hfz13_0, hfz13_1, hfz13_2⟩ := xf3 (w := w10) BK214) | ((with_reducible refine gate_callee (f := 98) rfl ?_); refine goesL_ (some 9) rfl rfl Try.func98 (by kernel_rfl) rfl #[.agg #[.int .i64 a0_0, .int .i64 a0_1, .slice A0_2 l0_2.length c0_2]] rfl (by (try simp only [List.map_toArray, List.map_cons, List.map_nil]); first | done | rfl | (simp only [List.length_drop, List.length_take]; rfl)) ?_; (with_reducible refine (spec_HardOk.calls k a0_0 a0_1 _ _ l0_2 true _ ?side1 ?side2 A3.out).mono ?_); (case side1 => exact xcb HR0_2); (case side2 => exact HC0_2.out); rintro e w14 ⟨rfl, hb⟩; refine ⟨_, rfl, ?_⟩; replace BK214 := xbb BK214 hb; replace BK215 := xbb BK215 hb; replace BK216 := xbb BK216 hb; replace HB := xbs hb; (try clear hb); (try clear hb2); (try clear hk); (try clear hi); obtain ⟨hcz15_0, hcz15_1, hcz15_2, hfz15_0, hfz15_1, hfz15_2⟩ := xf3 (w := w14) BK214) | ((with_reducible refine gate_callee (f := 99) rfl ?_); refine goesL_ (some 13) rfl rfl Try.func99 (by kernel_rfl) rfl #[.agg #[.int .i64 a0_0, .int .i64 a0_1, .slice A0_2 l0_2.length c0_2]] rfl (by (try simp only [List.map_toArray, List.map_cons, List.map_nil]); first | done | rfl | (simp only [List.length_drop, List.length_take]; rfl)) ?_; (with_reducible refine (spec_l6Copy.calls a0_0 a0_1 _ _ l0_2 t218 t219 t220 _ ?side1 ?side2 A5.out).mono ?_); (case side1 => exact xcb HR0_2); (case side2 => exact HC0_2.out); rintro e w16 ⟨v221, rfl, ho0, hb⟩; refine ⟨_, rfl, ?_⟩; have HO222 := aM (Kd.R_lower ho0 (below_size xbg)); replace BK214 := xbb BK214 hb; replace BK215 := xbb BK215 hb; replace BK216 := xbb BK216 hb; replace HB := xbs hb; (try clear hb); (try clear hb2); (try clear hk); (try clear hi); (try clear ho0)) | ((with_reducible refine gate_dst (N := 6) rfl ?_); (try (refine gate_guard (by rfl) ?_; dsimp only)); refine box_event ?hg (N := 6) ?hd (cs := #[.int .i64 0, .int .i64 0, .slice none 0 0]) (t := 28) ?hr ?_; (case hd => rfl); (case hg => rfl); (case hr => first | (go_simp; done) | (go_simp; rfl)); intro gb223 hg w17 hbox hb; replace HO222 := aM (Kd.R_below (xr HO222) hb); have GW223 := aM (xge hg); have GE223 := aM (xge hg); replace HB := xbs hb; have NB214_223 := aM ((by rw [hg]; exact Nat.ne_of_lt (blk_lt (g := gb214) (o := .cells #[.int .i64 a0_0, .int .i64 a0_1, .slice A0_2 l0_2.length c0_2] 28 (0, 0)) xblk) : gb214 ≠ gb223)); have NB223_214 := aM ((by rw [hg]; exact Nat.ne_of_gt (blk_lt (g := gb214) (o := .cells #[.int .i64 a0_0, .int .i64 a0_1, .slice A0_2 l0_2.length c0_2] 28 (0, 0)) xblk) : gb223 ≠ gb214)); have NB215_223 := aM ((by rw [hg]; exact Nat.ne_of_lt (blk_lt (g := gb215) (o := .cells #[.int .i64 a1_0, .int .i64 a1_1, .int .i64 a1_2, .int .i64 a1_3, .int .i64 a1_4, .int .i64 a1_5, .int .i64 a1_6, .int .i64 a1_7, .int .i64 a1_8, .string a1_9] 38 (0, 0)) xblk) : gb215 ≠ gb223)); have NB223_215 := aM ((by rw [hg]; exact Nat.ne_of_gt (blk_lt (g := gb215) (o := .cells #[.int .i64 a1_0, .int .i64 a1_1, .int .i64 a1_2, .int .i64 a1_3, .int .i64 a1_4, .int .i64 a1_5, .int .i64 a1_6, .int .i64 a1_7, .int .i64 a1_8, .string a1_9] 38 (0, 0)) xblk) : gb223 ≠ gb215)); have NB216_223 := aM ((by rw [hg]; exact Nat.ne_of_lt (blk_lt (g := gb216) (o := .cells #[.int .i64 0, .int .i64 0, .slice none 0 0] 28 (0, 0)) xblk) : gb216 ≠ gb223)); have NB223_216 := aM ((by rw [hg]; exact Nat.ne_of_gt (blk_lt (g := gb216) (o := .cells #[.int .i64 0, .int .i64 0, .slice none 0 0] 28 (0, 0)) xblk) : gb223 ≠ gb216)); replace BK214 := xbb BK214 hb; replace BK215 := xbb BK215 hb; replace BK216 := xbb BK216 hb; have BK223 := aM (hbox); clear hb hbox hg; have hnb18 := NB223_214.out; have hnc18 := NB214_223.out; have hnb19 := NB223_215.out; have hnc19 := NB215_223.out; have hnb20 := NB223_216.out; have hnc20 := NB216_223.out; obtain ⟨hcz21_0, hcz21_1, hcz21_2, hfz21_0, hfz21_1, hfz21_2⟩ := xf3 (w := w17) BK223; obtain ⟨Ao22, co22, eo22⟩ := Kd.R_slice HO222.out; subst eo22; have hnb23 := NB215_216.out; have hnc23 := NB216_215.out; obtain ⟨hcz24_0, hcz24_1, hcz24_2, hcz24_3, hcz24_4, hcz24_5, hcz24_6, hcz24_7, hcz24_8, hcz24_9, hfz24_0, hfz24_1, hfz24_2, hfz24_3, hfz24_4, hfz24_5, hfz24_6, hfz24_7, hfz24_8, hfz24_9⟩ := xf10 (w := w17) BK215) | ((with_reducible refine gate_callee (f := 69) rfl ?_); refine goesL_ (some 15) rfl rfl Try.func69 (by kernel_rfl) rfl #[.agg #[.int .i64 a1_0, .int .i64 a1_1, .int .i64 a1_2, .int .i64 a1_3, .int .i64 a1_4, .int .i64 a1_5, .int .i64 a1_6, .int .i64 a1_7, .int .i64 a1_8, .string a1_9]] rfl (by (try simp only [List.map_toArray, List.map_cons, List.map_nil]); first | done | rfl | (simp only [List.length_drop, List.length_take]; rfl)) ?_; (with_reducible refine (spec_RecOk.calls k a1_0 a1_1 a1_2 a1_3 a1_4 a1_5 a1_6 a1_7 a1_8 a1_9 t224 _ A6.out).mono ?_); rintro e w25 ⟨rfl, hb⟩; refine ⟨_, rfl, ?_⟩; replace HO222 := aM (Kd.R_below (xrt (Kd.R_mono (Kd.R_far (p := ⟨gb223, 2, none⟩) (Kd.R_far (p := ⟨gb223, 1, none⟩) (Kd.R_far (p := ⟨gb223, 0, none⟩) (Kd.R_types HO222.out BK223.out (by decide)) (fun _ hk => hk.2) (.int .i64 t218)) (fun _ hk => hk.2) (.int .i64 t219)) (fun _ hk => hk.2) (.slice Ao22 t220.length co22)) (fun _ h_ => h_.1))) hb); replace BK214 := aM (blk_below (g := gb214) (o := .cells #[.int .i64 a0_0, .int .i64 a0_1, .slice A0_2 l0_2.length c0_2] 28 (0, 0)) (by (with_reducible repeat (first | refine blk_drewN ?_ _ | refine blk_drew ?_ | refine blk_alloc ?_ _)); refine blk_far ?_ NB214_223.out _; (with_reducible repeat (first | refine blk_drewN ?_ _ | refine blk_drew ?_ | refine blk_alloc ?_ _)); refine blk_far ?_ NB214_223.out _; (with_reducible repeat (first | refine blk_drewN ?_ _ | refine blk_drew ?_ | refine blk_alloc ?_ _)); refine blk_far ?_ NB214_223.out _; (with_reducible repeat (first | refine blk_drewN ?_ _ | refine blk_drew ?_ | refine blk_alloc ?_ _)); exact BK214.out) hb); replace BK215 := aM (blk_below (g := gb215) (o := .cells #[.int .i64 a1_0, .int .i64 a1_1, .int .i64 a1_2, .int .i64 a1_3, .int .i64 a1_4, .int .i64 a1_5, .int .i64 a1_6, .int .i64 a1_7, .int .i64 a1_8, .string a1_9] 38 (0, 0)) (by (with_reducible repeat (first | refine blk_drewN ?_ _ | refine blk_drew ?_ | refine blk_alloc ?_ _)); refine blk_far ?_ NB215_223.out _; (with_reducible repeat (first | refine blk_drewN ?_ _ | refine blk_drew ?_ | refine blk_alloc ?_ _)); refine blk_far ?_ NB215_223.out _; (with_reducible repeat (first | refine blk_drewN ?_ _ | refine blk_drew ?_ | refine blk_alloc ?_ _)); refine blk_far ?_ NB215_223.out _; (with_reducible repeat (first | refine blk_drewN ?_ _ | refine blk_drew ?_ | refine blk_alloc ?_ _)); exact BK215.out) hb); replace BK216 := aM (blk_below (g := gb216) (o := .cells #[.int .i64 0, .int .i64 0, .slice none 0 0] 28 (0, 0)) (by (with_reducible repeat (first | refine blk_drewN ?_ _ | refine blk_drew ?_ | refine blk_alloc ?_ _)); refine blk_far ?_ NB216_223.out _; (with_reducible repeat (first | refine blk_drewN ?_ _ | refine blk_drew ?_ | refine blk_alloc ?_ _)); refine blk_far ?_ NB216_223.out _; (with_reducible repeat (first | refine blk_drewN ?_ _ | refine blk_drew ?_ | refine blk_alloc ?_ _)); refine blk_far ?_ NB216_223.out _; (with_reducible repeat (first | refine blk_drewN ?_ _ | refine blk_drew ?_ | refine blk_alloc ?_ _)); exact BK216.out) hb); replace BK223 := aM (blk_below (g := gb223) (o := .cells #[.int .i64 t218, .int .i64 t219, .slice Ao22 t220.length co22] 28 (0, 0)) (by (with_reducible repeat (first | refine blk_drewN ?_ _ | refine blk_drew ?_ | refine blk_alloc ?_ _)); refine blk_put (cs := #[.int .i64 t218, .int .i64 t219, .slice none 0 0]) ?_ 2 _ rfl; (with_reducible repeat (first | refine blk_drewN ?_ _ | refine blk_drew ?_ | refine blk_alloc ?_ _)); refine blk_put (cs := #[.int .i64 t218, .int .i64 0, .slice none 0 0]) ?_ 1 _ rfl; (with_reducible repeat (first | refine blk_drewN ?_ _ | refine blk_drew ?_ | refine blk_alloc ?_ _)); refine blk_put (cs := #[.int .i64 0, .int .i64 0, .slice none 0 0]) ?_ 0 _ rfl; (with_reducible repeat (first | refine blk_drewN ?_ _ | refine blk_drew ?_ | refine blk_alloc ?_ _)); exact BK223.out) hb); replace HB := xbs hb; (try clear hb); (try clear hb2); (try clear hk); (try clear hi); obtain ⟨hcz26_0, hcz26_1, hcz26_2, hcz26_3, hcz26_4, hcz26_5, hcz26_6, hcz26_7, hcz26_8, hcz26_9, hfz26_0, hfz26_1, hfz26_2, hfz26_3, hfz26_4, hfz26_5, hfz26_6, hfz26_7, hfz26_8, hfz26_9⟩ := xf10 (w := w25) BK215))
  (try simp only [Act.put, List.setIfInBounds_toArray, List.set_cons_zero, List.set_cons_succ])
  go_cut [7] (fun v7 wc => ∃ (kq : Nat) (x7_6 : Bool) (x224000_6 : Int) (x224001_6 : Int) (x224002_6 : List (S36)) (u224002 : Value), v7 = .bool x7_6 ∧ Aside0 (spec_HardApply.j0 kq x7_6 a0_0 a0_1 l0_2 x224000_6 x224001_6 x224002_6 = some (r1, r2, r3, r4)) ∧ Aside0 (kq ≤ k) ∧ Aside0 (Kd.R k36 36 wc w.heap.size (fun _ => True) u224002 x224002_6) ∧ Aside0 (wc.heap[gb214]? = some (.cells #[.int .i64 a0_0, .int .i64 a0_1, (.slice A0_2 l0_2.length c0_2)] 28 (0, 0))) ∧ Aside0 (wc.heap[gb215]? = some (.cells #[.int .i64 a1_0, .int .i64 a1_1, .int .i64 a1_2, .int .i64 a1_3, .int .i64 a1_4, .int .i64 a1_5, .int .i64 a1_6, .int .i64 a1_7, .int .i64 a1_8, .string a1_9] 38 (0, 0))) ∧ Aside0 (wc.heap[gb216]? = some (.cells #[.int .i64 0, .int .i64 0, (.slice none 0 0)] 28 (0, 0))) ∧ Aside0 (wc.heap[gb223]? = some (.cells #[.int .i64 x224000_6, .int .i64 x224001_6, u224002] 28 (0, 0))) ∧ Aside0 (Below w.heap.size w wc))
  case first =>
   have H := HC7.out; clear HC7
   by_cases c27 : a1_0 = 1
   ·rw [if_pos c27] at H
    have c27b0 : (a1_0 == 1) = true := beq_iff_eq.mpr c27; have c27b1 : (a1_0 != 1) = false := bne_eq_false_iff_eq.mpr c27; clear c27
    (first | rw [c27b0] | (simp only [i64_w, i32_w]; rw [c27b0]) | skip)
    by_cases c28 : t224 = true
    ·subst c28
     have H1 : (if a1_1 > a0_0 then (spec_HardApply.j0 k true a0_0 a0_1 l0_2 a1_1 a1_2 t220) else (if a1_1 = a0_0 then (if a0_1 = 0 then (spec_HardApply.j0 k true a0_0 a0_1 l0_2 a1_1 a1_2 t220) else (spec_HardApply.j0 k (a0_1 == a1_2) a0_0 a0_1 l0_2 a1_1 a1_2 t220)) else (spec_HardApply.j0 k false a0_0 a0_1 l0_2 a1_1 a1_2 t220))) = some (r1, r2, r3, r4) := by rw [if_pos rfl] at H; exact H
     clear H; have H := H1; clear H1
     by_cases c29 : a1_1 > a0_0
     ·rw [if_pos c29] at H
      have c29b0 : decide (a0_0 < a1_1) = true := decide_eq_true c29; clear c29
      have H' := aM H
      clear H; have hnb30 := NB215_214.out; have hnc30 := NB214_215.out; have hnb31 := NB215_216.out; have hnc31 := NB216_215.out; have hnb32 := NB215_223.out; have hnc32 := NB223_215.out; obtain ⟨hcz33_0, hcz33_1, hcz33_2, hcz33_3, hcz33_4, hcz33_5, hcz33_6, hcz33_7, hcz33_8, hcz33_9, hfz33_0, hfz33_1, hfz33_2, hfz33_3, hfz33_4, hfz33_5, hfz33_6, hfz33_7, hfz33_8, hfz33_9⟩ := xf10 (w := w25) BK215; have hnb34 := NB214_216.out; have hnc34 := NB216_214.out; have hnb35 := NB214_223.out
      have hnc35 := NB223_214.out; obtain ⟨hcz36_0, hcz36_1, hcz36_2, hfz36_0, hfz36_1, hfz36_2⟩ := xf3 (w := w25) BK214; have hnb37 := NB223_216.out; have hnc37 := NB216_223.out; obtain ⟨hcz38_0, hcz38_1, hcz38_2, hfz38_0, hfz38_1, hfz38_2⟩ := xf3 (w := w25) BK223
      go_wp2
      go_meet
      case rel => exact ⟨_, (true), (a1_1), (a1_2), (t220), (.slice Ao22 t220.length co22), (by first | rfl | (simp; done) | (simp [*]; done)), H', ⟨by first | omega | exact Nat.le_refl _⟩, ⟨by (with_reducible repeat (first | apply Kd.R_alloc | apply Kd.R_drewN | apply Kd.R_drew)); exact Kd.R_mono (Kd.R_far (p := ⟨gb223, 1, none⟩) (Kd.R_far (p := ⟨gb223, 0, none⟩) (Kd.R_types HO222.out BK223.out (by decide)) (fun _ hk => hk.2) (.int .i64 a1_1)) (fun _ hk => hk.2) (.int .i64 a1_2)) (fun _ hk => trivial)⟩, ⟨by (with_reducible repeat (first | refine blk_drewN ?_ _ | refine blk_drew ?_ | refine blk_alloc ?_ _)); refine blk_far ?_ NB214_223.out _; (with_reducible repeat (first | refine blk_drewN ?_ _ | refine blk_drew ?_ | refine blk_alloc ?_ _)); refine blk_far ?_ NB214_223.out _; (with_reducible repeat (first | refine blk_drewN ?_ _ | refine blk_drew ?_ | refine blk_alloc ?_ _)); exact BK214.out⟩, ⟨by (with_reducible repeat (first | refine blk_drewN ?_ _ | refine blk_drew ?_ | refine blk_alloc ?_ _)); refine blk_far ?_ NB215_223.out _; (with_reducible repeat (first | refine blk_drewN ?_ _ | refine blk_drew ?_ | refine blk_alloc ?_ _)); refine blk_far ?_ NB215_223.out _; (with_reducible repeat (first | refine blk_drewN ?_ _ | refine blk_drew ?_ | refine blk_alloc ?_ _)); exact BK215.out⟩, ⟨by (with_reducible repeat (first | refine blk_drewN ?_ _ | refine blk_drew ?_ | refine blk_alloc ?_ _)); refine blk_far ?_ NB216_223.out _; (with_reducible repeat (first | refine blk_drewN ?_ _ | refine blk_drew ?_ | refine blk_alloc ?_ _)); refine blk_far ?_ NB216_223.out _; (with_reducible repeat (first | refine blk_drewN ?_ _ | refine blk_drew ?_ | refine blk_alloc ?_ _)); exact BK216.out⟩, ⟨by (with_reducible repeat (first | refine blk_drewN ?_ _ | refine blk_drew ?_ | refine blk_alloc ?_ _)); refine blk_put (cs := #[.int .i64 a1_1, .int .i64 t219, .slice Ao22 t220.length co22]) ?_ 1 _ rfl; (with_reducible repeat (first | refine blk_drewN ?_ _ | refine blk_drew ?_ | refine blk_alloc ?_ _)); refine blk_put (cs := #[.int .i64 t218, .int .i64 t219, .slice Ao22 t220.length co22]) ?_ 0 _ rfl; (with_reducible repeat (first | refine blk_drewN ?_ _ | refine blk_drew ?_ | refine blk_alloc ?_ _)); exact BK223.out⟩, ⟨xbg⟩⟩
     ·rw [if_neg c29] at H
      have c29b0 : decide (a0_0 < a1_1) = false := decide_eq_false c29; clear c29
      by_cases c39 : a1_1 = a0_0
      ·rw [if_pos c39] at H
       have c39b0 : (a1_1 == a0_0) = true := beq_iff_eq.mpr c39; have c39b1 : (a1_1 != a0_0) = false := bne_eq_false_iff_eq.mpr c39; clear c39
       by_cases c40 : a0_1 = 0
       ·rw [if_pos c40] at H
        have c40b0 : (a0_1 == 0) = true := beq_iff_eq.mpr c40; have c40b1 : (a0_1 != 0) = false := bne_eq_false_iff_eq.mpr c40; clear c40
        have H' := aM H
        clear H; have hnb41 := NB215_214.out; have hnc41 := NB214_215.out; have hnb42 := NB215_216.out; have hnc42 := NB216_215.out; have hnb43 := NB215_223.out; have hnc43 := NB223_215.out; obtain ⟨hcz44_0, hcz44_1, hcz44_2, hcz44_3, hcz44_4, hcz44_5, hcz44_6, hcz44_7, hcz44_8, hcz44_9, hfz44_0, hfz44_1, hfz44_2, hfz44_3, hfz44_4, hfz44_5, hfz44_6, hfz44_7, hfz44_8, hfz44_9⟩ := xf10 (w := w25) BK215; have hnb45 := NB214_216.out; have hnc45 := NB216_214.out; have hnb46 := NB214_223.out
        have hnc46 := NB223_214.out; obtain ⟨hcz47_0, hcz47_1, hcz47_2, hfz47_0, hfz47_1, hfz47_2⟩ := xf3 (w := w25) BK214; have hnb48 := NB223_216.out; have hnc48 := NB216_223.out; obtain ⟨hcz49_0, hcz49_1, hcz49_2, hfz49_0, hfz49_1, hfz49_2⟩ := xf3 (w := w25) BK223
        go_wp2
        go_meet
        case rel => exact ⟨_, (true), (a1_1), (a1_2), (t220), (.slice Ao22 t220.length co22), (by first | rfl | (simp; done) | (simp [*]; done)), H', ⟨by first | omega | exact Nat.le_refl _⟩, ⟨by (with_reducible repeat (first | apply Kd.R_alloc | apply Kd.R_drewN | apply Kd.R_drew)); exact Kd.R_mono (Kd.R_far (p := ⟨gb223, 1, none⟩) (Kd.R_far (p := ⟨gb223, 0, none⟩) (Kd.R_types HO222.out BK223.out (by decide)) (fun _ hk => hk.2) (.int .i64 a1_1)) (fun _ hk => hk.2) (.int .i64 a1_2)) (fun _ hk => trivial)⟩, ⟨by (with_reducible repeat (first | refine blk_drewN ?_ _ | refine blk_drew ?_ | refine blk_alloc ?_ _)); refine blk_far ?_ NB214_223.out _; (with_reducible repeat (first | refine blk_drewN ?_ _ | refine blk_drew ?_ | refine blk_alloc ?_ _)); refine blk_far ?_ NB214_223.out _; (with_reducible repeat (first | refine blk_drewN ?_ _ | refine blk_drew ?_ | refine blk_alloc ?_ _)); exact BK214.out⟩, ⟨by (with_reducible repeat (first | refine blk_drewN ?_ _ | refine blk_drew ?_ | refine blk_alloc ?_ _)); refine blk_far ?_ NB215_223.out _; (with_reducible repeat (first | refine blk_drewN ?_ _ | refine blk_drew ?_ | refine blk_alloc ?_ _)); refine blk_far ?_ NB215_223.out _; (with_reducible repeat (first | refine blk_drewN ?_ _ | refine blk_drew ?_ | refine blk_alloc ?_ _)); exact BK215.out⟩, ⟨by (with_reducible repeat (first | refine blk_drewN ?_ _ | refine blk_drew ?_ | refine blk_alloc ?_ _)); refine blk_far ?_ NB216_223.out _; (with_reducible repeat (first | refine blk_drewN ?_ _ | refine blk_drew ?_ | refine blk_alloc ?_ _)); refine blk_far ?_ NB216_223.out _; (with_reducible repeat (first | refine blk_drewN ?_ _ | refine blk_drew ?_ | refine blk_alloc ?_ _)); exact BK216.out⟩, ⟨by (with_reducible repeat (first | refine blk_drewN ?_ _ | refine blk_drew ?_ | refine blk_alloc ?_ _)); refine blk_put (cs := #[.int .i64 a1_1, .int .i64 t219, .slice Ao22 t220.length co22]) ?_ 1 _ rfl; (with_reducible repeat (first | refine blk_drewN ?_ _ | refine blk_drew ?_ | refine blk_alloc ?_ _)); refine blk_put (cs := #[.int .i64 t218, .int .i64 t219, .slice Ao22 t220.length co22]) ?_ 0 _ rfl; (with_reducible repeat (first | refine blk_drewN ?_ _ | refine blk_drew ?_ | refine blk_alloc ?_ _)); exact BK223.out⟩, ⟨xbg⟩⟩
       ·rw [if_neg c40] at H
        have c40b0 : (a0_1 == 0) = false := beq_eq_false_iff_ne.mpr c40; have c40b1 : (a0_1 != 0) = true := bne_iff_ne.mpr c40
        have H' := aM H
        clear H; have hnb50 := NB215_214.out; have hnc50 := NB214_215.out; have hnb51 := NB215_216.out; have hnc51 := NB216_215.out; have hnb52 := NB215_223.out; have hnc52 := NB223_215.out; obtain ⟨hcz53_0, hcz53_1, hcz53_2, hcz53_3, hcz53_4, hcz53_5, hcz53_6, hcz53_7, hcz53_8, hcz53_9, hfz53_0, hfz53_1, hfz53_2, hfz53_3, hfz53_4, hfz53_5, hfz53_6, hfz53_7, hfz53_8, hfz53_9⟩ := xf10 (w := w25) BK215; have hnb54 := NB214_216.out; have hnc54 := NB216_214.out; have hnb55 := NB214_223.out
        have hnc55 := NB223_214.out; obtain ⟨hcz56_0, hcz56_1, hcz56_2, hfz56_0, hfz56_1, hfz56_2⟩ := xf3 (w := w25) BK214; have hnb57 := NB223_216.out; have hnc57 := NB216_223.out; obtain ⟨hcz58_0, hcz58_1, hcz58_2, hfz58_0, hfz58_1, hfz58_2⟩ := xf3 (w := w25) BK223
        go_wp2
        go_meet
        case rel => exact ⟨_, ((a0_1 == a1_2)), (a1_1), (a1_2), (t220), (.slice Ao22 t220.length co22), (by first | rfl | (simp; done) | (simp [*]; done)), H', ⟨by first | omega | exact Nat.le_refl _⟩, ⟨by (with_reducible repeat (first | apply Kd.R_alloc | apply Kd.R_drewN | apply Kd.R_drew)); exact Kd.R_mono (Kd.R_far (p := ⟨gb223, 1, none⟩) (Kd.R_far (p := ⟨gb223, 0, none⟩) (Kd.R_types HO222.out BK223.out (by decide)) (fun _ hk => hk.2) (.int .i64 a1_1)) (fun _ hk => hk.2) (.int .i64 a1_2)) (fun _ hk => trivial)⟩, ⟨by (with_reducible repeat (first | refine blk_drewN ?_ _ | refine blk_drew ?_ | refine blk_alloc ?_ _)); refine blk_far ?_ NB214_223.out _; (with_reducible repeat (first | refine blk_drewN ?_ _ | refine blk_drew ?_ | refine blk_alloc ?_ _)); refine blk_far ?_ NB214_223.out _; (with_reducible repeat (first | refine blk_drewN ?_ _ | refine blk_drew ?_ | refine blk_alloc ?_ _)); exact BK214.out⟩, ⟨by (with_reducible repeat (first | refine blk_drewN ?_ _ | refine blk_drew ?_ | refine blk_alloc ?_ _)); refine blk_far ?_ NB215_223.out _; (with_reducible repeat (first | refine blk_drewN ?_ _ | refine blk_drew ?_ | refine blk_alloc ?_ _)); refine blk_far ?_ NB215_223.out _; (with_reducible repeat (first | refine blk_drewN ?_ _ | refine blk_drew ?_ | refine blk_alloc ?_ _)); exact BK215.out⟩, ⟨by (with_reducible repeat (first | refine blk_drewN ?_ _ | refine blk_drew ?_ | refine blk_alloc ?_ _)); refine blk_far ?_ NB216_223.out _; (with_reducible repeat (first | refine blk_drewN ?_ _ | refine blk_drew ?_ | refine blk_alloc ?_ _)); refine blk_far ?_ NB216_223.out _; (with_reducible repeat (first | refine blk_drewN ?_ _ | refine blk_drew ?_ | refine blk_alloc ?_ _)); exact BK216.out⟩, ⟨by (with_reducible repeat (first | refine blk_drewN ?_ _ | refine blk_drew ?_ | refine blk_alloc ?_ _)); refine blk_put (cs := #[.int .i64 a1_1, .int .i64 t219, .slice Ao22 t220.length co22]) ?_ 1 _ rfl; (with_reducible repeat (first | refine blk_drewN ?_ _ | refine blk_drew ?_ | refine blk_alloc ?_ _)); refine blk_put (cs := #[.int .i64 t218, .int .i64 t219, .slice Ao22 t220.length co22]) ?_ 0 _ rfl; (with_reducible repeat (first | refine blk_drewN ?_ _ | refine blk_drew ?_ | refine blk_alloc ?_ _)); exact BK223.out⟩, ⟨xbg⟩⟩
      ·rw [if_neg c39] at H
       have c39b0 : (a1_1 == a0_0) = false := beq_eq_false_iff_ne.mpr c39; have c39b1 : (a1_1 != a0_0) = true := bne_iff_ne.mpr c39
       have H' := aM H
       clear H; have hnb59 := NB215_214.out; have hnc59 := NB214_215.out; have hnb60 := NB215_216.out; have hnc60 := NB216_215.out; have hnb61 := NB215_223.out; have hnc61 := NB223_215.out; obtain ⟨hcz62_0, hcz62_1, hcz62_2, hcz62_3, hcz62_4, hcz62_5, hcz62_6, hcz62_7, hcz62_8, hcz62_9, hfz62_0, hfz62_1, hfz62_2, hfz62_3, hfz62_4, hfz62_5, hfz62_6, hfz62_7, hfz62_8, hfz62_9⟩ := xf10 (w := w25) BK215; have hnb63 := NB214_216.out; have hnc63 := NB216_214.out; have hnb64 := NB214_223.out
       have hnc64 := NB223_214.out; obtain ⟨hcz65_0, hcz65_1, hcz65_2, hfz65_0, hfz65_1, hfz65_2⟩ := xf3 (w := w25) BK214; have hnb66 := NB223_216.out; have hnc66 := NB216_223.out; obtain ⟨hcz67_0, hcz67_1, hcz67_2, hfz67_0, hfz67_1, hfz67_2⟩ := xf3 (w := w25) BK223
       go_wp2
       go_meet
       case rel => exact ⟨_, (false), (a1_1), (a1_2), (t220), (.slice Ao22 t220.length co22), (by first | rfl | (simp; done) | (simp [*]; done)), H', ⟨by first | omega | exact Nat.le_refl _⟩, ⟨by (with_reducible repeat (first | apply Kd.R_alloc | apply Kd.R_drewN | apply Kd.R_drew)); exact Kd.R_mono (Kd.R_far (p := ⟨gb223, 1, none⟩) (Kd.R_far (p := ⟨gb223, 0, none⟩) (Kd.R_types HO222.out BK223.out (by decide)) (fun _ hk => hk.2) (.int .i64 a1_1)) (fun _ hk => hk.2) (.int .i64 a1_2)) (fun _ hk => trivial)⟩, ⟨by (with_reducible repeat (first | refine blk_drewN ?_ _ | refine blk_drew ?_ | refine blk_alloc ?_ _)); refine blk_far ?_ NB214_223.out _; (with_reducible repeat (first | refine blk_drewN ?_ _ | refine blk_drew ?_ | refine blk_alloc ?_ _)); refine blk_far ?_ NB214_223.out _; (with_reducible repeat (first | refine blk_drewN ?_ _ | refine blk_drew ?_ | refine blk_alloc ?_ _)); exact BK214.out⟩, ⟨by (with_reducible repeat (first | refine blk_drewN ?_ _ | refine blk_drew ?_ | refine blk_alloc ?_ _)); refine blk_far ?_ NB215_223.out _; (with_reducible repeat (first | refine blk_drewN ?_ _ | refine blk_drew ?_ | refine blk_alloc ?_ _)); refine blk_far ?_ NB215_223.out _; (with_reducible repeat (first | refine blk_drewN ?_ _ | refine blk_drew ?_ | refine blk_alloc ?_ _)); exact BK215.out⟩, ⟨by (with_reducible repeat (first | refine blk_drewN ?_ _ | refine blk_drew ?_ | refine blk_alloc ?_ _)); refine blk_far ?_ NB216_223.out _; (with_reducible repeat (first | refine blk_drewN ?_ _ | refine blk_drew ?_ | refine blk_alloc ?_ _)); refine blk_far ?_ NB216_223.out _; (with_reducible repeat (first | refine blk_drewN ?_ _ | refine blk_drew ?_ | refine blk_alloc ?_ _)); exact BK216.out⟩, ⟨by (with_reducible repeat (first | refine blk_drewN ?_ _ | refine blk_drew ?_ | refine blk_alloc ?_ _)); refine blk_put (cs := #[.int .i64 a1_1, .int .i64 t219, .slice Ao22 t220.length co22]) ?_ 1 _ rfl; (with_reducible repeat (first | refine blk_drewN ?_ _ | refine blk_drew ?_ | refine blk_alloc ?_ _)); refine blk_put (cs := #[.int .i64 t218, .int .i64 t219, .slice Ao22 t220.length co22]) ?_ 0 _ rfl; (with_reducible repeat (first | refine blk_drewN ?_ _ | refine blk_drew ?_ | refine blk_alloc ?_ _)); exact BK223.out⟩, ⟨xbg⟩⟩
    ·replace c28 := Bool.eq_false_iff.mpr c28
     subst c28
     have H1 : (spec_HardApply.j0 k false a0_0 a0_1 l0_2 a1_1 a1_2 t220) = some (r1, r2, r3, r4) := by rw [if_neg (show ¬ (false = true) by decide)] at H; exact H
     clear H; have H := H1; clear H1
     have H' := aM H
     clear H; have hnb68 := NB215_214.out; have hnc68 := NB214_215.out; have hnb69 := NB215_216.out; have hnc69 := NB216_215.out; have hnb70 := NB215_223.out; have hnc70 := NB223_215.out; obtain ⟨hcz71_0, hcz71_1, hcz71_2, hcz71_3, hcz71_4, hcz71_5, hcz71_6, hcz71_7, hcz71_8, hcz71_9, hfz71_0, hfz71_1, hfz71_2, hfz71_3, hfz71_4, hfz71_5, hfz71_6, hfz71_7, hfz71_8, hfz71_9⟩ := xf10 (w := w25) BK215; have hnb72 := NB223_214.out; have hnc72 := NB214_223.out; have hnb73 := NB223_216.out
     have hnc73 := NB216_223.out; obtain ⟨hcz74_0, hcz74_1, hcz74_2, hfz74_0, hfz74_1, hfz74_2⟩ := xf3 (w := w25) BK223
     go_wp2
     go_meet
     case rel => exact ⟨_, (false), (a1_1), (a1_2), (t220), (.slice Ao22 t220.length co22), (by first | rfl | (simp; done) | (simp [*]; done)), H', ⟨by first | omega | exact Nat.le_refl _⟩, ⟨by (with_reducible repeat (first | apply Kd.R_alloc | apply Kd.R_drewN | apply Kd.R_drew)); exact Kd.R_mono (Kd.R_far (p := ⟨gb223, 1, none⟩) (Kd.R_far (p := ⟨gb223, 0, none⟩) (Kd.R_types HO222.out BK223.out (by decide)) (fun _ hk => hk.2) (.int .i64 a1_1)) (fun _ hk => hk.2) (.int .i64 a1_2)) (fun _ hk => trivial)⟩, ⟨by (with_reducible repeat (first | refine blk_drewN ?_ _ | refine blk_drew ?_ | refine blk_alloc ?_ _)); refine blk_far ?_ NB214_223.out _; (with_reducible repeat (first | refine blk_drewN ?_ _ | refine blk_drew ?_ | refine blk_alloc ?_ _)); refine blk_far ?_ NB214_223.out _; (with_reducible repeat (first | refine blk_drewN ?_ _ | refine blk_drew ?_ | refine blk_alloc ?_ _)); exact BK214.out⟩, ⟨by (with_reducible repeat (first | refine blk_drewN ?_ _ | refine blk_drew ?_ | refine blk_alloc ?_ _)); refine blk_far ?_ NB215_223.out _; (with_reducible repeat (first | refine blk_drewN ?_ _ | refine blk_drew ?_ | refine blk_alloc ?_ _)); refine blk_far ?_ NB215_223.out _; (with_reducible repeat (first | refine blk_drewN ?_ _ | refine blk_drew ?_ | refine blk_alloc ?_ _)); exact BK215.out⟩, ⟨by (with_reducible repeat (first | refine blk_drewN ?_ _ | refine blk_drew ?_ | refine blk_alloc ?_ _)); refine blk_far ?_ NB216_223.out _; (with_reducible repeat (first | refine blk_drewN ?_ _ | refine blk_drew ?_ | refine blk_alloc ?_ _)); refine blk_far ?_ NB216_223.out _; (with_reducible repeat (first | refine blk_drewN ?_ _ | refine blk_drew ?_ | refine blk_alloc ?_ _)); exact BK216.out⟩, ⟨by (with_reducible repeat (first | refine blk_drewN ?_ _ | refine blk_drew ?_ | refine blk_alloc ?_ _)); refine blk_put (cs := #[.int .i64 a1_1, .int .i64 t219, .slice Ao22 t220.length co22]) ?_ 1 _ rfl; (with_reducible repeat (first | refine blk_drewN ?_ _ | refine blk_drew ?_ | refine blk_alloc ?_ _)); refine blk_put (cs := #[.int .i64 t218, .int .i64 t219, .slice Ao22 t220.length co22]) ?_ 0 _ rfl; (with_reducible repeat (first | refine blk_drewN ?_ _ | refine blk_drew ?_ | refine blk_alloc ?_ _)); exact BK223.out⟩, ⟨xbg⟩⟩
   ·rw [if_neg c27] at H
    have c27b0 : (a1_0 == 1) = false := beq_eq_false_iff_ne.mpr c27; have c27b1 : (a1_0 != 1) = true := bne_iff_ne.mpr c27
    (first | rw [c27b0] | (simp only [i64_w, i32_w]; rw [c27b0]) | skip)
    by_cases c75 : a1_0 = 2
    ·rw [if_pos c75] at H
     have c75b0 : (a1_0 == 2) = true := beq_iff_eq.mpr c75; have c75b1 : (a1_0 != 2) = false := bne_eq_false_iff_eq.mpr c75; clear c75
     by_cases c76 : t224 = true
     ·subst c76
      have H1 : (if t220.length < 2513169434916 then (spec_HardApply.j0 k (a1_3 == (wrap64 ((l0_2.length : Int) + 1))) a0_0 a0_1 l0_2 t218 t219 (t220 ++ [(⟨a1_4, (⟨a1_5, a1_6, a1_7, a1_8, a1_9⟩ : S34)⟩ : S36)])) else (none)) = some (r1, r2, r3, r4) := by rw [if_pos rfl] at H; exact H
      clear H; have H := H1; clear H1
      by_cases c77 : t220.length < 2513169434916
      ·rw [if_pos c77] at H
       have LMc77 := aM c77; clear c77
       obtain ⟨y225, hy225⟩ : ∃ y_ : List (S36), y_ = (t220 ++ [(⟨a1_4, (⟨a1_5, a1_6, a1_7, a1_8, a1_9⟩ : S34)⟩ : S36)]) := ⟨_, rfl⟩
       replace H : (spec_HardApply.j0 k (a1_3 == (wrap64 ((l0_2.length : Int) + 1))) a0_0 a0_1 l0_2 t218 t219 y225) = some (r1, r2, r3, r4) := by first | (rw [hy225]; with_reducible exact H) | (have H2_ := (Option.bind_some _ _).symm.trans H; rw [hy225]; with_reducible exact H2_) | (have H2_ := (Option.bind_some _ _).symm.trans H; with_reducible exact H2_) | with_reducible exact H | (rw [hy225]; exact H) | exact H
       have Ny225 := aM hy225; clear hy225
       have H' := aM H
       clear H; have hnb78 := NB215_214.out; have hnc78 := NB214_215.out; have hnb79 := NB215_216.out; have hnc79 := NB216_215.out; have hnb80 := NB215_223.out; have hnc80 := NB223_215.out; obtain ⟨hcz81_0, hcz81_1, hcz81_2, hcz81_3, hcz81_4, hcz81_5, hcz81_6, hcz81_7, hcz81_8, hcz81_9, hfz81_0, hfz81_1, hfz81_2, hfz81_3, hfz81_4, hfz81_5, hfz81_6, hfz81_7, hfz81_8, hfz81_9⟩ := xf10 (w := w25) BK215; have hnb82 := NB214_216.out; have hnc82 := NB216_214.out; have hnb83 := NB214_223.out
       have hnc83 := NB223_214.out; obtain ⟨hcz84_0, hcz84_1, hcz84_2, hfz84_0, hfz84_1, hfz84_2⟩ := xf3 (w := w25) BK214; have hnb85 := NB223_216.out; have hnc85 := NB216_223.out; obtain ⟨hcz86_0, hcz86_1, hcz86_2, hfz86_0, hfz86_1, hfz86_2⟩ := xf3 (w := w25) BK223
       go_wp2_with (first | ((with_reducible refine gate_builtin (b := .append) (xs := #[.tmp 66, .tmp 69]) rfl ?_); (try (refine gate_guard (by rfl) ?_; dsimp only)); at_builtin; refine Kd.R_append k36 (w0 := w) w.heap.size rfl (.tmp 66) (.tmp 69) 26 36 (.agg #[(.int .i64 0), (.int .i64 0), (.int .i64 0), (.int .i64 0), (.int .i64 0), (.string ⟨#[]⟩)]) 56 rfl Try.underlying26 info36 rfl (by decide) (by omega) (.slice Ao22 t220.length co22) t220 (⟨a1_4, (⟨a1_5, a1_6, a1_7, a1_8, a1_9⟩ : S34)⟩ : S36) [.int .i64 a1_4, .int .i64 a1_5, .int .i64 a1_6, .int .i64 a1_7, .int .i64 a1_8, .string a1_9] (fun _ => True) (fun _ => False) rfl rfl ?aP (fun _ hk => hk.elim) ?aF ?aO ?aB ?aS ?aL ?_; (case aP => exact k36_mkM _ _ _ (⟨a1_4, (⟨a1_5, a1_6, a1_7, a1_8, a1_9⟩ : S34)⟩ : S36)); (case aB => exact xbg); (case aF => exact (fun _ _ => trivial)); (case aO => exact (xr HO222)); (case aS => exact (below_size xbg)); (case aL => have := LMc77.out; omega); intro v226 w87 ho hb hg hat; rw [← Ny225.out] at ho; have n0_ := aM (blk_grown (g := gb214) (o := .cells #[.int .i64 a0_0, .int .i64 a0_1, .slice A0_2 l0_2.length c0_2] 28 (0, 0)) xblk hg (Kd.R_ne HO222.out BK214.out (by decide))); have n1_ := aM (blk_grown (g := gb215) (o := .cells #[.int .i64 a1_0, .int .i64 a1_1, .int .i64 a1_2, .int .i64 a1_3, .int .i64 a1_4, .int .i64 a1_5, .int .i64 a1_6, .int .i64 a1_7, .int .i64 a1_8, .string a1_9] 38 (0, 0)) xblk hg (Kd.R_ne HO222.out BK215.out (by decide))); have n2_ := aM (blk_grown (g := gb216) (o := .cells #[.int .i64 0, .int .i64 0, .slice none 0 0] 28 (0, 0)) xblk hg (Kd.R_ne HO222.out BK216.out (by decide))); have n3_ := aM (blk_grown (g := gb223) (o := .cells #[.int .i64 t218, .int .i64 t219, .slice Ao22 t220.length co22] 28 (0, 0)) xblk hg (Kd.R_ne HO222.out BK223.out (by decide))); have n4_ := aM (hb); have n5_ := aM (ho); clear BK214; clear BK215; clear BK216; clear BK223; clear HB; clear HO222; have BK214 := n0_; have BK215 := n1_; have BK216 := n2_; have BK223 := n3_; have HB := n4_; have HO227 := n5_; clear n0_ n1_ n2_ n3_ n4_ n5_; clear ho hb hg hat; obtain ⟨Ao88, co88, eo88⟩ := Kd.R_slice HO227.out; subst eo88; obtain ⟨hcz89_0, hcz89_1, hcz89_2, hfz89_0, hfz89_1, hfz89_2⟩ := xf3 (w := w87) BK223))
       go_meet
       case rel => exact ⟨_, ((a1_3 == (wrap64 ((l0_2.length : Int) + 1)))), (t218), (t219), (y225), (.slice Ao88 y225.length co88), (by first | rfl | (simp; done) | (simp [*]; done)), H', ⟨by first | omega | exact Nat.le_refl _⟩, ⟨by (with_reducible repeat (first | apply Kd.R_alloc | apply Kd.R_drewN | apply Kd.R_drew)); exact Kd.R_mono (Kd.R_far (p := ⟨gb223, 2, none⟩) (Kd.R_types HO227.out BK223.out (by decide)) (fun _ hk => hk.2) (.slice Ao88 y225.length co88)) (fun _ hk => trivial)⟩, ⟨by (with_reducible repeat (first | refine blk_drewN ?_ _ | refine blk_drew ?_ | refine blk_alloc ?_ _)); refine blk_far ?_ NB214_223.out _; (with_reducible repeat (first | refine blk_drewN ?_ _ | refine blk_drew ?_ | refine blk_alloc ?_ _)); exact BK214.out⟩, ⟨by (with_reducible repeat (first | refine blk_drewN ?_ _ | refine blk_drew ?_ | refine blk_alloc ?_ _)); refine blk_far ?_ NB215_223.out _; (with_reducible repeat (first | refine blk_drewN ?_ _ | refine blk_drew ?_ | refine blk_alloc ?_ _)); exact BK215.out⟩, ⟨by (with_reducible repeat (first | refine blk_drewN ?_ _ | refine blk_drew ?_ | refine blk_alloc ?_ _)); refine blk_far ?_ NB216_223.out _; (with_reducible repeat (first | refine blk_drewN ?_ _ | refine blk_drew ?_ | refine blk_alloc ?_ _)); exact BK216.out⟩, ⟨by (with_reducible repeat (first | refine blk_drewN ?_ _ | refine blk_drew ?_ | refine blk_alloc ?_ _)); refine blk_put (cs := #[.int .i64 t218, .int .i64 t219, .slice Ao22 t220.length co22]) ?_ 2 _ rfl; (with_reducible repeat (first | refine blk_drewN ?_ _ | refine blk_drew ?_ | refine blk_alloc ?_ _)); exact BK223.out⟩, ⟨xbg⟩⟩
      ·rw [if_neg c77] at H
       exact absurd H (by simp)
     ·replace c76 := Bool.eq_false_iff.mpr c76
      subst c76
      have H1 : (if t220.length < 2513169434916 then (spec_HardApply.j0 k false a0_0 a0_1 l0_2 t218 t219 (t220 ++ [(⟨a1_4, (⟨a1_5, a1_6, a1_7, a1_8, a1_9⟩ : S34)⟩ : S36)])) else (none)) = some (r1, r2, r3, r4) := by rw [if_neg (show ¬ (false = true) by decide)] at H; exact H
      clear H; have H := H1; clear H1
      by_cases c90 : t220.length < 2513169434916
      ·rw [if_pos c90] at H
       have LMc90 := aM c90; clear c90
       obtain ⟨y228, hy228⟩ : ∃ y_ : List (S36), y_ = (t220 ++ [(⟨a1_4, (⟨a1_5, a1_6, a1_7, a1_8, a1_9⟩ : S34)⟩ : S36)]) := ⟨_, rfl⟩
       replace H : (spec_HardApply.j0 k false a0_0 a0_1 l0_2 t218 t219 y228) = some (r1, r2, r3, r4) := by first | (rw [hy228]; with_reducible exact H) | (have H2_ := (Option.bind_some _ _).symm.trans H; rw [hy228]; with_reducible exact H2_) | (have H2_ := (Option.bind_some _ _).symm.trans H; with_reducible exact H2_) | with_reducible exact H | (rw [hy228]; exact H) | exact H
       have Ny228 := aM hy228; clear hy228
       have H' := aM H
       clear H; have hnb91 := NB223_214.out; have hnc91 := NB214_223.out; have hnb92 := NB223_215.out; have hnc92 := NB215_223.out; have hnb93 := NB223_216.out; have hnc93 := NB216_223.out; obtain ⟨hcz94_0, hcz94_1, hcz94_2, hfz94_0, hfz94_1, hfz94_2⟩ := xf3 (w := w25) BK223; have hnb95 := NB215_214.out; have hnc95 := NB214_215.out; have hnb96 := NB215_216.out; have hnc96 := NB216_215.out; obtain ⟨hcz97_0, hcz97_1, hcz97_2, hcz97_3, hcz97_4, hcz97_5, hcz97_6, hcz97_7, hcz97_8, hcz97_9⟩ := xe10 (w := w25) BK215
       have hfz97_0 := blk_frozen BK215.out 0; have hfz97_1 := blk_frozen BK215.out 1; have hfz97_2 := blk_frozen BK215.out 2; have hfz97_3 := blk_frozen BK215.out 3; have hfz97_4 := blk_frozen BK215.out 4; have hfz97_5 := blk_frozen BK215.out 5; have hfz97_6 := blk_frozen BK215.out 6; have hfz97_7 := blk_frozen BK215.out 7; have hfz97_8 := blk_frozen BK215.out 8; have hfz97_9 := blk_frozen BK215.out 9
       go_wp2_with (first | ((with_reducible refine gate_builtin (b := .append) (xs := #[.tmp 66, .tmp 69]) rfl ?_); (try (refine gate_guard (by rfl) ?_; dsimp only)); at_builtin; refine Kd.R_append k36 (w0 := w) w.heap.size rfl (.tmp 66) (.tmp 69) 26 36 (.agg #[(.int .i64 0), (.int .i64 0), (.int .i64 0), (.int .i64 0), (.int .i64 0), (.string ⟨#[]⟩)]) 56 rfl Try.underlying26 info36 rfl (by decide) (by omega) (.slice Ao22 t220.length co22) t220 (⟨a1_4, (⟨a1_5, a1_6, a1_7, a1_8, a1_9⟩ : S34)⟩ : S36) [.int .i64 a1_4, .int .i64 a1_5, .int .i64 a1_6, .int .i64 a1_7, .int .i64 a1_8, .string a1_9] (fun _ => True) (fun _ => False) rfl rfl ?aP (fun _ hk => hk.elim) ?aF ?aO ?aB ?aS ?aL ?_; (case aP => exact k36_mkM _ _ _ (⟨a1_4, (⟨a1_5, a1_6, a1_7, a1_8, a1_9⟩ : S34)⟩ : S36)); (case aB => exact xbg); (case aF => exact (fun _ _ => trivial)); (case aO => exact (xr HO222)); (case aS => exact (below_size xbg)); (case aL => have := LMc90.out; omega); intro v229 w98 ho hb hg hat; rw [← Ny228.out] at ho; have n0_ := aM (blk_grown (g := gb214) (o := .cells #[.int .i64 a0_0, .int .i64 a0_1, .slice A0_2 l0_2.length c0_2] 28 (0, 0)) xblk hg (Kd.R_ne HO222.out BK214.out (by decide))); have n1_ := aM (blk_grown (g := gb215) (o := .cells #[.int .i64 a1_0, .int .i64 a1_1, .int .i64 a1_2, .int .i64 a1_3, .int .i64 a1_4, .int .i64 a1_5, .int .i64 a1_6, .int .i64 a1_7, .int .i64 a1_8, .string a1_9] 38 (0, 0)) xblk hg (Kd.R_ne HO222.out BK215.out (by decide))); have n2_ := aM (blk_grown (g := gb216) (o := .cells #[.int .i64 0, .int .i64 0, .slice none 0 0] 28 (0, 0)) xblk hg (Kd.R_ne HO222.out BK216.out (by decide))); have n3_ := aM (blk_grown (g := gb223) (o := .cells #[.int .i64 t218, .int .i64 t219, .slice Ao22 t220.length co22] 28 (0, 0)) xblk hg (Kd.R_ne HO222.out BK223.out (by decide))); have n4_ := aM (hb); have n5_ := aM (ho); clear BK214; clear BK215; clear BK216; clear BK223; clear HB; clear HO222; have BK214 := n0_; have BK215 := n1_; have BK216 := n2_; have BK223 := n3_; have HB := n4_; have HO230 := n5_; clear n0_ n1_ n2_ n3_ n4_ n5_; clear ho hb hg hat; obtain ⟨Ao99, co99, eo99⟩ := Kd.R_slice HO230.out; subst eo99; obtain ⟨hcz100_0, hcz100_1, hcz100_2, hfz100_0, hfz100_1, hfz100_2⟩ := xf3 (w := w98) BK223))
       go_meet
       case rel => exact ⟨_, (false), (t218), (t219), (y228), (.slice Ao99 y228.length co99), (by first | rfl | (simp; done) | (simp [*]; done)), H', ⟨by first | omega | exact Nat.le_refl _⟩, ⟨by (with_reducible repeat (first | apply Kd.R_alloc | apply Kd.R_drewN | apply Kd.R_drew)); exact Kd.R_mono (Kd.R_far (p := ⟨gb223, 2, none⟩) (Kd.R_types HO230.out BK223.out (by decide)) (fun _ hk => hk.2) (.slice Ao99 y228.length co99)) (fun _ hk => trivial)⟩, ⟨by (with_reducible repeat (first | refine blk_drewN ?_ _ | refine blk_drew ?_ | refine blk_alloc ?_ _)); refine blk_far ?_ NB214_223.out _; (with_reducible repeat (first | refine blk_drewN ?_ _ | refine blk_drew ?_ | refine blk_alloc ?_ _)); exact BK214.out⟩, ⟨by (with_reducible repeat (first | refine blk_drewN ?_ _ | refine blk_drew ?_ | refine blk_alloc ?_ _)); refine blk_far ?_ NB215_223.out _; (with_reducible repeat (first | refine blk_drewN ?_ _ | refine blk_drew ?_ | refine blk_alloc ?_ _)); exact BK215.out⟩, ⟨by (with_reducible repeat (first | refine blk_drewN ?_ _ | refine blk_drew ?_ | refine blk_alloc ?_ _)); refine blk_far ?_ NB216_223.out _; (with_reducible repeat (first | refine blk_drewN ?_ _ | refine blk_drew ?_ | refine blk_alloc ?_ _)); exact BK216.out⟩, ⟨by (with_reducible repeat (first | refine blk_drewN ?_ _ | refine blk_drew ?_ | refine blk_alloc ?_ _)); refine blk_put (cs := #[.int .i64 t218, .int .i64 t219, .slice Ao22 t220.length co22]) ?_ 2 _ rfl; (with_reducible repeat (first | refine blk_drewN ?_ _ | refine blk_drew ?_ | refine blk_alloc ?_ _)); exact BK223.out⟩, ⟨xbg⟩⟩
      ·rw [if_neg c90] at H
       exact absurd H (by simp)
    ·rw [if_neg c75] at H
     have c75b0 : (a1_0 == 2) = false := beq_eq_false_iff_ne.mpr c75; have c75b1 : (a1_0 != 2) = true := bne_iff_ne.mpr c75
     by_cases c101 : a1_0 = 3
     ·rw [if_pos c101] at H
      have c101b0 : (a1_0 == 3) = true := beq_iff_eq.mpr c101; have c101b1 : (a1_0 != 3) = false := bne_eq_false_iff_eq.mpr c101; clear c101
      by_cases c102 : t224 = true
      ·subst c102
       have H1 : (if a1_3 ≤ (l0_2.length : Int) then (if 0 ≤ a1_3 then (if a1_3 ≤ (t220.length : Int) then (spec_HardApply.j0 k (decide (a1_3 ≤ (l0_2.length : Int))) a0_0 a0_1 l0_2 t218 t219 (t220.take (a1_3 : Int).toNat)) else (none)) else (none)) else (spec_HardApply.j0 k (decide (a1_3 ≤ (l0_2.length : Int))) a0_0 a0_1 l0_2 t218 t219 t220)) = some (r1, r2, r3, r4) := by rw [if_pos rfl] at H; exact H
       clear H; have H := H1; clear H1
       by_cases c103 : a1_3 ≤ (l0_2.length : Int)
       ·rw [if_pos c103] at H
        have c103b0 : decide (a1_3 ≤ (l0_2.length : Int)) = true := decide_eq_true c103; clear c103
        by_cases c104 : 0 ≤ a1_3
        ·rw [if_pos c104] at H
         have c104b0 := eq_true c104; have c104b1 : decide (0 ≤ a1_3) = true := decide_eq_true c104; clear c104
         by_cases c105 : a1_3 ≤ (t220.length : Int)
         ·rw [if_pos c105] at H
          have c105b0 := eq_true c105; have c105b1 : decide (a1_3 ≤ (t220.length : Int)) = true := decide_eq_true c105; clear c105
          obtain ⟨y231, hy231⟩ : ∃ y_ : List (S36), y_ = (t220.take (a1_3 : Int).toNat) := ⟨_, rfl⟩
          replace H : (spec_HardApply.j0 k (decide (a1_3 ≤ (l0_2.length : Int))) a0_0 a0_1 l0_2 t218 t219 y231) = some (r1, r2, r3, r4) := by first | (rw [hy231]; with_reducible exact H) | (have H2_ := (Option.bind_some _ _).symm.trans H; rw [hy231]; with_reducible exact H2_) | (have H2_ := (Option.bind_some _ _).symm.trans H; with_reducible exact H2_) | with_reducible exact H | (rw [hy231]; exact H) | exact H
          have Ny231 := aM hy231; clear hy231
          have H' := aM H
          clear H; have hnb106 := NB215_214.out; have hnc106 := NB214_215.out; have hnb107 := NB215_216.out; have hnc107 := NB216_215.out; have hnb108 := NB215_223.out; have hnc108 := NB223_215.out; obtain ⟨hcz109_0, hcz109_1, hcz109_2, hcz109_3, hcz109_4, hcz109_5, hcz109_6, hcz109_7, hcz109_8, hcz109_9, hfz109_0, hfz109_1, hfz109_2, hfz109_3, hfz109_4, hfz109_5, hfz109_6, hfz109_7, hfz109_8, hfz109_9⟩ := xf10 (w := w25) BK215; have hnb110 := NB214_216.out; have hnc110 := NB216_214.out
          have hnb111 := NB214_223.out; have hnc111 := NB223_214.out; obtain ⟨hcz112_0, hcz112_1, hcz112_2, hfz112_0, hfz112_1, hfz112_2⟩ := xf3 (w := w25) BK214; have hnb113 := NB223_216.out; have hnc113 := NB216_223.out; obtain ⟨hcz114_0, hcz114_1, hcz114_2, hfz114_0, hfz114_1, hfz114_2⟩ := xf3 (w := w25) BK223; have q115 : (a1_3 : Int) ≤ ((t220.length : Int) : Int) := oda
          obtain ⟨i0115, hi0115, _, hsz115, _⟩ := info_parts info36
          have hcut115 := cut_to (P := Try.prog) 26 36 .i64 Try.underlying26 hi0115 Ao22 t220.length co22 a1_3 (oda) q115 (Kd.R_reads' HO222.out).2.1; have hr115 := Kd.R_take (m := (a1_3 : Int).toNat) HO222.out (by omega); have hy115 : y231.length = (a1_3 : Int).toNat := (by rw [Ny231.out, List.length_take]; omega)
          rw [← Ny231.out] at hr115
          rw [← hy115] at hr115 hcut115
          clear hy115 hi0115 hsz115 HO222; have HO233 := aM hr115; clear hr115; replace q115 := eq_true q115
          go_wp2
          go_meet
          case rel => exact ⟨_, (decide (a1_3 ≤ (l0_2.length : Int))), (t218), (t219), (y231), (.slice Ao22 y231.length co22), (by first | rfl | (simp; done) | (simp [*]; done)), H', ⟨by first | omega | exact Nat.le_refl _⟩, ⟨by (with_reducible repeat (first | apply Kd.R_alloc | apply Kd.R_drewN | apply Kd.R_drew)); exact Kd.R_mono (Kd.R_far (p := ⟨gb223, 2, none⟩) (Kd.R_types HO233.out BK223.out (by decide)) (fun _ hk => hk.2) (.slice Ao22 y231.length co22)) (fun _ hk => trivial)⟩, ⟨by (with_reducible repeat (first | refine blk_drewN ?_ _ | refine blk_drew ?_ | refine blk_alloc ?_ _)); refine blk_far ?_ NB214_223.out _; (with_reducible repeat (first | refine blk_drewN ?_ _ | refine blk_drew ?_ | refine blk_alloc ?_ _)); exact BK214.out⟩, ⟨by (with_reducible repeat (first | refine blk_drewN ?_ _ | refine blk_drew ?_ | refine blk_alloc ?_ _)); refine blk_far ?_ NB215_223.out _; (with_reducible repeat (first | refine blk_drewN ?_ _ | refine blk_drew ?_ | refine blk_alloc ?_ _)); exact BK215.out⟩, ⟨by (with_reducible repeat (first | refine blk_drewN ?_ _ | refine blk_drew ?_ | refine blk_alloc ?_ _)); refine blk_far ?_ NB216_223.out _; (with_reducible repeat (first | refine blk_drewN ?_ _ | refine blk_drew ?_ | refine blk_alloc ?_ _)); exact BK216.out⟩, ⟨by (with_reducible repeat (first | refine blk_drewN ?_ _ | refine blk_drew ?_ | refine blk_alloc ?_ _)); refine blk_put (cs := #[.int .i64 t218, .int .i64 t219, .slice Ao22 t220.length co22]) ?_ 2 _ rfl; (with_reducible repeat (first | refine blk_drewN ?_ _ | refine blk_drew ?_ | refine blk_alloc ?_ _)); exact BK223.out⟩, ⟨xbg⟩⟩
         ·rw [if_neg c105] at H
          exact absurd H (by simp)
        ·rw [if_neg c104] at H
         exact absurd H (by simp)
       ·rw [if_neg c103] at H
        have c103b0 : decide (a1_3 ≤ (l0_2.length : Int)) = false := decide_eq_false c103; clear c103
        have H' := aM H
        clear H; have hnb116 := NB215_214.out; have hnc116 := NB214_215.out; have hnb117 := NB215_216.out; have hnc117 := NB216_215.out; have hnb118 := NB215_223.out; have hnc118 := NB223_215.out; obtain ⟨hcz119_0, hcz119_1, hcz119_2, hcz119_3, hcz119_4, hcz119_5, hcz119_6, hcz119_7, hcz119_8, hcz119_9, hfz119_0, hfz119_1, hfz119_2, hfz119_3, hfz119_4, hfz119_5, hfz119_6, hfz119_7, hfz119_8, hfz119_9⟩ := xf10 (w := w25) BK215; have hnb120 := NB214_216.out; have hnc120 := NB216_214.out
        have hnb121 := NB214_223.out; have hnc121 := NB223_214.out; obtain ⟨hcz122_0, hcz122_1, hcz122_2, hfz122_0, hfz122_1, hfz122_2⟩ := xf3 (w := w25) BK214
        go_wp2
        go_meet
        case rel => exact ⟨_, (decide (a1_3 ≤ (l0_2.length : Int))), (t218), (t219), (t220), (.slice Ao22 t220.length co22), (by first | rfl | (simp; done) | (simp [*]; done)), H', ⟨by first | omega | exact Nat.le_refl _⟩, ⟨by (with_reducible repeat (first | apply Kd.R_alloc | apply Kd.R_drewN | apply Kd.R_drew)); exact HO222.out⟩, ⟨xblk⟩, ⟨xblk⟩, ⟨xblk⟩, ⟨xblk⟩, ⟨xbg⟩⟩
      ·replace c102 := Bool.eq_false_iff.mpr c102
       subst c102
       have H1 : (spec_HardApply.j0 k false a0_0 a0_1 l0_2 t218 t219 t220) = some (r1, r2, r3, r4) := by rw [if_neg (show ¬ (false = true) by decide)] at H; exact H
       clear H; have H := H1; clear H1
       have H' := aM H
       clear H
       go_wp2
       go_meet
       case rel => exact ⟨_, (false), (t218), (t219), (t220), (.slice Ao22 t220.length co22), (by first | rfl | (simp; done) | (simp [*]; done)), H', ⟨by first | omega | exact Nat.le_refl _⟩, ⟨by (with_reducible repeat (first | apply Kd.R_alloc | apply Kd.R_drewN | apply Kd.R_drew)); exact HO222.out⟩, ⟨xblk⟩, ⟨xblk⟩, ⟨xblk⟩, ⟨xblk⟩, ⟨xbg⟩⟩
     ·rw [if_neg c101] at H
      have c101b0 : (a1_0 == 3) = false := beq_eq_false_iff_ne.mpr c101; have c101b1 : (a1_0 != 3) = true := bne_iff_ne.mpr c101
      have H' := aM H
      clear H
      go_wp2
      go_meet
      case rel => exact ⟨_, (t224), (t218), (t219), (t220), (.slice Ao22 t220.length co22), (by first | rfl | (simp; done) | (simp [*]; done)), H', ⟨by first | omega | exact Nat.le_refl _⟩, ⟨by (with_reducible repeat (first | apply Kd.R_alloc | apply Kd.R_drewN | apply Kd.R_drew)); exact HO222.out⟩, ⟨xblk⟩, ⟨xblk⟩, ⟨xblk⟩, ⟨xblk⟩, ⟨xbg⟩⟩
  case rest =>
   clear HC7
   try clear c1
   try clear q1
   try clear c2
   try clear p2
   try clear c3
   try clear c4
   try clear c5
   try clear c6
   try clear p6
   try clear c7
   try clear c8
   try clear c9
   try clear c10
   try clear c11
   try clear q11
   try clear c12
   try clear c18
   try clear c19
   try clear c20
   try clear c23
   try clear c27
   try clear c27b0
   try clear c27b1
   try clear c28
   try clear c29
   try clear c29b0
   try clear c30
   try clear c31
   try clear c32
   try clear c34
   try clear c35
   try clear c37
   try clear c39
   try clear c39b0
   try clear c39b1
   try clear c40
   try clear c40b0
   try clear c40b1
   try clear c41
   try clear c42
   try clear c43
   try clear c45
   try clear c46
   try clear c48
   try clear c50
   try clear c51
   try clear c52
   try clear c54
   try clear c55
   try clear c57
   try clear c59
   try clear c60
   try clear c61
   try clear c63
   try clear c64
   try clear p64
   try clear c66
   try clear c68
   try clear c69
   try clear c70
   try clear c72
   try clear c73
   try clear c75
   try clear c75b0
   try clear c75b1
   try clear c76
   try clear c77
   try clear c78
   try clear c79
   try clear c80
   try clear c82
   try clear c83
   try clear c85
   try clear c90
   try clear c91
   try clear c92
   try clear c93
   try clear c95
   try clear c96
   try clear c98
   try clear c99
   try clear c101
   try clear c101b0
   try clear c101b1
   try clear c102
   try clear c103
   try clear c103b0
   try clear c104
   try clear c104b0
   try clear c104b1
   try clear c105
   try clear c105b0
   try clear c105b1
   try clear c106
   try clear c107
   try clear c108
   try clear c110
   try clear c111
   try clear c113
   try clear q115
   try clear c116
   try clear c117
   try clear c118
   try clear c120
   try clear c121
   try clear hcz100_0
   try clear hcz100_1
   try clear hcz100_2
   try clear hcz109_0
   try clear hcz109_1
   try clear hcz109_2
   try clear hcz109_3
   try clear hcz109_4
   try clear hcz109_5
   try clear hcz109_6
   try clear hcz109_7
   try clear hcz109_8
   try clear hcz109_9
   try clear hcz112_0
   try clear hcz112_1
   try clear hcz112_2
   try clear hcz114_0
   try clear hcz114_1
   try clear hcz114_2
   try clear hcz119_0
   try clear hcz119_1
   try clear hcz119_2
   try clear hcz119_3
   try clear hcz119_4
   try clear hcz119_5
   try clear hcz119_6
   try clear hcz119_7
   try clear hcz119_8
   try clear hcz119_9
   try clear hcz122_0
   try clear hcz122_1
   try clear hcz122_2
   try clear hcz13_0
   try clear hcz13_1
   try clear hcz13_2
   try clear hcz15_0
   try clear hcz15_1
   try clear hcz15_2
   try clear hcz21_0
   try clear hcz21_1
   try clear hcz21_2
   try clear hcz24_0
   try clear hcz24_1
   try clear hcz24_2
   try clear hcz24_3
   try clear hcz24_4
   try clear hcz24_5
   try clear hcz24_6
   try clear hcz24_7
   try clear hcz24_8
   try clear hcz24_9
   try clear hcz26_0
   try clear hcz26_1
   try clear hcz26_2
   try clear hcz26_3
   try clear hcz26_4
   try clear hcz26_5
   try clear hcz26_6
   try clear hcz26_7
   try clear hcz26_8
   try clear hcz26_9
   try clear hcz33_0
   try clear hcz33_1
   try clear hcz33_2
   try clear hcz33_3
   try clear hcz33_4
   try clear hcz33_5
   try clear hcz33_6
   try clear hcz33_7
   try clear hcz33_8
   try clear hcz33_9
   try clear hcz36_0
   try clear hcz36_1
   try clear hcz36_2
   try clear hcz38_0
   try clear hcz38_1
   try clear hcz38_2
   try clear hcz44_0
   try clear hcz44_1
   try clear hcz44_2
   try clear hcz44_3
   try clear hcz44_4
   try clear hcz44_5
   try clear hcz44_6
   try clear hcz44_7
   try clear hcz44_8
   try clear hcz44_9
   try clear hcz47_0
   try clear hcz47_1
   try clear hcz47_2
   try clear hcz49_0
   try clear hcz49_1
   try clear hcz49_2
   try clear hcz53_0
   try clear hcz53_1
   try clear hcz53_2
   try clear hcz53_3
   try clear hcz53_4
   try clear hcz53_5
   try clear hcz53_6
   try clear hcz53_7
   try clear hcz53_8
   try clear hcz53_9
   try clear hcz56_0
   try clear hcz56_1
   try clear hcz56_2
   try clear hcz58_0
   try clear hcz58_1
   try clear hcz58_2
   try clear hcz62_0
   try clear hcz62_1
   try clear hcz62_2
   try clear hcz62_3
   try clear hcz62_4
   try clear hcz62_5
   try clear hcz62_6
   try clear hcz62_7
   try clear hcz62_8
   try clear hcz62_9
   try clear hcz65_0
   try clear hcz65_1
   try clear hcz65_2
   try clear hcz67_0
   try clear hcz67_1
   try clear hcz67_2
   try clear hcz71_0
   try clear hcz71_1
   try clear hcz71_2
   try clear hcz71_3
   try clear hcz71_4
   try clear hcz71_5
   try clear hcz71_6
   try clear hcz71_7
   try clear hcz71_8
   try clear hcz71_9
   try clear hcz74_0
   try clear hcz74_1
   try clear hcz74_2
   try clear hcz81_0
   try clear hcz81_1
   try clear hcz81_2
   try clear hcz81_3
   try clear hcz81_4
   try clear hcz81_5
   try clear hcz81_6
   try clear hcz81_7
   try clear hcz81_8
   try clear hcz81_9
   try clear hcz84_0
   try clear hcz84_1
   try clear hcz84_2
   try clear hcz86_0
   try clear hcz86_1
   try clear hcz86_2
   try clear hcz89_0
   try clear hcz89_1
   try clear hcz89_2
   try clear hcz94_0
   try clear hcz94_1
   try clear hcz94_2
   try clear hcz97_0
   try clear hcz97_1
   try clear hcz97_2
   try clear hcz97_3
   try clear hcz97_4
   try clear hcz97_5
   try clear hcz97_6
   try clear hcz97_7
   try clear hcz97_8
   try clear hcz97_9
   try clear hfz100_0
   try clear hfz100_1
   try clear hfz100_2
   try clear hfz109_0
   try clear hfz109_1
   try clear hfz109_2
   try clear hfz109_3
   try clear hfz109_4
   try clear hfz109_5
   try clear hfz109_6
   try clear hfz109_7
   try clear hfz109_8
   try clear hfz109_9
   try clear hfz112_0
   try clear hfz112_1
   try clear hfz112_2
   try clear hfz114_0
   try clear hfz114_1
   try clear hfz114_2
   try clear hfz119_0
   try clear hfz119_1
   try clear hfz119_2
   try clear hfz119_3
   try clear hfz119_4
   try clear hfz119_5
   try clear hfz119_6
   try clear hfz119_7
   try clear hfz119_8
   try clear hfz119_9
   try clear hfz122_0
   try clear hfz122_1
   try clear hfz122_2
   try clear hfz13_0
   try clear hfz13_1
   try clear hfz13_2
   try clear hfz15_0
   try clear hfz15_1
   try clear hfz15_2
   try clear hfz21_0
   try clear hfz21_1
   try clear hfz21_2
   try clear hfz24_0
   try clear hfz24_1
   try clear hfz24_2
   try clear hfz24_3
   try clear hfz24_4
   try clear hfz24_5
   try clear hfz24_6
   try clear hfz24_7
   try clear hfz24_8
   try clear hfz24_9
   try clear hfz26_0
   try clear hfz26_1
   try clear hfz26_2
   try clear hfz26_3
   try clear hfz26_4
   try clear hfz26_5
   try clear hfz26_6
   try clear hfz26_7
   try clear hfz26_8
   try clear hfz26_9
   try clear hfz33_0
   try clear hfz33_1
   try clear hfz33_2
   try clear hfz33_3
   try clear hfz33_4
   try clear hfz33_5
   try clear hfz33_6
   try clear hfz33_7
   try clear hfz33_8
   try clear hfz33_9
   try clear hfz36_0
   try clear hfz36_1
   try clear hfz36_2
   try clear hfz38_0
   try clear hfz38_1
   try clear hfz38_2
   try clear hfz44_0
   try clear hfz44_1
   try clear hfz44_2
   try clear hfz44_3
   try clear hfz44_4
   try clear hfz44_5
   try clear hfz44_6
   try clear hfz44_7
   try clear hfz44_8
   try clear hfz44_9
   try clear hfz47_0
   try clear hfz47_1
   try clear hfz47_2
   try clear hfz49_0
   try clear hfz49_1
   try clear hfz49_2
   try clear hfz53_0
   try clear hfz53_1
   try clear hfz53_2
   try clear hfz53_3
   try clear hfz53_4
   try clear hfz53_5
   try clear hfz53_6
   try clear hfz53_7
   try clear hfz53_8
   try clear hfz53_9
   try clear hfz56_0
   try clear hfz56_1
   try clear hfz56_2
   try clear hfz58_0
   try clear hfz58_1
   try clear hfz58_2
   try clear hfz62_0
   try clear hfz62_1
   try clear hfz62_2
   try clear hfz62_3
   try clear hfz62_4
   try clear hfz62_5
   try clear hfz62_6
   try clear hfz62_7
   try clear hfz62_8
   try clear hfz62_9
   try clear hfz65_0
   try clear hfz65_1
   try clear hfz65_2
   try clear hfz67_0
   try clear hfz67_1
   try clear hfz67_2
   try clear hfz71_0
   try clear hfz71_1
   try clear hfz71_2
   try clear hfz71_3
   try clear hfz71_4
   try clear hfz71_5
   try clear hfz71_6
   try clear hfz71_7
   try clear hfz71_8
   try clear hfz71_9
   try clear hfz74_0
   try clear hfz74_1
   try clear hfz74_2
   try clear hfz81_0
   try clear hfz81_1
   try clear hfz81_2
   try clear hfz81_3
   try clear hfz81_4
   try clear hfz81_5
   try clear hfz81_6
   try clear hfz81_7
   try clear hfz81_8
   try clear hfz81_9
   try clear hfz84_0
   try clear hfz84_1
   try clear hfz84_2
   try clear hfz86_0
   try clear hfz86_1
   try clear hfz86_2
   try clear hfz89_0
   try clear hfz89_1
   try clear hfz89_2
   try clear hfz94_0
   try clear hfz94_1
   try clear hfz94_2
   try clear hfz97_0
   try clear hfz97_1
   try clear hfz97_2
   try clear hfz97_3
   try clear hfz97_4
   try clear hfz97_5
   try clear hfz97_6
   try clear hfz97_7
   try clear hfz97_8
   try clear hfz97_9
   try clear q115
   obtain ⟨kq, x7_6, x224000_6, x224001_6, x224002_6, u224002, rfl, HA, HJ6, HO_224002, BK214, BK215, BK216, BK223, HB⟩ := hcut
   cases kq with
   | zero => exact absurd HA.out (by simp [spec_HardApply.j0])
   | succ kj6 =>
    have H := HA.out; clear HA
    simp only [spec_HardApply.j0] at H
    by_cases c123 : x7_6 = true
    ·subst c123
     have H1 : ((spec_HardOk.f kj6 x224000_6 x224001_6 x224002_6).bind fun t234 => (if t234 = true then (some (x224000_6, x224001_6, x224002_6, true)) else ((spec_l6Copy.f a0_0 a0_1 l0_2).bind fun bt235 => (some (bt235.1, bt235.2.1, bt235.2.2, false))))) = some (r1, r2, r3, r4) := by rw [if_pos rfl] at H; exact H
     clear H; have H := H1; clear H1; replace H := Option.bind_eq_some_iff.mp H
     obtain ⟨t234, A1240, H⟩ := H
     replace H : (if t234 = true then (some (x224000_6, x224001_6, x224002_6, true)) else ((spec_l6Copy.f a0_0 a0_1 l0_2).bind fun bt235 => (some (bt235.1, bt235.2.1, bt235.2.2, false)))) = some (r1, r2, r3, r4) := H; have A124 := aM A1240; clear A1240
     by_cases c125 : t234 = true
     ·subst c125
      have H1 : (some (x224000_6, x224001_6, x224002_6, true)) = some (r1, r2, r3, r4) := by rw [if_pos rfl] at H; exact H
      clear H; have H := H1; clear H1
      simp only [Option.some.injEq, Prod.mk.injEq] at H
      obtain ⟨rfl, rfl, rfl, rfl⟩ := H
      have hnb126 := NB223_214.out; have hnc126 := NB214_223.out; have hnb127 := NB223_215.out; have hnc127 := NB215_223.out; have hnb128 := NB223_216.out; have hnc128 := NB216_223.out; obtain ⟨hcz129_0, hcz129_1, hcz129_2, hfz129_0, hfz129_1, hfz129_2⟩ := xf3 (w := wc) BK223
      obtain ⟨Ao130, co130, eo130⟩ := Kd.R_slice HO_224002.out
      subst eo130
      go_wp2_with (first | (go_at_call 98; (with_reducible refine (spec_HardOk.calls kj6 x224000_6 x224001_6 _ _ x224002_6 true _ ?side1 ?side2 A124.out).mono ?_); (case side1 => repeat (first | exact (Kd.R_reads' HO_224002.out).2.2 | (with_reducible refine Kd.C_alloc ?_ _) | (with_reducible refine Kd.C_drewN ?_ _) | (with_reducible refine Kd.C_drew ?_))); (case side2 => exact (Kd.R_reads' HO_224002.out).2.1); rintro e w131 ⟨rfl, hb⟩; replace HO_224002 := aM (Kd.R_below (xr HO_224002) hb); replace BK214 := xbb BK214 hb; replace BK215 := xbb BK215 hb; replace BK216 := xbb BK216 hb; replace BK223 := xbb BK223 hb; replace HB := xbs hb; (try clear hb); (try clear hb2); (try clear hk); (try clear hi); obtain ⟨hcz132_0, hcz132_1, hcz132_2, hfz132_0, hfz132_1, hfz132_2⟩ := xf3 (w := w131) BK223; have hnb133 := NB216_214.out; have hnc133 := NB214_216.out; have hnb134 := NB216_215.out; have hnc134 := NB215_216.out; obtain ⟨hcz135_0, hcz135_1, hcz135_2, hfz135_0, hfz135_1, hfz135_2⟩ := xf3 (w := w131) BK216))
      refine bodyPost_ret (results_ct rfl _ _ gb216 28 #[.int .i64 x224000_6, .int .i64 x224001_6, .slice Ao130 x224002_6.length co130] (0, 0) _ rfl (by (with_reducible repeat (first | refine blk_drewN ?_ _ | refine blk_drew ?_ | refine blk_alloc ?_ _)); refine blk_put (cs := #[.int .i64 x224000_6, .int .i64 x224001_6, .slice none 0 0]) ?_ 2 _ rfl; (with_reducible repeat (first | refine blk_drewN ?_ _ | refine blk_drew ?_ | refine blk_alloc ?_ _)); refine blk_put (cs := #[.int .i64 x224000_6, .int .i64 0, .slice none 0 0]) ?_ 1 _ rfl; (with_reducible repeat (first | refine blk_drewN ?_ _ | refine blk_drew ?_ | refine blk_alloc ?_ _)); refine blk_put (cs := #[.int .i64 0, .int .i64 0, .slice none 0 0]) ?_ 0 _ rfl; (with_reducible repeat (first | refine blk_drewN ?_ _ | refine blk_drew ?_ | refine blk_alloc ?_ _)); exact BK216.out) Try.underlying28 rfl (by kernel_rfl)) rfl ?_
      exact ⟨_, by first | rfl | (simp [errW_none, errW_some] <;> rfl) | (simp [*, errW_none, errW_some] <;> rfl), by (with_reducible repeat (first | apply Kd.R_alloc | apply Kd.R_drewN | apply Kd.R_drew)); exact Kd.R_mono (Kd.R_far (p := ⟨gb216, 2, none⟩) (Kd.R_far (p := ⟨gb216, 1, none⟩) (Kd.R_far (p := ⟨gb216, 0, none⟩) (Kd.R_types HO_224002.out BK216.out (by decide)) (fun _ hk => hk.2) (.int .i64 x224000_6)) (fun _ hk => hk.2) (.int .i64 x224001_6)) (fun _ hk => hk.2) (.slice Ao130 x224002_6.length co130)) (fun _ hk => trivial), xbg⟩
     ·replace c125 := Bool.eq_false_iff.mpr c125
      subst c125
      have H1 : ((spec_l6Copy.f a0_0 a0_1 l0_2).bind fun bt235 => (some (bt235.1, bt235.2.1, bt235.2.2, false))) = some (r1, r2, r3, r4) := by rw [if_neg (show ¬ (false = true) by decide)] at H; exact H
      clear H; have H := H1; clear H1; replace H := Option.bind_eq_some_iff.mp H
      obtain ⟨⟨t235, t236, t237⟩, A1360, H⟩ := H
      replace H : (some (t235, t236, t237, false)) = some (r1, r2, r3, r4) := H; have A136 := aM A1360; clear A1360
      simp only [Option.some.injEq, Prod.mk.injEq] at H
      obtain ⟨rfl, rfl, rfl, rfl⟩ := H
      have hnb137 := NB223_214.out; have hnc137 := NB214_223.out; have hnb138 := NB223_215.out; have hnc138 := NB215_223.out; have hnb139 := NB223_216.out; have hnc139 := NB216_223.out; obtain ⟨hcz140_0, hcz140_1, hcz140_2, hfz140_0, hfz140_1, hfz140_2⟩ := xf3 (w := wc) BK223
      obtain ⟨Ao141, co141, eo141⟩ := Kd.R_slice HO_224002.out
      subst eo141
      go_wp2_with (first | (go_at_call 98; (with_reducible refine (spec_HardOk.calls kj6 x224000_6 x224001_6 _ _ x224002_6 false _ ?side1 ?side2 A124.out).mono ?_); (case side1 => repeat (first | exact (Kd.R_reads' HO_224002.out).2.2 | (with_reducible refine Kd.C_alloc ?_ _) | (with_reducible refine Kd.C_drewN ?_ _) | (with_reducible refine Kd.C_drew ?_))); (case side2 => exact (Kd.R_reads' HO_224002.out).2.1); rintro e w142 ⟨rfl, hb⟩; replace HO_224002 := aM (Kd.R_below (xr HO_224002) hb); replace BK214 := xbb BK214 hb; replace BK215 := xbb BK215 hb; replace BK216 := xbb BK216 hb; replace BK223 := xbb BK223 hb; replace HB := xbs hb; (try clear hb); (try clear hb2); (try clear hk); (try clear hi); have hnb143 := NB214_215.out; have hnc143 := NB215_214.out; have hnb144 := NB214_216.out; have hnc144 := NB216_214.out; obtain ⟨hcz145_0, hcz145_1, hcz145_2, hfz145_0, hfz145_1, hfz145_2⟩ := xf3 (w := w142) BK214) | ((with_reducible refine gate_callee (f := 99) rfl ?_); refine goesL_ (some 98) rfl rfl Try.func99 (by kernel_rfl) rfl #[.agg #[.int .i64 a0_0, .int .i64 a0_1, .slice A0_2 l0_2.length c0_2]] rfl (by (try simp only [List.map_toArray, List.map_cons, List.map_nil]); first | done | rfl | (simp only [List.length_drop, List.length_take]; rfl)) ?_; (with_reducible refine (spec_l6Copy.calls a0_0 a0_1 _ _ l0_2 t235 t236 t237 _ ?side1 ?side2 A136.out).mono ?_); (case side1 => exact xcb HR0_2); (case side2 => exact HC0_2.out); rintro e w146 ⟨v238, rfl, ho0, hb⟩; refine ⟨_, rfl, ?_⟩; have HO239 := aM (Kd.R_lower (Kd.R_new' ho0 (Kd.R_lt (xr HO_224002))) (below_size xbg)); replace HO_224002 := aM (Kd.R_elder' (xr HO_224002) (Kd.R_base ho0) hb); replace BK214 := xbb BK214 hb; replace BK215 := xbb BK215 hb; replace BK216 := xbb BK216 hb; replace BK223 := xbb BK223 hb; replace HB := xbs hb; (try clear hb); (try clear hb2); (try clear hk); (try clear hi); (try clear ho0); have hnb147 := NB216_215.out; have hnc147 := NB215_216.out; obtain ⟨hcz148_0, hcz148_1, hcz148_2, hfz148_0, hfz148_1, hfz148_2⟩ := xf3 (w := w146) BK216; obtain ⟨Ao149, co149, eo149⟩ := Kd.R_slice HO239.out; subst eo149))
      refine bodyPost_ret (results_ct rfl _ _ gb216 28 #[.int .i64 t235, .int .i64 t236, .slice Ao149 t237.length co149] (0, 0) _ rfl (by (with_reducible repeat (first | refine blk_drewN ?_ _ | refine blk_drew ?_ | refine blk_alloc ?_ _)); refine blk_put (cs := #[.int .i64 t235, .int .i64 t236, .slice none 0 0]) ?_ 2 _ rfl; (with_reducible repeat (first | refine blk_drewN ?_ _ | refine blk_drew ?_ | refine blk_alloc ?_ _)); refine blk_put (cs := #[.int .i64 t235, .int .i64 0, .slice none 0 0]) ?_ 1 _ rfl; (with_reducible repeat (first | refine blk_drewN ?_ _ | refine blk_drew ?_ | refine blk_alloc ?_ _)); refine blk_put (cs := #[.int .i64 0, .int .i64 0, .slice none 0 0]) ?_ 0 _ rfl; (with_reducible repeat (first | refine blk_drewN ?_ _ | refine blk_drew ?_ | refine blk_alloc ?_ _)); exact BK216.out) Try.underlying28 rfl (by kernel_rfl)) rfl ?_
      exact ⟨_, by first | rfl | (simp [errW_none, errW_some] <;> rfl) | (simp [*, errW_none, errW_some] <;> rfl), by (with_reducible repeat (first | apply Kd.R_alloc | apply Kd.R_drewN | apply Kd.R_drew)); exact Kd.R_mono (Kd.R_far (p := ⟨gb216, 2, none⟩) (Kd.R_far (p := ⟨gb216, 1, none⟩) (Kd.R_far (p := ⟨gb216, 0, none⟩) (Kd.R_types HO239.out BK216.out (by decide)) (fun _ hk => hk.2) (.int .i64 t235)) (fun _ hk => hk.2) (.int .i64 t236)) (fun _ hk => hk.2) (.slice Ao149 t237.length co149)) (fun _ hk => trivial), xbg⟩
    ·replace c123 := Bool.eq_false_iff.mpr c123
     subst c123
     have H1 : ((spec_l6Copy.f a0_0 a0_1 l0_2).bind fun bt240 => (some (bt240.1, bt240.2.1, bt240.2.2, false))) = some (r1, r2, r3, r4) := by rw [if_neg (show ¬ (false = true) by decide)] at H; exact H
     clear H; have H := H1; clear H1; replace H := Option.bind_eq_some_iff.mp H
     obtain ⟨⟨t240, t241, t242⟩, A1500, H⟩ := H
     replace H : (some (t240, t241, t242, false)) = some (r1, r2, r3, r4) := H; have A150 := aM A1500; clear A1500
     simp only [Option.some.injEq, Prod.mk.injEq] at H
     obtain ⟨rfl, rfl, rfl, rfl⟩ := H
     have hnb151 := NB214_215.out; have hnc151 := NB215_214.out; have hnb152 := NB214_216.out; have hnc152 := NB216_214.out; have hnb153 := NB214_223.out; have hnc153 := NB223_214.out; obtain ⟨hcz154_0, hcz154_1, hcz154_2, hfz154_0, hfz154_1, hfz154_2⟩ := xf3 (w := wc) BK214
     go_wp2_with (first | ((with_reducible refine gate_callee (f := 99) rfl ?_); refine goesL_ (some 98) rfl rfl Try.func99 (by kernel_rfl) rfl #[.agg #[.int .i64 a0_0, .int .i64 a0_1, .slice A0_2 l0_2.length c0_2]] rfl (by (try simp only [List.map_toArray, List.map_cons, List.map_nil]); first | done | rfl | (simp only [List.length_drop, List.length_take]; rfl)) ?_; (with_reducible refine (spec_l6Copy.calls a0_0 a0_1 _ _ l0_2 t240 t241 t242 _ ?side1 ?side2 A150.out).mono ?_); (case side1 => exact xcb HR0_2); (case side2 => exact HC0_2.out); rintro e w155 ⟨v243, rfl, ho0, hb⟩; refine ⟨_, rfl, ?_⟩; have HO244 := aM (Kd.R_lower (Kd.R_new' ho0 (Kd.R_lt (xr HO_224002))) (below_size xbg)); replace HO_224002 := aM (Kd.R_elder' (xr HO_224002) (Kd.R_base ho0) hb); replace BK214 := xbb BK214 hb; replace BK215 := xbb BK215 hb; replace BK216 := xbb BK216 hb; replace BK223 := xbb BK223 hb; replace HB := xbs hb; (try clear hb); (try clear hb2); (try clear hk); (try clear hi); (try clear ho0); have hnb156 := NB216_215.out; have hnc156 := NB215_216.out; have hnb157 := NB216_223.out; have hnc157 := NB223_216.out; obtain ⟨hcz158_0, hcz158_1, hcz158_2, hfz158_0, hfz158_1, hfz158_2⟩ := xf3 (w := w155) BK216; obtain ⟨Ao159, co159, eo159⟩ := Kd.R_slice HO244.out; subst eo159))
     refine bodyPost_ret (results_ct rfl _ _ gb216 28 #[.int .i64 t240, .int .i64 t241, .slice Ao159 t242.length co159] (0, 0) _ rfl (by (with_reducible repeat (first | refine blk_drewN ?_ _ | refine blk_drew ?_ | refine blk_alloc ?_ _)); refine blk_put (cs := #[.int .i64 t240, .int .i64 t241, .slice none 0 0]) ?_ 2 _ rfl; (with_reducible repeat (first | refine blk_drewN ?_ _ | refine blk_drew ?_ | refine blk_alloc ?_ _)); refine blk_put (cs := #[.int .i64 t240, .int .i64 0, .slice none 0 0]) ?_ 1 _ rfl; (with_reducible repeat (first | refine blk_drewN ?_ _ | refine blk_drew ?_ | refine blk_alloc ?_ _)); refine blk_put (cs := #[.int .i64 0, .int .i64 0, .slice none 0 0]) ?_ 0 _ rfl; (with_reducible repeat (first | refine blk_drewN ?_ _ | refine blk_drew ?_ | refine blk_alloc ?_ _)); exact BK216.out) Try.underlying28 rfl (by kernel_rfl)) rfl ?_
     exact ⟨_, by first | rfl | (simp [errW_none, errW_some] <;> rfl) | (simp [*, errW_none, errW_some] <;> rfl), by (with_reducible repeat (first | apply Kd.R_alloc | apply Kd.R_drewN | apply Kd.R_drew)); exact Kd.R_mono (Kd.R_far (p := ⟨gb216, 2, none⟩) (Kd.R_far (p := ⟨gb216, 1, none⟩) (Kd.R_far (p := ⟨gb216, 0, none⟩) (Kd.R_types HO244.out BK216.out (by decide)) (fun _ hk => hk.2) (.int .i64 t240)) (fun _ hk => hk.2) (.int .i64 t241)) (fun _ hk => hk.2) (.slice Ao159 t242.length co159)) (fun _ hk => trivial), xbg⟩
 ·replace c4 := Bool.eq_false_iff.mpr c4
  subst c4
  have H1 : (some (0, 0, ([] : List (S36)), false)) = some (r1, r2, r3, r4) := by rw [if_neg (show ¬ (false = true) by decide)] at H; exact H
  clear H; have H := H1; clear H1
  simp only [Option.some.injEq, Prod.mk.injEq] at H
  obtain ⟨rfl, rfl, rfl, rfl⟩ := H
  go_enter Try.func31, Try.ntmps31
  go_wp2_with (first | ((with_reducible refine gate_dst (N := 2) rfl ?_); (try (refine gate_guard (by rfl) ?_; dsimp only)); refine box_event ?hg (N := 2) ?hd (cs := #[.int .i64 a0_0, .int .i64 a0_1, .slice A0_2 l0_2.length c0_2]) (t := 28) ?hr ?_; (case hd => rfl); (case hg => rfl); (case hr => first | (go_simp; done) | (go_simp; rfl)); intro gb214 hg w160 hbox hb; have BK214 := aM (hbox); have GW214 := aM (xge hg); have GE214 := aM (xge hg); replace HB := xbs hb; clear hb hbox hg) | ((with_reducible refine gate_dst (N := 3) rfl ?_); (try (refine gate_guard (by rfl) ?_; dsimp only)); refine box_event ?hg (N := 3) ?hd (cs := #[.int .i64 a1_0, .int .i64 a1_1, .int .i64 a1_2, .int .i64 a1_3, .int .i64 a1_4, .int .i64 a1_5, .int .i64 a1_6, .int .i64 a1_7, .int .i64 a1_8, .string a1_9]) (t := 38) ?hr ?_; (case hd => rfl); (case hg => rfl); (case hr => first | (go_simp; done) | (go_simp; rfl)); intro gb215 hg w161 hbox hb; have GW215 := aM (xge hg); have GE215 := aM (xge hg); replace HB := xbs hb; have NB214_215 := aM ((by rw [hg]; exact Nat.ne_of_lt (blk_lt (g := gb214) (o := .cells #[.int .i64 a0_0, .int .i64 a0_1, .slice A0_2 l0_2.length c0_2] 28 (0, 0)) xblk) : gb214 ≠ gb215)); have NB215_214 := aM ((by rw [hg]; exact Nat.ne_of_gt (blk_lt (g := gb214) (o := .cells #[.int .i64 a0_0, .int .i64 a0_1, .slice A0_2 l0_2.length c0_2] 28 (0, 0)) xblk) : gb215 ≠ gb214)); replace BK214 := xbb BK214 hb; have BK215 := aM (hbox); clear hb hbox hg) | ((with_reducible refine gate_dst (N := 4) rfl ?_); (try (refine gate_guard (by rfl) ?_; dsimp only)); refine box_event ?hg (N := 4) ?hd (cs := #[.int .i64 0, .int .i64 0, .slice none 0 0]) (t := 28) ?hr ?_; (case hd => rfl); (case hg => rfl); (case hr => first | (go_simp; done) | (go_simp; rfl)); intro gb216 hg w162 hbox hb; have GW216 := aM (xge hg); have GE216 := aM (xge hg); replace HB := xbs hb; have NB214_216 := aM ((by rw [hg]; exact Nat.ne_of_lt (blk_lt (g := gb214) (o := .cells #[.int .i64 a0_0, .int .i64 a0_1, .slice A0_2 l0_2.length c0_2] 28 (0, 0)) xblk) : gb214 ≠ gb216)); have NB216_214 := aM ((by rw [hg]; exact Nat.ne_of_gt (blk_lt (g := gb214) (o := .cells #[.int .i64 a0_0, .int .i64 a0_1, .slice A0_2 l0_2.length c0_2] 28 (0, 0)) xblk) : gb216 ≠ gb214)); have NB215_216 := aM ((by rw [hg]; exact Nat.ne_of_lt (blk_lt (g := gb215) (o := .cells #[.int .i64 a1_0, .int .i64 a1_1, .int .i64 a1_2, .int .i64 a1_3, .int .i64 a1_4, .int .i64 a1_5, .int .i64 a1_6, .int .i64 a1_7, .int .i64 a1_8, .string a1_9] 38 (0, 0)) xblk) : gb215 ≠ gb216)); have NB216_215 := aM ((by rw [hg]; exact Nat.ne_of_gt (blk_lt (g := gb215) (o := .cells #[.int .i64 a1_0, .int .i64 a1_1, .int .i64 a1_2, .int .i64 a1_3, .int .i64 a1_4, .int .i64 a1_5, .int .i64 a1_6, .int .i64 a1_7, .int .i64 a1_8, .string a1_9] 38 (0, 0)) xblk) : gb216 ≠ gb215)); replace BK214 := xbb BK214 hb; replace BK215 := xbb BK215 hb; have BK216 := aM (hbox); clear hb hbox hg; have hnb163 := NB214_215.out; have hnc163 := NB215_214.out; have hnb164 := NB214_216.out; have hnc164 := NB216_214.out; obtain ⟨hcz165_0, hcz165_1, hcz165_2, hfz165_0, hfz165_1, hfz165_2⟩ := xf3 (w := w162) BK214) | ((with_reducible refine gate_callee (f := 98) rfl ?_); refine goesL_ (some 9) rfl rfl Try.func98 (by kernel_rfl) rfl #[.agg #[.int .i64 a0_0, .int .i64 a0_1, .slice A0_2 l0_2.length c0_2]] rfl (by (try simp only [List.map_toArray, List.map_cons, List.map_nil]); first | done | rfl | (simp only [List.length_drop, List.length_take]; rfl)) ?_; (with_reducible refine (spec_HardOk.calls k a0_0 a0_1 _ _ l0_2 false _ ?side1 ?side2 A3.out).mono ?_); (case side1 => exact xcb HR0_2); (case side2 => exact HC0_2.out); rintro e w166 ⟨rfl, hb⟩; refine ⟨_, rfl, ?_⟩; replace BK214 := xbb BK214 hb; replace BK215 := xbb BK215 hb; replace BK216 := xbb BK216 hb; replace HB := xbs hb; (try clear hb); (try clear hb2); (try clear hk); (try clear hi); have hnb167 := NB216_215.out; have hnc167 := NB215_216.out; obtain ⟨hcz168_0, hcz168_1, hcz168_2, hfz168_0, hfz168_1, hfz168_2⟩ := xf3 (w := w166) BK216))
  refine bodyPost_ret (results_ct rfl _ _ gb216 28 #[.int .i64 0, .int .i64 0, .slice none 0 0] (0, 0) _ rfl (by (with_reducible repeat (first | refine blk_drewN ?_ _ | refine blk_drew ?_ | refine blk_alloc ?_ _)); refine blk_put (cs := #[.int .i64 0, .int .i64 0, .slice none 0 0]) ?_ 2 _ rfl; (with_reducible repeat (first | refine blk_drewN ?_ _ | refine blk_drew ?_ | refine blk_alloc ?_ _)); refine blk_put (cs := #[.int .i64 0, .int .i64 0, .slice none 0 0]) ?_ 1 _ rfl; (with_reducible repeat (first | refine blk_drewN ?_ _ | refine blk_drew ?_ | refine blk_alloc ?_ _)); refine blk_put (cs := #[.int .i64 0, .int .i64 0, .slice none 0 0]) ?_ 0 _ rfl; (with_reducible repeat (first | refine blk_drewN ?_ _ | refine blk_drew ?_ | refine blk_alloc ?_ _)); exact BK216.out) Try.underlying28 rfl (by kernel_rfl)) rfl ?_
  exact ⟨_, by first | rfl | (simp [errW_none, errW_some] <;> rfl) | (simp [*, errW_none, errW_some] <;> rfl), by first | exact Kd.R_nil _ _ _ _ _ | exact Kd.N_nil _ _ _ _ _ | exact Kd.V_nil _ _ _ _ _ | exact Kd.Q_nil _ _ _ _ _ | exact Kd.S_nil _ _ _ _ _, xbg⟩

end Go.Proofs.Ytnjpfllmcmomoaa.QFnExactHardOf
