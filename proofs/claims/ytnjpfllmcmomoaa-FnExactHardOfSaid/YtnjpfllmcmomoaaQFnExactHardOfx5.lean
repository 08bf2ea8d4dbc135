-- A walk, by a program of this session.
import Derived.Test.YtnjpfllmcmomoaaQFnExactHardOfx0
import Derived.Test.YtnjpfllmcmomoaaQFnExactHardOfx3
import Derived.Test.YtnjpfllmcmomoaaQFnExactHardOfx4
namespace Go.Proofs.Ytnjpfllmcmomoaa.QFnExactHardOf
open Go.RowKit Go.Proofs.YtnjpfllmcmomoaaW.PrintWords Go.Proofs.YtnjpfllmcmomoaaW.PrintLast Go.Proofs.YtnjpfllmcmomoaaW.PrintMore
attribute [local go_sem] max2_int min2_int max_two min_two max_three min_three max_four min_four   -- for this text's walks alone
set_option linter.unusedVariables false
set_option linter.unusedSimpArgs false

/-! ### impl_HardApply: function 19 -/
def impl_HardApply.j0 : Nat → Bool → Int → Int → List (S36) → Int → Int → Int → Int → Int → Int → Int → Int → Int → ByteArray → Int → Int → List (S36) → Option (Int × Int × (List (S36)) × Bool)
 | 0, _, _, _, _, _, _, _, _, _, _, _, _, _, _, _, _, _ => none
 | k + 1, x7, x144000, x144001, x144002, x145000, x145001, x145002, x145003, x145004, x145005, x145006, x145007, x145008, x145009, x153000, x153001, x153002 => if x7 = true then ((impl_RecOk.f k x145000 x145001 x145002 x145003 x145004 x145005 x145006 x145007 x145008 x145009).bind fun t160 => (if t160 = true then ((impl_HardOk.f k x153000 x153001 x153002).bind fun t161 => (if t161 = true then (some (x153000, x153001, x153002, true)) else ((impl_copyHard.f x144000 x144001 x144002).bind fun bt162 => (some (bt162.1, bt162.2.1, bt162.2.2, false))))) else ((impl_copyHard.f x144000 x144001 x144002).bind fun bt167 => (some (bt167.1, bt167.2.1, bt167.2.2, false))))) else ((impl_copyHard.f x144000 x144001 x144002).bind fun bt172 => (some (bt172.1, bt172.2.1, bt172.2.2, false)))
def impl_HardApply.f (k : Nat) (a0_0 : Int) (a0_1 : Int) (l0_2 : List (S36)) (a1_0 : Int) (a1_1 : Int) (a1_2 : Int) (a1_3 : Int) (a1_4 : Int) (a1_5 : Int) (a1_6 : Int) (a1_7 : Int) (a1_8 : Int) (a1_9 : ByteArray) : Option (Int × Int × (List (S36)) × Bool) := (impl_HardOk.f k a0_0 a0_1 l0_2).bind fun t146 => (if t146 = true then ((impl_copyHard.f a0_0 a0_1 l0_2).bind fun bt147 => (if a1_0 = 1 then (if a1_1 > a0_0 then (impl_HardApply.j0 k true a0_0 a0_1 l0_2 a1_0 a1_1 a1_2 a1_3 a1_4 a1_5 a1_6 a1_7 a1_8 a1_9 a1_1 a1_2 bt147.2.2) else (if a1_1 = a0_0 then (if a0_1 = 0 then (impl_HardApply.j0 k true a0_0 a0_1 l0_2 a1_0 a1_1 a1_2 a1_3 a1_4 a1_5 a1_6 a1_7 a1_8 a1_9 a1_1 a1_2 bt147.2.2) else (impl_HardApply.j0 k (a0_1 == a1_2) a0_0 a0_1 l0_2 a1_0 a1_1 a1_2 a1_3 a1_4 a1_5 a1_6 a1_7 a1_8 a1_9 a1_1 a1_2 bt147.2.2)) else (impl_HardApply.j0 k false a0_0 a0_1 l0_2 a1_0 a1_1 a1_2 a1_3 a1_4 a1_5 a1_6 a1_7 a1_8 a1_9 a1_1 a1_2 bt147.2.2))) else (if a1_0 = 2 then (if bt147.2.2.length < 2513169434916 then (impl_HardApply.j0 k (a1_3 == (wrap64 ((l0_2.length : Int) + 1))) a0_0 a0_1 l0_2 a1_0 a1_1 a1_2 a1_3 a1_4 a1_5 a1_6 a1_7 a1_8 a1_9 bt147.1 bt147.2.1 (bt147.2.2 ++ [(⟨a1_4, (⟨a1_5, a1_6, a1_7, a1_8, a1_9⟩ : S34)⟩ : S36)])) else (none)) else (if a1_0 = 3 then ((impl_within.f a1_3 0 (l0_2.length : Int)).bind fun t156 => (if 0 ≤ (mn (mx a1_3 0) (l0_2.length : Int)) then (if (mn (mx a1_3 0) (l0_2.length : Int)) ≤ (bt147.2.2.length : Int) then (impl_HardApply.j0 k t156 a0_0 a0_1 l0_2 a1_0 a1_1 a1_2 a1_3 a1_4 a1_5 a1_6 a1_7 a1_8 a1_9 bt147.1 bt147.2.1 (bt147.2.2.take ((mn (mx a1_3 0) (l0_2.length : Int)) : Int).toNat)) else (none)) else (none))) else (impl_HardApply.j0 k false a0_0 a0_1 l0_2 a1_0 a1_1 a1_2 a1_3 a1_4 a1_5 a1_6 a1_7 a1_8 a1_9 bt147.1 bt147.2.1 bt147.2.2))))) else (some (0, 0, ([] : List (S36)), false)))
set_option maxRecDepth 100000 in
theorem impl_HardApply.mono_l : ∀ k, (∀ y0 y1 y2 y3 y4 y5 y6 y7 y8 y9 y10 y11 y12 y13 y14 y15 y16, LeO (impl_HardApply.j0 k y0 y1 y2 y3 y4 y5 y6 y7 y8 y9 y10 y11 y12 y13 y14 y15 y16) (impl_HardApply.j0 (k + 1) y0 y1 y2 y3 y4 y5 y6 y7 y8 y9 y10 y11 y12 y13 y14 y15 y16))
 | 0 => fun _ _ _ _ _ _ _ _ _ _ _ _ _ _ _ _ _ r h => by simp [impl_HardApply.j0] at h
 | k + 1 => by
  have ih0 := impl_HardApply.mono_l k
  ·intro y0 y1 y2 y3 y4 y5 y6 y7 y8 y9 y10 y11 y12 y13 y14 y15 y16
   unfold impl_HardApply.j0
   repeat' first
   | (with_reducible exact ih0 _ _ _ _ _ _ _ _ _ _ _ _ _ _ _ _ _)
   | (with_reducible exact impl_HardOk.mono _ _ _ _)
   | (with_reducible exact impl_RecOk.mono _ _ _ _ _ _ _ _ _ _ _)
   | (with_reducible exact LeO.refl _)
   | (with_reducible exact LeO.none _)
   | (with_reducible refine LeO.ite ?_ ?_)
   | (with_reducible refine LeO.bind ?_ (fun _ => ?_))
   | exact ih0 _ _ _ _ _ _ _ _ _ _ _ _ _ _ _ _ _
   | exact impl_HardOk.mono _ _ _ _
   | exact impl_RecOk.mono _ _ _ _ _ _ _ _ _ _ _
   | exact LeO.none _
   | refine LeO.ite ?_ ?_
   | refine LeO.bind ?_ (fun _ => ?_)
theorem impl_HardApply.mono : ∀ a0 a1 a2 a3 a4 a5 a6 a7 a8 a9 a10 a11 a12 k, LeO (impl_HardApply.f k a0 a1 a2 a3 a4 a5 a6 a7 a8 a9 a10 a11 a12) (impl_HardApply.f (k + 1) a0 a1 a2 a3 a4 a5 a6 a7 a8 a9 a10 a11 a12) := by
 intro a0 a1 a2 a3 a4 a5 a6 a7 a8 a9 a10 a11 a12 k
 have ih0 := impl_HardApply.mono_l k
 unfold impl_HardApply.f
 repeat' first
  | (with_reducible exact ih0 _ _ _ _ _ _ _ _ _ _ _ _ _ _ _ _ _)
  | (with_reducible exact impl_HardOk.mono _ _ _ _)
  | (with_reducible exact impl_RecOk.mono _ _ _ _ _ _ _ _ _ _ _)
  | (with_reducible exact LeO.refl _)
  | (with_reducible exact LeO.none _)
  | (with_reducible refine LeO.ite ?_ ?_)
  | (with_reducible refine LeO.bind ?_ (fun _ => ?_))
  | exact ih0 _ _ _ _ _ _ _ _ _ _ _ _ _ _ _ _ _
  | exact impl_HardOk.mono _ _ _ _
  | exact impl_RecOk.mono _ _ _ _ _ _ _ _ _ _ _
  | exact LeO.none _
  | refine LeO.ite ?_ ?_
  | refine LeO.bind ?_ (fun _ => ?_)
def impl_HardApply.T8 : Bool × List (List Nat × List Nat) := (true, [([], []), ([0], [0]), ([], []), ([2], [2]), ([0, 1], []), ([4, 1, 0, 1], [1, 4]), ([0, 1, 2, 3, 4, 5], []), ([6, 3, 5, 0, 1, 2, 3, 4, 5], [3, 6])])
def impl_HardApply.B8 : List Nat := [0, 1, 0, 4, 3, 19, 63, 127]
theorem impl_HardApply.tab8 : rtab .any (opsOf Try.f19 8) = impl_HardApply.T8 := by kernel_rfl
theorem impl_HardApply.bits8 : waitsOk impl_HardApply.T8.2 impl_HardApply.B8 = true := by kernel_rfl
set_option maxHeartbeats 8000000 in
set_option maxRecDepth 100000 in
theorem impl_HardApply.calls (k : Nat) (a0_0 : Int) (a0_1 : Int) (A0_2 : Option Addr) (c0_2 : Nat) (l0_2 : List (S36)) (a1_0 : Int) (a1_1 : Int) (a1_2 : Int) (a1_3 : Int) (a1_4 : Int) (a1_5 : Int) (a1_6 : Int) (a1_7 : Int) (a1_8 : Int) (a1_9 : ByteArray) (r1 : Int) (r2 : Int) (r3 : List (S36)) (r4 : Bool) (w : World) (hr0_2 : Kd.C k36 w A0_2 l0_2.length l0_2) (hc0_2 : l0_2.length ≤ c0_2) (h : impl_HardApply.f k a0_0 a0_1 l0_2 a1_0 a1_1 a1_2 a1_3 a1_4 a1_5 a1_6 a1_7 a1_8 a1_9 = some (r1, r2, r3, r4)) :
 Calls Try.prog 19 #[.agg #[.int .i64 a0_0, .int .i64 a0_1, .slice A0_2 l0_2.length c0_2], .agg #[.int .i64 a1_0, .int .i64 a1_1, .int .i64 a1_2, .int .i64 a1_3, .int .i64 a1_4, .int .i64 a1_5, .int .i64 a1_6, .int .i64 a1_7, .int .i64 a1_8, .string a1_9]] w fun e w' => ∃ v2_ : Value, e = .returned (.tuple #[.agg #[.int .i64 r1, .int .i64 r2, v2_], .bool r4]) ∧ Kd.R k36 36 w' w.heap.size (fun _ => True) v2_ r3 ∧ Below w.heap.size w w' := by
 have hu28 := Try.underlying28
 have hu38 := Try.underlying38
 have hu36 := Try.underlying36
 have HR0_2 := aM hr0_2
 have HC0_2 := aM hc0_2
 clear hr0_2 hc0_2
 have HB := aM (Below.refl w.heap.size w)
 have H : ((impl_HardOk.f k a0_0 a0_1 l0_2).bind fun t146 => (if t146 = true then ((impl_copyHard.f a0_0 a0_1 l0_2).bind fun bt147 => (if a1_0 = 1 then (if a1_1 > a0_0 then (impl_HardApply.j0 k true a0_0 a0_1 l0_2 a1_0 a1_1 a1_2 a1_3 a1_4 a1_5 a1_6 a1_7 a1_8 a1_9 a1_1 a1_2 bt147.2.2) else (if a1_1 = a0_0 then (if a0_1 = 0 then (impl_HardApply.j0 k true a0_0 a0_1 l0_2 a1_0 a1_1 a1_2 a1_3 a1_4 a1_5 a1_6 a1_7 a1_8 a1_9 a1_1 a1_2 bt147.2.2) else (impl_HardApply.j0 k (a0_1 == a1_2) a0_0 a0_1 l0_2 a1_0 a1_1 a1_2 a1_3 a1_4 a1_5 a1_6 a1_7 a1_8 a1_9 a1_1 a1_2 bt147.2.2)) else (impl_HardApply.j0 k false a0_0 a0_1 l0_2 a1_0 a1_1 a1_2 a1_3 a1_4 a1_5 a1_6 a1_7 a1_8 a1_9 a1_1 a1_2 bt147.2.2))) else (if a1_0 = 2 then (if bt147.2.2.length < 2513169434916 then (impl_HardApply.j0 k (a1_3 == (wrap64 ((l0_2.length : Int) + 1))) a0_0 a0_1 l0_2 a1_0 a1_1 a1_2 a1_3 a1_4 a1_5 a1_6 a1_7 a1_8 a1_9 bt147.1 bt147.2.1 (bt147.2.2 ++ [(⟨a1_4, (⟨a1_5, a1_6, a1_7, a1_8, a1_9⟩ : S34)⟩ : S36)])) else (none)) else (if a1_0 = 3 then ((impl_within.f a1_3 0 (l0_2.length : Int)).bind fun t156 => (if 0 ≤ (mn (mx a1_3 0) (l0_2.length : Int)) then (if (mn (mx a1_3 0) (l0_2.length : Int)) ≤ (bt147.2.2.length : Int) then (impl_HardApply.j0 k t156 a0_0 a0_1 l0_2 a1_0 a1_1 a1_2 a1_3 a1_4 a1_5 a1_6 a1_7 a1_8 a1_9 bt147.1 bt147.2.1 (bt147.2.2.take ((mn (mx a1_3 0) (l0_2.length : Int)) : Int).toNat)) else (none)) else (none))) else (impl_HardApply.j0 k false a0_0 a0_1 l0_2 a1_0 a1_1 a1_2 a1_3 a1_4 a1_5 a1_6 a1_7 a1_8 a1_9 bt147.1 bt147.2.1 bt147.2.2))))) else (some (0, 0, ([] : List (S36)), false)))) = some (r1, r2, r3, r4) := h
 clear h
 replace H := Option.bind_eq_some_iff.mp H
 obtain ⟨t146, A30, H⟩ := H
 replace H : (if t146 = true then ((impl_copyHard.f a0_0 a0_1 l0_2).bind fun bt147 => (if a1_0 = 1 then (if a1_1 > a0_0 then (impl_HardApply.j0 k true a0_0 a0_1 l0_2 a1_0 a1_1 a1_2 a1_3 a1_4 a1_5 a1_6 a1_7 a1_8 a1_9 a1_1 a1_2 bt147.2.2) else (if a1_1 = a0_0 then (if a0_1 = 0 then (impl_HardApply.j0 k true a0_0 a0_1 l0_2 a1_0 a1_1 a1_2 a1_3 a1_4 a1_5 a1_6 a1_7 a1_8 a1_9 a1_1 a1_2 bt147.2.2) else (impl_HardApply.j0 k (a0_1 == a1_2) a0_0 a0_1 l0_2 a1_0 a1_1 a1_2 a1_3 a1_4 a1_5 a1_6 a1_7 a1_8 a1_9 a1_1 a1_2 bt147.2.2)) else (impl_HardApply.j0 k false a0_0 a0_1 l0_2 a1_0 a1_1 a1_2 a1_3 a1_4 a1_5 a1_6 a1_7 a1_8 a1_9 a1_1 a1_2 bt147.2.2))) else (if a1_0 = 2 then (if bt147.2.2.length < 2513169434916 then (impl_HardApply.j0 k (a1_3 == (wrap64 ((l0_2.length : Int) + 1))) a0_0 a0_1 l0_2 a1_0 a1_1 a1_2 a1_3 a1_4 a1_5 a1_6 a1_7 a1_8 a1_9 bt147.1 bt147.2.1 (bt147.2.2 ++ [(⟨a1_4, (⟨a1_5, a1_6, a1_7, a1_8, a1_9⟩ : S34)⟩ : S36)])) else (none)) else (if a1_0 = 3 then ((impl_within.f a1_3 0 (l0_2.length : Int)).bind fun t156 => (if 0 ≤ (mn (mx a1_3 0) (l0_2.length : Int)) then (if (mn (mx a1_3 0) (l0_2.length : Int)) ≤ (bt147.2.2.length : Int) then (impl_HardApply.j0 k t156 a0_0 a0_1 l0_2 a1_0 a1_1 a1_2 a1_3 a1_4 a1_5 a1_6 a1_7 a1_8 a1_9 bt147.1 bt147.2.1 (bt147.2.2.take ((mn (mx a1_3 0) (l0_2.length : Int)) : Int).toNat)) else (none)) else (none))) else (impl_HardApply.j0 k false a0_0 a0_1 l0_2 a1_0 a1_1 a1_2 a1_3 a1_4 a1_5 a1_6 a1_7 a1_8 a1_9 bt147.1 bt147.2.1 bt147.2.2))))) else (some (0, 0, ([] : List (S36)), false))) = some (r1, r2, r3, r4) := H
 have A3 := aM A30
 clear A30
 by_cases c4 : t146 = true
 ·subst c4
  have H1 : ((impl_copyHard.f a0_0 a0_1 l0_2).bind fun bt147 => (if a1_0 = 1 then (if a1_1 > a0_0 then (impl_HardApply.j0 k true a0_0 a0_1 l0_2 a1_0 a1_1 a1_2 a1_3 a1_4 a1_5 a1_6 a1_7 a1_8 a1_9 a1_1 a1_2 bt147.2.2) else (if a1_1 = a0_0 then (if a0_1 = 0 then (impl_HardApply.j0 k true a0_0 a0_1 l0_2 a1_0 a1_1 a1_2 a1_3 a1_4 a1_5 a1_6 a1_7 a1_8 a1_9 a1_1 a1_2 bt147.2.2) else (impl_HardApply.j0 k (a0_1 == a1_2) a0_0 a0_1 l0_2 a1_0 a1_1 a1_2 a1_3 a1_4 a1_5 a1_6 a1_7 a1_8 a1_9 a1_1 a1_2 bt147.2.2)) else (impl_HardApply.j0 k false a0_0 a0_1 l0_2 a1_0 a1_1 a1_2 a1_3 a1_4 a1_5 a1_6 a1_7 a1_8 a1_9 a1_1 a1_2 bt147.2.2))) else (if a1_0 = 2 then (if bt147.2.2.length < 2513169434916 then (impl_HardApply.j0 k (a1_3 == (wrap64 ((l0_2.length : Int) + 1))) a0_0 a0_1 l0_2 a1_0 a1_1 a1_2 a1_3 a1_4 a1_5 a1_6 a1_7 a1_8 a1_9 bt147.1 bt147.2.1 (bt147.2.2 ++ [(⟨a1_4, (⟨a1_5, a1_6, a1_7, a1_8, a1_9⟩ : S34)⟩ : S36)])) else (none)) else (if a1_0 = 3 then ((impl_within.f a1_3 0 (l0_2.length : Int)).bind fun t156 => (if 0 ≤ (mn (mx a1_3 0) (l0_2.length : Int)) then (if (mn (mx a1_3 0) (l0_2.length : Int)) ≤ (bt147.2.2.length : Int) then (impl_HardApply.j0 k t156 a0_0 a0_1 l0_2 a1_0 a1_1 a1_2 a1_3 a1_4 a1_5 a1_6 a1_7 a1_8 a1_9 bt147.1 bt147.2.1 (bt147.2.2.take ((mn (mx a1_3 0) (l0_2.length : Int)) : Int).toNat)) else (none)) else (none))) else (impl_HardApply.j0 k false a0_0 a0_1 l0_2 a1_0 a1_1 a1_2 a1_3 a1_4 a1_5 a1_6 a1_7 a1_8 a1_9 bt147.1 bt147.2.1 bt147.2.2))))) = some (r1, r2, r3, r4) := by rw [if_pos rfl] at H; exact H
  clear H; have H := H1; clear H1; replace H := Option.bind_eq_some_iff.mp H
  obtain ⟨⟨t147, t148, t149⟩, A50, H⟩ := H
  replace H : (if a1_0 = 1 then (if a1_1 > a0_0 then (impl_HardApply.j0 k true a0_0 a0_1 l0_2 a1_0 a1_1 a1_2 a1_3 a1_4 a1_5 a1_6 a1_7 a1_8 a1_9 a1_1 a1_2 t149) else (if a1_1 = a0_0 then (if a0_1 = 0 then (impl_HardApply.j0 k true a0_0 a0_1 l0_2 a1_0 a1_1 a1_2 a1_3 a1_4 a1_5 a1_6 a1_7 a1_8 a1_9 a1_1 a1_2 t149) else (impl_HardApply.j0 k (a0_1 == a1_2) a0_0 a0_1 l0_2 a1_0 a1_1 a1_2 a1_3 a1_4 a1_5 a1_6 a1_7 a1_8 a1_9 a1_1 a1_2 t149)) else (impl_HardApply.j0 k false a0_0 a0_1 l0_2 a1_0 a1_1 a1_2 a1_3 a1_4 a1_5 a1_6 a1_7 a1_8 a1_9 a1_1 a1_2 t149))) else (if a1_0 = 2 then (if t149.length < 2513169434916 then (impl_HardApply.j0 k (a1_3 == (wrap64 ((l0_2.length : Int) + 1))) a0_0 a0_1 l0_2 a1_0 a1_1 a1_2 a1_3 a1_4 a1_5 a1_6 a1_7 a1_8 a1_9 t147 t148 (t149 ++ [(⟨a1_4, (⟨a1_5, a1_6, a1_7, a1_8, a1_9⟩ : S34)⟩ : S36)])) else (none)) else (if a1_0 = 3 then ((impl_within.f a1_3 0 (l0_2.length : Int)).bind fun t156 => (if 0 ≤ (mn (mx a1_3 0) (l0_2.length : Int)) then (if (mn (mx a1_3 0) (l0_2.length : Int)) ≤ (t149.length : Int) then (impl_HardApply.j0 k t156 a0_0 a0_1 l0_2 a1_0 a1_1 a1_2 a1_3 a1_4 a1_5 a1_6 a1_7 a1_8 a1_9 t147 t148 (t149.take ((mn (mx a1_3 0) (l0_2.length : Int)) : Int).toNat)) else (none)) else (none))) else (impl_HardApply.j0 k false a0_0 a0_1 l0_2 a1_0 a1_1 a1_2 a1_3 a1_4 a1_5 a1_6 a1_7 a1_8 a1_9 t147 t148 t149)))) = some (r1, r2, r3, r4) := H; have A5 := aM A50; clear A50; have HC6 := aM H; clear H
  go_enter Try.func19, Try.ntmps19
  go_upto_block 0 with (first | ((with_reducible refine gate_dst (N := 2) rfl ?_); refine box_event ?hg (N := 2) ?hd (cs := #[.int .i64 a0_0, .int .i64 a0_1, .slice A0_2 l0_2.length c0_2]) (t := 28) ?hr ?_; (case hd => rfl); (case hg => rfl); (case hr => first | (go_simp; done) | (go_simp; rfl)); intro gb143 hg w7 hbox hb; have BK143 := aM (hbox); have GW143 := aM (xge hg); have GE143 := aM (xge hg); replace HB := xbs hb; clear hb hbox hg) | ((with_reducible refine gate_dst (N := 3) rfl ?_); refine box_event ?hg (N := 3) ?hd (cs := #[.int .i64 a1_0, .int .i64 a1_1, .int .i64 a1_2, .int .i64 a1_3, .int .i64 a1_4, .int .i64 a1_5, .int .i64 a1_6, .int .i64 a1_7, .int .i64 a1_8, .string a1_9]) (t := 38) ?hr ?_; (case hd => rfl); (case hg => rfl); (case hr => first | (go_simp; done) | (go_simp; rfl)); intro gb144 hg w8 hbox hb; have GW144 := aM (xge hg); have GE144 := aM (xge hg); replace HB := xbs hb; have NB143_144 := aM ((by rw [hg]; exact Nat.ne_of_lt (blk_lt (g := gb143) (o := .cells #[.int .i64 a0_0, .int .i64 a0_1, .slice A0_2 l0_2.length c0_2] 28 (0, 0)) xblk) : gb143 ≠ gb144)); have NB144_143 := aM ((by rw [hg]; exact Nat.ne_of_gt (blk_lt (g := gb143) (o := .cells #[.int .i64 a0_0, .int .i64 a0_1, .slice A0_2 l0_2.length c0_2] 28 (0, 0)) xblk) : gb144 ≠ gb143)); replace BK143 := xbb BK143 hb; have BK144 := aM (hbox); clear hb hbox hg) | ((with_reducible refine gate_dst (N := 4) rfl ?_); refine box_event ?hg (N := 4) ?hd (cs := #[.int .i64 0, .int .i64 0, .slice none 0 0]) (t := 28) ?hr ?_; (case hd => rfl); (case hg => rfl); (case hr => first | (go_simp; done) | (go_simp; rfl)); intro gb145 hg w9 hbox hb; have GW145 := aM (xge hg); have GE145 := aM (xge hg); replace HB := xbs hb; have NB143_145 := aM ((by rw [hg]; exact Nat.ne_of_lt (blk_lt (g := gb143) (o := .cells #[.int .i64 a0_0, .int .i64 a0_1, .slice A0_2 l0_2.length c0_2] 28 (0, 0)) xblk) : gb143 ≠ gb145)); have NB145_143 := aM ((by rw [hg]; exact Nat.ne_of_gt (blk_lt (g := gb143) (o := .cells #[.int .i64 a0_0, .int .i64 a0_1, .slice A0_2 l0_2.length c0_2] 28 (0, 0)) xblk) : gb145 ≠ gb143)); have NB144_145 := aM ((by rw [hg]; exact Nat.ne_of_lt (blk_lt (g := gb144) (o := .cells #[.int .i64 a1_0, .int .i64 a1_1, .int .i64 a1_2, .int .i64 a1_3, .int .i64 a1_4, .int .i64 a1_5, .int .i64 a1_6, .int .i64 a1_7, .int .i64 a1_8, .string a1_9] 38 (0, 0)) xblk) : gb144 ≠ gb145)); have NB145_144 := aM ((by rw [hg]; exact Nat.ne_of_gt (blk_lt (g := gb144) (o := .cells #[.int .i64 a1_0, .int .i64 a1_1, .int .i64 a1_2, .int .i64 a1_3, .int .i64 a1_4, .int .i64 a1_5, .int .i64 a1_6, .int .i64 a1_7, .int .i64 a1_8, .string a1_9] 38 (0, 0)) xblk) : gb145 ≠ gb144)); replace BK143 := xbb BK143 hb; replace BK144 := xbb BK144 hb; have BK145 := aM (hbox); clear hb hbox hg; have hnb10 := NB143_144.out; have hnc10 := NB144_143.out; have hnb11 := NB143_145.out; have hnc11 := NB145_143.out; obtain ⟨hcz12_0, hcz12_1, hcz12_2, hfz12_0, hfz12_1, hfz12_2⟩ := xf3 (w := w9) BK143) | ((with_reducible refine gate_callee (f := 20) rfl ?_); refine goesL_ (some 9) rfl rfl Try.func20 (by kernel_rfl) rfl #[.agg #[.int .i64 a0_0, .int .i64 a0_1, .slice A0_2 l0_2.length c0_2]] rfl (by (try simp only [List.map_toArray, List.map_cons, List.map_nil]); first | done | rfl | (simp only [List.length_drop, List.length_take]; rfl)) ?_; (with_reducible refine (impl_HardOk.calls k a0_0 a0_1 _ _ l0_2 true _ ?side1 ?side2 A3.out).mono ?_); (case side1 => exact xcb HR0_2); (case side2 => exact HC0_2.out); rintro e w13 ⟨rfl, hb⟩; refine ⟨_, rfl, ?_⟩; replace BK143 := xbb BK143 hb; replace BK144 := xbb BK144 hb; replace BK145 := xbb BK145 hb; replace HB := xbs hb; (try clear hb); (try clear hb2); (try clear hk); (try clear hi); obtain ⟨hcz14_0, hcz14_1, hcz14_2, hfz14_0, hfz14_1, hfz14_2⟩ := xf3 (w := w13) BK143) | ((with_reducible refine gate_callee (f := 80) rfl ?_); refine goesL_ (some 13) rfl rfl Try.func80 (by kernel_rfl) rfl #[.agg #[.int .i64 a0_0, .int .i64 a0_1, .slice A0_2 l0_2.length c0_2]] rfl (by (try simp only [List.map_toArray, List.map_cons, List.map_nil]); first | done | rfl | (simp only [List.length_drop, List.length_take]; rfl)) ?_; (with_reducible refine (impl_copyHard.calls a0_0 a0_1 _ _ l0_2 t147 t148 t149 _ ?side1 ?side2 A5.out).mono ?_); (case side1 => exact xcb HR0_2); (case side2 => exact HC0_2.out); rintro e w15 ⟨v150, rfl, ho0, hb⟩; refine ⟨_, rfl, ?_⟩; have HO151 := aM (Kd.R_lower ho0 (below_size xbg)); replace BK143 := xbb BK143 hb; replace BK144 := xbb BK144 hb; replace BK145 := xbb BK145 hb; replace HB := xbs hb; (try clear hb); (try clear hb2); (try clear hk); (try clear hi); (try clear ho0)) | ((with_reducible refine gate_dst (N := 6) rfl ?_); refine box_event ?hg (N := 6) ?hd (cs := #[.int .i64 0, .int .i64 0, .slice none 0 0]) (t := 28) ?hr ?_; (case hd => rfl); (case hg => rfl); (case hr => first | (go_simp; done) | (go_simp; rfl)); intro gb152 hg w16 hbox hb; replace HO151 := aM (Kd.R_below (xr HO151) hb); have GW152 := aM (xge hg); have GE152 := aM (xge hg); replace HB := xbs hb; have NB143_152 := aM ((by rw [hg]; exact Nat.ne_of_lt (blk_lt (g := gb143) (o := .cells #[.int .i64 a0_0, .int .i64 a0_1, .slice A0_2 l0_2.length c0_2] 28 (0, 0)) xblk) : gb143 ≠ gb152)); have NB152_143 := aM ((by rw [hg]; exact Nat.ne_of_gt (blk_lt (g := gb143) (o := .cells #[.int .i64 a0_0, .int .i64 a0_1, .slice A0_2 l0_2.length c0_2] 28 (0, 0)) xblk) : gb152 ≠ gb143)); have NB144_152 := aM ((by rw [hg]; exact Nat.ne_of_lt (blk_lt (g := gb144) (o := .cells #[.int .i64 a1_0, .int .i64 a1_1, .int .i64 a1_2, .int .i64 a1_3, .int .i64 a1_4, .int .i64 a1_5, .int .i64 a1_6, .int .i64 a1_7, .int .i64 a1_8, .string a1_9] 38 (0, 0)) xblk) : gb144 ≠ gb152)); have NB152_144 := aM ((by rw [hg]; exact Nat.ne_of_gt (blk_lt (g := gb144) (o := .cells #[.int .i64 a1_0, .int .i64 a1_1, .int .i64 a1_2, .int .i64 a1_3, .int .i64 a1_4, .int .i64 a1_5, .int .i64 a1_6, .int .i64 a1_7, .int .i64 a1_8, .string a1_9] 38 (0, 0)) xblk) : gb152 ≠ gb144)); have NB145_152 := aM ((by rw [hg]; exact Nat.ne_of_lt (blk_lt (g := gb145) (o := .cells #[.int .i64 0, .int .i64 0, .slice none 0 0] 28 (0, 0)) xblk) : gb145 ≠ gb152)); have NB152_145 := aM ((by rw [hg]; exact Nat.ne_of_gt (blk_lt (g := gb145) (o := .cells #[.int .i64 0, .int .i64 0, .slice none 0 0] 28 (0, 0)) xblk) : gb152 ≠ gb145)); replace BK143 := xbb BK143 hb; replace BK144 := xbb BK144 hb; replace BK145 := xbb BK145 hb; have BK152 := aM (hbox); clear hb hbox hg; have hnb17 := NB152_143.out; have hnc17 := NB143_152.out; have hnb18 := NB152_144.out; have hnc18 := NB144_152.out; have hnb19 := NB152_145.out; have hnc19 := NB145_152.out; obtain ⟨hcz20_0, hcz20_1, hcz20_2, hfz20_0, hfz20_1, hfz20_2⟩ := xf3 (w := w16) BK152; obtain ⟨Ao21, co21, eo21⟩ := Kd.R_slice HO151.out; subst eo21) | ((with_reducible refine gate_store (t := 28) (p := 6) rfl ?_); refine store_event (t := 28) (p := 6) (v := ?vo_w22) (w1 := (((w16.setCell ⟨gb152, 0, none⟩ (.int .i64 t147)).setCell ⟨gb152, 1, none⟩ (.int .i64 t148)).setCell ⟨gb152, 2, none⟩ (.slice Ao21 t149.length co21))) ?hg ?ho ?hn ?hr ?_; (case ho | hg | hn => rfl); (case hr => first | (go_simp; done) | (go_simp; rfl)); intro w22 hw; replace HO151 : Aside0 (Kd.R k36 36 w22 w.heap.size (fun _ => True) (.slice Ao21 t149.length co21) t149) := ⟨(by rw [hw]; exact (by (with_reducible repeat (first | apply Kd.R_alloc | apply Kd.R_drewN | apply Kd.R_drew)); exact Kd.R_mono (Kd.R_far (p := ⟨gb152, 2, none⟩) (Kd.R_far (p := ⟨gb152, 1, none⟩) (Kd.R_far (p := ⟨gb152, 0, none⟩) (Kd.R_types HO151.out BK152.out (by decide)) (fun _ hk => hk.2) (.int .i64 t147)) (fun _ hk => hk.2) (.int .i64 t148)) (fun _ hk => hk.2) (.slice Ao21 t149.length co21)) (fun _ hk => trivial)))⟩; replace BK143 : Aside0 (w22.heap[gb143]? = some (.cells #[.int .i64 a0_0, .int .i64 a0_1, .slice A0_2 l0_2.length c0_2] 28 (0, 0))) := ⟨(by rw [hw]; exact (by (with_reducible repeat (first | refine blk_drewN ?_ _ | refine blk_drew ?_ | refine blk_alloc ?_ _)); refine blk_far ?_ NB143_152.out _; (with_reducible repeat (first | refine blk_drewN ?_ _ | refine blk_drew ?_ | refine blk_alloc ?_ _)); refine blk_far ?_ NB143_152.out _; (with_reducible repeat (first | refine blk_drewN ?_ _ | refine blk_drew ?_ | refine blk_alloc ?_ _)); refine blk_far ?_ NB143_152.out _; (with_reducible repeat (first | refine blk_drewN ?_ _ | refine blk_drew ?_ | refine blk_alloc ?_ _)); exact BK143.out))⟩; replace BK144 : Aside0 (w22.heap[gb144]? = some (.cells #[.int .i64 a1_0, .int .i64 a1_1, .int .i64 a1_2, .int .i64 a1_3, .int .i64 a1_4, .int .i64 a1_5, .int .i64 a1_6, .int .i64 a1_7, .int .i64 a1_8, .string a1_9] 38 (0, 0))) := ⟨(by rw [hw]; exact (by (with_reducible repeat (first | refine blk_drewN ?_ _ | refine blk_drew ?_ | refine blk_alloc ?_ _)); refine blk_far ?_ NB144_152.out _; (with_reducible repeat (first | refine blk_drewN ?_ _ | refine blk_drew ?_ | refine blk_alloc ?_ _)); refine blk_far ?_ NB144_152.out _; (with_reducible repeat (first | refine blk_drewN ?_ _ | refine blk_drew ?_ | refine blk_alloc ?_ _)); refine blk_far ?_ NB144_152.out _; (with_reducible repeat (first | refine blk_drewN ?_ _ | refine blk_drew ?_ | refine blk_alloc ?_ _)); exact BK144.out))⟩; replace BK145 : Aside0 (w22.heap[gb145]? = some (.cells #[.int .i64 0, .int .i64 0, .slice none 0 0] 28 (0, 0))) := ⟨(by rw [hw]; exact (by (with_reducible repeat (first | refine blk_drewN ?_ _ | refine blk_drew ?_ | refine blk_alloc ?_ _)); refine blk_far ?_ NB145_152.out _; (with_reducible repeat (first | refine blk_drewN ?_ _ | refine blk_drew ?_ | refine blk_alloc ?_ _)); refine blk_far ?_ NB145_152.out _; (with_reducible repeat (first | refine blk_drewN ?_ _ | refine blk_drew ?_ | refine blk_alloc ?_ _)); refine blk_far ?_ NB145_152.out _; (with_reducible repeat (first | refine blk_drewN ?_ _ | refine blk_drew ?_ | refine blk_alloc ?_ _)); exact BK145.out))⟩; replace BK152 : Aside0 (w22.heap[gb152]? = some (.cells #[.int .i64 t147, .int .i64 t148, .slice Ao21 t149.length co21] 28 (0, 0))) := ⟨(by rw [hw]; exact (by (with_reducible repeat (first | refine blk_drewN ?_ _ | refine blk_drew ?_ | refine blk_alloc ?_ _)); refine blk_put (cs := #[.int .i64 t147, .int .i64 t148, .slice none 0 0]) ?_ 2 _ rfl; (with_reducible repeat (first | refine blk_drewN ?_ _ | refine blk_drew ?_ | refine blk_alloc ?_ _)); refine blk_put (cs := #[.int .i64 t147, .int .i64 0, .slice none 0 0]) ?_ 1 _ rfl; (with_reducible repeat (first | refine blk_drewN ?_ _ | refine blk_drew ?_ | refine blk_alloc ?_ _)); refine blk_put (cs := #[.int .i64 0, .int .i64 0, .slice none 0 0]) ?_ 0 _ rfl; (with_reducible repeat (first | refine blk_drewN ?_ _ | refine blk_drew ?_ | refine blk_alloc ?_ _)); exact BK152.out))⟩; replace HB : Aside0 (Below w.heap.size w w22) := ⟨(by rw [hw]; exact xbg)⟩; clear hw; have hnb23 := NB144_145.out; have hnc23 := NB145_144.out; obtain ⟨hcz24_0, hcz24_1, hcz24_2, hcz24_3, hcz24_4, hcz24_5, hcz24_6, hcz24_7, hcz24_8, hcz24_9, hfz24_0, hfz24_1, hfz24_2, hfz24_3, hfz24_4, hfz24_5, hfz24_6, hfz24_7, hfz24_8, hfz24_9⟩ := xf10 (w := w22) BK144))
  (try simp only [Act.put, List.setIfInBounds_toArray, List.set_cons_zero, List.set_cons_succ])
  go_cut [7] (fun v7 wc => ∃ (kq : Nat) (x7_5 : Bool) (x153000_5 : Int) (x153001_5 : Int) (x153002_5 : List (S36)) (u153002 : Value), v7 = .bool x7_5 ∧ Aside0 (impl_HardApply.j0 kq x7_5 a0_0 a0_1 l0_2 a1_0 a1_1 a1_2 a1_3 a1_4 a1_5 a1_6 a1_7 a1_8 a1_9 x153000_5 x153001_5 x153002_5 = some (r1, r2, r3, r4)) ∧ Aside0 (kq ≤ k) ∧ Aside0 (Kd.R k36 36 wc w.heap.size (fun _ => True) u153002 x153002_5) ∧ Aside0 (wc.heap[gb143]? = some (.cells #[.int .i64 a0_0, .int .i64 a0_1, (.slice A0_2 l0_2.length c0_2)] 28 (0, 0))) ∧ Aside0 (wc.heap[gb144]? = some (.cells #[.int .i64 a1_0, .int .i64 a1_1, .int .i64 a1_2, .int .i64 a1_3, .int .i64 a1_4, .int .i64 a1_5, .int .i64 a1_6, .int .i64 a1_7, .int .i64 a1_8, .string a1_9] 38 (0, 0))) ∧ Aside0 (wc.heap[gb145]? = some (.cells #[.int .i64 0, .int .i64 0, (.slice none 0 0)] 28 (0, 0))) ∧ Aside0 (wc.heap[gb152]? = some (.cells #[.int .i64 x153000_5, .int .i64 x153001_5, u153002] 28 (0, 0))) ∧ Aside0 (Below w.heap.size w wc))
  case first =>
   have H := HC6.out; clear HC6
   by_cases c25 : a1_0 = 1
   ·rw [if_pos c25] at H
    have c25b0 : (a1_0 == 1) = true := beq_iff_eq.mpr c25; have c25b1 : (a1_0 != 1) = false := bne_eq_false_iff_eq.mpr c25; clear c25
    (first | rw [c25b0] | (simp only [i64_w, i32_w]; rw [c25b0]) | skip)
    by_cases c26 : a1_1 > a0_0
    ·rw [if_pos c26] at H
     have c26b0 : decide (a0_0 < a1_1) = true := decide_eq_true c26; clear c26
     have H' := aM H
     clear H; have hnb27 := NB144_143.out; have hnc27 := NB143_144.out; have hnb28 := NB144_145.out; have hnc28 := NB145_144.out; have hnb29 := NB144_152.out; have hnc29 := NB152_144.out; obtain ⟨hcz30_0, hcz30_1, hcz30_2, hcz30_3, hcz30_4, hcz30_5, hcz30_6, hcz30_7, hcz30_8, hcz30_9, hfz30_0, hfz30_1, hfz30_2, hfz30_3, hfz30_4, hfz30_5, hfz30_6, hfz30_7, hfz30_8, hfz30_9⟩ := xf10 (w := w22) BK144; have hnb31 := NB143_145.out; have hnc31 := NB145_143.out; have hnb32 := NB143_152.out
     have hnc32 := NB152_143.out; obtain ⟨hcz33_0, hcz33_1, hcz33_2, hfz33_0, hfz33_1, hfz33_2⟩ := xf3 (w := w22) BK143
     try go_wp2
     replace HO151 := aM (Kd.R_drew HO151.out); replace BK143 := aM (blk_drew BK143.out); replace BK144 := aM (blk_drew BK144.out); replace BK145 := aM (blk_drew BK145.out); replace BK152 := aM (blk_drew BK152.out); replace HB := aM (below_drew1 HB.out)
     refine start_ (n := 8) (S := fun w' => w'.cell? ⟨gb144, 0, none⟩ = some (.int .i64 a1_0) ∧ w'.cell? ⟨gb144, 1, none⟩ = some (.int .i64 a1_1) ∧ w'.cell? ⟨gb144, 2, none⟩ = some (.int .i64 a1_2) ∧ w'.cell? ⟨gb144, 3, none⟩ = some (.int .i64 a1_3) ∧ w'.cell? ⟨gb144, 4, none⟩ = some (.int .i64 a1_4) ∧ w'.cell? ⟨gb144, 5, none⟩ = some (.int .i64 a1_5) ∧ w'.cell? ⟨gb144, 6, none⟩ = some (.int .i64 a1_6) ∧ w'.cell? ⟨gb144, 7, none⟩ = some (.int .i64 a1_7) ∧ w'.cell? ⟨gb144, 8, none⟩ = some (.int .i64 a1_8) ∧ w'.cell? ⟨gb144, 9, none⟩ = some (.string a1_9)) (ds := []) #[false, false, false, false, false, false, false, false] (by kernel_rfl) rfl rfl ⟨xc BK144 0 rfl, xc BK144 1 rfl, xc BK144 2 rfl, xc BK144 3 rfl, xc BK144 4 rfl, xc BK144 5 rfl, xc BK144 6 rfl, xc BK144 7 rfl, xc BK144 8 rfl, xc BK144 9 rfl⟩ (fun hHeld => ?_); refine with_tabW impl_HardApply.tab8 impl_HardApply.bits8 (fun HT_ HW_ => ?_)
     generalize w22.drew = w34 at HO151 BK143 BK144 BK145 BK152 HB hHeld ⊢
     refine pv_ 0 42 (h := ?_)
     refine pv_ 2 44 (h := ?_)
     refine tk_ 1 43 (h := ?_)
     refine pv_ 4 46 (h := ?_)
     refine tk_ 3 45 (h := ?_)
     refine one_ (i := 5) (N := none) #[true, true, true, true, true, true, false, false] rfl rfl (one_of HT_.out (by kernel_rfl)) (by decide) (fun K hK => ?_)
     have hs35 : w34.cell? ⟨gb152, 0, none⟩ = some (.int .i64 t147) := xc BK152 0 rfl; have hfs35 := blk_frozen BK152.out 0; have hns35_0 := NB143_152.out; have hns35_1 := NB144_152.out; have hns35_2 := NB145_152.out; have hms35_0 := NB152_143.out; have hms35_1 := NB152_144.out; have hms35_2 := NB152_145.out
     refine skip_ (w1 := ?_) (by rfl) rfl ?_ ?_
     rotate_left
     ·go_simp
      rfl
     refine hK.out _ _ ⟨((cell_far (p := ⟨gb152, _, none⟩) NB144_152.out _).trans (hHeld.1)), ((cell_far (p := ⟨gb152, _, none⟩) NB144_152.out _).trans (hHeld.2.1)), ((cell_far (p := ⟨gb152, _, none⟩) NB144_152.out _).trans (hHeld.2.2.1)), ((cell_far (p := ⟨gb152, _, none⟩) NB144_152.out _).trans (hHeld.2.2.2.1)), ((cell_far (p := ⟨gb152, _, none⟩) NB144_152.out _).trans (hHeld.2.2.2.2.1)), ((cell_far (p := ⟨gb152, _, none⟩) NB144_152.out _).trans (hHeld.2.2.2.2.2.1)), ((cell_far (p := ⟨gb152, _, none⟩) NB144_152.out _).trans (hHeld.2.2.2.2.2.2.1)), ((cell_far (p := ⟨gb152, _, none⟩) NB144_152.out _).trans (hHeld.2.2.2.2.2.2.2.1)), ((cell_far (p := ⟨gb152, _, none⟩) NB144_152.out _).trans (hHeld.2.2.2.2.2.2.2.2.1)), ((cell_far (p := ⟨gb152, _, none⟩) NB144_152.out _).trans (hHeld.2.2.2.2.2.2.2.2.2))⟩ (fun hHeld => ?_)
     clear hK K
     refine pv_ 6 47 (h := ?_)
     refine one_ (i := 7) (N := none) #[true, true, true, true, true, true, true, true] rfl rfl (one_of HT_.out (by kernel_rfl)) (by decide) (fun K hK => ?_)
     have hs36 : w34.cell? ⟨gb152, 1, none⟩ = some (.int .i64 t148) := xc BK152 1 rfl; have hfs36 := blk_frozen BK152.out 1; have hns36_0 := NB143_152.out; have hns36_1 := NB144_152.out; have hns36_2 := NB145_152.out; have hms36_0 := NB152_143.out; have hms36_1 := NB152_144.out; have hms36_2 := NB152_145.out
     refine skip_ (w1 := ?_) (by rfl) rfl ?_ ?_
     rotate_left
     ·go_simp
      rfl
     refine hK.out _ _ ⟨((cell_far (p := ⟨gb152, _, none⟩) NB144_152.out _).trans (hHeld.1)), ((cell_far (p := ⟨gb152, _, none⟩) NB144_152.out _).trans (hHeld.2.1)), ((cell_far (p := ⟨gb152, _, none⟩) NB144_152.out _).trans (hHeld.2.2.1)), ((cell_far (p := ⟨gb152, _, none⟩) NB144_152.out _).trans (hHeld.2.2.2.1)), ((cell_far (p := ⟨gb152, _, none⟩) NB144_152.out _).trans (hHeld.2.2.2.2.1)), ((cell_far (p := ⟨gb152, _, none⟩) NB144_152.out _).trans (hHeld.2.2.2.2.2.1)), ((cell_far (p := ⟨gb152, _, none⟩) NB144_152.out _).trans (hHeld.2.2.2.2.2.2.1)), ((cell_far (p := ⟨gb152, _, none⟩) NB144_152.out _).trans (hHeld.2.2.2.2.2.2.2.1)), ((cell_far (p := ⟨gb152, _, none⟩) NB144_152.out _).trans (hHeld.2.2.2.2.2.2.2.2.1)), ((cell_far (p := ⟨gb152, _, none⟩) NB144_152.out _).trans (hHeld.2.2.2.2.2.2.2.2.2))⟩ (fun hHeld => ?_)
     clear hK K
     refine done_ (done_of HT_.out (by kernel_rfl)) ?_
     try go_wp2
     go_meet
     case rel => exact ⟨_, (true), (a1_1), (a1_2), (t149), (.slice Ao21 t149.length co21), (by first | rfl | (simp; done) | (simp [*]; done)), H', ⟨by first | omega | exact Nat.le_refl _⟩, ⟨by (with_reducible repeat (first | apply Kd.R_alloc | apply Kd.R_drewN | apply Kd.R_drew)); exact Kd.R_mono (Kd.R_far (p := ⟨gb152, 1, none⟩) (Kd.R_far (p := ⟨gb152, 0, none⟩) (Kd.R_types HO151.out BK152.out (by decide)) (fun _ hk => hk.2) (.int .i64 a1_1)) (fun _ hk => hk.2) (.int .i64 a1_2)) (fun _ hk => trivial)⟩, ⟨by (with_reducible repeat (first | refine blk_drewN ?_ _ | refine blk_drew ?_ | refine blk_alloc ?_ _)); refine blk_far ?_ NB143_152.out _; (with_reducible repeat (first | refine blk_drewN ?_ _ | refine blk_drew ?_ | refine blk_alloc ?_ _)); refine blk_far ?_ NB143_152.out _; (with_reducible repeat (first | refine blk_drewN ?_ _ | refine blk_drew ?_ | refine blk_alloc ?_ _)); exact BK143.out⟩, ⟨by (with_reducible repeat (first | refine blk_drewN ?_ _ | refine blk_drew ?_ | refine blk_alloc ?_ _)); refine blk_far ?_ NB144_152.out _; (with_reducible repeat (first | refine blk_drewN ?_ _ | refine blk_drew ?_ | refine blk_alloc ?_ _)); refine blk_far ?_ NB144_152.out _; (with_reducible repeat (first | refine blk_drewN ?_ _ | refine blk_drew ?_ | refine blk_alloc ?_ _)); exact BK144.out⟩, ⟨by (with_reducible repeat (first | refine blk_drewN ?_ _ | refine blk_drew ?_ | refine blk_alloc ?_ _)); refine blk_far ?_ NB145_152.out _; (with_reducible repeat (first | refine blk_drewN ?_ _ | refine blk_drew ?_ | refine blk_alloc ?_ _)); refine blk_far ?_ NB145_152.out _; (with_reducible repeat (first | refine blk_drewN ?_ _ | refine blk_drew ?_ | refine blk_alloc ?_ _)); exact BK145.out⟩, ⟨by (with_reducible repeat (first | refine blk_drewN ?_ _ | refine blk_drew ?_ | refine blk_alloc ?_ _)); refine blk_put (cs := #[.int .i64 a1_1, .int .i64 t148, .slice Ao21 t149.length co21]) ?_ 1 _ rfl; (with_reducible repeat (first | refine blk_drewN ?_ _ | refine blk_drew ?_ | refine blk_alloc ?_ _)); refine blk_put (cs := #[.int .i64 t147, .int .i64 t148, .slice Ao21 t149.length co21]) ?_ 0 _ rfl; (with_reducible repeat (first | refine blk_drewN ?_ _ | refine blk_drew ?_ | refine blk_alloc ?_ _)); exact BK152.out⟩, ⟨xbg⟩⟩
    ·rw [if_neg c26] at H
     have c26b0 : decide (a0_0 < a1_1) = false := decide_eq_false c26; clear c26
     by_cases c37 : a1_1 = a0_0
     ·rw [if_pos c37] at H
      have c37b0 : (a1_1 == a0_0) = true := beq_iff_eq.mpr c37; have c37b1 : (a1_1 != a0_0) = false := bne_eq_false_iff_eq.mpr c37; clear c37
      by_cases c38 : a0_1 = 0
      ·rw [if_pos c38] at H
       have c38b0 : (a0_1 == 0) = true := beq_iff_eq.mpr c38; have c38b1 : (a0_1 != 0) = false := bne_eq_false_iff_eq.mpr c38; clear c38
       have H' := aM H
       clear H; have hnb39 := NB144_143.out; have hnc39 := NB143_144.out; have hnb40 := NB144_145.out; have hnc40 := NB145_144.out; have hnb41 := NB144_152.out; have hnc41 := NB152_144.out; obtain ⟨hcz42_0, hcz42_1, hcz42_2, hcz42_3, hcz42_4, hcz42_5, hcz42_6, hcz42_7, hcz42_8, hcz42_9, hfz42_0, hfz42_1, hfz42_2, hfz42_3, hfz42_4, hfz42_5, hfz42_6, hfz42_7, hfz42_8, hfz42_9⟩ := xf10 (w := w22) BK144; have hnb43 := NB143_145.out; have hnc43 := NB145_143.out; have hnb44 := NB143_152.out
       have hnc44 := NB152_143.out; obtain ⟨hcz45_0, hcz45_1, hcz45_2, hfz45_0, hfz45_1, hfz45_2⟩ := xf3 (w := w22) BK143
       try go_wp2
       replace HO151 := aM (Kd.R_drew HO151.out); replace BK143 := aM (blk_drew BK143.out); replace BK144 := aM (blk_drew BK144.out); replace BK145 := aM (blk_drew BK145.out); replace BK152 := aM (blk_drew BK152.out); replace HB := aM (below_drew1 HB.out)
       refine start_ (n := 8) (S := fun w' => w'.cell? ⟨gb144, 0, none⟩ = some (.int .i64 a1_0) ∧ w'.cell? ⟨gb144, 1, none⟩ = some (.int .i64 a1_1) ∧ w'.cell? ⟨gb144, 2, none⟩ = some (.int .i64 a1_2) ∧ w'.cell? ⟨gb144, 3, none⟩ = some (.int .i64 a1_3) ∧ w'.cell? ⟨gb144, 4, none⟩ = some (.int .i64 a1_4) ∧ w'.cell? ⟨gb144, 5, none⟩ = some (.int .i64 a1_5) ∧ w'.cell? ⟨gb144, 6, none⟩ = some (.int .i64 a1_6) ∧ w'.cell? ⟨gb144, 7, none⟩ = some (.int .i64 a1_7) ∧ w'.cell? ⟨gb144, 8, none⟩ = some (.int .i64 a1_8) ∧ w'.cell? ⟨gb144, 9, none⟩ = some (.string a1_9)) (ds := []) #[false, false, false, false, false, false, false, false] (by kernel_rfl) rfl rfl ⟨xc BK144 0 rfl, xc BK144 1 rfl, xc BK144 2 rfl, xc BK144 3 rfl, xc BK144 4 rfl, xc BK144 5 rfl, xc BK144 6 rfl, xc BK144 7 rfl, xc BK144 8 rfl, xc BK144 9 rfl⟩ (fun hHeld => ?_); refine with_tabW impl_HardApply.tab8 impl_HardApply.bits8 (fun HT_ HW_ => ?_)
       generalize w22.drew = w46 at HO151 BK143 BK144 BK145 BK152 HB hHeld ⊢
       refine pv_ 0 42 (h := ?_)
       refine pv_ 2 44 (h := ?_)
       refine tk_ 1 43 (h := ?_)
       refine pv_ 4 46 (h := ?_)
       refine tk_ 3 45 (h := ?_)
       refine one_ (i := 5) (N := none) #[true, true, true, true, true, true, false, false] rfl rfl (one_of HT_.out (by kernel_rfl)) (by decide) (fun K hK => ?_)
       have hs47 : w46.cell? ⟨gb152, 0, none⟩ = some (.int .i64 t147) := xc BK152 0 rfl; have hfs47 := blk_frozen BK152.out 0; have hns47_0 := NB143_152.out; have hns47_1 := NB144_152.out; have hns47_2 := NB145_152.out; have hms47_0 := NB152_143.out; have hms47_1 := NB152_144.out; have hms47_2 := NB152_145.out
       refine skip_ (w1 := ?_) (by rfl) rfl ?_ ?_
       rotate_left
       ·go_simp
        rfl
       refine hK.out _ _ ⟨((cell_far (p := ⟨gb152, _, none⟩) NB144_152.out _).trans (hHeld.1)), ((cell_far (p := ⟨gb152, _, none⟩) NB144_152.out _).trans (hHeld.2.1)), ((cell_far (p := ⟨gb152, _, none⟩) NB144_152.out _).trans (hHeld.2.2.1)), ((cell_far (p := ⟨gb152, _, none⟩) NB144_152.out _).trans (hHeld.2.2.2.1)), ((cell_far (p := ⟨gb152, _, none⟩) NB144_152.out _).trans (hHeld.2.2.2.2.1)), ((cell_far (p := ⟨gb152, _, none⟩) NB144_152.out _).trans (hHeld.2.2.2.2.2.1)), ((cell_far (p := ⟨gb152, _, none⟩) NB144_152.out _).trans (hHeld.2.2.2.2.2.2.1)), ((cell_far (p := ⟨gb152, _, none⟩) NB144_152.out _).trans (hHeld.2.2.2.2.2.2.2.1)), ((cell_far (p := ⟨gb152, _, none⟩) NB144_152.out _).trans (hHeld.2.2.2.2.2.2.2.2.1)), ((cell_far (p := ⟨gb152, _, none⟩) NB144_152.out _).trans (hHeld.2.2.2.2.2.2.2.2.2))⟩ (fun hHeld => ?_)
       clear hK K
       refine pv_ 6 47 (h := ?_)
       refine one_ (i := 7) (N := none) #[true, true, true, true, true, true, true, true] rfl rfl (one_of HT_.out (by kernel_rfl)) (by decide) (fun K hK => ?_)
       have hs48 : w46.cell? ⟨gb152, 1, none⟩ = some (.int .i64 t148) := xc BK152 1 rfl; have hfs48 := blk_frozen BK152.out 1; have hns48_0 := NB143_152.out; have hns48_1 := NB144_152.out; have hns48_2 := NB145_152.out; have hms48_0 := NB152_143.out; have hms48_1 := NB152_144.out; have hms48_2 := NB152_145.out
       refine skip_ (w1 := ?_) (by rfl) rfl ?_ ?_
       rotate_left
       ·go_simp
        rfl
       refine hK.out _ _ ⟨((cell_far (p := ⟨gb152, _, none⟩) NB144_152.out _).trans (hHeld.1)), ((cell_far (p := ⟨gb152, _, none⟩) NB144_152.out _).trans (hHeld.2.1)), ((cell_far (p := ⟨gb152, _, none⟩) NB144_152.out _).trans (hHeld.2.2.1)), ((cell_far (p := ⟨gb152, _, none⟩) NB144_152.out _).trans (hHeld.2.2.2.1)), ((cell_far (p := ⟨gb152, _, none⟩) NB144_152.out _).trans (hHeld.2.2.2.2.1)), ((cell_far (p := ⟨gb152, _, none⟩) NB144_152.out _).trans (hHeld.2.2.2.2.2.1)), ((cell_far (p := ⟨gb152, _, none⟩) NB144_152.out _).trans (hHeld.2.2.2.2.2.2.1)), ((cell_far (p := ⟨gb152, _, none⟩) NB144_152.out _).trans (hHeld.2.2.2.2.2.2.2.1)), ((cell_far (p := ⟨gb152, _, none⟩) NB144_152.out _).trans (hHeld.2.2.2.2.2.2.2.2.1)), ((cell_far (p := ⟨gb152, _, none⟩) NB144_152.out _).trans (hHeld.2.2.2.2.2.2.2.2.2))⟩ (fun hHeld => ?_)
       clear hK K
       refine done_ (done_of HT_.out (by kernel_rfl)) ?_
       try go_wp2
       go_meet
       case rel => exact ⟨_, (true), (a1_1), (a1_2), (t149), (.slice Ao21 t149.length co21), (by first | rfl | (simp; done) | (simp [*]; done)), H', ⟨by first | omega | exact Nat.le_refl _⟩, ⟨by (with_reducible repeat (first | apply Kd.R_alloc | apply Kd.R_drewN | apply Kd.R_drew)); exact Kd.R_mono (Kd.R_far (p := ⟨gb152, 1, none⟩) (Kd.R_far (p := ⟨gb152, 0, none⟩) (Kd.R_types HO151.out BK152.out (by decide)) (fun _ hk => hk.2) (.int .i64 a1_1)) (fun _ hk => hk.2) (.int .i64 a1_2)) (fun _ hk => trivial)⟩, ⟨by (with_reducible repeat (first | refine blk_drewN ?_ _ | refine blk_drew ?_ | refine blk_alloc ?_ _)); refine blk_far ?_ NB143_152.out _; (with_reducible repeat (first | refine blk_drewN ?_ _ | refine blk_drew ?_ | refine blk_alloc ?_ _)); refine blk_far ?_ NB143_152.out _; (with_reducible repeat (first | refine blk_drewN ?_ _ | refine blk_drew ?_ | refine blk_alloc ?_ _)); exact BK143.out⟩, ⟨by (with_reducible repeat (first | refine blk_drewN ?_ _ | refine blk_drew ?_ | refine blk_alloc ?_ _)); refine blk_far ?_ NB144_152.out _; (with_reducible repeat (first | refine blk_drewN ?_ _ | refine blk_drew ?_ | refine blk_alloc ?_ _)); refine blk_far ?_ NB144_152.out _; (with_reducible repeat (first | refine blk_drewN ?_ _ | refine blk_drew ?_ | refine blk_alloc ?_ _)); exact BK144.out⟩, ⟨by (with_reducible repeat (first | refine blk_drewN ?_ _ | refine blk_drew ?_ | refine blk_alloc ?_ _)); refine blk_far ?_ NB145_152.out _; (with_reducible repeat (first | refine blk_drewN ?_ _ | refine blk_drew ?_ | refine blk_alloc ?_ _)); refine blk_far ?_ NB145_152.out _; (with_reducible repeat (first | refine blk_drewN ?_ _ | refine blk_drew ?_ | refine blk_alloc ?_ _)); exact BK145.out⟩, ⟨by (with_reducible repeat (first | refine blk_drewN ?_ _ | refine blk_drew ?_ | refine blk_alloc ?_ _)); refine blk_put (cs := #[.int .i64 a1_1, .int .i64 t148, .slice Ao21 t149.length co21]) ?_ 1 _ rfl; (with_reducible repeat (first | refine blk_drewN ?_ _ | refine blk_drew ?_ | refine blk_alloc ?_ _)); refine blk_put (cs := #[.int .i64 t147, .int .i64 t148, .slice Ao21 t149.length co21]) ?_ 0 _ rfl; (with_reducible repeat (first | refine blk_drewN ?_ _ | refine blk_drew ?_ | refine blk_alloc ?_ _)); exact BK152.out⟩, ⟨xbg⟩⟩
      ·rw [if_neg c38] at H
       have c38b0 : (a0_1 == 0) = false := beq_eq_false_iff_ne.mpr c38; have c38b1 : (a0_1 != 0) = true := bne_iff_ne.mpr c38
       have H' := aM H
       clear H; have hnb49 := NB144_143.out; have hnc49 := NB143_144.out; have hnb50 := NB144_145.out; have hnc50 := NB145_144.out; have hnb51 := NB144_152.out; have hnc51 := NB152_144.out; obtain ⟨hcz52_0, hcz52_1, hcz52_2, hcz52_3, hcz52_4, hcz52_5, hcz52_6, hcz52_7, hcz52_8, hcz52_9, hfz52_0, hfz52_1, hfz52_2, hfz52_3, hfz52_4, hfz52_5, hfz52_6, hfz52_7, hfz52_8, hfz52_9⟩ := xf10 (w := w22) BK144; have hnb53 := NB143_145.out; have hnc53 := NB145_143.out; have hnb54 := NB143_152.out
       have hnc54 := NB152_143.out; obtain ⟨hcz55_0, hcz55_1, hcz55_2, hfz55_0, hfz55_1, hfz55_2⟩ := xf3 (w := w22) BK143
       try go_wp2
       replace HO151 := aM (Kd.R_drew HO151.out); replace BK143 := aM (blk_drew BK143.out); replace BK144 := aM (blk_drew BK144.out); replace BK145 := aM (blk_drew BK145.out); replace BK152 := aM (blk_drew BK152.out); replace HB := aM (below_drew1 HB.out)
       refine start_ (n := 8) (S := fun w' => w'.cell? ⟨gb144, 0, none⟩ = some (.int .i64 a1_0) ∧ w'.cell? ⟨gb144, 1, none⟩ = some (.int .i64 a1_1) ∧ w'.cell? ⟨gb144, 2, none⟩ = some (.int .i64 a1_2) ∧ w'.cell? ⟨gb144, 3, none⟩ = some (.int .i64 a1_3) ∧ w'.cell? ⟨gb144, 4, none⟩ = some (.int .i64 a1_4) ∧ w'.cell? ⟨gb144, 5, none⟩ = some (.int .i64 a1_5) ∧ w'.cell? ⟨gb144, 6, none⟩ = some (.int .i64 a1_6) ∧ w'.cell? ⟨gb144, 7, none⟩ = some (.int .i64 a1_7) ∧ w'.cell? ⟨gb144, 8, none⟩ = some (.int .i64 a1_8) ∧ w'.cell? ⟨gb144, 9, none⟩ = some (.string a1_9)) (ds := []) #[false, false, false, false, false, false, false, false] (by kernel_rfl) rfl rfl ⟨xc BK144 0 rfl, xc BK144 1 rfl, xc BK144 2 rfl, xc BK144 3 rfl, xc BK144 4 rfl, xc BK144 5 rfl, xc BK144 6 rfl, xc BK144 7 rfl, xc BK144 8 rfl, xc BK144 9 rfl⟩ (fun hHeld => ?_); refine with_tabW impl_HardApply.tab8 impl_HardApply.bits8 (fun HT_ HW_ => ?_)
       generalize w22.drew = w56 at HO151 BK143 BK144 BK145 BK152 HB hHeld ⊢
       refine pv_ 0 42 (h := ?_)
       refine pv_ 2 44 (h := ?_)
       refine tk_ 1 43 (h := ?_)
       refine pv_ 4 46 (h := ?_)
       refine tk_ 3 45 (h := ?_)
       refine one_ (i := 5) (N := none) #[true, true, true, true, true, true, false, false] rfl rfl (one_of HT_.out (by kernel_rfl)) (by decide) (fun K hK => ?_)
       have hs57 : w56.cell? ⟨gb152, 0, none⟩ = some (.int .i64 t147) := xc BK152 0 rfl; have hfs57 := blk_frozen BK152.out 0; have hns57_0 := NB143_152.out; have hns57_1 := NB144_152.out; have hns57_2 := NB145_152.out; have hms57_0 := NB152_143.out; have hms57_1 := NB152_144.out; have hms57_2 := NB152_145.out
       refine skip_ (w1 := ?_) (by rfl) rfl ?_ ?_
       rotate_left
       ·go_simp
        rfl
       refine hK.out _ _ ⟨((cell_far (p := ⟨gb152, _, none⟩) NB144_152.out _).trans (hHeld.1)), ((cell_far (p := ⟨gb152, _, none⟩) NB144_152.out _).trans (hHeld.2.1)), ((cell_far (p := ⟨gb152, _, none⟩) NB144_152.out _).trans (hHeld.2.2.1)), ((cell_far (p := ⟨gb152, _, none⟩) NB144_152.out _).trans (hHeld.2.2.2.1)), ((cell_far (p := ⟨gb152, _, none⟩) NB144_152.out _).trans (hHeld.2.2.2.2.1)), ((cell_far (p := ⟨gb152, _, none⟩) NB144_152.out _).trans (hHeld.2.2.2.2.2.1)), ((cell_far (p := ⟨gb152, _, none⟩) NB144_152.out _).trans (hHeld.2.2.2.2.2.2.1)), ((cell_far (p := ⟨gb152, _, none⟩) NB144_152.out _).trans (hHeld.2.2.2.2.2.2.2.1)), ((cell_far (p := ⟨gb152, _, none⟩) NB144_152.out _).trans (hHeld.2.2.2.2.2.2.2.2.1)), ((cell_far (p := ⟨gb152, _, none⟩) NB144_152.out _).trans (hHeld.2.2.2.2.2.2.2.2.2))⟩ (fun hHeld => ?_)
       clear hK K
       refine pv_ 6 47 (h := ?_)
       refine one_ (i := 7) (N := none) #[true, true, true, true, true, true, true, true] rfl rfl (one_of HT_.out (by kernel_rfl)) (by decide) (fun K hK => ?_)
       have hs58 : w56.cell? ⟨gb152, 1, none⟩ = some (.int .i64 t148) := xc BK152 1 rfl; have hfs58 := blk_frozen BK152.out 1; have hns58_0 := NB143_152.out; have hns58_1 := NB144_152.out; have hns58_2 := NB145_152.out; have hms58_0 := NB152_143.out; have hms58_1 := NB152_144.out; have hms58_2 := NB152_145.out
       refine skip_ (w1 := ?_) (by rfl) rfl ?_ ?_
       rotate_left
       ·go_simp
        rfl
       refine hK.out _ _ ⟨((cell_far (p := ⟨gb152, _, none⟩) NB144_152.out _).trans (hHeld.1)), ((cell_far (p := ⟨gb152, _, none⟩) NB144_152.out _).trans (hHeld.2.1)), ((cell_far (p := ⟨gb152, _, none⟩) NB144_152.out _).trans (hHeld.2.2.1)), ((cell_far (p := ⟨gb152, _, none⟩) NB144_152.out _).trans (hHeld.2.2.2.1)), ((cell_far (p := ⟨gb152, _, none⟩) NB144_152.out _).trans (hHeld.2.2.2.2.1)), ((cell_far (p := ⟨gb152, _, none⟩) NB144_152.out _).trans (hHeld.2.2.2.2.2.1)), ((cell_far (p := ⟨gb152, _, none⟩) NB144_152.out _).trans (hHeld.2.2.2.2.2.2.1)), ((cell_far (p := ⟨gb152, _, none⟩) NB144_152.out _).trans (hHeld.2.2.2.2.2.2.2.1)), ((cell_far (p := ⟨gb152, _, none⟩) NB144_152.out _).trans (hHeld.2.2.2.2.2.2.2.2.1)), ((cell_far (p := ⟨gb152, _, none⟩) NB144_152.out _).trans (hHeld.2.2.2.2.2.2.2.2.2))⟩ (fun hHeld => ?_)
       clear hK K
       refine done_ (done_of HT_.out (by kernel_rfl)) ?_
       try go_wp2
       go_meet
       case rel => exact ⟨_, ((a0_1 == a1_2)), (a1_1), (a1_2), (t149), (.slice Ao21 t149.length co21), (by first | rfl | (simp; done) | (simp [*]; done)), H', ⟨by first | omega | exact Nat.le_refl _⟩, ⟨by (with_reducible repeat (first | apply Kd.R_alloc | apply Kd.R_drewN | apply Kd.R_drew)); exact Kd.R_mono (Kd.R_far (p := ⟨gb152, 1, none⟩) (Kd.R_far (p := ⟨gb152, 0, none⟩) (Kd.R_types HO151.out BK152.out (by decide)) (fun _ hk => hk.2) (.int .i64 a1_1)) (fun _ hk => hk.2) (.int .i64 a1_2)) (fun _ hk => trivial)⟩, ⟨by (with_reducible repeat (first | refine blk_drewN ?_ _ | refine blk_drew ?_ | refine blk_alloc ?_ _)); refine blk_far ?_ NB143_152.out _; (with_reducible repeat (first | refine blk_drewN ?_ _ | refine blk_drew ?_ | refine blk_alloc ?_ _)); refine blk_far ?_ NB143_152.out _; (with_reducible repeat (first | refine blk_drewN ?_ _ | refine blk_drew ?_ | refine blk_alloc ?_ _)); exact BK143.out⟩, ⟨by (with_reducible repeat (first | refine blk_drewN ?_ _ | refine blk_drew ?_ | refine blk_alloc ?_ _)); refine blk_far ?_ NB144_152.out _; (with_reducible repeat (first | refine blk_drewN ?_ _ | refine blk_drew ?_ | refine blk_alloc ?_ _)); refine blk_far ?_ NB144_152.out _; (with_reducible repeat (first | refine blk_drewN ?_ _ | refine blk_drew ?_ | refine blk_alloc ?_ _)); exact BK144.out⟩, ⟨by (with_reducible repeat (first | refine blk_drewN ?_ _ | refine blk_drew ?_ | refine blk_alloc ?_ _)); refine blk_far ?_ NB145_152.out _; (with_reducible repeat (first | refine blk_drewN ?_ _ | refine blk_drew ?_ | refine blk_alloc ?_ _)); refine blk_far ?_ NB145_152.out _; (with_reducible repeat (first | refine blk_drewN ?_ _ | refine blk_drew ?_ | refine blk_alloc ?_ _)); exact BK145.out⟩, ⟨by (with_reducible repeat (first | refine blk_drewN ?_ _ | refine blk_drew ?_ | refine blk_alloc ?_ _)); refine blk_put (cs := #[.int .i64 a1_1, .int .i64 t148, .slice Ao21 t149.length co21]) ?_ 1 _ rfl; (with_reducible repeat (first | refine blk_drewN ?_ _ | refine blk_drew ?_ | refine blk_alloc ?_ _)); refine blk_put (cs := #[.int .i64 t147, .int .i64 t148, .slice Ao21 t149.length co21]) ?_ 0 _ rfl; (with_reducible repeat (first | refine blk_drewN ?_ _ | refine blk_drew ?_ | refine blk_alloc ?_ _)); exact BK152.out⟩, ⟨xbg⟩⟩
     ·rw [if_neg c37] at H
      have c37b0 : (a1_1 == a0_0) = false := beq_eq_false_iff_ne.mpr c37; have c37b1 : (a1_1 != a0_0) = true := bne_iff_ne.mpr c37
      have H' := aM H
      clear H; have hnb59 := NB144_143.out; have hnc59 := NB143_144.out; have hnb60 := NB144_145.out; have hnc60 := NB145_144.out; have hnb61 := NB144_152.out; have hnc61 := NB152_144.out; obtain ⟨hcz62_0, hcz62_1, hcz62_2, hcz62_3, hcz62_4, hcz62_5, hcz62_6, hcz62_7, hcz62_8, hcz62_9, hfz62_0, hfz62_1, hfz62_2, hfz62_3, hfz62_4, hfz62_5, hfz62_6, hfz62_7, hfz62_8, hfz62_9⟩ := xf10 (w := w22) BK144; have hnb63 := NB143_145.out; have hnc63 := NB145_143.out; have hnb64 := NB143_152.out
      have hnc64 := NB152_143.out; obtain ⟨hcz65_0, hcz65_1, hcz65_2, hfz65_0, hfz65_1, hfz65_2⟩ := xf3 (w := w22) BK143
      try go_wp2
      replace HO151 := aM (Kd.R_drew HO151.out); replace BK143 := aM (blk_drew BK143.out); replace BK144 := aM (blk_drew BK144.out); replace BK145 := aM (blk_drew BK145.out); replace BK152 := aM (blk_drew BK152.out); replace HB := aM (below_drew1 HB.out)
      refine start_ (n := 8) (S := fun w' => w'.cell? ⟨gb144, 0, none⟩ = some (.int .i64 a1_0) ∧ w'.cell? ⟨gb144, 1, none⟩ = some (.int .i64 a1_1) ∧ w'.cell? ⟨gb144, 2, none⟩ = some (.int .i64 a1_2) ∧ w'.cell? ⟨gb144, 3, none⟩ = some (.int .i64 a1_3) ∧ w'.cell? ⟨gb144, 4, none⟩ = some (.int .i64 a1_4) ∧ w'.cell? ⟨gb144, 5, none⟩ = some (.int .i64 a1_5) ∧ w'.cell? ⟨gb144, 6, none⟩ = some (.int .i64 a1_6) ∧ w'.cell? ⟨gb144, 7, none⟩ = some (.int .i64 a1_7) ∧ w'.cell? ⟨gb144, 8, none⟩ = some (.int .i64 a1_8) ∧ w'.cell? ⟨gb144, 9, none⟩ = some (.string a1_9)) (ds := []) #[false, false, false, false, false, false, false, false] (by kernel_rfl) rfl rfl ⟨xc BK144 0 rfl, xc BK144 1 rfl, xc BK144 2 rfl, xc BK144 3 rfl, xc BK144 4 rfl, xc BK144 5 rfl, xc BK144 6 rfl, xc BK144 7 rfl, xc BK144 8 rfl, xc BK144 9 rfl⟩ (fun hHeld => ?_); refine with_tabW impl_HardApply.tab8 impl_HardApply.bits8 (fun HT_ HW_ => ?_)
      generalize w22.drew = w66 at HO151 BK143 BK144 BK145 BK152 HB hHeld ⊢
      refine pv_ 0 42 (h := ?_)
      refine pv_ 2 44 (h := ?_)
      refine tk_ 1 43 (h := ?_)
      refine pv_ 4 46 (h := ?_)
      refine tk_ 3 45 (h := ?_)
      refine one_ (i := 5) (N := none) #[true, true, true, true, true, true, false, false] rfl rfl (one_of HT_.out (by kernel_rfl)) (by decide) (fun K hK => ?_)
      have hs67 : w66.cell? ⟨gb152, 0, none⟩ = some (.int .i64 t147) := xc BK152 0 rfl; have hfs67 := blk_frozen BK152.out 0; have hns67_0 := NB143_152.out; have hns67_1 := NB144_152.out; have hns67_2 := NB145_152.out; have hms67_0 := NB152_143.out; have hms67_1 := NB152_144.out; have hms67_2 := NB152_145.out
      refine skip_ (w1 := ?_) (by rfl) rfl ?_ ?_
      rotate_left
      ·go_simp
       rfl
      refine hK.out _ _ ⟨((cell_far (p := ⟨gb152, _, none⟩) NB144_152.out _).trans (hHeld.1)), ((cell_far (p := ⟨gb152, _, none⟩) NB144_152.out _).trans (hHeld.2.1)), ((cell_far (p := ⟨gb152, _, none⟩) NB144_152.out _).trans (hHeld.2.2.1)), ((cell_far (p := ⟨gb152, _, none⟩) NB144_152.out _).trans (hHeld.2.2.2.1)), ((cell_far (p := ⟨gb152, _, none⟩) NB144_152.out _).trans (hHeld.2.2.2.2.1)), ((cell_far (p := ⟨gb152, _, none⟩) NB144_152.out _).trans (hHeld.2.2.2.2.2.1)), ((cell_far (p := ⟨gb152, _, none⟩) NB144_152.out _).trans (hHeld.2.2.2.2.2.2.1)), ((cell_far (p := ⟨gb152, _, none⟩) NB144_152.out _).trans (hHeld.2.2.2.2.2.2.2.1)), ((cell_far (p := ⟨gb152, _, none⟩) NB144_152.out _).trans (hHeld.2.2.2.2.2.2.2.2.1)), ((cell_far (p := ⟨gb152, _, none⟩) NB144_152.out _).trans (hHeld.2.2.2.2.2.2.2.2.2))⟩ (fun hHeld => ?_)
      clear hK K
      refine pv_ 6 47 (h := ?_)
      refine one_ (i := 7) (N := none) #[true, true, true, true, true, true, true, true] rfl rfl (one_of HT_.out (by kernel_rfl)) (by decide) (fun K hK => ?_)
      have hs68 : w66.cell? ⟨gb152, 1, none⟩ = some (.int .i64 t148) := xc BK152 1 rfl; have hfs68 := blk_frozen BK152.out 1; have hns68_0 := NB143_152.out; have hns68_1 := NB144_152.out; have hns68_2 := NB145_152.out; have hms68_0 := NB152_143.out; have hms68_1 := NB152_144.out; have hms68_2 := NB152_145.out
      refine skip_ (w1 := ?_) (by rfl) rfl ?_ ?_
      rotate_left
      ·go_simp
       rfl
      refine hK.out _ _ ⟨((cell_far (p := ⟨gb152, _, none⟩) NB144_152.out _).trans (hHeld.1)), ((cell_far (p := ⟨gb152, _, none⟩) NB144_152.out _).trans (hHeld.2.1)), ((cell_far (p := ⟨gb152, _, none⟩) NB144_152.out _).trans (hHeld.2.2.1)), ((cell_far (p := ⟨gb152, _, none⟩) NB144_152.out _).trans (hHeld.2.2.2.1)), ((cell_far (p := ⟨gb152, _, none⟩) NB144_152.out _).trans (hHeld.2.2.2.2.1)), ((cell_far (p := ⟨gb152, _, none⟩) NB144_152.out _).trans (hHeld.2.2.2.2.2.1)), ((cell_far (p := ⟨gb152, _, none⟩) NB144_152.out _).trans (hHeld.2.2.2.2.2.2.1)), ((cell_far (p := ⟨gb152, _, none⟩) NB144_152.out _).trans (hHeld.2.2.2.2.2.2.2.1)), ((cell_far (p := ⟨gb152, _, none⟩) NB144_152.out _).trans (hHeld.2.2.2.2.2.2.2.2.1)), ((cell_far (p := ⟨gb152, _, none⟩) NB144_152.out _).trans (hHeld.2.2.2.2.2.2.2.2.2))⟩ (fun hHeld => ?_)
      clear hK K
      refine done_ (done_of HT_.out (by kernel_rfl)) ?_
      try go_wp2
      go_meet
      case rel => exact ⟨_, (false), (a1_1), (a1_2), (t149), (.slice Ao21 t149.length co21), (by first | rfl | (simp; done) | (simp [*]; done)), H', ⟨by first | omega | exact Nat.le_refl _⟩, ⟨by (with_reducible repeat (first | apply Kd.R_alloc | apply Kd.R_drewN | apply Kd.R_drew)); exact Kd.R_mono (Kd.R_far (p := ⟨gb152, 1, none⟩) (Kd.R_far (p := ⟨gb152, 0, none⟩) (Kd.R_types HO151.out BK152.out (by decide)) (fun _ hk => hk.2) (.int .i64 a1_1)) (fun _ hk => hk.2) (.int .i64 a1_2)) (fun _ hk => trivial)⟩, ⟨by (with_reducible repeat (first | refine blk_drewN ?_ _ | refine blk_drew ?_ | refine blk_alloc ?_ _)); refine blk_far ?_ NB143_152.out _; (with_reducible repeat (first | refine blk_drewN ?_ _ | refine blk_drew ?_ | refine blk_alloc ?_ _)); refine blk_far ?_ NB143_152.out _; (with_reducible repeat (first | refine blk_drewN ?_ _ | refine blk_drew ?_ | refine blk_alloc ?_ _)); exact BK143.out⟩, ⟨by (with_reducible repeat (first | refine blk_drewN ?_ _ | refine blk_drew ?_ | refine blk_alloc ?_ _)); refine blk_far ?_ NB144_152.out _; (with_reducible repeat (first | refine blk_drewN ?_ _ | refine blk_drew ?_ | refine blk_alloc ?_ _)); refine blk_far ?_ NB144_152.out _; (with_reducible repeat (first | refine blk_drewN ?_ _ | refine blk_drew ?_ | refine blk_alloc ?_ _)); exact BK144.out⟩, ⟨by (with_reducible repeat (first | refine blk_drewN ?_ _ | refine blk_drew ?_ | refine blk_alloc ?_ _)); refine blk_far ?_ NB145_152.out _; (with_reducible repeat (first | refine blk_drewN ?_ _ | refine blk_drew ?_ | refine blk_alloc ?_ _)); refine blk_far ?_ NB145_152.out _; (with_reducible repeat (first | refine blk_drewN ?_ _ | refine blk_drew ?_ | refine blk_alloc ?_ _)); exact BK145.out⟩, ⟨by (with_reducible repeat (first | refine blk_drewN ?_ _ | refine blk_drew ?_ | refine blk_alloc ?_ _)); refine blk_put (cs := #[.int .i64 a1_1, .int .i64 t148, .slice Ao21 t149.length co21]) ?_ 1 _ rfl; (with_reducible repeat (first | refine blk_drewN ?_ _ | refine blk_drew ?_ | refine blk_alloc ?_ _)); refine blk_put (cs := #[.int .i64 t147, .int .i64 t148, .slice Ao21 t149.length co21]) ?_ 0 _ rfl; (with_reducible repeat (first | refine blk_drewN ?_ _ | refine blk_drew ?_ | refine blk_alloc ?_ _)); exact BK152.out⟩, ⟨xbg⟩⟩
   ·rw [if_neg c25] at H
    have c25b0 : (a1_0 == 1) = false := beq_eq_false_iff_ne.mpr c25; have c25b1 : (a1_0 != 1) = true := bne_iff_ne.mpr c25
    (first | rw [c25b0] | (simp only [i64_w, i32_w]; rw [c25b0]) | skip)
    by_cases c69 : a1_0 = 2
    ·rw [if_pos c69] at H
     have c69b0 : (a1_0 == 2) = true := beq_iff_eq.mpr c69; have c69b1 : (a1_0 != 2) = false := bne_eq_false_iff_eq.mpr c69; clear c69
     by_cases c70 : t149.length < 2513169434916
     ·rw [if_pos c70] at H
      have LMc70 := aM c70; clear c70
      obtain ⟨y153, hy153⟩ : ∃ y_ : List (S36), y_ = (t149 ++ [(⟨a1_4, (⟨a1_5, a1_6, a1_7, a1_8, a1_9⟩ : S34)⟩ : S36)]) := ⟨_, rfl⟩
      replace H : (impl_HardApply.j0 k (a1_3 == (wrap64 ((l0_2.length : Int) + 1))) a0_0 a0_1 l0_2 a1_0 a1_1 a1_2 a1_3 a1_4 a1_5 a1_6 a1_7 a1_8 a1_9 t147 t148 y153) = some (r1, r2, r3, r4) := by first | (rw [hy153]; with_reducible exact H) | (have H2_ := (Option.bind_some _ _).symm.trans H; rw [hy153]; with_reducible exact H2_) | (have H2_ := (Option.bind_some _ _).symm.trans H; with_reducible exact H2_) | with_reducible exact H | (rw [hy153]; exact H) | exact H
      have Ny153 := aM hy153; clear hy153
      have H' := aM H
      clear H; have hnb71 := NB144_143.out; have hnc71 := NB143_144.out; have hnb72 := NB144_145.out; have hnc72 := NB145_144.out; have hnb73 := NB144_152.out; have hnc73 := NB152_144.out; obtain ⟨hcz74_0, hcz74_1, hcz74_2, hcz74_3, hcz74_4, hcz74_5, hcz74_6, hcz74_7, hcz74_8, hcz74_9, hfz74_0, hfz74_1, hfz74_2, hfz74_3, hfz74_4, hfz74_5, hfz74_6, hfz74_7, hfz74_8, hfz74_9⟩ := xf10 (w := w22) BK144; have hnb75 := NB143_145.out; have hnc75 := NB145_143.out; have hnb76 := NB143_152.out
      have hnc76 := NB152_143.out; obtain ⟨hcz77_0, hcz77_1, hcz77_2, hfz77_0, hfz77_1, hfz77_2⟩ := xf3 (w := w22) BK143; have hnb78 := NB152_145.out; have hnc78 := NB145_152.out; obtain ⟨hcz79_0, hcz79_1, hcz79_2, hfz79_0, hfz79_1, hfz79_2⟩ := xf3 (w := w22) BK152
      go_wp2_with (first | ((with_reducible refine gate_builtin (b := .append) (xs := #[.tmp 58, .tmp 61]) rfl ?_); at_builtin; refine Kd.R_append k36 (w0 := w) w.heap.size rfl (.tmp 58) (.tmp 61) 26 36 (.agg #[(.int .i64 0), (.int .i64 0), (.int .i64 0), (.int .i64 0), (.int .i64 0), (.string ⟨#[]⟩)]) 56 rfl Try.underlying26 info36 rfl (by decide) (by omega) (.slice Ao21 t149.length co21) t149 (⟨a1_4, (⟨a1_5, a1_6, a1_7, a1_8, a1_9⟩ : S34)⟩ : S36) [.int .i64 a1_4, .int .i64 a1_5, .int .i64 a1_6, .int .i64 a1_7, .int .i64 a1_8, .string a1_9] (fun _ => True) (fun _ => False) rfl rfl ?aP (fun _ hk => hk.elim) ?aF ?aO ?aB ?aS ?aL ?_; (case aP => exact k36_mkM _ _ _ (⟨a1_4, (⟨a1_5, a1_6, a1_7, a1_8, a1_9⟩ : S34)⟩ : S36)); (case aB => exact xbg); (case aF => exact (fun _ _ => trivial)); (case aO => exact (xr HO151)); (case aS => exact (below_size xbg)); (case aL => have := LMc70.out; omega); intro v154 w80 ho hb hg hat; rw [← Ny153.out] at ho; have n0_ := aM (blk_grown (g := gb143) (o := .cells #[.int .i64 a0_0, .int .i64 a0_1, .slice A0_2 l0_2.length c0_2] 28 (0, 0)) xblk hg (Kd.R_ne HO151.out BK143.out (by decide))); have n1_ := aM (blk_grown (g := gb144) (o := .cells #[.int .i64 a1_0, .int .i64 a1_1, .int .i64 a1_2, .int .i64 a1_3, .int .i64 a1_4, .int .i64 a1_5, .int .i64 a1_6, .int .i64 a1_7, .int .i64 a1_8, .string a1_9] 38 (0, 0)) xblk hg (Kd.R_ne HO151.out BK144.out (by decide))); have n2_ := aM (blk_grown (g := gb145) (o := .cells #[.int .i64 0, .int .i64 0, .slice none 0 0] 28 (0, 0)) xblk hg (Kd.R_ne HO151.out BK145.out (by decide))); have n3_ := aM (blk_grown (g := gb152) (o := .cells #[.int .i64 t147, .int .i64 t148, .slice Ao21 t149.length co21] 28 (0, 0)) xblk hg (Kd.R_ne HO151.out BK152.out (by decide))); have n4_ := aM (hb); have n5_ := aM (ho); clear BK143; clear BK144; clear BK145; clear BK152; clear HB; clear HO151; have BK143 := n0_; have BK144 := n1_; have BK145 := n2_; have BK152 := n3_; have HB := n4_; have HO155 := n5_; clear n0_ n1_ n2_ n3_ n4_ n5_; clear ho hb hg hat; obtain ⟨Ao81, co81, eo81⟩ := Kd.R_slice HO155.out; subst eo81; obtain ⟨hcz82_0, hcz82_1, hcz82_2, hfz82_0, hfz82_1, hfz82_2⟩ := xf3 (w := w80) BK152))
      go_meet
      case rel => exact ⟨_, ((a1_3 == (wrap64 ((l0_2.length : Int) + 1)))), (t147), (t148), (y153), (.slice Ao81 y153.length co81), (by first | rfl | (simp; done) | (simp [*]; done)), H', ⟨by first | omega | exact Nat.le_refl _⟩, ⟨by (with_reducible repeat (first | apply Kd.R_alloc | apply Kd.R_drewN | apply Kd.R_drew)); exact Kd.R_mono (Kd.R_far (p := ⟨gb152, 2, none⟩) (Kd.R_types HO155.out BK152.out (by decide)) (fun _ hk => hk.2) (.slice Ao81 y153.length co81)) (fun _ hk => trivial)⟩, ⟨by (with_reducible repeat (first | refine blk_drewN ?_ _ | refine blk_drew ?_ | refine blk_alloc ?_ _)); refine blk_far ?_ NB143_152.out _; (with_reducible repeat (first | refine blk_drewN ?_ _ | refine blk_drew ?_ | refine blk_alloc ?_ _)); exact BK143.out⟩, ⟨by (with_reducible repeat (first | refine blk_drewN ?_ _ | refine blk_drew ?_ | refine blk_alloc ?_ _)); refine blk_far ?_ NB144_152.out _; (with_reducible repeat (first | refine blk_drewN ?_ _ | refine blk_drew ?_ | refine blk_alloc ?_ _)); exact BK144.out⟩, ⟨by (with_reducible repeat (first | refine blk_drewN ?_ _ | refine blk_drew ?_ | refine blk_alloc ?_ _)); refine blk_far ?_ NB145_152.out _; (with_reducible repeat (first | refine blk_drewN ?_ _ | refine blk_drew ?_ | refine blk_alloc ?_ _)); exact BK145.out⟩, ⟨by (with_reducible repeat (first | refine blk_drewN ?_ _ | refine blk_drew ?_ | refine blk_alloc ?_ _)); refine blk_put (cs := #[.int .i64 t147, .int .i64 t148, .slice Ao21 t149.length co21]) ?_ 2 _ rfl; (with_reducible repeat (first | refine blk_drewN ?_ _ | refine blk_drew ?_ | refine blk_alloc ?_ _)); exact BK152.out⟩, ⟨xbg⟩⟩
     ·rw [if_neg c70] at H
      exact absurd H (by simp)
    ·rw [if_neg c69] at H
     have c69b0 : (a1_0 == 2) = false := beq_eq_false_iff_ne.mpr c69; have c69b1 : (a1_0 != 2) = true := bne_iff_ne.mpr c69
     by_cases c83 : a1_0 = 3
     ·rw [if_pos c83] at H
      have c83b0 : (a1_0 == 3) = true := beq_iff_eq.mpr c83; have c83b1 : (a1_0 != 3) = false := bne_eq_false_iff_eq.mpr c83; clear c83; replace H := Option.bind_eq_some_iff.mp H
      obtain ⟨t156, A840, H⟩ := H
      replace H : (if 0 ≤ (mn (mx a1_3 0) (l0_2.length : Int)) then (if (mn (mx a1_3 0) (l0_2.length : Int)) ≤ (t149.length : Int) then (impl_HardApply.j0 k t156 a0_0 a0_1 l0_2 a1_0 a1_1 a1_2 a1_3 a1_4 a1_5 a1_6 a1_7 a1_8 a1_9 t147 t148 (t149.take ((mn (mx a1_3 0) (l0_2.length : Int)) : Int).toNat)) else (none)) else (none)) = some (r1, r2, r3, r4) := H; have A84 := aM A840; clear A840
      obtain ⟨ji85, hji85⟩ : ∃ j_ : Int, (mx a1_3 0) = j_ := ⟨_, rfl⟩
      replace H : (if 0 ≤ (mn (ji85) (l0_2.length : Int)) then (if (mn (ji85) (l0_2.length : Int)) ≤ (t149.length : Int) then (impl_HardApply.j0 k t156 a0_0 a0_1 l0_2 a1_0 a1_1 a1_2 a1_3 a1_4 a1_5 a1_6 a1_7 a1_8 a1_9 t147 t148 (t149.take ((mn (ji85) (l0_2.length : Int)) : Int).toNat)) else (none)) else (none)) = some (r1, r2, r3, r4) := by first | (rw [hji85] at H; exact H) | (simp only [hji85] at H ⊢; exact H)
      (try rw [hji85] at A84)
      (try (have hji85l : 0 ≤ ji85 := by (rw [← hji85]; unfold mx; (repeat' split) <;> omega)))
      (try (have hji85m : 0 ≤ ji85 := by omega))
      have hji85_ : (if a1_3 < 0 then 0 else a1_3) = ji85 := hji85
      obtain ⟨ji86, hji86⟩ : ∃ j_ : Int, (mn (ji85) (l0_2.length : Int)) = j_ := ⟨_, rfl⟩
      replace H : (if 0 ≤ (ji86) then (if (ji86) ≤ (t149.length : Int) then (impl_HardApply.j0 k t156 a0_0 a0_1 l0_2 a1_0 a1_1 a1_2 a1_3 a1_4 a1_5 a1_6 a1_7 a1_8 a1_9 t147 t148 (t149.take ((ji86) : Int).toNat)) else (none)) else (none)) = some (r1, r2, r3, r4) := by first | (rw [hji86] at H; exact H) | (simp only [hji86] at H ⊢; exact H)
      (try rw [hji86] at A84)
      have hji86_ : (if (l0_2.length : Int) < (ji85) then (l0_2.length : Int) else (ji85)) = ji86 := hji86
      by_cases c87 : 0 ≤ (ji86)
      ·rw [if_pos c87] at H
       have c87b0 := eq_true c87; have c87b1 : decide (0 ≤ (ji86)) = true := decide_eq_true c87; clear c87
       by_cases c88 : (ji86) ≤ (t149.length : Int)
       ·rw [if_pos c88] at H
        have c88b0 := eq_true c88; have c88b1 : decide ((ji86) ≤ (t149.length : Int)) = true := decide_eq_true c88; clear c88
        obtain ⟨y157, hy157⟩ : ∃ y_ : List (S36), y_ = (t149.take ((ji86) : Int).toNat) := ⟨_, rfl⟩
        replace H : (impl_HardApply.j0 k t156 a0_0 a0_1 l0_2 a1_0 a1_1 a1_2 a1_3 a1_4 a1_5 a1_6 a1_7 a1_8 a1_9 t147 t148 y157) = some (r1, r2, r3, r4) := by first | (rw [hy157]; with_reducible exact H) | (have H2_ := (Option.bind_some _ _).symm.trans H; rw [hy157]; with_reducible exact H2_) | (have H2_ := (Option.bind_some _ _).symm.trans H; with_reducible exact H2_) | with_reducible exact H | (rw [hy157]; exact H) | exact H
        have Ny157 := aM hy157; clear hy157
        have H' := aM H
        clear H; have hnb89 := NB144_143.out; have hnc89 := NB143_144.out; have hnb90 := NB144_145.out; have hnc90 := NB145_144.out; have hnb91 := NB144_152.out; have hnc91 := NB152_144.out; obtain ⟨hcz92_0, hcz92_1, hcz92_2, hcz92_3, hcz92_4, hcz92_5, hcz92_6, hcz92_7, hcz92_8, hcz92_9, hfz92_0, hfz92_1, hfz92_2, hfz92_3, hfz92_4, hfz92_5, hfz92_6, hfz92_7, hfz92_8, hfz92_9⟩ := xf10 (w := w22) BK144; have hnb93 := NB143_145.out; have hnc93 := NB145_143.out; have hnb94 := NB143_152.out
        have hnc94 := NB152_143.out; obtain ⟨hcz95_0, hcz95_1, hcz95_2, hfz95_0, hfz95_1, hfz95_2⟩ := xf3 (w := w22) BK143
        go_wp2_with (first | ((with_reducible refine gate_callee (f := 81) rfl ?_); refine goesL_ (some 71) rfl rfl Try.func81 (by kernel_rfl) rfl #[.int .i64 a1_3, .int .i64 0, .int .i64 (l0_2.length : Int)] rfl (by (try simp only [List.map_toArray, List.map_cons, List.map_nil]); first | done | rfl | (simp only [List.length_drop, List.length_take]; rfl)) ?_; (with_reducible refine (impl_within.calls a1_3 0 (l0_2.length : Int) t156 _ A84.out).mono ?_); rintro e w' ⟨rfl, ⟨nd, rfl⟩⟩; refine ⟨_, rfl, ?_⟩; have hnb96 := NB152_145.out; have hnc96 := NB145_152.out; obtain ⟨hcz97_0, hcz97_1, hcz97_2, hfz97_0, hfz97_1, hfz97_2⟩ := xf3 (w := w22) BK152; have q98 : ((ji86) : Int) ≤ ((t149.length : Int) : Int) := oda; obtain ⟨i098, hi098, _, hsz98, _⟩ := info_parts info36; have hcut98 := cut_to (P := Try.prog) 26 36 .i64 Try.underlying26 hi098 Ao21 t149.length co21 (ji86) (oda) q98 (Kd.R_reads' HO151.out).2.1; have hr98 := Kd.R_take (m := ((ji86) : Int).toNat) HO151.out (by omega); have hy98 : y157.length = ((ji86) : Int).toNat := (by rw [Ny157.out, List.length_take]; omega); rw [← Ny157.out] at hr98; rw [← hy98] at hr98 hcut98; clear hy98 hi098 hsz98 HO151; have HO159 := aM hr98; clear hr98; replace q98 := eq_true q98))
        go_meet
        case rel => exact ⟨_, (t156), (t147), (t148), (y157), (.slice Ao21 y157.length co21), (by first | rfl | (simp; done) | (simp [*]; done)), H', ⟨by first | omega | exact Nat.le_refl _⟩, ⟨by (with_reducible repeat (first | apply Kd.R_alloc | apply Kd.R_drewN | apply Kd.R_drew)); exact Kd.R_mono (Kd.R_far (p := ⟨gb152, 2, none⟩) (Kd.R_types HO159.out BK152.out (by decide)) (fun _ hk => hk.2) (.slice Ao21 y157.length co21)) (fun _ hk => trivial)⟩, ⟨by (with_reducible repeat (first | refine blk_drewN ?_ _ | refine blk_drew ?_ | refine blk_alloc ?_ _)); refine blk_far ?_ NB143_152.out _; (with_reducible repeat (first | refine blk_drewN ?_ _ | refine blk_drew ?_ | refine blk_alloc ?_ _)); exact BK143.out⟩, ⟨by (with_reducible repeat (first | refine blk_drewN ?_ _ | refine blk_drew ?_ | refine blk_alloc ?_ _)); refine blk_far ?_ NB144_152.out _; (with_reducible repeat (first | refine blk_drewN ?_ _ | refine blk_drew ?_ | refine blk_alloc ?_ _)); exact BK144.out⟩, ⟨by (with_reducible repeat (first | refine blk_drewN ?_ _ | refine blk_drew ?_ | refine blk_alloc ?_ _)); refine blk_far ?_ NB145_152.out _; (with_reducible repeat (first | refine blk_drewN ?_ _ | refine blk_drew ?_ | refine blk_alloc ?_ _)); exact BK145.out⟩, ⟨by (with_reducible repeat (first | refine blk_drewN ?_ _ | refine blk_drew ?_ | refine blk_alloc ?_ _)); refine blk_put (cs := #[.int .i64 t147, .int .i64 t148, .slice Ao21 t149.length co21]) ?_ 2 _ rfl; (with_reducible repeat (first | refine blk_drewN ?_ _ | refine blk_drew ?_ | refine blk_alloc ?_ _)); exact BK152.out⟩, ⟨xbg⟩⟩
       ·rw [if_neg c88] at H
        exact absurd H (by simp)
      ·rw [if_neg c87] at H
       exact absurd H (by simp)
     ·rw [if_neg c83] at H
      have c83b0 : (a1_0 == 3) = false := beq_eq_false_iff_ne.mpr c83; have c83b1 : (a1_0 != 3) = true := bne_iff_ne.mpr c83
      have H' := aM H
      clear H
      go_wp2
      go_meet
      case rel => exact ⟨_, (false), (t147), (t148), (t149), (.slice Ao21 t149.length co21), (by first | rfl | (simp; done) | (simp [*]; done)), H', ⟨by first | omega | exact Nat.le_refl _⟩, ⟨by (with_reducible repeat (first | apply Kd.R_alloc | apply Kd.R_drewN | apply Kd.R_drew)); exact HO151.out⟩, ⟨xblk⟩, ⟨xblk⟩, ⟨xblk⟩, ⟨xblk⟩, ⟨xbg⟩⟩
  case rest =>
   clear HC6
   try clear c2
   try clear p2
   try clear c3
   try clear c4
   try clear c5
   try clear c6
   try clear p6
   try clear c7
   try clear c8
   try clear c9
   try clear q9
   try clear c25
   try clear c25b0
   try clear c25b1
   try clear c37
   try clear c37b0
   try clear c37b1
   try clear c38
   try clear c38b0
   try clear c38b1
   try clear c39
   try clear c40
   try clear c41
   try clear c43
   try clear c44
   try clear c49
   try clear c50
   try clear c51
   try clear c53
   try clear c54
   try clear c59
   try clear c60
   try clear c61
   try clear c63
   try clear c64
   try clear p64
   try clear c69
   try clear c69b0
   try clear c69b1
   try clear c70
   try clear c71
   try clear c72
   try clear c73
   try clear c75
   try clear c76
   try clear c78
   try clear c81
   try clear c83
   try clear c83b0
   try clear c83b1
   try clear c87
   try clear c87b0
   try clear c87b1
   try clear c88
   try clear c88b0
   try clear c88b1
   try clear c89
   try clear c90
   try clear c91
   try clear c93
   try clear c94
   try clear c96
   try clear q98
   try clear hcz42_0
   try clear hcz42_1
   try clear hcz42_2
   try clear hcz42_3
   try clear hcz42_4
   try clear hcz42_5
   try clear hcz42_6
   try clear hcz42_7
   try clear hcz42_8
   try clear hcz42_9
   try clear hcz45_0
   try clear hcz45_1
   try clear hcz45_2
   try clear hcz52_0
   try clear hcz52_1
   try clear hcz52_2
   try clear hcz52_3
   try clear hcz52_4
   try clear hcz52_5
   try clear hcz52_6
   try clear hcz52_7
   try clear hcz52_8
   try clear hcz52_9
   try clear hcz55_0
   try clear hcz55_1
   try clear hcz55_2
   try clear hcz62_0
   try clear hcz62_1
   try clear hcz62_2
   try clear hcz62_3
   try clear hcz62_4
   try clear hcz62_5
   try clear hcz62_6
   try clear hcz62_7
   try clear hcz62_8
   try clear hcz62_9
   try clear hcz65_0
   try clear hcz65_1
   try clear hcz65_2
   try clear hcz74_0
   try clear hcz74_1
   try clear hcz74_2
   try clear hcz74_3
   try clear hcz74_4
   try clear hcz74_5
   try clear hcz74_6
   try clear hcz74_7
   try clear hcz74_8
   try clear hcz74_9
   try clear hcz77_0
   try clear hcz77_1
   try clear hcz77_2
   try clear hcz79_0
   try clear hcz79_1
   try clear hcz79_2
   try clear hcz82_0
   try clear hcz82_1
   try clear hcz82_2
   try clear hcz92_0
   try clear hcz92_1
   try clear hcz92_2
   try clear hcz92_3
   try clear hcz92_4
   try clear hcz92_5
   try clear hcz92_6
   try clear hcz92_7
   try clear hcz92_8
   try clear hcz92_9
   try clear hcz95_0
   try clear hcz95_1
   try clear hcz95_2
   try clear hcz97_0
   try clear hcz97_1
   try clear hcz97_2
   try clear hfz42_0
   try clear hfz42_1
   try clear hfz42_2
   try clear hfz42_3
   try clear hfz42_4
   try clear hfz42_5
   try clear hfz42_6
   try clear hfz42_7
   try clear hfz42_8
   try clear hfz42_9
   try clear hfz45_0
   try clear hfz45_1
   try clear hfz45_2
   try clear hfz52_0
   try clear hfz52_1
   try clear hfz52_2
   try clear hfz52_3
   try clear hfz52_4
   try clear hfz52_5
   try clear hfz52_6
   try clear hfz52_7
   try clear hfz52_8
   try clear hfz52_9
   try clear hfz55_0
   try clear hfz55_1
   try clear hfz55_2
   try clear hfz62_0
   try clear hfz62_1
   try clear hfz62_2
   try clear hfz62_3
   try clear hfz62_4
   try clear hfz62_5
   try clear hfz62_6
   try clear hfz62_7
   try clear hfz62_8
   try clear hfz62_9
   try clear hfz65_0
   try clear hfz65_1
   try clear hfz65_2
   try clear hfz74_0
   try clear hfz74_1
   try clear hfz74_2
   try clear hfz74_3
   try clear hfz74_4
   try clear hfz74_5
   try clear hfz74_6
   try clear hfz74_7
   try clear hfz74_8
   try clear hfz74_9
   try clear hfz77_0
   try clear hfz77_1
   try clear hfz77_2
   try clear hfz79_0
   try clear hfz79_1
   try clear hfz79_2
   try clear hfz82_0
   try clear hfz82_1
   try clear hfz82_2
   try clear hfz92_0
   try clear hfz92_1
   try clear hfz92_2
   try clear hfz92_3
   try clear hfz92_4
   try clear hfz92_5
   try clear hfz92_6
   try clear hfz92_7
   try clear hfz92_8
   try clear hfz92_9
   try clear hfz95_0
   try clear hfz95_1
   try clear hfz95_2
   try clear hfz97_0
   try clear hfz97_1
   try clear hfz97_2
   try clear q98
   obtain ⟨kq, x7_5, x153000_5, x153001_5, x153002_5, u153002, rfl, HA, HJ5, HO_153002, BK143, BK144, BK145, BK152, HB⟩ := hcut
   cases kq with
   | zero => exact absurd HA.out (by simp [impl_HardApply.j0])
   | succ kj5 =>
    have H := HA.out; clear HA
    simp only [impl_HardApply.j0] at H
    by_cases c99 : x7_5 = true
    ·subst c99
     have H1 : ((impl_RecOk.f kj5 a1_0 a1_1 a1_2 a1_3 a1_4 a1_5 a1_6 a1_7 a1_8 a1_9).bind fun t160 => (if t160 = true then ((impl_HardOk.f kj5 x153000_5 x153001_5 x153002_5).bind fun t161 => (if t161 = true then (some (x153000_5, x153001_5, x153002_5, true)) else ((impl_copyHard.f a0_0 a0_1 l0_2).bind fun bt162 => (some (bt162.1, bt162.2.1, bt162.2.2, false))))) else ((impl_copyHard.f a0_0 a0_1 l0_2).bind fun bt167 => (some (bt167.1, bt167.2.1, bt167.2.2, false))))) = some (r1, r2, r3, r4) := by rw [if_pos rfl] at H; exact H
     clear H; have H := H1; clear H1; replace H := Option.bind_eq_some_iff.mp H
     obtain ⟨t160, A1000, H⟩ := H
     replace H : (if t160 = true then ((impl_HardOk.f kj5 x153000_5 x153001_5 x153002_5).bind fun t161 => (if t161 = true then (some (x153000_5, x153001_5, x153002_5, true)) else ((impl_copyHard.f a0_0 a0_1 l0_2).bind fun bt162 => (some (bt162.1, bt162.2.1, bt162.2.2, false))))) else ((impl_copyHard.f a0_0 a0_1 l0_2).bind fun bt167 => (some (bt167.1, bt167.2.1, bt167.2.2, false)))) = some (r1, r2, r3, r4) := H; have A100 := aM A1000; clear A1000
     by_cases c101 : t160 = true
     ·subst c101
      have H1 : ((impl_HardOk.f kj5 x153000_5 x153001_5 x153002_5).bind fun t161 => (if t161 = true then (some (x153000_5, x153001_5, x153002_5, true)) else ((impl_copyHard.f a0_0 a0_1 l0_2).bind fun bt162 => (some (bt162.1, bt162.2.1, bt162.2.2, false))))) = some (r1, r2, r3, r4) := by rw [if_pos rfl] at H; exact H
      clear H; have H := H1; clear H1; replace H := Option.bind_eq_some_iff.mp H
      obtain ⟨t161, A1020, H⟩ := H
      replace H : (if t161 = true then (some (x153000_5, x153001_5, x153002_5, true)) else ((impl_copyHard.f a0_0 a0_1 l0_2).bind fun bt162 => (some (bt162.1, bt162.2.1, bt162.2.2, false)))) = some (r1, r2, r3, r4) := H; have A102 := aM A1020; clear A1020
      by_cases c103 : t161 = true
      ·subst c103
       have H1 : (some (x153000_5, x153001_5, x153002_5, true)) = some (r1, r2, r3, r4) := by rw [if_pos rfl] at H; exact H
       clear H; have H := H1; clear H1
       simp only [Option.some.injEq, Prod.mk.injEq] at H
       obtain ⟨rfl, rfl, rfl, rfl⟩ := H
       have hnb104 := NB144_143.out; have hnc104 := NB143_144.out; have hnb105 := NB144_145.out; have hnc105 := NB145_144.out; have hnb106 := NB144_152.out; have hnc106 := NB152_144.out; obtain ⟨hcz107_0, hcz107_1, hcz107_2, hcz107_3, hcz107_4, hcz107_5, hcz107_6, hcz107_7, hcz107_8, hcz107_9, hfz107_0, hfz107_1, hfz107_2, hfz107_3, hfz107_4, hfz107_5, hfz107_6, hfz107_7, hfz107_8, hfz107_9⟩ := xf10 (w := wc) BK144
       go_wp2_with (first | (go_at_call 73; (with_reducible refine (impl_RecOk.calls kj5 a1_0 a1_1 a1_2 a1_3 a1_4 a1_5 a1_6 a1_7 a1_8 a1_9 true _ A100.out).mono ?_); rintro e w108 ⟨rfl, hb⟩; replace HO_153002 := aM (Kd.R_below (xr HO_153002) hb); replace BK143 := xbb BK143 hb; replace BK144 := xbb BK144 hb; replace BK145 := xbb BK145 hb; replace BK152 := xbb BK152 hb; replace HB := xbs hb; (try clear hb); (try clear hb2); (try clear hk); (try clear hi); have hnb109 := NB152_143.out; have hnc109 := NB143_152.out; have hnb110 := NB152_145.out; have hnc110 := NB145_152.out; obtain ⟨hcz111_0, hcz111_1, hcz111_2, hfz111_0, hfz111_1, hfz111_2⟩ := xf3 (w := w108) BK152; obtain ⟨Ao112, co112, eo112⟩ := Kd.R_slice HO_153002.out; subst eo112) | (go_at_call 20; (with_reducible refine (impl_HardOk.calls kj5 x153000_5 x153001_5 _ _ x153002_5 true _ ?side1 ?side2 A102.out).mono ?_); (case side1 => repeat (first | exact (Kd.R_reads' HO_153002.out).2.2 | (with_reducible refine Kd.C_alloc ?_ _) | (with_reducible refine Kd.C_drewN ?_ _) | (with_reducible refine Kd.C_drew ?_))); (case side2 => exact (Kd.R_reads' HO_153002.out).2.1); rintro e w113 ⟨rfl, hb⟩; replace HO_153002 := aM (Kd.R_below (xr HO_153002) hb); replace BK143 := xbb BK143 hb; replace BK144 := xbb BK144 hb; replace BK145 := xbb BK145 hb; replace BK152 := xbb BK152 hb; replace HB := xbs hb; (try clear hb); (try clear hb2); (try clear hk); (try clear hi); obtain ⟨hcz114_0, hcz114_1, hcz114_2, hfz114_0, hfz114_1, hfz114_2⟩ := xf3 (w := w113) BK152; have hnb115 := NB145_143.out; have hnc115 := NB143_145.out; obtain ⟨hcz116_0, hcz116_1, hcz116_2, hfz116_0, hfz116_1, hfz116_2⟩ := xf3 (w := w113) BK145) | ((with_reducible refine gate_store (t := 28) (p := 4) rfl ?_); refine store_event (t := 28) (p := 4) (v := ?vo_w117) (w1 := (((w113.setCell ⟨gb145, 0, none⟩ (.int .i64 x153000_5)).setCell ⟨gb145, 1, none⟩ (.int .i64 x153001_5)).setCell ⟨gb145, 2, none⟩ (.slice Ao112 x153002_5.length co112))) ?hg ?ho ?hn ?hr ?_; (case ho | hg | hn => rfl); (case hr => first | (go_simp; done) | (go_simp; rfl)); intro w117 hw; replace HO_153002 : Aside0 (Kd.R k36 36 w117 w.heap.size (fun _ => True) (.slice Ao112 x153002_5.length co112) x153002_5) := ⟨(by rw [hw]; exact (by (with_reducible repeat (first | apply Kd.R_alloc | apply Kd.R_drewN | apply Kd.R_drew)); exact Kd.R_mono (Kd.R_far (p := ⟨gb145, 2, none⟩) (Kd.R_far (p := ⟨gb145, 1, none⟩) (Kd.R_far (p := ⟨gb145, 0, none⟩) (Kd.R_types HO_153002.out BK145.out (by decide)) (fun _ hk => hk.2) (.int .i64 x153000_5)) (fun _ hk => hk.2) (.int .i64 x153001_5)) (fun _ hk => hk.2) (.slice Ao112 x153002_5.length co112)) (fun _ hk => trivial)))⟩; replace BK143 : Aside0 (w117.heap[gb143]? = some (.cells #[.int .i64 a0_0, .int .i64 a0_1, .slice A0_2 l0_2.length c0_2] 28 (0, 0))) := ⟨(by rw [hw]; exact (by (with_reducible repeat (first | refine blk_drewN ?_ _ | refine blk_drew ?_ | refine blk_alloc ?_ _)); refine blk_far ?_ NB143_145.out _; (with_reducible repeat (first | refine blk_drewN ?_ _ | refine blk_drew ?_ | refine blk_alloc ?_ _)); refine blk_far ?_ NB143_145.out _; (with_reducible repeat (first | refine blk_drewN ?_ _ | refine blk_drew ?_ | refine blk_alloc ?_ _)); refine blk_far ?_ NB143_145.out _; (with_reducible repeat (first | refine blk_drewN ?_ _ | refine blk_drew ?_ | refine blk_alloc ?_ _)); exact BK143.out))⟩; replace BK144 : Aside0 (w117.heap[gb144]? = some (.cells #[.int .i64 a1_0, .int .i64 a1_1, .int .i64 a1_2, .int .i64 a1_3, .int .i64 a1_4, .int .i64 a1_5, .int .i64 a1_6, .int .i64 a1_7, .int .i64 a1_8, .string a1_9] 38 (0, 0))) := ⟨(by rw [hw]; exact (by (with_reducible repeat (first | refine blk_drewN ?_ _ | refine blk_drew ?_ | refine blk_alloc ?_ _)); refine blk_far ?_ NB144_145.out _; (with_reducible repeat (first | refine blk_drewN ?_ _ | refine blk_drew ?_ | refine blk_alloc ?_ _)); refine blk_far ?_ NB144_145.out _; (with_reducible repeat (first | refine blk_drewN ?_ _ | refine blk_drew ?_ | refine blk_alloc ?_ _)); refine blk_far ?_ NB144_145.out _; (with_reducible repeat (first | refine blk_drewN ?_ _ | refine blk_drew ?_ | refine blk_alloc ?_ _)); exact BK144.out))⟩; replace BK145 : Aside0 (w117.heap[gb145]? = some (.cells #[.int .i64 x153000_5, .int .i64 x153001_5, .slice Ao112 x153002_5.length co112] 28 (0, 0))) := ⟨(by rw [hw]; exact (by (with_reducible repeat (first | refine blk_drewN ?_ _ | refine blk_drew ?_ | refine blk_alloc ?_ _)); refine blk_put (cs := #[.int .i64 x153000_5, .int .i64 x153001_5, .slice none 0 0]) ?_ 2 _ rfl; (with_reducible repeat (first | refine blk_drewN ?_ _ | refine blk_drew ?_ | refine blk_alloc ?_ _)); refine blk_put (cs := #[.int .i64 x153000_5, .int .i64 0, .slice none 0 0]) ?_ 1 _ rfl; (with_reducible repeat (first | refine blk_drewN ?_ _ | refine blk_drew ?_ | refine blk_alloc ?_ _)); refine blk_put (cs := #[.int .i64 0, .int .i64 0, .slice none 0 0]) ?_ 0 _ rfl; (with_reducible repeat (first | refine blk_drewN ?_ _ | refine blk_drew ?_ | refine blk_alloc ?_ _)); exact BK145.out))⟩; replace BK152 : Aside0 (w117.heap[gb152]? = some (.cells #[.int .i64 x153000_5, .int .i64 x153001_5, .slice Ao112 x153002_5.length co112] 28 (0, 0))) := ⟨(by rw [hw]; exact (by (with_reducible repeat (first | refine blk_drewN ?_ _ | refine blk_drew ?_ | refine blk_alloc ?_ _)); refine blk_far ?_ NB152_145.out _; (with_reducible repeat (first | refine blk_drewN ?_ _ | refine blk_drew ?_ | refine blk_alloc ?_ _)); refine blk_far ?_ NB152_145.out _; (with_reducible repeat (first | refine blk_drewN ?_ _ | refine blk_drew ?_ | refine blk_alloc ?_ _)); refine blk_far ?_ NB152_145.out _; (with_reducible repeat (first | refine blk_drewN ?_ _ | refine blk_drew ?_ | refine blk_alloc ?_ _)); exact BK152.out))⟩; replace HB : Aside0 (Below w.heap.size w w117) := ⟨(by rw [hw]; exact xbg)⟩; clear hw))
       refine bodyPost_ret (results_ct rfl _ _ gb145 28 #[.int .i64 x153000_5, .int .i64 x153001_5, .slice Ao112 x153002_5.length co112] (0, 0) _ rfl xblk Try.underlying28 rfl (by kernel_rfl)) rfl ?_
       exact ⟨_, by first | rfl | (simp [errW_none, errW_some] <;> rfl) | (simp [*, errW_none, errW_some] <;> rfl), by (with_reducible repeat (first | apply Kd.R_alloc | apply Kd.R_drewN | apply Kd.R_drew)); exact HO_153002.out, xbg⟩
      ·replace c103 := Bool.eq_false_iff.mpr c103
       subst c103
       have H1 : ((impl_copyHard.f a0_0 a0_1 l0_2).bind fun bt162 => (some (bt162.1, bt162.2.1, bt162.2.2, false))) = some (r1, r2, r3, r4) := by rw [if_neg (show ¬ (false = true) by decide)] at H; exact H
       clear H; have H := H1; clear H1; replace H := Option.bind_eq_some_iff.mp H
       obtain ⟨⟨t162, t163, t164⟩, A1180, H⟩ := H
       replace H : (some (t162, t163, t164, false)) = some (r1, r2, r3, r4) := H; have A118 := aM A1180; clear A1180
       simp only [Option.some.injEq, Prod.mk.injEq] at H
       obtain ⟨rfl, rfl, rfl, rfl⟩ := H
       have hnb119 := NB144_143.out; have hnc119 := NB143_144.out; have hnb120 := NB144_145.out; have hnc120 := NB145_144.out; have hnb121 := NB144_152.out; have hnc121 := NB152_144.out; obtain ⟨hcz122_0, hcz122_1, hcz122_2, hcz122_3, hcz122_4, hcz122_5, hcz122_6, hcz122_7, hcz122_8, hcz122_9, hfz122_0, hfz122_1, hfz122_2, hfz122_3, hfz122_4, hfz122_5, hfz122_6, hfz122_7, hfz122_8, hfz122_9⟩ := xf10 (w := wc) BK144
       go_wp2_with (first | (go_at_call 73; (with_reducible refine (impl_RecOk.calls kj5 a1_0 a1_1 a1_2 a1_3 a1_4 a1_5 a1_6 a1_7 a1_8 a1_9 true _ A100.out).mono ?_); rintro e w123 ⟨rfl, hb⟩; replace HO_153002 := aM (Kd.R_below (xr HO_153002) hb); replace BK143 := xbb BK143 hb; replace BK144 := xbb BK144 hb; replace BK145 := xbb BK145 hb; replace BK152 := xbb BK152 hb; replace HB := xbs hb; (try clear hb); (try clear hb2); (try clear hk); (try clear hi); have hnb124 := NB152_143.out; have hnc124 := NB143_152.out; have hnb125 := NB152_145.out; have hnc125 := NB145_152.out; obtain ⟨hcz126_0, hcz126_1, hcz126_2, hfz126_0, hfz126_1, hfz126_2⟩ := xf3 (w := w123) BK152; obtain ⟨Ao127, co127, eo127⟩ := Kd.R_slice HO_153002.out; subst eo127) | (go_at_call 20; (with_reducible refine (impl_HardOk.calls kj5 x153000_5 x153001_5 _ _ x153002_5 false _ ?side1 ?side2 A102.out).mono ?_); (case side1 => repeat (first | exact (Kd.R_reads' HO_153002.out).2.2 | (with_reducible refine Kd.C_alloc ?_ _) | (with_reducible refine Kd.C_drewN ?_ _) | (with_reducible refine Kd.C_drew ?_))); (case side2 => exact (Kd.R_reads' HO_153002.out).2.1); rintro e w128 ⟨rfl, hb⟩; replace HO_153002 := aM (Kd.R_below (xr HO_153002) hb); replace BK143 := xbb BK143 hb; replace BK144 := xbb BK144 hb; replace BK145 := xbb BK145 hb; replace BK152 := xbb BK152 hb; replace HB := xbs hb; (try clear hb); (try clear hb2); (try clear hk); (try clear hi); have hnb129 := NB143_145.out; have hnc129 := NB145_143.out; obtain ⟨hcz130_0, hcz130_1, hcz130_2, hfz130_0, hfz130_1, hfz130_2⟩ := xf3 (w := w128) BK143) | ((with_reducible refine gate_callee (f := 80) rfl ?_); refine goesL_ (some 96) rfl rfl Try.func80 (by kernel_rfl) rfl #[.agg #[.int .i64 a0_0, .int .i64 a0_1, .slice A0_2 l0_2.length c0_2]] rfl (by (try simp only [List.map_toArray, List.map_cons, List.map_nil]); first | done | rfl | (simp only [List.length_drop, List.length_take]; rfl)) ?_; (with_reducible refine (impl_copyHard.calls a0_0 a0_1 _ _ l0_2 t162 t163 t164 _ ?side1 ?side2 A118.out).mono ?_); (case side1 => exact xcb HR0_2); (case side2 => exact HC0_2.out); rintro e w131 ⟨v165, rfl, ho0, hb⟩; refine ⟨_, rfl, ?_⟩; have HO166 := aM (Kd.R_lower (Kd.R_new' ho0 (Kd.R_lt (xr HO_153002))) (below_size xbg)); replace HO_153002 := aM (Kd.R_elder' (xr HO_153002) (Kd.R_base ho0) hb); replace BK143 := xbb BK143 hb; replace BK144 := xbb BK144 hb; replace BK145 := xbb BK145 hb; replace BK152 := xbb BK152 hb; replace HB := xbs hb; (try clear hb); (try clear hb2); (try clear hk); (try clear hi); (try clear ho0); obtain ⟨hcz132_0, hcz132_1, hcz132_2, hfz132_0, hfz132_1, hfz132_2⟩ := xf3 (w := w131) BK145; obtain ⟨Ao133, co133, eo133⟩ := Kd.R_slice HO166.out; subst eo133) | ((with_reducible refine gate_store (t := 28) (p := 4) rfl ?_); refine store_event (t := 28) (p := 4) (v := ?vo_w134) (w1 := (((w131.setCell ⟨gb145, 0, none⟩ (.int .i64 t162)).setCell ⟨gb145, 1, none⟩ (.int .i64 t163)).setCell ⟨gb145, 2, none⟩ (.slice Ao133 t164.length co133))) ?hg ?ho ?hn ?hr ?_; (case ho | hg | hn => rfl); (case hr => first | (go_simp; done) | (go_simp; rfl)); intro w134 hw; replace HO_153002 : Aside0 (Kd.R k36 36 w134 w.heap.size (fun k_ => some k_ ≠ (.slice Ao133 t164.length co133 : Value).ownBlock) (.slice Ao127 x153002_5.length co127) x153002_5) := ⟨(by rw [hw]; exact (by (with_reducible repeat (first | apply Kd.R_alloc | apply Kd.R_drewN | apply Kd.R_drew)); exact Kd.R_mono (Kd.R_far (p := ⟨gb145, 2, none⟩) (Kd.R_far (p := ⟨gb145, 1, none⟩) (Kd.R_far (p := ⟨gb145, 0, none⟩) (Kd.R_types HO_153002.out BK145.out (by decide)) (fun _ hk => hk.2) (.int .i64 t162)) (fun _ hk => hk.2) (.int .i64 t163)) (fun _ hk => hk.2) (.slice Ao133 t164.length co133)) (fun _ hk => hk.1.2)))⟩; replace HO166 : Aside0 (Kd.R k36 36 w134 w.heap.size (fun k_ => some k_ ≠ (.slice Ao127 x153002_5.length co127 : Value).ownBlock) (.slice Ao133 t164.length co133) t164) := ⟨(by rw [hw]; exact (by (with_reducible repeat (first | apply Kd.R_alloc | apply Kd.R_drewN | apply Kd.R_drew)); exact Kd.R_mono (Kd.R_far (p := ⟨gb145, 2, none⟩) (Kd.R_far (p := ⟨gb145, 1, none⟩) (Kd.R_far (p := ⟨gb145, 0, none⟩) (Kd.R_types HO166.out BK145.out (by decide)) (fun _ hk => hk.2) (.int .i64 t162)) (fun _ hk => hk.2) (.int .i64 t163)) (fun _ hk => hk.2) (.slice Ao133 t164.length co133)) (fun _ hk => hk.1.2)))⟩; replace BK143 : Aside0 (w134.heap[gb143]? = some (.cells #[.int .i64 a0_0, .int .i64 a0_1, .slice A0_2 l0_2.length c0_2] 28 (0, 0))) := ⟨(by rw [hw]; exact (by (with_reducible repeat (first | refine blk_drewN ?_ _ | refine blk_drew ?_ | refine blk_alloc ?_ _)); refine blk_far ?_ NB143_145.out _; (with_reducible repeat (first | refine blk_drewN ?_ _ | refine blk_drew ?_ | refine blk_alloc ?_ _)); refine blk_far ?_ NB143_145.out _; (with_reducible repeat (first | refine blk_drewN ?_ _ | refine blk_drew ?_ | refine blk_alloc ?_ _)); refine blk_far ?_ NB143_145.out _; (with_reducible repeat (first | refine blk_drewN ?_ _ | refine blk_drew ?_ | refine blk_alloc ?_ _)); exact BK143.out))⟩; replace BK144 : Aside0 (w134.heap[gb144]? = some (.cells #[.int .i64 a1_0, .int .i64 a1_1, .int .i64 a1_2, .int .i64 a1_3, .int .i64 a1_4, .int .i64 a1_5, .int .i64 a1_6, .int .i64 a1_7, .int .i64 a1_8, .string a1_9] 38 (0, 0))) := ⟨(by rw [hw]; exact (by (with_reducible repeat (first | refine blk_drewN ?_ _ | refine blk_drew ?_ | refine blk_alloc ?_ _)); refine blk_far ?_ NB144_145.out _; (with_reducible repeat (first | refine blk_drewN ?_ _ | refine blk_drew ?_ | refine blk_alloc ?_ _)); refine blk_far ?_ NB144_145.out _; (with_reducible repeat (first | refine blk_drewN ?_ _ | refine blk_drew ?_ | refine blk_alloc ?_ _)); refine blk_far ?_ NB144_145.out _; (with_reducible repeat (first | refine blk_drewN ?_ _ | refine blk_drew ?_ | refine blk_alloc ?_ _)); exact BK144.out))⟩; replace BK145 : Aside0 (w134.heap[gb145]? = some (.cells #[.int .i64 t162, .int .i64 t163, .slice Ao133 t164.length co133] 28 (0, 0))) := ⟨(by rw [hw]; exact (by (with_reducible repeat (first | refine blk_drewN ?_ _ | refine blk_drew ?_ | refine blk_alloc ?_ _)); refine blk_put (cs := #[.int .i64 t162, .int .i64 t163, .slice none 0 0]) ?_ 2 _ rfl; (with_reducible repeat (first | refine blk_drewN ?_ _ | refine blk_drew ?_ | refine blk_alloc ?_ _)); refine blk_put (cs := #[.int .i64 t162, .int .i64 0, .slice none 0 0]) ?_ 1 _ rfl; (with_reducible repeat (first | refine blk_drewN ?_ _ | refine blk_drew ?_ | refine blk_alloc ?_ _)); refine blk_put (cs := #[.int .i64 0, .int .i64 0, .slice none 0 0]) ?_ 0 _ rfl; (with_reducible repeat (first | refine blk_drewN ?_ _ | refine blk_drew ?_ | refine blk_alloc ?_ _)); exact BK145.out))⟩; replace BK152 : Aside0 (w134.heap[gb152]? = some (.cells #[.int .i64 x153000_5, .int .i64 x153001_5, .slice Ao127 x153002_5.length co127] 28 (0, 0))) := ⟨(by rw [hw]; exact (by (with_reducible repeat (first | refine blk_drewN ?_ _ | refine blk_drew ?_ | refine blk_alloc ?_ _)); refine blk_far ?_ NB152_145.out _; (with_reducible repeat (first | refine blk_drewN ?_ _ | refine blk_drew ?_ | refine blk_alloc ?_ _)); refine blk_far ?_ NB152_145.out _; (with_reducible repeat (first | refine blk_drewN ?_ _ | refine blk_drew ?_ | refine blk_alloc ?_ _)); refine blk_far ?_ NB152_145.out _; (with_reducible repeat (first | refine blk_drewN ?_ _ | refine blk_drew ?_ | refine blk_alloc ?_ _)); exact BK152.out))⟩; replace HB : Aside0 (Below w.heap.size w w134) := ⟨(by rw [hw]; exact xbg)⟩; clear hw))
       refine bodyPost_ret (results_ct rfl _ _ gb145 28 #[.int .i64 t162, .int .i64 t163, .slice Ao133 t164.length co133] (0, 0) _ rfl xblk Try.underlying28 rfl (by kernel_rfl)) rfl ?_
       exact ⟨_, by first | rfl | (simp [errW_none, errW_some] <;> rfl) | (simp [*, errW_none, errW_some] <;> rfl), by (with_reducible repeat (first | apply Kd.R_alloc | apply Kd.R_drewN | apply Kd.R_drew)); exact Kd.R_mono HO166.out (fun _ hk => trivial), xbg⟩
     ·replace c101 := Bool.eq_false_iff.mpr c101
      subst c101
      have H1 : ((impl_copyHard.f a0_0 a0_1 l0_2).bind fun bt167 => (some (bt167.1, bt167.2.1, bt167.2.2, false))) = some (r1, r2, r3, r4) := by rw [if_neg (show ¬ (false = true) by decide)] at H; exact H
      clear H; have H := H1; clear H1; replace H := Option.bind_eq_some_iff.mp H
      obtain ⟨⟨t167, t168, t169⟩, A1350, H⟩ := H
      replace H : (some (t167, t168, t169, false)) = some (r1, r2, r3, r4) := H; have A135 := aM A1350; clear A1350
      simp only [Option.some.injEq, Prod.mk.injEq] at H
      obtain ⟨rfl, rfl, rfl, rfl⟩ := H
      have hnb136 := NB144_143.out; have hnc136 := NB143_144.out; have hnb137 := NB144_145.out; have hnc137 := NB145_144.out; have hnb138 := NB144_152.out; have hnc138 := NB152_144.out; obtain ⟨hcz139_0, hcz139_1, hcz139_2, hcz139_3, hcz139_4, hcz139_5, hcz139_6, hcz139_7, hcz139_8, hcz139_9, hfz139_0, hfz139_1, hfz139_2, hfz139_3, hfz139_4, hfz139_5, hfz139_6, hfz139_7, hfz139_8, hfz139_9⟩ := xf10 (w := wc) BK144
      go_wp2_with (first | (go_at_call 73; (with_reducible refine (impl_RecOk.calls kj5 a1_0 a1_1 a1_2 a1_3 a1_4 a1_5 a1_6 a1_7 a1_8 a1_9 false _ A100.out).mono ?_); rintro e w140 ⟨rfl, hb⟩; replace HO_153002 := aM (Kd.R_below (xr HO_153002) hb); replace BK143 := xbb BK143 hb; replace BK144 := xbb BK144 hb; replace BK145 := xbb BK145 hb; replace BK152 := xbb BK152 hb; replace HB := xbs hb; (try clear hb); (try clear hb2); (try clear hk); (try clear hi); have hnb141 := NB143_145.out; have hnc141 := NB145_143.out; have hnb142 := NB143_152.out; have hnc142 := NB152_143.out; obtain ⟨hcz143_0, hcz143_1, hcz143_2, hfz143_0, hfz143_1, hfz143_2⟩ := xf3 (w := w140) BK143) | ((with_reducible refine gate_callee (f := 80) rfl ?_); refine goesL_ (some 96) rfl rfl Try.func80 (by kernel_rfl) rfl #[.agg #[.int .i64 a0_0, .int .i64 a0_1, .slice A0_2 l0_2.length c0_2]] rfl (by (try simp only [List.map_toArray, List.map_cons, List.map_nil]); first | done | rfl | (simp only [List.length_drop, List.length_take]; rfl)) ?_; (with_reducible refine (impl_copyHard.calls a0_0 a0_1 _ _ l0_2 t167 t168 t169 _ ?side1 ?side2 A135.out).mono ?_); (case side1 => exact xcb HR0_2); (case side2 => exact HC0_2.out); rintro e w144 ⟨v170, rfl, ho0, hb⟩; refine ⟨_, rfl, ?_⟩; have HO171 := aM (Kd.R_lower (Kd.R_new' ho0 (Kd.R_lt (xr HO_153002))) (below_size xbg)); replace HO_153002 := aM (Kd.R_elder' (xr HO_153002) (Kd.R_base ho0) hb); replace BK143 := xbb BK143 hb; replace BK144 := xbb BK144 hb; replace BK145 := xbb BK145 hb; replace BK152 := xbb BK152 hb; replace HB := xbs hb; (try clear hb); (try clear hb2); (try clear hk); (try clear hi); (try clear ho0); have hnb145 := NB145_152.out; have hnc145 := NB152_145.out; obtain ⟨hcz146_0, hcz146_1, hcz146_2, hfz146_0, hfz146_1, hfz146_2⟩ := xf3 (w := w144) BK145; obtain ⟨Ao147, co147, eo147⟩ := Kd.R_slice HO171.out; subst eo147) | ((with_reducible refine gate_store (t := 28) (p := 4) rfl ?_); refine store_event (t := 28) (p := 4) (v := ?vo_w148) (w1 := (((w144.setCell ⟨gb145, 0, none⟩ (.int .i64 t167)).setCell ⟨gb145, 1, none⟩ (.int .i64 t168)).setCell ⟨gb145, 2, none⟩ (.slice Ao147 t169.length co147))) ?hg ?ho ?hn ?hr ?_; (case ho | hg | hn => rfl); (case hr => first | (go_simp; done) | (go_simp; rfl)); intro w148 hw; replace HO_153002 : Aside0 (Kd.R k36 36 w148 w.heap.size (fun k_ => some k_ ≠ (.slice Ao147 t169.length co147 : Value).ownBlock) u153002 x153002_5) := ⟨(by rw [hw]; exact (by (with_reducible repeat (first | apply Kd.R_alloc | apply Kd.R_drewN | apply Kd.R_drew)); exact Kd.R_mono (Kd.R_far (p := ⟨gb145, 2, none⟩) (Kd.R_far (p := ⟨gb145, 1, none⟩) (Kd.R_far (p := ⟨gb145, 0, none⟩) (Kd.R_types HO_153002.out BK145.out (by decide)) (fun _ hk => hk.2) (.int .i64 t167)) (fun _ hk => hk.2) (.int .i64 t168)) (fun _ hk => hk.2) (.slice Ao147 t169.length co147)) (fun _ hk => hk.1.2)))⟩; replace HO171 : Aside0 (Kd.R k36 36 w148 w.heap.size (fun k_ => some k_ ≠ (u153002 : Value).ownBlock) (.slice Ao147 t169.length co147) t169) := ⟨(by rw [hw]; exact (by (with_reducible repeat (first | apply Kd.R_alloc | apply Kd.R_drewN | apply Kd.R_drew)); exact Kd.R_mono (Kd.R_far (p := ⟨gb145, 2, none⟩) (Kd.R_far (p := ⟨gb145, 1, none⟩) (Kd.R_far (p := ⟨gb145, 0, none⟩) (Kd.R_types HO171.out BK145.out (by decide)) (fun _ hk => hk.2) (.int .i64 t167)) (fun _ hk => hk.2) (.int .i64 t168)) (fun _ hk => hk.2) (.slice Ao147 t169.length co147)) (fun _ hk => hk.1.2)))⟩; replace BK143 : Aside0 (w148.heap[gb143]? = some (.cells #[.int .i64 a0_0, .int .i64 a0_1, .slice A0_2 l0_2.length c0_2] 28 (0, 0))) := ⟨(by rw [hw]; exact (by (with_reducible repeat (first | refine blk_drewN ?_ _ | refine blk_drew ?_ | refine blk_alloc ?_ _)); refine blk_far ?_ NB143_145.out _; (with_reducible repeat (first | refine blk_drewN ?_ _ | refine blk_drew ?_ | refine blk_alloc ?_ _)); refine blk_far ?_ NB143_145.out _; (with_reducible repeat (first | refine blk_drewN ?_ _ | refine blk_drew ?_ | refine blk_alloc ?_ _)); refine blk_far ?_ NB143_145.out _; (with_reducible repeat (first | refine blk_drewN ?_ _ | refine blk_drew ?_ | refine blk_alloc ?_ _)); exact BK143.out))⟩; replace BK144 : Aside0 (w148.heap[gb144]? = some (.cells #[.int .i64 a1_0, .int .i64 a1_1, .int .i64 a1_2, .int .i64 a1_3, .int .i64 a1_4, .int .i64 a1_5, .int .i64 a1_6, .int .i64 a1_7, .int .i64 a1_8, .string a1_9] 38 (0, 0))) := ⟨(by rw [hw]; exact (by (with_reducible repeat (first | refine blk_drewN ?_ _ | refine blk_drew ?_ | refine blk_alloc ?_ _)); refine blk_far ?_ NB144_145.out _; (with_reducible repeat (first | refine blk_drewN ?_ _ | refine blk_drew ?_ | refine blk_alloc ?_ _)); refine blk_far ?_ NB144_145.out _; (with_reducible repeat (first | refine blk_drewN ?_ _ | refine blk_drew ?_ | refine blk_alloc ?_ _)); refine blk_far ?_ NB144_145.out _; (with_reducible repeat (first | refine blk_drewN ?_ _ | refine blk_drew ?_ | refine blk_alloc ?_ _)); exact BK144.out))⟩; replace BK145 : Aside0 (w148.heap[gb145]? = some (.cells #[.int .i64 t167, .int .i64 t168, .slice Ao147 t169.length co147] 28 (0, 0))) := ⟨(by rw [hw]; exact (by (with_reducible repeat (first | refine blk_drewN ?_ _ | refine blk_drew ?_ | refine blk_alloc ?_ _)); refine blk_put (cs := #[.int .i64 t167, .int .i64 t168, .slice none 0 0]) ?_ 2 _ rfl; (with_reducible repeat (first | refine blk_drewN ?_ _ | refine blk_drew ?_ | refine blk_alloc ?_ _)); refine blk_put (cs := #[.int .i64 t167, .int .i64 0, .slice none 0 0]) ?_ 1 _ rfl; (with_reducible repeat (first | refine blk_drewN ?_ _ | refine blk_drew ?_ | refine blk_alloc ?_ _)); refine blk_put (cs := #[.int .i64 0, .int .i64 0, .slice none 0 0]) ?_ 0 _ rfl; (with_reducible repeat (first | refine blk_drewN ?_ _ | refine blk_drew ?_ | refine blk_alloc ?_ _)); exact BK145.out))⟩; replace BK152 : Aside0 (w148.heap[gb152]? = some (.cells #[.int .i64 x153000_5, .int .i64 x153001_5, u153002] 28 (0, 0))) := ⟨(by rw [hw]; exact (by (with_reducible repeat (first | refine blk_drewN ?_ _ | refine blk_drew ?_ | refine blk_alloc ?_ _)); refine blk_far ?_ NB152_145.out _; (with_reducible repeat (first | refine blk_drewN ?_ _ | refine blk_drew ?_ | refine blk_alloc ?_ _)); refine blk_far ?_ NB152_145.out _; (with_reducible repeat (first | refine blk_drewN ?_ _ | refine blk_drew ?_ | refine blk_alloc ?_ _)); refine blk_far ?_ NB152_145.out _; (with_reducible repeat (first | refine blk_drewN ?_ _ | refine blk_drew ?_ | refine blk_alloc ?_ _)); exact BK152.out))⟩; replace HB : Aside0 (Below w.heap.size w w148) := ⟨(by rw [hw]; exact xbg)⟩; clear hw))
      refine bodyPost_ret (results_ct rfl _ _ gb145 28 #[.int .i64 t167, .int .i64 t168, .slice Ao147 t169.length co147] (0, 0) _ rfl xblk Try.underlying28 rfl (by kernel_rfl)) rfl ?_
      exact ⟨_, by first | rfl | (simp [errW_none, errW_some] <;> rfl) | (simp [*, errW_none, errW_some] <;> rfl), by (with_reducible repeat (first | apply Kd.R_alloc | apply Kd.R_drewN | apply Kd.R_drew)); exact Kd.R_mono HO171.out (fun _ hk => trivial), xbg⟩
    ·replace c99 := Bool.eq_false_iff.mpr c99
     subst c99
     have H1 : ((impl_copyHard.f a0_0 a0_1 l0_2).bind fun bt172 => (some (bt172.1, bt172.2.1, bt172.2.2, false))) = some (r1, r2, r3, r4) := by rw [if_neg (show ¬ (false = true) by decide)] at H; exact H
     clear H; have H := H1; clear H1; replace H := Option.bind_eq_some_iff.mp H
     obtain ⟨⟨t172, t173, t174⟩, A1490, H⟩ := H
     replace H : (some (t172, t173, t174, false)) = some (r1, r2, r3, r4) := H; have A149 := aM A1490; clear A1490
     simp only [Option.some.injEq, Prod.mk.injEq] at H
     obtain ⟨rfl, rfl, rfl, rfl⟩ := H
     have hnb150 := NB143_144.out; have hnc150 := NB144_143.out; have hnb151 := NB143_145.out; have hnc151 := NB145_143.out; have hnb152 := NB143_152.out; have hnc152 := NB152_143.out; obtain ⟨hcz153_0, hcz153_1, hcz153_2, hfz153_0, hfz153_1, hfz153_2⟩ := xf3 (w := wc) BK143
     go_wp2_with (first | ((with_reducible refine gate_callee (f := 80) rfl ?_); refine goesL_ (some 96) rfl rfl Try.func80 (by kernel_rfl) rfl #[.agg #[.int .i64 a0_0, .int .i64 a0_1, .slice A0_2 l0_2.length c0_2]] rfl (by (try simp only [List.map_toArray, List.map_cons, List.map_nil]); first | done | rfl | (simp only [List.length_drop, List.length_take]; rfl)) ?_; (with_reducible refine (impl_copyHard.calls a0_0 a0_1 _ _ l0_2 t172 t173 t174 _ ?side1 ?side2 A149.out).mono ?_); (case side1 => exact xcb HR0_2); (case side2 => exact HC0_2.out); rintro e w154 ⟨v175, rfl, ho0, hb⟩; refine ⟨_, rfl, ?_⟩; have HO176 := aM (Kd.R_lower (Kd.R_new' ho0 (Kd.R_lt (xr HO_153002))) (below_size xbg)); replace HO_153002 := aM (Kd.R_elder' (xr HO_153002) (Kd.R_base ho0) hb); replace BK143 := xbb BK143 hb; replace BK144 := xbb BK144 hb; replace BK145 := xbb BK145 hb; replace BK152 := xbb BK152 hb; replace HB := xbs hb; (try clear hb); (try clear hb2); (try clear hk); (try clear hi); (try clear ho0); have hnb155 := NB145_144.out; have hnc155 := NB144_145.out; have hnb156 := NB145_152.out; have hnc156 := NB152_145.out; obtain ⟨hcz157_0, hcz157_1, hcz157_2, hfz157_0, hfz157_1, hfz157_2⟩ := xf3 (w := w154) BK145; obtain ⟨Ao158, co158, eo158⟩ := Kd.R_slice HO176.out; subst eo158) | ((with_reducible refine gate_store (t := 28) (p := 4) rfl ?_); refine store_event (t := 28) (p := 4) (v := ?vo_w159) (w1 := (((w154.setCell ⟨gb145, 0, none⟩ (.int .i64 t172)).setCell ⟨gb145, 1, none⟩ (.int .i64 t173)).setCell ⟨gb145, 2, none⟩ (.slice Ao158 t174.length co158))) ?hg ?ho ?hn ?hr ?_; (case ho | hg | hn => rfl); (case hr => first | (go_simp; done) | (go_simp; rfl)); intro w159 hw; replace HO_153002 : Aside0 (Kd.R k36 36 w159 w.heap.size (fun k_ => some k_ ≠ (.slice Ao158 t174.length co158 : Value).ownBlock) u153002 x153002_5) := ⟨(by rw [hw]; exact (by (with_reducible repeat (first | apply Kd.R_alloc | apply Kd.R_drewN | apply Kd.R_drew)); exact Kd.R_mono (Kd.R_far (p := ⟨gb145, 2, none⟩) (Kd.R_far (p := ⟨gb145, 1, none⟩) (Kd.R_far (p := ⟨gb145, 0, none⟩) (Kd.R_types HO_153002.out BK145.out (by decide)) (fun _ hk => hk.2) (.int .i64 t172)) (fun _ hk => hk.2) (.int .i64 t173)) (fun _ hk => hk.2) (.slice Ao158 t174.length co158)) (fun _ hk => hk.1.2)))⟩; replace HO176 : Aside0 (Kd.R k36 36 w159 w.heap.size (fun k_ => some k_ ≠ (u153002 : Value).ownBlock) (.slice Ao158 t174.length co158) t174) := ⟨(by rw [hw]; exact (by (with_reducible repeat (first | apply Kd.R_alloc | apply Kd.R_drewN | apply Kd.R_drew)); exact Kd.R_mono (Kd.R_far (p := ⟨gb145, 2, none⟩) (Kd.R_far (p := ⟨gb145, 1, none⟩) (Kd.R_far (p := ⟨gb145, 0, none⟩) (Kd.R_types HO176.out BK145.out (by decide)) (fun _ hk => hk.2) (.int .i64 t172)) (fun _ hk => hk.2) (.int .i64 t173)) (fun _ hk => hk.2) (.slice Ao158 t174.length co158)) (fun _ hk => hk.1.2)))⟩; replace BK143 : Aside0 (w159.heap[gb143]? = some (.cells #[.int .i64 a0_0, .int .i64 a0_1, .slice A0_2 l0_2.length c0_2] 28 (0, 0))) := ⟨(by rw [hw]; exact (by (with_reducible repeat (first | refine blk_drewN ?_ _ | refine blk_drew ?_ | refine blk_alloc ?_ _)); refine blk_far ?_ NB143_145.out _; (with_reducible repeat (first | refine blk_drewN ?_ _ | refine blk_drew ?_ | refine blk_alloc ?_ _)); refine blk_far ?_ NB143_145.out _; (with_reducible repeat (first | refine blk_drewN ?_ _ | refine blk_drew ?_ | refine blk_alloc ?_ _)); refine blk_far ?_ NB143_145.out _; (with_reducible repeat (first | refine blk_drewN ?_ _ | refine blk_drew ?_ | refine blk_alloc ?_ _)); exact BK143.out))⟩; replace BK144 : Aside0 (w159.heap[gb144]? = some (.cells #[.int .i64 a1_0, .int .i64 a1_1, .int .i64 a1_2, .int .i64 a1_3, .int .i64 a1_4, .int .i64 a1_5, .int .i64 a1_6, .int .i64 a1_7, .int .i64 a1_8, .string a1_9] 38 (0, 0))) := ⟨(by rw [hw]; exact (by (with_reducible repeat (first | refine blk_drewN ?_ _ | refine blk_drew ?_ | refine blk_alloc ?_ _)); refine blk_far ?_ NB144_145.out _; (with_reducible repeat (first | refine blk_drewN ?_ _ | refine blk_drew ?_ | refine blk_alloc ?_ _)); refine blk_far ?_ NB144_145.out _; (with_reducible repeat (first | refine blk_drewN ?_ _ | refine blk_drew ?_ | refine blk_alloc ?_ _)); refine blk_far ?_ NB144_145.out _; (with_reducible repeat (first | refine blk_drewN ?_ _ | refine blk_drew ?_ | refine blk_alloc ?_ _)); exact BK144.out))⟩; replace BK145 : Aside0 (w159.heap[gb145]? = some (.cells #[.int .i64 t172, .int .i64 t173, .slice Ao158 t174.length co158] 28 (0, 0))) := ⟨(by rw [hw]; exact (by (with_reducible repeat (first | refine blk_drewN ?_ _ | refine blk_drew ?_ | refine blk_alloc ?_ _)); refine blk_put (cs := #[.int .i64 t172, .int .i64 t173, .slice none 0 0]) ?_ 2 _ rfl; (with_reducible repeat (first | refine blk_drewN ?_ _ | refine blk_drew ?_ | refine blk_alloc ?_ _)); refine blk_put (cs := #[.int .i64 t172, .int .i64 0, .slice none 0 0]) ?_ 1 _ rfl; (with_reducible repeat (first | refine blk_drewN ?_ _ | refine blk_drew ?_ | refine blk_alloc ?_ _)); refine blk_put (cs := #[.int .i64 0, .int .i64 0, .slice none 0 0]) ?_ 0 _ rfl; (with_reducible repeat (first | refine blk_drewN ?_ _ | refine blk_drew ?_ | refine blk_alloc ?_ _)); exact BK145.out))⟩; replace BK152 : Aside0 (w159.heap[gb152]? = some (.cells #[.int .i64 x153000_5, .int .i64 x153001_5, u153002] 28 (0, 0))) := ⟨(by rw [hw]; exact (by (with_reducible repeat (first | refine blk_drewN ?_ _ | refine blk_drew ?_ | refine blk_alloc ?_ _)); refine blk_far ?_ NB152_145.out _; (with_reducible repeat (first | refine blk_drewN ?_ _ | refine blk_drew ?_ | refine blk_alloc ?_ _)); refine blk_far ?_ NB152_145.out _; (with_reducible repeat (first | refine blk_drewN ?_ _ | refine blk_drew ?_ | refine blk_alloc ?_ _)); refine blk_far ?_ NB152_145.out _; (with_reducible repeat (first | refine blk_drewN ?_ _ | refine blk_drew ?_ | refine blk_alloc ?_ _)); exact BK152.out))⟩; replace HB : Aside0 (Below w.heap.size w w159) := ⟨(by rw [hw]; exact xbg)⟩; clear hw))
     refine bodyPost_ret (results_ct rfl _ _ gb145 28 #[.int .i64 t172, .int .i64 t173, .slice Ao158 t174.length co158] (0, 0) _ rfl xblk Try.underlying28 rfl (by kernel_rfl)) rfl ?_
     exact ⟨_, by first | rfl | (simp [errW_none, errW_some] <;> rfl) | (simp [*, errW_none, errW_some] <;> rfl), by (with_reducible repeat (first | apply Kd.R_alloc | apply Kd.R_drewN | apply Kd.R_drew)); exact Kd.R_mono HO176.out (fun _ hk => trivial), xbg⟩
 ·replace c4 := Bool.eq_false_iff.mpr c4
  subst c4
  have H1 : (some (0, 0, ([] : List (S36)), false)) = some (r1, r2, r3, r4) := by rw [if_neg (show ¬ (false = true) by decide)] at H; exact H
  clear H; have H := H1; clear H1
  simp only [Option.some.injEq, Prod.mk.injEq] at H
  obtain ⟨rfl, rfl, rfl, rfl⟩ := H
  go_enter Try.func19, Try.ntmps19
  go_wp2_with (first | ((with_reducible refine gate_dst (N := 2) rfl ?_); refine box_event ?hg (N := 2) ?hd (cs := #[.int .i64 a0_0, .int .i64 a0_1, .slice A0_2 l0_2.length c0_2]) (t := 28) ?hr ?_; (case hd => rfl); (case hg => rfl); (case hr => first | (go_simp; done) | (go_simp; rfl)); intro gb143 hg w160 hbox hb; have BK143 := aM (hbox); have GW143 := aM (xge hg); have GE143 := aM (xge hg); replace HB := xbs hb; clear hb hbox hg) | ((with_reducible refine gate_dst (N := 3) rfl ?_); refine box_event ?hg (N := 3) ?hd (cs := #[.int .i64 a1_0, .int .i64 a1_1, .int .i64 a1_2, .int .i64 a1_3, .int .i64 a1_4, .int .i64 a1_5, .int .i64 a1_6, .int .i64 a1_7, .int .i64 a1_8, .string a1_9]) (t := 38) ?hr ?_; (case hd => rfl); (case hg => rfl); (case hr => first | (go_simp; done) | (go_simp; rfl)); intro gb144 hg w161 hbox hb; have GW144 := aM (xge hg); have GE144 := aM (xge hg); replace HB := xbs hb; have NB143_144 := aM ((by rw [hg]; exact Nat.ne_of_lt (blk_lt (g := gb143) (o := .cells #[.int .i64 a0_0, .int .i64 a0_1, .slice A0_2 l0_2.length c0_2] 28 (0, 0)) xblk) : gb143 ≠ gb144)); have NB144_143 := aM ((by rw [hg]; exact Nat.ne_of_gt (blk_lt (g := gb143) (o := .cells #[.int .i64 a0_0, .int .i64 a0_1, .slice A0_2 l0_2.length c0_2] 28 (0, 0)) xblk) : gb144 ≠ gb143)); replace BK143 := xbb BK143 hb; have BK144 := aM (hbox); clear hb hbox hg) | ((with_reducible refine gate_dst (N := 4) rfl ?_); refine box_event ?hg (N := 4) ?hd (cs := #[.int .i64 0, .int .i64 0, .slice none 0 0]) (t := 28) ?hr ?_; (case hd => rfl); (case hg => rfl); (case hr => first | (go_simp; done) | (go_simp; rfl)); intro gb145 hg w162 hbox hb; have GW145 := aM (xge hg); have GE145 := aM (xge hg); replace HB := xbs hb; have NB143_145 := aM ((by rw [hg]; exact Nat.ne_of_lt (blk_lt (g := gb143) (o := .cells #[.int .i64 a0_0, .int .i64 a0_1, .slice A0_2 l0_2.length c0_2] 28 (0, 0)) xblk) : gb143 ≠ gb145)); have NB145_143 := aM ((by rw [hg]; exact Nat.ne_of_gt (blk_lt (g := gb143) (o := .cells #[.int .i64 a0_0, .int .i64 a0_1, .slice A0_2 l0_2.length c0_2] 28 (0, 0)) xblk) : gb145 ≠ gb143)); have NB144_145 := aM ((by rw [hg]; exact Nat.ne_of_lt (blk_lt (g := gb144) (o := .cells #[.int .i64 a1_0, .int .i64 a1_1, .int .i64 a1_2, .int .i64 a1_3, .int .i64 a1_4, .int .i64 a1_5, .int .i64 a1_6, .int .i64 a1_7, .int .i64 a1_8, .string a1_9] 38 (0, 0)) xblk) : gb144 ≠ gb145)); have NB145_144 := aM ((by rw [hg]; exact Nat.ne_of_gt (blk_lt (g := gb144) (o := .cells #[.int .i64 a1_0, .int .i64 a1_1, .int .i64 a1_2, .int .i64 a1_3, .int .i64 a1_4, .int .i64 a1_5, .int .i64 a1_6, .int .i64 a1_7, .int .i64 a1_8, .string a1_9] 38 (0, 0)) xblk) : gb145 ≠ gb144)); replace BK143 := xbb BK143 hb; replace BK144 := xbb BK144 hb; have BK145 := aM (hbox); clear hb hbox hg; have hnb163 := NB143_144.out; have hnc163 := NB144_143.out; have hnb164 := NB143_145.out; have hnc164 := NB145_143.out; obtain ⟨hcz165_0, hcz165_1, hcz165_2, hfz165_0, hfz165_1, hfz165_2⟩ := xf3 (w := w162) BK143) | ((with_reducible refine gate_callee (f := 20) rfl ?_); refine goesL_ (some 9) rfl rfl Try.func20 (by kernel_rfl) rfl #[.agg #[.int .i64 a0_0, .int .i64 a0_1, .slice A0_2 l0_2.length c0_2]] rfl (by (try simp only [List.map_toArray, List.map_cons, List.map_nil]); first | done | rfl | (simp only [List.length_drop, List.length_take]; rfl)) ?_; (with_reducible refine (impl_HardOk.calls k a0_0 a0_1 _ _ l0_2 false _ ?side1 ?side2 A3.out).mono ?_); (case side1 => exact xcb HR0_2); (case side2 => exact HC0_2.out); rintro e w166 ⟨rfl, hb⟩; refine ⟨_, rfl, ?_⟩; replace BK143 := xbb BK143 hb; replace BK144 := xbb BK144 hb; replace BK145 := xbb BK145 hb; replace HB := xbs hb; (try clear hb); (try clear hb2); (try clear hk); (try clear hi); have hnb167 := NB145_144.out; have hnc167 := NB144_145.out; obtain ⟨hcz168_0, hcz168_1, hcz168_2, hfz168_0, hfz168_1, hfz168_2⟩ := xf3 (w := w166) BK145) | ((with_reducible refine gate_store (t := 28) (p := 4) rfl ?_); refine store_event (t := 28) (p := 4) (v := ?vo_w169) (w1 := (((w166.setCell ⟨gb145, 0, none⟩ (.int .i64 0)).setCell ⟨gb145, 1, none⟩ (.int .i64 0)).setCell ⟨gb145, 2, none⟩ (.slice none 0 0))) ?hg ?ho ?hn ?hr ?_; (case ho | hg | hn => rfl); (case hr => first | (go_simp; done) | (go_simp; rfl)); intro w169 hw; replace BK143 : Aside0 (w169.heap[gb143]? = some (.cells #[.int .i64 a0_0, .int .i64 a0_1, .slice A0_2 l0_2.length c0_2] 28 (0, 0))) := ⟨(by rw [hw]; exact (by (with_reducible repeat (first | refine blk_drewN ?_ _ | refine blk_drew ?_ | refine blk_alloc ?_ _)); refine blk_far ?_ NB143_145.out _; (with_reducible repeat (first | refine blk_drewN ?_ _ | refine blk_drew ?_ | refine blk_alloc ?_ _)); refine blk_far ?_ NB143_145.out _; (with_reducible repeat (first | refine blk_drewN ?_ _ | refine blk_drew ?_ | refine blk_alloc ?_ _)); refine blk_far ?_ NB143_145.out _; (with_reducible repeat (first | refine blk_drewN ?_ _ | refine blk_drew ?_ | refine blk_alloc ?_ _)); exact BK143.out))⟩; replace BK144 : Aside0 (w169.heap[gb144]? = some (.cells #[.int .i64 a1_0, .int .i64 a1_1, .int .i64 a1_2, .int .i64 a1_3, .int .i64 a1_4, .int .i64 a1_5, .int .i64 a1_6, .int .i64 a1_7, .int .i64 a1_8, .string a1_9] 38 (0, 0))) := ⟨(by rw [hw]; exact (by (with_reducible repeat (first | refine blk_drewN ?_ _ | refine blk_drew ?_ | refine blk_alloc ?_ _)); refine blk_far ?_ NB144_145.out _; (with_reducible repeat (first | refine blk_drewN ?_ _ | refine blk_drew ?_ | refine blk_alloc ?_ _)); refine blk_far ?_ NB144_145.out _; (with_reducible repeat (first | refine blk_drewN ?_ _ | refine blk_drew ?_ | refine blk_alloc ?_ _)); refine blk_far ?_ NB144_145.out _; (with_reducible repeat (first | refine blk_drewN ?_ _ | refine blk_drew ?_ | refine blk_alloc ?_ _)); exact BK144.out))⟩; replace BK145 : Aside0 (w169.heap[gb145]? = some (.cells #[.int .i64 0, .int .i64 0, .slice none 0 0] 28 (0, 0))) := ⟨(by rw [hw]; exact (by (with_reducible repeat (first | refine blk_drewN ?_ _ | refine blk_drew ?_ | refine blk_alloc ?_ _)); refine blk_put (cs := #[.int .i64 0, .int .i64 0, .slice none 0 0]) ?_ 2 _ rfl; (with_reducible repeat (first | refine blk_drewN ?_ _ | refine blk_drew ?_ | refine blk_alloc ?_ _)); refine blk_put (cs := #[.int .i64 0, .int .i64 0, .slice none 0 0]) ?_ 1 _ rfl; (with_reducible repeat (first | refine blk_drewN ?_ _ | refine blk_drew ?_ | refine blk_alloc ?_ _)); refine blk_put (cs := #[.int .i64 0, .int .i64 0, .slice none 0 0]) ?_ 0 _ rfl; (with_reducible repeat (first | refine blk_drewN ?_ _ | refine blk_drew ?_ | refine blk_alloc ?_ _)); exact BK145.out))⟩; replace HB : Aside0 (Below w.heap.size w w169) := ⟨(by rw [hw]; exact xbg)⟩; clear hw))
  refine bodyPost_ret (results_ct rfl _ _ gb145 28 #[.int .i64 0, .int .i64 0, .slice none 0 0] (0, 0) _ rfl xblk Try.underlying28 rfl (by kernel_rfl)) rfl ?_
  exact ⟨_, by first | rfl | (simp [errW_none, errW_some] <;> rfl) | (simp [*, errW_none, errW_some] <;> rfl), by first | exact Kd.R_nil _ _ _ _ _ | exact Kd.N_nil _ _ _ _ _ | exact Kd.V_nil _ _ _ _ _ | exact Kd.Q_nil _ _ _ _ _ | exact Kd.S_nil _ _ _ _ _, xbg⟩

end Go.Proofs.Ytnjpfllmcmomoaa.QFnExactHardOf
