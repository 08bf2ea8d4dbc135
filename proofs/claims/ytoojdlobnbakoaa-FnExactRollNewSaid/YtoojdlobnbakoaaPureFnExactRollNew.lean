/- RollNew of the program and of the reference give the same roll for every count, in memory of its own; no condition. -/
import Derived.Test.YtoojdlobnbakoaaQFnExactRollNewx2
namespace Go.Proofs.Ytoojdlobnbakoaa.Pure
open Go.RowKit Go.Proofs.Ytoojdlobnbakoaa.QFnExactRollNew Go.Proofs.YtoojdlobnbakoaaW.PrintWords Go.Proofs.YtoojdlobnbakoaaW.PrintLast
set_option linter.unusedVariables false
set_option linter.unusedSimpArgs false

theorem FnExactRollNew : laws_FnExactRollNew.Pure := by
  intro a _
  obtain ⟨r, h1, h2⟩ : ∃ r : Int, spec_RollNew.f a = some (r, [], 0, []) ∧ impl_RollNew.f a = some (r, [], 0, []) := by
    unfold spec_RollNew.f impl_RollNew.f spec_l7Of.f impl_isOf.f
    by_cases c1 : a = 1
    · exact ⟨a, by simp [c1], by simp [c1]⟩
    by_cases c2 : a = 3
    · exact ⟨a, by simp [c2], by simp [c2]⟩
    by_cases c3 : a = 5
    · exact ⟨a, by simp [c3], by simp [c3]⟩
    exact ⟨0, by simp [c1, c2, c3], by simp [c1, c2, c3]⟩
  have e1 : laws_eqRoll.f 3 r [] 0 [] r [] 0 [] = some true := by
    simp [laws_eqRoll.f, laws_eqRelS.f, laws_eqRelS.l0, laws_eqIntS.f, laws_eqIntS.l0]
  have e2 : laws_markRoll.f 3 r [] 0 [] 1 = some (1, []) := by
    simp [laws_markRoll.f, laws_markRelS.f, laws_markIntS.f, laws_markIntS.l0]
  have e3 : laws_heldRoll.f 3 r [] 0 [] 1 = some 1 := by
    simp [laws_heldRoll.f, laws_heldRelS.f, laws_heldIntS.f, laws_heldIntS.l0]
  refine ⟨3, ?_⟩
  unfold laws_FnExactRollNew.f
  simp [h1, h2, e1, e2, e3]

end Go.Proofs.Ytoojdlobnbakoaa.Pure
