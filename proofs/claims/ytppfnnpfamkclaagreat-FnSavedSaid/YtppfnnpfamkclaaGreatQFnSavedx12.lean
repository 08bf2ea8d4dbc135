-- A walk, by a program of this session.
import Derived.Test.YtppfnnpfamkclaaGreatQFnSavedx0
import Derived.Test.YtppfnnpfamkclaaGreatQFnSavedx3
import Derived.Test.YtppfnnpfamkclaaGreatQFnSavedx5
import Derived.Test.YtppfnnpfamkclaaGreatQFnSavedx6
import Derived.Test.YtppfnnpfamkclaaGreatQFnSavedx7
import Derived.Test.YtppfnnpfamkclaaGreatQFnSavedx9
import Derived.Test.YtppfnnpfamkclaaGreatQFnSavedx11
namespace Go.Proofs.YtppfnnpfamkclaaGreat.QFnSaved
open Go.RowKit Go.Proofs.YtppfnnpfamkclaaGreatW.PrintWords Go.Proofs.YtppfnnpfamkclaaGreatW.PrintLast Go.Proofs.YtppfnnpfamkclaaGreatW.PrintMore
attribute [local go_sem] max2_int min2_int max_two min_two max_three min_three max_four min_four   -- for this text's walks alone
set_option maxHeartbeats 8000000
set_option maxRecDepth 100000
set_option linter.unusedVariables false
set_option linter.unusedSimpArgs false
theorem u12_0 {p : Prop} (h : p := by first | rfl | (simp; done) | (simp [*]; done)) : p := h
def spec_l1Whole.f (a0 : Int) : Option (Bool) := (spec_l1In.f a0 0 1000000000).bind fun dI => (some dI)
theorem spec_l1Whole.calls {a0 : Int} {r : Bool} {w : World} (h : spec_l1Whole.f a0 = some r) :
 Calls Tryz.prog 87 #[.int .i64 a0] w fun e w' => e = .returned (.bool r) ∧ Drawn0 w w' := by
 have H := h; unfold spec_l1Whole.f at H
 clear h
 replace H := oB H; obtain ⟨dI, fJ, H⟩ := H; (try dsimp only at H); have A2 := aM fJ
 clear fJ
 obtain rfl := Option.some.inj H
 go_enter Tryz.func87, Tryz.ntmps87
 go_wp2_with (first | (refine gN_ 88 4 rfl rfl ?_; refine c0_ Tryz.func88 (spec_l1In.calls A2.out) ?_; rintro w' ⟨nd, rfl⟩))
 go_ret
 exact ⟨u12_0, by repeat (first | exact Drawn0.refl _ | apply Drawn0.step)⟩
end Go.Proofs.YtppfnnpfamkclaaGreat.QFnSaved
