-- A walk, by a program of this session.
import Derived.Test.YtppfnnpfamkclaaGreatQFnSavedx0
import Derived.Test.YtppfnnpfamkclaaGreatQFnSavedx3
import Derived.Test.YtppfnnpfamkclaaGreatQFnSavedx12
import Derived.Test.YtppfnnpfamkclaaGreatQFnSavedx17
import Derived.Test.YtppfnnpfamkclaaGreatQFnSavedx18
namespace Go.Proofs.YtppfnnpfamkclaaGreat.QFnSaved
open Go.RowKit Go.Proofs.YtppfnnpfamkclaaGreatW.PrintWords Go.Proofs.YtppfnnpfamkclaaGreatW.PrintLast Go.Proofs.YtppfnnpfamkclaaGreatW.PrintMore
attribute [local go_sem] max2_int min2_int max_two min_two max_three min_three max_four min_four   -- for this text's walks alone
set_option maxHeartbeats 8000000
set_option maxRecDepth 100000
set_option linter.unusedVariables false
set_option linter.unusedSimpArgs false
theorem u19_2 {p : Prop} (h : p := by first | rfl | (simp; done) | (simp [*]; done)) : p := h
theorem u19_3 {p : Prop} (h : p := by repeat (first | exact Drawn0.refl _ | apply Drawn0.step)) : p := h
def impl_within.f (a0 : Int) (a1 : Int) (a2 : Int) : Option (Bool) := if a0 ≥ a1 then (some (decide (a0 ≤ a2))) else (some false)
theorem impl_within.calls {a0 a1 a2 : Int} {r : Bool} {w : World} (h : impl_within.f a0 a1 a2 = some r) :
 Calls Tryz.prog 53 #[.int .i64 a0, .int .i64 a1, .int .i64 a2] w fun e w' => e = .returned (.bool r) ∧ Drawn0 w w' := by
 have H := h; unfold impl_within.f at H
 clear h
 replace H := dI_ H; obtain ⟨hB, H⟩ | ⟨hB, H⟩ := H
 ·obtain rfl := Option.some.inj H; go_enter Tryz.func53, Tryz.ntmps53
  go_wp2; go_ret
  exact ⟨u19_2, u19_3⟩
 obtain rfl := Option.some.inj H; go_enter Tryz.func53, Tryz.ntmps53
 go_wp2; go_ret
 exact ⟨u19_2, u19_3⟩
def impl_isWhole.f (a0 : Int) : Option (Bool) := (impl_within.f a0 0 1000000000).bind fun dK => (some dK)
theorem impl_isWhole.calls {a0 : Int} {r : Bool} {w : World} (h : impl_isWhole.f a0 = some r) :
 Calls Tryz.prog 83 #[.int .i64 a0] w fun e w' => e = .returned (.bool r) ∧ Drawn0 w w' := by
 have H := h; unfold impl_isWhole.f at H
 clear h
 replace H := oB H; obtain ⟨dK, cF, H⟩ := H; (try dsimp only at H); have A2 := aM cF
 clear cF
 obtain rfl := Option.some.inj H
 go_enter Tryz.func83, Tryz.ntmps83
 go_wp2_with (first | (refine gN_ 53 4 rfl rfl ?_; refine c0_ Tryz.func53 (impl_within.calls A2.out) ?_; rintro w' ⟨nd, rfl⟩))
 go_ret
 exact ⟨u19_2, u19_3⟩
def impl_isRelease.f (a0 : Int) : Option (Bool) := (impl_within.f a0 1 1000).bind fun dL => (some dL)
theorem impl_isRelease.calls {a0 : Int} {r : Bool} {w : World} (h : impl_isRelease.f a0 = some r) :
 Calls Tryz.prog 101 #[.int .i64 a0] w fun e w' => e = .returned (.bool r) ∧ Drawn0 w w' := by
 have H := h; unfold impl_isRelease.f at H
 clear h
 replace H := oB H; obtain ⟨dL, cF, H⟩ := H; (try dsimp only at H); have A2 := aM cF
 clear cF
 obtain rfl := Option.some.inj H
 go_enter Tryz.func101, Tryz.ntmps101
 go_wp2_with (first | (refine gN_ 53 4 rfl rfl ?_; refine c0_ Tryz.func53 (impl_within.calls A2.out) ?_; rintro w' ⟨nd, rfl⟩))
 go_ret
 exact ⟨u19_2, u19_3⟩
def impl_isSize.f (a0 : Int) : Option (Bool) := (impl_within.f a0 0 1000).bind fun dM => (some dM)
theorem impl_isSize.calls {a0 : Int} {r : Bool} {w : World} (h : impl_isSize.f a0 = some r) :
 Calls Tryz.prog 102 #[.int .i64 a0] w fun e w' => e = .returned (.bool r) ∧ Drawn0 w w' := by
 have H := h; unfold impl_isSize.f at H
 clear h
 replace H := oB H; obtain ⟨dM, cF, H⟩ := H; (try dsimp only at H); have A2 := aM cF
 clear cF
 obtain rfl := Option.some.inj H
 go_enter Tryz.func102, Tryz.ntmps102
 go_wp2_with (first | (refine gN_ 53 4 rfl rfl ?_; refine c0_ Tryz.func53 (impl_within.calls A2.out) ?_; rintro w' ⟨nd, rfl⟩))
 go_ret
 exact ⟨u19_2, u19_3⟩
def impl_isNode.f (a0 : Int) : Option (Bool) := (impl_within.f a0 0 4).bind fun dN => (some dN)
theorem impl_isNode.calls {a0 : Int} {r : Bool} {w : World} (h : impl_isNode.f a0 = some r) :
 Calls Tryz.prog 103 #[.int .i64 a0] w fun e w' => e = .returned (.bool r) ∧ Drawn0 w w' := by
 have H := h; unfold impl_isNode.f at H
 clear h
 replace H := oB H; obtain ⟨dN, cF, H⟩ := H; (try dsimp only at H); have A2 := aM cF
 clear cF
 obtain rfl := Option.some.inj H
 go_enter Tryz.func103, Tryz.ntmps103
 go_wp2_with (first | (refine gN_ 53 4 rfl rfl ?_; refine c0_ Tryz.func53 (impl_within.calls A2.out) ?_; rintro w' ⟨nd, rfl⟩))
 go_ret
 exact ⟨u19_2, u19_3⟩
end Go.Proofs.YtppfnnpfamkclaaGreat.QFnSaved
