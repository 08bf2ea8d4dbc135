-- A walk, by a program of this session.
import Derived.Test.YtocpomkfilpflaaQFnRecx0
namespace Go.Proofs.Ytocpomkfilpflaa.QFnRec
open Go.RowKit Go.Proofs.YtocpomkfilpflaaW.PrintWords Go.Proofs.YtocpomkfilpflaaW.PrintLast Go.Proofs.YtocpomkfilpflaaW.PrintMore
attribute [local go_sem] max2_int min2_int max_two min_two max_three min_three max_four min_four   -- for this text's walks alone
set_option linter.unusedVariables false
set_option linter.unusedSimpArgs false

theorem u17_1 {p : Prop} (h : p := by first | rfl | (simp; done) | (simp [*]; done)) : p := h
theorem u17_6 {p : Prop} (h : p := by repeat (first | exact Drawn0.refl _ | apply Drawn0.step)) : p := h
/-! ### impl_within: function 35 -/
def impl_within.f (a0 : Int) (a1 : Int) (a2 : Int) : Option (Bool) := if a0 ≥ a1 then (some (decide (a0 ≤ a2))) else (some false)
set_option maxHeartbeats 8000000 in
set_option maxRecDepth 100000 in
theorem impl_within.calls (a0 : Int) (a1 : Int) (a2 : Int) (r : Bool) (w : World) (h : impl_within.f a0 a1 a2 = some r) :
 Calls Try.prog 35 #[.int .i64 a0, .int .i64 a1, .int .i64 a2] w fun e w' => e = .returned (.bool r) ∧ Drawn0 w w' := by
 have H : (if a0 ≥ a1 then (some (decide (a0 ≤ a2))) else (some false)) = some r := h
 clear h
 by_cases c4 : a0 ≥ a1
 ·rw [if_pos c4] at H; have kB : decide (a1 ≤ a0) = true := decide_eq_true c4; clear c4; obtain rfl := Option.some.inj H; go_enter Try.func35, Try.ntmps35
  go_wp2; go_ret
  exact ⟨u17_1, u17_6⟩
 ·rw [if_neg c4] at H; have kB : decide (a1 ≤ a0) = false := decide_eq_false c4; clear c4; obtain rfl := Option.some.inj H; go_enter Try.func35, Try.ntmps35
  go_wp2; go_ret
  exact ⟨u17_1, u17_6⟩

/-! ### impl_isWhole: function 38 -/
def impl_isWhole.f (a0 : Int) : Option (Bool) := (impl_within.f a0 0 1000000000).bind fun dP => (some dP)
set_option maxHeartbeats 8000000 in
set_option maxRecDepth 100000 in
theorem impl_isWhole.calls (a0 : Int) (r : Bool) (w : World) (h : impl_isWhole.f a0 = some r) :
 Calls Try.prog 38 #[.int .i64 a0] w fun e w' => e = .returned (.bool r) ∧ Drawn0 w w' := by
 have H : ((impl_within.f a0 0 1000000000).bind fun dP => (some dP)) = some r := h
 clear h
 replace H := oB H
 obtain ⟨dP, dI, H⟩ := H
 (try dsimp only at H)
 have A2 := aM dI
 clear dI
 obtain rfl := Option.some.inj H
 go_enter Try.func38, Try.ntmps38
 go_wp2_with (first | ((with_reducible refine gC 35 rfl ?_); refine goesLY (some 4) rfl Try.func35 #[.int .i64 a0, .int .i64 0, .int .i64 1000000000] ?_; (with_reducible refine (impl_within.calls a0 0 1000000000 dP _ A2.out).mono ?_); rintro e w' ⟨rfl, ⟨nd, rfl⟩⟩; refine ⟨_, rfl, ?_⟩))
 go_ret
 exact ⟨u17_1, u17_6⟩

/-! ### impl_isRelease: function 68 -/
def impl_isRelease.f (a0 : Int) : Option (Bool) := (impl_within.f a0 1 1000).bind fun dQ => (some dQ)
set_option maxHeartbeats 8000000 in
set_option maxRecDepth 100000 in
theorem impl_isRelease.calls (a0 : Int) (r : Bool) (w : World) (h : impl_isRelease.f a0 = some r) :
 Calls Try.prog 68 #[.int .i64 a0] w fun e w' => e = .returned (.bool r) ∧ Drawn0 w w' := by
 have H : ((impl_within.f a0 1 1000).bind fun dQ => (some dQ)) = some r := h
 clear h
 replace H := oB H
 obtain ⟨dQ, dI, H⟩ := H
 (try dsimp only at H)
 have A2 := aM dI
 clear dI
 obtain rfl := Option.some.inj H
 go_enter Try.func68, Try.ntmps68
 go_wp2_with (first | ((with_reducible refine gC 35 rfl ?_); refine goesLY (some 4) rfl Try.func35 #[.int .i64 a0, .int .i64 1, .int .i64 1000] ?_; (with_reducible refine (impl_within.calls a0 1 1000 dQ _ A2.out).mono ?_); rintro e w' ⟨rfl, ⟨nd, rfl⟩⟩; refine ⟨_, rfl, ?_⟩))
 go_ret
 exact ⟨u17_1, u17_6⟩

/-! ### impl_isSize: function 69 -/
def impl_isSize.f (a0 : Int) : Option (Bool) := (impl_within.f a0 0 1000).bind fun dR => (some dR)
set_option maxHeartbeats 8000000 in
set_option maxRecDepth 100000 in
theorem impl_isSize.calls (a0 : Int) (r : Bool) (w : World) (h : impl_isSize.f a0 = some r) :
 Calls Try.prog 69 #[.int .i64 a0] w fun e w' => e = .returned (.bool r) ∧ Drawn0 w w' := by
 have H : ((impl_within.f a0 0 1000).bind fun dR => (some dR)) = some r := h
 clear h
 replace H := oB H
 obtain ⟨dR, dI, H⟩ := H
 (try dsimp only at H)
 have A2 := aM dI
 clear dI
 obtain rfl := Option.some.inj H
 go_enter Try.func69, Try.ntmps69
 go_wp2_with (first | ((with_reducible refine gC 35 rfl ?_); refine goesLY (some 4) rfl Try.func35 #[.int .i64 a0, .int .i64 0, .int .i64 1000] ?_; (with_reducible refine (impl_within.calls a0 0 1000 dR _ A2.out).mono ?_); rintro e w' ⟨rfl, ⟨nd, rfl⟩⟩; refine ⟨_, rfl, ?_⟩))
 go_ret
 exact ⟨u17_1, u17_6⟩

/-! ### impl_isNode: function 70 -/
def impl_isNode.f (a0 : Int) : Option (Bool) := (impl_within.f a0 0 4).bind fun dS => (some dS)
set_option maxHeartbeats 8000000 in
set_option maxRecDepth 100000 in
theorem impl_isNode.calls (a0 : Int) (r : Bool) (w : World) (h : impl_isNode.f a0 = some r) :
 Calls Try.prog 70 #[.int .i64 a0] w fun e w' => e = .returned (.bool r) ∧ Drawn0 w w' := by
 have H : ((impl_within.f a0 0 4).bind fun dS => (some dS)) = some r := h
 clear h
 replace H := oB H
 obtain ⟨dS, dI, H⟩ := H
 (try dsimp only at H)
 have A2 := aM dI
 clear dI
 obtain rfl := Option.some.inj H
 go_enter Try.func70, Try.ntmps70
 go_wp2_with (first | ((with_reducible refine gC 35 rfl ?_); refine goesLY (some 4) rfl Try.func35 #[.int .i64 a0, .int .i64 0, .int .i64 4] ?_; (with_reducible refine (impl_within.calls a0 0 4 dS _ A2.out).mono ?_); rintro e w' ⟨rfl, ⟨nd, rfl⟩⟩; refine ⟨_, rfl, ?_⟩))
 go_ret
 exact ⟨u17_1, u17_6⟩

end Go.Proofs.Ytocpomkfilpflaa.QFnRec
