/- The row of the law FnExactHardOk: out of its pure statement and its walk; no condition. -/
import Derived.Test.YtpdhfphglahkbaaRows
import Derived.Test.YtpdhfphglahkbaaQFnExactHardOkx8
import Derived.Test.YtpdhfphglahkbaaPureFnExactHardOk
import Derived.Test.YtpdhfphglahkbaaXOpen
import Derived.WalkKit
import Derived.ProofKit
import Derived.OpenShut
import Derived.ShutString
import Derived.ChangeOld
import Derived.Below
import Derived.SizedLaws
namespace Go.Proofs.Ytpdhfphglahkbaa.fnExactHardOk
open Go.ChangeShapes Go.WideShapes Go.ChangeAt Go.RowKit
open Go.ChangeMaps (open_string shut_string)
open Go.Proofs.YtpdhfphglahkbaaX Go.Proofs.Ytpdhfphglahkbaa.QFnExactHardOk Go.Proofs.YtpdhfphglahkbaaW.PrintWords
set_option linter.unusedVariables false
set_option linter.unusedSimpArgs false
theorem own : ownKnob Try.prog.godebug = none := by kernel_rfl
theorem laidOut : laidOutB Try.prog = true := by kernel_rfl
set_option maxRecDepth 100000 in
theorem opens53 : Opens Try.prog 53 k53 Q53 := by
  refine ⟨by kernel_rfl, fun enc W fuel cs x h hw => ?_⟩
  obtain ⟨xs, n, _, hx, hl, hlen, hg⟩ := DataW.trod_struct Try.underlying53 h
  have hl : cs.length = 5 := hl.trans (by kernel_rfl)
  match xs, hlen with
  | [y0, y1, y2, y3, y4], _ =>
    subst hx
    have g0 : DataW.trod enc Try.prog W 0 (fun _ => true) true n 3 ((cs.drop 0).take 1) = some y0 := hg 0 _ rfl
    have g1 : DataW.trod enc Try.prog W 0 (fun _ => true) true n 3 ((cs.drop 1).take 1) = some y1 := hg 1 _ rfl
    have g2 : DataW.trod enc Try.prog W 0 (fun _ => true) true n 3 ((cs.drop 2).take 1) = some y2 := hg 2 _ rfl
    have g3 : DataW.trod enc Try.prog W 0 (fun _ => true) true n 3 ((cs.drop 3).take 1) = some y3 := hg 3 _ rfl
    have g4 : DataW.trod enc Try.prog W 0 (fun _ => true) true n 9 ((cs.drop 4).take 1) = some y4 := hg 4 _ rfl
    obtain ⟨a0, k0_, q0⟩ := ((opens_int Try.underlying3 (by kernel_rfl))).2 enc W n _ _ g0 (fun z hz => hw z (by simp only [DataW.weights, Try.underlying53, List.map_cons, List.map_nil]; exact DataW.weights_mem_each (j := 0) rfl rfl z hz))
    obtain ⟨a1, k1_, q1⟩ := ((opens_int Try.underlying3 (by kernel_rfl))).2 enc W n _ _ g1 (fun z hz => hw z (by simp only [DataW.weights, Try.underlying53, List.map_cons, List.map_nil]; exact DataW.weights_mem_each (j := 1) rfl rfl z hz))
    obtain ⟨a2, k2_, q2⟩ := ((opens_int Try.underlying3 (by kernel_rfl))).2 enc W n _ _ g2 (fun z hz => hw z (by simp only [DataW.weights, Try.underlying53, List.map_cons, List.map_nil]; exact DataW.weights_mem_each (j := 2) rfl rfl z hz))
    obtain ⟨a3, k3_, q3⟩ := ((opens_int Try.underlying3 (by kernel_rfl))).2 enc W n _ _ g3 (fun z hz => hw z (by simp only [DataW.weights, Try.underlying53, List.map_cons, List.map_nil]; exact DataW.weights_mem_each (j := 3) rfl rfl z hz))
    obtain ⟨a4, k4_, q4⟩ := ((opens_string Try.underlying9 (by kernel_rfl))).2 enc W n _ _ g4 (fun z hz => hw z (by simp only [DataW.weights, Try.underlying53, List.map_cons, List.map_nil]; exact DataW.weights_mem_each (j := 4) rfl rfl z hz))
    have hk : k53.K W ⟨a0, a1, a2, a3, a4⟩ (cs.drop 0) := ⟨_, _, cut_ cs 0 1, k0_, ⟨_, _, cut_ cs 1 1, k1_, ⟨_, _, cut_ cs 2 1, k2_, ⟨_, _, cut_ cs 3 1, k3_, (by rw [← last_ cs 4 1 (by omega)]; exact k4_)⟩⟩⟩⟩
    rw [List.drop_zero] at hk
    exact ⟨_, hk, ⟨q0, q1, q2, q3, q4⟩⟩
set_option maxRecDepth 100000 in
theorem opens145 : Opens Try.prog 145 k145 Q145 := by
  refine ⟨by kernel_rfl, fun enc W fuel cs x h hw => ?_⟩
  obtain ⟨xs, n, _, hx, hl, hlen, hg⟩ := DataW.trod_struct Try.underlying145 h
  have hl : cs.length = 6 := hl.trans (by kernel_rfl)
  match xs, hlen with
  | [y0, y1], _ =>
    subst hx
    have g0 : DataW.trod enc Try.prog W 0 (fun _ => true) true n 3 ((cs.drop 0).take 1) = some y0 := hg 0 _ rfl
    have g1 : DataW.trod enc Try.prog W 0 (fun _ => true) true n 53 ((cs.drop 1).take 5) = some y1 := hg 1 _ rfl
    obtain ⟨a0, k0_, q0⟩ := ((opens_int Try.underlying3 (by kernel_rfl))).2 enc W n _ _ g0 (fun z hz => hw z (by simp only [DataW.weights, Try.underlying145, List.map_cons, List.map_nil]; exact DataW.weights_mem_each (j := 0) rfl rfl z hz))
    obtain ⟨a1, k1_, q1⟩ := (opens53).2 enc W n _ _ g1 (fun z hz => hw z (by simp only [DataW.weights, Try.underlying145, List.map_cons, List.map_nil]; exact DataW.weights_mem_each (j := 1) rfl rfl z hz))
    have hk : k145.K W ⟨a0, a1⟩ (cs.drop 0) := ⟨_, _, cut_ cs 0 1, k0_, (by rw [← last_ cs 1 5 (by omega)]; exact k1_)⟩
    rw [List.drop_zero] at hk
    exact ⟨_, hk, ⟨q0, q1⟩⟩
set_option maxRecDepth 100000 in
theorem opens74 : Opens Try.prog 74 k74 Q74 := by
  refine ⟨by kernel_rfl, fun enc W fuel cs x h hw => ?_⟩
  obtain ⟨xs, n, _, hx, hl, hlen, hg⟩ := DataW.trod_struct Try.underlying74 h
  have hl : cs.length = 3 := hl.trans (by kernel_rfl)
  match xs, hlen with
  | [y0, y1, y2], _ =>
    subst hx
    have g0 : DataW.trod enc Try.prog W 0 (fun _ => true) true n 3 ((cs.drop 0).take 1) = some y0 := hg 0 _ rfl
    have g1 : DataW.trod enc Try.prog W 0 (fun _ => true) true n 3 ((cs.drop 1).take 1) = some y1 := hg 1 _ rfl
    have g2 : DataW.trod enc Try.prog W 0 (fun _ => true) true n 72 ((cs.drop 2).take 1) = some y2 := hg 2 _ rfl
    obtain ⟨a0, k0_, q0⟩ := ((opens_int Try.underlying3 (by kernel_rfl))).2 enc W n _ _ g0 (fun z hz => hw z (by simp only [DataW.weights, Try.underlying74, List.map_cons, List.map_nil]; exact DataW.weights_mem_each (j := 0) rfl rfl z hz))
    obtain ⟨a1, k1_, q1⟩ := ((opens_int Try.underlying3 (by kernel_rfl))).2 enc W n _ _ g1 (fun z hz => hw z (by simp only [DataW.weights, Try.underlying74, List.map_cons, List.map_nil]; exact DataW.weights_mem_each (j := 1) rfl rfl z hz))
    obtain ⟨a2, k2_, q2⟩ := ((opens_slice Try.underlying72 (by kernel_rfl) opens145 (by decide) (by kernel_rfl : _ = 56))).2 enc W n _ _ g2 (fun z hz => hw z (by simp only [DataW.weights, Try.underlying74, List.map_cons, List.map_nil]; exact DataW.weights_mem_each (j := 2) rfl rfl z hz))
    have hk : k74.K W ⟨a0, a1, a2⟩ (cs.drop 0) := ⟨_, _, cut_ cs 0 1, k0_, ⟨_, _, cut_ cs 1 1, k1_, (by rw [← last_ cs 2 1 (by omega)]; exact k2_)⟩⟩
    rw [List.drop_zero] at hk
    exact ⟨_, hk, ⟨q0, q1, q2⟩⟩
set_option maxRecDepth 100000 in
theorem lifted (os : Os) (started : os.Started) (H : Type) (enc : TypeId × Value → H) :
    ReturnsInHanded {} Try.checked os 13 .any (Rows.fnExactHardOkSpec.pre6 enc Try.prog Try.f13 Rows.fnExactHardOkRow.domain false) (Rows.fnExactHardOkSpec.post enc Try.prog Try.f13 false true false false) := by
  refine returnsInHanded_of_change_sized (C := Try.checked) own started (by kernel_rfl) Try.func13
    (ChangeSpec.witness6 (enc := enc) (C := Try.checked) false ⟨#[], #[.agg #[.int .i64 0, .int .i64 0, .slice none 0 0]], []⟩ 8 (by kernel_rfl) (by kernel_rfl) (by kernel_rfl) (by kernel_rfl)) ?_
  intro W base args ds gs before hval0 hW hcnd hsz0 _
  have hsz : (DataW.weightsEach Try.prog (Try.f13.params.toList ++ Rows.fnExactHardOkSpec.plain.varTypes Try.prog) (ds ++ gs)).all (· ≤ reachBytes) = true := hsz0
  have hval : ∀ (j : Nat) t v, Try.f13.params[j]? = some t → args[j]? = some v → Value.okWide Try.prog W .any base t v := hval0
  have hW' := hW
  obtain ⟨p, q, hA0, hV, rfl, hfz, hnd⟩ := hW
  have hA : DataW.TrodAll enc Try.prog W 0 (fun _ => true) true Try.f13.params.toList args.toList ds p := hA0
  rw [Try.params13] at hA hval hsz
  obtain ⟨v0, vs0, d0, ds0, p0, q0, hargs, rfl, rfl, h0, r0⟩ := trodAll_cons hA
  obtain ⟨rfl, rfl, rfl⟩ := trodAll_nil r0
  obtain rfl : args = #[v0] := by cases args; simp_all
  obtain ⟨rfl, rfl⟩ := trodVars_none hV
  have k0 := h0
  have lt0 : ∀ x ∈ p0, x.block < W.heap.size := by obtain ⟨m, hm⟩ := k0; exact DataW.trod_lt m _ _ _ hm
  obtain ⟨vc0, rfl, hvs0⟩ := okWide_struct Try.underlying74 (hval 0 74 v0 rfl rfl)
  obtain ⟨vc0⟩ := vc0
  obtain ⟨x0, hk0, hq0⟩ : ∃ x, k74.K W x vc0 ∧ Q74 x := by
    obtain ⟨fuel, hf⟩ := h0
    exact (opens74).2 enc W fuel _ _ hf (fun z hz => by simpa using List.all_eq_true.1 hsz z (DataW.weights_mem_each (j := 0) (t := 74) rfl rfl z hz))
  obtain ⟨A0_2, c0_2, rfl, hc0_2, hr0_2⟩ := k74_open hk0
  clear hA0 hval0 hsz0 hsz
  refine (QFnExactHardOk.laws_FnExactHardOk.walk Pure.FnExactHardOk x0.f0 x0.f1 _ _ x0.f2 W hq0.1 hq0.2.1 hr0_2 hc0_2 hq0.2.2.1 hq0.2.2.2.1 hq0.2.2.2.2).mono fun e W' ⟨he, bel⟩ => ?_
  subst he
  exact ⟨_, rfl, _, _, _, [], _, [], hW', trodAll_mk1 (shut_bool Try.underlying4 _), (trodAll_cons_mk (Below.trod laidOut (by kernel_rfl) (of_decide_eq_true (by kernel_rfl)) k0 bel lt0) trodAll_mk0), rfl, bel.frame _, fun h => by cases h⟩
theorem over : Rows.fnExactHardOkRow.holds Try.pinned (OpenSpec.ofChange Rows.fnExactHardOkSpec) :=
  OpenClaim.holds_of_wide 13 Try.f13 rfl rfl rfl rfl rfl rfl rfl ⟨rfl, rfl, rfl, rfl, rfl⟩ rfl rfl rfl rfl rfl (by kernel_rfl) Try.func13 (by kernel_rfl)
    (of_decide_eq_true (by kernel_rfl)) (by unfold Func.isWrapper; first | (rw [if_pos (by decide +kernel)]; kernel_rfl) | (rw [if_neg (by decide +kernel)]; exact ⟨rfl, rfl⟩))
    (fun os started H enc _ => lifted os started H enc)
theorem proved : Rows.FnExactHardOkSaid := over
#print axioms proved
end Go.Proofs.Ytpdhfphglahkbaa.fnExactHardOk
namespace Go.Proofs.Ytpdhfphglahkbaa
/-- The row, under a short name, for the claim. -/
theorem fnExactHardOk_holds : Rows.FnExactHardOkSaid := fnExactHardOk.proved
end Go.Proofs.Ytpdhfphglahkbaa
