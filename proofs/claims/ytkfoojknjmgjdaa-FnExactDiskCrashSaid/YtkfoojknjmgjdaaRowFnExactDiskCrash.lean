/- The row of the law FnExactDiskCrash: out of its pure statement and its walk; no condition. -/
import Derived.Test.YtkfoojknjmgjdaaRows
import Derived.Test.YtkfoojknjmgjdaaQFnExactDiskCrashx7
import Derived.Test.YtkfoojknjmgjdaaPureFnExactDiskCrash
import Derived.Test.YtkfoojknjmgjdaaXOpen
import Derived.WalkKit
import Derived.ProofKit
import Derived.OpenShut
import Derived.ShutString
import Derived.ChangeOld
import Derived.Below
import Derived.SizedLaws
namespace Go.Proofs.Ytkfoojknjmgjdaa.fnExactDiskCrash
open Go.ChangeShapes Go.WideShapes Go.ChangeAt Go.RowKit
open Go.ChangeMaps (open_string shut_string)
open Go.Proofs.YtkfoojknjmgjdaaX Go.Proofs.Ytkfoojknjmgjdaa.QFnExactDiskCrash Go.Proofs.YtkfoojknjmgjdaaW.PrintWords
set_option linter.unusedVariables false
set_option linter.unusedSimpArgs false
theorem own : ownKnob Try.prog.godebug = none := by kernel_rfl
theorem laidOut : laidOutB Try.prog = true := by kernel_rfl
set_option maxRecDepth 100000 in
theorem opens167 : Opens Try.prog 167 k167 Q167 := by
  refine ⟨by kernel_rfl, fun enc W fuel cs x h hw => ?_⟩
  obtain ⟨xs, n, _, hx, hl, hlen, hg⟩ := DataW.trod_struct Try.underlying167 h
  have hl : cs.length = 3 := hl.trans (by kernel_rfl)
  match xs, hlen with
  | [y0, y1, y2], _ =>
    subst hx
    have g0 : DataW.trod enc Try.prog W 0 (fun _ => true) true n 3 ((cs.drop 0).take 1) = some y0 := hg 0 _ rfl
    have g1 : DataW.trod enc Try.prog W 0 (fun _ => true) true n 9 ((cs.drop 1).take 1) = some y1 := hg 1 _ rfl
    have g2 : DataW.trod enc Try.prog W 0 (fun _ => true) true n 9 ((cs.drop 2).take 1) = some y2 := hg 2 _ rfl
    obtain ⟨a0, k0_, q0⟩ := ((opens_int Try.underlying3 (by kernel_rfl))).2 enc W n _ _ g0 (fun z hz => hw z (by simp only [DataW.weights, Try.underlying167, List.map_cons, List.map_nil]; exact DataW.weights_mem_each (j := 0) rfl rfl z hz))
    obtain ⟨a1, k1_, q1⟩ := ((opens_string Try.underlying9 (by kernel_rfl))).2 enc W n _ _ g1 (fun z hz => hw z (by simp only [DataW.weights, Try.underlying167, List.map_cons, List.map_nil]; exact DataW.weights_mem_each (j := 1) rfl rfl z hz))
    obtain ⟨a2, k2_, q2⟩ := ((opens_string Try.underlying9 (by kernel_rfl))).2 enc W n _ _ g2 (fun z hz => hw z (by simp only [DataW.weights, Try.underlying167, List.map_cons, List.map_nil]; exact DataW.weights_mem_each (j := 2) rfl rfl z hz))
    have hk : k167.K W ⟨a0, a1, a2⟩ (cs.drop 0) := ⟨_, _, cut_ cs 0 1, k0_, ⟨_, _, cut_ cs 1 1, k1_, (by rw [← last_ cs 2 1 (by omega)]; exact k2_)⟩⟩
    rw [List.drop_zero] at hk
    exact ⟨_, hk, ⟨q0, q1, q2⟩⟩
set_option maxRecDepth 100000 in
theorem opens59 : Opens Try.prog 59 k59 Q59 := by
  refine ⟨by kernel_rfl, fun enc W fuel cs x h hw => ?_⟩
  obtain ⟨xs, n, _, hx, hl, hlen, hg⟩ := DataW.trod_struct Try.underlying59 h
  have hl : cs.length = 2 := hl.trans (by kernel_rfl)
  match xs, hlen with
  | [y0, y1], _ =>
    subst hx
    have g0 : DataW.trod enc Try.prog W 0 (fun _ => true) true n 3 ((cs.drop 0).take 1) = some y0 := hg 0 _ rfl
    have g1 : DataW.trod enc Try.prog W 0 (fun _ => true) true n 57 ((cs.drop 1).take 1) = some y1 := hg 1 _ rfl
    obtain ⟨a0, k0_, q0⟩ := ((opens_int Try.underlying3 (by kernel_rfl))).2 enc W n _ _ g0 (fun z hz => hw z (by simp only [DataW.weights, Try.underlying59, List.map_cons, List.map_nil]; exact DataW.weights_mem_each (j := 0) rfl rfl z hz))
    obtain ⟨a1, k1_, q1⟩ := ((opens_slice Try.underlying57 (by kernel_rfl) opens167 (by decide) (by kernel_rfl : _ = 40))).2 enc W n _ _ g1 (fun z hz => hw z (by simp only [DataW.weights, Try.underlying59, List.map_cons, List.map_nil]; exact DataW.weights_mem_each (j := 1) rfl rfl z hz))
    have hk : k59.K W ⟨a0, a1⟩ (cs.drop 0) := ⟨_, _, cut_ cs 0 1, k0_, (by rw [← last_ cs 1 1 (by omega)]; exact k1_)⟩
    rw [List.drop_zero] at hk
    exact ⟨_, hk, ⟨q0, q1⟩⟩
set_option maxRecDepth 100000 in
theorem lifted (os : Os) (started : os.Started) (H : Type) (enc : TypeId × Value → H) :
    ReturnsInHanded {} Try.checked os 7 .any (Rows.fnExactDiskCrashSpec.pre6 enc Try.prog Try.f7 Rows.fnExactDiskCrashRow.domain false) (Rows.fnExactDiskCrashSpec.post enc Try.prog Try.f7 false true false false) := by
  refine returnsInHanded_of_change_sized (C := Try.checked) own started (by kernel_rfl) Try.func7
    (ChangeSpec.witness6 (enc := enc) (C := Try.checked) false ⟨#[], #[.agg #[.int .i64 0, .slice none 0 0], .slice none 0 0], []⟩ 8 (by kernel_rfl) (by kernel_rfl) (by kernel_rfl) (by kernel_rfl)) ?_
  intro W base args ds gs before hval0 hW hcnd hsz0 _
  have hsz : (DataW.weightsEach Try.prog (Try.f7.params.toList ++ Rows.fnExactDiskCrashSpec.plain.varTypes Try.prog) (ds ++ gs)).all (· ≤ reachBytes) = true := hsz0
  have hval : ∀ (j : Nat) t v, Try.f7.params[j]? = some t → args[j]? = some v → Value.okWide Try.prog W .any base t v := hval0
  have hW' := hW
  obtain ⟨p, q, hA0, hV, rfl, hfz, hnd⟩ := hW
  have hA : DataW.TrodAll enc Try.prog W 0 (fun _ => true) true Try.f7.params.toList args.toList ds p := hA0
  rw [Try.params7] at hA hval hsz
  obtain ⟨v0, vs0, d0, ds0, p0, q0, hargs, rfl, rfl, h0, r0⟩ := trodAll_cons hA
  obtain ⟨v1, vs1, d1, ds1, p1, q1, rfl, rfl, rfl, h1, r1⟩ := trodAll_cons r0
  obtain ⟨rfl, rfl, rfl⟩ := trodAll_nil r1
  obtain rfl : args = #[v0, v1] := by cases args; simp_all
  obtain ⟨rfl, rfl⟩ := trodVars_none hV
  have k0 := h0
  have lt0 : ∀ x ∈ p0, x.block < W.heap.size := by obtain ⟨m, hm⟩ := k0; exact DataW.trod_lt m _ _ _ hm
  obtain ⟨vc0, rfl, hvs0⟩ := okWide_struct Try.underlying59 (hval 0 59 v0 rfl rfl)
  obtain ⟨vc0⟩ := vc0
  obtain ⟨x0, hk0, hq0⟩ : ∃ x, k59.K W x vc0 ∧ Q59 x := by
    obtain ⟨fuel, hf⟩ := h0
    exact (opens59).2 enc W fuel _ _ hf (fun z hz => by simpa using List.all_eq_true.1 hsz z (DataW.weights_mem_each (j := 0) (t := 59) rfl rfl z hz))
  obtain ⟨A0_1, c0_1, rfl, hc0_1, hr0_1⟩ := k59_open hk0
  have k1 := h1
  have lt1 : ∀ x ∈ p1, x.block < W.heap.size := by obtain ⟨m, hm⟩ := k1; exact DataW.trod_lt m _ _ _ hm
  obtain ⟨sa1, sl1, sc1, rfl⟩ := okWide_slice Try.underlying23 (hval 1 23 v1 rfl rfl)
  obtain ⟨x1, hk1, hq1⟩ : ∃ x, (Kd.slice 3 (Kd.int .i64)).K W x [.slice sa1 sl1 sc1] ∧ (x.length ≤ maxLen ∧ x.length * 8 ≤ 140737488351232 ∧ ∀ y' ∈ x, (Lit.int .i64 y').wf = true) := by
    obtain ⟨fuel, hf⟩ := h1
    exact ((opens_slice Try.underlying23 (by kernel_rfl) (opens_int Try.underlying3 (by kernel_rfl)) (by decide) (by kernel_rfl : _ = 8))).2 enc W fuel _ _ hf (fun z hz => by simpa using List.all_eq_true.1 hsz z (DataW.weights_mem_each (j := 1) (t := 23) rfl rfl z hz))
  obtain ⟨A1, c1, he1, hc1, hr1⟩ := hk1
  simp only [List.cons.injEq, and_true, Value.slice.injEq] at he1
  obtain ⟨rfl, rfl, rfl⟩ := he1
  obtain ⟨hm1, hz1, hw1⟩ := hq1
  clear hA0 hval0 hsz0 hsz
  refine (QFnExactDiskCrash.laws_FnExactDiskCrash.walk Pure.FnExactDiskCrash x0.f0 _ _ x0.f1 _ _ x1 W hq0.1 hr0_1 hc0_1 hq0.2.1 hq0.2.2.1 hq0.2.2.2 hr1 hc1 hm1 hz1 hw1).mono fun e W' ⟨he, bel⟩ => ?_
  subst he
  exact ⟨_, rfl, _, _, _, [], _, [], hW', trodAll_mk1 (shut_bool Try.underlying4 _), (trodAll_cons_mk (Below.trod laidOut (by kernel_rfl) (of_decide_eq_true (by kernel_rfl)) k0 bel lt0) (trodAll_cons_mk (Below.trod laidOut (by kernel_rfl) (of_decide_eq_true (by kernel_rfl)) k1 bel lt1) trodAll_mk0)), rfl, bel.frame _, fun h => by cases h⟩
theorem over : Rows.fnExactDiskCrashRow.holds Try.pinned (OpenSpec.ofChange Rows.fnExactDiskCrashSpec) :=
  OpenClaim.holds_of_wide 7 Try.f7 rfl rfl rfl rfl rfl rfl rfl ⟨rfl, rfl, rfl, rfl, rfl⟩ rfl rfl rfl rfl rfl (by kernel_rfl) Try.func7 (by kernel_rfl)
    (of_decide_eq_true (by kernel_rfl)) (by unfold Func.isWrapper; first | (rw [if_pos (by decide +kernel)]; kernel_rfl) | (rw [if_neg (by decide +kernel)]; exact ⟨rfl, rfl⟩))
    (fun os started H enc _ => lifted os started H enc)
theorem proved : Rows.FnExactDiskCrashSaid := over
#print axioms proved
end Go.Proofs.Ytkfoojknjmgjdaa.fnExactDiskCrash
namespace Go.Proofs.Ytkfoojknjmgjdaa
/-- The row, under a short name, for the claim. -/
theorem fnExactDiskCrash_holds : Rows.FnExactDiskCrashSaid := fnExactDiskCrash.proved
end Go.Proofs.Ytkfoojknjmgjdaa
