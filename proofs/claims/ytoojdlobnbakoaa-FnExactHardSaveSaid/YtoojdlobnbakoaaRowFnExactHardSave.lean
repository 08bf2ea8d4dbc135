/- The row of the law FnExactHardSave: out of its pure statement and its walk; no condition. -/
import Derived.Test.YtoojdlobnbakoaaRows
import Derived.Test.YtoojdlobnbakoaaQFnExactHardSavex15
import Derived.Test.YtoojdlobnbakoaaPureFnExactHardSave
import Derived.Test.YtoojdlobnbakoaaVFnExactHardSave
import Derived.WalkKit
import Derived.ProofKit
import Derived.OpenShut
import Derived.ShutString
import Derived.ChangeOld
import Derived.Below
import Derived.SizedLaws
namespace Go.Proofs.Ytoojdlobnbakoaa.fnExactHardSave
open Go.ChangeShapes Go.WideShapes Go.ChangeAt Go.RowKit
open Go.ChangeMaps (open_string shut_string)
open Go.Proofs.YtoojdlobnbakoaaX Go.Proofs.Ytoojdlobnbakoaa.QFnExactHardSave Go.Proofs.YtoojdlobnbakoaaW.PrintWords
set_option linter.unusedVariables false
set_option linter.unusedSimpArgs false
theorem own : ownKnob Try.prog.godebug = none := by kernel_rfl
theorem laidOut : laidOutB Try.prog = true := by kernel_rfl
set_option maxRecDepth 100000 in
theorem opens161 : Opens Try.prog 161 k161 Q161 := by
  refine ⟨by kernel_rfl, fun enc W fuel cs x h hw => ?_⟩
  obtain ⟨xs, n, _, hx, hl, hlen, hg⟩ := DataW.trod_struct Try.underlying161 h
  have hl : cs.length = 3 := hl.trans (by kernel_rfl)
  match xs, hlen with
  | [y0, y1, y2], _ =>
    subst hx
    have g0 : DataW.trod enc Try.prog W 0 (fun _ => true) true n 3 ((cs.drop 0).take 1) = some y0 := hg 0 _ rfl
    have g1 : DataW.trod enc Try.prog W 0 (fun _ => true) true n 9 ((cs.drop 1).take 1) = some y1 := hg 1 _ rfl
    have g2 : DataW.trod enc Try.prog W 0 (fun _ => true) true n 9 ((cs.drop 2).take 1) = some y2 := hg 2 _ rfl
    obtain ⟨a0, k0_, q0⟩ := ((opens_int Try.underlying3 (by kernel_rfl))).2 enc W n _ _ g0 (fun z hz => hw z (by simp only [DataW.weights, Try.underlying161, List.map_cons, List.map_nil]; exact DataW.weights_mem_each (j := 0) rfl rfl z hz))
    obtain ⟨a1, k1_, q1⟩ := ((opens_string Try.underlying9 (by kernel_rfl))).2 enc W n _ _ g1 (fun z hz => hw z (by simp only [DataW.weights, Try.underlying161, List.map_cons, List.map_nil]; exact DataW.weights_mem_each (j := 1) rfl rfl z hz))
    obtain ⟨a2, k2_, q2⟩ := ((opens_string Try.underlying9 (by kernel_rfl))).2 enc W n _ _ g2 (fun z hz => hw z (by simp only [DataW.weights, Try.underlying161, List.map_cons, List.map_nil]; exact DataW.weights_mem_each (j := 2) rfl rfl z hz))
    have hk : k161.K W ⟨a0, a1, a2⟩ (cs.drop 0) := ⟨_, _, cut_ cs 0 1, k0_, ⟨_, _, cut_ cs 1 1, k1_, (by rw [← last_ cs 2 1 (by omega)]; exact k2_)⟩⟩
    rw [List.drop_zero] at hk
    exact ⟨_, hk, ⟨q0, q1, q2⟩⟩
set_option maxRecDepth 100000 in
theorem opens72 : Opens Try.prog 72 k72 Q72 := by
  refine ⟨by kernel_rfl, fun enc W fuel cs x h hw => ?_⟩
  obtain ⟨xs, n, _, hx, hl, hlen, hg⟩ := DataW.trod_struct Try.underlying72 h
  have hl : cs.length = 2 := hl.trans (by kernel_rfl)
  match xs, hlen with
  | [y0, y1], _ =>
    subst hx
    have g0 : DataW.trod enc Try.prog W 0 (fun _ => true) true n 3 ((cs.drop 0).take 1) = some y0 := hg 0 _ rfl
    have g1 : DataW.trod enc Try.prog W 0 (fun _ => true) true n 70 ((cs.drop 1).take 1) = some y1 := hg 1 _ rfl
    obtain ⟨a0, k0_, q0⟩ := ((opens_int Try.underlying3 (by kernel_rfl))).2 enc W n _ _ g0 (fun z hz => hw z (by simp only [DataW.weights, Try.underlying72, List.map_cons, List.map_nil]; exact DataW.weights_mem_each (j := 0) rfl rfl z hz))
    obtain ⟨a1, k1_, q1⟩ := ((opens_slice Try.underlying70 (by kernel_rfl) opens161 (by decide) (by kernel_rfl : _ = 40))).2 enc W n _ _ g1 (fun z hz => hw z (by simp only [DataW.weights, Try.underlying72, List.map_cons, List.map_nil]; exact DataW.weights_mem_each (j := 1) rfl rfl z hz))
    have hk : k72.K W ⟨a0, a1⟩ (cs.drop 0) := ⟨_, _, cut_ cs 0 1, k0_, (by rw [← last_ cs 1 1 (by omega)]; exact k1_)⟩
    rw [List.drop_zero] at hk
    exact ⟨_, hk, ⟨q0, q1⟩⟩
set_option maxRecDepth 100000 in
theorem opens119 : Opens Try.prog 119 k119 Q119 := by
  refine ⟨by kernel_rfl, fun enc W fuel cs x h hw => ?_⟩
  obtain ⟨xs, n, _, hx, hl, hlen, hg⟩ := DataW.trod_struct Try.underlying119 h
  have hl : cs.length = 5 := hl.trans (by kernel_rfl)
  match xs, hlen with
  | [y0, y1, y2, y3, y4], _ =>
    subst hx
    have g0 : DataW.trod enc Try.prog W 0 (fun _ => true) true n 3 ((cs.drop 0).take 1) = some y0 := hg 0 _ rfl
    have g1 : DataW.trod enc Try.prog W 0 (fun _ => true) true n 3 ((cs.drop 1).take 1) = some y1 := hg 1 _ rfl
    have g2 : DataW.trod enc Try.prog W 0 (fun _ => true) true n 3 ((cs.drop 2).take 1) = some y2 := hg 2 _ rfl
    have g3 : DataW.trod enc Try.prog W 0 (fun _ => true) true n 3 ((cs.drop 3).take 1) = some y3 := hg 3 _ rfl
    have g4 : DataW.trod enc Try.prog W 0 (fun _ => true) true n 9 ((cs.drop 4).take 1) = some y4 := hg 4 _ rfl
    obtain ⟨a0, k0_, q0⟩ := ((opens_int Try.underlying3 (by kernel_rfl))).2 enc W n _ _ g0 (fun z hz => hw z (by simp only [DataW.weights, Try.underlying119, List.map_cons, List.map_nil]; exact DataW.weights_mem_each (j := 0) rfl rfl z hz))
    obtain ⟨a1, k1_, q1⟩ := ((opens_int Try.underlying3 (by kernel_rfl))).2 enc W n _ _ g1 (fun z hz => hw z (by simp only [DataW.weights, Try.underlying119, List.map_cons, List.map_nil]; exact DataW.weights_mem_each (j := 1) rfl rfl z hz))
    obtain ⟨a2, k2_, q2⟩ := ((opens_int Try.underlying3 (by kernel_rfl))).2 enc W n _ _ g2 (fun z hz => hw z (by simp only [DataW.weights, Try.underlying119, List.map_cons, List.map_nil]; exact DataW.weights_mem_each (j := 2) rfl rfl z hz))
    obtain ⟨a3, k3_, q3⟩ := ((opens_int Try.underlying3 (by kernel_rfl))).2 enc W n _ _ g3 (fun z hz => hw z (by simp only [DataW.weights, Try.underlying119, List.map_cons, List.map_nil]; exact DataW.weights_mem_each (j := 3) rfl rfl z hz))
    obtain ⟨a4, k4_, q4⟩ := ((opens_string Try.underlying9 (by kernel_rfl))).2 enc W n _ _ g4 (fun z hz => hw z (by simp only [DataW.weights, Try.underlying119, List.map_cons, List.map_nil]; exact DataW.weights_mem_each (j := 4) rfl rfl z hz))
    have hk : k119.K W ⟨a0, a1, a2, a3, a4⟩ (cs.drop 0) := ⟨_, _, cut_ cs 0 1, k0_, ⟨_, _, cut_ cs 1 1, k1_, ⟨_, _, cut_ cs 2 1, k2_, ⟨_, _, cut_ cs 3 1, k3_, (by rw [← last_ cs 4 1 (by omega)]; exact k4_)⟩⟩⟩⟩
    rw [List.drop_zero] at hk
    exact ⟨_, hk, ⟨q0, q1, q2, q3, q4⟩⟩
set_option maxRecDepth 100000 in
theorem opens121 : Opens Try.prog 121 k121 Q121 := by
  refine ⟨by kernel_rfl, fun enc W fuel cs x h hw => ?_⟩
  obtain ⟨xs, n, _, hx, hl, hlen, hg⟩ := DataW.trod_struct Try.underlying121 h
  have hl : cs.length = 6 := hl.trans (by kernel_rfl)
  match xs, hlen with
  | [y0, y1], _ =>
    subst hx
    have g0 : DataW.trod enc Try.prog W 0 (fun _ => true) true n 3 ((cs.drop 0).take 1) = some y0 := hg 0 _ rfl
    have g1 : DataW.trod enc Try.prog W 0 (fun _ => true) true n 119 ((cs.drop 1).take 5) = some y1 := hg 1 _ rfl
    obtain ⟨a0, k0_, q0⟩ := ((opens_int Try.underlying3 (by kernel_rfl))).2 enc W n _ _ g0 (fun z hz => hw z (by simp only [DataW.weights, Try.underlying121, List.map_cons, List.map_nil]; exact DataW.weights_mem_each (j := 0) rfl rfl z hz))
    obtain ⟨a1, k1_, q1⟩ := (opens119).2 enc W n _ _ g1 (fun z hz => hw z (by simp only [DataW.weights, Try.underlying121, List.map_cons, List.map_nil]; exact DataW.weights_mem_each (j := 1) rfl rfl z hz))
    have hk : k121.K W ⟨a0, a1⟩ (cs.drop 0) := ⟨_, _, cut_ cs 0 1, k0_, (by rw [← last_ cs 1 5 (by omega)]; exact k1_)⟩
    rw [List.drop_zero] at hk
    exact ⟨_, hk, ⟨q0, q1⟩⟩
set_option maxRecDepth 100000 in
theorem opens123 : Opens Try.prog 123 k123 Q123 := by
  refine ⟨by kernel_rfl, fun enc W fuel cs x h hw => ?_⟩
  obtain ⟨xs, n, _, hx, hl, hlen, hg⟩ := DataW.trod_struct Try.underlying123 h
  have hl : cs.length = 10 := hl.trans (by kernel_rfl)
  match xs, hlen with
  | [y0, y1, y2, y3, y4], _ =>
    subst hx
    have g0 : DataW.trod enc Try.prog W 0 (fun _ => true) true n 3 ((cs.drop 0).take 1) = some y0 := hg 0 _ rfl
    have g1 : DataW.trod enc Try.prog W 0 (fun _ => true) true n 3 ((cs.drop 1).take 1) = some y1 := hg 1 _ rfl
    have g2 : DataW.trod enc Try.prog W 0 (fun _ => true) true n 3 ((cs.drop 2).take 1) = some y2 := hg 2 _ rfl
    have g3 : DataW.trod enc Try.prog W 0 (fun _ => true) true n 3 ((cs.drop 3).take 1) = some y3 := hg 3 _ rfl
    have g4 : DataW.trod enc Try.prog W 0 (fun _ => true) true n 121 ((cs.drop 4).take 6) = some y4 := hg 4 _ rfl
    obtain ⟨a0, k0_, q0⟩ := ((opens_int Try.underlying3 (by kernel_rfl))).2 enc W n _ _ g0 (fun z hz => hw z (by simp only [DataW.weights, Try.underlying123, List.map_cons, List.map_nil]; exact DataW.weights_mem_each (j := 0) rfl rfl z hz))
    obtain ⟨a1, k1_, q1⟩ := ((opens_int Try.underlying3 (by kernel_rfl))).2 enc W n _ _ g1 (fun z hz => hw z (by simp only [DataW.weights, Try.underlying123, List.map_cons, List.map_nil]; exact DataW.weights_mem_each (j := 1) rfl rfl z hz))
    obtain ⟨a2, k2_, q2⟩ := ((opens_int Try.underlying3 (by kernel_rfl))).2 enc W n _ _ g2 (fun z hz => hw z (by simp only [DataW.weights, Try.underlying123, List.map_cons, List.map_nil]; exact DataW.weights_mem_each (j := 2) rfl rfl z hz))
    obtain ⟨a3, k3_, q3⟩ := ((opens_int Try.underlying3 (by kernel_rfl))).2 enc W n _ _ g3 (fun z hz => hw z (by simp only [DataW.weights, Try.underlying123, List.map_cons, List.map_nil]; exact DataW.weights_mem_each (j := 3) rfl rfl z hz))
    obtain ⟨a4, k4_, q4⟩ := (opens121).2 enc W n _ _ g4 (fun z hz => hw z (by simp only [DataW.weights, Try.underlying123, List.map_cons, List.map_nil]; exact DataW.weights_mem_each (j := 4) rfl rfl z hz))
    have hk : k123.K W ⟨a0, a1, a2, a3, a4⟩ (cs.drop 0) := ⟨_, _, cut_ cs 0 1, k0_, ⟨_, _, cut_ cs 1 1, k1_, ⟨_, _, cut_ cs 2 1, k2_, ⟨_, _, cut_ cs 3 1, k3_, (by rw [← last_ cs 4 6 (by omega)]; exact k4_)⟩⟩⟩⟩
    rw [List.drop_zero] at hk
    exact ⟨_, hk, ⟨q0, q1, q2, q3, q4⟩⟩
set_option maxRecDepth 100000 in
theorem lifted (os : Os) (started : os.Started) (H : Type) (enc : TypeId × Value → H) :
    ReturnsInHanded {} Try.checked os 11 .any (Rows.fnExactHardSaveSpec.pre6 enc Try.prog Try.f11 Rows.fnExactHardSaveRow.domain false) (Rows.fnExactHardSaveSpec.post enc Try.prog Try.f11 false true false false) := by
  refine returnsInHanded_of_change_sized (C := Try.checked) own started (by kernel_rfl) Try.func11
    (ChangeSpec.witness6 (enc := enc) (C := Try.checked) false ⟨#[], #[.agg #[.int .i64 0, .slice none 0 0], .int .i64 0, .slice none 0 0], []⟩ 8 (by kernel_rfl) (by kernel_rfl) (by kernel_rfl) (by kernel_rfl)) ?_
  intro W base args ds gs before hval0 hW hcnd hsz0 _
  have hsz : (DataW.weightsEach Try.prog (Try.f11.params.toList ++ Rows.fnExactHardSaveSpec.plain.varTypes Try.prog) (ds ++ gs)).all (· ≤ reachBytes) = true := hsz0
  have hval : ∀ (j : Nat) t v, Try.f11.params[j]? = some t → args[j]? = some v → Value.okWide Try.prog W .any base t v := hval0
  have hW' := hW
  obtain ⟨p, q, hA0, hV, rfl, hfz, hnd⟩ := hW
  have hA : DataW.TrodAll enc Try.prog W 0 (fun _ => true) true Try.f11.params.toList args.toList ds p := hA0
  rw [Try.params11] at hA hval hsz
  obtain ⟨v0, vs0, d0, ds0, p0, q0, hargs, rfl, rfl, h0, r0⟩ := trodAll_cons hA
  obtain ⟨v1, vs1, d1, ds1, p1, q1, rfl, rfl, rfl, h1, r1⟩ := trodAll_cons r0
  obtain ⟨v2, vs2, d2, ds2, p2, q2, rfl, rfl, rfl, h2, r2⟩ := trodAll_cons r1
  obtain ⟨rfl, rfl, rfl⟩ := trodAll_nil r2
  obtain rfl : args = #[v0, v1, v2] := by cases args; simp_all
  obtain ⟨rfl, rfl⟩ := trodVars_none hV
  have k0 := h0
  have lt0 : ∀ x ∈ p0, x.block < W.heap.size := by obtain ⟨m, hm⟩ := k0; exact DataW.trod_lt m _ _ _ hm
  obtain ⟨vc0, rfl, hvs0⟩ := okWide_struct Try.underlying72 (hval 0 72 v0 rfl rfl)
  obtain ⟨vc0⟩ := vc0
  obtain ⟨x0, hk0, hq0⟩ : ∃ x, k72.K W x vc0 ∧ Q72 x := by
    obtain ⟨fuel, hf⟩ := h0
    exact (opens72).2 enc W fuel _ _ hf (fun z hz => by simpa using List.all_eq_true.1 hsz z (DataW.weights_mem_each (j := 0) (t := 72) rfl rfl z hz))
  obtain ⟨A0_1, c0_1, rfl, hc0_1, hr0_1⟩ := k72_open hk0
  obtain ⟨a1, rfl, rfl, rfl, w1⟩ := open_int Try.underlying3 (hval 1 3 v1 rfl rfl) h1
  have k2 := h2
  have lt2 : ∀ x ∈ p2, x.block < W.heap.size := by obtain ⟨m, hm⟩ := k2; exact DataW.trod_lt m _ _ _ hm
  obtain ⟨sa2, sl2, sc2, rfl⟩ := okWide_slice Try.underlying73 (hval 2 73 v2 rfl rfl)
  obtain ⟨x2, hk2, hq2⟩ : ∃ x, (Kd.slice 123 k123).K W x [.slice sa2 sl2 sc2] ∧ (x.length ≤ maxLen ∧ x.length * 88 ≤ 140737488351232 ∧ ∀ y' ∈ x, Q123 y') := by
    obtain ⟨fuel, hf⟩ := h2
    exact ((opens_slice Try.underlying73 (by kernel_rfl) opens123 (by decide) (by kernel_rfl : _ = 88))).2 enc W fuel _ _ hf (fun z hz => by simpa using List.all_eq_true.1 hsz z (DataW.weights_mem_each (j := 2) (t := 73) rfl rfl z hz))
  obtain ⟨A2, c2, he2, hc2, hr2⟩ := hk2
  simp only [List.cons.injEq, and_true, Value.slice.injEq] at he2
  obtain ⟨rfl, rfl, rfl⟩ := he2
  obtain ⟨hm2, hz2, hw2⟩ := hq2
  clear hA0 hval0 hsz0 hsz
  refine (QFnExactHardSave.laws_FnExactHardSave.walk Pure.FnExactHardSave x0.f0 _ _ x0.f1 a1 _ _ x2 W hq0.1 hr0_1 hc0_1 hq0.2.1 hq0.2.2.1 hq0.2.2.2 w1 hr2 hc2 hm2 hz2 hw2).mono fun e W' ⟨he, bel⟩ => ?_
  subst he
  exact ⟨_, rfl, _, _, _, [], _, [], hW', trodAll_mk1 (shut_bool Try.underlying4 _), (trodAll_cons_mk (Below.trod laidOut (by kernel_rfl) (of_decide_eq_true (by kernel_rfl)) k0 bel lt0) (trodAll_cons_mk (shut_int Try.underlying3 w1) (trodAll_cons_mk (Below.trod laidOut (by kernel_rfl) (of_decide_eq_true (by kernel_rfl)) k2 bel lt2) trodAll_mk0))), rfl, bel.frame _, fun h => by cases h⟩
theorem over : Rows.fnExactHardSaveRow.holds Try.pinned (OpenSpec.ofChange Rows.fnExactHardSaveSpec) :=
  OpenClaim.holds_of_wide 11 Try.f11 rfl rfl rfl rfl rfl rfl rfl ⟨rfl, rfl, rfl, rfl, rfl⟩ rfl rfl rfl rfl rfl (by kernel_rfl) Try.func11 (by kernel_rfl)
    (of_decide_eq_true (by kernel_rfl)) (by unfold Func.isWrapper; first | (rw [if_pos (by decide +kernel)]; kernel_rfl) | (rw [if_neg (by decide +kernel)]; exact ⟨rfl, rfl⟩))
    (fun os started H enc _ => lifted os started H enc)
theorem proved : Rows.FnExactHardSaveSaid := over
#print axioms proved
end Go.Proofs.Ytoojdlobnbakoaa.fnExactHardSave
namespace Go.Proofs.Ytoojdlobnbakoaa
/-- The row, under a short name, for the claim. -/
theorem fnExactHardSave_holds : Rows.FnExactHardSaveSaid := fnExactHardSave.proved
end Go.Proofs.Ytoojdlobnbakoaa
