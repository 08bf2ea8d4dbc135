/- The row of the law FnExactRollFind: out of its pure statement and its walk; no condition. -/
import Derived.Test.YtppfnnpfamkclaaRows
import Derived.Test.YtppfnnpfamkclaaQFnExactRollFindx8
import Derived.Test.YtppfnnpfamkclaaPureFnExactRollFind
import Derived.Test.YtppfnnpfamkclaaVFnExactRollFind
import Derived.WalkKit
import Derived.ProofKit
import Derived.OpenShut
import Derived.ShutString
import Derived.ChangeOld
import Derived.Below
import Derived.SizedLaws
namespace Go.Proofs.Ytppfnnpfamkclaa.fnExactRollFind
open Go.ChangeShapes Go.WideShapes Go.ChangeAt Go.RowKit
open Go.ChangeMaps (open_string shut_string)
open Go.Proofs.YtppfnnpfamkclaaX Go.Proofs.Ytppfnnpfamkclaa.QFnExactRollFind Go.Proofs.YtppfnnpfamkclaaW.PrintWords
set_option linter.unusedVariables false
set_option linter.unusedSimpArgs false
theorem own : ownKnob Try.prog.godebug = none := by kernel_rfl
theorem laidOut : laidOutB Try.prog = true := by kernel_rfl
set_option maxRecDepth 100000 in
theorem opens53 : Opens Try.prog 53 k53 Q53 := by
  refine ⟨by kernel_rfl, fun enc W fuel cs x h hw => ?_⟩
  obtain ⟨xs, n, _, hx, hl, hlen, hg⟩ := DataW.trod_struct Try.underlying53 h
  have hl : cs.length = 5 := hl.trans (by kernel_rfl)
  match xs, hlen with
  | [y0, y1, y2, y3, y4], _ =>
    subst hx
    have g0 : DataW.trod enc Try.prog W 0 (fun _ => true) true n 3 ((cs.drop 0).take 1) = some y0 := hg 0 _ rfl
    have g1 : DataW.trod enc Try.prog W 0 (fun _ => true) true n 3 ((cs.drop 1).take 1) = some y1 := hg 1 _ rfl
    have g2 : DataW.trod enc Try.prog W 0 (fun _ => true) true n 9 ((cs.drop 2).take 1) = some y2 := hg 2 _ rfl
    have g3 : DataW.trod enc Try.prog W 0 (fun _ => true) true n 23 ((cs.drop 3).take 1) = some y3 := hg 3 _ rfl
    have g4 : DataW.trod enc Try.prog W 0 (fun _ => true) true n 3 ((cs.drop 4).take 1) = some y4 := hg 4 _ rfl
    obtain ⟨a0, k0_, q0⟩ := ((opens_int Try.underlying3 (by kernel_rfl))).2 enc W n _ _ g0 (fun z hz => hw z (by simp only [DataW.weights, Try.underlying53, List.map_cons, List.map_nil]; exact DataW.weights_mem_each (j := 0) rfl rfl z hz))
    obtain ⟨a1, k1_, q1⟩ := ((opens_int Try.underlying3 (by kernel_rfl))).2 enc W n _ _ g1 (fun z hz => hw z (by simp only [DataW.weights, Try.underlying53, List.map_cons, List.map_nil]; exact DataW.weights_mem_each (j := 1) rfl rfl z hz))
    obtain ⟨a2, k2_, q2⟩ := ((opens_string Try.underlying9 (by kernel_rfl))).2 enc W n _ _ g2 (fun z hz => hw z (by simp only [DataW.weights, Try.underlying53, List.map_cons, List.map_nil]; exact DataW.weights_mem_each (j := 2) rfl rfl z hz))
    obtain ⟨a3, k3_, q3⟩ := ((opens_slice Try.underlying23 (by kernel_rfl) (opens_int Try.underlying3 (by kernel_rfl)) (by decide) (by kernel_rfl : _ = 8))).2 enc W n _ _ g3 (fun z hz => hw z (by simp only [DataW.weights, Try.underlying53, List.map_cons, List.map_nil]; exact DataW.weights_mem_each (j := 3) rfl rfl z hz))
    obtain ⟨a4, k4_, q4⟩ := ((opens_int Try.underlying3 (by kernel_rfl))).2 enc W n _ _ g4 (fun z hz => hw z (by simp only [DataW.weights, Try.underlying53, List.map_cons, List.map_nil]; exact DataW.weights_mem_each (j := 4) rfl rfl z hz))
    have hk : k53.K W ⟨a0, a1, a2, a3, a4⟩ (cs.drop 0) := ⟨_, _, cut_ cs 0 1, k0_, ⟨_, _, cut_ cs 1 1, k1_, ⟨_, _, cut_ cs 2 1, k2_, ⟨_, _, cut_ cs 3 1, k3_, (by rw [← last_ cs 4 1 (by omega)]; exact k4_)⟩⟩⟩⟩
    rw [List.drop_zero] at hk
    exact ⟨_, hk, ⟨q0, q1, q2, q3, q4⟩⟩
set_option maxRecDepth 100000 in
theorem opens25 : Opens Try.prog 25 k25 Q25 := by
  refine ⟨by kernel_rfl, fun enc W fuel cs x h hw => ?_⟩
  obtain ⟨xs, n, _, hx, hl, hlen, hg⟩ := DataW.trod_struct Try.underlying25 h
  have hl : cs.length = 4 := hl.trans (by kernel_rfl)
  match xs, hlen with
  | [y0, y1, y2, y3], _ =>
    subst hx
    have g0 : DataW.trod enc Try.prog W 0 (fun _ => true) true n 3 ((cs.drop 0).take 1) = some y0 := hg 0 _ rfl
    have g1 : DataW.trod enc Try.prog W 0 (fun _ => true) true n 22 ((cs.drop 1).take 1) = some y1 := hg 1 _ rfl
    have g2 : DataW.trod enc Try.prog W 0 (fun _ => true) true n 3 ((cs.drop 2).take 1) = some y2 := hg 2 _ rfl
    have g3 : DataW.trod enc Try.prog W 0 (fun _ => true) true n 23 ((cs.drop 3).take 1) = some y3 := hg 3 _ rfl
    obtain ⟨a0, k0_, q0⟩ := ((opens_int Try.underlying3 (by kernel_rfl))).2 enc W n _ _ g0 (fun z hz => hw z (by simp only [DataW.weights, Try.underlying25, List.map_cons, List.map_nil]; exact DataW.weights_mem_each (j := 0) rfl rfl z hz))
    obtain ⟨a1, k1_, q1⟩ := ((opens_slice Try.underlying22 (by kernel_rfl) opens53 (by decide) (by kernel_rfl : _ = 64))).2 enc W n _ _ g1 (fun z hz => hw z (by simp only [DataW.weights, Try.underlying25, List.map_cons, List.map_nil]; exact DataW.weights_mem_each (j := 1) rfl rfl z hz))
    obtain ⟨a2, k2_, q2⟩ := ((opens_int Try.underlying3 (by kernel_rfl))).2 enc W n _ _ g2 (fun z hz => hw z (by simp only [DataW.weights, Try.underlying25, List.map_cons, List.map_nil]; exact DataW.weights_mem_each (j := 2) rfl rfl z hz))
    obtain ⟨a3, k3_, q3⟩ := ((opens_slice Try.underlying23 (by kernel_rfl) (opens_int Try.underlying3 (by kernel_rfl)) (by decide) (by kernel_rfl : _ = 8))).2 enc W n _ _ g3 (fun z hz => hw z (by simp only [DataW.weights, Try.underlying25, List.map_cons, List.map_nil]; exact DataW.weights_mem_each (j := 3) rfl rfl z hz))
    have hk : k25.K W ⟨a0, a1, a2, a3⟩ (cs.drop 0) := ⟨_, _, cut_ cs 0 1, k0_, ⟨_, _, cut_ cs 1 1, k1_, ⟨_, _, cut_ cs 2 1, k2_, (by rw [← last_ cs 3 1 (by omega)]; exact k3_)⟩⟩⟩
    rw [List.drop_zero] at hk
    exact ⟨_, hk, ⟨q0, q1, q2, q3⟩⟩
set_option maxRecDepth 100000 in
theorem lifted (os : Os) (started : os.Started) (H : Type) (enc : TypeId × Value → H) :
    ReturnsInHanded {} Try.checked os 4 .any (Rows.fnExactRollFindSpec.pre6 enc Try.prog Try.f4 Rows.fnExactRollFindRow.domain false) (Rows.fnExactRollFindSpec.post enc Try.prog Try.f4 false true false false) := by
  refine returnsInHanded_of_change_sized (C := Try.checked) own started (by kernel_rfl) Try.func4
    (ChangeSpec.witness6 (enc := enc) (C := Try.checked) false ⟨#[], #[.agg #[.int .i64 0, .slice none 0 0, .int .i64 0, .slice none 0 0], .int .i64 0], []⟩ 8 (by kernel_rfl) (by kernel_rfl) (by kernel_rfl) (by kernel_rfl)) ?_
  intro W base args ds gs before hval0 hW hcnd hsz0 _
  have hsz : (DataW.weightsEach Try.prog (Try.f4.params.toList ++ Rows.fnExactRollFindSpec.plain.varTypes Try.prog) (ds ++ gs)).all (· ≤ reachBytes) = true := hsz0
  have hval : ∀ (j : Nat) t v, Try.f4.params[j]? = some t → args[j]? = some v → Value.okWide Try.prog W .any base t v := hval0
  have hW' := hW
  obtain ⟨p, q, hA0, hV, rfl, hfz, hnd⟩ := hW
  have hA : DataW.TrodAll enc Try.prog W 0 (fun _ => true) true Try.f4.params.toList args.toList ds p := hA0
  rw [Try.params4] at hA hval hsz
  obtain ⟨v0, vs0, d0, ds0, p0, q0, hargs, rfl, rfl, h0, r0⟩ := trodAll_cons hA
  obtain ⟨v1, vs1, d1, ds1, p1, q1, rfl, rfl, rfl, h1, r1⟩ := trodAll_cons r0
  obtain ⟨rfl, rfl, rfl⟩ := trodAll_nil r1
  obtain rfl : args = #[v0, v1] := by cases args; simp_all
  obtain ⟨rfl, rfl⟩ := trodVars_none hV
  have k0 := h0
  have lt0 : ∀ x ∈ p0, x.block < W.heap.size := by obtain ⟨m, hm⟩ := k0; exact DataW.trod_lt m _ _ _ hm
  obtain ⟨vc0, rfl, hvs0⟩ := okWide_struct Try.underlying25 (hval 0 25 v0 rfl rfl)
  obtain ⟨vc0⟩ := vc0
  obtain ⟨x0, hk0, hq0⟩ : ∃ x, k25.K W x vc0 ∧ Q25 x := by
    obtain ⟨fuel, hf⟩ := h0
    exact (opens25).2 enc W fuel _ _ hf (fun z hz => by simpa using List.all_eq_true.1 hsz z (DataW.weights_mem_each (j := 0) (t := 25) rfl rfl z hz))
  obtain ⟨A0_1, c0_1, A0_3, c0_3, rfl, hc0_1, hr0_1, hc0_3, hr0_3⟩ := k25_open hk0
  obtain ⟨a1, rfl, rfl, rfl, w1⟩ := open_int Try.underlying3 (hval 1 3 v1 rfl rfl) h1
  clear hA0 hval0 hsz0 hsz
  refine (QFnExactRollFind.laws_FnExactRollFind.walk Pure.FnExactRollFind x0.f0 _ _ x0.f1 x0.f2 _ _ x0.f3 a1 W hq0.1 hr0_1 hc0_1 hq0.2.1.1 hq0.2.1.2.1 hq0.2.1.2.2 hq0.2.2.1 hr0_3 hc0_3 hq0.2.2.2.1 hq0.2.2.2.2.1 hq0.2.2.2.2.2 w1).mono fun e W' ⟨he, bel⟩ => ?_
  subst he
  exact ⟨_, rfl, _, _, _, [], _, [], hW', trodAll_mk1 (shut_bool Try.underlying4 _), (trodAll_cons_mk (Below.trod laidOut (by kernel_rfl) (of_decide_eq_true (by kernel_rfl)) k0 bel lt0) (trodAll_cons_mk (shut_int Try.underlying3 w1) trodAll_mk0)), rfl, bel.frame _, fun h => by cases h⟩
theorem over : Rows.fnExactRollFindRow.holds Try.pinned (OpenSpec.ofChange Rows.fnExactRollFindSpec) :=
  OpenClaim.holds_of_wide 4 Try.f4 rfl rfl rfl rfl rfl rfl rfl ⟨rfl, rfl, rfl, rfl, rfl⟩ rfl rfl rfl rfl rfl (by kernel_rfl) Try.func4 (by kernel_rfl)
    (of_decide_eq_true (by kernel_rfl)) (by unfold Func.isWrapper; first | (rw [if_pos (by decide +kernel)]; kernel_rfl) | (rw [if_neg (by decide +kernel)]; exact ⟨rfl, rfl⟩))
    (fun os started H enc _ => lifted os started H enc)
theorem proved : Rows.FnExactRollFindSaid := over
#print axioms proved
end Go.Proofs.Ytppfnnpfamkclaa.fnExactRollFind
namespace Go.Proofs.Ytppfnnpfamkclaa
/-- The row, under a short name, for the claim. -/
theorem fnExactRollFind_holds : Rows.FnExactRollFindSaid := fnExactRollFind.proved
end Go.Proofs.Ytppfnnpfamkclaa
