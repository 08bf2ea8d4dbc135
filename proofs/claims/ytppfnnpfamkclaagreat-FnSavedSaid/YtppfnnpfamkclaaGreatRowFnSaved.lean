/- The row of the law FnSaved: out of its pure statement and its walk; no condition. -/
import Derived.Test.YtppfnnpfamkclaaGreatRows
import Derived.Test.YtppfnnpfamkclaaGreatQFnSavedx31
import Derived.Test.YtppfnnpfamkclaaGreatVFnSaved
import Derived.WalkKit
import Derived.ProofKit
import Derived.OpenShut
import Derived.ShutString
import Derived.ChangeOld
import Derived.Below
import Derived.SizedLaws
namespace Go.Proofs.YtppfnnpfamkclaaGreat.fnSaved
open Go.ChangeShapes Go.WideShapes Go.ChangeAt Go.RowKit
open Go.ChangeMaps (open_string shut_string)
open Go.Proofs.YtppfnnpfamkclaaGreatX Go.Proofs.YtppfnnpfamkclaaGreat.QFnSaved Go.Proofs.YtppfnnpfamkclaaGreatW.PrintWords
set_option linter.unusedVariables false
set_option linter.unusedSimpArgs false
theorem own : ownKnob Tryz.prog.godebug = none := by kernel_rfl
theorem laidOut : laidOutB Tryz.prog = true := by kernel_rfl
set_option maxRecDepth 100000 in
theorem lifted (os : Os) (started : os.Started) (H : Type) (enc : TypeId × Value → H) :
    ReturnsInHanded {} Tryz.checked os 3 .any (Rows.fnSavedSpec.pre6 enc Tryz.prog Tryz.f3 Rows.fnSavedRow.domain false) (Rows.fnSavedSpec.post enc Tryz.prog Tryz.f3 false true false false) := by
  refine returnsInHanded_of_change_sized (C := Tryz.checked) own started (by kernel_rfl) Tryz.func3
    (ChangeSpec.witness6 (enc := enc) (C := Tryz.checked) false ⟨#[], #[.slice none 0 0], []⟩ 8 (by kernel_rfl) (by kernel_rfl) (by kernel_rfl) (by kernel_rfl)) ?_
  intro W base args ds gs before hval0 hW hcnd hsz0 _
  have hsz : (DataW.weightsEach Tryz.prog (Tryz.f3.params.toList ++ Rows.fnSavedSpec.plain.varTypes Tryz.prog) (ds ++ gs)).all (· ≤ reachBytes) = true := hsz0
  have hval : ∀ (j : Nat) t v, Tryz.f3.params[j]? = some t → args[j]? = some v → Value.okWide Tryz.prog W .any base t v := hval0
  have hW' := hW
  obtain ⟨p, q, hA0, hV, rfl, hfz, hnd⟩ := hW
  have hA : DataW.TrodAll enc Tryz.prog W 0 (fun _ => true) true Tryz.f3.params.toList args.toList ds p := hA0
  rw [Tryz.params3] at hA hval hsz
  obtain ⟨v0, vs0, d0, ds0, p0, q0, hargs, rfl, rfl, h0, r0⟩ := trodAll_cons hA
  obtain ⟨rfl, rfl, rfl⟩ := trodAll_nil r0
  obtain rfl : args = #[v0] := by cases args; simp_all
  obtain ⟨rfl, rfl⟩ := trodVars_none hV
  have k0 := h0
  have lt0 : ∀ x ∈ p0, x.block < W.heap.size := by obtain ⟨m, hm⟩ := k0; exact DataW.trod_lt m _ _ _ hm
  obtain ⟨sa0, sl0, sc0, rfl⟩ := okWide_slice Tryz.underlying22 (hval 0 22 v0 rfl rfl)
  obtain ⟨x0, hk0, hq0⟩ : ∃ x, (Kd.slice 5 (Kd.int .u8)).K W x [.slice sa0 sl0 sc0] ∧ (x.length ≤ maxLen ∧ x.length * 1 ≤ 140737488351232 ∧ ∀ y' ∈ x, (Lit.int .u8 y').wf = true) := by
    obtain ⟨fuel, hf⟩ := h0
    exact ((opens_slice Tryz.underlying22 (by kernel_rfl) (opens_int Tryz.underlying5 (by kernel_rfl)) (by decide) (by kernel_rfl : _ = 1))).2 enc W fuel _ _ hf (fun z hz => by simpa using List.all_eq_true.1 hsz z (DataW.weights_mem_each (j := 0) (t := 22) rfl rfl z hz))
  obtain ⟨A0, c0, he0, hc0, hr0⟩ := hk0
  simp only [List.cons.injEq, and_true, Value.slice.injEq] at he0
  obtain ⟨rfl, rfl, rfl⟩ := he0
  obtain ⟨hm0, hz0, hw0⟩ := hq0
  clear hA0 hval0 hsz0 hsz
  refine (QFnSaved.laws_FnSaved.walk _ _ x0 W hr0 hc0 hm0 hz0 hw0).mono fun e W' ⟨he, bel⟩ => ?_
  subst he
  exact ⟨_, rfl, _, _, _, [], _, [], hW', trodAll_mk1 (shut_bool Tryz.underlying4 _), (trodAll_cons_mk (Below.trod laidOut (by kernel_rfl) (of_decide_eq_true (by kernel_rfl)) k0 bel lt0) trodAll_mk0), rfl, bel.frame _, fun h => by cases h⟩
theorem over : Rows.fnSavedRow.holds Tryz.pinned (OpenSpec.ofChange Rows.fnSavedSpec) :=
  OpenClaim.holds_of_wide 3 Tryz.f3 rfl rfl rfl rfl rfl rfl rfl ⟨rfl, rfl, rfl, rfl, rfl⟩ rfl rfl rfl rfl rfl (by kernel_rfl) Tryz.func3 (by kernel_rfl)
    (of_decide_eq_true (by kernel_rfl)) (by unfold Func.isWrapper; first | (rw [if_pos (by decide +kernel)]; kernel_rfl) | (rw [if_neg (by decide +kernel)]; exact ⟨rfl, rfl⟩))
    (fun os started H enc _ => lifted os started H enc)
theorem proved : Rows.FnSavedSaid := over
#print axioms proved
end Go.Proofs.YtppfnnpfamkclaaGreat.fnSaved
namespace Go.Proofs.YtppfnnpfamkclaaGreat
/-- The row, under a short name, for the claim. -/
theorem fnSaved_holds : Rows.FnSavedSaid := fnSaved.proved
end Go.Proofs.YtppfnnpfamkclaaGreat
