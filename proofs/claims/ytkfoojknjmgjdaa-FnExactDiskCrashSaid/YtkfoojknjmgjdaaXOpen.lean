/- What an argument's value reads as: a kind of the print's words for each type, with the sizes that a row's weights allow; structs and slices of structs too. -/
import Derived.SizedLaws
import Derived.ChangeSlices
import Derived.ChangeSame
import Derived.Deep.Slices
import Derived.Test.YtkfoojknjmgjdaaWWords
namespace Go.Proofs.YtkfoojknjmgjdaaX
open Go.ChangeShapes Go.WideShapes Go.RowKit Go.Deep Go.Proofs.YtkfoojknjmgjdaaW.PrintWords
set_option linter.unusedVariables false
/-- Values of type t are read by kind d; Q: what is known of what is read, where all its weights are small. -/
def Opens {α : Type} (P : Program) (t : TypeId) (d : Kd α) (Q : α → Prop) : Prop :=
  P.cellsOf t = d.sz ∧ ∀ {H : Type} (enc : TypeId × Value → H) (W : World) (fuel : Nat) (cs : List Value) (x : DataW H × List MemPlace), DataW.trod enc P W 0 (fun _ => true) true fuel t cs = some x → (∀ n ∈ x.1.weights P t, n ≤ reachBytes) → ∃ a : α, d.K W a cs ∧ Q a
variable {P : Program}
theorem opens_int {t : TypeId} {k : IntKind} (hu : P.underlying t = some (.int k)) (hc : P.cellsOf t = 1) : Opens P t (Kd.int k) (fun a => (Lit.int k a).wf = true) := by
  refine ⟨hc, fun enc W fuel cs x h hw => ?_⟩
  obtain ⟨n, hcs, hx, hwf⟩ := DataW.trod_int hu h
  exact ⟨n, hcs, hwf⟩
theorem opens_bool {t : TypeId} (hu : P.underlying t = some .bool) (hc : P.cellsOf t = 1) : Opens P t Kd.bool (fun _ => True) := by
  refine ⟨hc, fun enc W fuel cs x h hw => ?_⟩
  obtain ⟨b, hcs, hx⟩ := DataW.trod_bool hu h
  exact ⟨b, hcs, trivial⟩
theorem opens_string {t : TypeId} (hu : P.underlying t = some .string) (hc : P.cellsOf t = 1) : Opens P t Kd.string (fun a => a.size ≤ 140737488351232) := by
  refine ⟨hc, fun enc W fuel cs x h hw => ?_⟩
  obtain ⟨s, hcs, hx, hm⟩ := DataW.trod_string hu h
  refine ⟨s, hcs, ?_⟩
  have := hw s.data.toList.length (by rw [hx]; simp [DataW.weights])
  rw [Array.length_toList] at this
  exact this
theorem opens_slice {α : Type} {t e : TypeId} {d : Kd α} {Q : α → Prop} {B : Nat} (hu : P.underlying t = some (.slice e)) (hc : P.cellsOf t = 1) (he : Opens P e d Q) (hz : 0 < d.sz) (hB : P.bytesOf e = B) :
    Opens P t (Kd.slice e d) (fun xs => xs.length ≤ maxLen ∧ xs.length * B ≤ 140737488351232 ∧ ∀ x ∈ xs, Q x) := by
  refine ⟨hc, fun enc W fuel cs x h hw => ?_⟩
  rcases open_slice hu h with ⟨rfl, rfl⟩ | ⟨a, len, cap, m, n, D, Pl, rfl, _, hl, hm, hmm, rfl, hi⟩
  · exact ⟨[], ⟨none, 0, rfl, Nat.le_refl _, Kd.C_nil d W⟩, by simp, by simp, by simp⟩
  obtain rfl : cap = m := by simpa using hmm.symm
  rw [he.1] at hi
  have hwt : ∀ i, i < len → ∀ n ∈ (D i).weights P e, n ≤ reachBytes := by
    intro i hil n hn
    have key : ∀ (l : List (DataW _)), (D i) ∈ l → n ∈ DataW.weightsAll P e l := by
      intro l
      induction l with
      | nil => intro h; simp at h
      | cons y l ih =>
        intro h
        simp only [DataW.weightsAll, List.mem_append]
        rcases List.mem_cons.1 h with rfl | h
        · exact .inl hn
        · exact .inr (ih h)
    refine hw n ?_
    simp only [DataW.weights, hu, List.mem_cons, List.mem_append]
    exact .inr (.inl (key _ (List.mem_map.2 ⟨i, by simpa using hil, rfl⟩)))
  have hel : ∀ i, i < len → ∃ y : α, (∃ cs', W.cells? 0 (a.add (i * d.sz)) d.sz = some cs' ∧ d.K W y cs') ∧ Q y := by
    intro i hil
    obtain ⟨cs', h1, h2⟩ := hi i (by omega)
    obtain ⟨y, hk, hq⟩ := he.2 enc W _ _ _ h2 (hwt i hil)
    exact ⟨y, ⟨cs', h1, hk⟩, hq⟩
  have hlB : len * B ≤ 140737488351232 := by
    have := hw (((List.range len).map D).length + ((List.range (cap - len)).map fun j => D (len + j)).length |>.mul (P.bytesOf e)) (by
      simp only [DataW.weights, hu, List.mem_cons]; exact .inl rfl)
    simp only [List.length_map, List.length_range] at this
    rw [hB] at this
    have h2 : len * B ≤ (len + (cap - len)) * B := Nat.mul_le_mul_right _ (by omega)
    exact Nat.le_trans h2 this
  have hlist : ∀ m, m ≤ len → ∃ ys : List α, ys.length = m ∧ (∀ y ∈ ys, Q y) ∧ ∀ j p, ys[j]? = some p → ∃ cs', W.cells? 0 (a.add (j * d.sz)) d.sz = some cs' ∧ d.K W p cs' := by
    intro m
    induction m with
    | zero => intro _; exact ⟨[], rfl, by simp, by simp⟩
    | succ m ih =>
      intro hml
      obtain ⟨ys, h1, h2, h3⟩ := ih (by omega)
      obtain ⟨y, hy, hq⟩ := hel m (by omega)
      refine ⟨ys ++ [y], by simp [h1], fun z hz => ?_, fun j p hj => ?_⟩
      · rcases List.mem_append.1 hz with hz | hz
        · exact h2 z hz
        · rw [List.mem_singleton.1 hz]; exact hq
      · rcases Nat.lt_or_ge j ys.length with hlt | hge
        · rw [List.getElem?_append_left hlt] at hj; exact h3 j p hj
        · rw [List.getElem?_append_right hge] at hj
          have hj0 : j - ys.length = 0 := by
            rcases Nat.eq_zero_or_pos (j - ys.length) with h | h
            · exact h
            · rw [List.getElem?_eq_none (by simp; omega)] at hj; cases hj
          rw [hj0] at hj
          simp at hj
          subst hj
          have : j = m := by omega
          rw [this]; exact hy
  obtain ⟨ys, h1, h2, h3⟩ := hlist len (Nat.le_refl _)
  refine ⟨ys, ⟨some a, cap, by rw [h1], by omega, ?_⟩, by rw [h1]; omega, by rw [h1]; exact hlB, h2⟩
  refine ⟨rfl, by rw [h1]; unfold maxLen at hm; omega, fun hp => ⟨a, rfl, fun j p hj => ?_⟩⟩
  obtain ⟨cs', h4, h5⟩ := h3 j p hj
  obtain ⟨_, hcl, hat⟩ := World.cells?_some h4
  refine ⟨cs', d.K_len h5, h5, fun i u hu => ?_⟩
  have hil : i < d.sz := by
    have := (List.getElem?_eq_some_iff.1 hu).1
    omega
  have := hat i hil
  rw [← Go.Deep.add_add, this, hu]
theorem cut_ {α : Type} (l : List α) (o s : Nat) : l.drop o = (l.drop o).take s ++ l.drop (o + s) := by
  rw [← List.drop_drop]; exact (List.take_append_drop s (l.drop o)).symm
theorem last_ {α : Type} (l : List α) (o s : Nat) (h : l.length ≤ o + s) : (l.drop o).take s = l.drop o := List.take_of_length_le (by rw [List.length_drop]; omega)
end Go.Proofs.YtkfoojknjmgjdaaX
