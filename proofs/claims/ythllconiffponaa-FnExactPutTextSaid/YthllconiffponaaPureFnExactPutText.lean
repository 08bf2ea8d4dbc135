/- PutText of the program and of the reference give the same bytes for every string, in memory of their own; no condition. -/
import Derived.Test.YthllconiffponaaQFnExactPutTextx2
namespace Go.Proofs.Ythllconiffponaa.Pure
open Go.RowKit Go.Proofs.Ythllconiffponaa.QFnExactPutText Go.Proofs.YthllconiffponaaW.PrintWords Go.Proofs.YthllconiffponaaW.PrintLast
set_option linter.unusedVariables false
set_option linter.unusedSimpArgs false
theorem w64 {x : Int} (h0 : -9223372036854775808 ≤ x) (h1 : x ≤ 9223372036854775807) : wrap64 x = x := by
  unfold wrap64; omega
def By (l : List Int) : Prop := ∀ x ∈ l, 0 ≤ x ∧ x ≤ 255
theorem by_wf {l : List Int} (h : ∀ x ∈ l, (Lit.int .u8 x).wf = true) : By l := fun x hx => by
  have := h x hx
  simpa [Lit.wf, IntKind.min, IntKind.max, IntKind.bits, IntKind.signed] using this
theorem i64_wf {x : Int} (h : (Lit.int .i64 x).wf = true) : -9223372036854775808 ≤ x ∧ x ≤ 9223372036854775807 := by
  simpa [Lit.wf, IntKind.min, IntKind.max, IntKind.bits, IntKind.signed] using h
theorem rd_nat (l : List Int) (i : Nat) : rd l (i : Int) = l.getD i 0 := by simp [rd]
theorem By.at_ {l : List Int} (h : By l) (i : Int) : 0 ≤ rd l i ∧ rd l i ≤ 255 := by
  unfold rd
  rw [List.getD_eq_getElem?_getD]
  rcases Nat.lt_or_ge i.toNat l.length with hi | hi
  · rw [List.getElem?_eq_getElem hi]; exact h _ (List.getElem_mem hi)
  · rw [List.getElem?_eq_none hi]; simp
theorem wraps_i64 (n : Int) (h₀ : 0 ≤ n) (h₁ : n < 2 ^ 63) : IntKind.i64.wrap n = n := by rw [IntKind.wrap_i64]; omega
theorem and_mask (i : Nat) (hi : i ≤ 63) {x : Int} (h₀ : 0 ≤ x) (h₁ : x ≤ 9223372036854775807) : Go.bits .and .i64 x (2 ^ i - 1) = x % 2 ^ i :=
  bits_mask .i64 63 (by decide) wraps_i64 i hi x h₀ (by omega)
theorem or_join (i : Nat) {x y : Int} (hx₀ : 0 ≤ x) (hx : x % 2 ^ i = 0) (hx₁ : x ≤ 9223372036854775807) (hy₀ : 0 ≤ y) (hy : y < 2 ^ i) (hy₁ : y ≤ 9223372036854775807) : Go.bits .or .i64 x y = x + y :=
  bits_join .i64 63 (by decide) wraps_i64 i x y hx₀ hx (by omega) hy₀ hy (by omega)

def putNum (x : Int) : List Int := if h : x > 127 then (x % 128 + 128) :: putNum (x / 128) else [x]
termination_by x.toNat
decreasing_by omega
theorem putNum_big {x : Int} (h : x > 127) : putNum x = (x % 128 + 128) :: putNum (x / 128) := by rw [putNum]; simp [h]
theorem putNum_small {x : Int} (h : ¬ x > 127) : putNum x = [x] := by rw [putNum]; simp [h]
theorem putNum_by (m : Nat) : ∀ x : Int, 0 ≤ x → x < 128 ^ (m + 1) → By (putNum x) ∧ (putNum x).length ≤ m + 1 ∧ 1 ≤ (putNum x).length := by
  induction m with
  | zero =>
    intro x h0 h1
    have h1 : x < 128 := by simpa using h1
    rw [putNum_small (by omega)]
    refine ⟨fun y hy => ?_, by simp, by simp⟩
    simp at hy; omega
  | succ m ih =>
    intro x h0 h1
    by_cases h : x > 127
    · rw [putNum_big h]
      obtain ⟨h2, h3, h4⟩ := ih (x / 128) (by omega) (by rw [Int.pow_succ] at h1; omega)
      refine ⟨fun y hy => ?_, by simp; omega, by simp⟩
      rcases List.mem_cons.1 hy with rfl | hy
      · omega
      · exact h2 y hy
    · rw [putNum_small h]
      refine ⟨fun y hy => ?_, by simp, by simp⟩
      simp at hy; omega
theorem putNum_b9 {x : Int} (h0 : 0 ≤ x) (h1 : x ≤ 9223372036854775807) : By (putNum x) ∧ (putNum x).length ≤ 9 ∧ 1 ≤ (putNum x).length := putNum_by 8 x h0 (by omega)

theorem bytesOf_by (s : ByteArray) : By (bytesOf s) := by
  intro x hx
  unfold bytesOf at hx
  obtain ⟨b, _, rfl⟩ := List.mem_map.1 hx
  have := b.toNat_lt
  omega

def putText (s : ByteArray) : List Int := if s.size > 3000 then [] else putNum s.size ++ bytesOf s
theorem putText_len (s : ByteArray) : (putText s).length ≤ 3009 := by
  unfold putText
  split
  · simp
  · have := (putNum_b9 (x := s.size) (by omega) (by omega)).2.1
    rw [List.length_append, bytesOf_length]; omega

theorem specPutNum_l (m : Nat) : ∀ (x : Int) (acc : List Int), 0 ≤ x → x ≤ 9223372036854775807 → x < 128 ^ (m + 1) → acc.length + m ≤ 140737488355327 → Ev (fun k => spec_PutNum.l0 k x acc) (acc ++ putNum x) := by
  induction m with
  | zero =>
    intro x acc h0 h9 h1 hl
    have h : ¬ x > 127 := by simp at h1; omega
    refine Ev.step (f := fun _ => some (acc ++ [x])) (fun k => ?_) ?_
    · simp only [spec_PutNum.l0]
      rw [if_neg h, if_pos (by omega)]
      have : x % 256 = x := by omega
      rw [this]
    · rw [putNum_small h]; exact Ev.now _
  | succ m ih =>
    intro x acc h0 h9 h1 hl
    by_cases h : x > 127
    · refine Ev.step (f := fun k => spec_PutNum.l0 k (x / 128) (acc ++ [x % 128 + 128])) (fun k => ?_) ?_
      · simp only [spec_PutNum.l0]
        rw [if_pos h, if_pos (by omega), Int.tdiv_eq_ediv_of_nonneg h0, Int.tmod_eq_emod_of_nonneg h0, w64 (by omega) (by omega), w64 (by omega) (by omega)]
        have : (x % 128 + 128) % 256 = x % 128 + 128 := by omega
        rw [this]
      · have := ih (x / 128) (acc ++ [x % 128 + 128]) (by omega) (by omega) (by rw [Int.pow_succ] at h1; omega) (by simp; omega)
        rw [putNum_big h]; simpa using this
    · refine Ev.step (f := fun _ => some (acc ++ [x])) (fun k => ?_) ?_
      · simp only [spec_PutNum.l0]
        rw [if_neg h, if_pos (by omega)]
        have : x % 256 = x := by omega
        rw [this]
      · rw [putNum_small h]; exact Ev.now _
theorem specPutNum_ev {x : Int} (h0 : 0 ≤ x) (h1 : x ≤ 9223372036854775807) : Ev (fun k => spec_PutNum.f k x) (putNum x) := by
  have h := specPutNum_l 8 x [] h0 h1 (by omega) (by simp)
  refine Ev.congr (fun k => ?_) h
  unfold spec_PutNum.f
  simp only [Option.bind_some]
  rw [if_neg (by omega)]
theorem specPutNum_neg {x : Int} (h0 : x < 0) : Ev (fun k => spec_PutNum.f k x) [] := by
  refine Ev.congr (fun k => ?_) (Ev.now _)
  unfold spec_PutNum.f
  simp only [Option.bind_some]
  rw [if_pos h0]

theorem specPutText_ev (s : ByteArray) : Ev (fun k => spec_PutText.f k s) (putText s) := by
  unfold spec_PutText.f putText
  by_cases h : s.size > 3000
  · have h' : (s.size : Int) > 3000 := by omega
    simp only [h, h', ↓reduceIte]; exact Ev.now _
  · have h' : ¬ (s.size : Int) > 3000 := by omega
    have hp := (putNum_b9 (x := s.size) (by omega) (by omega)).2.1
    simp only [h, h', ↓reduceIte]
    refine Ev.bind (specPutNum_ev (x := s.size) (by omega) (by omega)) ?_
    simp only [Option.bind_some, bytesOf_length, show s.size ≤ 9223372036854775807 by omega, show (putNum (s.size : Int)).length + s.size < 140737488355328 by omega, ↓reduceIte]
    exact Ev.now _

theorem or_and_128 {x : Int} (h0 : 0 ≤ x) (h9 : x ≤ 9223372036854775807) : Go.bits .or .i64 (Go.bits .and .i64 x 127) 128 = x % 128 + 128 := by
  have e1 : Go.bits .and .i64 x 127 = x % 128 := and_mask 7 (by decide) h0 h9
  have e2 : Go.bits .or .i64 (x % 128) 128 = Go.bits .or .i64 128 (x % 128) := by unfold Go.bits; simp only [BitVec.or_comm]
  rw [e1, e2, or_join 7 (by decide) (by decide) (by decide) (by omega) (by omega) (by omega)]
  omega
theorem implPutNum_l (m : Nat) : ∀ (x : Int) (acc : List Int), 0 ≤ x → x ≤ 9223372036854775807 → x < 128 ^ (m + 1) → acc.length + m ≤ 140737488355327 → Ev (fun k => impl_PutNum.l0 k x acc) (acc ++ putNum x) := by
  induction m with
  | zero =>
    intro x acc h0 h9 h1 hl
    have h : ¬ x > 127 := by simp at h1; omega
    refine Ev.step (f := fun _ => some (acc ++ [x])) (fun k => ?_) ?_
    · simp only [impl_PutNum.l0]
      rw [if_neg h, if_pos (by omega)]
      have : x % 256 = x := by omega
      rw [this]
    · rw [putNum_small h]; exact Ev.now _
  | succ m ih =>
    intro x acc h0 h9 h1 hl
    by_cases h : x > 127
    · refine Ev.step (f := fun k => impl_PutNum.l0 k (x / 128) (acc ++ [x % 128 + 128])) (fun k => ?_) ?_
      · simp only [impl_PutNum.l0]
        rw [if_pos h, if_pos (by omega), or_and_128 h0 h9]
        have : (x % 128 + 128) % 256 = x % 128 + 128 := by omega
        rw [this]
      · have := ih (x / 128) (acc ++ [x % 128 + 128]) (by omega) (by omega) (by rw [Int.pow_succ] at h1; omega) (by simp; omega)
        rw [putNum_big h]; simpa using this
    · refine Ev.step (f := fun _ => some (acc ++ [x])) (fun k => ?_) ?_
      · simp only [impl_PutNum.l0]
        rw [if_neg h, if_pos (by omega)]
        have : x % 256 = x := by omega
        rw [this]
      · rw [putNum_small h]; exact Ev.now _
theorem implPutNum_ev {x : Int} (h0 : 0 ≤ x) (h1 : x ≤ 9223372036854775807) : Ev (fun k => impl_PutNum.f k x) (putNum x) := by
  have h := implPutNum_l 8 x [] h0 h1 (by omega) (by simp)
  refine Ev.congr (fun k => ?_) h
  unfold impl_PutNum.f
  rw [if_neg (by omega)]
theorem implPutNum_neg {x : Int} (h0 : x < 0) : Ev (fun k => impl_PutNum.f k x) [] := by
  refine Ev.congr (fun k => ?_) (Ev.now _)
  unfold impl_PutNum.f
  rw [if_pos h0]

theorem implPutText_ev (s : ByteArray) : Ev (fun k => impl_PutText.f k s) (putText s) := by
  unfold impl_PutText.f putText
  by_cases h : s.size > 3000
  · have h' : (s.size : Int) > 3000 := by omega
    simp only [h, h', ↓reduceIte]; exact Ev.now _
  · have h' : ¬ (s.size : Int) > 3000 := by omega
    have hp := (putNum_b9 (x := s.size) (by omega) (by omega)).2.1
    simp only [h, h', ↓reduceIte]
    refine Ev.bind (implPutNum_ev (x := s.size) (by omega) (by omega)) ?_
    simp only [show (putNum (s.size : Int)).length + s.size < 140737488355328 by omega, ↓reduceIte]
    exact Ev.now _

theorem eqByteS_l (l : List Int) (hl : l.length ≤ 140737488355328) (d : Nat) : ∀ i : Nat, i + d = l.length → Ev (fun k => laws_eqByteS.l0 k l l (i : Int)) true := by
  induction d with
  | zero =>
    intro i hi
    refine Ev.step (f := fun _ => some true) (fun k => ?_) (Ev.now _)
    simp only [laws_eqByteS.l0]
    rw [if_neg (by omega)]
  | succ d ih =>
    intro i hi
    refine Ev.step (f := fun k => laws_eqByteS.l0 k l l ((i + 1 : Nat) : Int)) (fun k => ?_) (ih (i + 1) (by omega))
    simp only [laws_eqByteS.l0]
    rw [if_pos (by omega), if_pos (by omega), if_pos (by omega), if_pos trivial, w64 (by omega) (by omega)]
    rfl
theorem eqByteS_ev (l : List Int) (hl : l.length ≤ 140737488355328) : Ev (fun k => laws_eqByteS.f k l l) true := by
  refine Ev.congr (fun k => ?_) (eqByteS_l l hl l.length 0 (by omega))
  unfold laws_eqByteS.f
  rw [if_pos rfl]; rfl

def marks : Nat → Int → List Int
  | 0, _ => []
  | n + 1, q => (q % 256) :: marks n (q + 1)
theorem marks_length : ∀ (n : Nat) (q : Int), (marks n q).length = n
  | 0, _ => rfl
  | n + 1, q => by rw [marks, List.length_cons, marks_length n]
theorem mark_l (rest : List Int) : ∀ (P : List Int) (q : Int), P.length + rest.length ≤ 140737488355328 → 0 ≤ q → q + rest.length ≤ 281474976710656 →
    Ev (fun k => laws_markByteS.l0 k (P ++ rest) q (P.length : Int)) (q + rest.length, P ++ marks rest.length q) := by
  induction rest with
  | nil =>
    intro P q hl h0 h1
    refine Ev.step (f := fun _ => some (q, P)) (fun k => ?_) ?_
    · simp only [laws_markByteS.l0]
      rw [if_neg (by simp)]; simp
    · simp [marks]; exact Ev.now _
  | cons a rest ih =>
    intro P q hl h0 h1
    simp only [List.length_cons] at hl h1
    have h := ih (P ++ [q % 256]) (q + 1) (by simp; omega) (by omega) (by omega)
    refine Ev.step (f := fun k => laws_markByteS.l0 k ((P ++ [q % 256]) ++ rest) (q + 1) ((P ++ [q % 256]).length : Int)) (fun k => ?_) ?_
    · simp only [laws_markByteS.l0]
      rw [if_pos (by simp; omega), if_pos (by omega), w64 (by omega) (by omega), w64 (by omega) (by omega), Int.toNat_natCast, List.set_append_right _ _ (Nat.le_refl _), Nat.sub_self, List.set_cons_zero]
      simp
    · have e : (q + 1 + (rest.length : Int), P ++ [q % 256] ++ marks rest.length (q + 1)) = (q + ((a :: rest).length : Int), P ++ marks (a :: rest).length q) := by
        simp [marks]; omega
      rw [← e]; exact h
theorem held_l (n : Nat) : ∀ (P : List Int) (q : Int), P.length + n ≤ 140737488355328 → 0 ≤ q → q + n ≤ 281474976710656 →
    Ev (fun k => laws_heldByteS.l0 k (P ++ marks n q) q (P.length : Int)) (q + n) := by
  induction n with
  | zero =>
    intro P q hl h0 h1
    refine Ev.step (f := fun _ => some q) (fun k => ?_) ?_
    · simp only [laws_heldByteS.l0]
      rw [if_neg (by simp [marks])]
    · simp; exact Ev.now _
  | succ n ih =>
    intro P q hl h0 h1
    have h := ih (P ++ [q % 256]) (q + 1) (by simp; omega) (by omega) (by omega)
    have e : P ++ marks (n + 1) q = P ++ [q % 256] ++ marks n (q + 1) := by simp [marks]
    have el : (P ++ marks (n + 1) q).length = P.length + (n + 1) := by rw [List.length_append, marks_length]
    refine Ev.step (f := fun k => laws_heldByteS.l0 k ((P ++ [q % 256]) ++ marks n (q + 1)) (q + 1) ((P ++ [q % 256]).length : Int)) (fun k => ?_) ?_
    · simp only [laws_heldByteS.l0]
      rw [if_pos (by rw [el]; omega), if_pos (by omega), if_pos (by rw [rd_nat]; simp [marks]), w64 (by omega) (by omega), w64 (by omega) (by omega), e]
      simp
    · have e2 : (q + 1 + (n : Int)) = q + ((n + 1 : Nat) : Int) := by omega
      rw [← e2]; exact h
theorem mark_ev (l : List Int) (q : Int) (hl : l.length ≤ 140737488355328) (h0 : 0 ≤ q) (h1 : q ≤ 140737488355328) : Ev (fun k => laws_markByteS.f k l q) (q + l.length, marks l.length q) := by
  have h := mark_l l [] q (by simpa using hl) h0 (by omega)
  simpa [laws_markByteS.f] using h
theorem held_ev (n : Nat) (q : Int) (hl : n ≤ 140737488355328) (h0 : 0 ≤ q) (h1 : q ≤ 140737488355328) : Ev (fun k => laws_heldByteS.f k (marks n q) q) (q + n) := by
  have h := held_l n [] q (by simpa using hl) h0 (by omega)
  simpa [laws_heldByteS.f] using h

theorem FnExactPutText : laws_FnExactPutText.Pure := by
  intro s hs
  have hl := putText_len s
  apply Ev.rounds
  unfold laws_FnExactPutText.f
  by_cases h : (s.size : Int) > 1048576
  · simp only [h, ↓reduceIte]; exact Ev.now _
  · simp only [h, ↓reduceIte]
    refine Ev.bind (specPutText_ev s) ?_
    refine Ev.bind (implPutText_ev s) ?_
    refine Ev.bind (eqByteS_ev _ (by omega)) ?_
    simp only [↓reduceIte]
    refine Ev.bind (mark_ev _ 1 (by omega) (by omega) (by omega)) ?_
    refine Ev.bind (held_ev _ 1 (by omega) (by omega) (by omega)) ?_
    simp only [show ¬ (1 + ((putText s).length : Int) < 0) by omega, ↓reduceIte]
    refine Ev.bind (implPutText_ev s) ?_
    refine Ev.bind (eqByteS_ev _ (by omega)) ?_
    simp only [↓reduceIte]
    refine Ev.bind (held_ev _ 1 (by omega) (by omega) (by omega)) ?_
    simp only [show ¬ (1 + ((putText s).length : Int) < 0) by omega, ↓reduceIte]
    exact Ev.now _

end Go.Proofs.Ythllconiffponaa.Pure
