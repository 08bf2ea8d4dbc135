/- FromHex of the program and of the reference give the same bytes and the same word for every string, in memory of their own; no condition. -/
import Derived.Test.YthllconiffponaaPFnExactFromHexx2
namespace Go.Proofs.Ythllconiffponaa.Pure
open Go.RowKit Go.Proofs.Ythllconiffponaa.PFnExactFromHex Go.Proofs.YthllconiffponaaW.PrintWords Go.Proofs.YthllconiffponaaW.PrintLast
theorem w64 {x : Int} (h0 : -9223372036854775808 ≤ x) (h1 : x ≤ 9223372036854775807) : wrap64 x = x := by
  unfold wrap64; omega
def By (l : List Int) : Prop := ∀ x ∈ l, 0 ≤ x ∧ x ≤ 255
theorem by_wf {l : List Int} (h : ∀ x ∈ l, (Lit.int .u8 x).wf = true) : By l := fun x hx => by
  have := h x hx
  simpa [Lit.wf, IntKind.min, IntKind.max, IntKind.bits, IntKind.signed] using this
theorem i64_wf {x : Int} (h : (Lit.int .i64 x).wf = true) : -9223372036854775808 ≤ x ∧ x ≤ 9223372036854775807 := by
  simpa [Lit.wf, IntKind.min, IntKind.max, IntKind.bits, IntKind.signed] using h
theorem rd_nat (l : List Int) (i : Nat) : rd l (i : Int) = l.getD i 0 := by simp [rd]
theorem By.at_ {l : List Int} (h : By l) (i : Int) : 0 ≤ rd l i ∧ rd l i ≤ 255 := by
  unfold rd
  rw [List.getD_eq_getElem?_getD]
  rcases Nat.lt_or_ge i.toNat l.length with hi | hi
  · rw [List.getElem?_eq_getElem hi]; exact h _ (List.getElem_mem hi)
  · rw [List.getElem?_eq_none hi]; simp
theorem wraps_i64 (n : Int) (h₀ : 0 ≤ n) (h₁ : n < 2 ^ 63) : IntKind.i64.wrap n = n := by rw [IntKind.wrap_i64]; omega
theorem and_mask (i : Nat) (hi : i ≤ 63) {x : Int} (h₀ : 0 ≤ x) (h₁ : x ≤ 9223372036854775807) : Go.bits .and .i64 x (2 ^ i - 1) = x % 2 ^ i :=
  bits_mask .i64 63 (by decide) wraps_i64 i hi x h₀ (by omega)
theorem or_join (i : Nat) {x y : Int} (hx₀ : 0 ≤ x) (hx : x % 2 ^ i = 0) (hx₁ : x ≤ 9223372036854775807) (hy₀ : 0 ≤ y) (hy : y < 2 ^ i) (hy₁ : y ≤ 9223372036854775807) : Go.bits .or .i64 x y = x + y :=
  bits_join .i64 63 (by decide) wraps_i64 i x y hx₀ hx (by omega) hy₀ hy (by omega)

def hexd (n : Int) : Int := bt (⟨#[48, 49, 50, 51, 52, 53, 54, 55, 56, 57, 97, 98, 99, 100, 101, 102]⟩ : ByteArray) n
def hexs : List Int → List Int
  | [] => []
  | c :: t => hexd (c / 16) :: hexd (c % 16) :: hexs t
theorem hexs_length : ∀ l : List Int, (hexs l).length = 2 * l.length
  | [] => rfl
  | c :: t => by simp only [hexs, List.length_cons, hexs_length t]; omega
theorem rd_midh (P : List Int) (c : Int) (t : List Int) : rd (P ++ c :: t) (P.length : Int) = c := by rw [rd_nat]; simp

def hvalF : Nat → Int → Int → Int
  | 0, _, _ => -1
  | d + 1, c, i => if hexd i = c then i else hvalF d c (i + 1)
def hval (c : Int) : Int := hvalF 16 c 0
theorem hvalF_b : ∀ (d : Nat) (c i : Int), 0 ≤ i → -1 ≤ hvalF d c i ∧ hvalF d c i < i + d
  | 0, c, i, h => by simp only [hvalF]; omega
  | d + 1, c, i, h => by
    simp only [hvalF]
    split
    · omega
    · have := hvalF_b d c (i + 1) (by omega); omega
theorem hval_b (c : Int) : -1 ≤ hval c ∧ hval c < 16 := by have := hvalF_b 16 c 0 (by omega); unfold hval; omega

def fhGo : Nat → ByteArray → Int → List Int → List Int × Bool
  | 0, _, _, acc => (acc, true)
  | d + 1, s, i, acc => if hval (bt s i) < 0 then ([], false) else if hval (bt s (i + 1)) < 0 then ([], false) else fhGo d s (i + 2) (acc ++ [16 * hval (bt s i) + hval (bt s (i + 1))])
theorem fhGo_len : ∀ (d : Nat) (s : ByteArray) (i : Int) (acc : List Int), (fhGo d s i acc).1.length ≤ acc.length + d
  | 0, _, _, acc => by simp [fhGo]
  | d + 1, s, i, acc => by
    simp only [fhGo]
    split
    · simp
    · split
      · simp
      · have := fhGo_len d s (i + 2) (acc ++ [16 * hval (bt s i) + hval (bt s (i + 1))])
        simp at this; omega
def fromHex (s : ByteArray) : List Int × Bool := if (s.size : Int) % 2 = 1 ∨ (s.size : Int) > 8000 then ([], false) else fhGo (s.size / 2) s 0 []
theorem fromHex_len (s : ByteArray) : (fromHex s).1.length ≤ 4000 := by
  unfold fromHex
  split
  · simp
  · have := fhGo_len (s.size / 2) s 0 []
    simp at this; omega

theorem l2Digit_eq {a : Int} (h0 : 0 ≤ a) (h1 : a ≤ 9223372036854775807) : spec_l2Digit.f a = some (hexd (a % 16)) := by
  unfold spec_l2Digit.f hexd
  have e : Go.bits .and .i64 a 15 = a % 16 := and_mask 4 (by decide) h0 h1
  rw [e, if_pos (by omega), if_pos (by omega)]

theorem l2Value_l (d : Nat) : ∀ (c i : Int), 0 ≤ i → i + d = 16 → Ev (fun k => spec_l2Value.l0 k c i) (hvalF d c i) := by
  induction d with
  | zero =>
    intro c i h0 h1
    refine Ev.step (f := fun _ => some (-1)) (fun k => ?_) (Ev.now _)
    simp only [spec_l2Value.l0]
    rw [if_neg (by omega)]
  | succ d ih =>
    intro c i h0 h1
    have e : i % 16 = i := by omega
    by_cases h : hexd i = c
    · refine Ev.step (f := fun _ => some i) (fun k => ?_) ?_
      · simp only [spec_l2Value.l0]
        rw [if_pos (by omega), l2Digit_eq h0 (by omega), e]
        simp only [Option.bind_some]
        rw [if_pos h]
      · simp only [hvalF, h, ↓reduceIte]; exact Ev.now _
    · refine Ev.step (f := fun k => spec_l2Value.l0 k c (i + 1)) (fun k => ?_) ?_
      · simp only [spec_l2Value.l0]
        rw [if_pos (by omega), l2Digit_eq h0 (by omega), e]
        simp only [Option.bind_some]
        rw [if_neg h, w64 (by omega) (by omega)]
      · simp only [hvalF, h, ↓reduceIte]; exact ih c (i + 1) (by omega) (by omega)
theorem l2Value_ev (c : Int) : Ev (fun k => spec_l2Value.f k c) (hval c) := l2Value_l 16 c 0 (by omega) (by omega)

theorem specFromHex_l (d : Nat) : ∀ (s : ByteArray) (i : Int) (acc : List Int), 0 ≤ i → i + 2 * d = s.size → s.size ≤ 8000 → acc.length + d ≤ 8000 → Ev (fun k => spec_FromHex.l0 k s acc i) (fhGo d s i acc) := by
  induction d with
  | zero =>
    intro s i acc h0 h1 h2 h3
    refine Ev.step (f := fun _ => some (acc, true)) (fun k => ?_) (Ev.now _)
    simp only [spec_FromHex.l0]
    rw [if_neg (by omega)]
  | succ d ih =>
    intro s i acc h0 h1 h2 h3
    have b1 := hval_b (bt s i)
    have b2 := hval_b (bt s (i + 1))
    refine Ev.step (f := fun k => (spec_l2Value.f k (bt s i)).bind fun t1 => (spec_l2Value.f k (bt s (i + 1))).bind fun t2 => if t1 < 0 then some ([], false) else if t2 < 0 then some ([], false) else if acc.length < 140737488355328 then spec_FromHex.l0 k s (acc ++ [(wrap64 (wrap64 (16 * t1) + t2)) % 256]) (i + 2) else none) (fun k => ?_) ?_
    · simp only [spec_FromHex.l0]
      rw [if_pos (by omega), if_pos h0, w64 (x := i + 1) (by omega) (by omega), w64 (x := i + 2) (by omega) (by omega)]
      simp only [show 0 ≤ i + 1 by omega, show i + 1 < (s.size : Int) by omega, ↓reduceIte]
    · refine Ev.bind (l2Value_ev _) ?_
      refine Ev.bind (l2Value_ev _) ?_
      simp only [fhGo]
      by_cases c1 : hval (bt s i) < 0
      · simp only [c1, ↓reduceIte]; exact Ev.now _
      · by_cases c2 : hval (bt s (i + 1)) < 0
        · simp only [c1, c2, ↓reduceIte]; exact Ev.now _
        · have e : wrap64 (wrap64 (16 * hval (bt s i)) + hval (bt s (i + 1))) % 256 = 16 * hval (bt s i) + hval (bt s (i + 1)) := by
            rw [w64 (x := 16 * _) (by omega) (by omega), w64 (by omega) (by omega)]; omega
          simp only [c1, c2, ↓reduceIte, e, show acc.length < 140737488355328 by omega]
          exact ih s (i + 2) _ (by omega) (by omega) h2 (by simp; omega)
theorem specFromHex_ev (s : ByteArray) (hs : s.size ≤ 140737488355328) : Ev (fun k => spec_FromHex.f k s) (fromHex s) := by
  unfold spec_FromHex.f fromHex
  simp only [Option.bind_some]
  by_cases h1 : (s.size : Int) % 2 = 1
  · simp only [h1, ↓reduceIte, true_or]
    refine Ev.step (f := fun _ => some ([], false)) (fun k => ?_) (Ev.now _)
    simp only [spec_FromHex.j0, ↓reduceIte]
  · by_cases h2 : (s.size : Int) > 8000
    · simp only [h1, h2, ↓reduceIte, or_true, decide_true]
      refine Ev.step (f := fun _ => some ([], false)) (fun k => ?_) (Ev.now _)
      simp only [spec_FromHex.j0, ↓reduceIte]
    · simp only [h1, h2, ↓reduceIte, or_self, decide_false]
      refine Ev.step (f := fun k => spec_FromHex.l0 k s [] 0) (fun k => ?_) ?_
      · simp only [spec_FromHex.j0]; rfl
      · exact specFromHex_l _ s 0 [] (by omega) (by omega) (by omega) (by simp; omega)

theorem hexValue_l (d : Nat) : ∀ (c i : Int), 0 ≤ i → i + d = 16 → Ev (fun k => impl_hexValue.l0 k c i) (hvalF d c i) := by
  induction d with
  | zero =>
    intro c i h0 h1
    refine Ev.step (f := fun _ => some (-1)) (fun k => ?_) (Ev.now _)
    simp only [impl_hexValue.l0]
    rw [if_neg (by omega)]
  | succ d ih =>
    intro c i h0 h1
    by_cases h : hexd i = c
    · refine Ev.step (f := fun _ => some i) (fun k => ?_) ?_
      · simp only [impl_hexValue.l0]
        have h' := h; unfold hexd at h'
        rw [if_pos (by omega), if_pos h0, if_pos h']
      · simp only [hvalF, h, ↓reduceIte]; exact Ev.now _
    · refine Ev.step (f := fun k => impl_hexValue.l0 k c (i + 1)) (fun k => ?_) ?_
      · simp only [impl_hexValue.l0]
        have h' := h; unfold hexd at h'
        rw [if_pos (by omega), if_pos h0, if_neg h', w64 (by omega) (by omega)]
      · simp only [hvalF, h, ↓reduceIte]; exact ih c (i + 1) (by omega) (by omega)
theorem hexValue_ev (c : Int) : Ev (fun k => impl_hexValue.f k c) (hval c) := hexValue_l 16 c 0 (by omega) (by omega)

theorem implFromHex_l (d : Nat) : ∀ (s : ByteArray) (i : Int) (acc : List Int), 0 ≤ i → i + 2 * d = s.size → s.size ≤ 8000 → acc.length + d ≤ 8000 → Ev (fun k => impl_FromHex.l0 k s acc i) (fhGo d s i acc) := by
  induction d with
  | zero =>
    intro s i acc h0 h1 h2 h3
    refine Ev.step (f := fun _ => some (acc, true)) (fun k => ?_) (Ev.now _)
    simp only [impl_FromHex.l0]
    rw [if_neg (by omega)]
  | succ d ih =>
    intro s i acc h0 h1 h2 h3
    have b1 := hval_b (bt s i)
    have b2 := hval_b (bt s (i + 1))
    refine Ev.step (f := fun k => (impl_hexValue.f k (bt s i)).bind fun t1 => (impl_hexValue.f k (bt s (i + 1))).bind fun t2 => if t1 < 0 then some ([], false) else if t2 < 0 then some ([], false) else if acc.length < 140737488355328 then impl_FromHex.l0 k s (acc ++ [(wrap64 (wrap64 (16 * t1) + t2)) % 256]) (i + 2) else none) (fun k => ?_) ?_
    · simp only [impl_FromHex.l0]
      rw [if_pos (by omega), if_pos h0, w64 (x := i + 1) (by omega) (by omega), w64 (x := i + 2) (by omega) (by omega)]
      simp only [show 0 ≤ i + 1 by omega, show i + 1 < (s.size : Int) by omega, ↓reduceIte]
    · refine Ev.bind (hexValue_ev _) ?_
      refine Ev.bind (hexValue_ev _) ?_
      simp only [fhGo]
      by_cases c1 : hval (bt s i) < 0
      · simp only [c1, ↓reduceIte]; exact Ev.now _
      · by_cases c2 : hval (bt s (i + 1)) < 0
        · simp only [c1, c2, ↓reduceIte]; exact Ev.now _
        · have e : wrap64 (wrap64 (16 * hval (bt s i)) + hval (bt s (i + 1))) % 256 = 16 * hval (bt s i) + hval (bt s (i + 1)) := by
            rw [w64 (x := 16 * _) (by omega) (by omega), w64 (by omega) (by omega)]; omega
          simp only [c1, c2, ↓reduceIte, e, show acc.length < 140737488355328 by omega]
          exact ih s (i + 2) _ (by omega) (by omega) h2 (by simp; omega)
theorem implFromHex_ev (s : ByteArray) (hs : s.size ≤ 140737488355328) : Ev (fun k => impl_FromHex.f k s) (fromHex s) := by
  unfold impl_FromHex.f fromHex
  by_cases h1 : (s.size : Int) % 2 = 1
  · simp only [h1, ↓reduceIte, true_or]
    refine Ev.step (f := fun _ => some ([], false)) (fun k => ?_) (Ev.now _)
    simp only [impl_FromHex.j0, ↓reduceIte]
  · by_cases h2 : (s.size : Int) > 8000
    · simp only [h1, h2, ↓reduceIte, or_true, decide_true]
      refine Ev.step (f := fun _ => some ([], false)) (fun k => ?_) (Ev.now _)
      simp only [impl_FromHex.j0, ↓reduceIte]
    · simp only [h1, h2, ↓reduceIte, or_self, decide_false]
      refine Ev.step (f := fun k => impl_FromHex.l0 k s [] 0) (fun k => ?_) ?_
      · simp only [impl_FromHex.j0]; rfl
      · exact implFromHex_l _ s 0 [] (by omega) (by omega) (by omega) (by simp; omega)

theorem eqByteS_l (l : List Int) (hl : l.length ≤ 140737488355328) (d : Nat) : ∀ i : Nat, i + d = l.length → Ev (fun k => laws_eqByteS.l0 k l l (i : Int)) true := by
  induction d with
  | zero =>
    intro i hi
    refine Ev.step (f := fun _ => some true) (fun k => ?_) (Ev.now _)
    simp only [laws_eqByteS.l0]
    rw [if_neg (by omega)]
  | succ d ih =>
    intro i hi
    refine Ev.step (f := fun k => laws_eqByteS.l0 k l l ((i + 1 : Nat) : Int)) (fun k => ?_) (ih (i + 1) (by omega))
    simp only [laws_eqByteS.l0]
    rw [if_pos (by omega), if_pos (by omega), if_pos (by omega), if_pos trivial, w64 (by omega) (by omega)]
    rfl
theorem eqByteS_ev (l : List Int) (hl : l.length ≤ 140737488355328) : Ev (fun k => laws_eqByteS.f k l l) true := by
  refine Ev.congr (fun k => ?_) (eqByteS_l l hl l.length 0 (by omega))
  unfold laws_eqByteS.f
  rw [if_pos rfl]; rfl

def marks : Nat → Int → List Int
  | 0, _ => []
  | n + 1, q => (q % 256) :: marks n (q + 1)
theorem marks_length : ∀ (n : Nat) (q : Int), (marks n q).length = n
  | 0, _ => rfl
  | n + 1, q => by rw [marks, List.length_cons, marks_length n]
theorem mark_l (rest : List Int) : ∀ (P : List Int) (q : Int), P.length + rest.length ≤ 140737488355328 → 0 ≤ q → q + rest.length ≤ 281474976710656 →
    Ev (fun k => laws_markByteS.l0 k (P ++ rest) q (P.length : Int)) (q + rest.length, P ++ marks rest.length q) := by
  induction rest with
  | nil =>
    intro P q hl h0 h1
    refine Ev.step (f := fun _ => some (q, P)) (fun k => ?_) ?_
    · simp only [laws_markByteS.l0]
      rw [if_neg (by simp)]; simp
    · simp [marks]; exact Ev.now _
  | cons a rest ih =>
    intro P q hl h0 h1
    simp only [List.length_cons] at hl h1
    have h := ih (P ++ [q % 256]) (q + 1) (by simp; omega) (by omega) (by omega)
    refine Ev.step (f := fun k => laws_markByteS.l0 k ((P ++ [q % 256]) ++ rest) (q + 1) ((P ++ [q % 256]).length : Int)) (fun k => ?_) ?_
    · simp only [laws_markByteS.l0]
      rw [if_pos (by simp; omega), if_pos (by omega), w64 (by omega) (by omega), w64 (by omega) (by omega), Int.toNat_natCast, List.set_append_right _ _ (Nat.le_refl _), Nat.sub_self, List.set_cons_zero]
      simp
    · have e : (q + 1 + (rest.length : Int), P ++ [q % 256] ++ marks rest.length (q + 1)) = (q + ((a :: rest).length : Int), P ++ marks (a :: rest).length q) := by
        simp [marks]; omega
      rw [← e]; exact h
theorem held_l (n : Nat) : ∀ (P : List Int) (q : Int), P.length + n ≤ 140737488355328 → 0 ≤ q → q + n ≤ 281474976710656 →
    Ev (fun k => laws_heldByteS.l0 k (P ++ marks n q) q (P.length : Int)) (q + n) := by
  induction n with
  | zero =>
    intro P q hl h0 h1
    refine Ev.step (f := fun _ => some q) (fun k => ?_) ?_
    · simp only [laws_heldByteS.l0]
      rw [if_neg (by simp [marks])]
    · simp; exact Ev.now _
  | succ n ih =>
    intro P q hl h0 h1
    have h := ih (P ++ [q % 256]) (q + 1) (by simp; omega) (by omega) (by omega)
    have e : P ++ marks (n + 1) q = P ++ [q % 256] ++ marks n (q + 1) := by simp [marks]
    have el : (P ++ marks (n + 1) q).length = P.length + (n + 1) := by rw [List.length_append, marks_length]
    refine Ev.step (f := fun k => laws_heldByteS.l0 k ((P ++ [q % 256]) ++ marks n (q + 1)) (q + 1) ((P ++ [q % 256]).length : Int)) (fun k => ?_) ?_
    · simp only [laws_heldByteS.l0]
      rw [if_pos (by rw [el]; omega), if_pos (by omega), if_pos (by rw [rd_nat]; simp [marks]), w64 (by omega) (by omega), w64 (by omega) (by omega), e]
      simp
    · have e2 : (q + 1 + (n : Int)) = q + ((n + 1 : Nat) : Int) := by omega
      rw [← e2]; exact h
theorem mark_ev (l : List Int) (q : Int) (hl : l.length ≤ 140737488355328) (h0 : 0 ≤ q) (h1 : q ≤ 140737488355328) : Ev (fun k => laws_markByteS.f k l q) (q + l.length, marks l.length q) := by
  have h := mark_l l [] q (by simpa using hl) h0 (by omega)
  simpa [laws_markByteS.f] using h
theorem held_ev (n : Nat) (q : Int) (hl : n ≤ 140737488355328) (h0 : 0 ≤ q) (h1 : q ≤ 140737488355328) : Ev (fun k => laws_heldByteS.f k (marks n q) q) (q + n) := by
  have h := held_l n [] q (by simpa using hl) h0 (by omega)
  simpa [laws_heldByteS.f] using h

theorem FnExactFromHex : laws_FnExactFromHex.Pure := by
  intro s hs
  have hl := fromHex_len s
  apply Ev.rounds
  unfold laws_FnExactFromHex.f
  by_cases h : (s.size : Int) > 1048576
  · simp only [h, ↓reduceIte]; exact Ev.now _
  · simp only [h, ↓reduceIte]
    refine Ev.bind (specFromHex_ev s (by omega)) ?_
    refine Ev.bind (implFromHex_ev s (by omega)) ?_
    refine Ev.bind (eqByteS_ev _ (by omega)) ?_
    simp only [↓reduceIte, bne_self_eq_false]
    refine Ev.step (fun k => by simp only [laws_FnExactFromHex.j0, Bool.false_eq_true, ↓reduceIte]; rfl) ?_
    refine Ev.bind (mark_ev _ 1 (by omega) (by omega) (by omega)) ?_
    refine Ev.bind (held_ev _ 1 (by omega) (by omega) (by omega)) ?_
    simp only [show ¬ (1 + ((fromHex s).1.length : Int) < 0) by omega, ↓reduceIte]
    refine Ev.bind (implFromHex_ev s (by omega)) ?_
    refine Ev.bind (eqByteS_ev _ (by omega)) ?_
    simp only [↓reduceIte, bne_self_eq_false]
    refine Ev.step (fun k => by simp only [laws_FnExactFromHex.j1, Bool.false_eq_true, ↓reduceIte]; rfl) ?_
    refine Ev.bind (held_ev _ 1 (by omega) (by omega) (by omega)) ?_
    simp only [show ¬ (1 + ((fromHex s).1.length : Int) < 0) by omega, ↓reduceIte]
    exact Ev.now _

end Go.Proofs.Ythllconiffponaa.Pure
