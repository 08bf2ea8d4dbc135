/- Sum of the program and of the reference give the same number for every slice of bytes, and the program leaves the slice as it was; no condition. -/
import Derived.Test.YthllconiffponaaPFnExactSumx1
namespace Go.Proofs.Ythllconiffponaa.Pure
open Go.RowKit Go.Proofs.Ythllconiffponaa.PFnExactSum Go.Proofs.YthllconiffponaaW.PrintWords Go.Proofs.YthllconiffponaaW.PrintLast
theorem w64 {x : Int} (h0 : -9223372036854775808 ≤ x) (h1 : x ≤ 9223372036854775807) : wrap64 x = x := by
  unfold wrap64; omega
def By (l : List Int) : Prop := ∀ x ∈ l, 0 ≤ x ∧ x ≤ 255
theorem by_wf {l : List Int} (h : ∀ x ∈ l, (Lit.int .u8 x).wf = true) : By l := fun x hx => by
  have := h x hx
  simpa [Lit.wf, IntKind.min, IntKind.max, IntKind.bits, IntKind.signed] using this
theorem i64_wf {x : Int} (h : (Lit.int .i64 x).wf = true) : -9223372036854775808 ≤ x ∧ x ≤ 9223372036854775807 := by
  simpa [Lit.wf, IntKind.min, IntKind.max, IntKind.bits, IntKind.signed] using h
theorem rd_nat (l : List Int) (i : Nat) : rd l (i : Int) = l.getD i 0 := by simp [rd]
theorem By.at_ {l : List Int} (h : By l) (i : Int) : 0 ≤ rd l i ∧ rd l i ≤ 255 := by
  unfold rd
  rw [List.getD_eq_getElem?_getD]
  rcases Nat.lt_or_ge i.toNat l.length with hi | hi
  · rw [List.getElem?_eq_getElem hi]; exact h _ (List.getElem_mem hi)
  · rw [List.getElem?_eq_none hi]; simp
theorem wraps_i64 (n : Int) (h₀ : 0 ≤ n) (h₁ : n < 2 ^ 63) : IntKind.i64.wrap n = n := by rw [IntKind.wrap_i64]; omega
theorem and_mask (i : Nat) (hi : i ≤ 63) {x : Int} (h₀ : 0 ≤ x) (h₁ : x ≤ 9223372036854775807) : Go.bits .and .i64 x (2 ^ i - 1) = x % 2 ^ i :=
  bits_mask .i64 63 (by decide) wraps_i64 i hi x h₀ (by omega)
theorem or_join (i : Nat) {x y : Int} (hx₀ : 0 ≤ x) (hx : x % 2 ^ i = 0) (hx₁ : x ≤ 9223372036854775807) (hy₀ : 0 ≤ y) (hy : y < 2 ^ i) (hy₁ : y ≤ 9223372036854775807) : Go.bits .or .i64 x y = x + y :=
  bits_join .i64 63 (by decide) wraps_i64 i x y hx₀ hx (by omega) hy₀ hy (by omega)

def sumGo : List Int → Int → Int → Int
  | [], x, y => 65536 * y + x
  | c :: t, x, y => sumGo t ((x + c) % 65521) ((y + (x + c) % 65521) % 65521)
theorem sumGo_b (l : List Int) : ∀ x y : Int, 0 ≤ x → x < 65521 → 0 ≤ y → y < 65521 → 0 ≤ sumGo l x y ∧ sumGo l x y < 4294967296 := by
  induction l with
  | nil => intro x y h0 h1 h2 h3; simp only [sumGo]; omega
  | cons c t ih =>
    intro x y h0 h1 h2 h3
    exact ih _ _ (by omega) (by omega) (by omega) (by omega)
def sumOf (l : List Int) : Int := sumGo l 1 0
theorem sumOf_b (l : List Int) : 0 ≤ sumOf l ∧ sumOf l < 4294967296 := sumGo_b l 1 0 (by omega) (by omega) (by omega) (by omega)
theorem rd_mid (P : List Int) (c : Int) (t : List Int) : rd (P ++ c :: t) (P.length : Int) = c := by rw [rd_nat]; simp

theorem specSum_l (rest : List Int) : ∀ (P : List Int) (x y : Int), By rest → P.length + rest.length ≤ 140737488355328 → 0 ≤ x → x < 65521 → 0 ≤ y → y < 65521 → Ev (fun k => spec_Sum.l0 k (P ++ rest) x y (P.length : Int)) (sumGo rest x y) := by
  induction rest with
  | nil =>
    intro P x y hb hl h0 h1 h2 h3
    refine Ev.step (f := fun _ => some (65536 * y + x)) (fun k => ?_) (Ev.now _)
    simp only [spec_Sum.l0]
    rw [if_neg (by simp), w64 (x := 65536 * y) (by omega) (by omega), w64 (by omega) (by omega)]
  | cons c t ih =>
    intro P x y hb hl h0 h1 h2 h3
    have hc := hb c (by simp)
    simp only [List.length_cons] at hl
    have h := ih (P ++ [c]) ((x + c) % 65521) ((y + (x + c) % 65521) % 65521) (fun z hz => hb z (by simp [hz])) (by simp; omega) (by omega) (by omega) (by omega) (by omega)
    refine Ev.step (fun k => ?_) h
    simp only [spec_Sum.l0]
    rw [if_pos (by simp; omega), if_pos (by omega), rd_mid, w64 (x := c) (by omega) (by omega), w64 (x := x + c) (by omega) (by omega), Int.tmod_eq_emod_of_nonneg (by omega), w64 (x := y + _) (by omega) (by omega), Int.tmod_eq_emod_of_nonneg (by omega), w64 (by omega) (by omega)]
    simp
theorem specSum_ev (l : List Int) (hb : By l) (hl : l.length ≤ 140737488355328) : Ev (fun k => spec_Sum.f k l) (sumOf l) := by
  have h := specSum_l l [] 1 0 hb (by simpa using hl) (by omega) (by omega) (by omega) (by omega)
  simpa [spec_Sum.f, sumOf] using h

theorem implSum_l (rest : List Int) : ∀ (P : List Int) (x y n : Int), n = P.length + rest.length → By rest → P.length + rest.length ≤ 140737488355328 → 0 ≤ x → x < 65521 → 0 ≤ y → y < 65521 → Ev (fun k => impl_Sum.l0 k x y (P ++ rest) n (P.length : Int)) (sumGo rest x y) := by
  induction rest with
  | nil =>
    intro P x y n hn hb hl h0 h1 h2 h3
    refine Ev.step (f := fun _ => some (65536 * y + x)) (fun k => ?_) (Ev.now _)
    simp only [impl_Sum.l0]
    rw [if_neg (by simp at hn; omega), w64 (x := 65536 * y) (by omega) (by omega), w64 (by omega) (by omega)]
  | cons c t ih =>
    intro P x y n hn hb hl h0 h1 h2 h3
    have hc := hb c (by simp)
    simp only [List.length_cons] at hl hn
    have h := ih (P ++ [c]) ((x + c) % 65521) ((y + (x + c) % 65521) % 65521) n (by simp; omega) (fun z hz => hb z (by simp [hz])) (by simp; omega) (by omega) (by omega) (by omega) (by omega)
    refine Ev.step (fun k => ?_) h
    simp only [impl_Sum.l0]
    rw [if_pos (by omega), if_pos (by omega), if_pos (by simp; omega), rd_mid, w64 (x := c) (by omega) (by omega), w64 (x := x + c) (by omega) (by omega), Int.tmod_eq_emod_of_nonneg (by omega), w64 (x := y + _) (by omega) (by omega), Int.tmod_eq_emod_of_nonneg (by omega), w64 (by omega) (by omega)]
    simp
theorem implSum_ev (l : List Int) (hb : By l) (hl : l.length ≤ 140737488355328) : Ev (fun k => impl_Sum.f k l) (sumOf l) := by
  have h := implSum_l l [] 1 0 l.length (by simp) hb (by simpa using hl) (by omega) (by omega) (by omega) (by omega)
  simpa [impl_Sum.f, sumOf] using h

theorem set_fill (l : List Int) (i d : Nat) (hi : i + (d + 1) = l.length) : (l.take i ++ List.replicate (d + 1) 0).set i (l.getD i 0) = l.take (i + 1) ++ List.replicate d 0 := by
  have hlt : i < l.length := by omega
  have h1 : (l.take i).length = i := by rw [List.length_take]; omega
  rw [List.set_append_right _ _ (by omega), h1, Nat.sub_self, List.replicate_succ, List.set_cons_zero, List.take_succ_eq_append_getElem hlt, List.append_assoc]
  simp [List.getD_eq_getElem?_getD, hlt]
theorem toByteS_l (l : List Int) (hl : l.length ≤ 140737488355328) (d : Nat) : ∀ i : Nat, i + d = l.length → Ev (fun k => laws_toByteS.l0 k l (l.take i ++ List.replicate d 0) (i : Int)) l := by
  induction d with
  | zero =>
    intro i hi
    refine Ev.step (f := fun _ => some l) (fun k => ?_) (Ev.now _)
    simp only [laws_toByteS.l0]
    rw [if_neg (by omega)]
    have : l.take i = l := List.take_of_length_le (by omega)
    simp [this]
  | succ d ih =>
    intro i hi
    refine Ev.step (f := fun k => laws_toByteS.l0 k l (l.take (i + 1) ++ List.replicate d 0) ((i + 1 : Nat) : Int)) (fun k => ?_) (ih (i + 1) (by omega))
    simp only [laws_toByteS.l0]
    rw [if_pos (by omega), if_pos (by omega), if_pos (by simp; omega), w64 (by omega) (by omega), rd_nat, Int.toNat_natCast, set_fill l i d hi]
    rfl
theorem toByteS_ev (l : List Int) (hl : l.length ≤ 140737488355328) : Ev (fun k => laws_toByteS.f k l) l := by
  refine Ev.congr (fun k => ?_) (toByteS_l l hl l.length 0 (by omega))
  unfold laws_toByteS.f
  rw [if_pos (by omega), if_pos (by simp; omega)]
  simp

theorem eqByteS_l (l : List Int) (hl : l.length ≤ 140737488355328) (d : Nat) : ∀ i : Nat, i + d = l.length → Ev (fun k => laws_eqByteS.l0 k l l (i : Int)) true := by
  induction d with
  | zero =>
    intro i hi
    refine Ev.step (f := fun _ => some true) (fun k => ?_) (Ev.now _)
    simp only [laws_eqByteS.l0]
    rw [if_neg (by omega)]
  | succ d ih =>
    intro i hi
    refine Ev.step (f := fun k => laws_eqByteS.l0 k l l ((i + 1 : Nat) : Int)) (fun k => ?_) (ih (i + 1) (by omega))
    simp only [laws_eqByteS.l0]
    rw [if_pos (by omega), if_pos (by omega), if_pos (by omega), if_pos trivial, w64 (by omega) (by omega)]
    rfl
theorem eqByteS_ev (l : List Int) (hl : l.length ≤ 140737488355328) : Ev (fun k => laws_eqByteS.f k l l) true := by
  refine Ev.congr (fun k => ?_) (eqByteS_l l hl l.length 0 (by omega))
  unfold laws_eqByteS.f
  rw [if_pos rfl]; rfl

theorem FnExactSum : laws_FnExactSum.Pure := by
  intro l hm hl hw
  have hb := by_wf hw
  apply Ev.rounds
  unfold laws_FnExactSum.f
  by_cases h : (l.length : Int) > 1048576
  · simp only [h, ↓reduceIte]; exact Ev.now _
  · simp only [h, ↓reduceIte]
    refine Ev.bind (toByteS_ev l (by omega)) ?_
    refine Ev.bind (specSum_ev l hb (by omega)) ?_
    refine Ev.bind (toByteS_ev l (by omega)) ?_
    refine Ev.bind (implSum_ev l hb (by omega)) ?_
    simp only [↓reduceIte]
    refine Ev.bind (toByteS_ev l (by omega)) ?_
    refine Ev.bind (eqByteS_ev l (by omega)) ?_
    simp only [↓reduceIte]
    exact Ev.now _

end Go.Proofs.Ythllconiffponaa.Pure
