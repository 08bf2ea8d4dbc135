/- Seal of the program and of the reference give the same bytes and the same word for all bytes, in memory of their own, and the program leaves its argument as it was; no condition. -/
import Derived.Test.YthllconiffponaaPFnExactSealx2
namespace Go.Proofs.Ythllconiffponaa.Pure
open Go.RowKit Go.Proofs.Ythllconiffponaa.PFnExactSeal Go.Proofs.YthllconiffponaaW.PrintWords Go.Proofs.YthllconiffponaaW.PrintLast
theorem w64 {x : Int} (h0 : -9223372036854775808 ≤ x) (h1 : x ≤ 9223372036854775807) : wrap64 x = x := by
  unfold wrap64; omega
def By (l : List Int) : Prop := ∀ x ∈ l, 0 ≤ x ∧ x ≤ 255
theorem by_wf {l : List Int} (h : ∀ x ∈ l, (Lit.int .u8 x).wf = true) : By l := fun x hx => by
  have := h x hx
  simpa [Lit.wf, IntKind.min, IntKind.max, IntKind.bits, IntKind.signed] using this
theorem i64_wf {x : Int} (h : (Lit.int .i64 x).wf = true) : -9223372036854775808 ≤ x ∧ x ≤ 9223372036854775807 := by
  simpa [Lit.wf, IntKind.min, IntKind.max, IntKind.bits, IntKind.signed] using h
theorem rd_nat (l : List Int) (i : Nat) : rd l (i : Int) = l.getD i 0 := by simp [rd]
theorem By.at_ {l : List Int} (h : By l) (i : Int) : 0 ≤ rd l i ∧ rd l i ≤ 255 := by
  unfold rd
  rw [List.getD_eq_getElem?_getD]
  rcases Nat.lt_or_ge i.toNat l.length with hi | hi
  · rw [List.getElem?_eq_getElem hi]; exact h _ (List.getElem_mem hi)
  · rw [List.getElem?_eq_none hi]; simp
theorem wraps_i64 (n : Int) (h₀ : 0 ≤ n) (h₁ : n < 2 ^ 63) : IntKind.i64.wrap n = n := by rw [IntKind.wrap_i64]; omega
theorem and_mask (i : Nat) (hi : i ≤ 63) {x : Int} (h₀ : 0 ≤ x) (h₁ : x ≤ 9223372036854775807) : Go.bits .and .i64 x (2 ^ i - 1) = x % 2 ^ i :=
  bits_mask .i64 63 (by decide) wraps_i64 i hi x h₀ (by omega)
theorem or_join (i : Nat) {x y : Int} (hx₀ : 0 ≤ x) (hx : x % 2 ^ i = 0) (hx₁ : x ≤ 9223372036854775807) (hy₀ : 0 ≤ y) (hy : y < 2 ^ i) (hy₁ : y ≤ 9223372036854775807) : Go.bits .or .i64 x y = x + y :=
  bits_join .i64 63 (by decide) wraps_i64 i x y hx₀ hx (by omega) hy₀ hy (by omega)

def sumGo : List Int → Int → Int → Int
  | [], x, y => 65536 * y + x
  | c :: t, x, y => sumGo t ((x + c) % 65521) ((y + (x + c) % 65521) % 65521)
theorem sumGo_b (l : List Int) : ∀ x y : Int, 0 ≤ x → x < 65521 → 0 ≤ y → y < 65521 → 0 ≤ sumGo l x y ∧ sumGo l x y < 4294967296 := by
  induction l with
  | nil => intro x y h0 h1 h2 h3; simp only [sumGo]; omega
  | cons c t ih =>
    intro x y h0 h1 h2 h3
    exact ih _ _ (by omega) (by omega) (by omega) (by omega)
def sumOf (l : List Int) : Int := sumGo l 1 0
theorem sumOf_b (l : List Int) : 0 ≤ sumOf l ∧ sumOf l < 4294967296 := sumGo_b l 1 0 (by omega) (by omega) (by omega) (by omega)
theorem rd_mid (P : List Int) (c : Int) (t : List Int) : rd (P ++ c :: t) (P.length : Int) = c := by rw [rd_nat]; simp

def putNum (x : Int) : List Int := if h : x > 127 then (x % 128 + 128) :: putNum (x / 128) else [x]
termination_by x.toNat
decreasing_by omega
theorem putNum_big {x : Int} (h : x > 127) : putNum x = (x % 128 + 128) :: putNum (x / 128) := by rw [putNum]; simp [h]
theorem putNum_small {x : Int} (h : ¬ x > 127) : putNum x = [x] := by rw [putNum]; simp [h]
theorem putNum_by (m : Nat) : ∀ x : Int, 0 ≤ x → x < 128 ^ (m + 1) → By (putNum x) ∧ (putNum x).length ≤ m + 1 ∧ 1 ≤ (putNum x).length := by
  induction m with
  | zero =>
    intro x h0 h1
    have h1 : x < 128 := by simpa using h1
    rw [putNum_small (by omega)]
    refine ⟨fun y hy => ?_, by simp, by simp⟩
    simp at hy; omega
  | succ m ih =>
    intro x h0 h1
    by_cases h : x > 127
    · rw [putNum_big h]
      obtain ⟨h2, h3, h4⟩ := ih (x / 128) (by omega) (by rw [Int.pow_succ] at h1; omega)
      refine ⟨fun y hy => ?_, by simp; omega, by simp⟩
      rcases List.mem_cons.1 hy with rfl | hy
      · omega
      · exact h2 y hy
    · rw [putNum_small h]
      refine ⟨fun y hy => ?_, by simp, by simp⟩
      simp at hy; omega
theorem putNum_b9 {x : Int} (h0 : 0 ≤ x) (h1 : x ≤ 9223372036854775807) : By (putNum x) ∧ (putNum x).length ≤ 9 ∧ 1 ≤ (putNum x).length := putNum_by 8 x h0 (by omega)

def sum4 (l : List Int) : List Int := [sumOf l % 256, sumOf l / 256 % 256, sumOf l / 65536 % 256, sumOf l / 16777216 % 256]
def sealed (l : List Int) : List Int := putNum l.length ++ l ++ sum4 l
def sealOf (l : List Int) : List Int × Bool := if l.length > 3000 then ([], false) else (sealed l, true)
theorem sealOf_len (l : List Int) : (sealOf l).1.length ≤ 3013 := by
  unfold sealOf
  split
  · simp
  · have := (putNum_b9 (x := l.length) (by omega) (by omega)).2.1
    simp [sealed, sum4]; omega

theorem specSum_l (rest : List Int) : ∀ (P : List Int) (x y : Int), By rest → P.length + rest.length ≤ 140737488355328 → 0 ≤ x → x < 65521 → 0 ≤ y → y < 65521 → Ev (fun k => spec_Sum.l0 k (P ++ rest) x y (P.length : Int)) (sumGo rest x y) := by
  induction rest with
  | nil =>
    intro P x y hb hl h0 h1 h2 h3
    refine Ev.step (f := fun _ => some (65536 * y + x)) (fun k => ?_) (Ev.now _)
    simp only [spec_Sum.l0]
    rw [if_neg (by simp), w64 (x := 65536 * y) (by omega) (by omega), w64 (by omega) (by omega)]
  | cons c t ih =>
    intro P x y hb hl h0 h1 h2 h3
    have hc := hb c (by simp)
    simp only [List.length_cons] at hl
    have h := ih (P ++ [c]) ((x + c) % 65521) ((y + (x + c) % 65521) % 65521) (fun z hz => hb z (by simp [hz])) (by simp; omega) (by omega) (by omega) (by omega) (by omega)
    refine Ev.step (fun k => ?_) h
    simp only [spec_Sum.l0]
    rw [if_pos (by simp; omega), if_pos (by omega), rd_mid, w64 (x := c) (by omega) (by omega), w64 (x := x + c) (by omega) (by omega), Int.tmod_eq_emod_of_nonneg (by omega), w64 (x := y + _) (by omega) (by omega), Int.tmod_eq_emod_of_nonneg (by omega), w64 (by omega) (by omega)]
    simp
theorem specSum_ev (l : List Int) (hb : By l) (hl : l.length ≤ 140737488355328) : Ev (fun k => spec_Sum.f k l) (sumOf l) := by
  have h := specSum_l l [] 1 0 hb (by simpa using hl) (by omega) (by omega) (by omega) (by omega)
  simpa [spec_Sum.f, sumOf] using h

theorem specPutNum_l (m : Nat) : ∀ (x : Int) (acc : List Int), 0 ≤ x → x ≤ 9223372036854775807 → x < 128 ^ (m + 1) → acc.length + m ≤ 140737488355327 → Ev (fun k => spec_PutNum.l0 k x acc) (acc ++ putNum x) := by
  induction m with
  | zero =>
    intro x acc h0 h9 h1 hl
    have h : ¬ x > 127 := by simp at h1; omega
    refine Ev.step (f := fun _ => some (acc ++ [x])) (fun k => ?_) ?_
    · simp only [spec_PutNum.l0]
      rw [if_neg h, if_pos (by omega)]
      have : x % 256 = x := by omega
      rw [this]
    · rw [putNum_small h]; exact Ev.now _
  | succ m ih =>
    intro x acc h0 h9 h1 hl
    by_cases h : x > 127
    · refine Ev.step (f := fun k => spec_PutNum.l0 k (x / 128) (acc ++ [x % 128 + 128])) (fun k => ?_) ?_
      · simp only [spec_PutNum.l0]
        rw [if_pos h, if_pos (by omega), Int.tdiv_eq_ediv_of_nonneg h0, Int.tmod_eq_emod_of_nonneg h0, w64 (by omega) (by omega), w64 (by omega) (by omega)]
        have : (x % 128 + 128) % 256 = x % 128 + 128 := by omega
        rw [this]
      · have := ih (x / 128) (acc ++ [x % 128 + 128]) (by omega) (by omega) (by rw [Int.pow_succ] at h1; omega) (by simp; omega)
        rw [putNum_big h]; simpa using this
    · refine Ev.step (f := fun _ => some (acc ++ [x])) (fun k => ?_) ?_
      · simp only [spec_PutNum.l0]
        rw [if_neg h, if_pos (by omega)]
        have : x % 256 = x := by omega
        rw [this]
      · rw [putNum_small h]; exact Ev.now _
theorem specPutNum_ev {x : Int} (h0 : 0 ≤ x) (h1 : x ≤ 9223372036854775807) : Ev (fun k => spec_PutNum.f k x) (putNum x) := by
  have h := specPutNum_l 8 x [] h0 h1 (by omega) (by simp)
  refine Ev.congr (fun k => ?_) h
  unfold spec_PutNum.f
  simp only [Option.bind_some]
  rw [if_neg (by omega)]
theorem specPutNum_neg {x : Int} (h0 : x < 0) : Ev (fun k => spec_PutNum.f k x) [] := by
  refine Ev.congr (fun k => ?_) (Ev.now _)
  unfold spec_PutNum.f
  simp only [Option.bind_some]
  rw [if_pos h0]

theorem specSeal_ev (l : List Int) (hb : By l) : Ev (fun k => spec_Seal.f k l) (sealOf l) := by
  unfold spec_Seal.f sealOf
  by_cases h : l.length > 3000
  · have h' : (l.length : Int) > 3000 := by omega
    simp only [h, h', ↓reduceIte]; exact Ev.now _
  · have h' : ¬ (l.length : Int) > 3000 := by omega
    have hp := (putNum_b9 (x := l.length) (by omega) (by omega)).2.1
    simp only [h, h', ↓reduceIte]
    refine Ev.bind (specSum_ev l hb (by omega)) ?_
    refine Ev.bind (specPutNum_ev (x := l.length) (by omega) (by omega)) ?_
    simp only [Option.bind_some, List.length_append, List.length_cons, List.length_nil, show (putNum (l.length : Int)).length + l.length < 140737488355328 by omega, show (putNum (l.length : Int)).length + l.length + (0 + 1 + 1 + 1 + 1) < 140737488355328 by omega, ↓reduceIte]
    exact Ev.now _

theorem implSum_l (rest : List Int) : ∀ (P : List Int) (x y n : Int), n = P.length + rest.length → By rest → P.length + rest.length ≤ 140737488355328 → 0 ≤ x → x < 65521 → 0 ≤ y → y < 65521 → Ev (fun k => impl_Sum.l0 k x y (P ++ rest) n (P.length : Int)) (sumGo rest x y) := by
  induction rest with
  | nil =>
    intro P x y n hn hb hl h0 h1 h2 h3
    refine Ev.step (f := fun _ => some (65536 * y + x)) (fun k => ?_) (Ev.now _)
    simp only [impl_Sum.l0]
    rw [if_neg (by simp at hn; omega), w64 (x := 65536 * y) (by omega) (by omega), w64 (by omega) (by omega)]
  | cons c t ih =>
    intro P x y n hn hb hl h0 h1 h2 h3
    have hc := hb c (by simp)
    simp only [List.length_cons] at hl hn
    have h := ih (P ++ [c]) ((x + c) % 65521) ((y + (x + c) % 65521) % 65521) n (by simp; omega) (fun z hz => hb z (by simp [hz])) (by simp; omega) (by omega) (by omega) (by omega) (by omega)
    refine Ev.step (fun k => ?_) h
    simp only [impl_Sum.l0]
    rw [if_pos (by omega), if_pos (by omega), if_pos (by simp; omega), rd_mid, w64 (x := c) (by omega) (by omega), w64 (x := x + c) (by omega) (by omega), Int.tmod_eq_emod_of_nonneg (by omega), w64 (x := y + _) (by omega) (by omega), Int.tmod_eq_emod_of_nonneg (by omega), w64 (by omega) (by omega)]
    simp
theorem implSum_ev (l : List Int) (hb : By l) (hl : l.length ≤ 140737488355328) : Ev (fun k => impl_Sum.f k l) (sumOf l) := by
  have h := implSum_l l [] 1 0 l.length (by simp) hb (by simpa using hl) (by omega) (by omega) (by omega) (by omega)
  simpa [impl_Sum.f, sumOf] using h

theorem mask255 {x : Int} (h0 : 0 ≤ x) (h1 : x ≤ 9223372036854775807) : Go.bits .and .i64 x 255 % 256 = x % 256 := by
  have e : Go.bits .and .i64 x 255 = x % 256 := and_mask 8 (by decide) h0 h1
  rw [e]; omega
theorem sumBytes_ev (l : List Int) (hb : By l) (hl : l.length ≤ 140737488355328) : Ev (fun k => impl_sumBytes.f k l) (sum4 l) := by
  unfold impl_sumBytes.f
  have h := sumOf_b l
  refine Ev.bind (implSum_ev l hb hl) ?_
  rw [mask255 (x := sumOf l) (by omega) (by omega), mask255 (x := sumOf l / 256) (by omega) (by omega), mask255 (x := sumOf l / 65536) (by omega) (by omega), mask255 (x := sumOf l / 16777216) (by omega) (by omega)]
  exact Ev.now _

theorem or_and_128 {x : Int} (h0 : 0 ≤ x) (h9 : x ≤ 9223372036854775807) : Go.bits .or .i64 (Go.bits .and .i64 x 127) 128 = x % 128 + 128 := by
  have e1 : Go.bits .and .i64 x 127 = x % 128 := and_mask 7 (by decide) h0 h9
  have e2 : Go.bits .or .i64 (x % 128) 128 = Go.bits .or .i64 128 (x % 128) := by unfold Go.bits; simp only [BitVec.or_comm]
  rw [e1, e2, or_join 7 (by decide) (by decide) (by decide) (by omega) (by omega) (by omega)]
  omega
theorem implPutNum_l (m : Nat) : ∀ (x : Int) (acc : List Int), 0 ≤ x → x ≤ 9223372036854775807 → x < 128 ^ (m + 1) → acc.length + m ≤ 140737488355327 → Ev (fun k => impl_PutNum.l0 k x acc) (acc ++ putNum x) := by
  induction m with
  | zero =>
    intro x acc h0 h9 h1 hl
    have h : ¬ x > 127 := by simp at h1; omega
    refine Ev.step (f := fun _ => some (acc ++ [x])) (fun k => ?_) ?_
    · simp only [impl_PutNum.l0]
      rw [if_neg h, if_pos (by omega)]
      have : x % 256 = x := by omega
      rw [this]
    · rw [putNum_small h]; exact Ev.now _
  | succ m ih =>
    intro x acc h0 h9 h1 hl
    by_cases h : x > 127
    · refine Ev.step (f := fun k => impl_PutNum.l0 k (x / 128) (acc ++ [x % 128 + 128])) (fun k => ?_) ?_
      · simp only [impl_PutNum.l0]
        rw [if_pos h, if_pos (by omega), or_and_128 h0 h9]
        have : (x % 128 + 128) % 256 = x % 128 + 128 := by omega
        rw [this]
      · have := ih (x / 128) (acc ++ [x % 128 + 128]) (by omega) (by omega) (by rw [Int.pow_succ] at h1; omega) (by simp; omega)
        rw [putNum_big h]; simpa using this
    · refine Ev.step (f := fun _ => some (acc ++ [x])) (fun k => ?_) ?_
      · simp only [impl_PutNum.l0]
        rw [if_neg h, if_pos (by omega)]
        have : x % 256 = x := by omega
        rw [this]
      · rw [putNum_small h]; exact Ev.now _
theorem implPutNum_ev {x : Int} (h0 : 0 ≤ x) (h1 : x ≤ 9223372036854775807) : Ev (fun k => impl_PutNum.f k x) (putNum x) := by
  have h := implPutNum_l 8 x [] h0 h1 (by omega) (by simp)
  refine Ev.congr (fun k => ?_) h
  unfold impl_PutNum.f
  rw [if_neg (by omega)]
theorem implPutNum_neg {x : Int} (h0 : x < 0) : Ev (fun k => impl_PutNum.f k x) [] := by
  refine Ev.congr (fun k => ?_) (Ev.now _)
  unfold impl_PutNum.f
  rw [if_pos h0]

theorem implSeal_ev (l : List Int) (hb : By l) : Ev (fun k => impl_Seal.f k l) (sealOf l) := by
  unfold impl_Seal.f sealOf
  by_cases h : l.length > 3000
  · have h' : (l.length : Int) > 3000 := by omega
    simp only [h, h', ↓reduceIte]; exact Ev.now _
  · have h' : ¬ (l.length : Int) > 3000 := by omega
    have hp := (putNum_b9 (x := l.length) (by omega) (by omega)).2.1
    simp only [h, h', ↓reduceIte]
    refine Ev.bind (implPutNum_ev (x := l.length) (by omega) (by omega)) ?_
    simp only [Option.bind_some, show (putNum (l.length : Int)).length + l.length < 140737488355328 by omega, ↓reduceIte]
    refine Ev.bind (sumBytes_ev l hb (by omega)) ?_
    simp only [List.length_append, sum4, List.length_cons, List.length_nil, show (putNum (l.length : Int)).length + l.length + (0 + 1 + 1 + 1 + 1) < 140737488355328 by omega, ↓reduceIte]
    exact Ev.now _

theorem set_fill (l : List Int) (i d : Nat) (hi : i + (d + 1) = l.length) : (l.take i ++ List.replicate (d + 1) 0).set i (l.getD i 0) = l.take (i + 1) ++ List.replicate d 0 := by
  have hlt : i < l.length := by omega
  have h1 : (l.take i).length = i := by rw [List.length_take]; omega
  rw [List.set_append_right _ _ (by omega), h1, Nat.sub_self, List.replicate_succ, List.set_cons_zero, List.take_succ_eq_append_getElem hlt, List.append_assoc]
  simp [List.getD_eq_getElem?_getD, hlt]
theorem toByteS_l (l : List Int) (hl : l.length ≤ 140737488355328) (d : Nat) : ∀ i : Nat, i + d = l.length → Ev (fun k => laws_toByteS.l0 k l (l.take i ++ List.replicate d 0) (i : Int)) l := by
  induction d with
  | zero =>
    intro i hi
    refine Ev.step (f := fun _ => some l) (fun k => ?_) (Ev.now _)
    simp only [laws_toByteS.l0]
    rw [if_neg (by omega)]
    have : l.take i = l := List.take_of_length_le (by omega)
    simp [this]
  | succ d ih =>
    intro i hi
    refine Ev.step (f := fun k => laws_toByteS.l0 k l (l.take (i + 1) ++ List.replicate d 0) ((i + 1 : Nat) : Int)) (fun k => ?_) (ih (i + 1) (by omega))
    simp only [laws_toByteS.l0]
    rw [if_pos (by omega), if_pos (by omega), if_pos (by simp; omega), w64 (by omega) (by omega), rd_nat, Int.toNat_natCast, set_fill l i d hi]
    rfl
theorem toByteS_ev (l : List Int) (hl : l.length ≤ 140737488355328) : Ev (fun k => laws_toByteS.f k l) l := by
  refine Ev.congr (fun k => ?_) (toByteS_l l hl l.length 0 (by omega))
  unfold laws_toByteS.f
  rw [if_pos (by omega), if_pos (by simp; omega)]
  simp

theorem eqByteS_l (l : List Int) (hl : l.length ≤ 140737488355328) (d : Nat) : ∀ i : Nat, i + d = l.length → Ev (fun k => laws_eqByteS.l0 k l l (i : Int)) true := by
  induction d with
  | zero =>
    intro i hi
    refine Ev.step (f := fun _ => some true) (fun k => ?_) (Ev.now _)
    simp only [laws_eqByteS.l0]
    rw [if_neg (by omega)]
  | succ d ih =>
    intro i hi
    refine Ev.step (f := fun k => laws_eqByteS.l0 k l l ((i + 1 : Nat) : Int)) (fun k => ?_) (ih (i + 1) (by omega))
    simp only [laws_eqByteS.l0]
    rw [if_pos (by omega), if_pos (by omega), if_pos (by omega), if_pos trivial, w64 (by omega) (by omega)]
    rfl
theorem eqByteS_ev (l : List Int) (hl : l.length ≤ 140737488355328) : Ev (fun k => laws_eqByteS.f k l l) true := by
  refine Ev.congr (fun k => ?_) (eqByteS_l l hl l.length 0 (by omega))
  unfold laws_eqByteS.f
  rw [if_pos rfl]; rfl

def marks : Nat → Int → List Int
  | 0, _ => []
  | n + 1, q => (q % 256) :: marks n (q + 1)
theorem marks_length : ∀ (n : Nat) (q : Int), (marks n q).length = n
  | 0, _ => rfl
  | n + 1, q => by rw [marks, List.length_cons, marks_length n]
theorem mark_l (rest : List Int) : ∀ (P : List Int) (q : Int), P.length + rest.length ≤ 140737488355328 → 0 ≤ q → q + rest.length ≤ 281474976710656 →
    Ev (fun k => laws_markByteS.l0 k (P ++ rest) q (P.length : Int)) (q + rest.length, P ++ marks rest.length q) := by
  induction rest with
  | nil =>
    intro P q hl h0 h1
    refine Ev.step (f := fun _ => some (q, P)) (fun k => ?_) ?_
    · simp only [laws_markByteS.l0]
      rw [if_neg (by simp)]; simp
    · simp [marks]; exact Ev.now _
  | cons a rest ih =>
    intro P q hl h0 h1
    simp only [List.length_cons] at hl h1
    have h := ih (P ++ [q % 256]) (q + 1) (by simp; omega) (by omega) (by omega)
    refine Ev.step (f := fun k => laws_markByteS.l0 k ((P ++ [q % 256]) ++ rest) (q + 1) ((P ++ [q % 256]).length : Int)) (fun k => ?_) ?_
    · simp only [laws_markByteS.l0]
      rw [if_pos (by simp; omega), if_pos (by omega), w64 (by omega) (by omega), w64 (by omega) (by omega), Int.toNat_natCast, List.set_append_right _ _ (Nat.le_refl _), Nat.sub_self, List.set_cons_zero]
      simp
    · have e : (q + 1 + (rest.length : Int), P ++ [q % 256] ++ marks rest.length (q + 1)) = (q + ((a :: rest).length : Int), P ++ marks (a :: rest).length q) := by
        simp [marks]; omega
      rw [← e]; exact h
theorem held_l (n : Nat) : ∀ (P : List Int) (q : Int), P.length + n ≤ 140737488355328 → 0 ≤ q → q + n ≤ 281474976710656 →
    Ev (fun k => laws_heldByteS.l0 k (P ++ marks n q) q (P.length : Int)) (q + n) := by
  induction n with
  | zero =>
    intro P q hl h0 h1
    refine Ev.step (f := fun _ => some q) (fun k => ?_) ?_
    · simp only [laws_heldByteS.l0]
      rw [if_neg (by simp [marks])]
    · simp; exact Ev.now _
  | succ n ih =>
    intro P q hl h0 h1
    have h := ih (P ++ [q % 256]) (q + 1) (by simp; omega) (by omega) (by omega)
    have e : P ++ marks (n + 1) q = P ++ [q % 256] ++ marks n (q + 1) := by simp [marks]
    have el : (P ++ marks (n + 1) q).length = P.length + (n + 1) := by rw [List.length_append, marks_length]
    refine Ev.step (f := fun k => laws_heldByteS.l0 k ((P ++ [q % 256]) ++ marks n (q + 1)) (q + 1) ((P ++ [q % 256]).length : Int)) (fun k => ?_) ?_
    · simp only [laws_heldByteS.l0]
      rw [if_pos (by rw [el]; omega), if_pos (by omega), if_pos (by rw [rd_nat]; simp [marks]), w64 (by omega) (by omega), w64 (by omega) (by omega), e]
      simp
    · have e2 : (q + 1 + (n : Int)) = q + ((n + 1 : Nat) : Int) := by omega
      rw [← e2]; exact h
theorem mark_ev (l : List Int) (q : Int) (hl : l.length ≤ 140737488355328) (h0 : 0 ≤ q) (h1 : q ≤ 140737488355328) : Ev (fun k => laws_markByteS.f k l q) (q + l.length, marks l.length q) := by
  have h := mark_l l [] q (by simpa using hl) h0 (by omega)
  simpa [laws_markByteS.f] using h
theorem held_ev (n : Nat) (q : Int) (hl : n ≤ 140737488355328) (h0 : 0 ≤ q) (h1 : q ≤ 140737488355328) : Ev (fun k => laws_heldByteS.f k (marks n q) q) (q + n) := by
  have h := held_l n [] q (by simpa using hl) h0 (by omega)
  simpa [laws_heldByteS.f] using h

theorem FnExactSeal : laws_FnExactSeal.Pure := by
  intro l hm hl hw
  have hb := by_wf hw
  have hsl := sealOf_len l
  apply Ev.rounds
  unfold laws_FnExactSeal.f
  by_cases h : (l.length : Int) > 1048576
  · simp only [h, ↓reduceIte]; exact Ev.now _
  · simp only [h, ↓reduceIte]
    refine Ev.bind (toByteS_ev l (by omega)) ?_
    refine Ev.bind (specSeal_ev l hb) ?_
    refine Ev.bind (toByteS_ev l (by omega)) ?_
    refine Ev.bind (implSeal_ev l hb) ?_
    refine Ev.bind (eqByteS_ev _ (by omega)) ?_
    simp only [↓reduceIte, bne_self_eq_false]
    refine Ev.step (fun k => by simp only [laws_FnExactSeal.j0, Bool.false_eq_true, ↓reduceIte]; rfl) ?_
    refine Ev.bind (toByteS_ev l (by omega)) ?_
    refine Ev.bind (eqByteS_ev l (by omega)) ?_
    simp only [↓reduceIte]
    refine Ev.bind (mark_ev l 1 (by omega) (by omega) (by omega)) ?_
    simp only [show ¬ (1 + (l.length : Int) < 0) by omega, ↓reduceIte]
    refine Ev.bind (eqByteS_ev _ (by omega)) ?_
    simp only [↓reduceIte, bne_self_eq_false]
    refine Ev.step (fun k => by simp only [laws_FnExactSeal.j1, Bool.false_eq_true, ↓reduceIte]; rfl) ?_
    refine Ev.bind (mark_ev _ 1 (by omega) (by omega) (by omega)) ?_
    refine Ev.bind (held_ev _ 1 (by omega) (by omega) (by omega)) ?_
    simp only [show ¬ (1 + ((sealOf l).1.length : Int) < 0) by omega, ↓reduceIte]
    refine Ev.bind (toByteS_ev l (by omega)) ?_
    refine Ev.bind (implSeal_ev l hb) ?_
    refine Ev.bind (eqByteS_ev _ (by omega)) ?_
    simp only [↓reduceIte, bne_self_eq_false]
    refine Ev.step (fun k => by simp only [laws_FnExactSeal.j2, Bool.false_eq_true, ↓reduceIte]; rfl) ?_
    refine Ev.bind (held_ev _ 1 (by omega) (by omega) (by omega)) ?_
    simp only [show ¬ (1 + ((sealOf l).1.length : Int) < 0) by omega, ↓reduceIte]
    exact Ev.now _

end Go.Proofs.Ythllconiffponaa.Pure
