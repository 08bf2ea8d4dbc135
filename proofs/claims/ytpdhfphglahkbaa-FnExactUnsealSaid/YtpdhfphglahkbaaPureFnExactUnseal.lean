/- Unseal of the program and of the reference give the same bytes, place and word for all bytes and places, in memory of their own, and the program leaves its argument as it was; no condition. -/
import Derived.Test.YtpdhfphglahkbaaQFnExactUnsealx4
namespace Go.Proofs.Ytpdhfphglahkbaa.Pure
open Go.RowKit Go.Proofs.Ytpdhfphglahkbaa.QFnExactUnseal Go.Proofs.YtpdhfphglahkbaaW.PrintWords Go.Proofs.YtpdhfphglahkbaaW.PrintLast
set_option linter.unusedVariables false
set_option linter.unusedSimpArgs false
theorem w64 {x : Int} (h0 : -9223372036854775808 ≤ x) (h1 : x ≤ 9223372036854775807) : wrap64 x = x := by
  unfold wrap64; omega
def By (l : List Int) : Prop := ∀ x ∈ l, 0 ≤ x ∧ x ≤ 255
theorem by_wf {l : List Int} (h : ∀ x ∈ l, (Lit.int .u8 x).wf = true) : By l := fun x hx => by
  have := h x hx
  simpa [Lit.wf, IntKind.min, IntKind.max, IntKind.bits, IntKind.signed] using this
theorem i64_wf {x : Int} (h : (Lit.int .i64 x).wf = true) : -9223372036854775808 ≤ x ∧ x ≤ 9223372036854775807 := by
  simpa [Lit.wf, IntKind.min, IntKind.max, IntKind.bits, IntKind.signed] using h
theorem rd_nat (l : List Int) (i : Nat) : rd l (i : Int) = l.getD i 0 := by simp [rd]
theorem By.at_ {l : List Int} (h : By l) (i : Int) : 0 ≤ rd l i ∧ rd l i ≤ 255 := by
  unfold rd
  rw [List.getD_eq_getElem?_getD]
  rcases Nat.lt_or_ge i.toNat l.length with hi | hi
  · rw [List.getElem?_eq_getElem hi]; exact h _ (List.getElem_mem hi)
  · rw [List.getElem?_eq_none hi]; simp
theorem wraps_i64 (n : Int) (h₀ : 0 ≤ n) (h₁ : n < 2 ^ 63) : IntKind.i64.wrap n = n := by rw [IntKind.wrap_i64]; omega
theorem and_mask (i : Nat) (hi : i ≤ 63) {x : Int} (h₀ : 0 ≤ x) (h₁ : x ≤ 9223372036854775807) : Go.bits .and .i64 x (2 ^ i - 1) = x % 2 ^ i :=
  bits_mask .i64 63 (by decide) wraps_i64 i hi x h₀ (by omega)
theorem or_join (i : Nat) {x y : Int} (hx₀ : 0 ≤ x) (hx : x % 2 ^ i = 0) (hx₁ : x ≤ 9223372036854775807) (hy₀ : 0 ≤ y) (hy : y < 2 ^ i) (hy₁ : y ≤ 9223372036854775807) : Go.bits .or .i64 x y = x + y :=
  bits_join .i64 63 (by decide) wraps_i64 i x y hx₀ hx (by omega) hy₀ hy (by omega)

def sumGo : List Int → Int → Int → Int
  | [], x, y => 65536 * y + x
  | c :: t, x, y => sumGo t ((x + c) % 65521) ((y + (x + c) % 65521) % 65521)
theorem sumGo_b (l : List Int) : ∀ x y : Int, 0 ≤ x → x < 65521 → 0 ≤ y → y < 65521 → 0 ≤ sumGo l x y ∧ sumGo l x y < 4294967296 := by
  induction l with
  | nil => intro x y h0 h1 h2 h3; simp only [sumGo]; omega
  | cons c t ih =>
    intro x y h0 h1 h2 h3
    exact ih _ _ (by omega) (by omega) (by omega) (by omega)
def sumOf (l : List Int) : Int := sumGo l 1 0
theorem sumOf_b (l : List Int) : 0 ≤ sumOf l ∧ sumOf l < 4294967296 := sumGo_b l 1 0 (by omega) (by omega) (by omega) (by omega)
theorem rd_mid (P : List Int) (c : Int) (t : List Int) : rd (P ++ c :: t) (P.length : Int) = c := by rw [rd_nat]; simp

def putNum (x : Int) : List Int := if h : x > 127 then (x % 128 + 128) :: putNum (x / 128) else [x]
termination_by x.toNat
decreasing_by omega
theorem putNum_big {x : Int} (h : x > 127) : putNum x = (x % 128 + 128) :: putNum (x / 128) := by rw [putNum]; simp [h]
theorem putNum_small {x : Int} (h : ¬ x > 127) : putNum x = [x] := by rw [putNum]; simp [h]
theorem putNum_by (m : Nat) : ∀ x : Int, 0 ≤ x → x < 128 ^ (m + 1) → By (putNum x) ∧ (putNum x).length ≤ m + 1 ∧ 1 ≤ (putNum x).length := by
  induction m with
  | zero =>
    intro x h0 h1
    have h1 : x < 128 := by simpa using h1
    rw [putNum_small (by omega)]
    refine ⟨fun y hy => ?_, by simp, by simp⟩
    simp at hy; omega
  | succ m ih =>
    intro x h0 h1
    by_cases h : x > 127
    · rw [putNum_big h]
      obtain ⟨h2, h3, h4⟩ := ih (x / 128) (by omega) (by rw [Int.pow_succ] at h1; omega)
      refine ⟨fun y hy => ?_, by simp; omega, by simp⟩
      rcases List.mem_cons.1 hy with rfl | hy
      · omega
      · exact h2 y hy
    · rw [putNum_small h]
      refine ⟨fun y hy => ?_, by simp, by simp⟩
      simp at hy; omega
theorem putNum_b9 {x : Int} (h0 : 0 ≤ x) (h1 : x ≤ 9223372036854775807) : By (putNum x) ∧ (putNum x).length ≤ 9 ∧ 1 ≤ (putNum x).length := putNum_by 8 x h0 (by omega)

def sum4 (l : List Int) : List Int := [sumOf l % 256, sumOf l / 256 % 256, sumOf l / 65536 % 256, sumOf l / 16777216 % 256]
def sealed (l : List Int) : List Int := putNum l.length ++ l ++ sum4 l
def sealOf (l : List Int) : List Int × Bool := if l.length > 3000 then ([], false) else (sealed l, true)
theorem sealOf_len (l : List Int) : (sealOf l).1.length ≤ 3013 := by
  unfold sealOf
  split
  · simp
  · have := (putNum_b9 (x := l.length) (by omega) (by omega)).2.1
    simp [sealed, sum4]; omega

def p7 (k : Nat) : Int := 128 ^ k
def gn : Nat → List Int → Int → Nat → Int → Int × Int × Bool
  | 0, _, _, _, _ => (0, 0, false)
  | d + 1, l, at_, k, x => if at_ + k < l.length then (if rd l (at_ + k) < 128 then (if rd l (at_ + k) = 0 ∧ 0 < k then (0, 0, false) else (x + rd l (at_ + k) % 128 * p7 k, at_ + k + 1, true)) else gn d l at_ (k + 1) (x + rd l (at_ + k) % 128 * p7 k)) else (0, 0, false)
def getNum (l : List Int) (at_ : Int) : Int × Int × Bool := if at_ < 0 then (0, 0, false) else gn 9 l at_ 0 0
theorem p7_0 : p7 0 = 1 := rfl
theorem p7_succ (k : Nat) : p7 (k + 1) = p7 k * 128 := Int.pow_succ 128 k
theorem p7_b (k : Nat) (hk : k ≤ 8) : 1 ≤ p7 k ∧ p7 k ≤ 72057594037927936 := by
  have : k = 0 ∨ k = 1 ∨ k = 2 ∨ k = 3 ∨ k = 4 ∨ k = 5 ∨ k = 6 ∨ k = 7 ∨ k = 8 := by omega
  rcases this with rfl | rfl | rfl | rfl | rfl | rfl | rfl | rfl | rfl <;> decide
theorem p128 (k : Nat) (hk : k ≤ 8) (x c : Int) (hx0 : 0 ≤ x) (hx : x < p7 k) (hc0 : 0 ≤ c) (hc : c < 128) : 0 ≤ c * p7 k ∧ c * p7 k ≤ 9223372036854775807 ∧ 0 ≤ x + c * p7 k ∧ x + c * p7 k ≤ 9223372036854775807 ∧ x + c * p7 k < p7 (k + 1) := by
  have h := p7_b k hk
  rw [p7_succ]
  generalize p7 k = u at *
  have h1 : 0 ≤ c * u := Int.mul_nonneg hc0 (by omega)
  have h2 : c * u ≤ 127 * u := Int.mul_le_mul_of_nonneg_right (by omega) (by omega)
  refine ⟨h1, by omega, by omega, by omega, by omega⟩

theorem gn_b : ∀ (d : Nat) (k : Nat) (l : List Int) (a x : Int), By l → 0 ≤ a → d + k ≤ 9 → 0 ≤ x → x < p7 k → 0 ≤ (gn d l a k x).1 ∧ (gn d l a k x).1 ≤ 9223372036854775807 ∧ 0 ≤ (gn d l a k x).2.1 ∧ (gn d l a k x).2.1 ≤ l.length
  | 0, k, l, a, x, hb, ha, hk, h0, h1 => by simp [gn]
  | d + 1, k, l, a, x, hb, ha, hk, h0, h1 => by
    have hz : (0 : Int) ≤ 0 ∧ (0 : Int) ≤ 9223372036854775807 ∧ (0 : Int) ≤ 0 ∧ (0 : Int) ≤ l.length := ⟨by omega, by omega, by omega, by omega⟩
    have hr := hb.at_ (a + k)
    have hp := p128 k (by omega) x (rd l (a + k) % 128) h0 h1 (by omega) (by omega)
    simp only [gn]
    split
    · split
      · split
        · exact hz
        · exact ⟨hp.2.2.1, hp.2.2.2.1, by simp only; omega, by simp only; omega⟩
      · exact gn_b d (k + 1) l a _ hb ha (by omega) hp.2.2.1 hp.2.2.2.2
    · exact hz
theorem getNum_b (l : List Int) (a : Int) (hb : By l) : 0 ≤ (getNum l a).1 ∧ (getNum l a).1 ≤ 9223372036854775807 ∧ 0 ≤ (getNum l a).2.1 ∧ (getNum l a).2.1 ≤ l.length := by
  unfold getNum
  split
  · exact ⟨by simp, by simp, by simp, by simp⟩
  · exact gn_b 9 0 l a 0 hb (by omega) (by omega) (by omega) (by decide)

def seg (l : List Int) (a b : Int) : List Int := (l.take b.toNat).drop a.toNat
theorem seg_len (l : List Int) (a b : Int) (h0 : 0 ≤ a) (h1 : a ≤ b) (h2 : b ≤ l.length) : ((seg l a b).length : Int) = b - a := by
  unfold seg; rw [List.length_drop, List.length_take]; omega
theorem seg_by (l : List Int) (a b : Int) (hb : By l) : By (seg l a b) := fun x hx => hb x (List.mem_of_mem_take (List.mem_of_mem_drop hx))
def unsealOf (l : List Int) (a : Int) : List Int × Int × Int :=
  if (getNum l a).2.2 = true ∧ (getNum l a).1 ≤ 3000 then
    (if (l.length : Int) - (getNum l a).2.1 < (getNum l a).1 + 4 then ([], 0, 2)
     else if seg l ((getNum l a).2.1 + (getNum l a).1) ((getNum l a).2.1 + (getNum l a).1 + 4) = sum4 (seg l (getNum l a).2.1 ((getNum l a).2.1 + (getNum l a).1)) then (seg l (getNum l a).2.1 ((getNum l a).2.1 + (getNum l a).1), (getNum l a).2.1 + (getNum l a).1 + 4, 0)
     else ([], 0, 3))
  else ([], 0, 1)
theorem unseal_len (l : List Int) (a : Int) : (unsealOf l a).1.length ≤ l.length := by
  unfold unsealOf
  split
  · split
    · simp
    · split
      · simp only [seg, List.length_drop, List.length_take]; omega
      · simp
  · simp
theorem sum4_by (l : List Int) : By (sum4 l) := by
  intro x hx
  simp only [sum4, List.mem_cons, List.not_mem_nil, or_false] at hx
  omega

theorem u_next {k0 : Nat} {u : Int} (h8 : k0 + 1 ≤ 8) (hu : u = p7 k0) : wrap64 (u * 128) = p7 (k0 + 1) := by
  have hp2 := p7_b (k0 + 1) h8
  rw [p7_succ] at hp2 ⊢
  rw [hu]
  exact w64 (by omega) (by omega)
theorem gnStep {k0 : Nat} {c x u : Int} (k8 : k0 ≤ 8) (hc : 0 ≤ c ∧ c ≤ 255) (hx0 : 0 ≤ x) (hx : x < p7 k0) (hu : u = p7 k0) : wrap64 c = c ∧ wrap64 (x + wrap64 (Int.tmod c 128 * u)) = x + c % 128 * p7 k0 ∧ 0 ≤ x + c % 128 * p7 k0 ∧ x + c % 128 * p7 k0 < p7 (k0 + 1) := by
  have hp := p128 k0 k8 x (c % 128) hx0 hx (by omega) (by omega)
  refine ⟨w64 (by omega) (by omega), ?_, hp.2.2.1, hp.2.2.2.2⟩
  rw [Int.tmod_eq_emod_of_nonneg hc.1, hu, w64 (x := c % 128 * p7 k0) (Int.le_trans (by decide) hp.1) hp.2.1, w64 (Int.le_trans (by decide) hp.2.2.1) hp.2.2.2.1]
theorem specGetNum_l (d : Nat) : ∀ (l : List Int) (at_ : Int) (k0 : Nat) (x u : Int), By l → l.length ≤ 140737488355328 → 0 ≤ at_ → at_ ≤ 140737488355328 → k0 + d = 9 → 0 ≤ x → x < p7 k0 → (k0 ≤ 8 → u = p7 k0) → Ev (fun k => spec_GetNum.l0 k l at_ x u (k0 : Int)) (gn d l at_ k0 x) := by
  induction d with
  | zero =>
    intro l at_ k0 x u hb hl h0 h1 hk hx0 hx hu
    refine Ev.step (f := fun k => spec_GetNum.j2 k l at_ x u (k0 : Int) false) (fun k => ?_) ?_
    · simp only [spec_GetNum.l0]; rw [if_neg (by omega)]
    · refine Ev.step (f := fun _ => some (0, 0, false)) (fun k => ?_) (Ev.now _)
      simp only [spec_GetNum.j2]; rfl
  | succ d ih =>
    intro l at_ k0 x u hb hl h0 h1 hk hx0 hx hu
    have k8 : k0 ≤ 8 := by omega
    have z0 : 0 ≤ at_ + (k0 : Int) := by omega
    have k9 : (k0 : Int) < 9 := by omega
    have e1 : wrap64 (at_ + (k0 : Int)) = at_ + k0 := w64 (by omega) (by omega)
    have e4 : wrap64 (at_ + (k0 : Int) + 1) = at_ + k0 + 1 := w64 (by omega) (by omega)
    have e6 : wrap64 ((k0 : Int) + 1) = ((k0 + 1 : Nat) : Int) := w64 (by omega) (by omega)
    have hk' : k0 + 1 + d = 9 := by omega
    have hu := hu k8
    obtain ⟨e2, e3, x0, x1⟩ := gnStep k8 (hb.at_ (at_ + k0)) hx0 hx hu
    by_cases h : at_ + k0 < l.length
    · refine Ev.step (f := fun k => spec_GetNum.j2 k l at_ x u (k0 : Int) true) (fun k => ?_) ?_
      · simp only [spec_GetNum.l0, k9, e1, h, decide_true, ↓reduceIte]
      simp only [gn, h, ↓reduceIte]
      by_cases c1 : rd l (at_ + k0) < 128
      · by_cases c2 : rd l (at_ + k0) = 0
        · by_cases c3 : 0 < k0
          · refine Ev.step (f := fun _ => some (0, 0, false)) (fun k => ?_) ?_
            · have c3' : (k0 : Int) > 0 := by omega
              simp only [spec_GetNum.j2, e1, z0, h, ↓reduceIte]
              rw [e2, if_pos c1, if_pos c2, if_pos c3']
            · rw [if_pos c1, if_pos ⟨c2, c3⟩]; exact Ev.now _
          · refine Ev.step (f := fun _ => some (x + rd l (at_ + k0) % 128 * p7 k0, at_ + k0 + 1, true)) (fun k => ?_) ?_
            · have c3' : ¬ (k0 : Int) > 0 := by omega
              simp only [spec_GetNum.j2, e1, z0, h, ↓reduceIte]
              rw [e2, if_pos c1, if_pos c2, if_neg c3', e3, e4]
            · rw [if_pos c1, if_neg (fun hh => c3 hh.2)]; exact Ev.now _
        · refine Ev.step (f := fun _ => some (x + rd l (at_ + k0) % 128 * p7 k0, at_ + k0 + 1, true)) (fun k => ?_) ?_
          · simp only [spec_GetNum.j2, e1, z0, h, ↓reduceIte]
            rw [e2, if_pos c1, if_neg c2, e3, e4]
          · rw [if_pos c1, if_neg (fun hh => c2 hh.1)]; exact Ev.now _
      · refine Ev.step (f := fun k => spec_GetNum.l0 k l at_ (x + rd l (at_ + k0) % 128 * p7 k0) (wrap64 (u * 128)) ((k0 + 1 : Nat) : Int)) (fun k => ?_) ?_
        · simp only [spec_GetNum.j2, e1, z0, h, ↓reduceIte]
          rw [e2, if_neg c1, e3, e6]
        · rw [if_neg c1]; exact ih l at_ (k0 + 1) _ _ hb hl h0 h1 hk' x0 x1 (fun h8 => u_next h8 hu)
    · refine Ev.step (f := fun k => spec_GetNum.j2 k l at_ x u (k0 : Int) false) (fun k => ?_) ?_
      · simp only [spec_GetNum.l0, k9, e1, h, decide_false, ↓reduceIte]
      · simp only [gn, h, ↓reduceIte]
        refine Ev.step (f := fun _ => some (0, 0, false)) (fun k => ?_) (Ev.now _)
        simp only [spec_GetNum.j2]; rfl
theorem specGetNum_ev (l : List Int) (at_ : Int) (hb : By l) (hl : l.length ≤ 140737488355328) : Ev (fun k => spec_GetNum.f k l at_) (getNum l at_) := by
  unfold spec_GetNum.f getNum
  by_cases h : at_ < 0
  · simp only [h, ↓reduceIte]
    refine Ev.step (f := fun _ => some (0, 0, false)) (fun k => ?_) (Ev.now _)
    simp only [spec_GetNum.j0, ↓reduceIte]
  · by_cases h2 : at_ ≥ (l.length : Int)
    · simp only [h, h2, ↓reduceIte, decide_true]
      refine Ev.step (f := fun _ => some (0, 0, false)) (fun k => ?_) ?_
      · simp only [spec_GetNum.j0, ↓reduceIte]
      · simp only [gn]; rw [if_neg (by omega)]; exact Ev.now _
    · simp only [h, h2, ↓reduceIte, decide_false]
      refine Ev.step (f := fun k => spec_GetNum.l0 k l at_ 0 1 0) (fun k => ?_) ?_
      · simp only [spec_GetNum.j0]; rfl
      · exact specGetNum_l 9 l at_ 0 0 1 hb hl (by omega) (by omega) (by omega) (by omega) (by decide) (fun _ => rfl)

theorem specSum_l (rest : List Int) : ∀ (P : List Int) (x y : Int), By rest → P.length + rest.length ≤ 140737488355328 → 0 ≤ x → x < 65521 → 0 ≤ y → y < 65521 → Ev (fun k => spec_Sum.l0 k (P ++ rest) x y (P.length : Int)) (sumGo rest x y) := by
  induction rest with
  | nil =>
    intro P x y hb hl h0 h1 h2 h3
    refine Ev.step (f := fun _ => some (65536 * y + x)) (fun k => ?_) (Ev.now _)
    simp only [spec_Sum.l0]
    rw [if_neg (by simp), w64 (x := 65536 * y) (by omega) (by omega), w64 (by omega) (by omega)]
  | cons c t ih =>
    intro P x y hb hl h0 h1 h2 h3
    have hc := hb c (by simp)
    simp only [List.length_cons] at hl
    have h := ih (P ++ [c]) ((x + c) % 65521) ((y + (x + c) % 65521) % 65521) (fun z hz => hb z (by simp [hz])) (by simp; omega) (by omega) (by omega) (by omega) (by omega)
    refine Ev.step (fun k => ?_) h
    simp only [spec_Sum.l0]
    rw [if_pos (by simp; omega), if_pos (by omega), rd_mid, w64 (x := c) (by omega) (by omega), w64 (x := x + c) (by omega) (by omega), Int.tmod_eq_emod_of_nonneg (by omega), w64 (x := y + _) (by omega) (by omega), Int.tmod_eq_emod_of_nonneg (by omega), w64 (by omega) (by omega)]
    simp
theorem specSum_ev (l : List Int) (hb : By l) (hl : l.length ≤ 140737488355328) : Ev (fun k => spec_Sum.f k l) (sumOf l) := by
  have h := specSum_l l [] 1 0 hb (by simpa using hl) (by omega) (by omega) (by omega) (by omega)
  simpa [spec_Sum.f, sumOf] using h

theorem sum_word (c : List Int) (s : Int) (hc : By c) (hl : c.length = 4) (h0 : 0 ≤ s) (h1 : s < 4294967296) :
    s = (wrap64 ((wrap64 ((wrap64 ((wrap64 (rd c 0)) + (wrap64 ((wrap64 (rd c 1)) * 256)))) + (wrap64 ((wrap64 (rd c 2)) * 65536)))) + (wrap64 ((wrap64 (rd c 3)) * 16777216)))) ↔ c = [s % 256, s / 256 % 256, s / 65536 % 256, s / 16777216 % 256] := by
  match c, hl with
  | [x0, x1, x2, x3], _ =>
    have b0 := hc x0 (by simp)
    have b1 := hc x1 (by simp)
    have b2 := hc x2 (by simp)
    have b3 := hc x3 (by simp)
    have e0 : rd [x0, x1, x2, x3] 0 = x0 := rfl
    have e1 : rd [x0, x1, x2, x3] 1 = x1 := rfl
    have e2 : rd [x0, x1, x2, x3] 2 = x2 := rfl
    have e3 : rd [x0, x1, x2, x3] 3 = x3 := rfl
    rw [e0, e1, e2, e3, w64 (x := x0) (by omega) (by omega), w64 (x := x1) (by omega) (by omega), w64 (x := x2) (by omega) (by omega), w64 (x := x3) (by omega) (by omega), w64 (x := x1 * 256) (by omega) (by omega), w64 (x := x2 * 65536) (by omega) (by omega), w64 (x := x3 * 16777216) (by omega) (by omega), w64 (x := x0 + x1 * 256) (by omega) (by omega), w64 (x := x0 + x1 * 256 + x2 * 65536) (by omega) (by omega), w64 (by omega) (by omega)]
    simp only [List.cons.injEq, and_true]
    constructor
    · intro h; refine ⟨?_, ?_, ?_, ?_⟩ <;> omega
    · intro h; omega
theorem specUnseal_ev (l : List Int) (a : Int) (hb : By l) (hl : l.length ≤ 1048576) (h0 : -9223372036854775808 ≤ a) (h1 : a ≤ 9223372036854775807) : Ev (fun k => spec_Unseal.f k l a) (unsealOf l a) := by
  have hg := getNum_b l a hb
  unfold spec_Unseal.f
  refine Ev.bind (specGetNum_ev l a hb (by omega)) ?_
  generalize hG : getNum l a = G at *
  obtain ⟨n, p, ok⟩ := G
  simp only at hg ⊢
  cases ok
  · simp only [Bool.false_eq_true, ↓reduceIte]
    refine Ev.step (f := fun _ => some ([], 0, 1)) (fun k => by simp only [spec_Unseal.j0, ↓reduceIte]) ?_
    unfold unsealOf; rw [hG]; simp only [Bool.false_eq_true, false_and, ↓reduceIte]; exact Ev.now _
  · simp only [↓reduceIte]
    by_cases c1 : n > 3000
    · refine Ev.step (f := fun _ => some ([], 0, 1)) (fun k => by simp only [spec_Unseal.j0, c1, decide_true, ↓reduceIte]) ?_
      unfold unsealOf; rw [hG]; simp only [show ¬ n ≤ 3000 by omega, and_false, ↓reduceIte]; exact Ev.now _
    · by_cases c2 : (l.length : Int) - p < n + 4
      · refine Ev.step (f := fun _ => some ([], 0, 2)) (fun k => ?_) ?_
        · simp only [spec_Unseal.j0, c1, decide_false, Bool.false_eq_true, ↓reduceIte]
          rw [w64 (x := (l.length : Int) - p) (by omega) (by omega), w64 (x := n + 4) (by omega) (by omega), if_pos c2]
        · unfold unsealOf; rw [hG]; simp only [show n ≤ 3000 by omega, c2, and_self, ↓reduceIte]; exact Ev.now _
      · have hw1 : wrap64 (p + n) = p + n := w64 (by omega) (by omega)
        have hw2 : wrap64 (p + n + 4) = p + n + 4 := w64 (by omega) (by omega)
        have L1 := seg_len l p (p + n) (by omega) (by omega) (by omega)
        have L2 := seg_len l (p + n) (p + n + 4) (by omega) (by omega) (by omega)
        have hs := sumOf_b (seg l p (p + n))
        refine Ev.step (f := fun k => (spec_Sum.f k (seg l p (p + n))).bind fun t => if t = (wrap64 ((wrap64 ((wrap64 ((wrap64 (rd (seg l (p + n) (p + n + 4)) 0)) + (wrap64 ((wrap64 (rd (seg l (p + n) (p + n + 4)) 1)) * 256)))) + (wrap64 ((wrap64 (rd (seg l (p + n) (p + n + 4)) 2)) * 65536)))) + (wrap64 ((wrap64 (rd (seg l (p + n) (p + n + 4)) 3)) * 16777216)))) then some (seg l p (p + n), p + n + 4, 0) else some ([], 0, 3)) (fun k => ?_) ?_
        · simp only [spec_Unseal.j0, c1, decide_false, Bool.false_eq_true, ↓reduceIte, Option.bind_some, List.nil_append, List.length_nil]
          rw [w64 (x := (l.length : Int) - p) (by omega) (by omega), w64 (x := n + 4) (by omega) (by omega), if_neg c2, hw1, hw2]
          change (if 0 ≤ p then (if p ≤ p + n then (if p + n ≤ (l.length : Int) then (if 0 + (seg l p (p + n)).length < 140737488355328 then _ else none) else none) else none) else none) = _
          rw [if_pos (by omega), if_pos (by omega), if_pos (by omega), if_pos (by omega), if_pos (by omega), if_pos (by omega), if_pos (by omega)]
          refine congrArg _ (funext fun t => ?_)
          change (if 0 < ((seg l (p + n) (p + n + 4)).length : Int) then (if 1 < ((seg l (p + n) (p + n + 4)).length : Int) then (if 2 < ((seg l (p + n) (p + n + 4)).length : Int) then (if 3 < ((seg l (p + n) (p + n + 4)).length : Int) then _ else none) else none) else none) else none) = _
          rw [if_pos (by omega), if_pos (by omega), if_pos (by omega), if_pos (by omega)]
          rfl
        · refine Ev.bind (specSum_ev _ (seg_by l _ _ hb) (by omega)) ?_
          have hi := sum_word (seg l (p + n) (p + n + 4)) (sumOf (seg l p (p + n))) (seg_by l _ _ hb) (by omega) hs.1 hs.2
          have e : unsealOf l a = if seg l (p + n) (p + n + 4) = sum4 (seg l p (p + n)) then (seg l p (p + n), p + n + 4, 0) else ([], 0, 3) := by
            unfold unsealOf; rw [hG]; simp only [show n ≤ 3000 by omega, c2, and_self, ↓reduceIte]
          rw [e]
          by_cases c3 : seg l (p + n) (p + n + 4) = sum4 (seg l p (p + n))
          · rw [if_pos (hi.2 c3), if_pos c3]; exact Ev.now _
          · rw [if_neg (fun h => c3 (hi.1 h)), if_neg c3]; exact Ev.now _

theorem shl7 (k0 : Nat) (hk : k0 ≤ 8) (x c : Int) (hx0 : 0 ≤ x) (hx : x < p7 k0) (hc0 : 0 ≤ c) (hc : c < 128) : Go.bits .or .i64 x (shl .i64 c (wrap64 (7 * (k0 : Int)))) = x + c * p7 k0 := by
  have e0 : wrap64 (7 * (k0 : Int)) = ((7 * k0 : Nat) : Int) := by rw [w64 (by omega) (by omega)]; omega
  have e1 : (2 : Int) ^ (7 * k0) = p7 k0 := by rw [Int.pow_mul]; unfold p7; rfl
  have h7 : min (7 * k0) 64 = 7 * k0 := by omega
  have h63 : 7 * k0 ≤ 63 := by omega
  obtain ⟨h1, h2, h3, h4, h5⟩ := p128 k0 hk x c hx0 hx hc0 hc
  have e2 : shl .i64 c (wrap64 (7 * (k0 : Int))) = c * p7 k0 := by
    rw [e0]
    unfold shl
    rw [show IntKind.i64.bits = 64 from rfl, Int.toNat_natCast, h7, e1]
    exact wraps_i64 _ h1 (Int.lt_of_le_of_lt h2 (by decide))
  have e3 : Go.bits .or .i64 x (c * p7 k0) = Go.bits .or .i64 (c * p7 k0) x := by unfold Go.bits; simp only [BitVec.or_comm]
  have e4 : c * p7 k0 % 2 ^ (7 * k0) = 0 := by rw [e1]; exact Int.mul_emod_left _ _
  rw [e2, e3, or_join (7 * k0) h1 e4 h2 hx0 (by rw [e1]; exact hx) (Int.le_trans (Int.le_of_lt hx) (Int.le_trans (p7_b k0 hk).2 (by decide))), Int.add_comm]
theorem giStep {k0 : Nat} {c x : Int} (k8 : k0 ≤ 8) (hc : 0 ≤ c ∧ c ≤ 255) (hx0 : 0 ≤ x) (hx : x < p7 k0) : wrap64 c = c ∧ Go.bits .or .i64 x (shl .i64 (Go.bits .and .i64 c 127) (wrap64 (7 * (k0 : Int)))) = x + c % 128 * p7 k0 ∧ 0 ≤ x + c % 128 * p7 k0 ∧ x + c % 128 * p7 k0 < p7 (k0 + 1) := by
  have hp := p128 k0 k8 x (c % 128) hx0 hx (by omega) (by omega)
  refine ⟨w64 (by omega) (by omega), ?_, hp.2.2.1, hp.2.2.2.2⟩
  rw [show Go.bits .and .i64 c 127 = c % 128 from and_mask 7 (by decide) hc.1 (by omega)]
  exact shl7 k0 k8 x _ hx0 hx (by omega) (by omega)
theorem implGetNum_l (d : Nat) : ∀ (l : List Int) (at_ : Int) (k0 : Nat) (x : Int), By l → l.length ≤ 140737488355328 → 0 ≤ at_ → at_ ≤ 9223372036854775807 → k0 + d = 9 → 0 ≤ x → x < p7 k0 → Ev (fun k => impl_GetNum.l0 k l at_ x (k0 : Int)) (gn d l at_ k0 x) := by
  induction d with
  | zero =>
    intro l at_ k0 x hb hl h0 h1 hk hx0 hx
    refine Ev.step (f := fun k => impl_GetNum.j1 k l at_ x (k0 : Int) false) (fun k => ?_) ?_
    · simp only [impl_GetNum.l0]; rw [if_neg (by omega)]
    · refine Ev.step (f := fun _ => some (0, 0, false)) (fun k => ?_) (Ev.now _)
      simp only [impl_GetNum.j1]; rfl
  | succ d ih =>
    intro l at_ k0 x hb hl h0 h1 hk hx0 hx
    have k8 : k0 ≤ 8 := by omega
    have z0 : 0 ≤ at_ + (k0 : Int) := by omega
    have k9 : (k0 : Int) < 9 := by omega
    have e0 : wrap64 ((l.length : Int) - at_) = l.length - at_ := w64 (by omega) (by omega)
    have e6 : wrap64 ((k0 : Int) + 1) = ((k0 + 1 : Nat) : Int) := w64 (by omega) (by omega)
    have e7 : 0 ≤ wrap64 (7 * (k0 : Int)) := by rw [w64 (by omega) (by omega)]; omega
    have hk' : k0 + 1 + d = 9 := by omega
    have e14 : at_ + k0 < l.length → wrap64 (at_ + (k0 : Int)) = at_ + k0 ∧ wrap64 (at_ + (k0 : Int) + 1) = at_ + k0 + 1 ∧ (k0 : Int) < l.length - at_ := fun h => ⟨w64 (by omega) (by omega), w64 (by omega) (by omega), by omega⟩
    have e15 : ¬ at_ + k0 < l.length → ¬ (k0 : Int) < l.length - at_ := fun h => by omega
    obtain ⟨e2, e3, x0, x1⟩ := giStep k8 (hb.at_ (at_ + k0)) hx0 hx
    by_cases h : at_ + k0 < l.length
    · obtain ⟨e1, e4, h'⟩ := e14 h
      clear e14 e15
      refine Ev.step (f := fun k => impl_GetNum.j1 k l at_ x (k0 : Int) true) (fun k => ?_) ?_
      · simp only [impl_GetNum.l0, k9, e0, h', decide_true, ↓reduceIte]
      simp only [gn, h, ↓reduceIte]
      by_cases c1 : rd l (at_ + k0) < 128
      · have c1' : ¬ rd l (at_ + k0) > 127 := fun hh => absurd (Int.add_one_le_of_lt hh) (Int.not_le.2 c1)
        by_cases c2 : rd l (at_ + k0) = 0
        · by_cases c3 : 0 < k0
          · refine Ev.step (f := fun _ => some (0, 0, false)) (fun k => ?_) ?_
            · have c3' : (k0 : Int) > 0 := by omega
              simp only [impl_GetNum.j1, e1, z0, h, e7, ↓reduceIte]
              rw [e2, if_neg c1', if_pos c3', if_pos c2]
            · rw [if_pos c1, if_pos ⟨c2, c3⟩]; exact Ev.now _
          · refine Ev.step (f := fun _ => some (x + rd l (at_ + k0) % 128 * p7 k0, at_ + k0 + 1, true)) (fun k => ?_) ?_
            · have c3' : ¬ (k0 : Int) > 0 := by omega
              simp only [impl_GetNum.j1, e1, z0, h, e7, ↓reduceIte]
              rw [e2, if_neg c1', if_neg c3', e3, e4]
            · rw [if_pos c1, if_neg (fun hh => c3 hh.2)]; exact Ev.now _
        · refine Ev.step (f := fun _ => some (x + rd l (at_ + k0) % 128 * p7 k0, at_ + k0 + 1, true)) (fun k => ?_) ?_
          · simp only [impl_GetNum.j1, e1, z0, h, e7, ↓reduceIte]
            rw [e2, if_neg c1']
            by_cases c3 : (k0 : Int) > 0
            · rw [if_pos c3, if_neg c2, e3, e4]
            · rw [if_neg c3, e3, e4]
          · rw [if_pos c1, if_neg (fun hh => c2 hh.1)]; exact Ev.now _
      · have c1' : rd l (at_ + k0) > 127 := Int.lt_of_lt_of_le (by decide) (Int.not_lt.1 c1)
        refine Ev.step (f := fun k => impl_GetNum.l0 k l at_ (x + rd l (at_ + k0) % 128 * p7 k0) ((k0 + 1 : Nat) : Int)) (fun k => ?_) ?_
        · simp only [impl_GetNum.j1, e1, z0, h, e7, ↓reduceIte]
          rw [e2, if_pos c1', e3, e6]
        · rw [if_neg c1]; exact ih l at_ (k0 + 1) _ hb hl h0 h1 hk' x0 x1
    · have h' := e15 h
      clear e14 e15
      refine Ev.step (f := fun k => impl_GetNum.j1 k l at_ x (k0 : Int) false) (fun k => ?_) ?_
      · simp only [impl_GetNum.l0, k9, e0, h', decide_false, ↓reduceIte]
      · simp only [gn, h, ↓reduceIte]
        refine Ev.step (f := fun _ => some (0, 0, false)) (fun k => ?_) (Ev.now _)
        simp only [impl_GetNum.j1]; rfl
theorem implGetNum_ev (l : List Int) (at_ : Int) (hb : By l) (hl : l.length ≤ 140737488355328) (ha : at_ ≤ 9223372036854775807) : Ev (fun k => impl_GetNum.f k l at_) (getNum l at_) := by
  unfold impl_GetNum.f getNum
  by_cases h : at_ < 0
  · simp only [h, ↓reduceIte]; exact Ev.now _
  · simp only [h, ↓reduceIte]
    exact implGetNum_l 9 l at_ 0 0 hb hl (by omega) ha (by omega) (by omega) (by decide)

theorem implSum_l (rest : List Int) : ∀ (P : List Int) (x y n : Int), n = P.length + rest.length → By rest → P.length + rest.length ≤ 140737488355328 → 0 ≤ x → x < 65521 → 0 ≤ y → y < 65521 → Ev (fun k => impl_Sum.l0 k x y (P ++ rest) n (P.length : Int)) (sumGo rest x y) := by
  induction rest with
  | nil =>
    intro P x y n hn hb hl h0 h1 h2 h3
    refine Ev.step (f := fun _ => some (65536 * y + x)) (fun k => ?_) (Ev.now _)
    simp only [impl_Sum.l0]
    rw [if_neg (by simp at hn; omega), w64 (x := 65536 * y) (by omega) (by omega), w64 (by omega) (by omega)]
  | cons c t ih =>
    intro P x y n hn hb hl h0 h1 h2 h3
    have hc := hb c (by simp)
    simp only [List.length_cons] at hl hn
    have h := ih (P ++ [c]) ((x + c) % 65521) ((y + (x + c) % 65521) % 65521) n (by simp; omega) (fun z hz => hb z (by simp [hz])) (by simp; omega) (by omega) (by omega) (by omega) (by omega)
    refine Ev.step (fun k => ?_) h
    simp only [impl_Sum.l0]
    rw [if_pos (by omega), if_pos (by omega), if_pos (by simp; omega), rd_mid, w64 (x := c) (by omega) (by omega), w64 (x := x + c) (by omega) (by omega), Int.tmod_eq_emod_of_nonneg (by omega), w64 (x := y + _) (by omega) (by omega), Int.tmod_eq_emod_of_nonneg (by omega), w64 (by omega) (by omega)]
    simp
theorem implSum_ev (l : List Int) (hb : By l) (hl : l.length ≤ 140737488355328) : Ev (fun k => impl_Sum.f k l) (sumOf l) := by
  have h := implSum_l l [] 1 0 l.length (by simp) hb (by simpa using hl) (by omega) (by omega) (by omega) (by omega)
  simpa [impl_Sum.f, sumOf] using h

theorem mask255 {x : Int} (h0 : 0 ≤ x) (h1 : x ≤ 9223372036854775807) : Go.bits .and .i64 x 255 % 256 = x % 256 := by
  have e : Go.bits .and .i64 x 255 = x % 256 := and_mask 8 (by decide) h0 h1
  rw [e]; omega
theorem sumBytes_ev (l : List Int) (hb : By l) (hl : l.length ≤ 140737488355328) : Ev (fun k => impl_sumBytes.f k l) (sum4 l) := by
  unfold impl_sumBytes.f
  have h := sumOf_b l
  refine Ev.bind (implSum_ev l hb hl) ?_
  rw [mask255 (x := sumOf l) (by omega) (by omega), mask255 (x := sumOf l / 256) (by omega) (by omega), mask255 (x := sumOf l / 65536) (by omega) (by omega), mask255 (x := sumOf l / 16777216) (by omega) (by omega)]
  exact Ev.now _

theorem strOf_inj {a b : List Int} (ha : By a) (hb : By b) (h : strOfNums a = strOfNums b) : a = b := by
  have h2 : (a.map fun n => UInt8.ofNat n.toNat) = (b.map fun n => UInt8.ofNat n.toNat) := by
    have := congrArg (fun s : ByteArray => s.data.toList) h
    simpa [strOfNums_data] using this
  clear h
  induction a generalizing b with
  | nil => cases b with
    | nil => rfl
    | cons y t => simp at h2
  | cons x s ih => cases b with
    | nil => simp at h2
    | cons y t =>
      simp only [List.map_cons, List.cons.injEq] at h2
      have hx := ha x (by simp)
      have hy := hb y (by simp)
      have e := congrArg UInt8.toNat h2.1
      simp only [UInt8.toNat_ofNat'] at e
      have : x = y := by omega
      rw [this, ih (fun z hz => ha z (by simp [hz])) (fun z hz => hb z (by simp [hz])) h2.2]
theorem toList_inj {a b : ByteArray} (h : a.toList = b.toList) : a = b := by
  rw [ByteArray.toList_eq, ByteArray.toList_eq] at h
  exact ByteArray.ext (Array.toList_inj.1 h)
theorem strOf_iff {a b : List Int} (ha : By a) (hb : By b) : (strOfNums a).toList = (strOfNums b).toList ↔ a = b :=
  ⟨fun h => strOf_inj ha hb (toList_inj h), fun h => by rw [h]⟩

theorem implUnseal_ev (l : List Int) (a : Int) (hb : By l) (hl : l.length ≤ 1048576) (h0 : -9223372036854775808 ≤ a) (h1 : a ≤ 9223372036854775807) : Ev (fun k => impl_Unseal.f k l a) (unsealOf l a) := by
  have hg := getNum_b l a hb
  unfold impl_Unseal.f
  refine Ev.bind (implGetNum_ev l a hb (by omega) h1) ?_
  generalize hG : getNum l a = G at *
  obtain ⟨n, p, ok⟩ := G
  simp only at hg ⊢
  cases ok
  · simp only [Bool.false_eq_true, ↓reduceIte]
    refine Ev.step (f := fun _ => some ([], 0, 1)) (fun k => by simp only [impl_Unseal.j0, ↓reduceIte]) ?_
    unfold unsealOf; rw [hG]; simp only [Bool.false_eq_true, false_and, ↓reduceIte]; exact Ev.now _
  · simp only [↓reduceIte]
    by_cases c1 : n > 3000
    · refine Ev.step (f := fun _ => some ([], 0, 1)) (fun k => by simp only [impl_Unseal.j0, c1, decide_true, ↓reduceIte]) ?_
      unfold unsealOf; rw [hG]; simp only [show ¬ n ≤ 3000 by omega, and_false, ↓reduceIte]; exact Ev.now _
    · by_cases c2 : (l.length : Int) - p < n + 4
      · refine Ev.step (f := fun _ => some ([], 0, 2)) (fun k => ?_) ?_
        · simp only [impl_Unseal.j0, c1, decide_false, Bool.false_eq_true, ↓reduceIte]
          rw [w64 (x := (l.length : Int) - p) (by omega) (by omega), w64 (x := n + 4) (by omega) (by omega), if_pos (by omega)]
        · unfold unsealOf; rw [hG]; simp only [show n ≤ 3000 by omega, c2, and_self, ↓reduceIte]; exact Ev.now _
      · have hw1 : wrap64 (p + n) = p + n := w64 (by omega) (by omega)
        have hw2 : wrap64 (p + n + 4) = p + n + 4 := w64 (by omega) (by omega)
        have L1 := seg_len l p (p + n) (by omega) (by omega) (by omega)
        refine Ev.step (f := fun k => (impl_sumBytes.f k (seg l p (p + n))).bind fun t => if (strOfNums (seg l (p + n) (p + n + 4))).toList = (strOfNums t).toList then some (seg l p (p + n), p + n + 4, 0) else some ([], 0, 3)) (fun k => ?_) ?_
        · simp only [impl_Unseal.j0, c1, decide_false, Bool.false_eq_true, ↓reduceIte, Option.bind_some, List.nil_append, List.length_nil]
          rw [w64 (x := (l.length : Int) - p) (by omega) (by omega), w64 (x := n + 4) (by omega) (by omega), if_neg (by omega), hw1, hw2]
          change (if 0 ≤ p then (if p ≤ p + n then (if p + n ≤ (l.length : Int) then (if 0 + (seg l p (p + n)).length < 140737488355328 then _ else none) else none) else none) else none) = _
          rw [if_pos (by omega), if_pos (by omega), if_pos (by omega), if_pos (by omega), if_pos (by omega), if_pos (by omega), if_pos (by omega)]
          rfl
        · refine Ev.bind (sumBytes_ev _ (seg_by l _ _ hb) (by omega)) ?_
          have hi := strOf_iff (seg_by l (p + n) (p + n + 4) hb) (sum4_by (seg l p (p + n)))
          have e : unsealOf l a = if seg l (p + n) (p + n + 4) = sum4 (seg l p (p + n)) then (seg l p (p + n), p + n + 4, 0) else ([], 0, 3) := by
            unfold unsealOf; rw [hG]; simp only [show n ≤ 3000 by omega, c2, and_self, ↓reduceIte]
          rw [e]
          by_cases c3 : seg l (p + n) (p + n + 4) = sum4 (seg l p (p + n))
          · rw [if_pos (hi.2 c3), if_pos c3]; exact Ev.now _
          · rw [if_neg (fun h => c3 (hi.1 h)), if_neg c3]; exact Ev.now _

theorem set_fill (l : List Int) (i d : Nat) (hi : i + (d + 1) = l.length) : (l.take i ++ List.replicate (d + 1) 0).set i (l.getD i 0) = l.take (i + 1) ++ List.replicate d 0 := by
  have hlt : i < l.length := by omega
  have h1 : (l.take i).length = i := by rw [List.length_take]; omega
  rw [List.set_append_right _ _ (by omega), h1, Nat.sub_self, List.replicate_succ, List.set_cons_zero, List.take_succ_eq_append_getElem hlt, List.append_assoc]
  simp [List.getD_eq_getElem?_getD, hlt]
theorem toByteS_l (l : List Int) (hl : l.length ≤ 140737488355328) (d : Nat) : ∀ i : Nat, i + d = l.length → Ev (fun k => laws_toByteS.l0 k l (l.take i ++ List.replicate d 0) (i : Int)) l := by
  induction d with
  | zero =>
    intro i hi
    refine Ev.step (f := fun _ => some l) (fun k => ?_) (Ev.now _)
    simp only [laws_toByteS.l0]
    rw [if_neg (by omega)]
    have : l.take i = l := List.take_of_length_le (by omega)
    simp [this]
  | succ d ih =>
    intro i hi
    refine Ev.step (f := fun k => laws_toByteS.l0 k l (l.take (i + 1) ++ List.replicate d 0) ((i + 1 : Nat) : Int)) (fun k => ?_) (ih (i + 1) (by omega))
    simp only [laws_toByteS.l0]
    rw [if_pos (by omega), if_pos (by omega), if_pos (by simp; omega), w64 (by omega) (by omega), rd_nat, Int.toNat_natCast, set_fill l i d hi]
    rfl
theorem toByteS_ev (l : List Int) (hl : l.length ≤ 140737488355328) : Ev (fun k => laws_toByteS.f k l) l := by
  refine Ev.congr (fun k => ?_) (toByteS_l l hl l.length 0 (by omega))
  unfold laws_toByteS.f
  rw [if_pos (by omega), if_pos (by simp; omega)]
  simp

theorem eqByteS_l (l : List Int) (hl : l.length ≤ 140737488355328) (d : Nat) : ∀ i : Nat, i + d = l.length → Ev (fun k => laws_eqByteS.l0 k l l (i : Int)) true := by
  induction d with
  | zero =>
    intro i hi
    refine Ev.step (f := fun _ => some true) (fun k => ?_) (Ev.now _)
    simp only [laws_eqByteS.l0]
    rw [if_neg (by omega)]
  | succ d ih =>
    intro i hi
    refine Ev.step (f := fun k => laws_eqByteS.l0 k l l ((i + 1 : Nat) : Int)) (fun k => ?_) (ih (i + 1) (by omega))
    simp only [laws_eqByteS.l0]
    rw [if_pos (by omega), if_pos (by omega), if_pos (by omega), if_pos trivial, w64 (by omega) (by omega)]
    rfl
theorem eqByteS_ev (l : List Int) (hl : l.length ≤ 140737488355328) : Ev (fun k => laws_eqByteS.f k l l) true := by
  refine Ev.congr (fun k => ?_) (eqByteS_l l hl l.length 0 (by omega))
  unfold laws_eqByteS.f
  rw [if_pos rfl]; rfl

def marks : Nat → Int → List Int
  | 0, _ => []
  | n + 1, q => (q % 256) :: marks n (q + 1)
theorem marks_length : ∀ (n : Nat) (q : Int), (marks n q).length = n
  | 0, _ => rfl
  | n + 1, q => by rw [marks, List.length_cons, marks_length n]
theorem mark_l (rest : List Int) : ∀ (P : List Int) (q : Int), P.length + rest.length ≤ 140737488355328 → 0 ≤ q → q + rest.length ≤ 281474976710656 →
    Ev (fun k => laws_markByteS.l0 k (P ++ rest) q (P.length : Int)) (q + rest.length, P ++ marks rest.length q) := by
  induction rest with
  | nil =>
    intro P q hl h0 h1
    refine Ev.step (f := fun _ => some (q, P)) (fun k => ?_) ?_
    · simp only [laws_markByteS.l0]
      rw [if_neg (by simp)]; simp
    · simp [marks]; exact Ev.now _
  | cons a rest ih =>
    intro P q hl h0 h1
    simp only [List.length_cons] at hl h1
    have h := ih (P ++ [q % 256]) (q + 1) (by simp; omega) (by omega) (by omega)
    refine Ev.step (f := fun k => laws_markByteS.l0 k ((P ++ [q % 256]) ++ rest) (q + 1) ((P ++ [q % 256]).length : Int)) (fun k => ?_) ?_
    · simp only [laws_markByteS.l0]
      rw [if_pos (by simp; omega), if_pos (by omega), w64 (by omega) (by omega), w64 (by omega) (by omega), Int.toNat_natCast, List.set_append_right _ _ (Nat.le_refl _), Nat.sub_self, List.set_cons_zero]
      simp
    · have e : (q + 1 + (rest.length : Int), P ++ [q % 256] ++ marks rest.length (q + 1)) = (q + ((a :: rest).length : Int), P ++ marks (a :: rest).length q) := by
        simp [marks]; omega
      rw [← e]; exact h
theorem held_l (n : Nat) : ∀ (P : List Int) (q : Int), P.length + n ≤ 140737488355328 → 0 ≤ q → q + n ≤ 281474976710656 →
    Ev (fun k => laws_heldByteS.l0 k (P ++ marks n q) q (P.length : Int)) (q + n) := by
  induction n with
  | zero =>
    intro P q hl h0 h1
    refine Ev.step (f := fun _ => some q) (fun k => ?_) ?_
    · simp only [laws_heldByteS.l0]
      rw [if_neg (by simp [marks])]
    · simp; exact Ev.now _
  | succ n ih =>
    intro P q hl h0 h1
    have h := ih (P ++ [q % 256]) (q + 1) (by simp; omega) (by omega) (by omega)
    have e : P ++ marks (n + 1) q = P ++ [q % 256] ++ marks n (q + 1) := by simp [marks]
    have el : (P ++ marks (n + 1) q).length = P.length + (n + 1) := by rw [List.length_append, marks_length]
    refine Ev.step (f := fun k => laws_heldByteS.l0 k ((P ++ [q % 256]) ++ marks n (q + 1)) (q + 1) ((P ++ [q % 256]).length : Int)) (fun k => ?_) ?_
    · simp only [laws_heldByteS.l0]
      rw [if_pos (by rw [el]; omega), if_pos (by omega), if_pos (by rw [rd_nat]; simp [marks]), w64 (by omega) (by omega), w64 (by omega) (by omega), e]
      simp
    · have e2 : (q + 1 + (n : Int)) = q + ((n + 1 : Nat) : Int) := by omega
      rw [← e2]; exact h
theorem mark_ev (l : List Int) (q : Int) (hl : l.length ≤ 140737488355328) (h0 : 0 ≤ q) (h1 : q ≤ 140737488355328) : Ev (fun k => laws_markByteS.f k l q) (q + l.length, marks l.length q) := by
  have h := mark_l l [] q (by simpa using hl) h0 (by omega)
  simpa [laws_markByteS.f] using h
theorem held_ev (n : Nat) (q : Int) (hl : n ≤ 140737488355328) (h0 : 0 ≤ q) (h1 : q ≤ 140737488355328) : Ev (fun k => laws_heldByteS.f k (marks n q) q) (q + n) := by
  have h := held_l n [] q (by simpa using hl) h0 (by omega)
  simpa [laws_heldByteS.f] using h

theorem FnExactUnseal : laws_FnExactUnseal.Pure := by
  intro l a hm hl hw ha
  have hb := by_wf hw
  have ha := i64_wf ha
  have hsl := unseal_len l a
  apply Ev.rounds
  unfold laws_FnExactUnseal.f
  by_cases h : (l.length : Int) > 1048576
  · simp only [h, ↓reduceIte]; exact Ev.now _
  · have hU1 := specUnseal_ev l a hb (by omega) ha.1 ha.2
    have hU2 := implUnseal_ev l a hb (by omega) ha.1 ha.2
    have hl1 : l.length ≤ 1048576 := by omega
    generalize unsealOf l a = U at *
    obtain ⟨g0, g1, g2⟩ := U
    simp only at hsl
    simp only [h, ↓reduceIte]
    refine Ev.bind (toByteS_ev l (by omega)) ?_
    refine Ev.bind hU1 ?_
    refine Ev.bind (toByteS_ev l (by omega)) ?_
    refine Ev.bind hU2 ?_
    refine Ev.bind (eqByteS_ev g0 (by omega)) ?_
    simp only [↓reduceIte, bne_self_eq_false]
    refine Ev.step (fun k => by simp only [laws_FnExactUnseal.j0, Bool.false_eq_true, ↓reduceIte]; rfl) ?_
    refine Ev.bind (toByteS_ev l (by omega)) ?_
    refine Ev.bind (eqByteS_ev l (by omega)) ?_
    simp only [↓reduceIte]
    refine Ev.bind (mark_ev l 1 (by omega) (by omega) (by omega)) ?_
    simp only [show ¬ (1 + (l.length : Int) < 0) by omega, ↓reduceIte]
    refine Ev.bind (eqByteS_ev g0 (by omega)) ?_
    simp only [↓reduceIte, bne_self_eq_false]
    refine Ev.step (fun k => by simp only [laws_FnExactUnseal.j1, Bool.false_eq_true, ↓reduceIte]; rfl) ?_
    refine Ev.bind (mark_ev g0 1 (by omega) (by omega) (by omega)) ?_
    refine Ev.bind (held_ev _ 1 (by omega) (by omega) (by omega)) ?_
    simp only [show ¬ (1 + (g0.length : Int) < 0) by omega, ↓reduceIte]
    refine Ev.bind (toByteS_ev l (by omega)) ?_
    refine Ev.bind hU2 ?_
    refine Ev.bind (eqByteS_ev g0 (by omega)) ?_
    simp only [↓reduceIte, bne_self_eq_false]
    refine Ev.step (fun k => by simp only [laws_FnExactUnseal.j2, Bool.false_eq_true, ↓reduceIte]; rfl) ?_
    refine Ev.bind (held_ev _ 1 (by omega) (by omega) (by omega)) ?_
    simp only [show ¬ (1 + (g0.length : Int) < 0) by omega, ↓reduceIte]
    exact Ev.now _

end Go.Proofs.Ytpdhfphglahkbaa.Pure
