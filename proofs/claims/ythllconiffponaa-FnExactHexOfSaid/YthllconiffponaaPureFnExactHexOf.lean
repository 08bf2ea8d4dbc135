/- HexOf of the program and of the reference give the same string for every slice of bytes, and the program leaves the slice as it was; no condition. -/
import Derived.Test.YthllconiffponaaQFnExactHexOfx2
namespace Go.Proofs.Ythllconiffponaa.Pure
open Go.RowKit Go.Proofs.Ythllconiffponaa.QFnExactHexOf Go.Proofs.YthllconiffponaaW.PrintWords Go.Proofs.YthllconiffponaaW.PrintLast
set_option linter.unusedVariables false
set_option linter.unusedSimpArgs false
theorem w64 {x : Int} (h0 : -9223372036854775808 ≤ x) (h1 : x ≤ 9223372036854775807) : wrap64 x = x := by
  unfold wrap64; omega
def By (l : List Int) : Prop := ∀ x ∈ l, 0 ≤ x ∧ x ≤ 255
theorem by_wf {l : List Int} (h : ∀ x ∈ l, (Lit.int .u8 x).wf = true) : By l := fun x hx => by
  have := h x hx
  simpa [Lit.wf, IntKind.min, IntKind.max, IntKind.bits, IntKind.signed] using this
theorem i64_wf {x : Int} (h : (Lit.int .i64 x).wf = true) : -9223372036854775808 ≤ x ∧ x ≤ 9223372036854775807 := by
  simpa [Lit.wf, IntKind.min, IntKind.max, IntKind.bits, IntKind.signed] using h
theorem rd_nat (l : List Int) (i : Nat) : rd l (i : Int) = l.getD i 0 := by simp [rd]
theorem By.at_ {l : List Int} (h : By l) (i : Int) : 0 ≤ rd l i ∧ rd l i ≤ 255 := by
  unfold rd
  rw [List.getD_eq_getElem?_getD]
  rcases Nat.lt_or_ge i.toNat l.length with hi | hi
  · rw [List.getElem?_eq_getElem hi]; exact h _ (List.getElem_mem hi)
  · rw [List.getElem?_eq_none hi]; simp
theorem wraps_i64 (n : Int) (h₀ : 0 ≤ n) (h₁ : n < 2 ^ 63) : IntKind.i64.wrap n = n := by rw [IntKind.wrap_i64]; omega
theorem and_mask (i : Nat) (hi : i ≤ 63) {x : Int} (h₀ : 0 ≤ x) (h₁ : x ≤ 9223372036854775807) : Go.bits .and .i64 x (2 ^ i - 1) = x % 2 ^ i :=
  bits_mask .i64 63 (by decide) wraps_i64 i hi x h₀ (by omega)
theorem or_join (i : Nat) {x y : Int} (hx₀ : 0 ≤ x) (hx : x % 2 ^ i = 0) (hx₁ : x ≤ 9223372036854775807) (hy₀ : 0 ≤ y) (hy : y < 2 ^ i) (hy₁ : y ≤ 9223372036854775807) : Go.bits .or .i64 x y = x + y :=
  bits_join .i64 63 (by decide) wraps_i64 i x y hx₀ hx (by omega) hy₀ hy (by omega)

def hexd (n : Int) : Int := bt (⟨#[48, 49, 50, 51, 52, 53, 54, 55, 56, 57, 97, 98, 99, 100, 101, 102]⟩ : ByteArray) n
def hexs : List Int → List Int
  | [] => []
  | c :: t => hexd (c / 16) :: hexd (c % 16) :: hexs t
theorem hexs_length : ∀ l : List Int, (hexs l).length = 2 * l.length
  | [] => rfl
  | c :: t => by simp only [hexs, List.length_cons, hexs_length t]; omega
theorem rd_midh (P : List Int) (c : Int) (t : List Int) : rd (P ++ c :: t) (P.length : Int) = c := by rw [rd_nat]; simp

theorem l2Digit_eq {a : Int} (h0 : 0 ≤ a) (h1 : a ≤ 9223372036854775807) : spec_l2Digit.f a = some (hexd (a % 16)) := by
  unfold spec_l2Digit.f hexd
  have e : Go.bits .and .i64 a 15 = a % 16 := and_mask 4 (by decide) h0 h1
  rw [e, if_pos (by omega), if_pos (by omega)]

theorem specHexOf_l (rest : List Int) : ∀ (P acc : List Int), By rest → P.length + rest.length ≤ 140737488355328 → acc.length + 2 * rest.length ≤ 140737488355000 → Ev (fun k => spec_HexOf.l0 k (P ++ rest) acc (P.length : Int)) (strOfNums (acc ++ hexs rest)) := by
  induction rest with
  | nil =>
    intro P acc hb hl hl2
    refine Ev.step (f := fun _ => some (strOfNums (acc ++ hexs []))) (fun k => ?_) (Ev.now _)
    simp only [spec_HexOf.l0]
    rw [if_neg (by simp)]; simp [hexs]
  | cons c t ih =>
    intro P acc hb hl hl2
    have hc := hb c (by simp)
    simp only [List.length_cons] at hl hl2
    have h := ih (P ++ [c]) (acc ++ [hexd (c / 16), hexd (c % 16)]) (fun z hz => hb z (by simp [hz])) (by simp; omega) (by simp; omega)
    have e : acc ++ hexs (c :: t) = acc ++ [hexd (c / 16), hexd (c % 16)] ++ hexs t := by simp [hexs]
    rw [e]
    refine Ev.step (fun k => ?_) h
    simp only [spec_HexOf.l0]
    rw [if_pos (by simp; omega), if_pos (by omega), rd_midh, w64 (x := c) (by omega) (by omega), Int.tdiv_eq_ediv_of_nonneg (by omega), w64 (x := c / 16) (by omega) (by omega), l2Digit_eq (by omega) (by omega), l2Digit_eq (by omega) (by omega)]
    simp only [Option.bind_some]
    rw [if_pos (by simp; omega), w64 (by omega) (by omega)]
    have e2 : c / 16 % 16 = c / 16 := by omega
    rw [e2]
    simp
theorem specHexOf_ev (l : List Int) (hb : By l) (hl : l.length ≤ 4000) : Ev (fun k => spec_HexOf.f k l) (strOfNums (hexs l)) := by
  have h := specHexOf_l l [] [] hb (by simp; omega) (by simp; omega)
  refine Ev.congr (fun k => ?_) h
  unfold spec_HexOf.f
  rw [if_neg (by omega)]; rfl
theorem specHexOf_long (l : List Int) (hl : ¬ l.length ≤ 4000) : Ev (fun k => spec_HexOf.f k l) ⟨#[]⟩ := by
  refine Ev.congr (fun k => ?_) (Ev.now _)
  unfold spec_HexOf.f
  rw [if_pos (by omega)]

theorem implHexOf_l (rest : List Int) : ∀ (P acc : List Int) (n : Int), n = P.length + rest.length → By rest → P.length + rest.length ≤ 140737488355328 → acc.length + 2 * rest.length ≤ 140737488355000 → Ev (fun k => impl_HexOf.l0 k acc (P ++ rest) n (P.length : Int)) (strOfNums (acc ++ hexs rest)) := by
  induction rest with
  | nil =>
    intro P acc n hn hb hl hl2
    refine Ev.step (f := fun _ => some (strOfNums (acc ++ hexs []))) (fun k => ?_) (Ev.now _)
    simp only [impl_HexOf.l0]
    rw [if_neg (by simp at hn; omega)]; simp [hexs]
  | cons c t ih =>
    intro P acc n hn hb hl hl2
    have hc := hb c (by simp)
    simp only [List.length_cons] at hl hl2 hn
    have h := ih (P ++ [c]) (acc ++ [hexd (c / 16), hexd (c % 16)]) n (by simp; omega) (fun z hz => hb z (by simp [hz])) (by simp; omega) (by simp; omega)
    have e : acc ++ hexs (c :: t) = acc ++ [hexd (c / 16), hexd (c % 16)] ++ hexs t := by simp [hexs]
    rw [e]
    refine Ev.step (fun k => ?_) h
    have e1 : IntKind.u8.wrap (Int.tdiv c 16) = c / 16 := by rw [IntKind.wrap_u8, Int.tdiv_eq_ediv_of_nonneg (by omega)]; omega
    have e2 : Int.tmod c 16 = c % 16 := Int.tmod_eq_emod_of_nonneg (by omega)
    simp only [impl_HexOf.l0]
    rw [if_pos (by omega), if_pos (by omega), if_pos (by simp; omega), rd_midh, e1, e2, if_pos (by omega), if_pos (by omega), if_pos (by omega), if_pos (by omega)]
    simp only [Option.bind_some]
    rw [if_pos (by simp; omega), w64 (by omega) (by omega)]
    simp [hexd]
theorem implHexOf_ev (l : List Int) (hb : By l) (hl : l.length ≤ 4000) : Ev (fun k => impl_HexOf.f k l) (strOfNums (hexs l)) := by
  have h := implHexOf_l l [] [] l.length (by simp) hb (by simp; omega) (by simp; omega)
  refine Ev.congr (fun k => ?_) h
  unfold impl_HexOf.f
  rw [if_neg (by omega)]; rfl
theorem implHexOf_long (l : List Int) (hl : ¬ l.length ≤ 4000) : Ev (fun k => impl_HexOf.f k l) ⟨#[]⟩ := by
  refine Ev.congr (fun k => ?_) (Ev.now _)
  unfold impl_HexOf.f
  rw [if_pos (by omega)]

theorem set_fill (l : List Int) (i d : Nat) (hi : i + (d + 1) = l.length) : (l.take i ++ List.replicate (d + 1) 0).set i (l.getD i 0) = l.take (i + 1) ++ List.replicate d 0 := by
  have hlt : i < l.length := by omega
  have h1 : (l.take i).length = i := by rw [List.length_take]; omega
  rw [List.set_append_right _ _ (by omega), h1, Nat.sub_self, List.replicate_succ, List.set_cons_zero, List.take_succ_eq_append_getElem hlt, List.append_assoc]
  simp [List.getD_eq_getElem?_getD, hlt]
theorem toByteS_l (l : List Int) (hl : l.length ≤ 140737488355328) (d : Nat) : ∀ i : Nat, i + d = l.length → Ev (fun k => laws_toByteS.l0 k l (l.take i ++ List.replicate d 0) (i : Int)) l := by
  induction d with
  | zero =>
    intro i hi
    refine Ev.step (f := fun _ => some l) (fun k => ?_) (Ev.now _)
    simp only [laws_toByteS.l0]
    rw [if_neg (by omega)]
    have : l.take i = l := List.take_of_length_le (by omega)
    simp [this]
  | succ d ih =>
    intro i hi
    refine Ev.step (f := fun k => laws_toByteS.l0 k l (l.take (i + 1) ++ List.replicate d 0) ((i + 1 : Nat) : Int)) (fun k => ?_) (ih (i + 1) (by omega))
    simp only [laws_toByteS.l0]
    rw [if_pos (by omega), if_pos (by omega), if_pos (by simp; omega), w64 (by omega) (by omega), rd_nat, Int.toNat_natCast, set_fill l i d hi]
    rfl
theorem toByteS_ev (l : List Int) (hl : l.length ≤ 140737488355328) : Ev (fun k => laws_toByteS.f k l) l := by
  refine Ev.congr (fun k => ?_) (toByteS_l l hl l.length 0 (by omega))
  unfold laws_toByteS.f
  rw [if_pos (by omega), if_pos (by simp; omega)]
  simp

theorem eqByteS_l (l : List Int) (hl : l.length ≤ 140737488355328) (d : Nat) : ∀ i : Nat, i + d = l.length → Ev (fun k => laws_eqByteS.l0 k l l (i : Int)) true := by
  induction d with
  | zero =>
    intro i hi
    refine Ev.step (f := fun _ => some true) (fun k => ?_) (Ev.now _)
    simp only [laws_eqByteS.l0]
    rw [if_neg (by omega)]
  | succ d ih =>
    intro i hi
    refine Ev.step (f := fun k => laws_eqByteS.l0 k l l ((i + 1 : Nat) : Int)) (fun k => ?_) (ih (i + 1) (by omega))
    simp only [laws_eqByteS.l0]
    rw [if_pos (by omega), if_pos (by omega), if_pos (by omega), if_pos trivial, w64 (by omega) (by omega)]
    rfl
theorem eqByteS_ev (l : List Int) (hl : l.length ≤ 140737488355328) : Ev (fun k => laws_eqByteS.f k l l) true := by
  refine Ev.congr (fun k => ?_) (eqByteS_l l hl l.length 0 (by omega))
  unfold laws_eqByteS.f
  rw [if_pos rfl]; rfl

theorem FnExactHexOf : laws_FnExactHexOf.Pure := by
  intro l hm hl hw
  have hb := by_wf hw
  apply Ev.rounds
  unfold laws_FnExactHexOf.f
  by_cases h : (l.length : Int) > 1048576
  · simp only [h, ↓reduceIte]; exact Ev.now _
  · obtain ⟨r, h1, h2⟩ : ∃ r, Ev (fun k => spec_HexOf.f k l) r ∧ Ev (fun k => impl_HexOf.f k l) r := by
      by_cases h4 : l.length ≤ 4000
      · exact ⟨_, specHexOf_ev l hb h4, implHexOf_ev l hb h4⟩
      · exact ⟨_, specHexOf_long l h4, implHexOf_long l h4⟩
    simp only [h, ↓reduceIte]
    refine Ev.bind (toByteS_ev l (by omega)) ?_
    refine Ev.bind h1 ?_
    refine Ev.bind (toByteS_ev l (by omega)) ?_
    refine Ev.bind h2 ?_
    simp only [↓reduceIte]
    refine Ev.bind (toByteS_ev l (by omega)) ?_
    refine Ev.bind (eqByteS_ev l (by omega)) ?_
    simp only [↓reduceIte]
    exact Ev.now _

end Go.Proofs.Ythllconiffponaa.Pure
