/- FnSaved, the plain law: what is saved on an empty disk is loaded behind any crash as what its records make; and bounds of the disk that a drawn disk keeps. No condition. -/
import Derived.Test.YtppfnnpfamkclaaGreatQFnSavedx3
import Derived.Test.YtppfnnpfamkclaaGreatQFnSavedx9
import Derived.Test.YtppfnnpfamkclaaGreatQFnSavedx24
import Derived.Test.YtppfnnpfamkclaaGreatQFnSavedx25
import Derived.Test.YtppfnnpfamkclaaGreatQFnSavedx29
import Derived.Test.YtppfnnpfamkclaaGreatQFnSavedx30
namespace Go.Proofs.YtppfnnpfamkclaaGreat.Pure
open Go.RowKit Go.Proofs.YtppfnnpfamkclaaGreat.QFnSaved Go.Proofs.YtppfnnpfamkclaaGreatW.PrintWords Go.Proofs.YtppfnnpfamkclaaGreatW.PrintLast
set_option linter.unusedVariables false
set_option linter.unusedSimpArgs false
theorem w64 {x : Int} (h0 : -9223372036854775808 ≤ x) (h1 : x ≤ 9223372036854775807) : wrap64 x = x := by
  unfold wrap64; omega
def By (l : List Int) : Prop := ∀ x ∈ l, 0 ≤ x ∧ x ≤ 255
theorem rd_nat (l : List Int) (i : Nat) : rd l (i : Int) = l.getD i 0 := by simp [rd]
theorem By.at_ {l : List Int} (h : By l) (i : Int) : 0 ≤ rd l i ∧ rd l i ≤ 255 := by
  unfold rd
  rw [List.getD_eq_getElem?_getD]
  rcases Nat.lt_or_ge i.toNat l.length with hi | hi
  · rw [List.getElem?_eq_getElem hi]; exact h _ (List.getElem_mem hi)
  · rw [List.getElem?_eq_none hi]; simp
theorem wraps_i64 (n : Int) (h₀ : 0 ≤ n) (h₁ : n < 2 ^ 63) : IntKind.i64.wrap n = n := by rw [IntKind.wrap_i64]; omega
theorem and_mask (i : Nat) (hi : i ≤ 63) {x : Int} (h₀ : 0 ≤ x) (h₁ : x ≤ 9223372036854775807) : Go.bits .and .i64 x (2 ^ i - 1) = x % 2 ^ i :=
  bits_mask .i64 63 (by decide) wraps_i64 i hi x h₀ (by omega)
theorem or_join (i : Nat) {x y : Int} (hx₀ : 0 ≤ x) (hx : x % 2 ^ i = 0) (hx₁ : x ≤ 9223372036854775807) (hy₀ : 0 ≤ y) (hy : y < 2 ^ i) (hy₁ : y ≤ 9223372036854775807) : Go.bits .or .i64 x y = x + y :=
  bits_join .i64 63 (by decide) wraps_i64 i x y hx₀ hx (by omega) hy₀ hy (by omega)
theorem Ev.step2 {α : Type} {g f : Nat → Option α} {r : α} (h : ∀ k, g (k + 2) = f k) (k : Ev f r) : Ev g r := Ev.step (f := fun k => g (k + 1)) (fun _ => rfl) (Ev.step h k)

theorem and_maskZ (i : Nat) (hi : i ≤ 62) (x : Int) : Go.bits .and .i64 x (2 ^ i - 1) = x % 2 ^ i := by
  have hpos : 0 < 2 ^ i := Nat.two_pow_pos i
  have hle : 2 ^ i ≤ 2 ^ 62 := Nat.pow_le_pow_right (by decide) hi
  have hc : ((2 : Int) ^ i - 1) = ((2 ^ i - 1 : Nat) : Int) := by rw [Int.natCast_sub hpos]; simp
  have hb : IntKind.i64.bits = 64 := rfl
  have hd : ((2 : Int) ^ i) ∣ ((2 : Int) ^ 64) := ⟨2 ^ (64 - i), by rw [← Int.pow_add]; congr 1; omega⟩
  have hx : (((x % (2 : Int) ^ 64).toNat : Nat) : Int) = x % (2 : Int) ^ 64 := Int.toNat_of_nonneg (Int.emod_nonneg _ (by decide))
  rw [hc]
  simp only [Go.bits, hb, BitVec.ofInt_natCast, BitVec.toNat_and, BitVec.toNat_ofNat, BitVec.toNat_ofInt]
  rw [Nat.mod_eq_of_lt (show 2 ^ i - 1 < 2 ^ 64 by omega), Nat.and_two_pow_sub_one_eq_mod]
  have e : (((x % ((2 ^ 64 : Nat) : Int)).toNat % 2 ^ i : Nat) : Int) = x % 2 ^ i := by
    rw [Int.natCast_emod]
    have : ((2 ^ 64 : Nat) : Int) = (2 : Int) ^ 64 := by simp
    rw [this, hx]
    have h2 : ((2 ^ i : Nat) : Int) = (2 : Int) ^ i := by simp
    rw [h2, Int.emod_emod_of_dvd _ hd]
  rw [e]
  have h1 := Int.emod_nonneg x (show (2 : Int) ^ i ≠ 0 by exact_mod_cast Nat.ne_of_gt hpos)
  have h2 := Int.emod_lt_of_pos x (show (0 : Int) < 2 ^ i by exact_mod_cast hpos)
  have h3 : (2 : Int) ^ i ≤ 2 ^ 62 := by exact_mod_cast hle
  exact wraps_i64 _ h1 (by omega)
theorem and255 (x : Int) : Go.bits .and .i64 x 255 = x % 256 := and_maskZ 8 (by decide) x

theorem l1Byte_ok (b : List Int) (i h : Int) (hi : 0 ≤ i ∧ i ≤ 9223372036854775807) (hb : b.length ≤ 140737488355328) : ∃ x i' h', spec_l1Byte.f b i h = some (x, i', h') ∧ 0 ≤ i' ∧ i' ≤ 9223372036854775807 := by
  unfold spec_l1Byte.f
  by_cases c : i < (b.length : Int)
  · rw [if_pos c, if_pos hi.1, w64 (x := i + 1) (by omega) (by omega)]
    exact ⟨_, _, _, rfl, by omega, by omega⟩
  · rw [if_neg c]
    exact ⟨_, _, _, rfl, hi.1, hi.2⟩
theorem l1Below_ok (b : List Int) (i h a : Int) (hi : 0 ≤ i ∧ i ≤ 9223372036854775807) (hb : b.length ≤ 140737488355328) : ∃ x i' h', spec_l1Below.f b i h a = some (x, i', h') ∧ (0 ≤ i' ∧ i' ≤ 9223372036854775807) ∧ (a ≤ 0 → x = 0) ∧ (0 < a → -a < x ∧ x < a) := by
  unfold spec_l1Below.f
  by_cases c : a ≤ 0
  · rw [if_pos c]
    exact ⟨_, _, _, rfl, hi, fun _ => rfl, fun h => by omega⟩
  · rw [if_neg c]
    have ht : ∀ x : Int, -a < Int.tmod x a ∧ Int.tmod x a < a := fun x => by
      have h1 := Int.tmod_lt_of_pos x (show 0 < a by omega)
      have h2 := Int.lt_tmod_of_pos x (show 0 < a by omega)
      omega
    by_cases c2 : a ≤ 256
    · rw [if_pos c2]
      obtain ⟨x, i', h', e, p⟩ := l1Byte_ok b i h hi hb
      rw [e]
      simp only [Option.bind_some]
      rw [if_neg (by omega)]
      exact ⟨_, _, _, rfl, p, fun h => by omega, fun _ => ht _⟩
    · rw [if_neg c2]
      obtain ⟨x1, i1, h1, e1, p1⟩ := l1Byte_ok b i h hi hb
      obtain ⟨x2, i2, h2, e2, p2⟩ := l1Byte_ok b i1 h1 p1 hb
      obtain ⟨x3, i3, h3, e3, p3⟩ := l1Byte_ok b i2 h2 p2 hb
      obtain ⟨x4, i4, h4, e4, p4⟩ := l1Byte_ok b i3 h3 p3 hb
      rw [e1]; simp only [Option.bind_some]
      rw [e2]; simp only [Option.bind_some]
      rw [e3]; simp only [Option.bind_some]
      rw [e4]; simp only [Option.bind_some]
      rw [if_neg (by omega)]
      exact ⟨_, _, _, rfl, p4, fun h => by omega, fun _ => ht _⟩
theorem l1New_l (l : List Int) (hl : l.length ≤ 140737488355328) (d : Nat) : ∀ (h i : Int), 0 ≤ i → i + d = 4000 → ∃ h', Ev (fun k => spec_l1New.l0 k l h i) (l, 0, h') := by
  induction d with
  | zero =>
    intro h i h0 hd
    refine ⟨h, ?_⟩
    refine Ev.step (f := fun _ => some (l, 0, h)) (fun k => ?_) (Ev.now _)
    simp only [spec_l1New.l0]
    split
    · rw [if_neg (by omega)]
    · rfl
  | succ d ih =>
    intro h i h0 hd
    by_cases c : i < (l.length : Int)
    · obtain ⟨h', hh⟩ := ih (Go.bits .and .i64 (wrap64 ((wrap64 ((wrap64 (h * 131)) + (wrap64 (rd l i)))) + 7)) 1073741823) (i + 1) (by omega) (by omega)
      refine ⟨h', Ev.step (fun k => ?_) hh⟩
      simp only [spec_l1New.l0]
      rw [if_pos c, if_pos (by omega), if_pos h0, w64 (x := i + 1) (by omega) (by omega)]
    · refine ⟨h, Ev.step (f := fun _ => some (l, 0, h)) (fun k => ?_) (Ev.now _)⟩
      simp only [spec_l1New.l0]
      rw [if_neg c]
theorem l1New_ev (l : List Int) (hl : l.length ≤ 140737488355328) : ∃ h', Ev (fun k => spec_l1New.f k l) (l, 0, h') := by
  unfold spec_l1New.f
  exact l1New_l l hl 4000 _ 0 (by omega) (by omega)
theorem l1Once_ok (b : List Int) (i h a : Int) (hi : 0 ≤ i ∧ i ≤ 9223372036854775807) (hb : b.length ≤ 140737488355328) : ∃ x i' h', spec_l1Once.f b i h a = some (x, i', h') ∧ (0 ≤ i' ∧ i' ≤ 9223372036854775807) := by
  unfold spec_l1Once.f
  obtain ⟨x, i', h', e, p, _⟩ := l1Below_ok b i h a hi hb
  rw [e]
  exact ⟨_, _, _, rfl, p⟩

theorem l1Byte_nn (b : List Int) (i h x : Int) (i' h' : Int) (e : spec_l1Byte.f b i h = some (x, i', h')) : 0 ≤ x ∧ x ≤ 255 := by
  unfold spec_l1Byte.f at e
  simp only [and255] at e
  split at e
  · split at e
    · simp only [Option.some.injEq, Prod.mk.injEq] at e; omega
    · simp at e
  · simp only [Option.some.injEq, Prod.mk.injEq] at e; omega
theorem l1Below_nn (b : List Int) (i h a x : Int) (i' h' : Int) (e : spec_l1Below.f b i h a = some (x, i', h')) : 0 ≤ x := by
  unfold spec_l1Below.f at e
  split at e
  · simp only [Option.some.injEq, Prod.mk.injEq] at e; omega
  · split at e
    · obtain ⟨⟨x1, i1, h1⟩, e1, e⟩ := Option.bind_eq_some_iff.1 e
      have := l1Byte_nn _ _ _ _ _ _ e1
      simp only at e
      split at e
      · simp at e
      · simp only [Option.some.injEq, Prod.mk.injEq] at e
        rw [← e.1]; exact Int.tmod_nonneg _ (by omega)
    · obtain ⟨⟨x1, i1, h1⟩, e1, e⟩ := Option.bind_eq_some_iff.1 e
      obtain ⟨⟨x2, i2, h2⟩, e2, e⟩ := Option.bind_eq_some_iff.1 e
      obtain ⟨⟨x3, i3, h3⟩, e3, e⟩ := Option.bind_eq_some_iff.1 e
      obtain ⟨⟨x4, i4, h4⟩, e4, e⟩ := Option.bind_eq_some_iff.1 e
      have b1 := l1Byte_nn _ _ _ _ _ _ e1
      have b2 := l1Byte_nn _ _ _ _ _ _ e2
      have b3 := l1Byte_nn _ _ _ _ _ _ e3
      have b4 := l1Byte_nn _ _ _ _ _ _ e4
      simp only at e
      split at e
      · simp at e
      · simp only [Option.some.injEq, Prod.mk.injEq] at e
        rw [← e.1]
        refine Int.tmod_nonneg _ ?_
        rw [w64 (x := x1 * 16777216) (by omega) (by omega), w64 (x := x2 * 65536) (by omega) (by omega), w64 (x := x3 * 256) (by omega) (by omega), w64 (x := x1 * 16777216 + x2 * 65536) (by omega) (by omega), w64 (x := x1 * 16777216 + x2 * 65536 + x3 * 256) (by omega) (by omega), w64 (by omega) (by omega)]
        omega
theorem rd_mem (l : List Int) (i : Int) (h0 : 0 ≤ i) (h1 : i < l.length) : rd l i ∈ l := by
  unfold rd
  rw [List.getD_eq_getElem?_getD, List.getElem?_eq_getElem (by omega)]
  exact List.getElem_mem _
theorem l1PickInt_ok (b : List Int) (i h : Int) (l : List Int) (hi : 0 ≤ i ∧ i ≤ 9223372036854775807) (hb : b.length ≤ 140737488355328) (hl : 0 < l.length) : ∃ x i' h', spec_l1PickInt.f b i h l = some (x, i', h') ∧ (0 ≤ i' ∧ i' ≤ 9223372036854775807) ∧ x ∈ l := by
  obtain ⟨x, i', h', e, p, _, hx⟩ := l1Below_ok b i h l.length hi hb
  have hn := l1Below_nn _ _ _ _ _ _ _ e
  have hx := hx (by omega)
  refine ⟨rd l x, i', h', ?_, p, rd_mem l x hn hx.2⟩
  unfold spec_l1PickInt.f
  rw [e]
  simp only [Option.bind_some]
  rw [if_pos hn, if_pos hx.2]
theorem bytesOf_by (s : ByteArray) : By (bytesOf s) := by
  intro x hx
  unfold bytesOf at hx
  obtain ⟨b, _, rfl⟩ := List.mem_map.1 hx
  have := b.toNat_lt
  omega

def inr (a b c : Int) : Bool := decide (b ≤ a ∧ a ≤ c)
theorem ba_nil : (⟨#[]⟩ : ByteArray).toList = [] := by rw [ByteArray.toList, ByteArray.toList.loop]; rfl
theorem if_eq0 (a c : Int) (x : Bool) : (if a = c then some x else some false) = some (a == c && x) := by
  by_cases h : a = c
  · subst h; simp
  · have b : (a == c) = false := by simpa using h
    simp [h, b]
theorem if_tt (b x : Bool) : (if b = true then some x else some false) = some (b && x) := by cases b <;> rfl

theorem rdF_mid (P : List S66) (x : S66) (t : List S66) : rd_T66 (P ++ x :: t) (P.length : Int) = x := by
  unfold rd_T66; simp
theorem rdF_last (P : List S66) (y : S66) (t : List S66) : rd_T66 (P ++ [y] ++ t) (((P ++ [y]).length : Int) - 1) = y := by
  unfold rd_T66
  have : (((P ++ [y]).length : Int) - 1).toNat = P.length := by simp
  rw [this]; simp
def dsize : List S66 → Int
  | [] => 0
  | x :: t => x.f1.size + x.f2.size + dsize t
theorem dsize_nn : ∀ l : List S66, 0 ≤ dsize l
  | [] => by simp [dsize]
  | x :: t => by have := dsize_nn t; simp only [dsize]; omega
theorem dsize_mem {l : List S66} {x : S66} (h : x ∈ l) : (x.f1.size : Int) + x.f2.size ≤ dsize l := by
  induction l with
  | nil => simp at h
  | cons y t ih =>
    have hn := dsize_nn t
    simp only [dsize]
    rcases List.mem_cons.1 h with rfl | h
    · omega
    · have := ih h; omega
def asc : Int → List S66 → Bool
  | _, [] => true
  | lo, x :: t => decide (lo ≤ x.f0 ∧ x.f0 ≤ 7) && asc (x.f0 + 1) t
theorem asc_len : ∀ (l : List S66) (lo : Int), lo ≤ 8 → asc lo l = true → (l.length : Int) ≤ 8 - lo
  | [], lo, h, _ => by simp; omega
  | x :: t, lo, h, ha => by
    simp only [asc, Bool.and_eq_true, decide_eq_true_eq] at ha
    have := asc_len t (x.f0 + 1) (by omega) ha.2
    simp only [List.length_cons]; omega
def diskOk (room : Int) (l : List S66) : Bool := asc 0 l && (inr room 0 40000 && decide (dsize l ≤ room))

theorem l3Size_l (rest : List S66) : ∀ (P : List S66) (n room : Int), 0 ≤ n → n + dsize rest ≤ 1152921504606846976 → P.length + rest.length ≤ 140737488355328 → Ev (fun k => spec_l3Size.l0 k n (P.length : Int) room (P ++ rest)) (n + dsize rest) := by
  induction rest with
  | nil =>
    intro P n room h0 h1 hl
    refine Ev.step (f := fun _ => some n) (fun k => ?_) ?_
    · simp only [spec_l3Size.l0]
      rw [if_neg (by simp)]
    · simp only [dsize, Int.add_zero]; exact Ev.now _
  | cons x t ih =>
    intro P n room h0 h1 hl
    simp only [List.length_cons] at hl
    have hn := dsize_nn t
    simp only [dsize] at h1
    have h := ih (P ++ [x]) (n + x.f1.size + x.f2.size) room (by omega) (by omega) (by simp; omega)
    have e : n + dsize (x :: t) = n + x.f1.size + x.f2.size + dsize t := by simp only [dsize]; omega
    rw [e]
    refine Ev.step (fun k => ?_) h
    simp only [spec_l3Size.l0]
    rw [if_pos (by simp; omega), if_pos (by omega), rdF_mid, w64 (x := n + x.f1.size) (by omega) (by omega), w64 (by omega) (by omega), w64 (by omega) (by omega)]
    simp
theorem l3Size_ev (room : Int) (l : List S66) (h1 : dsize l ≤ 1152921504606846976) (hl : l.length ≤ 140737488355328) : Ev (fun k => spec_l3Size.f k room l) (dsize l) := by
  have h := l3Size_l l [] 0 room (by omega) (by omega) (by simpa using hl)
  simpa [spec_l3Size.f] using h

theorem l1In_eq (a b c : Int) : spec_l1In.f a b c = some (inr a b c) := by
  unfold spec_l1In.f inr
  by_cases h : a ≥ b
  · rw [if_pos h]; congr 1; by_cases h2 : a ≤ c <;> simp [h, h2]
  · rw [if_neg h]; congr 1; simp; omega

theorem l3Name_eq (a : Int) : spec_l3Name.f a = some (inr a 0 7) := by unfold spec_l3Name.f; rw [l1In_eq]; rfl
theorem specDiskOk_l (rest : List S66) : ∀ (P : List S66) (lo room : Int), 0 ≤ lo → (P = [] ∧ lo = 0 ∨ ∃ P' y, P = P' ++ [y] ∧ lo = y.f0 + 1) → P.length + rest.length ≤ 140737488355328 → Ev (fun k => spec_DiskOk.l0 k (P.length : Int) room (P ++ rest)) (asc lo rest) := by
  induction rest with
  | nil =>
    intro P lo room h0 hP hl
    refine Ev.step (f := fun _ => some true) (fun k => ?_) (Ev.now _)
    simp only [spec_DiskOk.l0]
    rw [if_neg (by simp)]
  | cons x t ih =>
    intro P lo room h0 hP hl
    simp only [List.length_cons] at hl
    have el : ((P ++ x :: t).length : Int) = P.length + t.length + 1 := by simp; omega
    have hw1 : wrap64 ((P.length : Int) + 1) = ((P ++ [x]).length : Int) := by rw [w64 (by omega) (by omega)]; simp
    by_cases c1 : 0 ≤ x.f0 ∧ x.f0 ≤ 7
    · have i1 : inr x.f0 0 7 = true := decide_eq_true c1
      by_cases c2 : lo ≤ x.f0
      · have h := ih (P ++ [x]) (x.f0 + 1) room (by omega) (.inr ⟨P, x, rfl, rfl⟩) (by simp; omega)
        refine Ev.step2 (f := fun k => spec_DiskOk.l0 k ((P ++ [x]).length : Int) room ((P ++ [x]) ++ t)) (fun k => ?_) ?_
        · simp only [spec_DiskOk.l0, spec_DiskOk.j2, l3Name_eq, Option.bind_some, decide_eq_true_eq, Bool.false_eq_true, ↓reduceIte]
          rw [if_pos (by omega), if_pos (by omega), rdF_mid, i1, if_pos rfl]
          have ea : P ++ x :: t = P ++ [x] ++ t := by simp
          rcases hP with ⟨rfl, rfl⟩ | ⟨P', y, rfl, rfl⟩
          · rw [if_neg (by simp), hw1, ea]
          · have ep : ((P' ++ [y]).length : Int) = P'.length + 1 := by simp
            rw [if_pos (by omega), w64 (x := ((P' ++ [y]).length : Int) - 1) (by omega) (by omega), if_pos (by omega), if_pos (by omega), show P' ++ [y] ++ x :: t = P' ++ [y] ++ (x :: t) from rfl, rdF_last, if_neg (by omega), hw1, ea]
        · simp only [asc, show lo ≤ x.f0 ∧ x.f0 ≤ 7 from ⟨c2, c1.2⟩, decide_true, Bool.true_and]; exact h
      · refine Ev.step2 (f := fun _ => some false) (fun k => ?_) ?_
        · simp only [spec_DiskOk.l0, spec_DiskOk.j2, l3Name_eq, Option.bind_some, decide_eq_true_eq, Bool.false_eq_true, ↓reduceIte]
          rw [if_pos (by omega), if_pos (by omega), rdF_mid, i1, if_pos rfl]
          rcases hP with ⟨rfl, rfl⟩ | ⟨P', y, rfl, rfl⟩
          · omega
          · have ep : ((P' ++ [y]).length : Int) = P'.length + 1 := by simp
            rw [if_pos (by omega), w64 (x := ((P' ++ [y]).length : Int) - 1) (by omega) (by omega), if_pos (by omega), if_pos (by omega), rdF_last, if_pos (by omega)]
        · have : asc lo (x :: t) = false := by simp [asc, c2]
          rw [this]; exact Ev.now _
    · have i1 : inr x.f0 0 7 = false := decide_eq_false c1
      refine Ev.step2 (f := fun _ => some false) (fun k => ?_) ?_
      · simp only [spec_DiskOk.l0, spec_DiskOk.j2, l3Name_eq, Option.bind_some, decide_eq_true_eq, Bool.false_eq_true, ↓reduceIte]
        rw [if_pos (by omega), if_pos (by omega), rdF_mid, i1, if_neg (by simp)]
      · have : asc lo (x :: t) = false := by
          have : ¬ (lo ≤ x.f0 ∧ x.f0 ≤ 7) := by omega
          simp only [asc, this, decide_false, Bool.false_and]
        rw [this]; exact Ev.now _
theorem specDiskOk_ev (room : Int) (l : List S66) (h1 : dsize l ≤ 1152921504606846976) (hl : l.length ≤ 140737488355328) : Ev (fun k => spec_DiskOk.f k room l) (diskOk room l) := by
  unfold spec_DiskOk.f diskOk
  simp only [l1In_eq, Option.bind_some]
  have hj : Ev (fun k => spec_DiskOk.j0 k true room l) false := by
    refine Ev.step (f := fun _ => some false) (fun k => ?_) (Ev.now _)
    simp only [spec_DiskOk.j0, ↓reduceIte]
  cases h : inr room 0 40000
  · simp only [Bool.false_eq_true, ↓reduceIte, Bool.false_and, Bool.and_false]; exact hj
  · simp only [↓reduceIte, Bool.true_and]
    by_cases h8 : (l.length : Int) > 8
    · have : asc 0 l = false := by
        cases ha : asc 0 l
        · rfl
        · have := asc_len l 0 (by omega) ha; omega
      simp only [h8, ↓reduceIte, this, Bool.false_and]; exact hj
    · simp only [h8, ↓reduceIte]
      refine Ev.bind (l3Size_ev room l h1 hl) ?_
      by_cases hd : dsize l > room
      · simp only [hd, decide_true, show ¬ dsize l ≤ room by omega, decide_false, Bool.and_false]; exact hj
      · simp only [hd, decide_false, show dsize l ≤ room by omega, decide_true, Bool.and_true]
        refine Ev.step (f := fun k => spec_DiskOk.l0 k 0 room l) (fun k => ?_) ?_
        · simp only [spec_DiskOk.j0]; rfl
        · exact specDiskOk_l l [] 0 room (by omega) (.inl ⟨rfl, rfl⟩) (by simpa using hl)

theorem findS_l (nm : Int) (rest : List S66) : ∀ (P : List S66) (room : Int), P.length + rest.length ≤ 140737488355328 → Ev (fun k => spec_l3Find.l0 k nm (P.length : Int) room (P ++ rest)) (idxName rest nm (P.length : Int)) := by
  induction rest with
  | nil =>
    intro P room hl
    refine Ev.step (f := fun _ => some (-1)) (fun k => ?_) (Ev.now _)
    simp only [spec_l3Find.l0]
    rw [if_neg (by simp)]
  | cons x t ih =>
    intro P room hl
    simp only [List.length_cons] at hl
    have el : ((P ++ x :: t).length : Int) = P.length + t.length + 1 := by simp; omega
    by_cases c : x.f0 = nm
    · refine Ev.step (f := fun _ => some (P.length : Int)) (fun k => ?_) ?_
      · simp only [spec_l3Find.l0]
        rw [if_pos (by omega), if_pos (by omega), rdF_mid, if_pos c]
      · simp only [idxName, c, ↓reduceIte]; exact Ev.now _
    · have h := ih (P ++ [x]) room (by simp; omega)
      have hw1 : wrap64 ((P.length : Int) + 1) = ((P ++ [x]).length : Int) := by rw [w64 (by omega) (by omega)]; simp
      have hi : idxName (x :: t) nm (P.length : Int) = idxName t nm ((P ++ [x]).length : Int) := by simp only [idxName, c, ↓reduceIte]; simp
      rw [hi]
      refine Ev.step (fun k => ?_) h
      simp only [spec_l3Find.l0]
      rw [if_pos (by omega), if_pos (by omega), rdF_mid, if_neg c, hw1]
      simp
theorem findS_ev (room : Int) (l : List S66) (nm : Int) (hl : l.length ≤ 140737488355328) : Ev (fun k => spec_l3Find.f k room l nm) (idxName l nm 0) := by
  have h := findS_l nm l [] room (by simpa using hl)
  simpa [spec_l3Find.f] using h

theorem sizeOf_l (rest : List S66) : ∀ (P : List S66) (n m : Int), m = P.length + rest.length → 0 ≤ n → n + dsize rest ≤ 1152921504606846976 → P.length + rest.length ≤ 140737488355328 → Ev (fun k => impl_sizeOf.l0 k n (P ++ rest) m (P.length : Int)) (n + dsize rest) := by
  induction rest with
  | nil =>
    intro P n m hm h0 h1 hl
    refine Ev.step (f := fun _ => some n) (fun k => ?_) ?_
    · simp only [impl_sizeOf.l0]
      rw [if_neg (by simp at hm; omega)]
    · simp only [dsize, Int.add_zero]; exact Ev.now _
  | cons x t ih =>
    intro P n m hm h0 h1 hl
    simp only [List.length_cons] at hl hm
    have hn := dsize_nn t
    simp only [dsize] at h1
    have h := ih (P ++ [x]) (n + x.f1.size + x.f2.size) m (by simp; omega) (by omega) (by omega) (by simp; omega)
    have e : n + dsize (x :: t) = n + x.f1.size + x.f2.size + dsize t := by simp only [dsize]; omega
    rw [e]
    refine Ev.step (fun k => ?_) h
    simp only [impl_sizeOf.l0]
    rw [if_pos (by omega), if_pos (by omega), if_pos (by simp; omega), rdF_mid, w64 (x := (x.f1.size : Int) + x.f2.size) (by omega) (by omega), w64 (by omega) (by omega), w64 (by omega) (by omega)]
    simp [Int.add_assoc]
theorem sizeOf_ev (room : Int) (l : List S66) (h1 : dsize l ≤ 1152921504606846976) (hl : l.length ≤ 140737488355328) : Ev (fun k => impl_sizeOf.f k room l) (dsize l) := by
  have h := sizeOf_l l [] 0 l.length (by simp) (by omega) (by omega) (by simpa using hl)
  simpa [impl_sizeOf.f] using h

theorem within_eq (a b c : Int) : impl_within.f a b c = some (inr a b c) := by
  unfold impl_within.f inr
  by_cases h : a ≥ b
  · rw [if_pos h]; congr 1; by_cases h2 : a ≤ c <;> simp [h, h2]
  · rw [if_neg h]; congr 1; simp; omega

theorem isFile_eq (a : Int) : impl_isFile.f a = some (inr a 0 7) := by unfold impl_isFile.f; rw [within_eq]; rfl
theorem implDiskOk_l (F : List S66) (hd : dsize F ≤ 1152921504606846976) (hF : F.length ≤ 140737488355328) (rest : List S66) : ∀ (P : List S66) (lo room : Int), F = P ++ rest → 0 ≤ lo → (P = [] ∧ lo = 0 ∨ ∃ P' y, P = P' ++ [y] ∧ lo = y.f0 + 1) → Ev (fun k => impl_DiskOk.l0 k F (F.length : Int) (P.length : Int) room F) (asc lo rest && (inr room 0 40000 && decide (dsize F ≤ room))) := by
  induction rest with
  | nil =>
    intro P lo room hPF h0 hP
    refine Ev.step (f := fun k => (impl_within.f room 0 40000).bind fun t => if t = true then (impl_sizeOf.f k room F).bind fun t2 => some (decide (t2 ≤ room)) else some false) (fun k => ?_) ?_
    · simp only [impl_DiskOk.l0]
      rw [if_neg (by rw [hPF]; simp)]
    · simp only [within_eq, Option.bind_some, asc, Bool.true_and]
      cases inr room 0 40000
      · simp only [Bool.false_eq_true, ↓reduceIte, Bool.false_and]; exact Ev.now _
      · simp only [↓reduceIte, Bool.true_and]
        refine Ev.bind (sizeOf_ev room F hd hF) ?_
        exact Ev.now _
  | cons x t ih =>
    intro P lo room hPF h0 hP
    have el : (F.length : Int) = P.length + t.length + 1 := by rw [hPF]; simp; omega
    have hr : rd_T66 F (P.length : Int) = x := by rw [hPF]; exact rdF_mid P x t
    have hw1 : wrap64 ((P.length : Int) + 1) = ((P ++ [x]).length : Int) := by rw [w64 (by omega) (by omega)]; simp
    by_cases c1 : 0 ≤ x.f0 ∧ x.f0 ≤ 7
    · have i1 : inr x.f0 0 7 = true := decide_eq_true c1
      by_cases c2 : lo ≤ x.f0
      · have h := ih (P ++ [x]) (x.f0 + 1) room (by rw [hPF]; simp) (by omega) (.inr ⟨P, x, rfl, rfl⟩)
        refine Ev.step2 (f := fun k => impl_DiskOk.l0 k F (F.length : Int) ((P ++ [x]).length : Int) room F) (fun k => ?_) ?_
        · simp only [impl_DiskOk.l0, impl_DiskOk.j1, isFile_eq, Option.bind_some, decide_eq_true_eq, Bool.false_eq_true, ↓reduceIte]
          rw [if_pos (by omega), if_pos (by omega), if_pos (by omega), hr, i1, if_pos rfl]
          rcases hP with ⟨rfl, rfl⟩ | ⟨P', y, rfl, rfl⟩
          · rw [if_neg (by simp), hw1]
          · have hy : rd_T66 F (((P' ++ [y]).length : Int) - 1) = y := by rw [hPF]; exact rdF_last P' y (x :: t)
            have ep : ((P' ++ [y]).length : Int) = P'.length + 1 := by simp
            rw [if_pos (by omega), w64 (x := ((P' ++ [y]).length : Int) - 1) (by omega) (by omega), if_pos (by omega), if_pos (by omega), hy, if_neg (by omega), hw1]
        · simp only [asc, show lo ≤ x.f0 ∧ x.f0 ≤ 7 from ⟨c2, c1.2⟩, decide_true, Bool.true_and]; exact h
      · refine Ev.step2 (f := fun _ => some false) (fun k => ?_) ?_
        · simp only [impl_DiskOk.l0, impl_DiskOk.j1, isFile_eq, Option.bind_some, decide_eq_true_eq, Bool.false_eq_true, ↓reduceIte]
          rw [if_pos (by omega), if_pos (by omega), if_pos (by omega), hr, i1, if_pos rfl]
          rcases hP with ⟨rfl, rfl⟩ | ⟨P', y, rfl, rfl⟩
          · omega
          · have hy : rd_T66 F (((P' ++ [y]).length : Int) - 1) = y := by rw [hPF]; exact rdF_last P' y (x :: t)
            have ep : ((P' ++ [y]).length : Int) = P'.length + 1 := by simp
            rw [if_pos (by omega), w64 (x := ((P' ++ [y]).length : Int) - 1) (by omega) (by omega), if_pos (by omega), if_pos (by omega), hy, if_pos (by omega)]
        · have : asc lo (x :: t) = false := by simp [asc, c2]
          rw [this]; exact Ev.now _
    · have i1 : inr x.f0 0 7 = false := decide_eq_false c1
      refine Ev.step2 (f := fun _ => some false) (fun k => ?_) ?_
      · simp only [impl_DiskOk.l0, impl_DiskOk.j1, isFile_eq, Option.bind_some, decide_eq_true_eq, Bool.false_eq_true, ↓reduceIte]
        rw [if_pos (by omega), if_pos (by omega), if_pos (by omega), hr, i1, if_neg (by simp)]
      · have : asc lo (x :: t) = false := by
          have : ¬ (lo ≤ x.f0 ∧ x.f0 ≤ 7) := by omega
          simp only [asc, this, decide_false, Bool.false_and]
        rw [this]; exact Ev.now _
theorem implDiskOk_ev (room : Int) (l : List S66) (h1 : dsize l ≤ 1152921504606846976) (hl : l.length ≤ 140737488355328) : Ev (fun k => impl_DiskOk.f k room l) (diskOk room l) :=
  implDiskOk_l l h1 hl l [] 0 room rfl (by omega) (.inl ⟨rfl, rfl⟩)

theorem l3Copy_eq (room : Int) (l : List S66) (hl : l.length ≤ 3518437208878) : spec_l3Copy.f room l = some (room, l) := by
  unfold spec_l3Copy.f
  simp only [Option.bind_some, List.length_nil, List.nil_append]
  rw [if_pos (by omega)]
theorem copyDisk_eq (room : Int) (l : List S66) (hl : l.length ≤ 3518437208878) : impl_copyDisk.f room l = some (room, l) := by
  unfold impl_copyDisk.f
  simp only [Option.bind_some, List.length_nil, List.nil_append]
  rw [if_pos (by omega)]
theorem diskOk_asc {room : Int} {l : List S66} (h : diskOk room l = true) : asc 0 l = true := by
  unfold diskOk at h; rw [Bool.and_eq_true] at h; exact h.1

theorem idx_b (nm : Int) : ∀ (l : List S66) (i : Int), 0 ≤ i → (idxName l nm i = -1 ∨ i ≤ idxName l nm i ∧ idxName l nm i < i + l.length)
  | [], i, h => by simp [idxName]
  | x :: t, i, h => by
    simp only [idxName, List.length_cons]
    split
    · exact .inr ⟨by omega, by omega⟩
    · have := idx_b nm t (i + 1) (by omega)
      omega
theorem rdF_mem (l : List S66) (i : Int) (h0 : 0 ≤ i) (h1 : i < l.length) : rd_T66 l i ∈ l := by
  unfold rd_T66
  have : i.toNat < l.length := by omega
  simp [List.getD_eq_getElem?_getD, this]
theorem idx_mem (nm : Int) : ∀ (l : List S66) (i : Int), 0 ≤ i → 0 ≤ idxName l nm i → ∃ y ∈ l, y.f0 = nm
  | [], i, h, h1 => by simp [idxName] at h1
  | x :: t, i, h, h1 => by
    simp only [idxName] at h1
    by_cases c : x.f0 = nm
    · exact ⟨x, by simp, c⟩
    · simp only [c, ↓reduceIte] at h1
      obtain ⟨y, hy, e⟩ := idx_mem nm t (i + 1) (by omega) h1
      exact ⟨y, by simp [hy], e⟩

def oth (nm : Int) (l : List S66) : List S66 := l.filter fun x => decide (x.f0 ≠ nm)
def putG (f : S66) : List S66 → List S66
  | [] => [f]
  | x :: t => if x.f0 ≥ f.f0 then f :: oth f.f0 (x :: t) else x :: putG f t
theorem oth_cons_eq {nm : Int} {x : S66} {t : List S66} (h : x.f0 = nm) : oth nm (x :: t) = oth nm t := by simp [oth, h]
theorem oth_cons_ne {nm : Int} {x : S66} {t : List S66} (h : x.f0 ≠ nm) : oth nm (x :: t) = x :: oth nm t := by simp [oth, h]
theorem putT_l (room : Int) (f : S66) (rm : Int) (rest : List S66) : ∀ (P out : List S66), P.length + rest.length ≤ 140737488355328 → out.length + rest.length ≤ 3518437208880 → Ev (fun k => spec_l3Put.l0 k true (P.length : Int) room (P ++ rest) f.f0 f.f1 f.f2 rm out) (rm, out ++ oth f.f0 rest) := by
  induction rest with
  | nil =>
    intro P out hl ho
    refine Ev.step (f := fun _ => some (rm, out)) (fun k => ?_) ?_
    · simp only [spec_l3Put.l0]
      rw [if_neg (by simp), if_pos trivial]
    · simp [oth]; exact Ev.now _
  | cons x t ih =>
    intro P out hl ho
    simp only [List.length_cons] at hl ho
    have el : ((P ++ x :: t).length : Int) = P.length + t.length + 1 := by simp; omega
    have hw1 : wrap64 ((P.length : Int) + 1) = ((P ++ [x]).length : Int) := by rw [w64 (by omega) (by omega)]; simp
    have ea : P ++ x :: t = P ++ [x] ++ t := by simp
    refine Ev.step (fun k => by simp only [spec_l3Put.l0]; rw [if_pos (by omega), if_pos trivial]) ?_
    by_cases c : x.f0 = f.f0
    · have h := ih (P ++ [x]) out (by simp; omega) (by omega)
      rw [oth_cons_eq c]
      refine Ev.step2 (fun k => ?_) h
      simp only [spec_l3Put.j1, spec_l3Put.j2]
      rw [if_neg (by simp), if_pos (by omega), if_pos (by omega), rdF_mid, if_pos c, hw1, ea]
    · have h := ih (P ++ [x]) (out ++ [x]) (by simp; omega) (by simp; omega)
      rw [oth_cons_ne c]
      have e3 : out ++ x :: oth f.f0 t = (out ++ [x]) ++ oth f.f0 t := by simp
      rw [e3]
      refine Ev.step2 (fun k => ?_) h
      simp only [spec_l3Put.j1, spec_l3Put.j2]
      rw [if_neg (by simp), if_pos (by omega), if_pos (by omega), rdF_mid, if_neg c, if_pos (by omega), hw1, ea]
theorem putF_l (room : Int) (f : S66) (rm : Int) (rest : List S66) : ∀ (P out : List S66), P.length + rest.length ≤ 140737488355328 → out.length + rest.length ≤ 3518437208878 → Ev (fun k => spec_l3Put.l0 k false (P.length : Int) room (P ++ rest) f.f0 f.f1 f.f2 rm out) (rm, out ++ putG f rest) := by
  induction rest with
  | nil =>
    intro P out hl ho
    refine Ev.step (f := fun _ => some (rm, out ++ [f])) (fun k => ?_) ?_
    · simp only [spec_l3Put.l0]
      rw [if_neg (by simp), if_neg (by simp), if_pos (by omega)]
    · simp [putG]; exact Ev.now _
  | cons x t ih =>
    intro P out hl ho
    simp only [List.length_cons] at hl ho
    have el : ((P ++ x :: t).length : Int) = P.length + t.length + 1 := by simp; omega
    have hw1 : wrap64 ((P.length : Int) + 1) = ((P ++ [x]).length : Int) := by rw [w64 (by omega) (by omega)]; simp
    have ea : P ++ x :: t = P ++ [x] ++ t := by simp
    refine Ev.step (fun k => by simp only [spec_l3Put.l0]; rw [if_pos (by omega), if_neg (by simp), if_pos (by omega), rdF_mid]) ?_
    by_cases c : x.f0 ≥ f.f0
    · simp only [c, decide_true, putG, ↓reduceIte]
      by_cases c2 : x.f0 = f.f0
      · have h := putT_l room f rm t (P ++ [x]) (out ++ [f]) (by simp; omega) (by simp; omega)
        rw [oth_cons_eq c2]
        have e3 : out ++ f :: oth f.f0 t = (out ++ [f]) ++ oth f.f0 t := by simp
        rw [e3]
        refine Ev.step2 (fun k => ?_) h
        simp only [spec_l3Put.j1, spec_l3Put.j2]
        rw [if_pos trivial, if_pos (by omega)]
        rw [if_pos (by omega), if_pos (by omega), rdF_mid, if_pos c2, hw1, ea]
      · have h := putT_l room f rm t (P ++ [x]) (out ++ [f] ++ [x]) (by simp; omega) (by simp; omega)
        rw [oth_cons_ne c2]
        have e3 : out ++ f :: x :: oth f.f0 t = (out ++ [f] ++ [x]) ++ oth f.f0 t := by simp
        rw [e3]
        refine Ev.step2 (fun k => ?_) h
        simp only [spec_l3Put.j1, spec_l3Put.j2]
        rw [if_pos trivial, if_pos (by omega)]
        rw [if_pos (by omega), if_pos (by omega), rdF_mid, if_neg c2, if_pos (by simp; omega), hw1, ea]
    · simp only [c, decide_false, putG, ↓reduceIte]
      have c2 : ¬ x.f0 = f.f0 := by omega
      have h := ih (P ++ [x]) (out ++ [x]) (by simp; omega) (by simp; omega)
      have e3 : out ++ x :: putG f t = (out ++ [x]) ++ putG f t := by simp
      rw [e3]
      refine Ev.step2 (fun k => ?_) h
      simp only [spec_l3Put.j1, spec_l3Put.j2]
      rw [if_neg (by simp), if_pos (by omega), if_pos (by omega), rdF_mid, if_neg c2, if_pos (by omega), hw1, ea]
theorem l3Put_ev (room : Int) (l : List S66) (f : S66) (hl : l.length ≤ 3518437208878) : Ev (fun k => spec_l3Put.f k room l f.f0 f.f1 f.f2) (room, putG f l) := by
  have h := putF_l room f room l [] [] (by simp; omega) (by simpa using hl)
  simpa [spec_l3Put.f] using h
theorem asc_gt : ∀ (l : List S66) (lo : Int) (x : S66), asc lo l = true → x ∈ l → lo ≤ x.f0
  | y :: t, lo, x, h, hx => by
    simp only [asc, Bool.and_eq_true, decide_eq_true_eq] at h
    rcases List.mem_cons.1 hx with rfl | hx
    · exact h.1.1
    · have := asc_gt t (y.f0 + 1) x h.2 hx; omega
theorem oth_asc (l : List S66) (lo nm : Int) (h : asc lo l = true) (hn : nm < lo) : oth nm l = l := by
  unfold oth
  rw [List.filter_eq_self]
  intro x hx
  have := asc_gt l lo x h hx
  simp; omega
theorem putG_set (f : S66) : ∀ (l : List S66) (lo i : Int), asc lo l = true → 0 ≤ i → 0 ≤ idxName l f.f0 i → putG f l = l.set (idxName l f.f0 i - i).toNat f
  | [], lo, i, h, h0, h1 => by simp [idxName] at h1
  | x :: t, lo, i, h, h0, h1 => by
    simp only [asc, Bool.and_eq_true, decide_eq_true_eq] at h
    simp only [idxName] at h1 ⊢
    by_cases c : x.f0 = f.f0
    · simp only [c, ↓reduceIte, putG]
      rw [if_pos (by omega), oth_cons_eq c, oth_asc t (x.f0 + 1) f.f0 h.2 (by omega)]
      simp
    · simp only [c, ↓reduceIte] at h1 ⊢
      have hb := idx_b f.f0 t (i + 1) (by omega)
      have hm : ∃ y ∈ t, y.f0 = f.f0 := idx_mem f.f0 t (i + 1) (by omega) h1
      obtain ⟨y, hy, e⟩ := hm
      have hg := asc_gt t (x.f0 + 1) y h.2 hy
      have ih := putG_set f t (x.f0 + 1) (i + 1) h.2 (by omega) h1
      simp only [putG]
      rw [if_neg (by omega), ih]
      have e2 : (idxName t f.f0 (i + 1) - i).toNat = (idxName t f.f0 (i + 1) - (i + 1)).toNat + 1 := by omega
      rw [e2, List.set_cons_succ]

theorem diskOk_b {room : Int} {l : List S66} (h : diskOk room l = true) : 0 ≤ room ∧ room ≤ 40000 ∧ dsize l ≤ room ∧ l.length ≤ 8 := by
  unfold diskOk at h
  simp only [Bool.and_eq_true, inr, decide_eq_true_eq] at h
  have := asc_len l 0 (by omega) h.1
  omega
def appF (l : List S66) (nm : Int) (s : ByteArray) : S66 :=
  if idxName l nm 0 ≥ 0 then ⟨(rd_T66 l (idxName l nm 0)).f0, (rd_T66 l (idxName l nm 0)).f1, (rd_T66 l (idxName l nm 0)).f2 ++ s⟩ else ⟨nm, (⟨#[]⟩ : ByteArray), (⟨#[]⟩ : ByteArray) ++ s⟩
def diskAppend (room : Int) (l : List S66) (nm : Int) (s : ByteArray) : Int × List S66 × Int :=
  if (diskOk room l && inr nm 0 7) = true then (if (s.size : Int) > room - dsize l then (room, l, 3) else (room, putG (appF l nm s) l, 0)) else (0, [], 1)
theorem dsize_oth (nm : Int) : ∀ l : List S66, dsize (oth nm l) ≤ dsize l ∧ (oth nm l).length ≤ l.length
  | [] => by simp [oth, dsize]
  | x :: t => by
    have h := dsize_oth nm t
    have hn := dsize_nn (oth nm t)
    by_cases c : x.f0 = nm
    · rw [oth_cons_eq c]; simp only [dsize, List.length_cons]; omega
    · rw [oth_cons_ne c]; simp only [dsize, List.length_cons]; omega
theorem dsize_putG (f : S66) : ∀ l : List S66, dsize (putG f l) ≤ dsize l + f.f1.size + f.f2.size ∧ (putG f l).length ≤ l.length + 1
  | [] => by simp only [putG, dsize, List.length_cons, List.length_nil]; omega
  | x :: t => by
    have h := dsize_putG f t
    simp only [putG]
    split
    · have := dsize_oth f.f0 (x :: t)
      simp only [dsize, List.length_cons] at this ⊢; omega
    · simp only [dsize, List.length_cons]; omega
theorem appF_size (l : List S66) (nm : Int) (s : ByteArray) (hl : l.length ≤ 140737488355328) : ((appF l nm s).f1.size : Int) + (appF l nm s).f2.size ≤ dsize l + s.size := by
  unfold appF
  split
  · rename_i h
    have hb := idx_b nm l 0 (by omega)
    have hm := dsize_mem (rdF_mem l (idxName l nm 0) (by omega) (by omega))
    simp only [ByteArray.size_append]; omega
  · have hn := dsize_nn l
    have : (⟨#[]⟩ : ByteArray).size = 0 := rfl
    simp only [ByteArray.size_append, this]; omega
theorem specDiskAppend_ev (room : Int) (l : List S66) (nm : Int) (s : ByteArray) (h1 : dsize l ≤ 1152921504606846976) (hl : l.length ≤ 3518437208878) (hs : s.size ≤ 140737488355328) : Ev (fun k => spec_DiskAppend.f k room l nm s) (diskAppend room l nm s) := by
  unfold spec_DiskAppend.f diskAppend
  refine Ev.bind (specDiskOk_ev room l h1 (by omega)) ?_
  have hj : Ev (fun k => spec_DiskAppend.j0 k nm s true room l) (0, [], 1) := by
    refine Ev.step (f := fun _ => some (0, [], 1)) (fun k => ?_) (Ev.now _)
    simp only [spec_DiskAppend.j0, ↓reduceIte]
  cases h : diskOk room l
  · simp only [Bool.false_eq_true, ↓reduceIte, Bool.false_and]; exact hj
  · have hb := diskOk_b h
    have hn := dsize_nn l
    simp only [↓reduceIte, Bool.true_and, l3Name_eq, Option.bind_some]
    cases h2 : inr nm 0 7
    · simp only [Bool.not_false, Bool.false_eq_true, ↓reduceIte]; exact hj
    · simp only [Bool.not_true, ↓reduceIte]
      refine Ev.step (fun k => by simp only [spec_DiskAppend.j0, Bool.false_eq_true, ↓reduceIte]; rfl) ?_
      refine Ev.bind (l3Size_ev room l (by omega) (by omega)) ?_
      have hw : wrap64 (room - dsize l) = room - dsize l := w64 (by omega) (by omega)
      simp only [hw]
      by_cases c : (s.size : Int) > room - dsize l
      · simp only [c, ↓reduceIte, l3Copy_eq room l hl, Option.bind_some]; exact Ev.now _
      · simp only [c, ↓reduceIte]
        refine Ev.bind (findS_ev room l nm (by omega)) ?_
        unfold appF
        by_cases c2 : idxName l nm 0 ≥ 0
        · have hb2 := idx_b nm l 0 (by omega)
          have hm := dsize_mem (rdF_mem l (idxName l nm 0) (by omega) (by omega))
          simp only [c2, ↓reduceIte, show 0 ≤ idxName l nm 0 by omega, show idxName l nm 0 < (l.length : Int) by omega, show (rd_T66 l (idxName l nm 0)).f2.size + s.size ≤ 9223372036854775807 by omega]
          refine Ev.step (fun k => by simp only [spec_DiskAppend.j1, show (rd_T66 l (idxName l nm 0)).f2.size + s.size ≤ 9223372036854775807 by omega, ↓reduceIte]; rfl) ?_
          exact Ev.bind (l3Put_ev room l ⟨(rd_T66 l (idxName l nm 0)).f0, (rd_T66 l (idxName l nm 0)).f1, (rd_T66 l (idxName l nm 0)).f2 ++ s⟩ hl) (Ev.now _)
        · simp only [c2, ↓reduceIte, show 0 + s.size ≤ 9223372036854775807 by omega]
          refine Ev.step (fun k => by simp only [spec_DiskAppend.j1, show (⟨#[]⟩ : ByteArray).size + s.size ≤ 9223372036854775807 by (have e0 : (⟨#[]⟩ : ByteArray).size = 0 := rfl); omega, ↓reduceIte]; rfl) ?_
          exact Ev.bind (l3Put_ev room l ⟨nm, (⟨#[]⟩ : ByteArray), (⟨#[]⟩ : ByteArray) ++ s⟩ hl) (Ev.now _)

def syncF (l : List S66) (nm : Int) : S66 := ⟨nm, (rd_T66 l (idxName l nm 0)).f1 ++ (rd_T66 l (idxName l nm 0)).f2, (⟨#[]⟩ : ByteArray)⟩
def diskSync (room : Int) (l : List S66) (nm : Int) : Int × List S66 × Int :=
  if (diskOk room l && inr nm 0 7) = true then (if idxName l nm 0 < 0 then (room, l, 2) else (room, l.set (idxName l nm 0).toNat (syncF l nm), 0)) else (0, [], 1)
theorem diskSync_len (room : Int) (l : List S66) (nm : Int) : (diskSync room l nm).2.1.length ≤ l.length := by
  unfold diskSync
  split
  · split <;> simp
  · simp
theorem specDiskSync_ev (room : Int) (l : List S66) (nm : Int) (h1 : dsize l ≤ 1152921504606846976) (hl : l.length ≤ 3518437208878) : Ev (fun k => spec_DiskSync.f k room l nm) (diskSync room l nm) := by
  unfold spec_DiskSync.f diskSync
  refine Ev.bind (specDiskOk_ev room l h1 (by omega)) ?_
  have hj : Ev (fun k => spec_DiskSync.j0 k nm true room l) (0, [], 1) := by
    refine Ev.step (f := fun _ => some (0, [], 1)) (fun k => ?_) (Ev.now _)
    simp only [spec_DiskSync.j0, ↓reduceIte]
  cases h : diskOk room l
  · simp only [Bool.false_eq_true, ↓reduceIte, Bool.false_and]; exact hj
  · simp only [↓reduceIte, Bool.true_and, l3Name_eq, Option.bind_some]
    cases h2 : inr nm 0 7
    · simp only [Bool.not_false, Bool.false_eq_true, ↓reduceIte]; exact hj
    · simp only [Bool.not_true, ↓reduceIte]
      refine Ev.step (fun k => by simp only [spec_DiskSync.j0, Bool.false_eq_true, ↓reduceIte]; rfl) ?_
      refine Ev.bind (findS_ev room l nm (by omega)) ?_
      by_cases c : idxName l nm 0 < 0
      · simp only [c, ↓reduceIte, l3Copy_eq room l hl, Option.bind_some]; exact Ev.now _
      · have hb := idx_b nm l 0 (by omega)
        have hm := dsize_mem (rdF_mem l (idxName l nm 0) (by omega) (by omega))
        have k1 : 0 ≤ idxName l nm 0 := by omega
        have k2 : idxName l nm 0 < (l.length : Int) := by omega
        have k3 : ((rd_T66 l (idxName l nm 0)).f1).size + ((rd_T66 l (idxName l nm 0)).f2).size ≤ 9223372036854775807 := by omega
        simp only [c, ↓reduceIte, k1, k2, k3]
        refine Ev.bind (l3Put_ev room l (syncF l nm) hl) ?_
        have e := putG_set (syncF l nm) l 0 0 (diskOk_asc h) (by omega) k1
        rw [show (syncF l nm).f0 = nm from rfl, Int.sub_zero] at e
        rw [e]
        exact Ev.now _
theorem implDiskSync_ev (room : Int) (l : List S66) (nm : Int) (h1 : dsize l ≤ 1152921504606846976) (hl : l.length ≤ 3518437208878) : Ev (fun k => impl_DiskSync.f k room l nm) (diskSync room l nm) := by
  unfold impl_DiskSync.f diskSync
  refine Ev.bind (implDiskOk_ev room l h1 (by omega)) ?_
  have hj : Ev (fun k => impl_DiskSync.j0 k nm true room l) (0, [], 1) := by
    refine Ev.step (f := fun _ => some (0, [], 1)) (fun k => ?_) (Ev.now _)
    simp only [impl_DiskSync.j0, ↓reduceIte]
  cases h : diskOk room l
  · simp only [Bool.false_eq_true, ↓reduceIte, Bool.false_and]; exact hj
  · simp only [↓reduceIte, Bool.true_and, isFile_eq, Option.bind_some]
    cases h2 : inr nm 0 7
    · simp only [Bool.not_false, Bool.false_eq_true, ↓reduceIte]; exact hj
    · simp only [Bool.not_true, ↓reduceIte]
      refine Ev.step (fun k => by simp only [impl_DiskSync.j0, Bool.false_eq_true, ↓reduceIte, copyDisk_eq room l hl, impl_fileAt.f, Option.bind_some]; rfl) ?_
      by_cases c : idxName l nm 0 < 0
      · simp only [c, ↓reduceIte]; exact Ev.now _
      · have hb := idx_b nm l 0 (by omega)
        have hm := dsize_mem (rdF_mem l (idxName l nm 0) (by omega) (by omega))
        have k1 : 0 ≤ idxName l nm 0 := by omega
        have k2 : idxName l nm 0 < (l.length : Int) := by omega
        have k3 : ((rd_T66 l (idxName l nm 0)).f1).size + ((rd_T66 l (idxName l nm 0)).f2).size ≤ 9223372036854775807 := by omega
        simp only [c, ↓reduceIte, k1, k2, k3]
        exact Ev.now _

theorem empty_app (s : ByteArray) : (⟨#[]⟩ : ByteArray) ++ s = s := by
  apply ByteArray.ext
  simp
theorem idx_none (nm : Int) : ∀ (l : List S66) (i : Int), 0 ≤ i → idxName l nm i < 0 → ∀ x ∈ l, x.f0 ≠ nm
  | [], i, h, h1, x, hx => by simp at hx
  | y :: t, i, h, h1, x, hx => by
    simp only [idxName] at h1
    by_cases c : y.f0 = nm
    · simp only [c, ↓reduceIte] at h1; omega
    · simp only [c, ↓reduceIte] at h1
      rcases List.mem_cons.1 hx with rfl | hx
      · exact c
      · exact idx_none nm t (i + 1) (by omega) h1 x hx
theorem idx_nameA (nm : Int) : ∀ (l : List S66) (i : Int), 0 ≤ i → 0 ≤ idxName l nm i → (rd_T66 l (idxName l nm i - i)).f0 = nm
  | [], i, h, h1 => by simp [idxName] at h1
  | y :: t, i, h, h1 => by
    simp only [idxName] at h1 ⊢
    by_cases c : y.f0 = nm
    · simp only [c, ↓reduceIte, Int.sub_self]
      unfold rd_T66; simpa using c
    · simp only [c, ↓reduceIte] at h1 ⊢
      have ih := idx_nameA nm t (i + 1) (by omega) h1
      have hb := idx_b nm t (i + 1) (by omega)
      have e : (idxName t nm (i + 1) - i).toNat = (idxName t nm (i + 1) - (i + 1)).toNat + 1 := by omega
      unfold rd_T66 at ih ⊢
      rw [e]
      simpa using ih
theorem putG_place (f : S66) : ∀ l : List S66, (∀ x ∈ l, x.f0 ≠ f.f0) → putG f l = placeL l f
  | [], _ => by simp [putG, placeL, placeIdx]
  | x :: t, h => by
    have hx := h x (by simp)
    by_cases c : x.f0 ≥ f.f0
    · have e : placeIdx (x :: t) f.f0 = 0 := by
        have : ¬ x.f0 < f.f0 := by omega
        simp [placeIdx, this]
      have ho : oth f.f0 (x :: t) = x :: t := by
        unfold oth
        rw [List.filter_eq_self]
        intro y hy
        simpa using h y hy
      simp only [putG, c, ↓reduceIte, ho, placeL, e, List.take_zero, List.drop_zero, List.nil_append, List.cons_append]
    · have e : placeIdx (x :: t) f.f0 = placeIdx t f.f0 + 1 := by
        have : x.f0 < f.f0 := by omega
        simp [placeIdx, this]
      have ih := putG_place f t (fun y hy => h y (by simp [hy]))
      unfold placeL at ih ⊢
      simp only [putG, c, ↓reduceIte, e, List.take_succ_cons, List.drop_succ_cons, List.cons_append, ih]
theorem diskAppend_len (room : Int) (l : List S66) (nm : Int) (s : ByteArray) : (diskAppend room l nm s).2.1.length ≤ l.length + 1 := by
  unfold diskAppend
  split
  · split
    · simp
    · exact (dsize_putG (appF l nm s) l).2
  · simp
theorem implDiskAppend_ev (room : Int) (l : List S66) (nm : Int) (s : ByteArray) (h1 : dsize l ≤ 1152921504606846976) (hl : l.length ≤ 3518437208878) (hs : s.size ≤ 140737488355328) : Ev (fun k => impl_DiskAppend.f k room l nm s) (diskAppend room l nm s) := by
  unfold impl_DiskAppend.f diskAppend
  refine Ev.bind (implDiskOk_ev room l h1 (by omega)) ?_
  have hj : Ev (fun k => impl_DiskAppend.j0 k nm s true room l) (0, [], 1) := by
    refine Ev.step (f := fun _ => some (0, [], 1)) (fun k => ?_) (Ev.now _)
    simp only [impl_DiskAppend.j0, ↓reduceIte]
  cases h : diskOk room l
  · simp only [Bool.false_eq_true, ↓reduceIte, Bool.false_and]; exact hj
  · have hb := diskOk_b h
    have hn := dsize_nn l
    simp only [↓reduceIte, Bool.true_and, isFile_eq, Option.bind_some]
    cases h2 : inr nm 0 7
    · simp only [Bool.not_false, Bool.false_eq_true, ↓reduceIte]; exact hj
    · simp only [Bool.not_true, ↓reduceIte]
      refine Ev.step (fun k => by simp only [impl_DiskAppend.j0, Bool.false_eq_true, ↓reduceIte]; rfl) ?_
      refine Ev.bind (sizeOf_ev room l (by omega) (by omega)) ?_
      have hw : wrap64 (dsize l + (s.size : Int)) = dsize l + s.size := w64 (by omega) (by omega)
      simp only [hw]
      by_cases c : (s.size : Int) > room - dsize l
      · have c' : dsize l + (s.size : Int) > room := by omega
        simp only [c, c', ↓reduceIte, copyDisk_eq room l hl, Option.bind_some]; exact Ev.now _
      · have c' : ¬ dsize l + (s.size : Int) > room := by omega
        simp only [c, c', ↓reduceIte, impl_fileAt.f, Option.bind_some]
        unfold appF
        by_cases c2 : idxName l nm 0 < 0
        · have c3 : ¬ idxName l nm 0 ≥ 0 := by omega
          simp only [c2, c3, ↓reduceIte, impl_placed.f, show l.length ≤ 1000 by omega, Option.bind_some, empty_app]
          rw [putG_place _ l (idx_none nm l 0 (by omega) c2)]
          exact Ev.now _
        · have hb2 := idx_b nm l 0 (by omega)
          have hm := dsize_mem (rdF_mem l (idxName l nm 0) (by omega) (by omega))
          have hnm := idx_nameA nm l 0 (by omega) (by omega)
          rw [Int.sub_zero] at hnm
          have e := putG_set ⟨(rd_T66 l (idxName l nm 0)).f0, (rd_T66 l (idxName l nm 0)).f1, (rd_T66 l (idxName l nm 0)).f2 ++ s⟩ l 0 0 (diskOk_asc h) (by omega) (by rw [hnm]; omega)
          simp only [hnm, Int.sub_zero] at e
          simp only [c2, ↓reduceIte, copyDisk_eq room l hl, Option.bind_some, show idxName l nm 0 ≥ 0 by omega, show 0 ≤ idxName l nm 0 by omega, show idxName l nm 0 < (l.length : Int) by omega, show (rd_T66 l (idxName l nm 0)).f2.size + s.size ≤ 9223372036854775807 by omega, hnm, e]
          exact Ev.now _

def sumGo : List Int → Int → Int → Int
  | [], x, y => 65536 * y + x
  | c :: t, x, y => sumGo t ((x + c) % 65521) ((y + (x + c) % 65521) % 65521)
theorem sumGo_b (l : List Int) : ∀ x y : Int, 0 ≤ x → x < 65521 → 0 ≤ y → y < 65521 → 0 ≤ sumGo l x y ∧ sumGo l x y < 4294967296 := by
  induction l with
  | nil => intro x y h0 h1 h2 h3; simp only [sumGo]; omega
  | cons c t ih =>
    intro x y h0 h1 h2 h3
    exact ih _ _ (by omega) (by omega) (by omega) (by omega)
def sumOf (l : List Int) : Int := sumGo l 1 0
theorem sumOf_b (l : List Int) : 0 ≤ sumOf l ∧ sumOf l < 4294967296 := sumGo_b l 1 0 (by omega) (by omega) (by omega) (by omega)
theorem rd_mid (P : List Int) (c : Int) (t : List Int) : rd (P ++ c :: t) (P.length : Int) = c := by rw [rd_nat]; simp

def putNum (x : Int) : List Int := if h : x > 127 then (x % 128 + 128) :: putNum (x / 128) else [x]
termination_by x.toNat
decreasing_by omega
theorem putNum_big {x : Int} (h : x > 127) : putNum x = (x % 128 + 128) :: putNum (x / 128) := by rw [putNum]; simp [h]
theorem putNum_small {x : Int} (h : ¬ x > 127) : putNum x = [x] := by rw [putNum]; simp [h]
theorem putNum_by (m : Nat) : ∀ x : Int, 0 ≤ x → x < 128 ^ (m + 1) → By (putNum x) ∧ (putNum x).length ≤ m + 1 ∧ 1 ≤ (putNum x).length := by
  induction m with
  | zero =>
    intro x h0 h1
    have h1 : x < 128 := by simpa using h1
    rw [putNum_small (by omega)]
    refine ⟨fun y hy => ?_, by simp, by simp⟩
    simp at hy; omega
  | succ m ih =>
    intro x h0 h1
    by_cases h : x > 127
    · rw [putNum_big h]
      obtain ⟨h2, h3, h4⟩ := ih (x / 128) (by omega) (by rw [Int.pow_succ] at h1; omega)
      refine ⟨fun y hy => ?_, by simp; omega, by simp⟩
      rcases List.mem_cons.1 hy with rfl | hy
      · omega
      · exact h2 y hy
    · rw [putNum_small h]
      refine ⟨fun y hy => ?_, by simp, by simp⟩
      simp at hy; omega
theorem putNum_b9 {x : Int} (h0 : 0 ≤ x) (h1 : x ≤ 9223372036854775807) : By (putNum x) ∧ (putNum x).length ≤ 9 ∧ 1 ≤ (putNum x).length := putNum_by 8 x h0 (by omega)

def sum4 (l : List Int) : List Int := [sumOf l % 256, sumOf l / 256 % 256, sumOf l / 65536 % 256, sumOf l / 16777216 % 256]
def sealed (l : List Int) : List Int := putNum l.length ++ l ++ sum4 l
def sealOf (l : List Int) : List Int × Bool := if l.length > 3000 then ([], false) else (sealed l, true)
theorem sealOf_len (l : List Int) : (sealOf l).1.length ≤ 3013 := by
  unfold sealOf
  split
  · simp
  · have := (putNum_b9 (x := l.length) (by omega) (by omega)).2.1
    simp [sealed, sum4]; omega

def sealsB : List ByteArray → List Int
  | [] => []
  | s :: t => sealed (bytesOf s) ++ sealsB t
def okS (l : List ByteArray) : Bool := l.all fun s => decide (s.size ≤ 3000)
theorem sealed_len (s : ByteArray) (h : s.size ≤ 3000) : (sealed (bytesOf s)).length ≤ 3013 := by
  have := sealOf_len (bytesOf s)
  unfold sealOf at this
  rw [if_neg (by rw [bytesOf_length]; omega)] at this
  exact this
theorem sealOf_str (s : ByteArray) : sealOf (bytesOf s) = if s.size ≤ 3000 then (sealed (bytesOf s), true) else ([], false) := by
  unfold sealOf
  rw [bytesOf_length]
  by_cases h : s.size ≤ 3000
  · rw [if_neg (by omega), if_pos h]
  · rw [if_pos (by omega), if_neg h]
theorem sealsB_len : ∀ l : List ByteArray, okS l = true → (sealsB l).length ≤ 3013 * l.length
  | [], _ => by simp [sealsB]
  | s :: t, h => by
    simp only [okS, List.all_cons, Bool.and_eq_true, decide_eq_true_eq] at h
    have h1 := sealed_len s h.1
    have h2 := sealsB_len t (by simpa [okS] using h.2)
    simp only [sealsB, List.length_append, List.length_cons]; omega

theorem specSum_l (rest : List Int) : ∀ (P : List Int) (x y : Int), By rest → P.length + rest.length ≤ 140737488355328 → 0 ≤ x → x < 65521 → 0 ≤ y → y < 65521 → Ev (fun k => spec_Sum.l0 k (P ++ rest) x y (P.length : Int)) (sumGo rest x y) := by
  induction rest with
  | nil =>
    intro P x y hb hl h0 h1 h2 h3
    refine Ev.step (f := fun _ => some (65536 * y + x)) (fun k => ?_) (Ev.now _)
    simp only [spec_Sum.l0]
    rw [if_neg (by simp), w64 (x := 65536 * y) (by omega) (by omega), w64 (by omega) (by omega)]
  | cons c t ih =>
    intro P x y hb hl h0 h1 h2 h3
    have hc := hb c (by simp)
    simp only [List.length_cons] at hl
    have h := ih (P ++ [c]) ((x + c) % 65521) ((y + (x + c) % 65521) % 65521) (fun z hz => hb z (by simp [hz])) (by simp; omega) (by omega) (by omega) (by omega) (by omega)
    refine Ev.step (fun k => ?_) h
    simp only [spec_Sum.l0]
    rw [if_pos (by simp; omega), if_pos (by omega), rd_mid, w64 (x := c) (by omega) (by omega), w64 (x := x + c) (by omega) (by omega), Int.tmod_eq_emod_of_nonneg (by omega), w64 (x := y + _) (by omega) (by omega), Int.tmod_eq_emod_of_nonneg (by omega), w64 (by omega) (by omega)]
    simp
theorem specSum_ev (l : List Int) (hb : By l) (hl : l.length ≤ 140737488355328) : Ev (fun k => spec_Sum.f k l) (sumOf l) := by
  have h := specSum_l l [] 1 0 hb (by simpa using hl) (by omega) (by omega) (by omega) (by omega)
  simpa [spec_Sum.f, sumOf] using h

theorem specPutNum_l (m : Nat) : ∀ (x : Int) (acc : List Int), 0 ≤ x → x ≤ 9223372036854775807 → x < 128 ^ (m + 1) → acc.length + m ≤ 140737488355327 → Ev (fun k => spec_PutNum.l0 k x acc) (acc ++ putNum x) := by
  induction m with
  | zero =>
    intro x acc h0 h9 h1 hl
    have h : ¬ x > 127 := by simp at h1; omega
    refine Ev.step (f := fun _ => some (acc ++ [x])) (fun k => ?_) ?_
    · simp only [spec_PutNum.l0]
      rw [if_neg h, if_pos (by omega)]
      have : x % 256 = x := by omega
      rw [this]
    · rw [putNum_small h]; exact Ev.now _
  | succ m ih =>
    intro x acc h0 h9 h1 hl
    by_cases h : x > 127
    · refine Ev.step (f := fun k => spec_PutNum.l0 k (x / 128) (acc ++ [x % 128 + 128])) (fun k => ?_) ?_
      · simp only [spec_PutNum.l0]
        rw [if_pos h, if_pos (by omega), Int.tdiv_eq_ediv_of_nonneg h0, Int.tmod_eq_emod_of_nonneg h0, w64 (by omega) (by omega), w64 (by omega) (by omega)]
        have : (x % 128 + 128) % 256 = x % 128 + 128 := by omega
        rw [this]
      · have := ih (x / 128) (acc ++ [x % 128 + 128]) (by omega) (by omega) (by rw [Int.pow_succ] at h1; omega) (by simp; omega)
        rw [putNum_big h]; simpa using this
    · refine Ev.step (f := fun _ => some (acc ++ [x])) (fun k => ?_) ?_
      · simp only [spec_PutNum.l0]
        rw [if_neg h, if_pos (by omega)]
        have : x % 256 = x := by omega
        rw [this]
      · rw [putNum_small h]; exact Ev.now _
theorem specPutNum_ev {x : Int} (h0 : 0 ≤ x) (h1 : x ≤ 9223372036854775807) : Ev (fun k => spec_PutNum.f k x) (putNum x) := by
  have h := specPutNum_l 8 x [] h0 h1 (by omega) (by simp)
  refine Ev.congr (fun k => ?_) h
  unfold spec_PutNum.f
  simp only [Option.bind_some]
  rw [if_neg (by omega)]
theorem specSeal_ev (l : List Int) (hb : By l) : Ev (fun k => spec_Seal.f k l) (sealOf l) := by
  unfold spec_Seal.f sealOf
  by_cases h : l.length > 3000
  · have h' : (l.length : Int) > 3000 := by omega
    simp only [h, h', ↓reduceIte]; exact Ev.now _
  · have h' : ¬ (l.length : Int) > 3000 := by omega
    have hp := (putNum_b9 (x := l.length) (by omega) (by omega)).2.1
    simp only [h, h', ↓reduceIte]
    refine Ev.bind (specSum_ev l hb (by omega)) ?_
    refine Ev.bind (specPutNum_ev (x := l.length) (by omega) (by omega)) ?_
    simp only [Option.bind_some, List.length_append, List.length_cons, List.length_nil, show (putNum (l.length : Int)).length + l.length < 140737488355328 by omega, show (putNum (l.length : Int)).length + l.length + (0 + 1 + 1 + 1 + 1) < 140737488355328 by omega, ↓reduceIte]
    exact Ev.now _

theorem implSum_l (rest : List Int) : ∀ (P : List Int) (x y n : Int), n = P.length + rest.length → By rest → P.length + rest.length ≤ 140737488355328 → 0 ≤ x → x < 65521 → 0 ≤ y → y < 65521 → Ev (fun k => impl_Sum.l0 k x y (P ++ rest) n (P.length : Int)) (sumGo rest x y) := by
  induction rest with
  | nil =>
    intro P x y n hn hb hl h0 h1 h2 h3
    refine Ev.step (f := fun _ => some (65536 * y + x)) (fun k => ?_) (Ev.now _)
    simp only [impl_Sum.l0]
    rw [if_neg (by simp at hn; omega), w64 (x := 65536 * y) (by omega) (by omega), w64 (by omega) (by omega)]
  | cons c t ih =>
    intro P x y n hn hb hl h0 h1 h2 h3
    have hc := hb c (by simp)
    simp only [List.length_cons] at hl hn
    have h := ih (P ++ [c]) ((x + c) % 65521) ((y + (x + c) % 65521) % 65521) n (by simp; omega) (fun z hz => hb z (by simp [hz])) (by simp; omega) (by omega) (by omega) (by omega) (by omega)
    refine Ev.step (fun k => ?_) h
    simp only [impl_Sum.l0]
    rw [if_pos (by omega), if_pos (by omega), if_pos (by simp; omega), rd_mid, w64 (x := c) (by omega) (by omega), w64 (x := x + c) (by omega) (by omega), Int.tmod_eq_emod_of_nonneg (by omega), w64 (x := y + _) (by omega) (by omega), Int.tmod_eq_emod_of_nonneg (by omega), w64 (by omega) (by omega)]
    simp
theorem implSum_ev (l : List Int) (hb : By l) (hl : l.length ≤ 140737488355328) : Ev (fun k => impl_Sum.f k l) (sumOf l) := by
  have h := implSum_l l [] 1 0 l.length (by simp) hb (by simpa using hl) (by omega) (by omega) (by omega) (by omega)
  simpa [impl_Sum.f, sumOf] using h

theorem mask255 {x : Int} (h0 : 0 ≤ x) (h1 : x ≤ 9223372036854775807) : Go.bits .and .i64 x 255 % 256 = x % 256 := by
  have e : Go.bits .and .i64 x 255 = x % 256 := and_mask 8 (by decide) h0 h1
  rw [e]; omega
theorem sumBytes_ev (l : List Int) (hb : By l) (hl : l.length ≤ 140737488355328) : Ev (fun k => impl_sumBytes.f k l) (sum4 l) := by
  unfold impl_sumBytes.f
  have h := sumOf_b l
  refine Ev.bind (implSum_ev l hb hl) ?_
  rw [mask255 (x := sumOf l) (by omega) (by omega), mask255 (x := sumOf l / 256) (by omega) (by omega), mask255 (x := sumOf l / 65536) (by omega) (by omega), mask255 (x := sumOf l / 16777216) (by omega) (by omega)]
  exact Ev.now _

theorem or_and_128 {x : Int} (h0 : 0 ≤ x) (h9 : x ≤ 9223372036854775807) : Go.bits .or .i64 (Go.bits .and .i64 x 127) 128 = x % 128 + 128 := by
  have e1 : Go.bits .and .i64 x 127 = x % 128 := and_mask 7 (by decide) h0 h9
  have e2 : Go.bits .or .i64 (x % 128) 128 = Go.bits .or .i64 128 (x % 128) := by unfold Go.bits; simp only [BitVec.or_comm]
  rw [e1, e2, or_join 7 (by decide) (by decide) (by decide) (by omega) (by omega) (by omega)]
  omega
theorem implPutNum_l (m : Nat) : ∀ (x : Int) (acc : List Int), 0 ≤ x → x ≤ 9223372036854775807 → x < 128 ^ (m + 1) → acc.length + m ≤ 140737488355327 → Ev (fun k => impl_PutNum.l0 k x acc) (acc ++ putNum x) := by
  induction m with
  | zero =>
    intro x acc h0 h9 h1 hl
    have h : ¬ x > 127 := by simp at h1; omega
    refine Ev.step (f := fun _ => some (acc ++ [x])) (fun k => ?_) ?_
    · simp only [impl_PutNum.l0]
      rw [if_neg h, if_pos (by omega)]
      have : x % 256 = x := by omega
      rw [this]
    · rw [putNum_small h]; exact Ev.now _
  | succ m ih =>
    intro x acc h0 h9 h1 hl
    by_cases h : x > 127
    · refine Ev.step (f := fun k => impl_PutNum.l0 k (x / 128) (acc ++ [x % 128 + 128])) (fun k => ?_) ?_
      · simp only [impl_PutNum.l0]
        rw [if_pos h, if_pos (by omega), or_and_128 h0 h9]
        have : (x % 128 + 128) % 256 = x % 128 + 128 := by omega
        rw [this]
      · have := ih (x / 128) (acc ++ [x % 128 + 128]) (by omega) (by omega) (by rw [Int.pow_succ] at h1; omega) (by simp; omega)
        rw [putNum_big h]; simpa using this
    · refine Ev.step (f := fun _ => some (acc ++ [x])) (fun k => ?_) ?_
      · simp only [impl_PutNum.l0]
        rw [if_neg h, if_pos (by omega)]
        have : x % 256 = x := by omega
        rw [this]
      · rw [putNum_small h]; exact Ev.now _
theorem implPutNum_ev {x : Int} (h0 : 0 ≤ x) (h1 : x ≤ 9223372036854775807) : Ev (fun k => impl_PutNum.f k x) (putNum x) := by
  have h := implPutNum_l 8 x [] h0 h1 (by omega) (by simp)
  refine Ev.congr (fun k => ?_) h
  unfold impl_PutNum.f
  rw [if_neg (by omega)]
theorem implSeal_ev (l : List Int) (hb : By l) : Ev (fun k => impl_Seal.f k l) (sealOf l) := by
  unfold impl_Seal.f sealOf
  by_cases h : l.length > 3000
  · have h' : (l.length : Int) > 3000 := by omega
    simp only [h, h', ↓reduceIte]; exact Ev.now _
  · have h' : ¬ (l.length : Int) > 3000 := by omega
    have hp := (putNum_b9 (x := l.length) (by omega) (by omega)).2.1
    simp only [h, h', ↓reduceIte]
    refine Ev.bind (implPutNum_ev (x := l.length) (by omega) (by omega)) ?_
    simp only [Option.bind_some, show (putNum (l.length : Int)).length + l.length < 140737488355328 by omega, ↓reduceIte]
    refine Ev.bind (sumBytes_ev l hb (by omega)) ?_
    simp only [List.length_append, sum4, List.length_cons, List.length_nil, show (putNum (l.length : Int)).length + l.length + (0 + 1 + 1 + 1 + 1) < 140737488355328 by omega, ↓reduceIte]
    exact Ev.now _

theorem rdB_mid (P : List ByteArray) (x : ByteArray) (t : List ByteArray) : rdOf ByteArray.empty (P ++ x :: t) (P.length : Int) = x := by
  unfold rdOf; simp
theorem seals_l (rest : List ByteArray) : ∀ (P : List ByteArray) (out : List Int), P.length + rest.length ≤ 100 → out.length ≤ 3013 * P.length → (∀ x ∈ rest, x.size ≤ 140737488355328) → Ev (fun k => spec_l4Seals.l0 k (P ++ rest) out (P.length : Int)) (if okS rest = true then (strOfNums (out ++ sealsB rest), true) else ((⟨#[]⟩ : ByteArray), false)) := by
  induction rest with
  | nil =>
    intro P out hl ho hx
    refine Ev.step (f := fun _ => some (strOfNums out, true)) (fun k => ?_) (by simpa [okS, sealsB] using Ev.now _)
    simp only [spec_l4Seals.l0]
    rw [if_neg (by simp)]
  | cons x t ih =>
    intro P out hl ho hx
    simp only [List.length_cons] at hl
    have hx0 := hx x (by simp)
    have el : ((P ++ x :: t).length : Int) = P.length + t.length + 1 := by simp; omega
    refine Ev.step (fun k => by simp only [spec_l4Seals.l0]; rw [if_pos (by omega), if_pos (by omega), rdB_mid, if_pos (by omega)]) ?_
    refine Ev.bind (specSeal_ev (bytesOf x) (bytesOf_by x)) ?_
    rw [sealOf_str]
    by_cases c : x.size ≤ 3000
    · have hs := sealed_len x c
      have h := ih (P ++ [x]) (out ++ sealed (bytesOf x)) (by simp; omega) (by simp; omega) (fun y hy => hx y (by simp [hy]))
      simp only [c, ↓reduceIte, show out.length + (sealed (bytesOf x)).length < 140737488355328 by omega]
      rw [w64 (by omega) (by omega)]
      have e : okS (x :: t) = okS t := by simp [okS, c]
      rw [e]
      simpa [sealsB] using h
    · have e : okS (x :: t) = false := by simp [okS, c]
      simp only [c, ↓reduceIte, Bool.false_eq_true, e]
      exact Ev.now _
theorem l4Seals_ev (l : List ByteArray) (hx : ∀ x ∈ l, x.size ≤ 140737488355328) : Ev (fun k => spec_l4Seals.f k l) (if (decide (l.length ≤ 100) && okS l) = true then (strOfNums (sealsB l), true) else ((⟨#[]⟩ : ByteArray), false)) := by
  unfold spec_l4Seals.f
  by_cases c : l.length ≤ 100
  · have h := seals_l l [] [] (by simpa using c) (by simp) hx
    simp only [show ¬ (l.length : Int) > 100 by omega, ↓reduceIte, c, decide_true, Bool.true_and]
    simpa using h
  · simp only [show (l.length : Int) > 100 by omega, ↓reduceIte, c, decide_false, Bool.false_and, Bool.false_eq_true]
    exact Ev.now _
def journalLate (room : Int) (l : List S66) (nm : Int) (q : List ByteArray) : Int × List S66 × Int :=
  if (decide (q.length ≤ 100) && okS q) = true then diskAppend room l nm (strOfNums (sealsB q)) else (0, [], 1)
theorem sealsB_size (q : List ByteArray) (h : (decide (q.length ≤ 100) && okS q) = true) : (strOfNums (sealsB q)).size ≤ 301300 := by
  simp only [Bool.and_eq_true, decide_eq_true_eq] at h
  have := sealsB_len q h.2
  rw [strOfNums_size]; omega
theorem specJournalLate_ev (room : Int) (l : List S66) (nm : Int) (q : List ByteArray) (h1 : dsize l ≤ 1152921504606846976) (hl : l.length ≤ 3518437208878) (hx : ∀ x ∈ q, x.size ≤ 140737488355328) : Ev (fun k => spec_JournalLate.f k room l nm q) (journalLate room l nm q) := by
  unfold spec_JournalLate.f journalLate
  refine Ev.bind (l4Seals_ev q hx) ?_
  cases c : (decide (q.length ≤ 100) && okS q)
  · simp only [Bool.false_eq_true, ↓reduceIte]; exact Ev.now _
  · have hs := sealsB_size q c
    simp only [↓reduceIte]
    refine Ev.bind (specDiskAppend_ev room l nm _ h1 hl (by omega)) ?_
    exact Ev.now _
theorem implLate_l (room : Int) (l : List S66) (nm : Int) (h1 : dsize l ≤ 1152921504606846976) (hd : l.length ≤ 3518437208878) (rest : List ByteArray) : ∀ (P : List ByteArray) (out : List Int), P.length + rest.length ≤ 100 → out.length ≤ 3013 * P.length → (∀ x ∈ rest, x.size ≤ 140737488355328) → Ev (fun k => impl_JournalLate.l0 k nm out (P ++ rest) ((P ++ rest).length : Int) (P.length : Int) room l) (if okS rest = true then diskAppend room l nm (strOfNums (out ++ sealsB rest)) else (0, [], 1)) := by
  induction rest with
  | nil =>
    intro P out hl ho hx
    refine Ev.step (f := fun k => (impl_DiskAppend.f k room l nm (strOfNums out)).bind fun b => some (b.1, b.2.1, b.2.2)) (fun k => ?_) ?_
    · simp only [impl_JournalLate.l0]
      rw [if_neg (by simp)]
    · simp only [okS, List.all_nil, ↓reduceIte, sealsB, List.append_nil]
      refine Ev.bind (implDiskAppend_ev room l nm _ h1 hd (by rw [strOfNums_size]; simp at hl; omega)) ?_
      exact Ev.now _
  | cons x t ih =>
    intro P out hl ho hx
    simp only [List.length_cons] at hl
    have hx0 := hx x (by simp)
    have el : ((P ++ x :: t).length : Int) = P.length + t.length + 1 := by simp; omega
    refine Ev.step (fun k => by simp only [impl_JournalLate.l0]; rw [if_pos (by omega), if_pos (by omega), if_pos (by omega), rdB_mid, if_pos (by omega)]) ?_
    refine Ev.bind (implSeal_ev (bytesOf x) (bytesOf_by x)) ?_
    rw [sealOf_str]
    by_cases c : x.size ≤ 3000
    · have hs := sealed_len x c
      have h := ih (P ++ [x]) (out ++ sealed (bytesOf x)) (by simp; omega) (by simp; omega) (fun y hy => hx y (by simp [hy]))
      simp only [c, ↓reduceIte, show out.length + (sealed (bytesOf x)).length < 140737488355328 by omega]
      rw [w64 (by omega) (by omega)]
      have e : okS (x :: t) = okS t := by simp [okS, c]
      rw [e]
      simpa [sealsB] using h
    · have e : okS (x :: t) = false := by simp [okS, c]
      simp only [c, ↓reduceIte, Bool.false_eq_true, e]
      exact Ev.now _
theorem implJournalLate_ev (room : Int) (l : List S66) (nm : Int) (q : List ByteArray) (h1 : dsize l ≤ 1152921504606846976) (hl : l.length ≤ 3518437208878) (hq : q.length ≤ 140737488355328) (hx : ∀ x ∈ q, x.size ≤ 140737488355328) : Ev (fun k => impl_JournalLate.f k room l nm q) (journalLate room l nm q) := by
  unfold impl_JournalLate.f journalLate
  refine Ev.bind (implDiskOk_ev room l h1 (by omega)) ?_
  have hj : Ev (fun k => impl_JournalLate.j0 k nm q true room l) (0, [], 1) := by
    refine Ev.step (f := fun _ => some (0, [], 1)) (fun k => ?_) (Ev.now _)
    simp only [impl_JournalLate.j0, ↓reduceIte]
  have hbad : ∀ s, (diskOk room l && inr nm 0 7) = false → diskAppend room l nm s = (0, [], 1) := fun s h => by unfold diskAppend; rw [h]; rfl
  cases h : diskOk room l
  · simp only [Bool.false_eq_true, ↓reduceIte]
    rw [hbad _ (by rw [h]; rfl)]
    simpa using hj
  · simp only [↓reduceIte, isFile_eq, Option.bind_some]
    cases h2 : inr nm 0 7
    · simp only [Bool.false_eq_true, ↓reduceIte]
      rw [hbad _ (by rw [h, h2]; rfl)]
      simpa using hj
    · simp only [↓reduceIte]
      by_cases c : q.length ≤ 100
      · have c' : decide ((q.length : Int) > 100) = false := decide_eq_false (by omega)
        have hh := implLate_l room l nm h1 hl q [] [] (by simpa using c) (by simp) hx
        simp only [c', c, decide_true, Bool.true_and]
        refine Ev.step (fun k => by simp only [impl_JournalLate.j0, Bool.false_eq_true, ↓reduceIte]; rfl) ?_
        simpa using hh
      · have c' : decide ((q.length : Int) > 100) = true := decide_eq_true (by omega)
        simp only [c', c, decide_false, Bool.false_and, Bool.false_eq_true, ↓reduceIte]
        exact hj
theorem journalLate_len (room : Int) (l : List S66) (nm : Int) (q : List ByteArray) : (journalLate room l nm q).2.1.length ≤ l.length + 1 := by
  unfold journalLate
  split
  · exact diskAppend_len _ _ _ _
  · simp

theorem diskAppend_size (room : Int) (l : List S66) (nm : Int) (s : ByteArray) (hl : l.length ≤ 140737488355328) : dsize (diskAppend room l nm s).2.1 ≤ 2 * dsize l + s.size := by
  have hn := dsize_nn l
  unfold diskAppend
  split
  · split
    · simp only; omega
    · have h2 := dsize_putG (appF l nm s) l
      have h3 := appF_size l nm s hl
      simp only; omega
  · simp only [dsize]; omega
theorem journalLate_size (room : Int) (l : List S66) (nm : Int) (q : List ByteArray) (hl : l.length ≤ 140737488355328) : dsize (journalLate room l nm q).2.1 ≤ 2 * dsize l + 301300 := by
  have hn := dsize_nn l
  unfold journalLate
  split
  · rename_i h
    have h1 := diskAppend_size room l nm (strOfNums (sealsB q)) hl
    have h2 := sealsB_size q h
    omega
  · simp only [dsize]; omega
def journalAdd (room : Int) (l : List S66) (nm : Int) (q : List ByteArray) : Int × List S66 × Int :=
  if (journalLate room l nm q).2.2 = 0 then diskSync (journalLate room l nm q).1 (journalLate room l nm q).2.1 nm else journalLate room l nm q
theorem journalAdd_len (room : Int) (l : List S66) (nm : Int) (q : List ByteArray) : (journalAdd room l nm q).2.1.length ≤ l.length + 1 := by
  have h1 := journalLate_len room l nm q
  unfold journalAdd
  split
  · have h2 := diskSync_len (journalLate room l nm q).1 (journalLate room l nm q).2.1 nm
    omega
  · exact h1
theorem specJournalAdd_ev (room : Int) (l : List S66) (nm : Int) (q : List ByteArray) (h1 : dsize l ≤ 140737488355328) (hl : l.length ≤ 1759218604439) (hx : ∀ x ∈ q, x.size ≤ 140737488355328) : Ev (fun k => spec_JournalAdd.f k room l nm q) (journalAdd room l nm q) := by
  unfold spec_JournalAdd.f journalAdd
  refine Ev.bind (specJournalLate_ev room l nm q (by omega) (by omega) hx) ?_
  have hs := journalLate_size room l nm q (by omega)
  have hc := journalLate_len room l nm q
  generalize journalLate room l nm q = U at *
  obtain ⟨u0, u1, u2⟩ := U
  simp only at hs hc ⊢
  by_cases h : u2 = 0
  · simp only [h, ↓reduceIte]
    refine Ev.bind (specDiskSync_ev u0 u1 nm (by omega) (by omega)) ?_
    exact Ev.now _
  · simp only [h, ↓reduceIte]; exact Ev.now _
theorem implJournalAdd_ev (room : Int) (l : List S66) (nm : Int) (q : List ByteArray) (h1 : dsize l ≤ 140737488355328) (hl : l.length ≤ 1759218604439) (hq : q.length ≤ 140737488355328) (hx : ∀ x ∈ q, x.size ≤ 140737488355328) : Ev (fun k => impl_JournalAdd.f k room l nm q) (journalAdd room l nm q) := by
  unfold impl_JournalAdd.f journalAdd
  refine Ev.bind (implJournalLate_ev room l nm q (by omega) (by omega) hq hx) ?_
  have hs := journalLate_size room l nm q (by omega)
  have hc := journalLate_len room l nm q
  generalize journalLate room l nm q = U at *
  obtain ⟨u0, u1, u2⟩ := U
  simp only at hs hc ⊢
  by_cases h : u2 = 0
  · simp only [h, ↓reduceIte]
    refine Ev.bind (implDiskSync_ev u0 u1 nm (by omega) (by omega)) ?_
    exact Ev.now _
  · simp only [h, ↓reduceIte]; exact Ev.now _

theorem strOf_inj {a b : List Int} (ha : By a) (hb : By b) (h : strOfNums a = strOfNums b) : a = b := by
  have h2 : (a.map fun n => UInt8.ofNat n.toNat) = (b.map fun n => UInt8.ofNat n.toNat) := by
    have := congrArg (fun s : ByteArray => s.data.toList) h
    simpa [strOfNums_data] using this
  clear h
  induction a generalizing b with
  | nil => cases b with
    | nil => rfl
    | cons y t => simp at h2
  | cons x s ih => cases b with
    | nil => simp at h2
    | cons y t =>
      simp only [List.map_cons, List.cons.injEq] at h2
      have hx := ha x (by simp)
      have hy := hb y (by simp)
      have e := congrArg UInt8.toNat h2.1
      simp only [UInt8.toNat_ofNat'] at e
      have : x = y := by omega
      rw [this, ih (fun z hz => ha z (by simp [hz])) (fun z hz => hb z (by simp [hz])) h2.2]
theorem toList_inj {a b : ByteArray} (h : a.toList = b.toList) : a = b := by
  rw [ByteArray.toList_eq, ByteArray.toList_eq] at h
  exact ByteArray.ext (Array.toList_inj.1 h)
theorem strOf_iff {a b : List Int} (ha : By a) (hb : By b) : (strOfNums a).toList = (strOfNums b).toList ↔ a = b :=
  ⟨fun h => strOf_inj ha hb (toList_inj h), fun h => by rw [h]⟩

theorem mnmx_b (a b : Int) (h : 0 ≤ b) : 0 ≤ mn (mx a 0) b ∧ mn (mx a 0) b ≤ b := by
  unfold mn mx; split <;> split <;> omega
def crashK (ks : List Int) (i : Int) (x : S66) : Nat := if i < (ks.length : Int) then (mn (mx (rd ks i) 0) (x.f2.size : Int)).toNat else 0
def crashF (ks : List Int) (i : Int) (x : S66) : S66 := ⟨x.f0, x.f1 ++ x.f2.extract 0 (crashK ks i x), (⟨#[]⟩ : ByteArray)⟩
def crash (ks : List Int) : List S66 → Int → List S66
  | [], _ => []
  | x :: t, i => crashF ks i x :: crash ks t (i + 1)
theorem crash_length (ks : List Int) : ∀ (l : List S66) (i : Int), (crash ks l i).length = l.length
  | [], _ => rfl
  | x :: t, i => by rw [crash, List.length_cons, List.length_cons, crash_length ks t]
theorem ext_le (s : ByteArray) (n : Nat) : (s.extract 0 n).size ≤ s.size := by rw [ByteArray.size_extract]; omega
theorem implCrash_l (ks : List Int) (F : List S66) (hF : F.length ≤ 140737488355328) (rm : Int) (rest : List S66) : ∀ (P acc : List S66), F = P ++ rest → acc.length = P.length → (∀ x ∈ rest, (x.f1.size : Int) + x.f2.size ≤ 1152921504606846976) → Ev (fun k => impl_DiskCrash.l0 k ks F (F.length : Int) (P.length : Int) rm (acc ++ rest)) (rm, acc ++ crash ks rest (P.length : Int)) := by
  induction rest with
  | nil =>
    intro P acc hPF ha hx
    refine Ev.step (f := fun _ => some (rm, acc)) (fun k => ?_) ?_
    · simp only [impl_DiskCrash.l0]
      rw [if_neg (by rw [hPF]; simp)]; simp
    · simp [crash]; exact Ev.now _
  | cons x t ih =>
    intro P acc hPF ha hx
    have hs := hx x (by simp)
    have el : (F.length : Int) = P.length + t.length + 1 := by rw [hPF]; simp; omega
    have hr : rd_T66 F (P.length : Int) = x := by rw [hPF]; exact rdF_mid P x t
    have hw1 : wrap64 ((P.length : Int) + 1) = ((P ++ [x]).length : Int) := by rw [w64 (by omega) (by omega)]; simp
    have ep : ((P ++ [x]).length : Int) = P.length + 1 := by simp
    have h := ih (P ++ [x]) (acc ++ [crashF ks (P.length : Int) x]) (by rw [hPF]; simp) (by simp [ha]) (fun y hy => hx y (by simp [hy]))
    have er : acc ++ crash ks (x :: t) (P.length : Int) = acc ++ [crashF ks (P.length : Int) x] ++ crash ks t ((P ++ [x]).length : Int) := by rw [ep]; simp [crash]
    have es : ∀ y : S66, (acc ++ x :: t).set (P.length : Int).toNat y = acc ++ [y] ++ t := fun y => by rw [Int.toNat_natCast, ← ha]; simp
    have hla : (P.length : Int) < ((acc ++ x :: t).length : Int) := by simp; omega
    rw [er]
    refine Ev.step2 (fun k => ?_) h
    simp only [impl_DiskCrash.l0, impl_DiskCrash.j2]
    rw [if_pos (by omega), if_pos (by omega), if_pos (by omega), hr]
    by_cases c : (P.length : Int) < (ks.length : Int)
    · have hm := mnmx_b (rd ks (P.length : Int)) (x.f2.size : Int) (by omega)
      have he := ext_le x.f2 (mn (mx (rd ks (P.length : Int)) 0) (x.f2.size : Int)).toNat
      have ef : crashF ks (P.length : Int) x = ⟨x.f0, x.f1 ++ x.f2.extract 0 (mn (mx (rd ks (P.length : Int)) 0) (x.f2.size : Int)).toNat, (⟨#[]⟩ : ByteArray)⟩ := by unfold crashF crashK; rw [if_pos c]
      rw [if_pos c, if_pos hm.1, if_pos hm.2, if_pos (by omega), if_pos (by omega), if_pos hla, hw1, es, ef]
    · have he := ext_le x.f2 (0 : Int).toNat
      have ef : crashF ks (P.length : Int) x = ⟨x.f0, x.f1 ++ x.f2.extract 0 (0 : Int).toNat, (⟨#[]⟩ : ByteArray)⟩ := by unfold crashF crashK; rw [if_neg c]; simp
      rw [if_neg c, if_pos (by omega), if_pos (by omega), if_pos (by omega), if_pos (by omega), if_pos hla, hw1, es, ef]
def diskCrash (room : Int) (l : List S66) (ks : List Int) : Int × List S66 := if (diskOk room l && decide (¬ (ks.length : Int) > 8)) = true then (room, crash ks l 0) else (0, [])
theorem mem_size {l : List S66} (h1 : dsize l ≤ 1152921504606846976) : ∀ x ∈ l, (x.f1.size : Int) + x.f2.size ≤ 1152921504606846976 := fun x hx => by
  have := dsize_mem hx; omega
theorem implDiskCrash_ev (room : Int) (l : List S66) (ks : List Int) (h1 : dsize l ≤ 1152921504606846976) (hl : l.length ≤ 3518437208878) : Ev (fun k => impl_DiskCrash.f k room l ks) (diskCrash room l ks) := by
  unfold impl_DiskCrash.f diskCrash
  refine Ev.bind (implDiskOk_ev room l h1 (by omega)) ?_
  have hj : Ev (fun k => impl_DiskCrash.j0 k ks true room l) (0, []) := by
    refine Ev.step (f := fun _ => some (0, [])) (fun k => ?_) (Ev.now _)
    simp only [impl_DiskCrash.j0, ↓reduceIte]
  cases h : diskOk room l
  · simp only [Bool.false_eq_true, ↓reduceIte, Bool.false_and]; exact hj
  · simp only [↓reduceIte, Bool.true_and]
    by_cases c : (ks.length : Int) > 8
    · simp only [c, decide_true, not_true, decide_false, Bool.false_eq_true, ↓reduceIte]; exact hj
    · simp only [c, decide_false, not_false_eq_true, decide_true, ↓reduceIte]
      refine Ev.step (f := fun k => impl_DiskCrash.l0 k ks l (l.length : Int) 0 room l) (fun k => ?_) ?_
      · simp only [impl_DiskCrash.j0, copyDisk_eq room l hl, Option.bind_some]; rfl
      · exact implCrash_l ks l (by omega) room l [] [] rfl rfl (mem_size h1)

def diskRead (room : Int) (l : List S66) (nm : Int) : ByteArray × Bool := if diskOk room l = true then (if idxName l nm 0 < 0 then ((⟨#[]⟩ : ByteArray), false) else (((rd_T66 l (idxName l nm 0)).f1) ++ ((rd_T66 l (idxName l nm 0)).f2), true)) else ((⟨#[]⟩ : ByteArray), false)
theorem diskRead_tail (room : Int) (l : List S66) (nm : Int) (h1 : dsize l ≤ 1152921504606846976) : (if diskOk room l = true then (if idxName l nm 0 < 0 then (some ((⟨#[]⟩ : ByteArray), false)) else (if 0 ≤ idxName l nm 0 then (if idxName l nm 0 < (l.length : Int) then (if ((rd_T66 l (idxName l nm 0)).f1).size + ((rd_T66 l (idxName l nm 0)).f2).size ≤ 9223372036854775807 then (some (((rd_T66 l (idxName l nm 0)).f1) ++ ((rd_T66 l (idxName l nm 0)).f2), true)) else (none)) else (none)) else (none))) else (some ((⟨#[]⟩ : ByteArray), false))) = some (diskRead room l nm) := by
  unfold diskRead
  split
  · split
    · rfl
    · rename_i h
      have hb := idx_b nm l 0 (by omega)
      have hm := dsize_mem (rdF_mem l (idxName l nm 0) (by omega) (by omega))
      rw [if_pos (by omega), if_pos (by omega), if_pos (by omega)]
  · rfl

theorem asc_names : ∀ (l l' : List S66) (lo : Int), l.map (·.f0) = l'.map (·.f0) → asc lo l = asc lo l'
  | [], [], lo, _ => rfl
  | [], y :: t, lo, h => by simp at h
  | x :: s, [], lo, h => by simp at h
  | x :: s, y :: t, lo, h => by
    simp only [List.map_cons, List.cons.injEq] at h
    simp only [asc, h.1, asc_names s t _ h.2]
theorem idx_name (nm : Int) : ∀ (l : List S66) (i : Int) (h : 0 ≤ i) (h2 : 0 ≤ idxName l nm i), ∃ x, l[(idxName l nm i - i).toNat]? = some x ∧ x.f0 = nm
  | [], i, h, h2 => by simp [idxName] at h2
  | x :: t, i, h, h2 => by
    simp only [idxName] at h2 ⊢
    by_cases c : x.f0 = nm
    · simp only [c, ↓reduceIte, Int.sub_self]
      exact ⟨x, by simp, c⟩
    · simp only [c, ↓reduceIte] at h2 ⊢
      obtain ⟨y, hy, e⟩ := idx_name nm t (i + 1) (by omega) h2
      have hb := idx_b nm t (i + 1) (by omega)
      have : (idxName t nm (i + 1) - i).toNat = (idxName t nm (i + 1) - (i + 1)).toNat + 1 := by omega
      exact ⟨y, by rw [this, List.getElem?_cons_succ]; exact hy, e⟩
theorem rdF_get (l : List S66) (i : Nat) (x : S66) (h : l[i]? = some x) : rd_T66 l (i : Int) = x := by
  unfold rd_T66
  simp [List.getD_eq_getElem?_getD, h]
theorem idx_rd (nm : Int) (l : List S66) (h2 : 0 ≤ idxName l nm 0) : (rd_T66 l (idxName l nm 0)).f0 = nm ∧ l[(idxName l nm 0).toNat]? = some (rd_T66 l (idxName l nm 0)) := by
  obtain ⟨x, hx, e⟩ := idx_name nm l 0 (by omega) h2
  rw [Int.sub_zero] at hx
  have := rdF_get l _ x hx
  rw [show ((idxName l nm 0).toNat : Int) = idxName l nm 0 by omega] at this
  rw [this]; exact ⟨e, hx⟩
theorem set_names (l : List S66) (i : Nat) (f x : S66) (h : l[i]? = some x) (e : f.f0 = x.f0) : (l.set i f).map (·.f0) = l.map (·.f0) := by
  have hlt : i < l.length := by
    rcases Nat.lt_or_ge i l.length with h1 | h1
    · exact h1
    · rw [List.getElem?_eq_none h1] at h; cases h
  rw [List.map_set]
  apply List.ext_getElem? 
  intro j
  rw [List.getElem?_set]
  split
  · rename_i c
    subst c
    rw [List.length_map, if_pos hlt, List.getElem?_map, h]
    simp [e]
  · rfl
theorem dsize_set_eq : ∀ (l : List S66) (i : Nat) (f x : S66), l[i]? = some x → dsize (l.set i f) + (x.f1.size + x.f2.size) = dsize l + (f.f1.size + f.f2.size)
  | [], i, f, x, h => by simp at h
  | y :: t, 0, f, x, h => by
    simp at h; subst h
    simp only [List.set_cons_zero, dsize]; omega
  | y :: t, i + 1, f, x, h => by
    have := dsize_set_eq t i f x (by simpa using h)
    simp only [List.set_cons_succ, dsize]; omega
theorem app_nil (s : ByteArray) : s ++ (⟨#[]⟩ : ByteArray) = s := by
  apply ByteArray.ext
  simp [ByteArray.data_append]
theorem crash_names (ks : List Int) : ∀ (l : List S66) (i : Int), (crash ks l i).map (·.f0) = l.map (·.f0)
  | [], _ => rfl
  | x :: t, i => by simp only [crash, List.map_cons, crash_names ks t]; rfl
theorem crash_get (ks : List Int) : ∀ (l : List S66) (i : Int) (j : Nat), (crash ks l i)[j]? = (l[j]?).map (crashF ks (i + j))
  | [], i, j => by simp [crash]
  | x :: t, i, 0 => by simp [crash]
  | x :: t, i, j + 1 => by
    simp only [crash, List.getElem?_cons_succ, crash_get ks t (i + 1) j]
    congr 2
    omega
theorem crashF_size (ks : List Int) (i : Int) (x : S66) : ((crashF ks i x).f1.size : Int) + (crashF ks i x).f2.size ≤ x.f1.size + x.f2.size := by
  have h := ext_le x.f2 (crashK ks i x)
  have hz : (⟨#[]⟩ : ByteArray).size = 0 := rfl
  simp only [crashF, ByteArray.size_append, hz]; omega
theorem dsize_crash (ks : List Int) : ∀ (l : List S66) (i : Int), dsize (crash ks l i) ≤ dsize l
  | [], _ => by simp [crash]
  | x :: t, i => by
    have h1 := dsize_crash ks t (i + 1)
    have h2 := crashF_size ks i x
    simp only [crash, dsize]; omega
theorem crash_ok (ks : List Int) (room : Int) (l : List S66) (h : diskOk room l = true) : diskOk room (crash ks l 0) = true := by
  have hd := dsize_crash ks l 0
  unfold diskOk at h ⊢
  rw [asc_names _ _ 0 (crash_names ks l 0)]
  simp only [Bool.and_eq_true, decide_eq_true_eq] at h ⊢
  exact ⟨h.1, h.2.1, by omega⟩
theorem idx_asc : ∀ (l : List S66) (lo i : Int) (j : Nat) (x : S66), asc lo l = true → l[j]? = some x → idxName l x.f0 i = i + j
  | [], lo, i, j, x, h, hx => by simp at hx
  | y :: t, lo, i, 0, x, h, hx => by
    simp at hx; subst hx
    simp [idxName]
  | y :: t, lo, i, j + 1, x, h, hx => by
    simp only [asc, Bool.and_eq_true, decide_eq_true_eq] at h
    have hx' : t[j]? = some x := by simpa using hx
    have hg := asc_gt t (y.f0 + 1) x h.2 (List.mem_of_getElem? hx')
    simp only [idxName]
    rw [if_neg (by omega), idx_asc t (y.f0 + 1) (i + 1) j x h.2 hx']
    omega
theorem read_at (room : Int) (l : List S66) (j : Nat) (x : S66) (h : diskOk room l = true) (hx : l[j]? = some x) : diskRead room l x.f0 = (x.f1 ++ x.f2, true) := by
  have hi := idx_asc l 0 0 j x (diskOk_asc h) hx
  rw [Int.zero_add] at hi
  unfold diskRead
  rw [if_pos h, hi, if_neg (by omega), rdF_get l j x hx]
theorem crash_read (ks : List Int) (room : Int) (l : List S66) (j : Nat) (x : S66) (h : diskOk room l = true) (hx : l[j]? = some x) : diskRead room (crash ks l 0) x.f0 = (x.f1 ++ x.f2.extract 0 (crashK ks (j : Int) x), true) := by
  have hc : (crash ks l 0)[j]? = some (crashF ks (j : Int) x) := by rw [crash_get, hx]; simp
  have := read_at room (crash ks l 0) j _ (crash_ok ks room l h) hc
  rw [show (crashF ks (j : Int) x).f0 = x.f0 from rfl] at this
  rw [this]
  simp only [crashF, app_nil]
theorem syncF_at (l : List S66) (j : Nat) (x : S66) (h : asc 0 l = true) (hx : l[j]? = some x) : idxName l x.f0 0 = (j : Int) ∧ syncF l x.f0 = ⟨x.f0, x.f1 ++ x.f2, (⟨#[]⟩ : ByteArray)⟩ := by
  have hi := idx_asc l 0 0 j x h hx
  rw [Int.zero_add] at hi
  refine ⟨hi, ?_⟩
  unfold syncF
  rw [hi, rdF_get l j x hx]
theorem set_ok (room : Int) (l : List S66) (j : Nat) (x : S66) (h : diskOk room l = true) (hx : l[j]? = some x) : diskOk room (l.set j ⟨x.f0, x.f1 ++ x.f2, (⟨#[]⟩ : ByteArray)⟩) = true := by
  have hn := set_names l j ⟨x.f0, x.f1 ++ x.f2, (⟨#[]⟩ : ByteArray)⟩ x hx rfl
  have hd := dsize_set_eq l j ⟨x.f0, x.f1 ++ x.f2, (⟨#[]⟩ : ByteArray)⟩ x hx
  have hz : (⟨#[]⟩ : ByteArray).size = 0 := rfl
  unfold diskOk at h ⊢
  rw [asc_names _ _ 0 hn]
  simp only [Bool.and_eq_true, decide_eq_true_eq] at h ⊢
  simp only [ByteArray.size_append, hz] at hd
  exact ⟨h.1, h.2.1, by omega⟩

theorem implDiskRead_ev (room : Int) (l : List S66) (nm : Int) (h1 : dsize l ≤ 1152921504606846976) (hl : l.length ≤ 140737488355328) : Ev (fun k => impl_DiskRead.f k room l nm) (diskRead room l nm) := by
  unfold impl_DiskRead.f impl_fileAt.f
  simp only [Option.bind_some]
  refine Ev.bind (implDiskOk_ev room l h1 hl) ?_
  rw [diskRead_tail room l nm h1]
  exact Ev.now _

theorem asc_iff : ∀ (l : List S66) (lo : Int), asc lo l = true ↔ ((∀ x ∈ l, lo ≤ x.f0 ∧ x.f0 ≤ 7) ∧ l.Pairwise (fun x y => x.f0 < y.f0))
  | [], lo => by simp [asc]
  | x :: t, lo => by
    simp only [asc, Bool.and_eq_true, decide_eq_true_eq, List.pairwise_cons, asc_iff t (x.f0 + 1), List.mem_cons, forall_eq_or_imp]
    constructor
    · rintro ⟨h1, h2, h3⟩
      exact ⟨⟨h1, fun y hy => ⟨by have := (h2 y hy).1; omega, (h2 y hy).2⟩⟩, fun y hy => by have := (h2 y hy).1; omega, h3⟩
    · rintro ⟨⟨h1, h2⟩, h3, h4⟩
      exact ⟨h1, fun y hy => ⟨by have := h3 y hy; omega, (h2 y hy).2⟩, h4⟩
theorem ok_iff (room : Int) (l : List S66) : diskOk room l = true ↔ (((∀ x ∈ l, 0 ≤ x.f0 ∧ x.f0 ≤ 7) ∧ l.Pairwise (fun x y => x.f0 < y.f0)) ∧ (0 ≤ room ∧ room ≤ 40000) ∧ dsize l ≤ room) := by
  unfold diskOk
  simp only [Bool.and_eq_true, asc_iff, inr, decide_eq_true_eq]
theorem putG_mem (f : S66) : ∀ (m : List S66) (x : S66), x ∈ putG f m → x = f ∨ (x ∈ m ∧ x.f0 ≠ f.f0)
  | [], x, h => by simp [putG] at h; exact .inl h
  | y :: t, x, h => by
    by_cases c : y.f0 ≥ f.f0
    · simp only [putG, c, ↓reduceIte, List.mem_cons] at h
      rcases h with h | h
      · exact .inl h
      · have := List.mem_filter.1 h
        exact .inr ⟨this.1, by simpa using this.2⟩
    · simp only [putG, c, ↓reduceIte, List.mem_cons] at h
      rcases h with rfl | h
      · exact .inr ⟨by simp, by omega⟩
      · rcases putG_mem f t x h with h | ⟨h, h2⟩
        · exact .inl h
        · exact .inr ⟨by simp [h], h2⟩
theorem putG_self (f : S66) : ∀ m : List S66, f ∈ putG f m
  | [] => by simp [putG]
  | y :: t => by
    by_cases c : y.f0 ≥ f.f0
    · simp only [putG, c, ↓reduceIte, List.mem_cons, true_or]
    · simp only [putG, c, ↓reduceIte, List.mem_cons, putG_self f t, or_true]
theorem putG_pw (f : S66) : ∀ m : List S66, m.Pairwise (fun x y => x.f0 < y.f0) → (putG f m).Pairwise (fun x y => x.f0 < y.f0)
  | [], _ => by simp [putG]
  | y :: t, h => by
    obtain ⟨h1, h2⟩ := List.pairwise_cons.1 h
    by_cases c : y.f0 ≥ f.f0
    · simp only [putG, c, ↓reduceIte]
      refine List.pairwise_cons.2 ⟨fun z hz => ?_, h.filter _⟩
      have hz' := List.mem_filter.1 hz
      have hne : z.f0 ≠ f.f0 := by simpa using hz'.2
      rcases List.mem_cons.1 hz'.1 with rfl | h3
      · omega
      · have := h1 z h3; omega
    · simp only [putG, c, ↓reduceIte]
      refine List.pairwise_cons.2 ⟨fun z hz => ?_, putG_pw f t h2⟩
      rcases putG_mem f t z hz with rfl | ⟨h3, _⟩
      · omega
      · exact h1 z h3
theorem putG_dsize (f : S66) : ∀ m : List S66, dsize (putG f m) = dsize (oth f.f0 m) + (f.f1.size + f.f2.size)
  | [] => by simp only [putG, oth, List.filter_nil, dsize]; omega
  | y :: t => by
    by_cases c : y.f0 ≥ f.f0
    · simp only [putG, c, ↓reduceIte, dsize]; omega
    · have ih := putG_dsize f t
      rw [oth_cons_ne (by omega)]
      simp only [putG, c, ↓reduceIte, dsize]; omega
theorem oth_none (nm : Int) (l : List S66) (h : ∀ x ∈ l, x.f0 ≠ nm) : oth nm l = l := by
  unfold oth
  rw [List.filter_eq_self]
  intro y hy
  simpa using h y hy
theorem oth_dsize : ∀ (l : List S66) (x : S66), l.Pairwise (fun x y => x.f0 < y.f0) → x ∈ l → dsize l = dsize (oth x.f0 l) + (x.f1.size + x.f2.size)
  | [], x, _, h => by simp at h
  | y :: t, x, hp, h => by
    obtain ⟨h1, h2⟩ := List.pairwise_cons.1 hp
    rcases List.mem_cons.1 h with rfl | h
    · rw [oth_cons_eq rfl, oth_none _ t (fun z hz => by have := h1 z hz; omega)]
      simp only [dsize]; omega
    · have := h1 x h
      rw [oth_cons_ne (by omega)]
      have ih := oth_dsize t x h2 h
      simp only [dsize]; omega
theorem read_mem (room : Int) (l : List S66) (x : S66) (h : diskOk room l = true) (hx : x ∈ l) : diskRead room l x.f0 = (x.f1 ++ x.f2, true) := by
  obtain ⟨j, hj⟩ := List.getElem?_of_mem hx
  exact read_at room l j x h hj
theorem read_none (room : Int) (l : List S66) (nm : Int) (h : ∀ x ∈ l, x.f0 ≠ nm) : diskRead room l nm = ((⟨#[]⟩ : ByteArray), false) := by
  unfold diskRead
  have hn : idxName l nm 0 < 0 := by
    by_cases c : idxName l nm 0 < 0
    · exact c
    · obtain ⟨y, hy, e⟩ := idx_mem nm l 0 (by omega) (by omega)
      exact absurd e (h y hy)
  rw [if_pos hn]
  split <;> rfl
theorem app_facts (room : Int) (l : List S66) (nm : Int) (s : ByteArray) (h : diskOk room l = true) :
    (appF l nm s).f0 = nm ∧ (appF l nm s).f1 ++ (appF l nm s).f2 = (diskRead room l nm).1 ++ s ∧ dsize (oth nm l) + ((appF l nm s).f1.size + (appF l nm s).f2.size) = dsize l + s.size := by
  have hp := ((ok_iff room l).1 h).1.2
  unfold appF
  by_cases c : idxName l nm 0 ≥ 0
  · obtain ⟨h1, h2⟩ := idx_rd nm l (by omega)
    have hm := List.mem_of_getElem? h2
    have h3 := read_mem room l _ h hm
    have h4 := oth_dsize l _ hp hm
    rw [h1] at h3 h4
    rw [if_pos c, h3]
    refine ⟨h1, (ByteArray.append_assoc).symm, ?_⟩
    simp only [ByteArray.size_append]
    omega
  · have hn : ∀ x ∈ l, x.f0 ≠ nm := idx_none nm l 0 (by omega) (by omega)
    rw [if_neg c, read_none room l nm hn, oth_none nm l hn]
    have hz : (⟨#[]⟩ : ByteArray).size = 0 := rfl
    refine ⟨rfl, by simp only [empty_app], ?_⟩
    simp only [ByteArray.size_append, hz]
    omega
theorem files_append (room : Int) (l : List S66) (nm : Int) (s : ByteArray) (h : diskOk room l = true) (hn : 0 ≤ nm ∧ nm ≤ 7) (hs : (s.size : Int) ≤ room - dsize l) :
    diskOk room (putG (appF l nm s) l) = true ∧ dsize (putG (appF l nm s) l) = dsize l + s.size ∧ diskRead room (putG (appF l nm s) l) nm = ((diskRead room l nm).1 ++ s, true) := by
  obtain ⟨a1, a2, a3⟩ := app_facts room l nm s h
  obtain ⟨⟨o1, o2⟩, o3, o4⟩ := (ok_iff room l).1 h
  have hd : dsize (putG (appF l nm s) l) = dsize l + s.size := by rw [putG_dsize, a1]; exact a3
  have hk : diskOk room (putG (appF l nm s) l) = true := by
    refine (ok_iff _ _).2 ⟨⟨fun x hx => ?_, putG_pw _ _ o2⟩, o3, by omega⟩
    rcases putG_mem _ _ x hx with rfl | ⟨h3, _⟩
    · rw [a1]; exact hn
    · exact o1 x h3
  have hr := read_mem room _ _ hk (putG_self (appF l nm s) l)
  rw [a1, a2] at hr
  exact ⟨hk, hd, hr⟩
theorem diskSync_le (room : Int) (l : List S66) (nm : Int) : dsize (diskSync room l nm).2.1 ≤ dsize l := by
  have hn := dsize_nn l
  unfold diskSync
  split
  · split
    · exact Int.le_refl _
    · obtain ⟨h1, h2⟩ := idx_rd nm l (by omega)
      have h3 := dsize_set_eq l (idxName l nm 0).toNat (syncF l nm) _ h2
      have hz : (⟨#[]⟩ : ByteArray).size = 0 := rfl
      simp only [syncF, ByteArray.size_append, hz] at h3
      simp only [syncF]; omega
  · simpa [dsize] using hn
def cmdOk (kind rel node size : Int) (dig : ByteArray) : Bool :=
  if kind = 1 then (rel == 0 && (node == 0 && (size == 0 && (dig.toList == ([] : List UInt8)))))
  else if kind = 2 then (inr rel 1 1000 && (inr size 0 1000 && (decide ((dig.size : Int) = 32) && (node == 0))))
  else if kind = 3 then (inr rel 1 1000 && (inr node 0 4 && (size == 0 && (dig.toList == ([] : List UInt8)))))
  else if kind = 4 ∨ kind = 5 then (inr rel 1 1000 && (node == 0 && (size == 0 && (dig.toList == ([] : List UInt8)))))
  else false

theorem rdE_mid (P : List S50) (x : S50) (t : List S50) : rd_T50 (P ++ x :: t) (P.length : Int) = x := by
  unfold rd_T50; simp
theorem rdE_last (P : List S50) (y : S50) (t : List S50) : rd_T50 (P ++ [y] ++ t) (((P ++ [y]).length : Int) - 1) = y := by
  unfold rd_T50
  have : (((P ++ [y]).length : Int) - 1).toNat = P.length := by simp
  rw [this]; simp
def cmdOkE (x : S50) : Bool := cmdOk x.f1.f0 x.f1.f1 x.f1.f2 x.f1.f3 x.f1.f4
def logOk : Int → Int → List S50 → Bool
  | _, _, [] => true
  | lo, h, x :: t => (decide (lo ≤ x.f0 ∧ x.f0 ≤ h) && cmdOkE x) && logOk x.f0 h t
def hardOk (term vote : Int) (l : List S50) : Bool := inr term 0 1000000000 && (inr vote 0 5 && (decide ((l.length : Int) ≤ 80) && logOk 1 term l))

theorem specCmdOk_ev (kind rel node size : Int) (dig : ByteArray) : Ev (fun k => spec_CmdOk.f k kind rel node size dig) (cmdOk kind rel node size dig) := by
  unfold spec_CmdOk.f
  simp only [l1In_eq, Option.bind_some]
  by_cases h1 : kind = 1
  · simp only [cmdOk, h1, ↓reduceIte]; exact Ev.now _
  · simp only [h1, ↓reduceIte]
    by_cases h2 : 2 ≤ kind ∧ kind ≤ 5
    · have e : inr kind 2 5 = true := decide_eq_true h2
      simp only [e, ↓reduceIte]
      refine Ev.step (f := fun _ => some (cmdOk kind rel node size dig)) (fun k => ?_) (Ev.now _)
      simp only [spec_CmdOk.j0, l1In_eq, Option.bind_some, ba_nil, cmdOk]
      have h3 : kind = 2 ∨ kind = 3 ∨ kind = 4 ∨ kind = 5 := by omega
      cases inr rel 1 1000 <;> rcases h3 with rfl | rfl | rfl | rfl <;> cases inr size 0 1000 <;> cases inr node 0 4 <;> by_cases hd : (dig.size : Int) = 32 <;> simp [hd]
    · have e : inr kind 2 5 = false := decide_eq_false h2
      simp only [e, Bool.false_eq_true, ↓reduceIte]
      refine Ev.step (f := fun _ => some false) (fun k => ?_) ?_
      · simp only [spec_CmdOk.j0, ↓reduceIte]
      · have : cmdOk kind rel node size dig = false := by
          unfold cmdOk
          rw [if_neg h1, if_neg (by omega), if_neg (by omega), if_neg (by omega)]
        rw [this]; exact Ev.now _

theorem l1Whole_eq (a : Int) : spec_l1Whole.f a = some (inr a 0 1000000000) := by unfold spec_l1Whole.f; rw [l1In_eq]; rfl
theorem l6Entry_ev (x : S50) : Ev (fun k => spec_l6Entry.f k x.f0 x.f1.f0 x.f1.f1 x.f1.f2 x.f1.f3 x.f1.f4) (inr x.f0 1 1000000000 && cmdOkE x) := by
  unfold spec_l6Entry.f
  simp only [l1In_eq, Option.bind_some]
  cases inr x.f0 1 1000000000
  · simp only [Bool.false_eq_true, ↓reduceIte, Bool.false_and]; exact Ev.now _
  · simp only [↓reduceIte, Bool.true_and]
    refine Ev.bind (specCmdOk_ev _ _ _ _ _) ?_
    exact Ev.now _
theorem specHardOk_l (term vote : Int) (ht : term ≤ 1000000000) (rest : List S50) : ∀ (P : List S50) (lo : Int), 1 ≤ lo → (P = [] ∧ lo = 1 ∨ ∃ P' y, P = P' ++ [y] ∧ lo = y.f0) → P.length + rest.length ≤ 140737488355328 → Ev (fun k => spec_HardOk.l0 k (P.length : Int) term vote (P ++ rest)) (logOk lo term rest) := by
  induction rest with
  | nil =>
    intro P lo h0 hP hl
    refine Ev.step (f := fun _ => some true) (fun k => ?_) (Ev.now _)
    simp only [spec_HardOk.l0]
    rw [if_neg (by simp)]
  | cons x t ih =>
    intro P lo h0 hP hl
    simp only [List.length_cons] at hl
    have el : ((P ++ x :: t).length : Int) = P.length + t.length + 1 := by simp; omega
    have ea : P ++ x :: t = P ++ [x] ++ t := by simp
    have hw1 : wrap64 ((P.length : Int) + 1) = ((P ++ [x]).length : Int) := by rw [w64 (by omega) (by omega)]; simp
    refine Ev.step (fun k => by simp only [spec_HardOk.l0]; rw [if_pos (by omega), if_pos (by omega), rdE_mid]) ?_
    refine Ev.bind (l6Entry_ev x) ?_
    have hf : Ev (fun k => spec_HardOk.j2 k (P.length : Int) true term vote (P ++ x :: t)) false := Ev.step (f := fun _ => some false) (fun k => by simp only [spec_HardOk.j2, ↓reduceIte]) (Ev.now _)
    cases hb : (inr x.f0 1 1000000000 && cmdOkE x)
    · simp only [Bool.false_eq_true, ↓reduceIte]
      have : logOk lo term (x :: t) = false := by
        rw [Bool.and_eq_false_iff] at hb
        rcases hb with hb | hb
        · have hb := of_decide_eq_false hb
          have : ¬ (lo ≤ x.f0 ∧ x.f0 ≤ term) := by omega
          simp [logOk, this]
        · simp [logOk, hb]
      rw [this]; exact hf
    · rw [Bool.and_eq_true] at hb
      have hb1 := of_decide_eq_true hb.1
      simp only [↓reduceIte]
      by_cases c1 : x.f0 > term
      · have : logOk lo term (x :: t) = false := by
          have : ¬ (lo ≤ x.f0 ∧ x.f0 ≤ term) := by omega
          simp [logOk, this]
        simp only [c1, ↓reduceIte]
        rw [this]; exact hf
      · simp only [c1, ↓reduceIte]
        have hi := ih (P ++ [x]) x.f0 (by omega) (.inr ⟨P, x, rfl, rfl⟩) (by simp; omega)
        have hg : Ev (fun k => spec_HardOk.j2 k (P.length : Int) false term vote (P ++ x :: t)) (logOk x.f0 term t) := Ev.step (fun k => by simp only [spec_HardOk.j2, Bool.false_eq_true, ↓reduceIte]; rw [hw1, ea]) hi
        have hlog : lo ≤ x.f0 → logOk lo term (x :: t) = logOk x.f0 term t := by
          intro h
          have : lo ≤ x.f0 ∧ x.f0 ≤ term := by omega
          simp [logOk, this, hb.2]
        rcases hP with ⟨rfl, rfl⟩ | ⟨P', y, rfl, rfl⟩
        · rw [hlog (by omega)]
          refine Ev.congr (fun k => ?_) hg
          rw [if_neg (by simp)]
        · have ep : ((P' ++ [y]).length : Int) = P'.length + 1 := by simp
          by_cases c2 : x.f0 < y.f0
          · have : logOk y.f0 term (x :: t) = false := by
              have : ¬ (y.f0 ≤ x.f0 ∧ x.f0 ≤ term) := by omega
              simp [logOk, this]
            rw [this]
            refine Ev.congr (fun k => ?_) hf
            rw [if_pos (by omega), w64 (x := ((P' ++ [y]).length : Int) - 1) (by omega) (by omega), if_pos (by omega), if_pos (by omega), show P' ++ [y] ++ x :: t = P' ++ [y] ++ (x :: t) from rfl, rdE_last, decide_eq_true c2]
          · rw [hlog (by omega)]
            refine Ev.congr (fun k => ?_) hg
            rw [if_pos (by omega), w64 (x := ((P' ++ [y]).length : Int) - 1) (by omega) (by omega), if_pos (by omega), if_pos (by omega), show P' ++ [y] ++ x :: t = P' ++ [y] ++ (x :: t) from rfl, rdE_last, decide_eq_false c2]
theorem specHardOk_ev (term vote : Int) (l : List S50) (hl : l.length ≤ 140737488355328) : Ev (fun k => spec_HardOk.f k term vote l) (hardOk term vote l) := by
  unfold spec_HardOk.f hardOk
  simp only [l1Whole_eq, l1In_eq, Option.bind_some]
  have hj : Ev (fun k => spec_HardOk.j0 k true term vote l) false := by
    refine Ev.step (f := fun _ => some false) (fun k => ?_) (Ev.now _)
    simp only [spec_HardOk.j0, ↓reduceIte]
  cases h : inr term 0 1000000000
  · simp only [Bool.false_eq_true, ↓reduceIte, Bool.false_and]; exact hj
  · have ht := of_decide_eq_true h
    simp only [↓reduceIte, Bool.true_and]
    cases h2 : inr vote 0 5
    · simp only [Bool.false_eq_true, ↓reduceIte, Bool.false_and]; exact hj
    · simp only [↓reduceIte, Bool.true_and]
      by_cases h80 : (l.length : Int) > 80
      · simp only [h80, decide_true, show ¬ (l.length : Int) ≤ 80 by omega, decide_false, Bool.false_and]; exact hj
      · simp only [h80, decide_false, show (l.length : Int) ≤ 80 by omega, decide_true, Bool.true_and]
        refine Ev.step (f := fun k => spec_HardOk.l0 k 0 term vote l) (fun k => ?_) ?_
        · simp only [spec_HardOk.j0]; rfl
        · exact specHardOk_l term vote ht.2 l [] 1 (by omega) (.inl ⟨rfl, rfl⟩) (by simpa using hl)

theorem isRelease_eq (a : Int) : impl_isRelease.f a = some (inr a 1 1000) := by unfold impl_isRelease.f; rw [within_eq]; rfl
theorem isSize_eq (a : Int) : impl_isSize.f a = some (inr a 0 1000) := by unfold impl_isSize.f; rw [within_eq]; rfl
theorem isNode_eq (a : Int) : impl_isNode.f a = some (inr a 0 4) := by unfold impl_isNode.f; rw [within_eq]; rfl
theorem implCmdOk_j2 (k : Nat) (x : Bool) (a b c d : Int) (s : ByteArray) : impl_CmdOk.j2 (k + 1) x a b c d s = some (x && (a == 0 && (b == 0 && (c == 0 && (d == 0 && (s.toList == ([] : List UInt8))))))) := by
  simp only [impl_CmdOk.j2]; cases x <;> simp
theorem implCmdOk_ev (kind rel node size : Int) (dig : ByteArray) : Ev (fun k => impl_CmdOk.f k kind rel node size dig) (cmdOk kind rel node size dig) := by
  refine ⟨3, fun k hk => ?_⟩
  obtain ⟨k, rfl⟩ : ∃ m, k = m + 3 := ⟨k - 3, by omega⟩
  unfold impl_CmdOk.f
  simp only [isRelease_eq, isSize_eq, isNode_eq, Option.bind_some, cmdOk]
  by_cases h1 : kind = 1
  · simp only [h1, ↓reduceIte]; rw [implCmdOk_j2]; simp
  · by_cases h2 : kind = 2
    · simp only [h2, ↓reduceIte]
      cases inr rel 1 1000 <;> cases inr size 0 1000 <;> by_cases hd : (dig.size : Int) = 32 <;> simp [impl_CmdOk.j0, implCmdOk_j2, ba_nil, hd]
    · by_cases h3 : kind = 3
      · simp only [h3, ↓reduceIte]
        cases inr rel 1 1000 <;> cases inr node 0 4 <;> simp [impl_CmdOk.j1, implCmdOk_j2]
      · by_cases h4 : kind = 4
        · simp only [h4, ↓reduceIte]
          cases inr rel 1 1000 <;> simp [impl_CmdOk.j1, implCmdOk_j2]
        · by_cases h5 : kind = 5
          · simp only [h5, ↓reduceIte]
            cases inr rel 1 1000 <;> simp [impl_CmdOk.j1, implCmdOk_j2]
          · simp [h1, h2, h3, h4, h5, impl_CmdOk.j1]

theorem isWhole_eq (a : Int) : impl_isWhole.f a = some (inr a 0 1000000000) := by unfold impl_isWhole.f; rw [within_eq]; rfl
def lastT (P : List S50) : Int := match P.getLast? with | none => 0 | some y => y.f0
theorem lastTerm_eq (P : List S50) (hl : P.length ≤ 140737488355328) : impl_lastTerm.f P = some (lastT P) := by
  unfold impl_lastTerm.f
  rcases List.eq_nil_or_concat P with rfl | ⟨P', y, rfl⟩
  · rfl
  · rw [List.concat_eq_append] at hl ⊢
    have ep : ((P' ++ [y]).length : Int) = P'.length + 1 := by simp
    rw [if_neg (by omega), w64 (x := ((P' ++ [y]).length : Int) - 1) (by omega) (by omega), if_pos (by omega), if_pos (by omega)]
    have := rdE_last P' y []
    rw [List.append_nil] at this
    rw [this]
    simp [lastT]
theorem implHardOk_l (term vote : Int) (F : List S50) (hF : F.length ≤ 140737488355328) (rest : List S50) : ∀ (P : List S50) (lo : Int), F = P ++ rest → mx 1 (lastT P) = lo → Ev (fun k => impl_HardOk.l0 k F (F.length : Int) (P.length : Int) term vote F) (logOk lo term rest && (inr term 0 1000000000 && (inr vote 0 5 && decide ((F.length : Int) ≤ 80)))) := by
  induction rest with
  | nil =>
    intro P lo hPF hlo
    refine Ev.step (f := fun _ => some (inr term 0 1000000000 && (inr vote 0 5 && decide ((F.length : Int) ≤ 80)))) (fun k => ?_) ?_
    · simp only [impl_HardOk.l0]
      rw [if_neg (by rw [hPF]; simp)]
      simp only [isWhole_eq, within_eq, Option.bind_some]
      cases inr term 0 1000000000 <;> cases inr vote 0 5 <;> rfl
    · simp only [logOk, Bool.true_and]; exact Ev.now _
  | cons x t ih =>
    intro P lo hPF hlo
    have el : (F.length : Int) = P.length + t.length + 1 := by rw [hPF]; simp; omega
    have hr : rd_T50 F (P.length : Int) = x := by rw [hPF]; exact rdE_mid P x t
    have hw1 : wrap64 ((P.length : Int) + 1) = ((P ++ [x]).length : Int) := by rw [w64 (by omega) (by omega)]; simp
    have htk : F.take (P.length : Int).toNat = P := by rw [hPF]; simp
    refine Ev.step (fun k => by simp only [impl_HardOk.l0]; rw [if_pos (by omega), if_pos (by omega), if_pos (by omega), hr]) ?_
    refine Ev.bind (implCmdOk_ev _ _ _ _ _) ?_
    change Ev (fun k => if cmdOkE x = true then _ else _) _
    cases hc : cmdOkE x
    · simp only [Bool.false_eq_true, ↓reduceIte]
      have : logOk lo term (x :: t) = false := by simp [logOk, hc]
      rw [this]; exact Ev.now _
    · simp only [↓reduceIte]
      rw [htk, lastTerm_eq P (by omega)]
      simp only [show (P.length : Int) ≤ (F.length : Int) by omega, ↓reduceIte, Option.bind_some, within_eq, hlo]
      by_cases c : lo ≤ x.f0 ∧ x.f0 ≤ term
      · have e : inr x.f0 lo term = true := decide_eq_true c
        have hlog : logOk lo term (x :: t) = logOk x.f0 term t := by simp [logOk, c, hc]
        rw [e, hlog, hw1]
        simp only [↓reduceIte]
        have hlo1 : 1 ≤ lo := by rw [← hlo]; unfold mx; split <;> omega
        exact ih (P ++ [x]) x.f0 (by rw [hPF]; simp) (by simp only [lastT, List.getLast?_append, List.getLast?_singleton, Option.some_or]; unfold mx; split <;> omega)
      · have e : inr x.f0 lo term = false := decide_eq_false c
        have hlog : logOk lo term (x :: t) = false := by simp only [logOk, c, decide_false, Bool.false_and]
        rw [e, hlog]
        simp only [Bool.false_eq_true, ↓reduceIte]; exact Ev.now _
theorem implHardOk_ev (term vote : Int) (l : List S50) (hl : l.length ≤ 140737488355328) : Ev (fun k => impl_HardOk.f k term vote l) (hardOk term vote l) := by
  have h := implHardOk_l term vote l hl l [] 1 rfl rfl
  have e : hardOk term vote l = (logOk 1 term l && (inr term 0 1000000000 && (inr vote 0 5 && decide ((l.length : Int) ≤ 80)))) := by
    unfold hardOk
    cases logOk 1 term l <;> cases inr term 0 1000000000 <;> cases inr vote 0 5 <;> simp
  rw [e]; exact h

def entryOk (term ek er en es : Int) (dig : ByteArray) : Bool := inr term 1 1000000000 && cmdOk ek er en es dig
def zero6 (et ek er en es : Int) (dig : ByteArray) : Bool := et == 0 && ((ek == 0 && (er == 0 && (en == 0 && (es == 0 && (dig.toList == ([] : List UInt8)))))))
def recOk (kind term vote pos et ek er en es : Int) (dig : ByteArray) : Bool :=
  if kind = 1 then (inr term 0 1000000000 && (inr vote 0 5 && (pos == 0 && zero6 et ek er en es dig)))
  else if kind = 2 then (inr pos 1 80 && (entryOk et ek er en es dig && (term == 0 && vote == 0)))
  else if kind = 3 then (inr pos 0 80 && (term == 0 && (vote == 0 && zero6 et ek er en es dig)))
  else false

theorem l6EntryF_ev (term ek er en es : Int) (dig : ByteArray) : Ev (fun k => spec_l6Entry.f k term ek er en es dig) (entryOk term ek er en es dig) := by
  unfold spec_l6Entry.f entryOk
  simp only [l1In_eq, Option.bind_some]
  cases inr term 1 1000000000
  · simp only [Bool.false_eq_true, ↓reduceIte, Bool.false_and]; exact Ev.now _
  · simp only [↓reduceIte, Bool.true_and]
    refine Ev.bind (specCmdOk_ev ek er en es dig) ?_
    exact Ev.now _
theorem specRecOk_ev (kind term vote pos et ek er en es : Int) (dig : ByteArray) : Ev (fun k => spec_RecOk.f k kind term vote pos et ek er en es dig) (recOk kind term vote pos et ek er en es dig) := by
  unfold spec_RecOk.f recOk
  simp only [l1In_eq, l1Whole_eq, Option.bind_some]
  by_cases h1 : kind = 1
  · simp only [h1, ↓reduceIte]
    cases inr term 0 1000000000 <;> cases inr vote 0 5 <;> simp only [Bool.false_eq_true, ↓reduceIte, Bool.false_and, Bool.true_and] <;> exact Ev.now _
  · by_cases h2 : kind = 2
    · simp only [h2, ↓reduceIte, show ¬ (2 : Int) = 1 by omega]
      cases inr pos 1 80
      · simp only [Bool.false_eq_true, ↓reduceIte, Bool.false_and]; exact Ev.now _
      · simp only [↓reduceIte, Bool.true_and]
        refine Ev.bind (l6EntryF_ev et ek er en es dig) ?_
        cases entryOk et ek er en es dig <;> simp only [Bool.false_eq_true, ↓reduceIte, Bool.false_and, Bool.true_and] <;> exact Ev.now _
    · by_cases h3 : kind = 3
      · simp only [h3, ↓reduceIte, show ¬ (3 : Int) = 1 by omega, show ¬ (3 : Int) = 2 by omega]
        cases inr pos 0 80 <;> simp only [Bool.false_eq_true, ↓reduceIte, Bool.false_and, Bool.true_and] <;> exact Ev.now _
      · simp only [h1, h2, h3, ↓reduceIte]; exact Ev.now _

theorem entryOk_ev (term ek er en es : Int) (dig : ByteArray) : Ev (fun k => impl_entryOk.f k term ek er en es dig) (entryOk term ek er en es dig) := by
  unfold impl_entryOk.f entryOk
  simp only [within_eq, Option.bind_some]
  cases inr term 1 1000000000
  · simp only [Bool.false_eq_true, ↓reduceIte, Bool.false_and]; exact Ev.now _
  · simp only [↓reduceIte, Bool.true_and]
    refine Ev.bind (implCmdOk_ev ek er en es dig) ?_
    exact Ev.now _
theorem implRecOk_ev (kind term vote pos et ek er en es : Int) (dig : ByteArray) : Ev (fun k => impl_RecOk.f k kind term vote pos et ek er en es dig) (recOk kind term vote pos et ek er en es dig) := by
  unfold impl_RecOk.f recOk
  simp only [within_eq, isWhole_eq, Option.bind_some]
  by_cases h1 : kind = 1
  · simp only [h1, ↓reduceIte, if_eq0, if_tt]
    exact Ev.now _
  · by_cases h2 : kind = 2
    · simp only [h2, ↓reduceIte, show ¬ (2 : Int) = 1 by omega, if_eq0]
      cases inr pos 1 80
      · simp only [Bool.false_eq_true, ↓reduceIte, Bool.false_and]; exact Ev.now _
      · simp only [↓reduceIte, Bool.true_and]
        refine Ev.bind (entryOk_ev et ek er en es dig) ?_
        simp only [if_tt]
        exact Ev.now _
    · by_cases h3 : kind = 3
      · simp only [h3, ↓reduceIte, show ¬ (3 : Int) = 1 by omega, show ¬ (3 : Int) = 2 by omega, if_eq0, if_tt]
        exact Ev.now _
      · simp only [h1, h2, h3, ↓reduceIte]; exact Ev.now _

theorem copyHard_eq (t v : Int) (l : List S50) (hl : l.length ≤ 140737488355) : impl_copyHard.f t v l = some (t, v, l) := by
  unfold impl_copyHard.f impl_copyLog.f
  simp only [Option.bind_some, List.length_nil, List.nil_append]
  rw [if_pos (by omega)]
  rfl
theorem l6Copy_eq (t v : Int) (l : List S50) (hl : l.length ≤ 140737488355) : spec_l6Copy.f t v l = some (t, v, l) := by
  unfold spec_l6Copy.f
  simp only [Option.bind_some, List.length_nil, List.nil_append]
  rw [if_pos (by omega)]
def mayR (t v : Int) (n : Nat) (k tm vt pos : Int) : Bool :=
  if k = 1 then decide (tm > t) || (tm == t && (v == 0 || v == vt)) else if k = 2 then pos == (n : Int) + 1 else if k = 3 then inr pos 0 n else false
def candR (t v : Int) (l : List S50) (k tm vt pos : Int) (e : S50) : Int × Int × List S50 :=
  if k = 1 then (tm, vt, l) else if k = 2 then (t, v, l ++ [e]) else if k = 3 then (t, v, l.take pos.toNat) else (t, v, l)
def hardApply (t v : Int) (l : List S50) (k tm vt pos : Int) (e : S50) : Int × Int × List S50 × Bool :=
  if hardOk t v l = true then
    (if (mayR t v l.length k tm vt pos && (recOk k tm vt pos e.f0 e.f1.f0 e.f1.f1 e.f1.f2 e.f1.f3 e.f1.f4 && hardOk (candR t v l k tm vt pos e).1 (candR t v l k tm vt pos e).2.1 (candR t v l k tm vt pos e).2.2)) = true
      then ((candR t v l k tm vt pos e).1, (candR t v l k tm vt pos e).2.1, (candR t v l k tm vt pos e).2.2, true) else (t, v, l, false))
  else (0, 0, [], false)
theorem candR_len (t v : Int) (l : List S50) (k tm vt pos : Int) (e : S50) : (candR t v l k tm vt pos e).2.2.length ≤ l.length + 1 := by
  unfold candR
  split
  · simp
  · split
    · simp
    · split
      · simp only [List.length_take]; omega
      · simp
theorem hardApply_len (t v : Int) (l : List S50) (k tm vt pos : Int) (e : S50) : (hardApply t v l k tm vt pos e).2.2.1.length ≤ l.length + 1 := by
  have := candR_len t v l k tm vt pos e
  unfold hardApply
  split
  · split
    · exact this
    · simp
  · simp
theorem hardOk_len {t v : Int} {l : List S50} (h : hardOk t v l = true) : l.length ≤ 80 := by
  unfold hardOk at h
  simp only [Bool.and_eq_true, decide_eq_true_eq] at h
  omega
theorem implHA_j0 (may : Bool) (t v : Int) (l : List S50) (k tm vt pos : Int) (e : S50) (c0 c1 : Int) (c2 : List S50) (hl : l.length ≤ 140737488355) (hc : c2.length ≤ 140737488355) :
    Ev (fun r => impl_HardApply.j0 r may t v l k tm vt pos e.f0 e.f1.f0 e.f1.f1 e.f1.f2 e.f1.f3 e.f1.f4 c0 c1 c2) (if (may && (recOk k tm vt pos e.f0 e.f1.f0 e.f1.f1 e.f1.f2 e.f1.f3 e.f1.f4 && hardOk c0 c1 c2)) = true then (c0, c1, c2, true) else (t, v, l, false)) := by
  refine Ev.step (fun r => by simp only [impl_HardApply.j0]; rfl) ?_
  cases may
  · simp only [Bool.false_eq_true, ↓reduceIte, copyHard_eq t v l hl, Option.bind_some, Bool.false_and]
    exact Ev.now _
  · simp only [↓reduceIte, Bool.true_and]
    refine Ev.bind (implRecOk_ev k tm vt pos e.f0 e.f1.f0 e.f1.f1 e.f1.f2 e.f1.f3 e.f1.f4) ?_
    cases recOk k tm vt pos e.f0 e.f1.f0 e.f1.f1 e.f1.f2 e.f1.f3 e.f1.f4
    · simp only [Bool.false_eq_true, ↓reduceIte, copyHard_eq t v l hl, Option.bind_some, Bool.false_and]
      exact Ev.now _
    · simp only [↓reduceIte, Bool.true_and]
      refine Ev.bind (implHardOk_ev c0 c1 c2 (by omega)) ?_
      cases hardOk c0 c1 c2
      · simp only [Bool.false_eq_true, ↓reduceIte, copyHard_eq t v l hl, Option.bind_some]
        exact Ev.now _
      · simp only [↓reduceIte]
        exact Ev.now _
theorem specHA_j0 (may : Bool) (t v : Int) (l : List S50) (c0 c1 : Int) (c2 : List S50) (hl : l.length ≤ 140737488355) (hc : c2.length ≤ 140737488355) :
    Ev (fun r => spec_HardApply.j1 r may t v l c0 c1 c2) (if (may && hardOk c0 c1 c2) = true then (c0, c1, c2, true) else (t, v, l, false)) := by
  refine Ev.step (fun r => by simp only [spec_HardApply.j1]; rfl) ?_
  cases may
  · simp only [Bool.false_eq_true, ↓reduceIte, l6Copy_eq t v l hl, Option.bind_some, Bool.false_and]
    exact Ev.now _
  · simp only [↓reduceIte, Bool.true_and]
    refine Ev.bind (specHardOk_ev c0 c1 c2 (by omega)) ?_
    cases hardOk c0 c1 c2
    · simp only [Bool.false_eq_true, ↓reduceIte, l6Copy_eq t v l hl, Option.bind_some]
      exact Ev.now _
    · simp only [↓reduceIte]
      exact Ev.now _
theorem recOk_other {k tm vt pos et ek er en es : Int} {dig : ByteArray} (h1 : k ≠ 1) (h2 : k ≠ 2) (h3 : k ≠ 3) : recOk k tm vt pos et ek er en es dig = false := by
  unfold recOk
  rw [if_neg h1, if_neg h2, if_neg h3]
theorem recOk_cut {tm vt pos et ek er en es : Int} {dig : ByteArray} (h : recOk 3 tm vt pos et ek er en es dig = true) : 0 ≤ pos := by
  unfold recOk at h
  rw [if_neg (by omega), if_neg (by omega), if_pos rfl] at h
  simp only [Bool.and_eq_true, inr, decide_eq_true_eq] at h
  omega
theorem implHardApply_ev (t v : Int) (l : List S50) (k tm vt pos : Int) (e : S50) (hl : l.length ≤ 1048576) :
    Ev (fun r => impl_HardApply.f r t v l k tm vt pos e.f0 e.f1.f0 e.f1.f1 e.f1.f2 e.f1.f3 e.f1.f4) (hardApply t v l k tm vt pos e) := by
  unfold impl_HardApply.f hardApply
  refine Ev.bind (implHardOk_ev t v l (by omega)) ?_
  cases ho : hardOk t v l
  · simp only [Bool.false_eq_true, ↓reduceIte]; exact Ev.now _
  · have h80 := hardOk_len ho
    simp only [↓reduceIte, copyHard_eq t v l (by omega), Option.bind_some]
    unfold candR mayR
    by_cases k1 : k = 1
    · subst k1
      simp only [↓reduceIte]
      have J := fun b => implHA_j0 b t v l 1 tm vt pos e tm vt l (by omega) (by omega)
      by_cases a : tm > t
      · simp only [a, ↓reduceIte, decide_true, Bool.true_or]; exact J true
      · simp only [a, ↓reduceIte, decide_false, Bool.false_or]
        by_cases b : tm = t
        · by_cases c : v = 0
          · simp only [b, c, ↓reduceIte, beq_self_eq_true, Bool.true_or, Bool.true_and]
            have := J true
            simp only [b, c] at this
            exact this
          · have hb : (tm == t) = true := beq_iff_eq.2 b
            have hc : (v == 0) = false := beq_eq_false_iff_ne.2 c
            simp only [if_pos b, if_neg c, hb, hc]
            simp only [Bool.true_and, Bool.false_or]
            exact J (v == vt)
        · have hb : (tm == t) = false := beq_eq_false_iff_ne.2 b
          simp only [if_neg b, hb]
          exact J false
    · simp only [k1, ↓reduceIte]
      by_cases k2 : k = 2
      · subst k2
        simp only [↓reduceIte, show l.length < 2513169434916 by omega]
        rw [w64 (by omega) (by omega)]
        exact implHA_j0 _ t v l 2 tm vt pos e t v (l ++ [e]) (by omega) (by simp; omega)
      · simp only [k2, ↓reduceIte]
        by_cases k3 : k = 3
        · subst k3
          simp only [↓reduceIte, within_eq, Option.bind_some]
          have m0 : 0 ≤ mn (mx pos 0) (l.length : Int) := by unfold mn mx; split <;> split <;> omega
          have m1 : mn (mx pos 0) (l.length : Int) ≤ (l.length : Int) := by unfold mn mx; split <;> split <;> omega
          simp only [m0, m1, ↓reduceIte]
          have J := implHA_j0 (inr pos 0 l.length) t v l 3 tm vt pos e t v (l.take (mn (mx pos 0) (l.length : Int)).toNat) (by omega) (by rw [List.length_take]; omega)
          cases hi : inr pos 0 l.length
          · rw [hi] at J
            simpa using J
          · have hm : mn (mx pos 0) (l.length : Int) = pos := by
              simp only [inr, decide_eq_true_eq] at hi
              unfold mn mx; split <;> split <;> omega
            rw [hi, hm] at J
            rw [hm]
            exact J
        · simp only [k3, ↓reduceIte]
          exact implHA_j0 false t v l k tm vt pos e t v l (by omega) (by omega)
theorem specHardApply_ev (t v : Int) (l : List S50) (k tm vt pos : Int) (e : S50) (hl : l.length ≤ 1048576) :
    Ev (fun r => spec_HardApply.f r t v l k tm vt pos e.f0 e.f1.f0 e.f1.f1 e.f1.f2 e.f1.f3 e.f1.f4) (hardApply t v l k tm vt pos e) := by
  unfold spec_HardApply.f hardApply
  refine Ev.bind (specHardOk_ev t v l (by omega)) ?_
  cases ho : hardOk t v l
  · simp only [Bool.false_eq_true, ↓reduceIte]; exact Ev.now _
  · have h80 := hardOk_len ho
    simp only [↓reduceIte]
    refine Ev.step (fun k => by simp only [spec_HardApply.j0]; rfl) ?_
    simp only [l6Copy_eq t v l (by omega), Option.bind_some]
    refine Ev.bind (specRecOk_ev k tm vt pos e.f0 e.f1.f0 e.f1.f1 e.f1.f2 e.f1.f3 e.f1.f4) ?_
    unfold candR mayR
    have F : ∀ c0 c1 c2, c2.length ≤ 1048577 → Ev (fun r => spec_HardApply.j1 r false t v l c0 c1 c2) (t, v, l, false) := fun c0 c1 c2 hc => by
      have := specHA_j0 false t v l c0 c1 c2 (by omega) (by omega)
      simpa using this
    by_cases k1 : k = 1
    · subst k1
      simp only [↓reduceIte]
      cases hr : recOk 1 tm vt pos e.f0 e.f1.f0 e.f1.f1 e.f1.f2 e.f1.f3 e.f1.f4
      · simp only [Bool.false_eq_true, ↓reduceIte, Bool.false_and, Bool.and_false]
        exact F _ _ _ (by omega)
      · simp only [↓reduceIte, Bool.true_and]
        have J := fun b => specHA_j0 b t v l tm vt l (by omega) (by omega)
        by_cases a : tm > t
        · simp only [a, ↓reduceIte, decide_true, Bool.true_or]; exact J true
        · simp only [a, ↓reduceIte, decide_false, Bool.false_or]
          by_cases b : tm = t
          · by_cases c : v = 0
            · simp only [b, c, ↓reduceIte, beq_self_eq_true, Bool.true_or, Bool.true_and]
              have := J true
              simp only [b, c] at this
              exact this
            · have hb : (tm == t) = true := beq_iff_eq.2 b
              have hc : (v == 0) = false := beq_eq_false_iff_ne.2 c
              simp only [if_pos b, if_neg c, hb, hc]
              simp only [Bool.true_and, Bool.false_or]
              exact J (v == vt)
          · have hb : (tm == t) = false := beq_eq_false_iff_ne.2 b
            simp only [if_neg b, hb]
            exact J false
    · simp only [k1, ↓reduceIte]
      by_cases k2 : k = 2
      · subst k2
        simp only [↓reduceIte, show l.length < 2513169434916 by omega]
        cases hr : recOk 2 tm vt pos e.f0 e.f1.f0 e.f1.f1 e.f1.f2 e.f1.f3 e.f1.f4
        · simp only [Bool.false_eq_true, ↓reduceIte, Bool.false_and, Bool.and_false]
          exact F _ _ _ (by simp; omega)
        · simp only [↓reduceIte, Bool.true_and]
          rw [w64 (by omega) (by omega)]
          exact specHA_j0 _ t v l t v (l ++ [e]) (by omega) (by simp; omega)
      · simp only [k2, ↓reduceIte]
        by_cases k3 : k = 3
        · subst k3
          simp only [↓reduceIte]
          cases hr : recOk 3 tm vt pos e.f0 e.f1.f0 e.f1.f1 e.f1.f2 e.f1.f3 e.f1.f4
          · simp only [Bool.false_eq_true, ↓reduceIte, Bool.false_and, Bool.and_false]
            exact F _ _ _ (by omega)
          · have h0 := recOk_cut hr
            simp only [↓reduceIte, Bool.true_and]
            by_cases c : pos ≤ (l.length : Int)
            · have hi : inr pos 0 l.length = true := decide_eq_true ⟨h0, c⟩
              simp only [c, h0, ↓reduceIte, decide_true, hi]
              exact specHA_j0 true t v l t v (l.take pos.toNat) (by omega) (by rw [List.length_take]; omega)
            · have hi : inr pos 0 l.length = false := decide_eq_false (by omega)
              simp only [c, ↓reduceIte, decide_false, hi, Bool.false_and, Bool.false_eq_true]
              exact F _ _ _ (by omega)
        · simp only [k3, ↓reduceIte]
          rw [recOk_other k1 k2 k3]
          simp only [Bool.false_and, Bool.false_eq_true, ↓reduceIte]
          exact F _ _ _ (by omega)

theorem rdR_mid (P : List S52) (x : S52) (t : List S52) : rd_T52 (P ++ x :: t) (P.length : Int) = x := by
  unfold rd_T52; simp
def hoG : List S52 → Int → Int → Int → List S50 → Int × Int × List S50 × Int
  | [], i, t, v, l => (t, v, l, i)
  | x :: r, i, t, v, l => if (hardApply t v l x.f0 x.f1 x.f2 x.f3 x.f4).2.2.2 = true then hoG r (i + 1) (hardApply t v l x.f0 x.f1 x.f2 x.f3 x.f4).1 (hardApply t v l x.f0 x.f1 x.f2 x.f3 x.f4).2.1 (hardApply t v l x.f0 x.f1 x.f2 x.f3 x.f4).2.2.1 else (t, v, l, i)
theorem hoG_len : ∀ (r : List S52) (i t v : Int) (l : List S50), (hoG r i t v l).2.2.1.length ≤ l.length + r.length
  | [], i, t, v, l => by simp [hoG]
  | x :: r, i, t, v, l => by
    have h1 := hardApply_len t v l x.f0 x.f1 x.f2 x.f3 x.f4
    have h2 := hoG_len r (i + 1) (hardApply t v l x.f0 x.f1 x.f2 x.f3 x.f4).1 (hardApply t v l x.f0 x.f1 x.f2 x.f3 x.f4).2.1 (hardApply t v l x.f0 x.f1 x.f2 x.f3 x.f4).2.2.1
    simp only [hoG]
    split
    · simp only [List.length_cons]; omega
    · simp
theorem specHO_l (rest : List S52) : ∀ (P : List S52) (t v : Int) (l : List S50), P.length + rest.length ≤ 2000 → l.length ≤ P.length → Ev (fun k => spec_HardOf.l0 k (P ++ rest) (P.length : Int) t v l) (hoG rest P.length t v l) := by
  induction rest with
  | nil =>
    intro P t v l hl ho
    refine Ev.step (f := fun _ => some (t, v, l, ((P ++ []).length : Int))) (fun k => ?_) ?_
    · simp only [spec_HardOf.l0]
      rw [if_neg (by simp)]
    · simp [hoG]; exact Ev.now _
  | cons x r ih =>
    intro P t v l hl ho
    simp only [List.length_cons] at hl
    have el : ((P ++ x :: r).length : Int) = P.length + r.length + 1 := by simp; omega
    have hw : wrap64 ((P.length : Int) + 1) = ((P ++ [x]).length : Int) := by rw [w64 (by omega) (by omega)]; simp
    have hA := specHardApply_ev t v l x.f0 x.f1 x.f2 x.f3 x.f4 (by omega)
    have hn := hardApply_len t v l x.f0 x.f1 x.f2 x.f3 x.f4
    refine Ev.step (fun k => by simp only [spec_HardOf.l0]; rw [if_pos (by omega)]) ?_
    refine Ev.step (fun k => by simp only [spec_HardOf.j2]; rw [if_pos (by omega), if_pos (by omega), rdR_mid]) ?_
    simp only [hoG]
    refine Ev.bind hA ?_
    generalize hardApply t v l x.f0 x.f1 x.f2 x.f3 x.f4 = U at *
    obtain ⟨u0, u1, u2, u3⟩ := U
    simp only at hn ⊢
    cases u3
    · simp only [Bool.false_eq_true, ↓reduceIte]; exact Ev.now _
    · simp only [↓reduceIte]
      refine Ev.step (fun k => by simp only [spec_HardOf.j3]; rw [hw]) ?_
      have h := ih (P ++ [x]) u0 u1 u2 (by simp; omega) (by simp; omega)
      simpa using h
theorem implHO_l (rest : List S52) : ∀ (P : List S52) (t v : Int) (l : List S50), P.length + rest.length ≤ 2000 → l.length ≤ P.length → Ev (fun k => impl_HardOf.l0 k (P ++ rest) (P ++ rest) ((P ++ rest).length : Int) (P.length : Int) t v l) (hoG rest P.length t v l) := by
  induction rest with
  | nil =>
    intro P t v l hl ho
    refine Ev.step (f := fun _ => some (t, v, l, ((P ++ []).length : Int))) (fun k => ?_) ?_
    · simp only [impl_HardOf.l0]
      rw [if_neg (by simp)]
    · simp [hoG]; exact Ev.now _
  | cons x r ih =>
    intro P t v l hl ho
    simp only [List.length_cons] at hl
    have el : ((P ++ x :: r).length : Int) = P.length + r.length + 1 := by simp; omega
    have hw : wrap64 ((P.length : Int) + 1) = ((P ++ [x]).length : Int) := by rw [w64 (by omega) (by omega)]; simp
    have hA := implHardApply_ev t v l x.f0 x.f1 x.f2 x.f3 x.f4 (by omega)
    have hn := hardApply_len t v l x.f0 x.f1 x.f2 x.f3 x.f4
    refine Ev.step (fun k => by simp only [impl_HardOf.l0]; rw [if_pos (by omega)]) ?_
    refine Ev.step (fun k => by simp only [impl_HardOf.j2]; rw [if_pos (by omega), if_pos (by omega), rdR_mid]) ?_
    simp only [hoG]
    refine Ev.bind hA ?_
    generalize hardApply t v l x.f0 x.f1 x.f2 x.f3 x.f4 = U at *
    obtain ⟨u0, u1, u2, u3⟩ := U
    simp only at hn ⊢
    cases u3
    · simp only [Bool.false_eq_true, ↓reduceIte]; exact Ev.now _
    · simp only [↓reduceIte]
      refine Ev.step (fun k => by simp only [impl_HardOf.j3]; rw [hw]) ?_
      have h := ih (P ++ [x]) u0 u1 u2 (by simp; omega) (by simp; omega)
      simpa using h
def hardOf (r : List S52) : Int × Int × List S50 × Int := if r.length > 2000 then (0, 0, [], 0) else hoG r 0 0 0 []
theorem hardOf_len (r : List S52) : (hardOf r).2.2.1.length ≤ 2000 := by
  unfold hardOf
  split
  · simp
  · have := hoG_len r 0 0 0 []
    simp only [List.length_nil] at this
    omega
theorem specHardOf_ev (r : List S52) (hl : r.length ≤ 140737488355328) : Ev (fun k => spec_HardOf.f k r) (hardOf r) := by
  unfold spec_HardOf.f hardOf
  by_cases c : r.length > 2000
  · simp only [show (r.length : Int) > 2000 by omega, c, ↓reduceIte]; exact Ev.now _
  · simp only [show ¬ (r.length : Int) > 2000 by omega, c, ↓reduceIte]
    refine Ev.step (fun k => by simp only [spec_HardOf.j0]; rfl) ?_
    have h := specHO_l r [] 0 0 [] (by simp; omega) (by simp)
    simpa using h
theorem implHardOf_ev (r : List S52) (hl : r.length ≤ 140737488355328) : Ev (fun k => impl_HardOf.f k r) (hardOf r) := by
  unfold impl_HardOf.f hardOf
  by_cases c : r.length > 2000
  · simp only [show (r.length : Int) > 2000 by omega, c, ↓reduceIte]; exact Ev.now _
  · simp only [show ¬ (r.length : Int) > 2000 by omega, c, ↓reduceIte]
    refine Ev.step (fun k => by simp only [impl_HardOf.j0]; rfl) ?_
    have h := implHO_l r [] 0 0 [] (by simp; omega) (by simp)
    simpa using h

theorem cmdOk_k {kind rel node size : Int} {dig : ByteArray} (h : cmdOk kind rel node size dig = true) : (kind = 1 ∨ kind = 2 ∨ kind = 3 ∨ kind = 4 ∨ kind = 5) ∧ (kind ≠ 1 → 1 ≤ rel ∧ rel ≤ 1000) ∧ (kind = 3 → 0 ≤ node ∧ node ≤ 4) ∧ (kind = 2 → (0 ≤ size ∧ size ≤ 1000) ∧ (dig.size : Int) = 32) := by
  unfold cmdOk at h
  by_cases h1 : kind = 1
  · exact ⟨.inl h1, fun c => absurd h1 c, fun c => by omega, fun c => by omega⟩
  rw [if_neg h1] at h
  by_cases h2 : kind = 2
  · rw [if_pos h2] at h
    simp only [Bool.and_eq_true, inr, decide_eq_true_eq] at h
    exact ⟨by omega, fun _ => h.1, fun c => by omega, fun _ => ⟨h.2.1, h.2.2.1⟩⟩
  rw [if_neg h2] at h
  by_cases h3 : kind = 3
  · rw [if_pos h3] at h
    simp only [Bool.and_eq_true, inr, decide_eq_true_eq] at h
    exact ⟨by omega, fun _ => h.1, fun _ => h.2.1, fun c => by omega⟩
  rw [if_neg h3] at h
  by_cases h4 : kind = 4 ∨ kind = 5
  · rw [if_pos h4] at h
    simp only [Bool.and_eq_true, inr, decide_eq_true_eq] at h
    exact ⟨by omega, fun _ => h.1, fun c => by omega, fun c => by omega⟩
  · rw [if_neg h4] at h; simp at h
def cmdPack (kind rel node size : Int) (dig : ByteArray) : List Int × Bool :=
  if cmdOk kind rel node size dig = true then
    (if kind = 1 then (putNum kind, true) else if kind = 2 then (putNum kind ++ putNum rel ++ putNum size ++ bytesOf dig, true) else if kind = 3 then (putNum kind ++ putNum rel ++ putNum node, true) else (putNum kind ++ putNum rel, true))
  else ([], false)
theorem cmdPack_len (kind rel node size : Int) (dig : ByteArray) : (cmdPack kind rel node size dig).1.length ≤ 60 := by
  unfold cmdPack
  split
  · rename_i h
    obtain ⟨k0, k1, k2, k3⟩ := cmdOk_k h
    have l0 := (putNum_b9 (x := kind) (by omega) (by omega)).2.1
    split
    · simp only; omega
    · rename_i h1
      have k1 := k1 h1
      have l1 := (putNum_b9 (x := rel) (by omega) (by omega)).2.1
      split
      · rename_i h2
        have k3 := k3 h2
        have l2 := (putNum_b9 (x := size) (by omega) (by omega)).2.1
        simp only [List.length_append, bytesOf_length]; omega
      · split
        · rename_i h3
          have k2 := k2 h3
          have l2 := (putNum_b9 (x := node) (by omega) (by omega)).2.1
          simp only [List.length_append]; omega
        · simp only [List.length_append]; omega
  · simp

theorem specCmdPack_ev (kind rel node size : Int) (dig : ByteArray) : Ev (fun k => spec_CmdPack.f k kind rel node size dig) (cmdPack kind rel node size dig) := by
  unfold spec_CmdPack.f cmdPack
  refine Ev.bind (specCmdOk_ev kind rel node size dig) ?_
  cases h : cmdOk kind rel node size dig
  · simp only [Bool.false_eq_true, ↓reduceIte]; exact Ev.now _
  · obtain ⟨k0, k1, k2, k3⟩ := cmdOk_k h
    have l0 := (putNum_b9 (x := kind) (by omega) (by omega)).2.1
    simp only [↓reduceIte]
    refine Ev.bind (specPutNum_ev (x := kind) (by omega) (by omega)) ?_
    by_cases h1 : kind = 1
    · simp only [h1, ↓reduceIte]
      refine Ev.step (f := fun _ => some (putNum 1, true)) (fun k => ?_) (Ev.now _)
      simp only [spec_CmdPack.j0]
      rw [if_neg (by omega), if_neg (by omega)]
    · have k1 := k1 h1
      have l1 := (putNum_b9 (x := rel) (by omega) (by omega)).2.1
      simp only [h1, ↓reduceIte]
      refine Ev.bind (specPutNum_ev (x := rel) (by omega) (by omega)) ?_
      have c1 : (putNum kind).length + (putNum rel).length < 140737488355328 := by omega
      simp only [c1, ↓reduceIte]
      by_cases h2 : kind = 2
      · have k3 := k3 h2
        have l2 := (putNum_b9 (x := size) (by omega) (by omega)).2.1
        have h3 : ¬ kind = 3 := by omega
        simp only [h2, ↓reduceIte]
        refine Ev.step (fun k => by simp only [spec_CmdPack.j0]; rw [if_neg (by omega), if_pos trivial]) ?_
        refine Ev.bind (specPutNum_ev (x := size) (by omega) (by omega)) ?_
        rw [h2] at c1 l0
        have c2 : (putNum 2 ++ putNum rel).length + (putNum size).length < 140737488355328 := by rw [List.length_append]; omega
        have c3 : dig.size ≤ 9223372036854775807 := by omega
        have c4 : (putNum 2 ++ putNum rel ++ putNum size).length + (bytesOf dig).length < 140737488355328 := by rw [List.length_append, List.length_append, bytesOf_length]; omega
        simp only [c2, ↓reduceIte, Option.bind_some, c3, c4]
        exact Ev.now _
      · by_cases h3 : kind = 3
        · have k2 := k2 h3
          have l2 := (putNum_b9 (x := node) (by omega) (by omega)).2.1
          simp only [h2, h3, ↓reduceIte]
          rw [h3] at l0
          refine Ev.step (fun k => by simp only [spec_CmdPack.j0]; rw [if_pos trivial]) ?_
          refine Ev.bind (specPutNum_ev (x := node) (by omega) (by omega)) ?_
          have c2 : (putNum 3 ++ putNum rel).length + (putNum node).length < 140737488355328 := by rw [List.length_append]; omega
          simp only [c2, ↓reduceIte, show ¬ (3 : Int) = 2 by omega]
          exact Ev.now _
        · simp only [h2, h3, ↓reduceIte]
          refine Ev.step (f := fun _ => some (putNum kind ++ putNum rel, true)) (fun k => ?_) (Ev.now _)
          simp only [spec_CmdPack.j0]
          rw [if_neg h3, if_neg h2]

def putNumsOf : List Int → List Int
  | [] => []
  | x :: t => putNum x ++ putNumsOf t
theorem putNums_l (F : List Int) (rest : List Int) : ∀ (P acc : List Int), F = P ++ rest → (∀ x ∈ rest, 0 ≤ x ∧ x ≤ 9223372036854775807) → F.length ≤ 1000 → acc.length + 10 * rest.length ≤ 100000 → Ev (fun k => impl_putNums.l0 k acc F (F.length : Int) (P.length : Int)) (acc ++ putNumsOf rest) := by
  induction rest with
  | nil =>
    intro P acc hF hx hl ha
    refine Ev.step (f := fun _ => some acc) (fun k => ?_) ?_
    · simp only [impl_putNums.l0]
      rw [if_neg (by rw [hF]; simp)]
    · simp [putNumsOf]; exact Ev.now _
  | cons x t ih =>
    intro P acc hF hx hl ha
    simp only [List.length_cons] at ha
    have hx0 := hx x (by simp)
    have el : (F.length : Int) = P.length + t.length + 1 := by rw [hF]; simp; omega
    have hr : rd F (P.length : Int) = x := by rw [hF]; exact rd_mid P x t
    have l0 := (putNum_b9 (x := x) hx0.1 hx0.2).2.1
    have h := ih (P ++ [x]) (acc ++ putNum x) (by rw [hF]; simp) (fun y hy => hx y (by simp [hy])) hl (by rw [List.length_append]; omega)
    have e3 : acc ++ putNumsOf (x :: t) = (acc ++ putNum x) ++ putNumsOf t := by simp [putNumsOf]
    refine Ev.step (fun k => by simp only [impl_putNums.l0]; rw [if_pos (by omega), if_pos (by omega), if_pos (by omega), hr]) ?_
    refine Ev.bind (implPutNum_ev hx0.1 hx0.2) ?_
    have c1 : acc.length + (putNum x).length < 140737488355328 := by omega
    simp only [c1, ↓reduceIte]
    rw [w64 (x := (P.length : Int) + 1) (by omega) (by omega), e3]
    refine Ev.congr (fun k => ?_) h
    simp
theorem putNums_ev (l : List Int) (hx : ∀ x ∈ l, 0 ≤ x ∧ x ≤ 9223372036854775807) (hl : l.length ≤ 1000) : Ev (fun k => impl_putNums.f k l) (putNumsOf l) := by
  have h := putNums_l l l [] [] rfl hx hl (by simp; omega)
  simpa [impl_putNums.f] using h

theorem implCmdPack_ev (kind rel node size : Int) (dig : ByteArray) : Ev (fun k => impl_CmdPack.f k kind rel node size dig) (cmdPack kind rel node size dig) := by
  unfold impl_CmdPack.f cmdPack
  refine Ev.bind (implCmdOk_ev kind rel node size dig) ?_
  cases h : cmdOk kind rel node size dig
  · simp only [Bool.false_eq_true, ↓reduceIte]; exact Ev.now _
  · obtain ⟨k0, k1, k2, k3⟩ := cmdOk_k h
    have l0 := (putNum_b9 (x := kind) (by omega) (by omega)).2.1
    simp only [↓reduceIte]
    refine Ev.step (fun k => by simp only [impl_CmdPack.j0]; rfl) ?_
    by_cases h1 : kind = 1
    · simp only [h1, ↓reduceIte]
      refine Ev.bind (implPutNum_ev (x := 1) (by omega) (by omega)) ?_
      exact Ev.now _
    · have k1 := k1 h1
      have l1 := (putNum_b9 (x := rel) (by omega) (by omega)).2.1
      simp only [h1, ↓reduceIte]
      by_cases h2 : kind = 2
      · have k3 := k3 h2
        have l2 := (putNum_b9 (x := size) (by omega) (by omega)).2.1
        simp only [h2, ↓reduceIte]
        refine Ev.bind (putNums_ev [2, rel, size] (by intro x hx; simp at hx; omega) (by simp)) ?_
        rw [h2] at l0
        have e : putNumsOf [2, rel, size] = putNum 2 ++ putNum rel ++ putNum size := by simp [putNumsOf]
        rw [e]
        have c4 : (putNum 2 ++ putNum rel ++ putNum size).length + dig.size < 140737488355328 := by rw [List.length_append, List.length_append]; omega
        simp only [c4, ↓reduceIte]
        exact Ev.now _
      · by_cases h3 : kind = 3
        · have k2 := k2 h3
          simp only [h3, show ¬ (3 : Int) = 2 by omega, ↓reduceIte]
          refine Ev.bind (putNums_ev [3, rel, node] (by intro x hx; simp at hx; omega) (by simp)) ?_
          have e : putNumsOf [3, rel, node] = putNum 3 ++ putNum rel ++ putNum node := by simp [putNumsOf]
          rw [e]
          exact Ev.now _
        · simp only [h2, h3, ↓reduceIte]
          refine Ev.bind (putNums_ev [kind, rel] (by intro x hx; simp at hx; omega) (by simp)) ?_
          have e : putNumsOf [kind, rel] = putNum kind ++ putNum rel := by simp [putNumsOf]
          rw [e]
          exact Ev.now _

theorem recOk_k {kind term vote pos et ek er en es : Int} {dig : ByteArray} (h : recOk kind term vote pos et ek er en es dig = true) : (kind = 1 ∨ kind = 2 ∨ kind = 3) ∧ (kind = 1 → (0 ≤ term ∧ term ≤ 1000000000) ∧ (0 ≤ vote ∧ vote ≤ 5)) ∧ (kind = 2 → (1 ≤ pos ∧ pos ≤ 80) ∧ (1 ≤ et ∧ et ≤ 1000000000)) ∧ (kind = 3 → 0 ≤ pos ∧ pos ≤ 80) := by
  unfold recOk at h
  by_cases h1 : kind = 1
  · rw [if_pos h1] at h
    simp only [Bool.and_eq_true, inr, decide_eq_true_eq] at h
    exact ⟨by omega, fun _ => ⟨h.1, h.2.1⟩, fun c => by omega, fun c => by omega⟩
  rw [if_neg h1] at h
  by_cases h2 : kind = 2
  · rw [if_pos h2] at h
    simp only [entryOk, Bool.and_eq_true, inr, decide_eq_true_eq] at h
    exact ⟨by omega, fun c => by omega, fun _ => ⟨h.1, h.2.1.1⟩, fun c => by omega⟩
  rw [if_neg h2] at h
  by_cases h3 : kind = 3
  · rw [if_pos h3] at h
    simp only [Bool.and_eq_true, inr, decide_eq_true_eq] at h
    exact ⟨by omega, fun c => by omega, fun c => by omega, fun _ => h.1⟩
  · rw [if_neg h3] at h; simp at h
def recPack (kind term vote pos et ek er en es : Int) (dig : ByteArray) : ByteArray × Bool :=
  if recOk kind term vote pos et ek er en es dig = true then
    (if kind = 1 then (strOfNums (putNum kind ++ putNum term ++ putNum vote), true) else if kind = 2 then (strOfNums (putNum kind ++ putNum pos ++ putNum et ++ (cmdPack ek er en es dig).1), true) else (strOfNums (putNum kind ++ putNum pos), true))
  else ((⟨#[]⟩ : ByteArray), false)
theorem specRecPack_ev (kind term vote pos et ek er en es : Int) (dig : ByteArray) : Ev (fun k => spec_RecPack.f k kind term vote pos et ek er en es dig) (recPack kind term vote pos et ek er en es dig) := by
  unfold spec_RecPack.f recPack
  refine Ev.bind (specRecOk_ev kind term vote pos et ek er en es dig) ?_
  cases h : recOk kind term vote pos et ek er en es dig
  · simp only [Bool.false_eq_true, ↓reduceIte]; exact Ev.now _
  · obtain ⟨k0, k1, k2, k3⟩ := recOk_k h
    simp only [↓reduceIte]
    have l0 := (putNum_b9 (x := kind) (by omega) (by omega)).2.1
    refine Ev.step (fun k => by simp only [spec_RecPack.j0]; rfl) ?_
    refine Ev.bind (specPutNum_ev (x := kind) (by omega) (by omega)) ?_
    by_cases h1 : kind = 1
    · have k1 := k1 h1
      rw [h1] at l0
      have l1 := (putNum_b9 (x := term) (by omega) (by omega)).2.1
      have l2 := (putNum_b9 (x := vote) (by omega) (by omega)).2.1
      simp only [h1, ↓reduceIte]
      refine Ev.bind (specPutNum_ev (x := term) (by omega) (by omega)) ?_
      have c1 : (putNum 1).length + (putNum term).length < 140737488355328 := by omega
      simp only [c1, ↓reduceIte, Option.bind_some]
      refine Ev.bind (specPutNum_ev (x := vote) (by omega) (by omega)) ?_
      have c2 : (putNum 1 ++ putNum term).length + (putNum vote).length < 140737488355328 := by rw [List.length_append]; omega
      simp only [c2, ↓reduceIte]
      exact Ev.now _
    · by_cases h2 : kind = 2
      · have k2 := k2 h2
        rw [h2] at l0
        have l1 := (putNum_b9 (x := pos) (by omega) (by omega)).2.1
        have l2 := (putNum_b9 (x := et) (by omega) (by omega)).2.1
        have l3 := cmdPack_len ek er en es dig
        simp only [h2, ↓reduceIte, show ¬ (2 : Int) = 1 by omega]
        refine Ev.bind (specPutNum_ev (x := pos) (by omega) (by omega)) ?_
        have c1 : (putNum 2).length + (putNum pos).length < 140737488355328 := by omega
        simp only [c1, ↓reduceIte, Option.bind_some]
        refine Ev.bind (specPutNum_ev (x := et) (by omega) (by omega)) ?_
        have c2 : (putNum 2 ++ putNum pos).length + (putNum et).length < 140737488355328 := by rw [List.length_append]; omega
        simp only [c2, ↓reduceIte, Option.bind_some]
        refine Ev.bind (specCmdPack_ev ek er en es dig) ?_
        have c3 : (putNum 2 ++ putNum pos ++ putNum et).length + (cmdPack ek er en es dig).1.length < 140737488355328 := by rw [List.length_append, List.length_append]; omega
        simp only [c3, ↓reduceIte]
        exact Ev.now _
      · have h3 : kind = 3 := by omega
        have k3 := k3 h3
        rw [h3] at l0
        have l1 := (putNum_b9 (x := pos) (by omega) (by omega)).2.1
        simp only [h3, ↓reduceIte, show ¬ (3 : Int) = 1 by omega, show ¬ (3 : Int) = 2 by omega]
        refine Ev.bind (specPutNum_ev (x := pos) (by omega) (by omega)) ?_
        have c1 : (putNum 3).length + (putNum pos).length < 140737488355328 := by omega
        simp only [c1, ↓reduceIte]
        exact Ev.now _
theorem implRecPack_ev (kind term vote pos et ek er en es : Int) (dig : ByteArray) : Ev (fun k => impl_RecPack.f k kind term vote pos et ek er en es dig) (recPack kind term vote pos et ek er en es dig) := by
  unfold impl_RecPack.f recPack
  refine Ev.bind (implRecOk_ev kind term vote pos et ek er en es dig) ?_
  cases h : recOk kind term vote pos et ek er en es dig
  · simp only [Bool.false_eq_true, ↓reduceIte]; exact Ev.now _
  · obtain ⟨k0, k1, k2, k3⟩ := recOk_k h
    simp only [↓reduceIte]
    have l0 := (putNum_b9 (x := kind) (by omega) (by omega)).2.1
    refine Ev.step (fun k => by simp only [impl_RecPack.j0]; rfl) ?_
    by_cases h1 : kind = 1
    · have k1 := k1 h1
      simp only [h1, ↓reduceIte]
      refine Ev.bind (putNums_ev [1, term, vote] (by intro x hx; simp at hx; omega) (by simp)) ?_
      have e : putNumsOf [1, term, vote] = putNum 1 ++ putNum term ++ putNum vote := by simp [putNumsOf]
      rw [e]; exact Ev.now _
    · by_cases h2 : kind = 2
      · have k2 := k2 h2
        rw [h2] at l0
        have l1 := (putNum_b9 (x := pos) (by omega) (by omega)).2.1
        have l2 := (putNum_b9 (x := et) (by omega) (by omega)).2.1
        have l3 := cmdPack_len ek er en es dig
        simp only [h2, ↓reduceIte, show ¬ (2 : Int) = 1 by omega]
        refine Ev.bind (implCmdPack_ev ek er en es dig) ?_
        refine Ev.bind (putNums_ev [2, pos, et] (by intro x hx; simp at hx; omega) (by simp)) ?_
        have e : putNumsOf [2, pos, et] = putNum 2 ++ putNum pos ++ putNum et := by simp [putNumsOf]
        rw [e]
        have c3 : (putNum 2 ++ putNum pos ++ putNum et).length + (cmdPack ek er en es dig).1.length < 140737488355328 := by rw [List.length_append, List.length_append]; omega
        simp only [c3, ↓reduceIte]
        exact Ev.now _
      · have h3 : kind = 3 := by omega
        have k3 := k3 h3
        simp only [h3, ↓reduceIte, show ¬ (3 : Int) = 1 by omega, show ¬ (3 : Int) = 2 by omega]
        refine Ev.bind (putNums_ev [3, pos] (by intro x hx; simp at hx; omega) (by simp)) ?_
        have e : putNumsOf [3, pos] = putNum 3 ++ putNum pos := by simp [putNumsOf]
        rw [e]; exact Ev.now _

theorem strS_size (l : List Int) : (strOfNums l).size = l.length := by rw [← data_length, strOfNums_data, List.length_map]
theorem recPack_size (kind term vote pos et ek er en es : Int) (dig : ByteArray) : (recPack kind term vote pos et ek er en es dig).1.size ≤ 1000 := by
  unfold recPack
  split
  · rename_i h
    obtain ⟨k0, k1, k2, k3⟩ := recOk_k h
    have l0 := (putNum_b9 (x := kind) (by omega) (by omega)).2.1
    split
    · rename_i c
      have k1 := k1 c
      have l1 := (putNum_b9 (x := term) (by omega) (by omega)).2.1
      have l2 := (putNum_b9 (x := vote) (by omega) (by omega)).2.1
      simp only
      rw [strS_size, List.length_append, List.length_append]; omega
    · split
      · rename_i c
        have k2 := k2 c
        have l1 := (putNum_b9 (x := pos) (by omega) (by omega)).2.1
        have l2 := (putNum_b9 (x := et) (by omega) (by omega)).2.1
        have l3 := cmdPack_len ek er en es dig
        simp only
        rw [strS_size, List.length_append, List.length_append, List.length_append]; omega
      · have k3 := k3 (by omega)
        have l1 := (putNum_b9 (x := pos) (by omega) (by omega)).2.1
        simp only
        rw [strS_size, List.length_append]; omega
  · have : (⟨#[]⟩ : ByteArray).size = 0 := rfl
    simp only [this]; omega
def rp (x : S52) : ByteArray × Bool := recPack x.f0 x.f1 x.f2 x.f3 x.f4.f0 x.f4.f1.f0 x.f4.f1.f1 x.f4.f1.f2 x.f4.f1.f3 x.f4.f1.f4
def packL : List S52 → Option (List ByteArray)
  | [] => some []
  | x :: t => if (rp x).2 = true then (packL t).map ((rp x).1 :: ·) else none
theorem packL_size : ∀ (l : List S52) (q : List ByteArray), packL l = some q → q.length = l.length ∧ ∀ y ∈ q, y.size ≤ 1000
  | [], q, h => by simp only [packL, Option.some.injEq] at h; subst h; simp
  | x :: t, q, h => by
    simp only [packL] at h
    split at h
    · obtain ⟨p, hp, rfl⟩ := Option.map_eq_some_iff.1 h
      obtain ⟨h1, h2⟩ := packL_size t p hp
      refine ⟨by simp [h1], fun y hy => ?_⟩
      rcases List.mem_cons.1 hy with rfl | hy
      · exact recPack_size ..
      · exact h2 y hy
    · cases h
def packR (acc : List ByteArray) : Option (List ByteArray) → List ByteArray × Bool
  | some q => (acc ++ q, true)
  | none => ([], false)
theorem packR_cons (acc : List ByteArray) (x : S52) (t : List S52) (h : (rp x).2 = true) : packR acc (packL (x :: t)) = packR (acc ++ [(rp x).1]) (packL t) := by
  simp only [packL, h, ↓reduceIte]
  cases packL t <;> simp [packR]
theorem rdRc_mid (P : List S52) (x : S52) (t : List S52) : rd_T52 (P ++ x :: t) (P.length : Int) = x := by
  unfold rd_T52; simp
theorem implPacked_l (F : List S52) (hF : F.length ≤ 1048576) (rest : List S52) : ∀ (P : List S52) (acc : List ByteArray), F = P ++ rest → acc.length ≤ P.length → Ev (fun k => impl_packedRecs.l0 k acc F (F.length : Int) (P.length : Int)) (packR acc (packL rest)) := by
  induction rest with
  | nil =>
    intro P acc hP ha
    refine Ev.step (f := fun _ => some (acc, true)) (fun k => ?_) (by simp only [packL, packR, List.append_nil]; exact Ev.now _)
    simp only [impl_packedRecs.l0]
    rw [if_neg (by rw [hP]; simp)]
  | cons x t ih =>
    intro P acc hP ha
    have hlen : F.length = P.length + t.length + 1 := by rw [hP]; simp; omega
    have hrd : rd_T52 F (P.length : Int) = x := by rw [hP]; exact rdRc_mid P x t
    have hR : Ev (fun k => impl_RecPack.f k x.f0 x.f1 x.f2 x.f3 x.f4.f0 x.f4.f1.f0 x.f4.f1.f1 x.f4.f1.f2 x.f4.f1.f3 x.f4.f1.f4) (rp x) := implRecPack_ev ..
    refine Ev.step (fun k => by simp only [impl_packedRecs.l0]; rw [if_pos (by omega), if_pos (by omega), if_pos (by omega), hrd, w64 (by omega) (by omega)]) ?_
    refine Ev.bind hR ?_
    by_cases c : (rp x).2 = true
    · have h := ih (P ++ [x]) (acc ++ [(rp x).1]) (by rw [hP]; simp) (by simp; omega)
      rw [packR_cons acc x t c]
      simp only [c, ↓reduceIte, show acc.length < 8796093022208 by omega]
      simpa using h
    · simp only [c, ↓reduceIte, packL, packR]
      exact Ev.now _
theorem specTexts_l (F : List S52) (hF : F.length ≤ 1048576) (rest : List S52) : ∀ (P : List S52) (acc : List ByteArray), F = P ++ rest → acc.length ≤ P.length → Ev (fun k => spec_l6Texts.l0 k F acc (P.length : Int)) (packR acc (packL rest)) := by
  induction rest with
  | nil =>
    intro P acc hP ha
    refine Ev.step (f := fun _ => some (acc, true)) (fun k => ?_) (by simp only [packL, packR, List.append_nil]; exact Ev.now _)
    simp only [spec_l6Texts.l0]
    rw [if_neg (by rw [hP]; simp)]
  | cons x t ih =>
    intro P acc hP ha
    have hlen : F.length = P.length + t.length + 1 := by rw [hP]; simp; omega
    have hrd : rd_T52 F (P.length : Int) = x := by rw [hP]; exact rdRc_mid P x t
    have hR : Ev (fun k => spec_RecPack.f k x.f0 x.f1 x.f2 x.f3 x.f4.f0 x.f4.f1.f0 x.f4.f1.f1 x.f4.f1.f2 x.f4.f1.f3 x.f4.f1.f4) (rp x) := specRecPack_ev ..
    refine Ev.step (fun k => by simp only [spec_l6Texts.l0]; rw [if_pos (by omega), if_pos (by omega), hrd, w64 (by omega) (by omega)]) ?_
    refine Ev.bind hR ?_
    by_cases c : (rp x).2 = true
    · have h := ih (P ++ [x]) (acc ++ [(rp x).1]) (by rw [hP]; simp) (by simp; omega)
      rw [packR_cons acc x t c]
      simp only [c, ↓reduceIte, show acc.length < 8796093022208 by omega]
      simpa using h
    · simp only [c, ↓reduceIte, packL, packR]
      exact Ev.now _
def hardSave (room : Int) (l : List S66) (nm : Int) (r : List S52) : Int × List S66 × Int :=
  match packL r with
  | some q => journalAdd room l nm q
  | none => (0, [], 1)
theorem implHardSave_ev (room : Int) (l : List S66) (nm : Int) (r : List S52) (h1 : dsize l ≤ 140737488355328) (hl : l.length ≤ 1759218604439) (hr : r.length ≤ 1048576) : Ev (fun k => impl_HardSave.f k room l nm r) (hardSave room l nm r) := by
  unfold impl_HardSave.f impl_packedRecs.f hardSave
  refine Ev.bind (implPacked_l r hr r [] [] rfl (by simp)) ?_
  cases h : packL r with
  | none => simp only [packR, Bool.false_eq_true, ↓reduceIte]; exact Ev.now _
  | some q =>
    obtain ⟨q1, q2⟩ := packL_size r q h
    simp only [packR, ↓reduceIte, List.nil_append]
    refine Ev.bind (implJournalAdd_ev room l nm q h1 hl (by omega) (fun x hx => by have := q2 x hx; omega)) ?_
    exact Ev.now _
theorem specHardSave_ev (room : Int) (l : List S66) (nm : Int) (r : List S52) (h1 : dsize l ≤ 140737488355328) (hl : l.length ≤ 1759218604439) (hr : r.length ≤ 1048576) : Ev (fun k => spec_HardSave.f k room l nm r) (hardSave room l nm r) := by
  unfold spec_HardSave.f spec_l6Texts.f hardSave
  simp only [Option.bind_some]
  by_cases c : (r.length : Int) > 100
  · simp only [c, ↓reduceIte]
    refine Ev.congr (f := fun _ => some (0, [], 1)) (fun k => by simp only [Option.bind_some, Bool.false_eq_true, ↓reduceIte]) ?_
    cases h : packL r with
    | none => exact Ev.now _
    | some q =>
      obtain ⟨q1, q2⟩ := packL_size r q h
      have hj : journalAdd room l nm q = (0, [], 1) := by
        have e : journalLate room l nm q = (0, [], 1) := by
          unfold journalLate
          have : ¬ q.length ≤ 100 := by omega
          simp only [this, decide_false, Bool.false_and, Bool.false_eq_true, ↓reduceIte]
        unfold journalAdd
        rw [e, if_neg (by decide)]
      simp only [hj]; exact Ev.now _
  · simp only [c, ↓reduceIte]
    refine Ev.bind (specTexts_l r hr r [] [] rfl (by simp)) ?_
    cases h : packL r with
    | none => simp only [packR, Bool.false_eq_true, ↓reduceIte]; exact Ev.now _
    | some q =>
      obtain ⟨q1, q2⟩ := packL_size r q h
      simp only [packR, ↓reduceIte, List.nil_append]
      refine Ev.bind (specJournalAdd_ev room l nm q h1 hl (fun x hx => by have := q2 x hx; omega)) ?_
      exact Ev.now _


def p7 (k : Nat) : Int := 128 ^ k
def gn : Nat → List Int → Int → Nat → Int → Int × Int × Bool
  | 0, _, _, _, _ => (0, 0, false)
  | d + 1, l, at_, k, x => if at_ + k < l.length then (if rd l (at_ + k) < 128 then (if rd l (at_ + k) = 0 ∧ 0 < k then (0, 0, false) else (x + rd l (at_ + k) % 128 * p7 k, at_ + k + 1, true)) else gn d l at_ (k + 1) (x + rd l (at_ + k) % 128 * p7 k)) else (0, 0, false)
def getNum (l : List Int) (at_ : Int) : Int × Int × Bool := if at_ < 0 then (0, 0, false) else gn 9 l at_ 0 0
theorem p7_0 : p7 0 = 1 := rfl
theorem p7_succ (k : Nat) : p7 (k + 1) = p7 k * 128 := Int.pow_succ 128 k
theorem p7_b (k : Nat) (hk : k ≤ 8) : 1 ≤ p7 k ∧ p7 k ≤ 72057594037927936 := by
  have : k = 0 ∨ k = 1 ∨ k = 2 ∨ k = 3 ∨ k = 4 ∨ k = 5 ∨ k = 6 ∨ k = 7 ∨ k = 8 := by omega
  rcases this with rfl | rfl | rfl | rfl | rfl | rfl | rfl | rfl | rfl <;> decide
theorem p128 (k : Nat) (hk : k ≤ 8) (x c : Int) (hx0 : 0 ≤ x) (hx : x < p7 k) (hc0 : 0 ≤ c) (hc : c < 128) : 0 ≤ c * p7 k ∧ c * p7 k ≤ 9223372036854775807 ∧ 0 ≤ x + c * p7 k ∧ x + c * p7 k ≤ 9223372036854775807 ∧ x + c * p7 k < p7 (k + 1) := by
  have h := p7_b k hk
  rw [p7_succ]
  generalize p7 k = u at *
  have h1 : 0 ≤ c * u := Int.mul_nonneg hc0 (by omega)
  have h2 : c * u ≤ 127 * u := Int.mul_le_mul_of_nonneg_right (by omega) (by omega)
  refine ⟨h1, by omega, by omega, by omega, by omega⟩

theorem gn_b : ∀ (d : Nat) (k : Nat) (l : List Int) (a x : Int), By l → 0 ≤ a → d + k ≤ 9 → 0 ≤ x → x < p7 k → 0 ≤ (gn d l a k x).1 ∧ (gn d l a k x).1 ≤ 9223372036854775807 ∧ 0 ≤ (gn d l a k x).2.1 ∧ (gn d l a k x).2.1 ≤ l.length
  | 0, k, l, a, x, hb, ha, hk, h0, h1 => by simp [gn]
  | d + 1, k, l, a, x, hb, ha, hk, h0, h1 => by
    have hz : (0 : Int) ≤ 0 ∧ (0 : Int) ≤ 9223372036854775807 ∧ (0 : Int) ≤ 0 ∧ (0 : Int) ≤ l.length := ⟨by omega, by omega, by omega, by omega⟩
    have hr := hb.at_ (a + k)
    have hp := p128 k (by omega) x (rd l (a + k) % 128) h0 h1 (by omega) (by omega)
    simp only [gn]
    split
    · split
      · split
        · exact hz
        · exact ⟨hp.2.2.1, hp.2.2.2.1, by simp only; omega, by simp only; omega⟩
      · exact gn_b d (k + 1) l a _ hb ha (by omega) hp.2.2.1 hp.2.2.2.2
    · exact hz
theorem getNum_b (l : List Int) (a : Int) (hb : By l) : 0 ≤ (getNum l a).1 ∧ (getNum l a).1 ≤ 9223372036854775807 ∧ 0 ≤ (getNum l a).2.1 ∧ (getNum l a).2.1 ≤ l.length := by
  unfold getNum
  split
  · exact ⟨by simp, by simp, by simp, by simp⟩
  · exact gn_b 9 0 l a 0 hb (by omega) (by omega) (by omega) (by decide)

def seg (l : List Int) (a b : Int) : List Int := (l.take b.toNat).drop a.toNat
theorem seg_len (l : List Int) (a b : Int) (h0 : 0 ≤ a) (h1 : a ≤ b) (h2 : b ≤ l.length) : ((seg l a b).length : Int) = b - a := by
  unfold seg; rw [List.length_drop, List.length_take]; omega
theorem seg_by (l : List Int) (a b : Int) (hb : By l) : By (seg l a b) := fun x hx => hb x (List.mem_of_mem_take (List.mem_of_mem_drop hx))
def unsealOf (l : List Int) (a : Int) : List Int × Int × Int :=
  if (getNum l a).2.2 = true ∧ (getNum l a).1 ≤ 3000 then
    (if (l.length : Int) - (getNum l a).2.1 < (getNum l a).1 + 4 then ([], 0, 2)
     else if seg l ((getNum l a).2.1 + (getNum l a).1) ((getNum l a).2.1 + (getNum l a).1 + 4) = sum4 (seg l (getNum l a).2.1 ((getNum l a).2.1 + (getNum l a).1)) then (seg l (getNum l a).2.1 ((getNum l a).2.1 + (getNum l a).1), (getNum l a).2.1 + (getNum l a).1 + 4, 0)
     else ([], 0, 3))
  else ([], 0, 1)
theorem unseal_len (l : List Int) (a : Int) : (unsealOf l a).1.length ≤ l.length := by
  unfold unsealOf
  split
  · split
    · simp
    · split
      · simp only [seg, List.length_drop, List.length_take]; omega
      · simp
  · simp
theorem sum4_by (l : List Int) : By (sum4 l) := by
  intro x hx
  simp only [sum4, List.mem_cons, List.not_mem_nil, or_false] at hx
  omega

theorem shl7 (k0 : Nat) (hk : k0 ≤ 8) (x c : Int) (hx0 : 0 ≤ x) (hx : x < p7 k0) (hc0 : 0 ≤ c) (hc : c < 128) : Go.bits .or .i64 x (shl .i64 c (wrap64 (7 * (k0 : Int)))) = x + c * p7 k0 := by
  have e0 : wrap64 (7 * (k0 : Int)) = ((7 * k0 : Nat) : Int) := by rw [w64 (by omega) (by omega)]; omega
  have e1 : (2 : Int) ^ (7 * k0) = p7 k0 := by rw [Int.pow_mul]; unfold p7; rfl
  have h7 : min (7 * k0) 64 = 7 * k0 := by omega
  have h63 : 7 * k0 ≤ 63 := by omega
  obtain ⟨h1, h2, h3, h4, h5⟩ := p128 k0 hk x c hx0 hx hc0 hc
  have e2 : shl .i64 c (wrap64 (7 * (k0 : Int))) = c * p7 k0 := by
    rw [e0]
    unfold shl
    rw [show IntKind.i64.bits = 64 from rfl, Int.toNat_natCast, h7, e1]
    exact wraps_i64 _ h1 (Int.lt_of_le_of_lt h2 (by decide))
  have e3 : Go.bits .or .i64 x (c * p7 k0) = Go.bits .or .i64 (c * p7 k0) x := by unfold Go.bits; simp only [BitVec.or_comm]
  have e4 : c * p7 k0 % 2 ^ (7 * k0) = 0 := by rw [e1]; exact Int.mul_emod_left _ _
  rw [e2, e3, or_join (7 * k0) h1 e4 h2 hx0 (by rw [e1]; exact hx) (Int.le_trans (Int.le_of_lt hx) (Int.le_trans (p7_b k0 hk).2 (by decide))), Int.add_comm]
theorem giStep {k0 : Nat} {c x : Int} (k8 : k0 ≤ 8) (hc : 0 ≤ c ∧ c ≤ 255) (hx0 : 0 ≤ x) (hx : x < p7 k0) : wrap64 c = c ∧ Go.bits .or .i64 x (shl .i64 (Go.bits .and .i64 c 127) (wrap64 (7 * (k0 : Int)))) = x + c % 128 * p7 k0 ∧ 0 ≤ x + c % 128 * p7 k0 ∧ x + c % 128 * p7 k0 < p7 (k0 + 1) := by
  have hp := p128 k0 k8 x (c % 128) hx0 hx (by omega) (by omega)
  refine ⟨w64 (by omega) (by omega), ?_, hp.2.2.1, hp.2.2.2.2⟩
  rw [show Go.bits .and .i64 c 127 = c % 128 from and_mask 7 (by decide) hc.1 (by omega)]
  exact shl7 k0 k8 x _ hx0 hx (by omega) (by omega)
theorem implGetNum_l (d : Nat) : ∀ (l : List Int) (at_ : Int) (k0 : Nat) (x : Int), By l → l.length ≤ 140737488355328 → 0 ≤ at_ → at_ ≤ 9223372036854775807 → k0 + d = 9 → 0 ≤ x → x < p7 k0 → Ev (fun k => impl_GetNum.l0 k l at_ x (k0 : Int)) (gn d l at_ k0 x) := by
  induction d with
  | zero =>
    intro l at_ k0 x hb hl h0 h1 hk hx0 hx
    refine Ev.step (f := fun k => impl_GetNum.j1 k l at_ x (k0 : Int) false) (fun k => ?_) ?_
    · simp only [impl_GetNum.l0]; rw [if_neg (by omega)]
    · refine Ev.step (f := fun _ => some (0, 0, false)) (fun k => ?_) (Ev.now _)
      simp only [impl_GetNum.j1]; rfl
  | succ d ih =>
    intro l at_ k0 x hb hl h0 h1 hk hx0 hx
    have k8 : k0 ≤ 8 := by omega
    have z0 : 0 ≤ at_ + (k0 : Int) := by omega
    have k9 : (k0 : Int) < 9 := by omega
    have e0 : wrap64 ((l.length : Int) - at_) = l.length - at_ := w64 (by omega) (by omega)
    have e6 : wrap64 ((k0 : Int) + 1) = ((k0 + 1 : Nat) : Int) := w64 (by omega) (by omega)
    have e7 : 0 ≤ wrap64 (7 * (k0 : Int)) := by rw [w64 (by omega) (by omega)]; omega
    have hk' : k0 + 1 + d = 9 := by omega
    have e14 : at_ + k0 < l.length → wrap64 (at_ + (k0 : Int)) = at_ + k0 ∧ wrap64 (at_ + (k0 : Int) + 1) = at_ + k0 + 1 ∧ (k0 : Int) < l.length - at_ := fun h => ⟨w64 (by omega) (by omega), w64 (by omega) (by omega), by omega⟩
    have e15 : ¬ at_ + k0 < l.length → ¬ (k0 : Int) < l.length - at_ := fun h => by omega
    obtain ⟨e2, e3, x0, x1⟩ := giStep k8 (hb.at_ (at_ + k0)) hx0 hx
    by_cases h : at_ + k0 < l.length
    · obtain ⟨e1, e4, h'⟩ := e14 h
      clear e14 e15
      refine Ev.step (f := fun k => impl_GetNum.j1 k l at_ x (k0 : Int) true) (fun k => ?_) ?_
      · simp only [impl_GetNum.l0, k9, e0, h', decide_true, ↓reduceIte]
      simp only [gn, h, ↓reduceIte]
      by_cases c1 : rd l (at_ + k0) < 128
      · have c1' : ¬ rd l (at_ + k0) > 127 := fun hh => absurd (Int.add_one_le_of_lt hh) (Int.not_le.2 c1)
        by_cases c2 : rd l (at_ + k0) = 0
        · by_cases c3 : 0 < k0
          · refine Ev.step (f := fun _ => some (0, 0, false)) (fun k => ?_) ?_
            · have c3' : (k0 : Int) > 0 := by omega
              simp only [impl_GetNum.j1, e1, z0, h, e7, ↓reduceIte]
              rw [e2, if_neg c1', if_pos c3', if_pos c2]
            · rw [if_pos c1, if_pos ⟨c2, c3⟩]; exact Ev.now _
          · refine Ev.step (f := fun _ => some (x + rd l (at_ + k0) % 128 * p7 k0, at_ + k0 + 1, true)) (fun k => ?_) ?_
            · have c3' : ¬ (k0 : Int) > 0 := by omega
              simp only [impl_GetNum.j1, e1, z0, h, e7, ↓reduceIte]
              rw [e2, if_neg c1', if_neg c3', e3, e4]
            · rw [if_pos c1, if_neg (fun hh => c3 hh.2)]; exact Ev.now _
        · refine Ev.step (f := fun _ => some (x + rd l (at_ + k0) % 128 * p7 k0, at_ + k0 + 1, true)) (fun k => ?_) ?_
          · simp only [impl_GetNum.j1, e1, z0, h, e7, ↓reduceIte]
            rw [e2, if_neg c1']
            by_cases c3 : (k0 : Int) > 0
            · rw [if_pos c3, if_neg c2, e3, e4]
            · rw [if_neg c3, e3, e4]
          · rw [if_pos c1, if_neg (fun hh => c2 hh.1)]; exact Ev.now _
      · have c1' : rd l (at_ + k0) > 127 := Int.lt_of_lt_of_le (by decide) (Int.not_lt.1 c1)
        refine Ev.step (f := fun k => impl_GetNum.l0 k l at_ (x + rd l (at_ + k0) % 128 * p7 k0) ((k0 + 1 : Nat) : Int)) (fun k => ?_) ?_
        · simp only [impl_GetNum.j1, e1, z0, h, e7, ↓reduceIte]
          rw [e2, if_pos c1', e3, e6]
        · rw [if_neg c1]; exact ih l at_ (k0 + 1) _ hb hl h0 h1 hk' x0 x1
    · have h' := e15 h
      clear e14 e15
      refine Ev.step (f := fun k => impl_GetNum.j1 k l at_ x (k0 : Int) false) (fun k => ?_) ?_
      · simp only [impl_GetNum.l0, k9, e0, h', decide_false, ↓reduceIte]
      · simp only [gn, h, ↓reduceIte]
        refine Ev.step (f := fun _ => some (0, 0, false)) (fun k => ?_) (Ev.now _)
        simp only [impl_GetNum.j1]; rfl
theorem implGetNum_ev (l : List Int) (at_ : Int) (hb : By l) (hl : l.length ≤ 140737488355328) (ha : at_ ≤ 9223372036854775807) : Ev (fun k => impl_GetNum.f k l at_) (getNum l at_) := by
  unfold impl_GetNum.f getNum
  by_cases h : at_ < 0
  · simp only [h, ↓reduceIte]; exact Ev.now _
  · simp only [h, ↓reduceIte]
    exact implGetNum_l 9 l at_ 0 0 hb hl (by omega) ha (by omega) (by omega) (by decide)

theorem implUnseal_ev (l : List Int) (a : Int) (hb : By l) (hl : l.length ≤ 1048576) (h0 : -9223372036854775808 ≤ a) (h1 : a ≤ 9223372036854775807) : Ev (fun k => impl_Unseal.f k l a) (unsealOf l a) := by
  have hg := getNum_b l a hb
  unfold impl_Unseal.f
  refine Ev.bind (implGetNum_ev l a hb (by omega) h1) ?_
  generalize hG : getNum l a = G at *
  obtain ⟨n, p, ok⟩ := G
  simp only at hg ⊢
  cases ok
  · simp only [Bool.false_eq_true, ↓reduceIte]
    refine Ev.step (f := fun _ => some ([], 0, 1)) (fun k => by simp only [impl_Unseal.j0, ↓reduceIte]) ?_
    unfold unsealOf; rw [hG]; simp only [Bool.false_eq_true, false_and, ↓reduceIte]; exact Ev.now _
  · simp only [↓reduceIte]
    by_cases c1 : n > 3000
    · refine Ev.step (f := fun _ => some ([], 0, 1)) (fun k => by simp only [impl_Unseal.j0, c1, decide_true, ↓reduceIte]) ?_
      unfold unsealOf; rw [hG]; simp only [show ¬ n ≤ 3000 by omega, and_false, ↓reduceIte]; exact Ev.now _
    · by_cases c2 : (l.length : Int) - p < n + 4
      · refine Ev.step (f := fun _ => some ([], 0, 2)) (fun k => ?_) ?_
        · simp only [impl_Unseal.j0, c1, decide_false, Bool.false_eq_true, ↓reduceIte]
          rw [w64 (x := (l.length : Int) - p) (by omega) (by omega), w64 (x := n + 4) (by omega) (by omega), if_pos (by omega)]
        · unfold unsealOf; rw [hG]; simp only [show n ≤ 3000 by omega, c2, and_self, ↓reduceIte]; exact Ev.now _
      · have hw1 : wrap64 (p + n) = p + n := w64 (by omega) (by omega)
        have hw2 : wrap64 (p + n + 4) = p + n + 4 := w64 (by omega) (by omega)
        have L1 := seg_len l p (p + n) (by omega) (by omega) (by omega)
        refine Ev.step (f := fun k => (impl_sumBytes.f k (seg l p (p + n))).bind fun t => if (strOfNums (seg l (p + n) (p + n + 4))).toList = (strOfNums t).toList then impl_Unseal.j1 k (seg l p (p + n)) (p + n + 4) else some ([], 0, 3)) (fun k => ?_) ?_
        · simp only [impl_Unseal.j0, c1, decide_false, Bool.false_eq_true, ↓reduceIte, Option.bind_some, List.nil_append, List.length_nil]
          rw [w64 (x := (l.length : Int) - p) (by omega) (by omega), w64 (x := n + 4) (by omega) (by omega), if_neg (by omega), hw1, hw2]
          change (if 0 ≤ p then (if p ≤ p + n then (if p + n ≤ (l.length : Int) then (if 0 + (seg l p (p + n)).length < 140737488355328 then _ else none) else none) else none) else none) = _
          rw [if_pos (by omega), if_pos (by omega), if_pos (by omega), if_pos (by omega), if_pos (by omega), if_pos (by omega), if_pos (by omega)]
          rfl
        · refine Ev.bind (sumBytes_ev _ (seg_by l _ _ hb) (by omega)) ?_
          have hi := strOf_iff (seg_by l (p + n) (p + n + 4) hb) (sum4_by (seg l p (p + n)))
          have e : unsealOf l a = if seg l (p + n) (p + n + 4) = sum4 (seg l p (p + n)) then (seg l p (p + n), p + n + 4, 0) else ([], 0, 3) := by
            unfold unsealOf; rw [hG]; simp only [show n ≤ 3000 by omega, c2, and_self, ↓reduceIte]
          rw [e]
          by_cases c3 : seg l (p + n) (p + n + 4) = sum4 (seg l p (p + n))
          · simp only [hi.2 c3, ↓reduceIte]; rw [if_pos c3]; exact Ev.step (f := fun _ => some _) (fun _ => rfl) (Ev.now _)
          · have c4 := eq_false (fun h => c3 (hi.1 h)); simp only [c4, ↓reduceIte]; rw [if_neg c3]; exact Ev.now _

theorem unseal_b (l : List Int) (a : Int) (hb : By l) : 0 ≤ (unsealOf l a).2.1 ∧ (unsealOf l a).2.1 ≤ l.length := by
  have hg := getNum_b l a hb
  unfold unsealOf
  split
  · split
    · exact ⟨by simp, by simp⟩
    · split
      · exact ⟨by simp only; omega, by simp only; omega⟩
      · exact ⟨by simp, by simp⟩
  · exact ⟨by simp, by simp⟩
theorem unseal_end (l : List Int) (a : Int) (h : (l.length : Int) ≤ a) : (unsealOf l a).2.2 = 1 := by
  have : getNum l a = (0, 0, false) := by
    unfold getNum
    rw [if_neg (by omega)]
    simp only [gn]
    rw [if_neg (by omega)]
  unfold unsealOf
  rw [this]; simp
def jr : Nat → List Int → List ByteArray → Int → List ByteArray × Int
  | 0, _, acc, a => (acc, a)
  | d + 1, b, acc, a => if (unsealOf b a).2.2 = 0 then jr d b (acc ++ [strOfNums (unsealOf b a).1]) (unsealOf b a).2.1 else (acc, a)
theorem jr_len : ∀ (d : Nat) (b : List Int) (acc : List ByteArray) (a : Int), acc.length + d ≤ 2000 → (jr d b acc a).1.length ≤ 2000
  | 0, b, acc, a, h => by simpa [jr] using h
  | d + 1, b, acc, a, h => by
    simp only [jr]
    split
    · exact jr_len d b _ _ (by simp; omega)
    · simp only; omega
set_option maxRecDepth 100000 in
theorem implJr_l (b : List Int) (hb : By b) (hl : b.length ≤ 1048576) (d : Nat) : ∀ (acc : List ByteArray) (a : Int), acc.length + d = 2000 → 0 ≤ a → a ≤ b.length → Ev (fun k => impl_JournalRead.l0 k acc b a) (jr d b acc a) := by
  induction d with
  | zero =>
    intro acc a hd h0 h1
    refine Ev.step (f := fun _ => some (acc, a)) (fun k => ?_) (Ev.now _)
    simp only [impl_JournalRead.l0_s]
    rw [if_neg (by omega)]
  | succ d ih =>
    intro acc a hd h0 h1
    refine Ev.step (fun k => by simp only [impl_JournalRead.l0_s]; rw [if_pos (by omega)]) ?_
    refine Ev.bind (implUnseal_ev b a hb hl (by omega) (by omega)) ?_
    have hu := unseal_b b a hb
    simp only [jr]
    by_cases c2 : (unsealOf b a).2.2 = 0
    · have k1 : acc.length < 8796093022208 := by omega
      simp only [c2, ↓reduceIte, k1]
      exact ih _ _ (by simp; omega) hu.1 hu.2
    · simp only [c2, ↓reduceIte]; exact Ev.now _
theorem diskRead_size (room : Int) (l : List S66) (nm : Int) : ((diskRead room l nm).1.size : Int) ≤ dsize l := by
  have hn := dsize_nn l
  have hz : ((⟨#[]⟩ : ByteArray).size : Int) ≤ dsize l := by
    have : (⟨#[]⟩ : ByteArray).size = 0 := rfl
    omega
  unfold diskRead
  split
  · split
    · exact hz
    · have hb := idx_b nm l 0 (by omega)
      have hm := dsize_mem (rdF_mem l (idxName l nm 0) (by omega) (by omega))
      simp only [ByteArray.size_append]; omega
  · exact hz
def journalRead (room : Int) (l : List S66) (nm : Int) : List ByteArray × Int := if (diskRead room l nm).2 = true then jr 2000 (bytesOf (diskRead room l nm).1) [] 0 else ([], 0)
theorem journalRead_len (room : Int) (l : List S66) (nm : Int) : (journalRead room l nm).1.length ≤ 2000 := by
  unfold journalRead
  split
  · exact jr_len 2000 _ _ _ (by simp)
  · simp
theorem implJournalRead_ev (room : Int) (l : List S66) (nm : Int) (h1 : dsize l ≤ 1048576) (hl : l.length ≤ 1048576) : Ev (fun k => impl_JournalRead.f k room l nm) (journalRead room l nm) := by
  unfold impl_JournalRead.f journalRead
  simp only [Option.bind_some]
  refine Ev.bind (implDiskRead_ev room l nm (by omega) (by omega)) ?_
  have hs := diskRead_size room l nm
  cases h : (diskRead room l nm).2
  · simp only [Bool.false_eq_true, ↓reduceIte]; exact Ev.now _
  · have k1 : (diskRead room l nm).1.size ≤ 9223372036854775807 := by omega
    simp only [↓reduceIte, k1]
    exact implJr_l _ (bytesOf_by _) (by rw [bytesOf_length]; omega) 2000 [] 0 rfl (by omega) (by omega)

def zC : Int × Int × Int × Int × ByteArray × Int × Bool := (0, 0, 0, 0, (⟨#[]⟩ : ByteArray), 0, false)
def cmFin (x1 x2 x3 x4 : Int) (d : ByteArray) (p : Int) : Int × Int × Int × Int × ByteArray × Int × Bool := if cmdOk x1 x2 x3 x4 d = true then (x1, x2, x3, x4, d, p, true) else zC
def seg32 (l : List Int) (p : Int) : ByteArray := strOfNums ((l.take (p + 32).toNat).drop p.toNat)
def cm3 (x2 : Int) (g : Int × Int × Bool) : Int × Int × Int × Int × ByteArray × Int × Bool := if g.2.2 = true then cmFin 3 x2 g.1 0 (⟨#[]⟩ : ByteArray) g.2.1 else zC
def cm2 (l : List Int) (x2 : Int) (g : Int × Int × Bool) : Int × Int × Int × Int × ByteArray × Int × Bool :=
  if g.2.2 = true then (if 32 ≤ (l.length : Int) - g.2.1 then cmFin 2 x2 0 g.1 (seg32 l g.2.1) (g.2.1 + 32) else zC) else zC
def cmB (l : List Int) (x1 : Int) (g : Int × Int × Bool) : Int × Int × Int × Int × ByteArray × Int × Bool :=
  if g.2.2 = true then (if x1 = 3 then cm3 g.1 (getNum l g.2.1) else if x1 = 2 then cm2 l g.1 (getNum l g.2.1) else cmFin x1 g.1 0 0 (⟨#[]⟩ : ByteArray) g.2.1) else zC
def cmA (l : List Int) (g : Int × Int × Bool) : Int × Int × Int × Int × ByteArray × Int × Bool :=
  if g.2.2 = true ∧ 1 ≤ g.1 ∧ g.1 ≤ 5 then (if g.1 = 1 then (1, 0, 0, 0, (⟨#[]⟩ : ByteArray), g.2.1, true) else cmB l g.1 (getNum l g.2.1)) else zC
def cmdRead (l : List Int) (a : Int) : Int × Int × Int × Int × ByteArray × Int × Bool := cmA l (getNum l a)
theorem cmdOk_out (x1 x2 x3 x4 : Int) (d : ByteArray) (h : ¬ (1 ≤ x1 ∧ x1 ≤ 5)) : cmdOk x1 x2 x3 x4 d = false := by
  unfold cmdOk
  rw [if_neg (by omega), if_neg (by omega), if_neg (by omega), if_neg (by omega)]
theorem cmdOk_one : cmdOk 1 0 0 0 (⟨#[]⟩ : ByteArray) = true := by
  have h : (⟨#[]⟩ : ByteArray).toList = [] := by rw [ByteArray.toList_eq]
  unfold cmdOk
  rw [h]
  simp

def zR : Int × Int × Int × Int × Int × Int × Int × Int × Int × ByteArray × Bool := (0, 0, 0, 0, 0, 0, 0, 0, 0, (⟨#[]⟩ : ByteArray), false)
def recFin (l : List Int) (x0 x1 x2 x3 x4 x5 x6 x7 x8 : Int) (x9 : ByteArray) (p : Int) : Int × Int × Int × Int × Int × Int × Int × Int × Int × ByteArray × Bool :=
  if p = (l.length : Int) then (if recOk x0 x1 x2 x3 x4 x5 x6 x7 x8 x9 = true then (x0, x1, x2, x3, x4, x5, x6, x7, x8, x9, true) else zR) else zR
def rr1b (l : List Int) (x : Int) (g : Int × Int × Bool) := if g.2.2 = true then recFin l 1 x g.1 0 0 0 0 0 0 (⟨#[]⟩ : ByteArray) g.2.1 else zR
def rr1 (l : List Int) (g : Int × Int × Bool) := if g.2.2 = true then rr1b l g.1 (getNum l g.2.1) else zR
def rr2c (l : List Int) (x y : Int) (d : Int × Int × Int × Int × ByteArray × Int × Bool) := if d.2.2.2.2.2.2 = true then recFin l 2 0 0 x y d.1 d.2.1 d.2.2.1 d.2.2.2.1 d.2.2.2.2.1 d.2.2.2.2.2.1 else zR
def rr2b (l : List Int) (x : Int) (g : Int × Int × Bool) := if g.2.2 = true then rr2c l x g.1 (cmdRead l g.2.1) else zR
def rr2 (l : List Int) (g : Int × Int × Bool) := if g.2.2 = true then rr2b l g.1 (getNum l g.2.1) else zR
def rr3 (l : List Int) (g : Int × Int × Bool) := if g.2.2 = true then recFin l 3 0 0 g.1 0 0 0 0 0 (⟨#[]⟩ : ByteArray) g.2.1 else zR
def rrA (l : List Int) (g : Int × Int × Bool) := if g.1 = 1 then rr1 l (getNum l g.2.1) else if g.1 = 2 then rr2 l (getNum l g.2.1) else if g.1 = 3 then rr3 l (getNum l g.2.1) else zR
def recRead (l : List Int) := rrA l (getNum l 0)
theorem recOk_out (x0 x1 x2 x3 x4 x5 x6 x7 x8 : Int) (x9 : ByteArray) (h1 : ¬ x0 = 1) (h2 : ¬ x0 = 2) (h3 : ¬ x0 = 3) : recOk x0 x1 x2 x3 x4 x5 x6 x7 x8 x9 = false := by
  unfold recOk; rw [if_neg h1, if_neg h2, if_neg h3]
theorem gn_near : ∀ (d k : Nat) (l : List Int) (a x : Int), 0 ≤ a → ((gn d l a k x).2.2 = true → (gn d l a k x).2.1 ≤ a + k + d) ∧ ((gn d l a k x).2.2 = false → gn d l a k x = (0, 0, false))
  | 0, k, l, a, x, ha => by simp [gn]
  | d + 1, k, l, a, x, ha => by
    simp only [gn]
    split
    · split
      · split
        · simp
        · simp only; exact ⟨fun _ => by omega, fun h => by simp at h⟩
      · have := gn_near d (k + 1) l a (x + rd l (a + k) % 128 * p7 k) ha
        exact ⟨fun h => by have := this.1 h; omega, this.2⟩
    · simp
theorem getNum_no (l : List Int) (a : Int) (h : (getNum l a).2.2 = false) : getNum l a = (0, 0, false) := by
  unfold getNum at *
  split
  · rfl
  · rename_i c
    rw [if_neg c] at h
    exact (gn_near 9 0 l a 0 (by omega)).2 h
theorem rdNum_ev (l : List Int) (a : Int) (bad : Bool) (hb : By l) (hl : l.length ≤ 140737488355328) (ha : a ≤ 9223372036854775807) :
    Ev (fun k => rdNum k l a bad) (if bad = true then (0, a, true) else if (getNum l a).2.2 = true then ((getNum l a).1, (getNum l a).2.1, false) else (0, a, true)) := by
  unfold rdNum
  refine Ev.bind (implGetNum_ev l a hb hl ha) ?_
  exact Ev.now _
theorem rdBytes_bad (l : List Int) (a n : Int) : rdBytes l a true n = some (ByteArray.empty, a, true) := rfl
theorem rdBytes_no (l : List Int) (a n : Int) (h0 : 0 ≤ a) (h1 : a ≤ l.length) (hl : l.length ≤ 140737488355328) (h : n > (l.length : Int) - a) : rdBytes l a false n = some (ByteArray.empty, a, true) := by
  unfold rdBytes
  rw [if_neg (by simp), if_pos (by rw [w64 (by omega) (by omega)]; exact h)]
theorem rdBytes_ok (l : List Int) (a n : Int) (h0 : 0 ≤ a) (h1 : a ≤ l.length) (hl : l.length ≤ 140737488355328) (hn : 0 ≤ n) (h : ¬ n > (l.length : Int) - a) : rdBytes l a false n = some (strOfNums ((l.take (a + n).toNat).drop a.toNat), a + n, false) := by
  unfold rdBytes
  rw [if_neg (by simp), if_neg (by rw [w64 (by omega) (by omega)]; exact h), if_pos ⟨h0, hn, by omega⟩]

def numV (l : List Int) (a : Int) (bad : Bool) : Int × Int × Bool := if bad = true then (0, a, true) else if (getNum l a).2.2 = true then ((getNum l a).1, (getNum l a).2.1, false) else (0, a, true)
def rcV (x1 x2 x3 x4 : Int) (d : ByteArray) (p : Int) (bad : Bool) : Int × Int × Int × Int × ByteArray × Int × Bool :=
  if bad = true then (0, 0, 0, 0, (⟨#[]⟩ : ByteArray), p, true) else if cmdOk x1 x2 x3 x4 d = true then (x1, x2, x3, x4, d, p, false) else (0, 0, 0, 0, (⟨#[]⟩ : ByteArray), p, true)
def bytesV (l : List Int) (p : Int) (bad : Bool) : ByteArray × Int × Bool := if bad = true then (ByteArray.empty, p, true) else if 32 > (l.length : Int) - p then (ByteArray.empty, p, true) else (seg32 l p, p + 32, false)
def rdCmdV (l : List Int) (a : Int) (bad : Bool) : Int × Int × Int × Int × ByteArray × Int × Bool :=
  if (numV l a bad).1 = 1 then rcV 1 0 0 0 (⟨#[]⟩ : ByteArray) (numV l a bad).2.1 (numV l a bad).2.2
  else if (numV l a bad).1 = 3 then (fun B : Int × Int × Bool => rcV 3 B.1 (numV l B.2.1 B.2.2).1 0 (⟨#[]⟩ : ByteArray) (numV l B.2.1 B.2.2).2.1 (numV l B.2.1 B.2.2).2.2) (numV l (numV l a bad).2.1 (numV l a bad).2.2)
  else if (numV l a bad).1 = 2 then (fun B : Int × Int × Bool => (fun D : Int × Int × Bool => rcV 2 B.1 0 D.1 (bytesV l D.2.1 D.2.2).1 (bytesV l D.2.1 D.2.2).2.1 (bytesV l D.2.1 D.2.2).2.2) (numV l B.2.1 B.2.2)) (numV l (numV l a bad).2.1 (numV l a bad).2.2)
  else rcV (numV l a bad).1 (numV l (numV l a bad).2.1 (numV l a bad).2.2).1 0 0 (⟨#[]⟩ : ByteArray) (numV l (numV l a bad).2.1 (numV l a bad).2.2).2.1 (numV l (numV l a bad).2.1 (numV l a bad).2.2).2.2
theorem numV_b (l : List Int) (a : Int) (bad : Bool) (hb : By l) (ha : a ≤ 9223372036854775807) (hl : l.length ≤ 140737488355328) : (numV l a bad).2.1 ≤ 9223372036854775807 ∧ ((numV l a bad).2.2 = false → 0 ≤ (numV l a bad).2.1 ∧ (numV l a bad).2.1 ≤ l.length) := by
  have h := getNum_b l a hb
  unfold numV
  cases bad
  · cases hk : (getNum l a).2.2
    · simp only [Bool.false_eq_true, ↓reduceIte]; exact ⟨ha, fun h => by simp at h⟩
    · simp only [Bool.false_eq_true, ↓reduceIte]; exact ⟨by omega, fun _ => by omega⟩
  · simp only [↓reduceIte]; exact ⟨ha, fun h => by simp at h⟩
theorem rdNum_ev' (l : List Int) (a : Int) (bad : Bool) (hb : By l) (hl : l.length ≤ 140737488355328) (ha : a ≤ 9223372036854775807) : Ev (fun k => rdNum k l a bad) (numV l a bad) := rdNum_ev l a bad hb hl ha
theorem rcFin_ev (x1 x2 x3 x4 : Int) (d : ByteArray) (p : Int) (bad : Bool) : Ev (fun k => rcFin k x1 x2 x3 x4 d p bad) (rcV x1 x2 x3 x4 d p bad) := by
  unfold rcFin rcV
  cases bad
  · simp only [Bool.false_eq_true, ↓reduceIte]
    refine Ev.bind (implCmdOk_ev x1 x2 x3 x4 d) ?_
    cases cmdOk x1 x2 x3 x4 d
    · simp only [Bool.false_eq_true, ↓reduceIte]; exact Ev.now _
    · simp only [↓reduceIte]; exact Ev.now _
  · simp only [↓reduceIte]; exact Ev.now _
theorem rdBytes_V (l : List Int) (p : Int) (bad : Bool) (hl : l.length ≤ 140737488355328) (h : bad = false → 0 ≤ p ∧ p ≤ l.length) : rdBytes l p bad 32 = some (bytesV l p bad) := by
  unfold bytesV
  cases bad
  · obtain ⟨h0, h1⟩ := h rfl
    by_cases c : 32 > (l.length : Int) - p
    · rw [rdBytes_no l p 32 h0 h1 hl c]; simp only [Bool.false_eq_true, ↓reduceIte, c]
    · rw [rdBytes_ok l p 32 h0 h1 hl (by omega) c]; simp only [Bool.false_eq_true, ↓reduceIte, c]; rfl
  · rw [rdBytes_bad]; simp only [↓reduceIte]
theorem rdCmd_ev (l : List Int) (a : Int) (bad : Bool) (hb : By l) (hl : l.length ≤ 140737488355328) (ha : a ≤ 9223372036854775807) : Ev (fun k => rdCmd k l a bad) (rdCmdV l a bad) := by
  have b1 := numV_b l a bad hb ha hl
  unfold rdCmd rdCmdV
  refine Ev.bind (rdNum_ev' l a bad hb hl ha) ?_
  generalize numV l a bad = A at *
  obtain ⟨x1, p1, o1⟩ := A
  simp only at b1 ⊢
  have b2 := numV_b l p1 o1 hb b1.1 hl
  have n2 := rdNum_ev' l p1 o1 hb hl b1.1
  by_cases e1 : x1 = 1
  · simp only [e1, ↓reduceIte]; exact rcFin_ev _ _ _ _ _ _ _
  simp only [e1, ↓reduceIte]
  refine Ev.bind n2 ?_
  generalize numV l p1 o1 = B at *
  obtain ⟨x2, p2, o2⟩ := B
  simp only at b2 ⊢
  have b3 := numV_b l p2 o2 hb b2.1 hl
  have n3 := rdNum_ev' l p2 o2 hb hl b2.1
  by_cases e3 : x1 = 3
  · simp only [e3, ↓reduceIte]
    refine Ev.bind n3 ?_
    exact rcFin_ev _ _ _ _ _ _ _
  simp only [e3, ↓reduceIte]
  by_cases e2 : x1 = 2
  · simp only [e2, ↓reduceIte]
    refine Ev.bind n3 ?_
    rw [rdBytes_V l _ _ hl b3.2]
    simp only [Option.bind_some]
    exact rcFin_ev _ _ _ _ _ _ _
  · simp only [e2, ↓reduceIte]
    exact rcFin_ev _ _ _ _ _ _ _
theorem rcV_true (x1 x2 x3 x4 : Int) (d : ByteArray) (p : Int) : rcV x1 x2 x3 x4 d p true = (0, 0, 0, 0, (⟨#[]⟩ : ByteArray), p, true) := rfl
theorem numV_true (l : List Int) (a : Int) : numV l a true = (0, a, true) := rfl
theorem bytesV_true (l : List Int) (p : Int) : bytesV l p true = (ByteArray.empty, p, true) := rfl
theorem rdCmdV_bad (l : List Int) (a : Int) : (rdCmdV l a true).2.2.2.2.2.2 = true := by
  unfold rdCmdV
  simp only [numV_true, show ¬ ((0 : Int) = 1) by decide, show ¬ ((0 : Int) = 3) by decide, show ¬ ((0 : Int) = 2) by decide, ↓reduceIte, rcV_true]
/-- What the reader's command comes to, against the reference's. -/
def outC (v : Int × Int × Int × Int × ByteArray × Int × Bool) : Int × Int × Int × Int × ByteArray × Int × Bool := if v.2.2.2.2.2.2 = true then zC else (v.1, v.2.1, v.2.2.1, v.2.2.2.1, v.2.2.2.2.1, v.2.2.2.2.2.1, true)
theorem outC_rcV (x1 x2 x3 x4 : Int) (d : ByteArray) (p : Int) : outC (rcV x1 x2 x3 x4 d p false) = cmFin x1 x2 x3 x4 d p := by
  unfold outC rcV cmFin
  cases cmdOk x1 x2 x3 x4 d <;> simp
theorem outC_bad (x1 x2 x3 x4 : Int) (d : ByteArray) (p : Int) : outC (rcV x1 x2 x3 x4 d p true) = zC := rfl
theorem rdCmdV_out (l : List Int) (a : Int) : outC (rdCmdV l a false) = cmdRead l a := by
  unfold rdCmdV cmdRead cmA
  cases hk : (getNum l a).2.2
  · have hn : numV l a false = (0, a, true) := by unfold numV; simp [hk]
    simp only [hn, numV_true, show ¬ ((0 : Int) = 1) by decide, show ¬ ((0 : Int) = 3) by decide, show ¬ ((0 : Int) = 2) by decide, Bool.false_eq_true, false_and, ↓reduceIte, outC_bad]
  have hn : numV l a false = ((getNum l a).1, (getNum l a).2.1, false) := by unfold numV; simp [hk]
  simp only [hn, true_and]
  generalize getNum l a = G at *
  obtain ⟨x1, p1, o1⟩ := G
  simp only at hk hn ⊢
  by_cases e1 : x1 = 1
  · subst e1
    simp only [↓reduceIte, outC_rcV, cmFin, cmdOk_one, Int.le_refl, show (1 : Int) ≤ 5 by decide, and_self]
  simp only [e1, ↓reduceIte]
  unfold cmB
  cases hk2 : (getNum l p1).2.2
  · have hn2 : numV l p1 false = (0, p1, true) := by unfold numV; simp [hk2]
    simp only [hn2, numV_true, bytesV_true, outC_bad, Bool.false_eq_true, ↓reduceIte, ite_self]
    split
    · rfl
    · split <;> rfl
  have hn2 : numV l p1 false = ((getNum l p1).1, (getNum l p1).2.1, false) := by unfold numV; simp [hk2]
  simp only [hn2, ↓reduceIte]
  generalize getNum l p1 = G2 at *
  obtain ⟨x2, p2, o2⟩ := G2
  simp only at hk2 hn2 ⊢
  by_cases e3 : x1 = 3
  · subst e3
    simp only [↓reduceIte, show (1 : Int) ≤ 3 ∧ (3 : Int) ≤ 5 from ⟨by decide, by decide⟩, and_self]
    unfold cm3
    cases hk3 : (getNum l p2).2.2
    · have hn3 : numV l p2 false = (0, p2, true) := by unfold numV; simp [hk3]
      simp only [hn3, outC_bad, Bool.false_eq_true, ↓reduceIte]
    · have hn3 : numV l p2 false = ((getNum l p2).1, (getNum l p2).2.1, false) := by unfold numV; simp [hk3]
      simp only [hn3, outC_rcV, ↓reduceIte]
  by_cases e2 : x1 = 2
  · subst e2
    simp only [show ¬ ((2 : Int) = 3) by decide, ↓reduceIte, show (1 : Int) ≤ 2 ∧ (2 : Int) ≤ 5 from ⟨by decide, by decide⟩, and_self]
    unfold cm2
    cases hk3 : (getNum l p2).2.2
    · have hn3 : numV l p2 false = (0, p2, true) := by unfold numV; simp [hk3]
      simp only [hn3, bytesV_true, outC_bad, Bool.false_eq_true, ↓reduceIte]
    · have hn3 : numV l p2 false = ((getNum l p2).1, (getNum l p2).2.1, false) := by unfold numV; simp [hk3]
      simp only [hn3, ↓reduceIte]
      unfold bytesV
      by_cases c : 32 ≤ (l.length : Int) - (getNum l p2).2.1
      · rw [if_neg (show ¬ (false = true) by decide), if_neg (show ¬ 32 > (l.length : Int) - (getNum l p2).2.1 by omega), if_pos c]
        exact outC_rcV _ _ _ _ _ _
      · rw [if_neg (show ¬ (false = true) by decide), if_pos (show 32 > (l.length : Int) - (getNum l p2).2.1 by omega), if_neg c]
        rfl
  simp only [e3, e2, ↓reduceIte, outC_rcV]
  by_cases hin : 1 ≤ x1 ∧ x1 ≤ 5
  · rw [if_pos hin]
  · rw [if_neg hin]
    unfold cmFin
    rw [cmdOk_out _ _ _ _ _ hin]
    rfl

theorem rrEnd_ev (l : List Int) (x0 x1 x2 x3 x4 x5 x6 x7 x8 : Int) (x9 : ByteArray) (p : Int) : Ev (fun k => rrEnd k l x0 x1 x2 x3 x4 x5 x6 x7 x8 x9 p false) (recFin l x0 x1 x2 x3 x4 x5 x6 x7 x8 x9 p) := by
  unfold rrEnd recFin
  simp only [Bool.false_eq_true, ↓reduceIte]
  by_cases h : p = (l.length : Int)
  · simp only [h, decide_true, ↓reduceIte]
    refine Ev.bind (implRecOk_ev x0 x1 x2 x3 x4 x5 x6 x7 x8 x9) ?_
    cases recOk x0 x1 x2 x3 x4 x5 x6 x7 x8 x9
    · simp only [Bool.false_eq_true, ↓reduceIte]; exact Ev.now _
    · simp only [↓reduceIte]; exact Ev.now _
  · simp only [h, decide_false, Bool.false_eq_true, ↓reduceIte]; exact Ev.now _
theorem rrEnd_bad (k : Nat) (l : List Int) (x0 x1 x2 x3 x4 x5 x6 x7 x8 : Int) (x9 : ByteArray) (p : Int) : rrEnd k l x0 x1 x2 x3 x4 x5 x6 x7 x8 x9 p true = some zR := rfl
theorem numV_ok (l : List Int) (a : Int) (h : (getNum l a).2.2 = true) : numV l a false = ((getNum l a).1, (getNum l a).2.1, false) := by unfold numV; simp [h]
theorem numV_no (l : List Int) (a : Int) (h : (getNum l a).2.2 = false) : numV l a false = (0, a, true) := by unfold numV; simp [h]
theorem rrAt_ev (l : List Int) (hb : By l) (hl : l.length ≤ 140737488355328) : Ev (fun k => rrAt k l) (recRead l) := by
  have b1 := getNum_b l 0 hb
  unfold rrAt recRead rrA
  cases hk : (getNum l 0).2.2
  · have n1 := rdNum_ev' l 0 false hb hl (by omega)
    rw [numV_no l 0 hk] at n1
    refine Ev.bind n1 ?_
    rw [getNum_no l 0 hk]
    simp only [show ¬ ((0 : Int) = 1) by decide, show ¬ ((0 : Int) = 3) by decide, show ¬ ((0 : Int) = 2) by decide, ↓reduceIte, rrEnd_bad]
    exact Ev.now _
  have n1 := rdNum_ev' l 0 false hb hl (by omega)
  rw [numV_ok l 0 hk] at n1
  refine Ev.bind n1 ?_
  clear n1 hk
  generalize getNum l 0 = G1 at *
  obtain ⟨x1, p1, o1⟩ := G1
  simp only at b1 ⊢
  have b2 := getNum_b l p1 hb
  have n2 := rdNum_ev' l p1 false hb hl (by omega)
  by_cases e1 : x1 = 1
  · simp only [e1, ↓reduceIte]
    unfold rr1
    cases hk : (getNum l p1).2.2
    · rw [numV_no l p1 hk] at n2
      refine Ev.bind n2 ?_
      refine Ev.bind (rdNum_ev' l p1 true hb hl (by omega)) ?_
      simp only [numV_true, rrEnd_bad, Bool.false_eq_true, ↓reduceIte]
      exact Ev.now _
    rw [numV_ok l p1 hk] at n2
    refine Ev.bind n2 ?_
    simp only [↓reduceIte]
    generalize getNum l p1 = G2 at *
    obtain ⟨x2, p2, o2⟩ := G2
    simp only at b2 ⊢
    have n3 := rdNum_ev' l p2 false hb hl (by omega)
    unfold rr1b
    cases hk3 : (getNum l p2).2.2
    · rw [numV_no l p2 hk3] at n3
      refine Ev.bind n3 ?_
      simp only [rrEnd_bad, Bool.false_eq_true, ↓reduceIte]
      exact Ev.now _
    · rw [numV_ok l p2 hk3] at n3
      refine Ev.bind n3 ?_
      simp only [↓reduceIte]
      exact rrEnd_ev _ _ _ _ _ _ _ _ _ _ _ _
  simp only [e1, ↓reduceIte]
  by_cases e2 : x1 = 2
  · simp only [e2, ↓reduceIte]
    unfold rr2
    cases hk : (getNum l p1).2.2
    · rw [numV_no l p1 hk] at n2
      refine Ev.bind n2 ?_
      refine Ev.bind (rdNum_ev' l p1 true hb hl (by omega)) ?_
      simp only [numV_true]
      refine Ev.bind (rdCmd_ev l p1 true hb hl (by omega)) ?_
      rw [rdCmdV_bad]
      simp only [rrEnd_bad, Bool.false_eq_true, ↓reduceIte]
      exact Ev.now _
    rw [numV_ok l p1 hk] at n2
    refine Ev.bind n2 ?_
    simp only [↓reduceIte]
    generalize getNum l p1 = G2 at *
    obtain ⟨x2, p2, o2⟩ := G2
    simp only at b2 ⊢
    have b3 := getNum_b l p2 hb
    have n3 := rdNum_ev' l p2 false hb hl (by omega)
    unfold rr2b
    cases hk3 : (getNum l p2).2.2
    · rw [numV_no l p2 hk3] at n3
      refine Ev.bind n3 ?_
      refine Ev.bind (rdCmd_ev l p2 true hb hl (by omega)) ?_
      rw [rdCmdV_bad]
      simp only [rrEnd_bad, Bool.false_eq_true, ↓reduceIte]
      exact Ev.now _
    rw [numV_ok l p2 hk3] at n3
    refine Ev.bind n3 ?_
    simp only [↓reduceIte]
    generalize getNum l p2 = G3 at *
    obtain ⟨x3, p3, o3⟩ := G3
    simp only at b3 ⊢
    refine Ev.bind (rdCmd_ev l p3 false hb hl (by omega)) ?_
    rw [← rdCmdV_out l p3]
    generalize rdCmdV l p3 false = D
    obtain ⟨d1, d2, d3, d4, d5, d6, d7⟩ := D
    unfold rr2c outC
    cases d7
    · simp only [Bool.false_eq_true, ↓reduceIte]
      exact rrEnd_ev _ _ _ _ _ _ _ _ _ _ _ _
    · simp only [rrEnd_bad, ↓reduceIte, zC, Bool.false_eq_true]
      exact Ev.now _
  simp only [e2, ↓reduceIte]
  by_cases e3 : x1 = 3
  · simp only [e3, ↓reduceIte]
    unfold rr3
    cases hk : (getNum l p1).2.2
    · rw [numV_no l p1 hk] at n2
      refine Ev.bind n2 ?_
      simp only [rrEnd_bad, Bool.false_eq_true, ↓reduceIte]
      exact Ev.now _
    · rw [numV_ok l p1 hk] at n2
      refine Ev.bind n2 ?_
      simp only [↓reduceIte]
      exact rrEnd_ev _ _ _ _ _ _ _ _ _ _ _ _
  simp only [e3, ↓reduceIte]
  have := rrEnd_ev l x1 0 0 0 0 0 0 0 0 (⟨#[]⟩ : ByteArray) p1
  unfold recFin at this
  rw [recOk_out _ _ _ _ _ _ _ _ _ _ e1 e2 e3] at this
  simpa using this
theorem implRecRead_ev (s : ByteArray) (hs : s.size ≤ 140737488351232) : Ev (fun k => impl_RecRead.f k s) (recRead (bytesOf s)) := by
  have hl := bytesOf_length s
  unfold impl_RecRead.f
  simp only [show s.size ≤ 9223372036854775807 by omega, ↓reduceIte]
  exact rrAt_ev _ (bytesOf_by s) (by omega)

theorem jr_size : ∀ (d : Nat) (b : List Int) (acc : List ByteArray) (a : Int), (∀ x ∈ acc, x.size ≤ b.length) → ∀ x ∈ (jr d b acc a).1, x.size ≤ b.length
  | 0, _, _, _, h => by simpa [jr] using h
  | d + 1, b, acc, a, h => by
    simp only [jr]
    split
    · refine jr_size d b _ _ (fun x hx => ?_)
      rcases List.mem_append.1 hx with hx | hx
      · exact h x hx
      · have hx := List.mem_singleton.1 hx
        subst hx
        have e : (strOfNums (unsealOf b a).1).size = (unsealOf b a).1.length := by rw [← data_length, strOfNums_data, List.length_map]
        have := unseal_len b a
        omega
    · exact h
theorem journalRead_size (room : Int) (l : List S66) (nm : Int) : ∀ x ∈ (journalRead room l nm).1, (x.size : Int) ≤ dsize l := by
  intro x hx
  have hs := diskRead_size room l nm
  have hn := dsize_nn l
  unfold journalRead at hx
  split at hx
  · have := jr_size 2000 (bytesOf (diskRead room l nm).1) [] 0 (by simp) x hx
    rw [bytesOf_length] at this
    omega
  · simp at hx
def toRec (u : Int × Int × Int × Int × Int × Int × Int × Int × Int × ByteArray × Bool) : S52 := ⟨u.1, u.2.1, u.2.2.1, u.2.2.2.1, ⟨u.2.2.2.2.1, ⟨u.2.2.2.2.2.1, u.2.2.2.2.2.2.1, u.2.2.2.2.2.2.2.1, u.2.2.2.2.2.2.2.2.1, u.2.2.2.2.2.2.2.2.2.1⟩⟩⟩
def hlG : List ByteArray → List S52 → Int × Int × List S50 × Int
  | [], acc => hardOf acc
  | s :: t, acc => if (recRead (bytesOf s)).2.2.2.2.2.2.2.2.2.2 = true then hlG t (acc ++ [toRec (recRead (bytesOf s))]) else hardOf acc
theorem implHl_l (rest : List ByteArray) : ∀ (P : List ByteArray) (acc : List S52), P.length + rest.length ≤ 2000 → acc.length ≤ P.length → (∀ x ∈ rest, x.size ≤ 1048576) → Ev (fun k => impl_HardLoad.l0 k acc (P ++ rest) ((P ++ rest).length : Int) (P.length : Int)) (hlG rest acc) := by
  induction rest with
  | nil =>
    intro P acc hl ha hx
    refine Ev.step (fun k => by simp only [impl_HardLoad.l0]; rw [if_neg (by simp)]) ?_
    refine Ev.bind (implHardOf_ev acc (by omega)) ?_
    simp only [hlG]
    exact Ev.now _
  | cons x t ih =>
    intro P acc hl ha hx
    simp only [List.length_cons] at hl
    have hx0 := hx x (by simp)
    have el : ((P ++ x :: t).length : Int) = P.length + t.length + 1 := by simp; omega
    refine Ev.step (fun k => by simp only [impl_HardLoad.l0]; rw [if_pos (by omega), if_pos (by omega), if_pos (by omega), rdB_mid]) ?_
    refine Ev.bind (implRecRead_ev x (by omega)) ?_
    simp only [hlG]
    cases c : (recRead (bytesOf x)).2.2.2.2.2.2.2.2.2.2
    · simp only [Bool.false_eq_true, ↓reduceIte]
      refine Ev.bind (implHardOf_ev acc (by omega)) ?_
      exact Ev.now _
    · have k1 : acc.length < 1599289640401 := by omega
      simp only [↓reduceIte, k1]
      rw [w64 (by omega) (by omega)]
      have h := ih (P ++ [x]) (acc ++ [toRec (recRead (bytesOf x))]) (by simp; omega) (by simp; omega) (fun y hy => hx y (by simp [hy]))
      simpa [toRec] using h
def hardLoad (room : Int) (l : List S66) (nm : Int) := hlG (journalRead room l nm).1 []
theorem implHardLoad_ev (room : Int) (l : List S66) (nm : Int) (h1 : dsize l ≤ 1048576) (hl : l.length ≤ 1048576) : Ev (fun k => impl_HardLoad.f k room l nm) (hardLoad room l nm) := by
  unfold impl_HardLoad.f hardLoad
  refine Ev.bind (implJournalRead_ev room l nm h1 hl) ?_
  have h := journalRead_len room l nm
  have hz := journalRead_size room l nm
  exact implHl_l (journalRead room l nm).1 [] [] (by simpa using h) (by simp) (fun x hx => by have := hz x hx; omega)

theorem rd_app (P Q : List Int) (i : Nat) : rd (P ++ Q) ((P.length + i : Nat) : Int) = rd Q (i : Int) := by
  rw [rd_nat, rd_nat]
  simp [List.getD_eq_getElem?_getD, List.getElem?_append_right]
theorem rd_app_l (P Q : List Int) (i : Nat) (h : i < P.length) : rd (P ++ Q) (i : Int) = rd P (i : Int) := by
  rw [rd_nat, rd_nat]
  simp [List.getD_eq_getElem?_getD, List.getElem?_append_left h]
theorem getNum_put (P R : List Int) (n : Int) (h0 : 0 ≤ n) (h1 : n ≤ 3000) : getNum (P ++ (putNum n ++ R)) (P.length : Int) = (n, (P.length : Int) + (putNum n).length, true) := by
  have e0 : ∀ Q : List Int, rd (P ++ Q) ((P.length : Int) + ((0 : Nat) : Int)) = rd Q 0 := fun Q => by have := rd_app P Q 0; simpa using this
  have e1 : ∀ Q : List Int, rd (P ++ Q) ((P.length : Int) + ((0 + 1 : Nat) : Int)) = rd Q 1 := fun Q => by have := rd_app P Q 1; simpa using this
  unfold getNum
  rw [if_neg (by omega)]
  by_cases h : n > 127
  · rw [putNum_big h, putNum_small (x := n / 128) (by omega)]
    simp only [gn, List.cons_append, List.nil_append]
    rw [e0, e1, if_pos (by simp; omega)]
    have r0 : rd ((n % 128 + 128) :: n / 128 :: R) 0 = n % 128 + 128 := rfl
    have r1 : rd ((n % 128 + 128) :: n / 128 :: R) 1 = n / 128 := rfl
    rw [r0, r1, if_neg (by omega), if_pos (by simp; omega), if_pos (by omega), if_neg (by omega), p7_0, p7_succ, p7_0]
    simp only [Prod.mk.injEq, and_true]
    refine ⟨by omega, by simp; omega⟩
  · rw [putNum_small h]
    simp only [gn, List.cons_append, List.nil_append]
    rw [e0, if_pos (by simp; omega)]
    have r0 : rd (n :: R) 0 = n := rfl
    rw [r0, if_pos (by omega), if_neg (by omega), p7_0]
    simp only [Prod.mk.injEq, and_true]
    refine ⟨by omega, by simp⟩
theorem seg_app (A B : List Int) (i j : Nat) : seg (A ++ B) ((A.length : Int) + i) ((A.length : Int) + j) = (B.take j).drop i := by
  unfold seg
  have h1 : ((A.length : Int) + (j : Int)).toNat = A.length + j := by omega
  have h2 : ((A.length : Int) + (i : Int)).toNat = A.length + i := by omega
  rw [h1, h2, List.take_append, List.drop_append]
  simp
theorem unseal_at (P R : List Int) (n : Nat) (h1 : n ≤ 3000) (hR : R.length = n + 4) : unsealOf (P ++ (putNum (n : Int) ++ R)) (P.length : Int) = if R.drop n = sum4 (R.take n) then (R.take n, (P.length : Int) + (putNum (n : Int)).length + n + 4, 0) else ([], 0, 3) := by
  have g := getNum_put P R n (by omega) (by omega)
  unfold unsealOf
  rw [g]
  simp only [show (n : Int) ≤ 3000 by omega, and_self, ↓reduceIte]
  have hl : ((P ++ (putNum (n : Int) ++ R)).length : Int) = P.length + (putNum (n : Int)).length + n + 4 := by simp; omega
  rw [if_neg (by omega)]
  have ea : P ++ (putNum (n : Int) ++ R) = (P ++ putNum (n : Int)) ++ R := by simp
  have la : ((P ++ putNum (n : Int)).length : Int) = P.length + (putNum (n : Int)).length := by simp
  have s1 := seg_app (P ++ putNum (n : Int)) R n (n + 4)
  have s2 := seg_app (P ++ putNum (n : Int)) R 0 n
  rw [la] at s1 s2
  have e1 : seg (P ++ (putNum (n : Int) ++ R)) ((P.length : Int) + (putNum (n : Int)).length + n) ((P.length : Int) + (putNum (n : Int)).length + n + 4) = R.drop n := by
    rw [ea, show ((P.length : Int) + (putNum (n : Int)).length + n + 4) = ((P.length : Int) + (putNum (n : Int)).length + ((n + 4 : Nat) : Int)) by omega, s1, List.take_of_length_le (by omega)]
  have e2 : seg (P ++ (putNum (n : Int) ++ R)) ((P.length : Int) + (putNum (n : Int)).length) ((P.length : Int) + (putNum (n : Int)).length + n) = R.take n := by
    have : ((P.length : Int) + (putNum (n : Int)).length) = ((P.length : Int) + (putNum (n : Int)).length + ((0 : Nat) : Int)) := by omega
    rw [ea]; rw [this] at s2 ⊢; rw [Int.natCast_zero, Int.add_zero] at *
    simpa using s2
  rw [e1, e2]
theorem unseal_sealed (P b : List Int) (hl : b.length ≤ 3000) : unsealOf (P ++ sealed b) (P.length : Int) = (b, (P.length : Int) + (sealed b).length, 0) := by
  have h := unseal_at P (b ++ sum4 b) b.length hl (by simp [sum4])
  have e1 : (b ++ sum4 b).drop b.length = sum4 b := by simp
  have e2 : (b ++ sum4 b).take b.length = b := by simp
  have el : ((sealed b).length : Int) = (putNum (b.length : Int)).length + b.length + 4 := by simp [sealed, sum4]; omega
  rw [e1, e2, if_pos rfl] at h
  unfold sealed at *
  rw [List.append_assoc (putNum (b.length : Int)), h]
  rw [List.append_assoc (putNum (b.length : Int))] at el
  rw [el]
  simp only [Prod.mk.injEq, and_true, true_and]
  omega
theorem gn_put : ∀ (d k0 : Nat) (l P R : List Int) (a x n : Int), l = P ++ (putNum n ++ R) → (P.length : Int) = a + k0 → 0 ≤ n → n < p7 (d + 1) → (0 < n ∨ k0 = 0) →
    gn (d + 1) l a k0 x = (x + n * p7 k0, a + k0 + (putNum n).length, true)
  | d, k0, l, P, R, a, x, n, hl, hP, h0, h1, hc => by
    have e0 : ∀ Q : List Int, rd (P ++ Q) (a + k0) = rd Q 0 := fun Q => by have := rd_app P Q 0; rw [← hP]; simpa using this
    by_cases h : n > 127
    · have hd : n / 128 < p7 d := by
        have := p7_succ d
        generalize p7 (d + 1) = u at *
        generalize p7 d = v at *
        omega
      obtain ⟨d', rfl⟩ : ∃ d', d = d' + 1 := by
        cases d with
        | zero => rw [p7_0] at hd; omega
        | succ d' => exact ⟨d', rfl⟩
      have ih := gn_put d' (k0 + 1) l (P ++ [n % 128 + 128]) R a (x + (n % 128 + 128) % 128 * p7 k0) (n / 128) (by rw [hl, putNum_big h]; simp) (by simp; omega) (by omega) hd (.inl (by omega))
      rw [gn, hl, putNum_big h, List.cons_append, e0, show rd ((n % 128 + 128) :: (putNum (n / 128) ++ R)) 0 = n % 128 + 128 from rfl, if_pos (by simp; omega), if_neg (by omega)]
      rw [show P ++ (n % 128 + 128) :: (putNum (n / 128) ++ R) = l by rw [hl, putNum_big h]; simp, ih, p7_succ]
      have e1 : (n % 128 + 128) % 128 = n % 128 := by omega
      have e2 : n % 128 * p7 k0 + n / 128 * (p7 k0 * 128) = n * p7 k0 := by
        have : n / 128 * (p7 k0 * 128) = (128 * (n / 128)) * p7 k0 := by rw [Int.mul_comm (p7 k0) 128, ← Int.mul_assoc, Int.mul_comm (n / 128) 128]
        rw [this, ← Int.add_mul]
        congr 1
        omega
      rw [e1]
      simp only [Prod.mk.injEq, and_true]
      refine ⟨by rw [Int.add_assoc, e2], by simp; omega⟩
    · rw [gn, hl, putNum_small h, List.cons_append, List.nil_append, e0, show rd (n :: R) 0 = n from rfl, if_pos (by simp; omega), if_pos (by omega), if_neg (by omega), show n % 128 = n by omega]
      simp only [Prod.mk.injEq, List.length_singleton, and_true, true_and]
      omega
theorem getNum_putNum (P R : List Int) (n : Int) (h0 : 0 ≤ n) (h1 : n ≤ 9223372036854775807) : getNum (P ++ (putNum n ++ R)) (P.length : Int) = (n, (P.length : Int) + (putNum n).length, true) := by
  unfold getNum
  rw [if_neg (by omega), gn_put 8 0 _ P R _ 0 n rfl (by simp) h0 (by show n < p7 9; have : p7 9 = 9223372036854775808 := by decide
                                                                     omega) (.inr rfl), p7_0]
  simp

/-- What is read from numbers packs to just the bytes that were read. -/
theorem strOf_bytesOf (s : ByteArray) : strOfNums (bytesOf s) = s := by
  apply ByteArray.ext
  apply Array.toList_inj.1
  have h := strOfNums_data (bytesOf s)
  rw [h]
  unfold bytesOf
  rw [List.map_map]
  have : ((fun n : Int => UInt8.ofNat n.toNat) ∘ fun b : UInt8 => (b.toNat : Int)) = id := by
    funext b
    simp
  rw [this, List.map_id]
theorem bytesOf_strOf' (l : List Int) (hb : By l) : bytesOf (strOfNums l) = l := strOf_inj (bytesOf_by _) hb (strOf_bytesOf _)
theorem getNum_at (P R : List Int) (n : Int) (h0 : 0 ≤ n) (h1 : n ≤ 9223372036854775807) : getNum (P ++ (putNum n ++ R)) (P.length : Int) = (n, ((P ++ putNum n).length : Int), true) := by
  rw [getNum_putNum P R n h0 h1, List.length_append, Int.natCast_add]
theorem ba_empty {s : ByteArray} (h : (s.toList == ([] : List UInt8)) = true) : s = (⟨#[]⟩ : ByteArray) := by
  have e : (⟨#[]⟩ : ByteArray).toList = [] := by rw [ByteArray.toList_eq]
  exact toList_inj (by rw [e]; simpa using h)
theorem seg32_at (P R : List Int) (h : 32 ≤ R.length) : seg32 (P ++ R) (P.length : Int) = strOfNums (R.take 32) := by
  unfold seg32
  rw [show ((P.length : Int) + 32).toNat = P.length + 32 by omega, Int.toNat_natCast, List.take_append, List.drop_append, List.take_of_length_le (show P.length ≤ P.length + 32 by omega), List.drop_length, List.nil_append, Nat.add_sub_cancel_left, Nat.sub_self, List.drop_zero]
theorem cmdRead_pack (P R : List Int) (kd rl nd sz : Int) (dg : ByteArray) (h : cmdOk kd rl nd sz dg = true) : cmdRead (P ++ ((cmdPack kd rl nd sz dg).1 ++ R)) (P.length : Int) = (kd, rl, nd, sz, dg, ((P ++ (cmdPack kd rl nd sz dg).1).length : Int), true) := by
  obtain ⟨k0, k1, k2, k3⟩ := cmdOk_k h
  have hh := h
  unfold cmdOk at hh
  unfold cmdPack
  rw [if_pos h]
  by_cases h1 : kd = 1
  · rw [if_pos h1] at hh
    simp only [Bool.and_eq_true, beq_iff_eq] at hh
    obtain ⟨r0, n0, s0, d0⟩ := hh
    have d0 := ba_empty (by simpa using d0)
    subst h1 r0 n0 s0 d0
    simp only [↓reduceIte]
    unfold cmdRead
    rw [getNum_at P R 1 (by decide) (by decide)]
    rfl
  have k1 := k1 h1
  by_cases h2 : kd = 2
  · have k3 := k3 h2
    rw [if_neg h1, if_pos h2] at hh
    simp only [Bool.and_eq_true, beq_iff_eq] at hh
    have n0 := hh.2.2.2
    subst h2 n0
    simp only [show ¬ ((2 : Int) = 1) by decide, ↓reduceIte]
    have g1 := getNum_at P (putNum rl ++ (putNum sz ++ (bytesOf dg ++ R))) 2 (by decide) (by decide)
    have g2 := getNum_at (P ++ putNum 2) (putNum sz ++ (bytesOf dg ++ R)) rl (by omega) (by omega)
    have g3 := getNum_at (P ++ putNum 2 ++ putNum rl) (bytesOf dg ++ R) sz (by omega) (by omega)
    have g4 := seg32_at (P ++ putNum 2 ++ putNum rl ++ putNum sz) (bytesOf dg ++ R) (by rw [List.length_append, bytesOf_length]; omega)
    have g5 : (bytesOf dg ++ R).take 32 = bytesOf dg := by rw [List.take_append_of_le_length (by rw [bytesOf_length]; omega), List.take_of_length_le (by rw [bytesOf_length]; omega)]
    rw [g5, strOf_bytesOf] at g4
    have e : P ++ (putNum 2 ++ putNum rl ++ putNum sz ++ bytesOf dg ++ R) = P ++ (putNum 2 ++ (putNum rl ++ (putNum sz ++ (bytesOf dg ++ R)))) := by simp only [List.append_assoc]
    rw [e]
    have hl : (P ++ (putNum 2 ++ (putNum rl ++ (putNum sz ++ (bytesOf dg ++ R))))).length = (P ++ putNum 2 ++ putNum rl ++ putNum sz).length + 32 + R.length := by simp only [List.length_append, bytesOf_length]; omega
    simp only [List.append_assoc] at g1 g2 g3 g4 hl ⊢
    generalize P ++ (putNum 2 ++ (putNum rl ++ (putNum sz ++ (bytesOf dg ++ R)))) = l at *
    unfold cmdRead cmA cmB cm2
    rw [g1]
    simp only [g2, g3, ↓reduceIte, show (1 : Int) ≤ 2 ∧ (2 : Int) ≤ 5 from ⟨by decide, by decide⟩, and_self, show ¬ ((2 : Int) = 1) by decide, show ¬ ((2 : Int) = 3) by decide]
    rw [if_pos (by omega), g4]
    unfold cmFin
    rw [if_pos h]
    simp only [Prod.mk.injEq, true_and, and_true, List.length_append, bytesOf_length]
    omega
  by_cases h3 : kd = 3
  · have k2 := k2 h3
    rw [if_neg h1, if_neg h2, if_pos h3] at hh
    simp only [Bool.and_eq_true, beq_iff_eq] at hh
    obtain ⟨_, _, s0, d0⟩ := hh
    have d0 := ba_empty (by simpa using d0)
    subst h3 s0 d0
    simp only [show ¬ ((3 : Int) = 1) by decide, show ¬ ((3 : Int) = 2) by decide, ↓reduceIte]
    have g1 := getNum_at P (putNum rl ++ (putNum nd ++ R)) 3 (by decide) (by decide)
    have g2 := getNum_at (P ++ putNum 3) (putNum nd ++ R) rl (by omega) (by omega)
    have g3 := getNum_at (P ++ putNum 3 ++ putNum rl) R nd (by omega) (by omega)
    have e : P ++ (putNum 3 ++ putNum rl ++ putNum nd ++ R) = P ++ (putNum 3 ++ (putNum rl ++ (putNum nd ++ R))) := by simp only [List.append_assoc]
    rw [e]
    simp only [List.append_assoc] at g1 g2 g3 ⊢
    generalize P ++ (putNum 3 ++ (putNum rl ++ (putNum nd ++ R))) = l at *
    unfold cmdRead cmA cmB cm3
    rw [g1]
    simp only [g2, g3, ↓reduceIte, show (1 : Int) ≤ 3 ∧ (3 : Int) ≤ 5 from ⟨by decide, by decide⟩, and_self, show ¬ ((3 : Int) = 1) by decide]
    unfold cmFin
    rw [if_pos h]
  · rw [if_neg h1, if_neg h2, if_neg h3, if_pos (by omega)] at hh
    simp only [Bool.and_eq_true, beq_iff_eq] at hh
    obtain ⟨_, n0, s0, d0⟩ := hh
    have d0 := ba_empty (by simpa using d0)
    subst n0 s0 d0
    simp only [h1, h2, h3, ↓reduceIte]
    have g1 := getNum_at P (putNum rl ++ R) kd (by omega) (by omega)
    have g2 := getNum_at (P ++ putNum kd) R rl (by omega) (by omega)
    have e : P ++ (putNum kd ++ putNum rl ++ R) = P ++ (putNum kd ++ (putNum rl ++ R)) := by simp only [List.append_assoc]
    rw [e]
    simp only [List.append_assoc] at g1 g2 ⊢
    generalize P ++ (putNum kd ++ (putNum rl ++ R)) = l at *
    have hk : 1 ≤ kd ∧ kd ≤ 5 := by omega
    unfold cmdRead cmA cmB
    rw [g1]
    simp only [g2, ↓reduceIte, hk, and_self, h1, h2, h3]
    unfold cmFin
    rw [if_pos h]

theorem cmdPack_by (kind rel node size : Int) (dig : ByteArray) : By (cmdPack kind rel node size dig).1 ∧ ((cmdPack kind rel node size dig).2 = true → 1 ≤ (cmdPack kind rel node size dig).1.length) := by
  unfold cmdPack
  split
  · rename_i h
    obtain ⟨k0, k1, k2, k3⟩ := cmdOk_k h
    have l0 := putNum_b9 (x := kind) (by omega) (by omega)
    have app : ∀ {a b : List Int}, By a → By b → By (a ++ b) := fun ha hb x hx => (List.mem_append.1 hx).elim (ha x) (hb x)
    split
    · exact ⟨l0.1, fun _ => l0.2.2⟩
    · rename_i h1
      have k1 := k1 h1
      have l1 := putNum_b9 (x := rel) (by omega) (by omega)
      split
      · rename_i h2
        have k3 := k3 h2
        have l2 := putNum_b9 (x := size) (by omega) (by omega)
        exact ⟨app (app (app l0.1 l1.1) l2.1) (bytesOf_by _), fun _ => by simp only [List.length_append]; omega⟩
      · split
        · rename_i h3
          have k2 := k2 h3
          have l2 := putNum_b9 (x := node) (by omega) (by omega)
          exact ⟨app (app l0.1 l1.1) l2.1, fun _ => by simp only [List.length_append]; omega⟩
        · exact ⟨app l0.1 l1.1, fun _ => by simp only [List.length_append]; omega⟩
  · exact ⟨fun x hx => by simp at hx, fun h => by simp at h⟩
theorem zero6_eq {et ek er en es : Int} {dig : ByteArray} (h : zero6 et ek er en es dig = true) : et = 0 ∧ ek = 0 ∧ er = 0 ∧ en = 0 ∧ es = 0 ∧ dig = (⟨#[]⟩ : ByteArray) := by
  unfold zero6 at h
  simp only [Bool.and_eq_true, beq_iff_eq] at h
  obtain ⟨h0, h1, h2, h3, h4, h5⟩ := h
  exact ⟨h0, h1, h2, h3, h4, ba_empty (by simpa using h5)⟩
theorem recRead_pack (x0 x1 x2 x3 x4 x5 x6 x7 x8 : Int) (x9 : ByteArray) (h : recOk x0 x1 x2 x3 x4 x5 x6 x7 x8 x9 = true) : recRead (bytesOf (recPack x0 x1 x2 x3 x4 x5 x6 x7 x8 x9).1) = (x0, x1, x2, x3, x4, x5, x6, x7, x8, x9, true) := by
  obtain ⟨k0, k1, k2, k3⟩ := recOk_k h
  have b0 := (putNum_b9 (x := x0) (by omega) (by omega)).1
  have h' := h
  unfold recPack
  rw [if_pos h]
  unfold recOk at h'
  by_cases c1 : x0 = 1
  · have k := k1 c1
    rw [if_pos c1] at h'
    simp only [Bool.and_eq_true, beq_iff_eq] at h'
    obtain ⟨_, _, hp, hz⟩ := h'
    obtain ⟨e0, e1, e2, e3, e4, e5⟩ := zero6_eq hz
    have b1 := (putNum_b9 (x := x1) (by omega) (by omega)).1
    have b2 := (putNum_b9 (x := x2) (by omega) (by omega)).1
    rw [if_pos c1]
    simp only
    rw [bytesOf_strOf' _ (fun z hz => by rcases List.mem_append.1 hz with hz | hz; rcases List.mem_append.1 hz with hz | hz; exact b0 z hz; exact b1 z hz; exact b2 z hz)]
    obtain ⟨l, hl⟩ : ∃ l, l = putNum x0 ++ putNum x1 ++ putNum x2 := ⟨_, rfl⟩
    rw [← hl]
    have g0 := getNum_at [] (putNum x1 ++ putNum x2) x0 (by omega) (by omega)
    have g1 := getNum_at (putNum x0) (putNum x2) x1 (by omega) (by omega)
    have g2 := getNum_at (putNum x0 ++ putNum x1) [] x2 (by omega) (by omega)
    rw [List.nil_append, List.nil_append, ← List.append_assoc, ← hl] at g0
    rw [← List.append_assoc, ← hl] at g1
    rw [List.append_nil, ← hl] at g2
    have g0 : getNum l 0 = (x0, ((putNum x0).length : Int), true) := g0
    unfold recRead rrA
    rw [g0]
    simp only [c1, ↓reduceIte]
    rw [c1] at g1 g2 hl
    unfold rr1
    rw [g1]
    simp only [↓reduceIte]
    unfold rr1b
    rw [g2]
    simp only [↓reduceIte]
    unfold recFin
    subst c1 hp e0 e1 e2 e3 e4 e5
    rw [if_pos (by rw [hl]), if_pos h]
  · rw [if_neg c1] at h'
    by_cases c2 : x0 = 2
    · have k := k2 c2
      rw [if_pos c2] at h'
      simp only [Bool.and_eq_true, beq_iff_eq, entryOk] at h'
      obtain ⟨_, ⟨_, hc⟩, e1, e2⟩ := h'
      have b1 := (putNum_b9 (x := x3) (by omega) (by omega)).1
      have b2 := (putNum_b9 (x := x4) (by omega) (by omega)).1
      have b3 := (cmdPack_by x5 x6 x7 x8 x9).1
      rw [if_neg c1, if_pos c2]
      simp only
      rw [bytesOf_strOf' _ (fun z hz => by rcases List.mem_append.1 hz with hz | hz; rcases List.mem_append.1 hz with hz | hz; rcases List.mem_append.1 hz with hz | hz; exact b0 z hz; exact b1 z hz; exact b2 z hz; exact b3 z hz)]
      have g3 := cmdRead_pack (putNum x0 ++ putNum x3 ++ putNum x4) [] x5 x6 x7 x8 x9 hc
      generalize (cmdPack x5 x6 x7 x8 x9).1 = cp at *
      obtain ⟨l, hl⟩ : ∃ l, l = putNum x0 ++ putNum x3 ++ putNum x4 ++ cp := ⟨_, rfl⟩
      rw [← hl]
      have g0 := getNum_at [] (putNum x3 ++ (putNum x4 ++ cp)) x0 (by omega) (by omega)
      have g1 := getNum_at (putNum x0) (putNum x4 ++ cp) x3 (by omega) (by omega)
      have g2 := getNum_at (putNum x0 ++ putNum x3) cp x4 (by omega) (by omega)
      rw [List.nil_append, List.nil_append, ← List.append_assoc, ← List.append_assoc, ← hl] at g0
      rw [← List.append_assoc, ← List.append_assoc, ← hl] at g1
      rw [← List.append_assoc, ← hl] at g2
      rw [List.append_nil, ← hl] at g3
      have g0 : getNum l 0 = (x0, ((putNum x0).length : Int), true) := g0
      unfold recRead rrA
      rw [g0]
      simp only [c2, show ¬ (2 : Int) = 1 by omega, ↓reduceIte]
      rw [c2] at g1 g2 g3 hl
      unfold rr2
      rw [g1]
      simp only [↓reduceIte]
      unfold rr2b
      rw [g2]
      simp only [↓reduceIte]
      unfold rr2c
      rw [g3]
      simp only [↓reduceIte]
      unfold recFin
      subst c2 e1 e2
      rw [if_pos (by rw [hl]), if_pos h]
    · rw [if_neg c2] at h'
      have c3 : x0 = 3 := by omega
      have k := k3 c3
      rw [if_pos c3] at h'
      simp only [Bool.and_eq_true, beq_iff_eq] at h'
      obtain ⟨_, e1, e2, hz⟩ := h'
      obtain ⟨f0, f1, f2, f3, f4, f5⟩ := zero6_eq hz
      have b1 := (putNum_b9 (x := x3) (by omega) (by omega)).1
      rw [if_neg c1, if_neg c2]
      simp only
      rw [bytesOf_strOf' _ (fun z hz => by rcases List.mem_append.1 hz with hz | hz; exact b0 z hz; exact b1 z hz)]
      obtain ⟨l, hl⟩ : ∃ l, l = putNum x0 ++ putNum x3 := ⟨_, rfl⟩
      rw [← hl]
      have g0 := getNum_at [] (putNum x3) x0 (by omega) (by omega)
      have g1 := getNum_at (putNum x0) [] x3 (by omega) (by omega)
      rw [List.nil_append, List.nil_append, ← hl] at g0
      rw [List.append_nil, ← hl] at g1
      have g0 : getNum l 0 = (x0, ((putNum x0).length : Int), true) := g0
      unfold recRead rrA
      rw [g0]
      simp only [c3, show ¬ (3 : Int) = 1 by omega, show ¬ (3 : Int) = 2 by omega, ↓reduceIte]
      rw [c3] at g1 hl
      unfold rr3
      rw [g1]
      simp only [↓reduceIte]
      unfold recFin
      subst c3 e1 e2 f0 f1 f2 f3 f4 f5
      rw [if_pos (by rw [hl]), if_pos h]
theorem rdl_app (l X : List Int) (i : Int) (h0 : 0 ≤ i) (h1 : i < l.length) : rd (l ++ X) i = rd l i := by
  have := rd_app_l l X i.toNat (by omega)
  rwa [show ((i.toNat : Nat) : Int) = i by omega] at this
theorem gn_pos : ∀ (d : Nat) (l : List Int) (a : Int) (k : Nat) (x : Int), (gn d l a k x).2.2 = true → a + k + 1 ≤ (gn d l a k x).2.1
  | 0, l, a, k, x, h => by simp [gn] at h
  | d + 1, l, a, k, x, h => by
    simp only [gn] at h ⊢
    split at h
    · rename_i c1
      rw [if_pos c1]
      split at h
      · rename_i c2
        rw [if_pos c2]
        split at h
        · simp at h
        · rename_i c3; rw [if_neg c3]; simp only; omega
      · rename_i c2
        rw [if_neg c2]
        have := gn_pos d l a (k + 1) _ h
        omega
    · simp at h
theorem gn_app (X : List Int) : ∀ (d : Nat) (l : List Int) (a : Int) (k : Nat) (x : Int), 0 ≤ a → (gn d l a k x).2.2 = true → gn d (l ++ X) a k x = gn d l a k x
  | 0, l, a, k, x, ha, h => by simp [gn] at h
  | d + 1, l, a, k, x, ha, h => by
    simp only [gn] at h ⊢
    by_cases c1 : a + k < (l.length : Int)
    · have c1' : a + k < ((l ++ X).length : Int) := by simp; omega
      rw [if_pos c1] at h ⊢
      rw [if_pos c1', rdl_app l X _ (by omega) c1]
      by_cases c2 : rd l (a + k) < 128
      · rw [if_pos c2, if_pos c2]
      · rw [if_neg c2] at h ⊢
        rw [if_neg c2]
        exact gn_app X d l a (k + 1) _ ha h
    · rw [if_neg c1] at h; simp at h
theorem getNum_pos (l : List Int) (a : Int) (h : (getNum l a).2.2 = true) : 0 ≤ a ∧ a + 1 ≤ (getNum l a).2.1 := by
  unfold getNum at h ⊢
  split at h
  · simp at h
  · rename_i c
    rw [if_neg c]
    have := gn_pos 9 l a 0 0 h
    omega
theorem getNum_app (l X : List Int) (a : Int) (h : (getNum l a).2.2 = true) : getNum (l ++ X) a = getNum l a := by
  have hp := getNum_pos l a h
  unfold getNum at h ⊢
  rw [if_neg (by omega)] at h ⊢
  rw [if_neg (by omega)]
  exact gn_app X 9 l a 0 0 hp.1 h
theorem seg_left (l X : List Int) (i j : Int) (hj : j ≤ l.length) : seg (l ++ X) i j = seg l i j := by
  unfold seg
  rw [List.take_append_of_le_length (by omega)]
theorem unseal_ok (l : List Int) (a : Int) (h : (unsealOf l a).2.2 = 0) : ((getNum l a).2.2 = true ∧ (getNum l a).1 ≤ 3000) ∧ (getNum l a).2.1 + (getNum l a).1 + 4 ≤ l.length ∧ (unsealOf l a).2.1 = (getNum l a).2.1 + (getNum l a).1 + 4 := by
  unfold unsealOf at h ⊢
  split at h
  · rename_i c1
    rw [if_pos c1]
    split at h
    · simp at h
    · rename_i c2
      rw [if_neg c2]
      split at h
      · rename_i c3; rw [if_pos c3]; exact ⟨c1, by omega, rfl⟩
      · simp at h
  · simp at h
theorem unseal_app (l X : List Int) (a : Int) (hb : By l) (h : (unsealOf l a).2.2 = 0) : unsealOf (l ++ X) a = unsealOf l a := by
  obtain ⟨h1, h2, h3⟩ := unseal_ok l a h
  have hg := getNum_b l a hb
  have e := getNum_app l X a h1.1
  have k1 : ¬ ((l ++ X).length : Int) - (getNum l a).2.1 < (getNum l a).1 + 4 := by rw [List.length_append]; omega
  have k2 : ¬ (l.length : Int) - (getNum l a).2.1 < (getNum l a).1 + 4 := by omega
  unfold unsealOf
  rw [e, if_pos h1, if_pos h1, if_neg k1, if_neg k2, seg_left _ _ _ _ (by omega), seg_left _ _ _ _ (by omega)]
theorem unseal_next (l : List Int) (a : Int) (hb : By l) (h : (unsealOf l a).2.2 = 0) : a + 5 ≤ (unsealOf l a).2.1 := by
  obtain ⟨h1, h2, h3⟩ := unseal_ok l a h
  have hg := getNum_b l a hb
  have hp := getNum_pos l a h1.1
  omega
theorem jr_ge : ∀ (d : Nat) (b : List Int) (acc : List ByteArray) (a : Int), By b → a + 5 * (((jr d b acc a).1.length : Int) - acc.length) ≤ (jr d b acc a).2 ∧ acc.length ≤ (jr d b acc a).1.length
  | 0, b, acc, a, hb => by simp [jr]
  | d + 1, b, acc, a, hb => by
    simp only [jr]
    split
    · rename_i c
      have h1 := unseal_next b a hb c
      have h2 := jr_ge d b (acc ++ [strOfNums (unsealOf b a).1]) (unsealOf b a).2.1 hb
      rw [List.length_append, List.length_singleton] at h2
      exact ⟨by omega, by omega⟩
    · simp only; omega
theorem jr_app (X : List Int) : ∀ (d : Nat) (b : List Int) (acc : List ByteArray) (a : Int), By b → (jr d b acc a).2 = b.length → jr d (b ++ X) acc a = jr (d + acc.length - (jr d b acc a).1.length) (b ++ X) (jr d b acc a).1 (b.length : Int)
  | 0, b, acc, a, hb, h => by simp only [jr] at h; subst h; simp [jr]
  | d + 1, b, acc, a, hb, h => by
    by_cases c : (unsealOf b a).2.2 = 0
    · have e : jr (d + 1) b acc a = jr d b (acc ++ [strOfNums (unsealOf b a).1]) (unsealOf b a).2.1 := by simp only [jr, c, ↓reduceIte]
      rw [e] at h ⊢
      have ih := jr_app X d b (acc ++ [strOfNums (unsealOf b a).1]) (unsealOf b a).2.1 hb h
      have hg := (jr_ge d b (acc ++ [strOfNums (unsealOf b a).1]) (unsealOf b a).2.1 hb).2
      have e2 : jr (d + 1) (b ++ X) acc a = jr d (b ++ X) (acc ++ [strOfNums (unsealOf b a).1]) (unsealOf b a).2.1 := by
        simp only [jr]
        rw [unseal_app b X a hb c, if_pos c]
      rw [e2, ih]
      congr 1
      simp only [List.length_append, List.length_cons, List.length_nil] at hg ⊢
      omega
    · have e : jr (d + 1) b acc a = (acc, a) := by simp only [jr, c, ↓reduceIte]
      rw [e] at h ⊢
      simp only at h ⊢
      rw [← h]
      congr 1
      omega
theorem sealed_by (b : List Int) (hb : By b) (hl : b.length ≤ 3000) : By (sealed b) := by
  unfold sealed
  intro x hx
  rcases List.mem_append.1 hx with hx | hx
  · rcases List.mem_append.1 hx with hx | hx
    · exact (putNum_b9 (x := (b.length : Int)) (by omega) (by omega)).1 x hx
    · exact hb x hx
  · exact sum4_by b x hx
theorem okS_cons {s : ByteArray} {t : List ByteArray} (h : okS (s :: t) = true) : s.size ≤ 3000 ∧ okS t = true := by
  simpa [okS] using h
theorem sealsB_by : ∀ q : List ByteArray, okS q = true → By (sealsB q)
  | [], _ => by intro x hx; simp [sealsB] at hx
  | s :: t, h => by
    obtain ⟨h1, h2⟩ := okS_cons h
    intro x hx
    rcases List.mem_append.1 hx with hx | hx
    · exact sealed_by _ (bytesOf_by s) (by rw [bytesOf_length]; exact h1) x hx
    · exact sealsB_by t h2 x hx
theorem By.app {a b : List Int} (ha : By a) (hb : By b) : By (a ++ b) := fun x hx => (List.mem_append.1 hx).elim (ha x) (hb x)
theorem By.take {a : List Int} (ha : By a) (n : Nat) : By (a.take n) := fun x hx => ha x (List.mem_of_mem_take hx)
theorem unseal_str (P X : List Int) (s : ByteArray) (hP : By P) (h : s.size ≤ 3000) : unsealOf (P ++ sealed (bytesOf s) ++ X) (P.length : Int) = (bytesOf s, (P.length : Int) + (sealed (bytesOf s)).length, 0) := by
  have h1 := unseal_sealed P (bytesOf s) (by rw [bytesOf_length]; exact h)
  rw [unseal_app _ X _ (hP.app (sealed_by _ (bytesOf_by s) (by rw [bytesOf_length]; exact h))) (by rw [h1]), h1]
theorem jr_seals (X : List Int) : ∀ (q : List ByteArray) (P : List Int) (acc : List ByteArray) (d : Nat), By P → okS q = true → jr (d + q.length) (P ++ sealsB q ++ X) acc (P.length : Int) = jr d (P ++ sealsB q ++ X) (acc ++ q) ((P.length : Int) + (sealsB q).length)
  | [], P, acc, d, hP, h => by simp [sealsB]
  | s :: t, P, acc, d, hP, h => by
    obtain ⟨h1, h2⟩ := okS_cons h
    have hs := sealed_by _ (bytesOf_by s) (by rw [bytesOf_length]; exact h1)
    have ih := jr_seals X t (P ++ sealed (bytesOf s)) (acc ++ [s]) d (hP.app hs) h2
    have hu := unseal_str P (sealsB t ++ X) s hP h1
    have el : P ++ sealsB (s :: t) ++ X = P ++ sealed (bytesOf s) ++ (sealsB t ++ X) := by simp [sealsB, List.append_assoc]
    have el2 : P ++ sealed (bytesOf s) ++ sealsB t ++ X = P ++ sealed (bytesOf s) ++ (sealsB t ++ X) := by simp [List.append_assoc]
    rw [el2] at ih
    rw [el, List.length_cons, ← Nat.add_assoc]
    have e1 : jr (d + t.length + 1) (P ++ sealed (bytesOf s) ++ (sealsB t ++ X)) acc (P.length : Int) = jr (d + t.length) (P ++ sealed (bytesOf s) ++ (sealsB t ++ X)) (acc ++ [strOfNums (bytesOf s)]) ((P.length : Int) + (sealed (bytesOf s)).length) := by
      simp only [jr]
      rw [hu, if_pos rfl]
    rw [e1, strOf_bytesOf]
    rw [List.length_append, Int.natCast_add] at ih
    rw [ih]
    simp only [sealsB, List.length_append, Int.natCast_add, List.append_assoc, List.cons_append, List.nil_append, Int.add_assoc]
/-- Of seals that are torn some are read, from the first one on. -/
theorem jr_torn : ∀ (q : List ByteArray) (P : List Int) (acc : List ByteArray) (d j : Nat), By P → okS q = true → ∃ i : Nat, i ≤ q.length ∧ (jr d (P ++ (sealsB q).take j) acc (P.length : Int)).1 = acc ++ q.take i
  | [], P, acc, 0, j, hP, h => ⟨0, by simp, by simp [jr]⟩
  | [], P, acc, d + 1, j, hP, h => by
    refine ⟨0, by simp, ?_⟩
    have hu := unseal_end P (P.length : Int) (Int.le_refl _)
    simp only [sealsB, List.take_nil, List.append_nil, jr]
    rw [hu, if_neg (by decide)]
  | s :: t, P, acc, 0, j, hP, h => ⟨0, by simp, by simp [jr]⟩
  | s :: t, P, acc, d + 1, j, hP, h => by
    obtain ⟨h1, h2⟩ := okS_cons h
    have hs := sealed_by _ (bytesOf_by s) (by rw [bytesOf_length]; exact h1)
    by_cases c : j < (sealed (bytesOf s)).length
    · refine ⟨0, by simp, ?_⟩
      have el : (sealsB (s :: t)).take j = (sealed (bytesOf s)).take j := by
        simp only [sealsB]; rw [List.take_append_of_le_length (by omega)]
      rw [el]
      have hn : ¬ (unsealOf (P ++ (sealed (bytesOf s)).take j) (P.length : Int)).2.2 = 0 := by
        intro h0
        have hb : By (P ++ (sealed (bytesOf s)).take j) := hP.app (hs.take j)
        have e1 := unseal_app _ ((sealed (bytesOf s)).drop j) _ hb h0
        rw [List.append_assoc, List.take_append_drop] at e1
        have e2 := unseal_str P [] s hP h1
        rw [List.append_nil] at e2
        have e3 := (unseal_b _ (P.length : Int) hb).2
        rw [← e1, e2, List.length_append, List.length_take] at e3
        simp only at e3
        omega
      simp only [jr]
      rw [if_neg hn]
      simp
    · have el : (sealsB (s :: t)).take j = sealed (bytesOf s) ++ (sealsB t).take (j - (sealed (bytesOf s)).length) := by
        simp only [sealsB]; rw [List.take_append, List.take_of_length_le (by omega)]
      obtain ⟨i, hi, e⟩ := jr_torn t (P ++ sealed (bytesOf s)) (acc ++ [s]) d (j - (sealed (bytesOf s)).length) (hP.app hs) h2
      refine ⟨i + 1, by simp; omega, ?_⟩
      have hu := unseal_str P ((sealsB t).take (j - (sealed (bytesOf s)).length)) s hP h1
      rw [el, ← List.append_assoc]
      simp only [jr]
      rw [hu, if_pos rfl]
      simp only [strOf_bytesOf]
      rw [List.length_append, Int.natCast_add] at e
      rw [e]
      simp
/-- A whole journal, some that were added, some that are torn. -/
theorem jr_all (C : List Int) (old q tl : List ByteArray) (j : Nat) (hC : By C) (h0 : jr 2000 C [] 0 = (old, (C.length : Int))) (hq : okS q = true) (ht : okS tl = true) (hl : old.length + q.length ≤ 2000) :
    ∃ i : Nat, i ≤ tl.length ∧ (jr 2000 (C ++ sealsB q ++ (sealsB tl).take j) [] 0).1 = old ++ q ++ tl.take i ∧ 0 ≤ (jr 2000 (C ++ sealsB q ++ (sealsB tl).take j) [] 0).2 := by
  have hA : By (C ++ sealsB q) := hC.app (sealsB_by q hq)
  have e1 := jr_app (sealsB q ++ (sealsB tl).take j) 2000 C [] 0 hC (by rw [h0])
  rw [h0] at e1
  simp only [List.length_nil, Nat.add_zero] at e1
  rw [← List.append_assoc] at e1
  obtain ⟨m, hm⟩ : ∃ m, 2000 - old.length = m + q.length := ⟨2000 - old.length - q.length, by omega⟩
  rw [hm, jr_seals ((sealsB tl).take j) q C old m hC hq] at e1
  obtain ⟨i, hi, e⟩ := jr_torn tl (C ++ sealsB q) (old ++ q) m j hA ht
  rw [List.length_append, Int.natCast_add] at e
  refine ⟨i, hi, by rw [e1, e], ?_⟩
  have := jr_ge 2000 (C ++ sealsB q ++ (sealsB tl).take j) [] 0 (hA.app ((sealsB_by tl ht).take j))
  omega

theorem bytesOf_append (a b : ByteArray) : bytesOf (a ++ b) = bytesOf a ++ bytesOf b := by
  unfold bytesOf
  rw [ByteArray.data_append, Array.toList_append, List.map_append]
theorem bytesOf_extract (s : ByteArray) (k : Nat) : bytesOf (s.extract 0 k) = (bytesOf s).take k := by
  unfold bytesOf
  rw [ByteArray.data_extract, Array.toList_extract, List.map_take]
  simp [List.extract]
theorem sync_done (room : Int) (l : List S66) (a : S66) (h : diskOk room l = true) (ha : a ∈ l) :
    ∃ E, diskSync room l a.f0 = (room, E, 0) ∧ diskOk room E = true ∧ (⟨a.f0, a.f1 ++ a.f2, (⟨#[]⟩ : ByteArray)⟩ : S66) ∈ E ∧ diskRead room E a.f0 = (a.f1 ++ a.f2, true) ∧ dsize E = dsize l ∧ E.length = l.length := by
  obtain ⟨j, hj⟩ := List.getElem?_of_mem ha
  obtain ⟨⟨o1, o2⟩, o3, o4⟩ := (ok_iff room l).1 h
  obtain ⟨s1, s2⟩ := syncF_at l j a (diskOk_asc h) hj
  have hk := set_ok room l j a h hj
  have hlt : j < l.length := (List.getElem?_eq_some_iff.1 hj).1
  have hm : (⟨a.f0, a.f1 ++ a.f2, (⟨#[]⟩ : ByteArray)⟩ : S66) ∈ l.set j ⟨a.f0, a.f1 ++ a.f2, (⟨#[]⟩ : ByteArray)⟩ := List.mem_of_getElem? (List.getElem?_set_self hlt)
  have hd := dsize_set_eq l j ⟨a.f0, a.f1 ++ a.f2, (⟨#[]⟩ : ByteArray)⟩ a hj
  have hz : (⟨#[]⟩ : ByteArray).size = 0 := rfl
  have hr := read_mem room _ _ hk hm
  simp only [app_nil] at hr
  simp only [ByteArray.size_append, hz] at hd
  refine ⟨_, ?_, hk, hm, hr, by omega, List.length_set ..⟩
  have hn := o1 a ha
  unfold diskSync
  rw [h, s1, s2, show inr a.f0 0 7 = true by simp only [inr, decide_eq_true_eq]; exact hn, if_pos (show (true && true) = true from rfl), if_neg (by omega)]
  rfl
theorem append_code (room : Int) (l : List S66) (nm : Int) (s : ByteArray) (h : diskOk room l = true) (hn : 0 ≤ nm ∧ nm ≤ 7) : diskAppend room l nm s = (room, l, 3) ∨ ((s.size : Int) ≤ room - dsize l ∧ diskAppend room l nm s = (room, putG (appF l nm s) l, 0)) := by
  unfold diskAppend
  rw [h, show inr nm 0 7 = true by simp only [inr, decide_eq_true_eq]; exact hn, if_pos (show (true && true) = true from rfl)]
  split
  · exact .inl rfl
  · exact .inr ⟨by omega, rfl⟩
/-- What is added to it. -/
theorem crash_facts (room : Int) (G : List S66) (nm : Int) (c : ByteArray) (q tl : List ByteArray) (ks : List Int) (h : diskOk room G = true) (hm : (⟨nm, c ++ strOfNums (sealsB q), strOfNums (sealsB tl)⟩ : S66) ∈ G)
    (h0 : (jr 2000 (bytesOf c) [] 0).2 = (c.size : Int)) (hq : okS q = true) (ht : okS tl = true) (hl : (jr 2000 (bytesOf c) [] 0).1.length + q.length ≤ 2000) :
    ∃ i : Nat, i ≤ tl.length ∧ (journalRead room (crash ks G 0) nm).1 = (jr 2000 (bytesOf c) [] 0).1 ++ q ++ tl.take i ∧ 0 ≤ (journalRead room (crash ks G 0) nm).2 := by
  obtain ⟨j, hj⟩ := List.getElem?_of_mem hm
  have hr := crash_read ks room G j _ h hj
  simp only at hr
  have e : journalRead room (crash ks G 0) nm = jr 2000 (bytesOf c ++ sealsB q ++ (sealsB tl).take (crashK ks (j : Int) ⟨nm, c ++ strOfNums (sealsB q), strOfNums (sealsB tl)⟩)) [] 0 := by
    unfold journalRead
    rw [hr]
    simp only [↓reduceIte]
    rw [bytesOf_append, bytesOf_append, bytesOf_extract, bytesOf_strOf' _ (sealsB_by q hq), bytesOf_strOf' _ (sealsB_by tl ht)]
  rw [e]
  refine jr_all (bytesOf c) _ q tl _ (bytesOf_by c) ?_ hq ht hl
  rw [bytesOf_length, ← h0]

-- roots: w64 By wraps_i64 and_mask and_maskZ and255 l1Byte_ok l1Below_ok l1New_l l1New_ev l1Once_ok l1Byte_nn l1Below_nn rd_mem l1PickInt_ok bytesOf_by dsize
def dB : Nat → Int
 | 0 => 0
 | n + 1 => 2 * dB n + 400000
def DkI (i : Nat) (F : List S66) : Prop := dsize F ≤ dB i ∧ F.length ≤ i
theorem dB0 : ∀ i, 0 ≤ dB i
 | 0 => Int.le_refl _
 | n + 1 => by have := dB0 n; simp only [dB]; omega
theorem DkI.up {i : Nat} {F : List S66} (h : DkI i F) : DkI (i + 1) F := ⟨by have := h.1; have := dB0 i; simp only [dB]; omega, Nat.le_succ_of_le h.2⟩
theorem dB_le {i : Nat} (h : i ≤ 30) : dB i ≤ 1000000000000000 := by
 have : ∀ j : Fin 31, dB j.1 ≤ 1000000000000000 := by decide
 exact this ⟨i, by omega⟩
theorem dB_le2 {i : Nat} (h : i ≤ 28) : dB i ≤ 140000000000000 := by
 have : ∀ j : Fin 29, dB j.1 ≤ 140000000000000 := by decide
 exact this ⟨i, by omega⟩
theorem ok_w (r : Int) {F : List S66} {i : Nat} (hF : DkI i F) (hi : i ≤ 30) : ∃ k b, spec_DiskOk.f k r F = some b := by
 have h1 := hF.1; have h2 := hF.2; have := dB_le hi
 obtain ⟨k, h⟩ := (specDiskOk_ev r F (by omega) (by omega)).rounds
 exact ⟨k, _, h⟩
theorem name_w (a : Int) : ∃ b, spec_l3Name.f a = some b := ⟨_, l3Name_eq a⟩
theorem find_w (r nm : Int) {F : List S66} {i : Nat} (hF : DkI i F) (hi : i ≤ 30) : ∃ k j, spec_l3Find.f k r F nm = some j ∧ j < F.length := by
 have h2 := hF.2
 obtain ⟨k, h⟩ := (findS_ev r F nm (by omega)).rounds
 exact ⟨k, _, h, by have := idx_b nm F 0 (by omega); omega⟩
theorem copy_w (r : Int) {F : List S66} {i : Nat} (hF : DkI i F) (hi : i ≤ 30) : ∃ r' F', spec_l3Copy.f r F = some (r', F') ∧ DkI i F' := ⟨_, _, l3Copy_eq r F (by have := hF.2; omega), hF⟩
theorem put_w (r : Int) (F : List S66) (a : Int) (s t : ByteArray) (hF : F.length ≤ 1000) : ∃ k r' F', spec_l3Put.f k r F a s t = some (r', F') ∧ dsize F' ≤ dsize F + s.size + t.size ∧ F'.length ≤ F.length + 1 := by
 obtain ⟨k, h⟩ := (l3Put_ev r F ⟨a, s, t⟩ (by omega)).rounds
 exact ⟨k, _, _, h, dsize_putG ⟨a, s, t⟩ F⟩
theorem rdsz {F : List S66} {j : Int} (h0 : 0 ≤ j) (h1 : j < F.length) : ((rd_T66 F j).f1.size : Int) + (rd_T66 F j).f2.size ≤ dsize F := dsize_mem (rdF_mem F j h0 h1)
theorem dsz_app : ∀ (F : List S66) (f : S66), dsize (F ++ [f]) = dsize F + f.f1.size + f.f2.size
 | [], f => by simp [dsize]
 | x :: t, f => by have := dsz_app t f; simp only [List.cons_append, dsize]; omega
theorem dsz_take {F : List S66} {i : Nat} (h : i < F.length) : dsize (F.take (i + 1)) = dsize (F.take i) + (rd_T66 F i).f1.size + (rd_T66 F i).f2.size := by
 have e : rd_T66 F i = F[i] := by unfold rd_T66; simp [List.getD_eq_getElem?_getD, h]
 rw [List.take_succ_eq_append_getElem h, dsz_app, e]
theorem dsz_le : ∀ (F : List S66) (i : Nat), dsize (F.take i) ≤ dsize F
 | [], i => by simp
 | x :: t, 0 => by have := dsize_nn (x :: t); simpa [dsize] using this
 | x :: t, i + 1 => by have := dsz_le t i; simp only [List.take_succ_cons, dsize]; omega
theorem dsz_nn (F : List S66) : ((⟨#[]⟩ : ByteArray).size : Int) ≤ dsize F := dsize_nn F
theorem app_w (r : Int) {F : List S66} {i : Nat} (nm : Int) (s : ByteArray) (hF : DkI i F) (hi : i ≤ 28) (hs : s.size ≤ 1000) : ∃ k r' F' c, spec_DiskAppend.f k r F nm s = some (r', F', c) ∧ DkI (i + 1) F' := by
 have h1 := hF.1; have h2 := hF.2; have h3 := dB_le2 hi; have h4 := dB0 i
 obtain ⟨k, h⟩ := (specDiskAppend_ev r F nm s (by omega) (by omega) (by omega)).rounds
 have a := diskAppend_size r F nm s (by omega); have b := diskAppend_len r F nm s
 exact ⟨k, (diskAppend r F nm s).1, (diskAppend r F nm s).2.1, (diskAppend r F nm s).2.2, h, by simp only [dB]; omega, by omega⟩
theorem sync_w (r : Int) {F : List S66} {i : Nat} (nm : Int) (hF : DkI i F) (hi : i ≤ 28) : ∃ k r' F' c, spec_DiskSync.f k r F nm = some (r', F', c) ∧ DkI (i + 1) F' := by
 have h1 := hF.1; have h2 := hF.2; have h3 := dB_le2 hi; have h4 := dB0 i
 obtain ⟨k, h⟩ := (specDiskSync_ev r F nm (by omega) (by omega)).rounds
 have a := diskSync_le r F nm; have b := diskSync_len r F nm
 exact ⟨k, (diskSync r F nm).1, (diskSync r F nm).2.1, (diskSync r F nm).2.2, h, by simp only [dB]; omega, by omega⟩
theorem jadd_w (r : Int) {F : List S66} {i : Nat} (nm : Int) (q : List ByteArray) (hF : DkI i F) (hi : i ≤ 28) (hq : q.length ≤ 4 ∧ ∀ s ∈ q, s.size ≤ 5) : ∃ k r' F' c, spec_JournalAdd.f k r F nm q = some (r', F', c) ∧ DkI (i + 1) F' := by
 have h1 := hF.1; have h2 := hF.2; have h3 := dB_le2 hi; have h4 := dB0 i
 obtain ⟨k, h⟩ := (specJournalAdd_ev r F nm q (by omega) (by omega) (fun x hx => by have := hq.2 x hx; omega)).rounds
 have a := journalLate_size r F nm q (by omega); have b := journalAdd_len r F nm q
 refine ⟨k, (journalAdd r F nm q).1, (journalAdd r F nm q).2.1, (journalAdd r F nm q).2.2, h, ?_, by omega⟩
 simp only [dB]
 unfold journalAdd
 split
 · have := diskSync_le (journalLate r F nm q).1 (journalLate r F nm q).2.1 nm; omega
 · omega
theorem jlate_w (r : Int) {F : List S66} {i : Nat} (nm : Int) (q : List ByteArray) (hF : DkI i F) (hi : i ≤ 28) (hq : q.length ≤ 4 ∧ ∀ s ∈ q, s.size ≤ 5) : ∃ k r' F' c, spec_JournalLate.f k r F nm q = some (r', F', c) ∧ DkI (i + 1) F' := by
 have h1 := hF.1; have h2 := hF.2; have h3 := dB_le2 hi; have h4 := dB0 i
 obtain ⟨k, h⟩ := (specJournalLate_ev r F nm q (by omega) (by omega) (fun x hx => by have := hq.2 x hx; omega)).rounds
 have a := journalLate_size r F nm q (by omega); have b := journalLate_len r F nm q
 exact ⟨k, (journalLate r F nm q).1, (journalLate r F nm q).2.1, (journalLate r F nm q).2.2, h, by simp only [dB]; omega, by omega⟩
theorem apply_w (t v : Int) (L : List S50) (a b c d e f k m i : Int) (s : ByteArray) (hL : L.length ≤ 1048576) : ∃ K x y N ok, spec_HardApply.f K t v L a b c d e f k m i s = some (x, y, N, ok) ∧ N.length ≤ L.length + 1 := by
 obtain ⟨K, h⟩ := (specHardApply_ev t v L a b c d ⟨e, ⟨f, k, m, i, s⟩⟩ hL).rounds
 exact ⟨K, _, _, _, _, h, hardApply_len ..⟩
theorem sum_w (l : List Int) (hb : By l) (h : l.length ≤ 140737488355328) : ∃ k s, spec_Sum.f k l = some s := by
 obtain ⟨k, h⟩ := (specSum_ev l hb h).rounds
 exact ⟨k, _, h⟩
theorem at_w (l : List Int) (h : ∀ x ∈ l, (Lit.int .u8 x).wf = true) (hl : l.length ≤ 140737488355328) : ∃ z, laws_at.f l 1 = some z := by
 unfold laws_at.f
 split
 · exact ⟨_, rfl⟩
 · exact ⟨_, rfl⟩
theorem sameEntries_l (l : List S50) (hl : l.length ≤ 140737488355328) (d : Nat) : ∀ i : Nat, i + d = l.length → Ev (fun k => laws_sameEntries.l0 k l l (i : Int)) true := by
  induction d with
  | zero =>
    intro i hi
    refine Ev.step (f := fun _ => some true) (fun k => ?_) (Ev.now _)
    simp only [laws_sameEntries.l0]
    rw [if_neg (by omega)]
  | succ d ih =>
    intro i hi
    have h := ih (i + 1) (by omega)
    have hw : wrap64 ((i : Int) + 1) = ((i + 1 : Nat) : Int) := by rw [w64 (by omega) (by omega)]; omega
    refine Ev.step (fun k => ?_) h
    simp only [laws_sameEntries.l0]
    rw [if_pos (by omega), if_pos (by omega), if_pos (by omega)]
    simp only [beq_self_eq_true, Bool.not_true, Bool.or_self, Bool.false_eq_true, ↓reduceIte, hw]
theorem sameEntries_ev (l : List S50) (hl : l.length ≤ 140737488355328) : Ev (fun k => laws_sameEntries.f k l l) true := by
  unfold laws_sameEntries.f
  simp only [↓reduceIte]
  exact sameEntries_l l hl l.length 0 (by omega)
theorem rp_back (x : S52) (h : (rp x).2 = true) : (recRead (bytesOf (rp x).1)).2.2.2.2.2.2.2.2.2.2 = true ∧ toRec (recRead (bytesOf (rp x).1)) = x := by
 have ok : recOk x.f0 x.f1 x.f2 x.f3 x.f4.f0 x.f4.f1.f0 x.f4.f1.f1 x.f4.f1.f2 x.f4.f1.f3 x.f4.f1.f4 = true := by
  unfold rp recPack at h
  split at h
  · assumption
  · cases h
 have e := recRead_pack _ _ _ _ _ _ _ _ _ _ ok
 unfold rp
 rw [e]
 exact ⟨rfl, rfl⟩
theorem hl_back : ∀ (r : List S52) (q : List ByteArray) (acc : List S52), packL r = some q → hlG q acc = hardOf (acc ++ r)
 | [], q, acc, h => by simp only [packL, Option.some.injEq] at h; subst h; simp [hlG]
 | x :: t, q, acc, h => by
  simp only [packL] at h
  split at h
  · rename_i hx
    obtain ⟨p, hp, rfl⟩ := Option.map_eq_some_iff.1 h
    obtain ⟨h1, h2⟩ := rp_back x hx
    simp only [hlG, h1, ↓reduceIte, h2]
    rw [hl_back t p (acc ++ [x]) hp]
    simp
  · cases h
theorem add_facts1 (room : Int) (M : List S66) (nm : Int) (c : ByteArray) (q : List ByteArray) (h : diskOk room M = true) (hn : 0 ≤ nm ∧ nm ≤ 7) (hc : (diskRead room M nm).1 = c) :
    (journalAdd room M nm q).2.2 = 1 ∨ journalAdd room M nm q = (room, M, 3) ∨
    ∃ E, journalAdd room M nm q = (room, E, 0) ∧ diskOk room E = true ∧ (q.length ≤ 100 ∧ okS q = true) ∧ (⟨nm, c ++ strOfNums (sealsB q), (⟨#[]⟩ : ByteArray)⟩ : S66) ∈ E := by
  by_cases k : (decide (q.length ≤ 100) && okS q) = true
  · have hl : journalLate room M nm q = diskAppend room M nm (strOfNums (sealsB q)) := by unfold journalLate; rw [if_pos k]
    simp only [Bool.and_eq_true, decide_eq_true_eq] at k
    rcases append_code room M nm (strOfNums (sealsB q)) h hn with e | ⟨hs, e⟩
    · exact .inr (.inl (by unfold journalAdd; rw [hl, e]; rfl))
    · obtain ⟨f1, f2, f3⟩ := files_append room M nm (strOfNums (sealsB q)) h hn hs
      have a := app_facts room M nm (strOfNums (sealsB q)) h
      have hm := putG_self (appF M nm (strOfNums (sealsB q))) M
      obtain ⟨E, e1, e2, e3, e4, _, _⟩ := sync_done room _ _ f1 hm
      rw [a.1, a.2.1, hc] at e3
      rw [a.1] at e1
      exact .inr (.inr ⟨E, by unfold journalAdd; rw [hl, e, if_pos rfl, e1], e2, k, e3⟩)
  · refine .inl ?_
    have hl : journalLate room M nm q = (0, [], 1) := by unfold journalLate; rw [if_neg k]
    unfold journalAdd; rw [hl]; rfl
theorem saved_load (nm z : Int) (r : List S52) (h : 0 ≤ nm ∧ nm < 3) : (hardSave 40000 [] nm r).2.2 = 1 ∨ (hardSave 40000 [] nm r).2.2 = 3 ∨ ∃ E, hardSave 40000 [] nm r = (40000, E, 0) ∧ diskOk 40000 E = true ∧ diskCrash 40000 E [z] = (40000, crash [z] E 0) ∧ hardLoad 40000 (crash [z] E 0) nm = hardOf r := by
 unfold hardSave
 cases hp : packL r with
 | none => exact .inl rfl
 | some q =>
  rcases add_facts1 40000 [] nm (⟨#[]⟩ : ByteArray) q (by decide) (by omega) (by unfold diskRead; split <;> first | rfl | (split <;> rfl)) with a | a | ⟨E, a, ak, ⟨q1, q2⟩, am⟩
  · exact .inl a
  · exact .inr (.inl (by simp only [a]))
  · refine .inr (.inr ⟨E, a, ak, by unfold diskCrash; rw [ak]; rfl, ?_⟩)
    have ez : strOfNums (sealsB []) = (⟨#[]⟩ : ByteArray) := rfl
    obtain ⟨i, _, i2, _⟩ := crash_facts 40000 E nm (⟨#[]⟩ : ByteArray) q [] [z] ak (by rw [ez]; exact am) rfl q2 rfl (by show 0 + q.length ≤ 2000; omega)
    unfold hardLoad
    rw [i2, show (jr 2000 (bytesOf (⟨#[]⟩ : ByteArray)) [] 0).1 = [] from rfl, List.take_nil, List.append_nil, List.nil_append]
    exact hl_back r q [] hp
theorem saved_w (nm z : Int) (r : List S52) (h : 0 ≤ nm ∧ nm < 3) (hr : r.length ≤ 101) : ∃ k r1 F n1, impl_HardSave.f k 40000 [] nm r = some (r1, F, n1) ∧ (∃ k2 r2 F2, spec_HardSave.f k2 40000 [] nm r = some (r2, F2, n1)) ∧ (n1 = 1 ∨ n1 = 3 ∨ n1 = 0 ∧ ∃ k3 r3 F3 k4 t v L n k5 k6, impl_DiskCrash.f k3 r1 F [z] = some (r3, F3) ∧ impl_HardLoad.f k4 r3 F3 nm = some (t, v, L, n) ∧ spec_HardOf.f k5 r = some (t, v, L, n) ∧ laws_sameEntries.f k6 L L = some true) := by
 obtain ⟨k, e1⟩ := (implHardSave_ev 40000 [] nm r (by simp [dsize]) (by simp) (by omega)).rounds
 obtain ⟨k2, e2⟩ := (specHardSave_ev 40000 [] nm r (by simp [dsize]) (by simp) (by omega)).rounds
 have sl := saved_load nm z r h
 generalize hardSave 40000 [] nm r = U at *
 refine ⟨k, U.1, U.2.1, U.2.2, e1, ⟨k2, U.1, U.2.1, e2⟩, ?_⟩
 rcases sl with a | a | ⟨E, a, ak, ac, al⟩
 · exact .inl a
 · exact .inr (.inl a)
 · have hb := diskOk_b ak
   have hl := asc_len E 0 (by omega) (diskOk_asc ak)
   obtain ⟨k3, e3⟩ := (implDiskCrash_ev 40000 E [z] (by omega) (by omega)).rounds
   have hds := dsize_crash [z] E 0
   have hln : (crash [z] E 0).length = E.length := crash_length [z] E 0
   obtain ⟨k4, e4⟩ := (implHardLoad_ev 40000 (crash [z] E 0) nm (by omega) (by omega)).rounds
   obtain ⟨k5, e5⟩ := (specHardOf_ev r (by omega)).rounds
   obtain ⟨k6, e6⟩ := (sameEntries_ev (hardOf r).2.2.1 (by have := hardOf_len r; omega)).rounds
   rw [ac] at e3
   rw [al] at e4
   subst a
   refine .inr (.inr ?_)
   exact ⟨rfl, k3, _, _, k4, _, _, _, _, k5, k6, e3, e4, e5, e6⟩

end Go.Proofs.YtppfnnpfamkclaaGreat.Pure
