/- DiskRead of the program and of the reference give the same text and the same word for every disk and name, and the program leaves the disk as it was; no condition. -/
import Derived.Test.YtpdhfphglahkbaaQFnExactDiskReadx6
namespace Go.Proofs.Ytpdhfphglahkbaa.Pure
open Go.RowKit Go.Proofs.Ytpdhfphglahkbaa.QFnExactDiskRead Go.Proofs.YtpdhfphglahkbaaW.PrintWords Go.Proofs.YtpdhfphglahkbaaW.PrintLast
set_option linter.unusedVariables false
set_option linter.unusedSimpArgs false
theorem w64 {x : Int} (h0 : -9223372036854775808 ≤ x) (h1 : x ≤ 9223372036854775807) : wrap64 x = x := by
  unfold wrap64; omega
def By (l : List Int) : Prop := ∀ x ∈ l, 0 ≤ x ∧ x ≤ 255
theorem by_wf {l : List Int} (h : ∀ x ∈ l, (Lit.int .u8 x).wf = true) : By l := fun x hx => by
  have := h x hx
  simpa [Lit.wf, IntKind.min, IntKind.max, IntKind.bits, IntKind.signed] using this
theorem i64_wf {x : Int} (h : (Lit.int .i64 x).wf = true) : -9223372036854775808 ≤ x ∧ x ≤ 9223372036854775807 := by
  simpa [Lit.wf, IntKind.min, IntKind.max, IntKind.bits, IntKind.signed] using h
theorem rd_nat (l : List Int) (i : Nat) : rd l (i : Int) = l.getD i 0 := by simp [rd]
theorem By.at_ {l : List Int} (h : By l) (i : Int) : 0 ≤ rd l i ∧ rd l i ≤ 255 := by
  unfold rd
  rw [List.getD_eq_getElem?_getD]
  rcases Nat.lt_or_ge i.toNat l.length with hi | hi
  · rw [List.getElem?_eq_getElem hi]; exact h _ (List.getElem_mem hi)
  · rw [List.getElem?_eq_none hi]; simp
theorem wraps_i64 (n : Int) (h₀ : 0 ≤ n) (h₁ : n < 2 ^ 63) : IntKind.i64.wrap n = n := by rw [IntKind.wrap_i64]; omega
theorem and_mask (i : Nat) (hi : i ≤ 63) {x : Int} (h₀ : 0 ≤ x) (h₁ : x ≤ 9223372036854775807) : Go.bits .and .i64 x (2 ^ i - 1) = x % 2 ^ i :=
  bits_mask .i64 63 (by decide) wraps_i64 i hi x h₀ (by omega)
theorem or_join (i : Nat) {x y : Int} (hx₀ : 0 ≤ x) (hx : x % 2 ^ i = 0) (hx₁ : x ≤ 9223372036854775807) (hy₀ : 0 ≤ y) (hy : y < 2 ^ i) (hy₁ : y ≤ 9223372036854775807) : Go.bits .or .i64 x y = x + y :=
  bits_join .i64 63 (by decide) wraps_i64 i x y hx₀ hx (by omega) hy₀ hy (by omega)

def inr (a b c : Int) : Bool := decide (b ≤ a ∧ a ≤ c)
theorem ba_nil : (⟨#[]⟩ : ByteArray).toList = [] := by rw [ByteArray.toList, ByteArray.toList.loop]; rfl
theorem if_eq0 (a c : Int) (x : Bool) : (if a = c then some x else some false) = some (a == c && x) := by
  by_cases h : a = c
  · subst h; simp
  · have b : (a == c) = false := by simpa using h
    simp [h, b]
theorem if_tt (b x : Bool) : (if b = true then some x else some false) = some (b && x) := by cases b <;> rfl

theorem rdF_mid (P : List S89) (x : S89) (t : List S89) : rd_T89 (P ++ x :: t) (P.length : Int) = x := by
  unfold rd_T89; simp
theorem rdF_last (P : List S89) (y : S89) (t : List S89) : rd_T89 (P ++ [y] ++ t) (((P ++ [y]).length : Int) - 1) = y := by
  unfold rd_T89
  have : (((P ++ [y]).length : Int) - 1).toNat = P.length := by simp
  rw [this]; simp
def dsize : List S89 → Int
  | [] => 0
  | x :: t => x.f1.size + x.f2.size + dsize t
theorem dsize_nn : ∀ l : List S89, 0 ≤ dsize l
  | [] => by simp [dsize]
  | x :: t => by have := dsize_nn t; simp only [dsize]; omega
theorem dsize_mem {l : List S89} {x : S89} (h : x ∈ l) : (x.f1.size : Int) + x.f2.size ≤ dsize l := by
  induction l with
  | nil => simp at h
  | cons y t ih =>
    have hn := dsize_nn t
    simp only [dsize]
    rcases List.mem_cons.1 h with rfl | h
    · omega
    · have := ih h; omega
def asc : Int → List S89 → Bool
  | _, [] => true
  | lo, x :: t => decide (lo ≤ x.f0 ∧ x.f0 ≤ 7) && asc (x.f0 + 1) t
theorem asc_len : ∀ (l : List S89) (lo : Int), lo ≤ 8 → asc lo l = true → (l.length : Int) ≤ 8 - lo
  | [], lo, h, _ => by simp; omega
  | x :: t, lo, h, ha => by
    simp only [asc, Bool.and_eq_true, decide_eq_true_eq] at ha
    have := asc_len t (x.f0 + 1) (by omega) ha.2
    simp only [List.length_cons]; omega
def diskOk (room : Int) (l : List S89) : Bool := asc 0 l && (inr room 0 40000 && decide (dsize l ≤ room))

theorem rdG_mid (P : List S121) (x : S121) (t : List S121) : rd_T121 (P ++ x :: t) (P.length : Int) = x := by
  unfold rd_T121; simp
def toF (x : S121) : S89 := ⟨x.f0, x.f1, x.f2⟩
def szF : List S121 → Int → Int
  | [], a => a
  | x :: t, a => if a - x.f1.size < 0 then -1 else if a - x.f1.size - x.f2.size < 0 then -1 else szF t (a - x.f1.size - x.f2.size)
theorem szF_b : ∀ (l : List S121) (a : Int), 0 ≤ a → (szF l a = -1 ∨ 0 ≤ szF l a ∧ szF l a + dsize (l.map toF) = a)
  | [], a, h => by simp [szF, dsize, h]
  | x :: t, a, h => by
    have ht : dsize ((x :: t).map toF) = x.f1.size + x.f2.size + dsize (t.map toF) := rfl
    rw [ht]
    simp only [szF]
    split
    · exact .inl rfl
    · split
      · exact .inl rfl
      · have := szF_b t (a - x.f1.size - x.f2.size) (by omega)
        rcases this with h1 | h1
        · exact .inl h1
        · refine .inr ⟨h1.1, ?_⟩; omega
theorem szFile_eq (x : S121) (a : Int) (h0 : 0 ≤ a) (h1 : a ≤ 140737488355328) (hx : x.f1.size ≤ 140737488355328 ∧ x.f2.size ≤ 140737488355328) : laws_szFile.f x.f0 x.f1 x.f2 a = some (if a - x.f1.size < 0 then -1 else if a - x.f1.size - x.f2.size < 0 then -1 else a - x.f1.size - x.f2.size) := by
  unfold laws_szFile.f
  rw [w64 (x := a - x.f1.size) (by omega) (by omega), w64 (by omega) (by omega)]
  split
  · rfl
  · split <;> rfl
theorem szFileS_l (rest : List S121) : ∀ (P : List S121) (a : Int), 0 ≤ a → a ≤ 140737488355328 → P.length + rest.length ≤ 140737488355328 → (∀ x ∈ rest, x.f1.size ≤ 140737488355328 ∧ x.f2.size ≤ 140737488355328) → Ev (fun k => laws_szFileS.l0 k (P ++ rest) a (P.length : Int)) (szF rest a) := by
  induction rest with
  | nil =>
    intro P a h0 h1 hl hx
    refine Ev.step (f := fun _ => some a) (fun k => ?_) (Ev.now _)
    simp only [laws_szFileS.l0]
    rw [if_neg (by simp)]
  | cons x t ih =>
    intro P a h0 h1 hl hx
    simp only [List.length_cons] at hl
    have hx0 := hx x (by simp)
    have e := szFile_eq x a h0 h1 hx0
    have el : ((P ++ x :: t).length : Int) = P.length + t.length + 1 := by simp; omega
    by_cases c1 : a - x.f1.size < 0
    · refine Ev.step (f := fun _ => some (-1)) (fun k => ?_) ?_
      · simp only [laws_szFileS.l0]
        rw [if_pos (by omega), if_pos (by omega), rdG_mid, e, if_pos c1]
        rfl
      · simp only [szF, c1, ↓reduceIte]; exact Ev.now _
    · by_cases c2 : a - x.f1.size - x.f2.size < 0
      · refine Ev.step (f := fun _ => some (-1)) (fun k => ?_) ?_
        · simp only [laws_szFileS.l0]
          rw [if_pos (by omega), if_pos (by omega), rdG_mid, e, if_neg c1, if_pos c2]
          rfl
        · simp only [szF, c1, c2, ↓reduceIte]; exact Ev.now _
      · have h := ih (P ++ [x]) (a - x.f1.size - x.f2.size) (by omega) (by omega) (by simp; omega) (fun y hy => hx y (by simp [hy]))
        refine Ev.step (f := fun k => laws_szFileS.l0 k ((P ++ [x]) ++ t) (a - x.f1.size - x.f2.size) ((P ++ [x]).length : Int)) (fun k => ?_) ?_
        · simp only [laws_szFileS.l0]
          rw [if_pos (by omega), if_pos (by omega), rdG_mid, e, if_neg c1, if_neg c2]
          simp only [Option.bind_some]
          rw [if_neg c2, w64 (by omega) (by omega)]
          simp
        · simp only [szF, c1, c2, ↓reduceIte]; exact h
theorem szFileS_ev (l : List S121) (a : Int) (h0 : 0 ≤ a) (h1 : a ≤ 140737488355328) (hl : l.length ≤ 140737488355328) (hx : ∀ x ∈ l, x.f1.size ≤ 140737488355328 ∧ x.f2.size ≤ 140737488355328) :
    ∃ r, Ev (fun k => laws_szFileS.f k l a) r ∧ (0 ≤ r → r + l.length + dsize (l.map toF) = a) := by
  unfold laws_szFileS.f
  rw [w64 (x := a - l.length) (by omega) (by omega)]
  by_cases h : a - l.length < 0
  · refine ⟨-1, ?_, by omega⟩
    simp only [h, ↓reduceIte]; exact Ev.now _
  · refine ⟨szF l (a - l.length), ?_, ?_⟩
    · simp only [h, ↓reduceIte]
      exact szFileS_l l [] (a - l.length) (by omega) (by omega) (by simp; omega) hx
    · have := szF_b l (a - l.length) (by omega)
      omega
theorem set_fillF (l : List S121) (i d : Nat) (hi : i + (d + 1) = l.length) : ((l.take i).map toF ++ List.replicate (d + 1) z89).set i (toF (rd_T121 l (i : Int))) = (l.take (i + 1)).map toF ++ List.replicate d z89 := by
  have hlt : i < l.length := by omega
  have h1 : ((l.take i).map toF).length = i := by rw [List.length_map, List.length_take]; omega
  rw [List.set_append_right _ _ (by omega), h1, Nat.sub_self, List.replicate_succ, List.set_cons_zero, List.take_succ_eq_append_getElem hlt, List.map_append, List.append_assoc]
  unfold rd_T121
  simp [List.getD_eq_getElem?_getD, hlt]
theorem toFileS_l (l : List S121) (hl : l.length ≤ 7036874417766) (d : Nat) : ∀ i : Nat, i + d = l.length → Ev (fun k => laws_toFileS.l0 k l ((l.take i).map toF ++ List.replicate d z89) (i : Int)) (l.map toF) := by
  induction d with
  | zero =>
    intro i hi
    refine Ev.step (f := fun _ => some (l.map toF)) (fun k => ?_) (Ev.now _)
    simp only [laws_toFileS.l0]
    rw [if_neg (by omega)]
    have : l.take i = l := List.take_of_length_le (by omega)
    simp [this]
  | succ d ih =>
    intro i hi
    refine Ev.step (f := fun k => laws_toFileS.l0 k l ((l.take (i + 1)).map toF ++ List.replicate d z89) ((i + 1 : Nat) : Int)) (fun k => ?_) (ih (i + 1) (by omega))
    simp only [laws_toFileS.l0, laws_toFile.f, Option.bind_some]
    rw [if_pos (by omega), if_pos (by omega), if_pos (by simp; omega), w64 (by omega) (by omega), Int.toNat_natCast]
    rw [show (⟨(rd_T121 l (i : Int)).f0, (rd_T121 l (i : Int)).f1, (rd_T121 l (i : Int)).f2⟩ : S89) = toF (rd_T121 l (i : Int)) from rfl, set_fillF l i d hi]
    rfl
theorem toFileS_ev (l : List S121) (hl : l.length ≤ 7036874417766) : Ev (fun k => laws_toFileS.f k l) (l.map toF) := by
  refine Ev.congr (fun k => ?_) (toFileS_l l hl l.length 0 (by omega))
  unfold laws_toFileS.f
  rw [if_pos (by omega), if_pos (by simp; omega)]
  simp
theorem eqFileS_l (l : List S89) (hl : l.length ≤ 140737488355328) (d : Nat) : ∀ i : Nat, i + d = l.length → Ev (fun k => laws_eqFileS.l0 k l l (i : Int)) true := by
  induction d with
  | zero =>
    intro i hi
    refine Ev.step (f := fun _ => some true) (fun k => ?_) (Ev.now _)
    simp only [laws_eqFileS.l0]
    rw [if_neg (by omega)]
  | succ d ih =>
    intro i hi
    refine Ev.step (f := fun k => laws_eqFileS.l0 k l l ((i + 1 : Nat) : Int)) (fun k => ?_) (ih (i + 1) (by omega))
    simp only [laws_eqFileS.l0, laws_eqFile.f, ↓reduceIte, Option.bind_some]
    rw [if_pos (by omega), if_pos (by omega), if_pos (by omega), w64 (by omega) (by omega)]
    rfl
theorem eqFileS_ev (l : List S89) (hl : l.length ≤ 140737488355328) : Ev (fun k => laws_eqFileS.f k l l) true := by
  refine Ev.congr (fun k => ?_) (eqFileS_l l hl l.length 0 (by omega))
  unfold laws_eqFileS.f
  rw [if_pos rfl]; rfl

theorem szDisk_ev (room : Int) (l : List S121) (h : ∀ x ∈ l, Q121 x) (hl : l.length * 40 ≤ 140737488351232) (a : Int) (h0 : 0 ≤ a) (h1 : a ≤ 140737488355328) :
    ∃ r, Ev (fun k => laws_szDisk.f k room l a) r ∧ (0 ≤ r → r + l.length + dsize (l.map toF) = a) := by
  obtain ⟨r, hr, hb⟩ := szFileS_ev l a h0 h1 (by omega) (fun x hx => by have := h x hx; unfold Q121 at this; omega)
  by_cases c : r < 0
  · refine ⟨-1, ?_, by omega⟩
    unfold laws_szDisk.f
    refine Ev.bind hr ?_
    simp only [c, ↓reduceIte]; exact Ev.now _
  · refine ⟨r, ?_, hb⟩
    unfold laws_szDisk.f
    refine Ev.bind hr ?_
    simp only [c, ↓reduceIte]; exact Ev.now _
theorem toDisk_ev (room : Int) (l : List S121) (hl : l.length ≤ 7036874417766) : Ev (fun k => laws_toDisk.f k room l) (room, l.map toF) := by
  unfold laws_toDisk.f
  refine Ev.bind (toFileS_ev l hl) ?_
  exact Ev.now _
theorem eqDisk_ev (room : Int) (l : List S89) (hl : l.length ≤ 140737488355328) : Ev (fun k => laws_eqDisk.f k room l room l) true := by
  unfold laws_eqDisk.f
  simp only [↓reduceIte]
  refine Ev.bind (eqFileS_ev l hl) ?_
  simp only [↓reduceIte]; exact Ev.now _

theorem l3Size_l (rest : List S89) : ∀ (P : List S89) (n room : Int), 0 ≤ n → n + dsize rest ≤ 1152921504606846976 → P.length + rest.length ≤ 140737488355328 → Ev (fun k => spec_l3Size.l0 k n (P.length : Int) room (P ++ rest)) (n + dsize rest) := by
  induction rest with
  | nil =>
    intro P n room h0 h1 hl
    refine Ev.step (f := fun _ => some n) (fun k => ?_) ?_
    · simp only [spec_l3Size.l0]
      rw [if_neg (by simp)]
    · simp only [dsize, Int.add_zero]; exact Ev.now _
  | cons x t ih =>
    intro P n room h0 h1 hl
    simp only [List.length_cons] at hl
    have hn := dsize_nn t
    simp only [dsize] at h1
    have h := ih (P ++ [x]) (n + x.f1.size + x.f2.size) room (by omega) (by omega) (by simp; omega)
    have e : n + dsize (x :: t) = n + x.f1.size + x.f2.size + dsize t := by simp only [dsize]; omega
    rw [e]
    refine Ev.step (fun k => ?_) h
    simp only [spec_l3Size.l0]
    rw [if_pos (by simp; omega), if_pos (by omega), rdF_mid, w64 (x := n + x.f1.size) (by omega) (by omega), w64 (by omega) (by omega), w64 (by omega) (by omega)]
    simp
theorem l3Size_ev (room : Int) (l : List S89) (h1 : dsize l ≤ 1152921504606846976) (hl : l.length ≤ 140737488355328) : Ev (fun k => spec_l3Size.f k room l) (dsize l) := by
  have h := l3Size_l l [] 0 room (by omega) (by omega) (by simpa using hl)
  simpa [spec_l3Size.f] using h

theorem l1In_eq (a b c : Int) : spec_l1In.f a b c = some (inr a b c) := by
  unfold spec_l1In.f inr
  by_cases h : a ≥ b
  · rw [if_pos h]; congr 1; by_cases h2 : a ≤ c <;> simp [h, h2]
  · rw [if_neg h]; congr 1; simp; omega

theorem l3Name_eq (a : Int) : spec_l3Name.f a = some (inr a 0 7) := by unfold spec_l3Name.f; rw [l1In_eq]; rfl
theorem specDiskOk_l (rest : List S89) : ∀ (P : List S89) (lo room : Int), 0 ≤ lo → (P = [] ∧ lo = 0 ∨ ∃ P' y, P = P' ++ [y] ∧ lo = y.f0 + 1) → P.length + rest.length ≤ 140737488355328 → Ev (fun k => spec_DiskOk.l0 k (P.length : Int) room (P ++ rest)) (asc lo rest) := by
  induction rest with
  | nil =>
    intro P lo room h0 hP hl
    refine Ev.step (f := fun _ => some true) (fun k => ?_) (Ev.now _)
    simp only [spec_DiskOk.l0]
    rw [if_neg (by simp)]
  | cons x t ih =>
    intro P lo room h0 hP hl
    simp only [List.length_cons] at hl
    have el : ((P ++ x :: t).length : Int) = P.length + t.length + 1 := by simp; omega
    have hw1 : wrap64 ((P.length : Int) + 1) = ((P ++ [x]).length : Int) := by rw [w64 (by omega) (by omega)]; simp
    by_cases c1 : 0 ≤ x.f0 ∧ x.f0 ≤ 7
    · have i1 : inr x.f0 0 7 = true := decide_eq_true c1
      by_cases c2 : lo ≤ x.f0
      · have h := ih (P ++ [x]) (x.f0 + 1) room (by omega) (.inr ⟨P, x, rfl, rfl⟩) (by simp; omega)
        refine Ev.step (f := fun k => spec_DiskOk.l0 k ((P ++ [x]).length : Int) room ((P ++ [x]) ++ t)) (fun k => ?_) ?_
        · simp only [spec_DiskOk.l0, l3Name_eq, Option.bind_some]
          rw [if_pos (by omega), if_pos (by omega), rdF_mid, i1, if_pos rfl]
          have ea : P ++ x :: t = P ++ [x] ++ t := by simp
          rcases hP with ⟨rfl, rfl⟩ | ⟨P', y, rfl, rfl⟩
          · rw [if_neg (by simp), hw1, ea]
          · have ep : ((P' ++ [y]).length : Int) = P'.length + 1 := by simp
            rw [if_pos (by omega), w64 (x := ((P' ++ [y]).length : Int) - 1) (by omega) (by omega), if_pos (by omega), if_pos (by omega), show P' ++ [y] ++ x :: t = P' ++ [y] ++ (x :: t) from rfl, rdF_last, if_neg (by omega), hw1, ea]
        · simp only [asc, show lo ≤ x.f0 ∧ x.f0 ≤ 7 from ⟨c2, c1.2⟩, decide_true, Bool.true_and]; exact h
      · refine Ev.step (f := fun _ => some false) (fun k => ?_) ?_
        · simp only [spec_DiskOk.l0, l3Name_eq, Option.bind_some]
          rw [if_pos (by omega), if_pos (by omega), rdF_mid, i1, if_pos rfl]
          rcases hP with ⟨rfl, rfl⟩ | ⟨P', y, rfl, rfl⟩
          · omega
          · have ep : ((P' ++ [y]).length : Int) = P'.length + 1 := by simp
            rw [if_pos (by omega), w64 (x := ((P' ++ [y]).length : Int) - 1) (by omega) (by omega), if_pos (by omega), if_pos (by omega), rdF_last, if_pos (by omega)]
        · have : asc lo (x :: t) = false := by simp [asc, c2]
          rw [this]; exact Ev.now _
    · have i1 : inr x.f0 0 7 = false := decide_eq_false c1
      refine Ev.step (f := fun _ => some false) (fun k => ?_) ?_
      · simp only [spec_DiskOk.l0, l3Name_eq, Option.bind_some]
        rw [if_pos (by omega), if_pos (by omega), rdF_mid, i1, if_neg (by simp)]
      · have : asc lo (x :: t) = false := by
          have : ¬ (lo ≤ x.f0 ∧ x.f0 ≤ 7) := by omega
          simp only [asc, this, decide_false, Bool.false_and]
        rw [this]; exact Ev.now _
theorem specDiskOk_ev (room : Int) (l : List S89) (h1 : dsize l ≤ 1152921504606846976) (hl : l.length ≤ 140737488355328) : Ev (fun k => spec_DiskOk.f k room l) (diskOk room l) := by
  unfold spec_DiskOk.f diskOk
  simp only [l1In_eq, Option.bind_some]
  have hj : Ev (fun k => spec_DiskOk.j0 k true room l) false := by
    refine Ev.step (f := fun _ => some false) (fun k => ?_) (Ev.now _)
    simp only [spec_DiskOk.j0, ↓reduceIte]
  cases h : inr room 0 40000
  · simp only [Bool.false_eq_true, ↓reduceIte, Bool.false_and, Bool.and_false]; exact hj
  · simp only [↓reduceIte, Bool.true_and]
    by_cases h8 : (l.length : Int) > 8
    · have : asc 0 l = false := by
        cases ha : asc 0 l
        · rfl
        · have := asc_len l 0 (by omega) ha; omega
      simp only [h8, ↓reduceIte, this, Bool.false_and]; exact hj
    · simp only [h8, ↓reduceIte]
      refine Ev.bind (l3Size_ev room l h1 hl) ?_
      by_cases hd : dsize l > room
      · simp only [hd, decide_true, show ¬ dsize l ≤ room by omega, decide_false, Bool.and_false]; exact hj
      · simp only [hd, decide_false, show dsize l ≤ room by omega, decide_true, Bool.and_true]
        refine Ev.step (f := fun k => spec_DiskOk.l0 k 0 room l) (fun k => ?_) ?_
        · simp only [spec_DiskOk.j0]; rfl
        · exact specDiskOk_l l [] 0 room (by omega) (.inl ⟨rfl, rfl⟩) (by simpa using hl)

theorem sizeOf_l (rest : List S89) : ∀ (P : List S89) (n m : Int), m = P.length + rest.length → 0 ≤ n → n + dsize rest ≤ 1152921504606846976 → P.length + rest.length ≤ 140737488355328 → Ev (fun k => impl_sizeOf.l0 k n (P ++ rest) m (P.length : Int)) (n + dsize rest) := by
  induction rest with
  | nil =>
    intro P n m hm h0 h1 hl
    refine Ev.step (f := fun _ => some n) (fun k => ?_) ?_
    · simp only [impl_sizeOf.l0]
      rw [if_neg (by simp at hm; omega)]
    · simp only [dsize, Int.add_zero]; exact Ev.now _
  | cons x t ih =>
    intro P n m hm h0 h1 hl
    simp only [List.length_cons] at hl hm
    have hn := dsize_nn t
    simp only [dsize] at h1
    have h := ih (P ++ [x]) (n + x.f1.size + x.f2.size) m (by simp; omega) (by omega) (by omega) (by simp; omega)
    have e : n + dsize (x :: t) = n + x.f1.size + x.f2.size + dsize t := by simp only [dsize]; omega
    rw [e]
    refine Ev.step (fun k => ?_) h
    simp only [impl_sizeOf.l0]
    rw [if_pos (by omega), if_pos (by omega), if_pos (by simp; omega), rdF_mid, w64 (x := (x.f1.size : Int) + x.f2.size) (by omega) (by omega), w64 (by omega) (by omega), w64 (by omega) (by omega)]
    simp [Int.add_assoc]
theorem sizeOf_ev (room : Int) (l : List S89) (h1 : dsize l ≤ 1152921504606846976) (hl : l.length ≤ 140737488355328) : Ev (fun k => impl_sizeOf.f k room l) (dsize l) := by
  have h := sizeOf_l l [] 0 l.length (by simp) (by omega) (by omega) (by simpa using hl)
  simpa [impl_sizeOf.f] using h

theorem within_eq (a b c : Int) : impl_within.f a b c = some (inr a b c) := by
  unfold impl_within.f inr
  by_cases h : a ≥ b
  · rw [if_pos h]; congr 1; by_cases h2 : a ≤ c <;> simp [h, h2]
  · rw [if_neg h]; congr 1; simp; omega

theorem isFile_eq (a : Int) : impl_isFile.f a = some (inr a 0 7) := by unfold impl_isFile.f; rw [within_eq]; rfl
theorem implDiskOk_l (F : List S89) (hd : dsize F ≤ 1152921504606846976) (hF : F.length ≤ 140737488355328) (rest : List S89) : ∀ (P : List S89) (lo room : Int), F = P ++ rest → 0 ≤ lo → (P = [] ∧ lo = 0 ∨ ∃ P' y, P = P' ++ [y] ∧ lo = y.f0 + 1) → Ev (fun k => impl_DiskOk.l0 k F (F.length : Int) (P.length : Int) room F) (asc lo rest && (inr room 0 40000 && decide (dsize F ≤ room))) := by
  induction rest with
  | nil =>
    intro P lo room hPF h0 hP
    refine Ev.step (f := fun k => (impl_within.f room 0 40000).bind fun t => if t = true then (impl_sizeOf.f k room F).bind fun t2 => some (decide (t2 ≤ room)) else some false) (fun k => ?_) ?_
    · simp only [impl_DiskOk.l0]
      rw [if_neg (by rw [hPF]; simp)]
    · simp only [within_eq, Option.bind_some, asc, Bool.true_and]
      cases inr room 0 40000
      · simp only [Bool.false_eq_true, ↓reduceIte, Bool.false_and]; exact Ev.now _
      · simp only [↓reduceIte, Bool.true_and]
        refine Ev.bind (sizeOf_ev room F hd hF) ?_
        exact Ev.now _
  | cons x t ih =>
    intro P lo room hPF h0 hP
    have el : (F.length : Int) = P.length + t.length + 1 := by rw [hPF]; simp; omega
    have hr : rd_T89 F (P.length : Int) = x := by rw [hPF]; exact rdF_mid P x t
    have hw1 : wrap64 ((P.length : Int) + 1) = ((P ++ [x]).length : Int) := by rw [w64 (by omega) (by omega)]; simp
    by_cases c1 : 0 ≤ x.f0 ∧ x.f0 ≤ 7
    · have i1 : inr x.f0 0 7 = true := decide_eq_true c1
      by_cases c2 : lo ≤ x.f0
      · have h := ih (P ++ [x]) (x.f0 + 1) room (by rw [hPF]; simp) (by omega) (.inr ⟨P, x, rfl, rfl⟩)
        refine Ev.step (f := fun k => impl_DiskOk.l0 k F (F.length : Int) ((P ++ [x]).length : Int) room F) (fun k => ?_) ?_
        · simp only [impl_DiskOk.l0, isFile_eq, Option.bind_some]
          rw [if_pos (by omega), if_pos (by omega), if_pos (by omega), hr, i1, if_pos rfl]
          rcases hP with ⟨rfl, rfl⟩ | ⟨P', y, rfl, rfl⟩
          · rw [if_neg (by simp), hw1]
          · have hy : rd_T89 F (((P' ++ [y]).length : Int) - 1) = y := by rw [hPF]; exact rdF_last P' y (x :: t)
            have ep : ((P' ++ [y]).length : Int) = P'.length + 1 := by simp
            rw [if_pos (by omega), w64 (x := ((P' ++ [y]).length : Int) - 1) (by omega) (by omega), if_pos (by omega), if_pos (by omega), hy, if_neg (by omega), hw1]
        · simp only [asc, show lo ≤ x.f0 ∧ x.f0 ≤ 7 from ⟨c2, c1.2⟩, decide_true, Bool.true_and]; exact h
      · refine Ev.step (f := fun _ => some false) (fun k => ?_) ?_
        · simp only [impl_DiskOk.l0, isFile_eq, Option.bind_some]
          rw [if_pos (by omega), if_pos (by omega), if_pos (by omega), hr, i1, if_pos rfl]
          rcases hP with ⟨rfl, rfl⟩ | ⟨P', y, rfl, rfl⟩
          · omega
          · have hy : rd_T89 F (((P' ++ [y]).length : Int) - 1) = y := by rw [hPF]; exact rdF_last P' y (x :: t)
            have ep : ((P' ++ [y]).length : Int) = P'.length + 1 := by simp
            rw [if_pos (by omega), w64 (x := ((P' ++ [y]).length : Int) - 1) (by omega) (by omega), if_pos (by omega), if_pos (by omega), hy, if_pos (by omega)]
        · have : asc lo (x :: t) = false := by simp [asc, c2]
          rw [this]; exact Ev.now _
    · have i1 : inr x.f0 0 7 = false := decide_eq_false c1
      refine Ev.step (f := fun _ => some false) (fun k => ?_) ?_
      · simp only [impl_DiskOk.l0, isFile_eq, Option.bind_some]
        rw [if_pos (by omega), if_pos (by omega), if_pos (by omega), hr, i1, if_neg (by simp)]
      · have : asc lo (x :: t) = false := by
          have : ¬ (lo ≤ x.f0 ∧ x.f0 ≤ 7) := by omega
          simp only [asc, this, decide_false, Bool.false_and]
        rw [this]; exact Ev.now _
theorem implDiskOk_ev (room : Int) (l : List S89) (h1 : dsize l ≤ 1152921504606846976) (hl : l.length ≤ 140737488355328) : Ev (fun k => impl_DiskOk.f k room l) (diskOk room l) :=
  implDiskOk_l l h1 hl l [] 0 room rfl (by omega) (.inl ⟨rfl, rfl⟩)

theorem findS_l (nm : Int) (rest : List S89) : ∀ (P : List S89) (room : Int), P.length + rest.length ≤ 140737488355328 → Ev (fun k => spec_l3Find.l0 k nm (P.length : Int) room (P ++ rest)) (idxName rest nm (P.length : Int)) := by
  induction rest with
  | nil =>
    intro P room hl
    refine Ev.step (f := fun _ => some (-1)) (fun k => ?_) (Ev.now _)
    simp only [spec_l3Find.l0]
    rw [if_neg (by simp)]
  | cons x t ih =>
    intro P room hl
    simp only [List.length_cons] at hl
    have el : ((P ++ x :: t).length : Int) = P.length + t.length + 1 := by simp; omega
    by_cases c : x.f0 = nm
    · refine Ev.step (f := fun _ => some (P.length : Int)) (fun k => ?_) ?_
      · simp only [spec_l3Find.l0]
        rw [if_pos (by omega), if_pos (by omega), rdF_mid, if_pos c]
      · simp only [idxName, c, ↓reduceIte]; exact Ev.now _
    · have h := ih (P ++ [x]) room (by simp; omega)
      have hw1 : wrap64 ((P.length : Int) + 1) = ((P ++ [x]).length : Int) := by rw [w64 (by omega) (by omega)]; simp
      have hi : idxName (x :: t) nm (P.length : Int) = idxName t nm ((P ++ [x]).length : Int) := by simp only [idxName, c, ↓reduceIte]; simp
      rw [hi]
      refine Ev.step (fun k => ?_) h
      simp only [spec_l3Find.l0]
      rw [if_pos (by omega), if_pos (by omega), rdF_mid, if_neg c, hw1]
      simp
theorem findS_ev (room : Int) (l : List S89) (nm : Int) (hl : l.length ≤ 140737488355328) : Ev (fun k => spec_l3Find.f k room l nm) (idxName l nm 0) := by
  have h := findS_l nm l [] room (by simpa using hl)
  simpa [spec_l3Find.f] using h

theorem idx_b (nm : Int) : ∀ (l : List S89) (i : Int), 0 ≤ i → (idxName l nm i = -1 ∨ i ≤ idxName l nm i ∧ idxName l nm i < i + l.length)
  | [], i, h => by simp [idxName]
  | x :: t, i, h => by
    simp only [idxName, List.length_cons]
    split
    · exact .inr ⟨by omega, by omega⟩
    · have := idx_b nm t (i + 1) (by omega)
      omega
theorem rdF_mem (l : List S89) (i : Int) (h0 : 0 ≤ i) (h1 : i < l.length) : rd_T89 l i ∈ l := by
  unfold rd_T89
  have : i.toNat < l.length := by omega
  simp [List.getD_eq_getElem?_getD, this]

def diskRead (room : Int) (l : List S89) (nm : Int) : ByteArray × Bool := if diskOk room l = true then (if idxName l nm 0 < 0 then ((⟨#[]⟩ : ByteArray), false) else (((rd_T89 l (idxName l nm 0)).f1) ++ ((rd_T89 l (idxName l nm 0)).f2), true)) else ((⟨#[]⟩ : ByteArray), false)
theorem diskRead_tail (room : Int) (l : List S89) (nm : Int) (h1 : dsize l ≤ 1152921504606846976) : (if diskOk room l = true then (if idxName l nm 0 < 0 then (some ((⟨#[]⟩ : ByteArray), false)) else (if 0 ≤ idxName l nm 0 then (if idxName l nm 0 < (l.length : Int) then (if ((rd_T89 l (idxName l nm 0)).f1).size + ((rd_T89 l (idxName l nm 0)).f2).size ≤ 9223372036854775807 then (some (((rd_T89 l (idxName l nm 0)).f1) ++ ((rd_T89 l (idxName l nm 0)).f2), true)) else (none)) else (none)) else (none))) else (some ((⟨#[]⟩ : ByteArray), false))) = some (diskRead room l nm) := by
  unfold diskRead
  split
  · split
    · rfl
    · rename_i h
      have hb := idx_b nm l 0 (by omega)
      have hm := dsize_mem (rdF_mem l (idxName l nm 0) (by omega) (by omega))
      rw [if_pos (by omega), if_pos (by omega), if_pos (by omega)]
  · rfl
theorem specDiskRead_ev (room : Int) (l : List S89) (nm : Int) (h1 : dsize l ≤ 1152921504606846976) (hl : l.length ≤ 140737488355328) : Ev (fun k => spec_DiskRead.f k room l nm) (diskRead room l nm) := by
  unfold spec_DiskRead.f
  refine Ev.bind (findS_ev room l nm hl) ?_
  refine Ev.bind (specDiskOk_ev room l h1 hl) ?_
  rw [diskRead_tail room l nm h1]
  exact Ev.now _
theorem implDiskRead_ev (room : Int) (l : List S89) (nm : Int) (h1 : dsize l ≤ 1152921504606846976) (hl : l.length ≤ 140737488355328) : Ev (fun k => impl_DiskRead.f k room l nm) (diskRead room l nm) := by
  unfold impl_DiskRead.f impl_fileAt.f
  simp only [Option.bind_some]
  refine Ev.bind (implDiskOk_ev room l h1 hl) ?_
  rw [diskRead_tail room l nm h1]
  exact Ev.now _

theorem FnExactDiskRead : laws_FnExactDiskRead.Pure := by
  intro room l nm hr hm hz hq _
  have hl : l.length ≤ 7036874417766 := by omega
  obtain ⟨r, h1, h2⟩ := szDisk_ev room l hq hz 1048576 (by omega) (by omega)
  apply Ev.rounds
  unfold laws_FnExactDiskRead.f
  refine Ev.bind h1 ?_
  by_cases h : r < 0
  · simp only [h, ↓reduceIte]; exact Ev.now _
  · have h2 := h2 (by omega)
    have hn := dsize_nn (l.map toF)
    have hml : (l.map toF).length ≤ 140737488355328 := by simp; omega
    simp only [h, ↓reduceIte]
    refine Ev.bind (toDisk_ev room l hl) ?_
    refine Ev.bind (specDiskRead_ev room (l.map toF) nm (by omega) hml) ?_
    refine Ev.bind (toDisk_ev room l hl) ?_
    refine Ev.bind (implDiskRead_ev room (l.map toF) nm (by omega) hml) ?_
    simp only [bne_self_eq_false, ↓reduceIte]
    refine Ev.step (fun k => by simp only [laws_FnExactDiskRead.j0, Bool.false_eq_true, ↓reduceIte]; rfl) ?_
    refine Ev.bind (toDisk_ev room l hl) ?_
    refine Ev.bind (eqDisk_ev room (l.map toF) hml) ?_
    simp only [↓reduceIte]
    exact Ev.now _

end Go.Proofs.Ytpdhfphglahkbaa.Pure
