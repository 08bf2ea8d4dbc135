/- FnJournal holds of all bytes: records that were added to a mended journal of a drawn disk are read behind a crash, behind all that were there, and so are some of those that were late, from the first one on. -/
import Derived.Test.YtoojdlobnbakoaaQFnJournalx17
namespace Go.Proofs.Ytoojdlobnbakoaa.Pure
open Go.RowKit Go.Proofs.Ytoojdlobnbakoaa.QFnJournal Go.Proofs.YtoojdlobnbakoaaW.PrintWords Go.Proofs.YtoojdlobnbakoaaW.PrintLast
set_option linter.unusedVariables false
set_option linter.unusedSimpArgs false
theorem w64 {x : Int} (h0 : -9223372036854775808 ≤ x) (h1 : x ≤ 9223372036854775807) : wrap64 x = x := by
  unfold wrap64; omega
def By (l : List Int) : Prop := ∀ x ∈ l, 0 ≤ x ∧ x ≤ 255
theorem by_wf {l : List Int} (h : ∀ x ∈ l, (Lit.int .u8 x).wf = true) : By l := fun x hx => by
  have := h x hx
  simpa [Lit.wf, IntKind.min, IntKind.max, IntKind.bits, IntKind.signed] using this
theorem rd_nat (l : List Int) (i : Nat) : rd l (i : Int) = l.getD i 0 := by simp [rd]
theorem By.at_ {l : List Int} (h : By l) (i : Int) : 0 ≤ rd l i ∧ rd l i ≤ 255 := by
  unfold rd; rw [List.getD_eq_getElem?_getD]; rcases Nat.lt_or_ge i.toNat l.length with hi | hi
  · rw [List.getElem?_eq_getElem hi]; exact h _ (List.getElem_mem hi)
  · rw [List.getElem?_eq_none hi]; simp
theorem wraps_i64 (n : Int) (h₀ : 0 ≤ n) (h₁ : n < 2 ^ 63) : IntKind.i64.wrap n = n := by rw [IntKind.wrap_i64]; omega
theorem and_mask (i : Nat) (hi : i ≤ 63) {x : Int} (h₀ : 0 ≤ x) (h₁ : x ≤ 9223372036854775807) : Go.bits .and .i64 x (2 ^ i - 1) = x % 2 ^ i :=
  bits_mask .i64 63 (by decide) wraps_i64 i hi x h₀ (by omega)
theorem or_join (i : Nat) {x y : Int} (hx₀ : 0 ≤ x) (hx : x % 2 ^ i = 0) (hx₁ : x ≤ 9223372036854775807) (hy₀ : 0 ≤ y) (hy : y < 2 ^ i) (hy₁ : y ≤ 9223372036854775807) : Go.bits .or .i64 x y = x + y :=
  bits_join .i64 63 (by decide) wraps_i64 i x y hx₀ hx (by omega) hy₀ hy (by omega)

def inr (a b c : Int) : Bool := decide (b ≤ a ∧ a ≤ c)
theorem rdF_mid (P : List S95) (x : S95) (t : List S95) : rd_T95 (P ++ x :: t) (P.length : Int) = x := by
  unfold rd_T95; simp
theorem rdF_last (P : List S95) (y : S95) (t : List S95) : rd_T95 (P ++ [y] ++ t) (((P ++ [y]).length : Int) - 1) = y := by
  unfold rd_T95; have : (((P ++ [y]).length : Int) - 1).toNat = P.length := by simp
  rw [this]; simp
def dsize : List S95 → Int
  | [] => 0
  | x :: t => x.f1.size + x.f2.size + dsize t
theorem dsize_nn : ∀ l : List S95, 0 ≤ dsize l
  | [] => by simp [dsize]
  | x :: t => by have := dsize_nn t; simp only [dsize]; omega
theorem dsize_mem {l : List S95} {x : S95} (h : x ∈ l) : (x.f1.size : Int) + x.f2.size ≤ dsize l := by
  induction l with
  | nil => simp at h
  | cons y t ih =>
    have hn := dsize_nn t; simp only [dsize]; rcases List.mem_cons.1 h with rfl | h
    · omega
    · have := ih h; omega
def asc : Int → List S95 → Bool
  | _, [] => true
  | lo, x :: t => decide (lo ≤ x.f0 ∧ x.f0 ≤ 7) && asc (x.f0 + 1) t
theorem asc_len : ∀ (l : List S95) (lo : Int), lo ≤ 8 → asc lo l = true → (l.length : Int) ≤ 8 - lo
  | [], lo, h, _ => by simp; omega
  | x :: t, lo, h, ha => by
    simp only [asc, Bool.and_eq_true, decide_eq_true_eq] at ha; have := asc_len t (x.f0 + 1) (by omega) ha.2; simp only [List.length_cons]; omega
def diskOk (room : Int) (l : List S95) : Bool := asc 0 l && (inr room 0 40000 && decide (dsize l ≤ room))

theorem l3Size_l (rest : List S95) : ∀ (P : List S95) (n room : Int), 0 ≤ n → n + dsize rest ≤ 1152921504606846976 → P.length + rest.length ≤ 140737488355328 → Ev (fun k => spec_l3Size.l0 k n (P.length : Int) room (P ++ rest)) (n + dsize rest) := by
  induction rest with
  | nil =>
    intro P n room h0 h1 hl; refine Ev.step (f := fun _ => some n) (fun k => ?_) ?_
    · simp only [spec_l3Size.l0]; rw [if_neg (by simp)]
    · simp only [dsize, Int.add_zero]; exact Ev.now _
  | cons x t ih =>
    intro P n room h0 h1 hl; simp only [List.length_cons] at hl; have hn := dsize_nn t; simp only [dsize] at h1; have h := ih (P ++ [x]) (n + x.f1.size + x.f2.size) room (by omega) (by omega) (by simp; omega); have e : n + dsize (x :: t) = n + x.f1.size + x.f2.size + dsize t := by simp only [dsize]; omega
    rw [e]; refine Ev.step (fun k => ?_) h; simp only [spec_l3Size.l0]; rw [if_pos (by simp; omega), if_pos (by omega), rdF_mid, w64 (x := n + x.f1.size) (by omega) (by omega), w64 (by omega) (by omega), w64 (by omega) (by omega)]
    simp
theorem l3Size_ev (room : Int) (l : List S95) (h1 : dsize l ≤ 1152921504606846976) (hl : l.length ≤ 140737488355328) : Ev (fun k => spec_l3Size.f k room l) (dsize l) := by
  have h := l3Size_l l [] 0 room (by omega) (by omega) (by simpa using hl)
  simpa [spec_l3Size.f] using h

theorem l1In_eq (a b c : Int) : spec_l1In.f a b c = some (inr a b c) := by
  unfold spec_l1In.f inr; by_cases h : a ≥ b
  · rw [if_pos h]; congr 1; by_cases h2 : a ≤ c <;> simp [h, h2]
  · rw [if_neg h]; congr 1; simp; omega

theorem l3Name_eq (a : Int) : spec_l3Name.f a = some (inr a 0 7) := by unfold spec_l3Name.f; rw [l1In_eq]; rfl
theorem specDiskOk_l (rest : List S95) : ∀ (P : List S95) (lo room : Int), 0 ≤ lo → (P = [] ∧ lo = 0 ∨ ∃ P' y, P = P' ++ [y] ∧ lo = y.f0 + 1) → P.length + rest.length ≤ 140737488355328 → Ev (fun k => spec_DiskOk.l0 k (P.length : Int) room (P ++ rest)) (asc lo rest) := by
  induction rest with
  | nil =>
    intro P lo room h0 hP hl; refine Ev.step (f := fun _ => some true) (fun k => ?_) (Ev.now _); simp only [spec_DiskOk.l0]; rw [if_neg (by simp)]
  | cons x t ih =>
    intro P lo room h0 hP hl; simp only [List.length_cons] at hl; have el : ((P ++ x :: t).length : Int) = P.length + t.length + 1 := by simp; omega
    have hw1 : wrap64 ((P.length : Int) + 1) = ((P ++ [x]).length : Int) := by rw [w64 (by omega) (by omega)]; simp
    by_cases c1 : 0 ≤ x.f0 ∧ x.f0 ≤ 7
    · have i1 : inr x.f0 0 7 = true := decide_eq_true c1; by_cases c2 : lo ≤ x.f0
      · have h := ih (P ++ [x]) (x.f0 + 1) room (by omega) (.inr ⟨P, x, rfl, rfl⟩) (by simp; omega); refine Ev.step (f := fun k => spec_DiskOk.l0 k ((P ++ [x]).length : Int) room ((P ++ [x]) ++ t)) (fun k => ?_) ?_
        · simp only [spec_DiskOk.l0, l3Name_eq, Option.bind_some]; rw [if_pos (by omega), if_pos (by omega), rdF_mid, i1, if_pos rfl]; have ea : P ++ x :: t = P ++ [x] ++ t := by simp
          rcases hP with ⟨rfl, rfl⟩ | ⟨P', y, rfl, rfl⟩
          · rw [if_neg (by simp), hw1, ea]
          · have ep : ((P' ++ [y]).length : Int) = P'.length + 1 := by simp
            rw [if_pos (by omega), w64 (x := ((P' ++ [y]).length : Int) - 1) (by omega) (by omega), if_pos (by omega), if_pos (by omega), show P' ++ [y] ++ x :: t = P' ++ [y] ++ (x :: t) from rfl, rdF_last, if_neg (by omega), hw1, ea]
        · simp only [asc, show lo ≤ x.f0 ∧ x.f0 ≤ 7 from ⟨c2, c1.2⟩, decide_true, Bool.true_and]; exact h
      · refine Ev.step (f := fun _ => some false) (fun k => ?_) ?_
        · simp only [spec_DiskOk.l0, l3Name_eq, Option.bind_some]; rw [if_pos (by omega), if_pos (by omega), rdF_mid, i1, if_pos rfl]; rcases hP with ⟨rfl, rfl⟩ | ⟨P', y, rfl, rfl⟩
          · omega
          · have ep : ((P' ++ [y]).length : Int) = P'.length + 1 := by simp
            rw [if_pos (by omega), w64 (x := ((P' ++ [y]).length : Int) - 1) (by omega) (by omega), if_pos (by omega), if_pos (by omega), rdF_last, if_pos (by omega)]
        · have : asc lo (x :: t) = false := by simp [asc, c2]
          rw [this]; exact Ev.now _
    · have i1 : inr x.f0 0 7 = false := decide_eq_false c1; refine Ev.step (f := fun _ => some false) (fun k => ?_) ?_
      · simp only [spec_DiskOk.l0, l3Name_eq, Option.bind_some]; rw [if_pos (by omega), if_pos (by omega), rdF_mid, i1, if_neg (by simp)]
      · have : asc lo (x :: t) = false := by
          have : ¬ (lo ≤ x.f0 ∧ x.f0 ≤ 7) := by omega
          simp only [asc, this, decide_false, Bool.false_and]
        rw [this]; exact Ev.now _
theorem specDiskOk_ev (room : Int) (l : List S95) (h1 : dsize l ≤ 1152921504606846976) (hl : l.length ≤ 140737488355328) : Ev (fun k => spec_DiskOk.f k room l) (diskOk room l) := by
  unfold spec_DiskOk.f diskOk; simp only [l1In_eq, Option.bind_some]; have hj : Ev (fun k => spec_DiskOk.j0 k true room l) false := by
    refine Ev.step (f := fun _ => some false) (fun k => ?_) (Ev.now _); simp only [spec_DiskOk.j0, ↓reduceIte]
  cases h : inr room 0 40000
  · simp only [Bool.false_eq_true, ↓reduceIte, Bool.false_and, Bool.and_false]; exact hj
  · simp only [↓reduceIte, Bool.true_and]; by_cases h8 : (l.length : Int) > 8
    · have : asc 0 l = false := by
        cases ha : asc 0 l
        · rfl
        · have := asc_len l 0 (by omega) ha; omega
      simp only [h8, ↓reduceIte, this, Bool.false_and]; exact hj
    · simp only [h8, ↓reduceIte]; refine Ev.bind (l3Size_ev room l h1 hl) ?_; by_cases hd : dsize l > room
      · simp only [hd, decide_true, show ¬ dsize l ≤ room by omega, decide_false, Bool.and_false]; exact hj
      · simp only [hd, decide_false, show dsize l ≤ room by omega, decide_true, Bool.and_true]; refine Ev.step (f := fun k => spec_DiskOk.l0 k 0 room l) (fun k => ?_) ?_
        · simp only [spec_DiskOk.j0]; rfl
        · exact specDiskOk_l l [] 0 room (by omega) (.inl ⟨rfl, rfl⟩) (by simpa using hl)

theorem sizeOf_l (rest : List S95) : ∀ (P : List S95) (n m : Int), m = P.length + rest.length → 0 ≤ n → n + dsize rest ≤ 1152921504606846976 → P.length + rest.length ≤ 140737488355328 → Ev (fun k => impl_sizeOf.l0 k n (P ++ rest) m (P.length : Int)) (n + dsize rest) := by
  induction rest with
  | nil =>
    intro P n m hm h0 h1 hl; refine Ev.step (f := fun _ => some n) (fun k => ?_) ?_
    · simp only [impl_sizeOf.l0]; rw [if_neg (by simp at hm; omega)]
    · simp only [dsize, Int.add_zero]; exact Ev.now _
  | cons x t ih =>
    intro P n m hm h0 h1 hl; simp only [List.length_cons] at hl hm; have hn := dsize_nn t; simp only [dsize] at h1; have h := ih (P ++ [x]) (n + x.f1.size + x.f2.size) m (by simp; omega) (by omega) (by omega) (by simp; omega); have e : n + dsize (x :: t) = n + x.f1.size + x.f2.size + dsize t := by simp only [dsize]; omega
    rw [e]; refine Ev.step (fun k => ?_) h; simp only [impl_sizeOf.l0]; rw [if_pos (by omega), if_pos (by omega), if_pos (by simp; omega), rdF_mid, w64 (x := (x.f1.size : Int) + x.f2.size) (by omega) (by omega), w64 (by omega) (by omega), w64 (by omega) (by omega)]
    simp [Int.add_assoc]
theorem sizeOf_ev (room : Int) (l : List S95) (h1 : dsize l ≤ 1152921504606846976) (hl : l.length ≤ 140737488355328) : Ev (fun k => impl_sizeOf.f k room l) (dsize l) := by
  have h := sizeOf_l l [] 0 l.length (by simp) (by omega) (by omega) (by simpa using hl)
  simpa [impl_sizeOf.f] using h

theorem within_eq (a b c : Int) : impl_within.f a b c = some (inr a b c) := by
  unfold impl_within.f inr; by_cases h : a ≥ b
  · rw [if_pos h]; congr 1; by_cases h2 : a ≤ c <;> simp [h, h2]
  · rw [if_neg h]; congr 1; simp; omega

theorem isFile_eq (a : Int) : impl_isFile.f a = some (inr a 0 7) := by unfold impl_isFile.f; rw [within_eq]; rfl
theorem implDiskOk_l (F : List S95) (hd : dsize F ≤ 1152921504606846976) (hF : F.length ≤ 140737488355328) (rest : List S95) : ∀ (P : List S95) (lo room : Int), F = P ++ rest → 0 ≤ lo → (P = [] ∧ lo = 0 ∨ ∃ P' y, P = P' ++ [y] ∧ lo = y.f0 + 1) → Ev (fun k => impl_DiskOk.l0 k F (F.length : Int) (P.length : Int) room F) (asc lo rest && (inr room 0 40000 && decide (dsize F ≤ room))) := by
  induction rest with
  | nil =>
    intro P lo room hPF h0 hP; refine Ev.step (f := fun k => (impl_within.f room 0 40000).bind fun t => if t = true then (impl_sizeOf.f k room F).bind fun t2 => some (decide (t2 ≤ room)) else some false) (fun k => ?_) ?_
    · simp only [impl_DiskOk.l0]; rw [if_neg (by rw [hPF]; simp)]
    · simp only [within_eq, Option.bind_some, asc, Bool.true_and]; cases inr room 0 40000
      · simp only [Bool.false_eq_true, ↓reduceIte, Bool.false_and]; exact Ev.now _
      · simp only [↓reduceIte, Bool.true_and]; refine Ev.bind (sizeOf_ev room F hd hF) ?_; exact Ev.now _
  | cons x t ih =>
    intro P lo room hPF h0 hP; have el : (F.length : Int) = P.length + t.length + 1 := by rw [hPF]; simp; omega
    have hr : rd_T95 F (P.length : Int) = x := by rw [hPF]; exact rdF_mid P x t
    have hw1 : wrap64 ((P.length : Int) + 1) = ((P ++ [x]).length : Int) := by rw [w64 (by omega) (by omega)]; simp
    by_cases c1 : 0 ≤ x.f0 ∧ x.f0 ≤ 7
    · have i1 : inr x.f0 0 7 = true := decide_eq_true c1; by_cases c2 : lo ≤ x.f0
      · have h := ih (P ++ [x]) (x.f0 + 1) room (by rw [hPF]; simp) (by omega) (.inr ⟨P, x, rfl, rfl⟩); refine Ev.step (f := fun k => impl_DiskOk.l0 k F (F.length : Int) ((P ++ [x]).length : Int) room F) (fun k => ?_) ?_
        · simp only [impl_DiskOk.l0, isFile_eq, Option.bind_some]; rw [if_pos (by omega), if_pos (by omega), if_pos (by omega), hr, i1, if_pos rfl]; rcases hP with ⟨rfl, rfl⟩ | ⟨P', y, rfl, rfl⟩
          · rw [if_neg (by simp), hw1]
          · have hy : rd_T95 F (((P' ++ [y]).length : Int) - 1) = y := by rw [hPF]; exact rdF_last P' y (x :: t)
            have ep : ((P' ++ [y]).length : Int) = P'.length + 1 := by simp
            rw [if_pos (by omega), w64 (x := ((P' ++ [y]).length : Int) - 1) (by omega) (by omega), if_pos (by omega), if_pos (by omega), hy, if_neg (by omega), hw1]
        · simp only [asc, show lo ≤ x.f0 ∧ x.f0 ≤ 7 from ⟨c2, c1.2⟩, decide_true, Bool.true_and]; exact h
      · refine Ev.step (f := fun _ => some false) (fun k => ?_) ?_
        · simp only [impl_DiskOk.l0, isFile_eq, Option.bind_some]; rw [if_pos (by omega), if_pos (by omega), if_pos (by omega), hr, i1, if_pos rfl]; rcases hP with ⟨rfl, rfl⟩ | ⟨P', y, rfl, rfl⟩
          · omega
          · have hy : rd_T95 F (((P' ++ [y]).length : Int) - 1) = y := by rw [hPF]; exact rdF_last P' y (x :: t)
            have ep : ((P' ++ [y]).length : Int) = P'.length + 1 := by simp
            rw [if_pos (by omega), w64 (x := ((P' ++ [y]).length : Int) - 1) (by omega) (by omega), if_pos (by omega), if_pos (by omega), hy, if_pos (by omega)]
        · have : asc lo (x :: t) = false := by simp [asc, c2]
          rw [this]; exact Ev.now _
    · have i1 : inr x.f0 0 7 = false := decide_eq_false c1; refine Ev.step (f := fun _ => some false) (fun k => ?_) ?_
      · simp only [impl_DiskOk.l0, isFile_eq, Option.bind_some]; rw [if_pos (by omega), if_pos (by omega), if_pos (by omega), hr, i1, if_neg (by simp)]
      · have : asc lo (x :: t) = false := by
          have : ¬ (lo ≤ x.f0 ∧ x.f0 ≤ 7) := by omega
          simp only [asc, this, decide_false, Bool.false_and]
        rw [this]; exact Ev.now _
theorem implDiskOk_ev (room : Int) (l : List S95) (h1 : dsize l ≤ 1152921504606846976) (hl : l.length ≤ 140737488355328) : Ev (fun k => impl_DiskOk.f k room l) (diskOk room l) :=
  implDiskOk_l l h1 hl l [] 0 room rfl (by omega) (.inl ⟨rfl, rfl⟩)

theorem l3Copy_eq (room : Int) (l : List S95) (hl : l.length ≤ 3518437208878) : spec_l3Copy.f room l = some (room, l) := by
  unfold spec_l3Copy.f; simp only [Option.bind_some, List.length_nil, List.nil_append]; rw [if_pos (by omega)]
theorem copyDisk_eq (room : Int) (l : List S95) (hl : l.length ≤ 3518437208878) : impl_copyDisk.f room l = some (room, l) := by
  unfold impl_copyDisk.f; simp only [Option.bind_some, List.length_nil, List.nil_append]; rw [if_pos (by omega)]
theorem diskOk_asc {room : Int} {l : List S95} (h : diskOk room l = true) : asc 0 l = true := by
  unfold diskOk at h; rw [Bool.and_eq_true] at h; exact h.1

theorem findS_l (nm : Int) (rest : List S95) : ∀ (P : List S95) (room : Int), P.length + rest.length ≤ 140737488355328 → Ev (fun k => spec_l3Find.l0 k nm (P.length : Int) room (P ++ rest)) (idxName rest nm (P.length : Int)) := by
  induction rest with
  | nil =>
    intro P room hl; refine Ev.step (f := fun _ => some (-1)) (fun k => ?_) (Ev.now _); simp only [spec_l3Find.l0]; rw [if_neg (by simp)]
  | cons x t ih =>
    intro P room hl; simp only [List.length_cons] at hl; have el : ((P ++ x :: t).length : Int) = P.length + t.length + 1 := by simp; omega
    by_cases c : x.f0 = nm
    · refine Ev.step (f := fun _ => some (P.length : Int)) (fun k => ?_) ?_
      · simp only [spec_l3Find.l0]; rw [if_pos (by omega), if_pos (by omega), rdF_mid, if_pos c]
      · simp only [idxName, c, ↓reduceIte]; exact Ev.now _
    · have h := ih (P ++ [x]) room (by simp; omega); have hw1 : wrap64 ((P.length : Int) + 1) = ((P ++ [x]).length : Int) := by rw [w64 (by omega) (by omega)]; simp
      have hi : idxName (x :: t) nm (P.length : Int) = idxName t nm ((P ++ [x]).length : Int) := by simp only [idxName, c, ↓reduceIte]; simp
      rw [hi]; refine Ev.step (fun k => ?_) h; simp only [spec_l3Find.l0]; rw [if_pos (by omega), if_pos (by omega), rdF_mid, if_neg c, hw1]
      simp
theorem findS_ev (room : Int) (l : List S95) (nm : Int) (hl : l.length ≤ 140737488355328) : Ev (fun k => spec_l3Find.f k room l nm) (idxName l nm 0) := by
  have h := findS_l nm l [] room (by simpa using hl)
  simpa [spec_l3Find.f] using h

theorem idx_b (nm : Int) : ∀ (l : List S95) (i : Int), 0 ≤ i → (idxName l nm i = -1 ∨ i ≤ idxName l nm i ∧ idxName l nm i < i + l.length)
  | [], i, h => by simp [idxName]
  | x :: t, i, h => by
    simp only [idxName, List.length_cons]
    split
    · exact .inr ⟨by omega, by omega⟩
    · have := idx_b nm t (i + 1) (by omega); omega
theorem rdF_mem (l : List S95) (i : Int) (h0 : 0 ≤ i) (h1 : i < l.length) : rd_T95 l i ∈ l := by
  unfold rd_T95; have : i.toNat < l.length := by omega
  simp [List.getD_eq_getElem?_getD, this]
theorem idx_mem (nm : Int) : ∀ (l : List S95) (i : Int), 0 ≤ i → 0 ≤ idxName l nm i → ∃ y ∈ l, y.f0 = nm
  | [], i, h, h1 => by simp [idxName] at h1
  | x :: t, i, h, h1 => by
    simp only [idxName] at h1; by_cases c : x.f0 = nm
    · exact ⟨x, by simp, c⟩
    · simp only [c, ↓reduceIte] at h1; obtain ⟨y, hy, e⟩ := idx_mem nm t (i + 1) (by omega) h1; exact ⟨y, by simp [hy], e⟩

def oth (nm : Int) (l : List S95) : List S95 := l.filter fun x => decide (x.f0 ≠ nm)
def putG (f : S95) : List S95 → List S95
  | [] => [f]
  | x :: t => if x.f0 ≥ f.f0 then f :: oth f.f0 (x :: t) else x :: putG f t
theorem oth_cons_eq {nm : Int} {x : S95} {t : List S95} (h : x.f0 = nm) : oth nm (x :: t) = oth nm t := by simp [oth, h]
theorem oth_cons_ne {nm : Int} {x : S95} {t : List S95} (h : x.f0 ≠ nm) : oth nm (x :: t) = x :: oth nm t := by simp [oth, h]
theorem putT_l (room : Int) (f : S95) (rm : Int) (rest : List S95) : ∀ (P out : List S95), P.length + rest.length ≤ 140737488355328 → out.length + rest.length ≤ 3518437208880 → Ev (fun k => spec_l3Put.l0 k true (P.length : Int) room (P ++ rest) f.f0 f.f1 f.f2 rm out) (rm, out ++ oth f.f0 rest) := by
  induction rest with
  | nil =>
    intro P out hl ho; refine Ev.step (f := fun _ => some (rm, out)) (fun k => ?_) ?_
    · simp only [spec_l3Put.l0]; rw [if_neg (by simp), if_pos trivial]
    · simp [oth]; exact Ev.now _
  | cons x t ih =>
    intro P out hl ho; simp only [List.length_cons] at hl ho; have el : ((P ++ x :: t).length : Int) = P.length + t.length + 1 := by simp; omega
    have hw1 : wrap64 ((P.length : Int) + 1) = ((P ++ [x]).length : Int) := by rw [w64 (by omega) (by omega)]; simp
    have ea : P ++ x :: t = P ++ [x] ++ t := by simp
    refine Ev.step (fun k => by simp only [spec_l3Put.l0]; rw [if_pos (by omega), if_pos trivial]) ?_; by_cases c : x.f0 = f.f0
    · have h := ih (P ++ [x]) out (by simp; omega) (by omega); rw [oth_cons_eq c]; refine Ev.step (fun k => ?_) h; simp only [spec_l3Put.j1]; rw [if_neg (by simp), if_pos (by omega), if_pos (by omega), rdF_mid, if_pos c, hw1, ea]
    · have h := ih (P ++ [x]) (out ++ [x]) (by simp; omega) (by simp; omega); rw [oth_cons_ne c]; have e3 : out ++ x :: oth f.f0 t = (out ++ [x]) ++ oth f.f0 t := by simp
      rw [e3]; refine Ev.step (fun k => ?_) h; simp only [spec_l3Put.j1]; rw [if_neg (by simp), if_pos (by omega), if_pos (by omega), rdF_mid, if_neg c, if_pos (by omega), hw1, ea]
theorem putF_l (room : Int) (f : S95) (rm : Int) (rest : List S95) : ∀ (P out : List S95), P.length + rest.length ≤ 140737488355328 → out.length + rest.length ≤ 3518437208878 → Ev (fun k => spec_l3Put.l0 k false (P.length : Int) room (P ++ rest) f.f0 f.f1 f.f2 rm out) (rm, out ++ putG f rest) := by
  induction rest with
  | nil =>
    intro P out hl ho; refine Ev.step (f := fun _ => some (rm, out ++ [f])) (fun k => ?_) ?_
    · simp only [spec_l3Put.l0]; rw [if_neg (by simp), if_neg (by simp), if_pos (by omega)]
    · simp [putG]; exact Ev.now _
  | cons x t ih =>
    intro P out hl ho; simp only [List.length_cons] at hl ho; have el : ((P ++ x :: t).length : Int) = P.length + t.length + 1 := by simp; omega
    have hw1 : wrap64 ((P.length : Int) + 1) = ((P ++ [x]).length : Int) := by rw [w64 (by omega) (by omega)]; simp
    have ea : P ++ x :: t = P ++ [x] ++ t := by simp
    refine Ev.step (fun k => by simp only [spec_l3Put.l0]; rw [if_pos (by omega), if_neg (by simp), if_pos (by omega), rdF_mid]) ?_; by_cases c : x.f0 ≥ f.f0
    · simp only [c, decide_true, putG, ↓reduceIte]; by_cases c2 : x.f0 = f.f0
      · have h := putT_l room f rm t (P ++ [x]) (out ++ [f]) (by simp; omega) (by simp; omega); rw [oth_cons_eq c2]; have e3 : out ++ f :: oth f.f0 t = (out ++ [f]) ++ oth f.f0 t := by simp
        rw [e3]; refine Ev.step (fun k => ?_) h; simp only [spec_l3Put.j1]; rw [if_pos trivial, if_pos (by omega)]; simp only [Option.bind_some]; rw [if_pos (by omega), if_pos (by omega), rdF_mid, if_pos c2, hw1, ea]
      · have h := putT_l room f rm t (P ++ [x]) (out ++ [f] ++ [x]) (by simp; omega) (by simp; omega); rw [oth_cons_ne c2]; have e3 : out ++ f :: x :: oth f.f0 t = (out ++ [f] ++ [x]) ++ oth f.f0 t := by simp
        rw [e3]; refine Ev.step (fun k => ?_) h; simp only [spec_l3Put.j1]; rw [if_pos trivial, if_pos (by omega)]; simp only [Option.bind_some]; rw [if_pos (by omega), if_pos (by omega), rdF_mid, if_neg c2, if_pos (by simp; omega), hw1, ea]
    · simp only [c, decide_false, putG, ↓reduceIte]; have c2 : ¬ x.f0 = f.f0 := by omega
      have h := ih (P ++ [x]) (out ++ [x]) (by simp; omega) (by simp; omega); have e3 : out ++ x :: putG f t = (out ++ [x]) ++ putG f t := by simp
      rw [e3]; refine Ev.step (fun k => ?_) h; simp only [spec_l3Put.j1]; rw [if_neg (by simp), if_pos (by omega), if_pos (by omega), rdF_mid, if_neg c2, if_pos (by omega), hw1, ea]
theorem l3Put_ev (room : Int) (l : List S95) (f : S95) (hl : l.length ≤ 3518437208878) : Ev (fun k => spec_l3Put.f k room l f.f0 f.f1 f.f2) (room, putG f l) := by
  have h := putF_l room f room l [] [] (by simp; omega) (by simpa using hl)
  simpa [spec_l3Put.f] using h
theorem asc_gt : ∀ (l : List S95) (lo : Int) (x : S95), asc lo l = true → x ∈ l → lo ≤ x.f0
  | y :: t, lo, x, h, hx => by
    simp only [asc, Bool.and_eq_true, decide_eq_true_eq] at h; rcases List.mem_cons.1 hx with rfl | hx
    · exact h.1.1
    · have := asc_gt t (y.f0 + 1) x h.2 hx; omega
theorem oth_asc (l : List S95) (lo nm : Int) (h : asc lo l = true) (hn : nm < lo) : oth nm l = l := by
  unfold oth; rw [List.filter_eq_self]; intro x hx; have := asc_gt l lo x h hx
  simp; omega
theorem putG_set (f : S95) : ∀ (l : List S95) (lo i : Int), asc lo l = true → 0 ≤ i → 0 ≤ idxName l f.f0 i → putG f l = l.set (idxName l f.f0 i - i).toNat f
  | [], lo, i, h, h0, h1 => by simp [idxName] at h1
  | x :: t, lo, i, h, h0, h1 => by
    simp only [asc, Bool.and_eq_true, decide_eq_true_eq] at h; simp only [idxName] at h1 ⊢; by_cases c : x.f0 = f.f0
    · simp only [c, ↓reduceIte, putG]; rw [if_pos (by omega), oth_cons_eq c, oth_asc t (x.f0 + 1) f.f0 h.2 (by omega)]
      simp
    · simp only [c, ↓reduceIte] at h1 ⊢; have hb := idx_b f.f0 t (i + 1) (by omega); have hm : ∃ y ∈ t, y.f0 = f.f0 := idx_mem f.f0 t (i + 1) (by omega) h1; obtain ⟨y, hy, e⟩ := hm; have hg := asc_gt t (x.f0 + 1) y h.2 hy; have ih := putG_set f t (x.f0 + 1) (i + 1) h.2 (by omega) h1; simp only [putG]; rw [if_neg (by omega), ih]; have e2 : (idxName t f.f0 (i + 1) - i).toNat = (idxName t f.f0 (i + 1) - (i + 1)).toNat + 1 := by omega
      rw [e2, List.set_cons_succ]

def cutF (l : List S95) (nm n : Int) : S95 :=
  ⟨nm, (rd_T95 l (idxName l nm 0)).f1.extract 0 (mn n ((rd_T95 l (idxName l nm 0)).f1.size : Int)).toNat, (rd_T95 l (idxName l nm 0)).f2.extract 0 (n - mn n ((rd_T95 l (idxName l nm 0)).f1.size : Int)).toNat⟩
def diskCut (room : Int) (l : List S95) (nm n : Int) : Int × List S95 × Int :=
  if (diskOk room l && inr nm 0 7) = true then (if idxName l nm 0 < 0 then (room, l, 2) else if inr n 0 (((rd_T95 l (idxName l nm 0)).f1.size : Int) + ((rd_T95 l (idxName l nm 0)).f2.size : Int)) = true then (room, l.set (idxName l nm 0).toNat (cutF l nm n), 0) else (room, l, 2)) else (0, [], 1)
theorem diskCut_len (room : Int) (l : List S95) (nm n : Int) : (diskCut room l nm n).2.1.length ≤ l.length := by
  unfold diskCut
  split
  · split
    · simp
    · split <;> simp
  · simp
theorem l1Min_eq (a b : Int) : spec_l1Min.f a b = some (mn a b) := by
  unfold spec_l1Min.f mn; by_cases h : a < b
  · rw [if_pos h, if_neg (by omega)]
  · rw [if_neg h]; by_cases h2 : b < a
    · rw [if_pos h2]
    · rw [if_neg h2]; exact congrArg some (by omega)
theorem mn_b (a b : Int) (h0 : 0 ≤ a) (h1 : 0 ≤ b) (c : Int) (hc : 0 ≤ c) (h : a ≤ b + c) : 0 ≤ mn a b ∧ mn a b ≤ b ∧ 0 ≤ a - mn a b ∧ a - mn a b ≤ c := by
  unfold mn; split <;> omega
theorem specDiskCut_ev (room : Int) (l : List S95) (nm n : Int) (h1 : dsize l ≤ 1152921504606846976) (hl : l.length ≤ 3518437208878) : Ev (fun k => spec_DiskCut.f k room l nm n) (diskCut room l nm n) := by
  unfold spec_DiskCut.f diskCut; refine Ev.bind (specDiskOk_ev room l h1 (by omega)) ?_; have hj : Ev (fun k => spec_DiskCut.j0 k nm n true room l) (0, [], 1) := by
    refine Ev.step (f := fun _ => some (0, [], 1)) (fun k => ?_) (Ev.now _); simp only [spec_DiskCut.j0, ↓reduceIte]
  have hj1 : ∀ i, Ev (fun k => spec_DiskCut.j1 k nm n i true room l) (room, l, 2) := fun i => by
    refine Ev.step (f := fun _ => some (room, l, 2)) (fun k => ?_) (Ev.now _); simp only [spec_DiskCut.j1, ↓reduceIte, l3Copy_eq room l hl, Option.bind_some]
  cases h : diskOk room l
  · simp only [Bool.false_eq_true, ↓reduceIte, Bool.false_and]; exact hj
  · simp only [↓reduceIte, Bool.true_and, l3Name_eq, Option.bind_some]; cases h2 : inr nm 0 7
    · simp only [Bool.not_false, Bool.false_eq_true, ↓reduceIte]; exact hj
    · simp only [Bool.not_true, ↓reduceIte]; refine Ev.step (fun k => by simp only [spec_DiskCut.j0, Bool.false_eq_true, ↓reduceIte]; rfl) ?_; refine Ev.bind (findS_ev room l nm (by omega)) ?_; by_cases c : idxName l nm 0 < 0
      · simp only [c, ↓reduceIte]; exact hj1 _
      · have hb := idx_b nm l 0 (by omega); have hm := dsize_mem (rdF_mem l (idxName l nm 0) (by omega) (by omega)); have k1 : 0 ≤ idxName l nm 0 := by omega
        have k2 : idxName l nm 0 < (l.length : Int) := by omega
        have hw : wrap64 (((rd_T95 l (idxName l nm 0)).f1.size : Int) + ((rd_T95 l (idxName l nm 0)).f2.size : Int)) = ((rd_T95 l (idxName l nm 0)).f1.size : Int) + ((rd_T95 l (idxName l nm 0)).f2.size : Int) := w64 (by omega) (by omega); simp only [c, ↓reduceIte, k1, k2, hw, l1In_eq, Option.bind_some]; cases h3 : inr n 0 (((rd_T95 l (idxName l nm 0)).f1.size : Int) + ((rd_T95 l (idxName l nm 0)).f2.size : Int))
        · simp only [Bool.not_false, Bool.false_eq_true, ↓reduceIte]; exact hj1 _
        · have hr := of_decide_eq_true h3; obtain ⟨m1, m2, m3, m4⟩ := mn_b n ((rd_T95 l (idxName l nm 0)).f1.size : Int) hr.1 (by omega) ((rd_T95 l (idxName l nm 0)).f2.size : Int) (by omega) hr.2; have hw2 : wrap64 (n - mn n ((rd_T95 l (idxName l nm 0)).f1.size : Int)) = n - mn n ((rd_T95 l (idxName l nm 0)).f1.size : Int) := w64 (by omega) (by omega); simp only [Bool.not_true, ↓reduceIte]; refine Ev.step (fun k => by simp only [spec_DiskCut.j1, Bool.false_eq_true, ↓reduceIte, k1, k2, l1Min_eq, Option.bind_some, m1, m2, hw2, m3, m4]; rfl) ?_; refine Ev.bind (l3Put_ev room l (cutF l nm n) hl) ?_; have e := putG_set (cutF l nm n) l 0 0 (diskOk_asc h) (by omega) k1; rw [show (cutF l nm n).f0 = nm from rfl, Int.sub_zero] at e; rw [e]; exact Ev.now _
theorem implDiskCut_ev (room : Int) (l : List S95) (nm n : Int) (h1 : dsize l ≤ 1152921504606846976) (hl : l.length ≤ 3518437208878) : Ev (fun k => impl_DiskCut.f k room l nm n) (diskCut room l nm n) := by
  unfold impl_DiskCut.f diskCut; refine Ev.bind (implDiskOk_ev room l h1 (by omega)) ?_; have hj : Ev (fun k => impl_DiskCut.j0 k nm n true room l) (0, [], 1) := by
    refine Ev.step (f := fun _ => some (0, [], 1)) (fun k => ?_) (Ev.now _); simp only [impl_DiskCut.j0, ↓reduceIte]
  cases h : diskOk room l
  · simp only [Bool.false_eq_true, ↓reduceIte, Bool.false_and]; exact hj
  · simp only [↓reduceIte, Bool.true_and, isFile_eq, Option.bind_some]; cases h2 : inr nm 0 7
    · simp only [Bool.not_false, Bool.false_eq_true, ↓reduceIte]; exact hj
    · simp only [Bool.not_true, ↓reduceIte]; refine Ev.step (fun k => by simp only [impl_DiskCut.j0, Bool.false_eq_true, ↓reduceIte, copyDisk_eq room l hl, impl_fileAt.f, Option.bind_some]; rfl) ?_; by_cases c : idxName l nm 0 < 0
      · simp only [c, ↓reduceIte]; exact Ev.now _
      · have hb := idx_b nm l 0 (by omega); have hm := dsize_mem (rdF_mem l (idxName l nm 0) (by omega) (by omega)); have k1 : 0 ≤ idxName l nm 0 := by omega
        have k2 : idxName l nm 0 < (l.length : Int) := by omega
        have hw : wrap64 (((rd_T95 l (idxName l nm 0)).f1.size : Int) + ((rd_T95 l (idxName l nm 0)).f2.size : Int)) = ((rd_T95 l (idxName l nm 0)).f1.size : Int) + ((rd_T95 l (idxName l nm 0)).f2.size : Int) := w64 (by omega) (by omega); simp only [c, ↓reduceIte, k1, k2, hw, within_eq, Option.bind_some]; cases h3 : inr n 0 (((rd_T95 l (idxName l nm 0)).f1.size : Int) + ((rd_T95 l (idxName l nm 0)).f2.size : Int))
        · simp only [Bool.false_eq_true, ↓reduceIte]; exact Ev.now _
        · have hr := of_decide_eq_true h3; obtain ⟨m1, m2, m3, m4⟩ := mn_b n ((rd_T95 l (idxName l nm 0)).f1.size : Int) hr.1 (by omega) ((rd_T95 l (idxName l nm 0)).f2.size : Int) (by omega) hr.2; have hw2 : wrap64 (n - mn n ((rd_T95 l (idxName l nm 0)).f1.size : Int)) = n - mn n ((rd_T95 l (idxName l nm 0)).f1.size : Int) := w64 (by omega) (by omega); simp only [↓reduceIte, m1, m2, hw2, m3, m4]; exact Ev.now _

theorem dsize_set : ∀ (l : List S95) (i : Nat) (f : S95), dsize (l.set i f) ≤ dsize l + f.f1.size + f.f2.size
  | [], i, f => by simp [dsize]; omega
  | x :: t, 0, f => by have := dsize_nn t; simp only [List.set_cons_zero, dsize]; omega
  | x :: t, i + 1, f => by have := dsize_set t i f; simp only [List.set_cons_succ, dsize]; omega
theorem extract_le (s : ByteArray) (b : Nat) : (s.extract 0 b).size ≤ s.size := by rw [ByteArray.size_extract]; omega
theorem diskCut_size (room : Int) (l : List S95) (nm n : Int) : dsize (diskCut room l nm n).2.1 ≤ 2 * dsize l := by
  have hn := dsize_nn l; unfold diskCut
  split
  · split
    · simp only; omega
    · split
      · rename_i h1 h2 h3
        have hb := idx_b nm l 0 (by omega); have hm := dsize_mem (rdF_mem l (idxName l nm 0) (by omega) (by omega)); have hs := dsize_set l (idxName l nm 0).toNat (cutF l nm n); have e1 := extract_le (rd_T95 l (idxName l nm 0)).f1 (mn n ((rd_T95 l (idxName l nm 0)).f1.size : Int)).toNat; have e2 := extract_le (rd_T95 l (idxName l nm 0)).f2 (n - mn n ((rd_T95 l (idxName l nm 0)).f1.size : Int)).toNat; simp only [cutF] at hs ⊢; omega
      · simp only; omega
  · simp only [dsize]; omega

theorem diskOk_b {room : Int} {l : List S95} (h : diskOk room l = true) : 0 ≤ room ∧ room ≤ 40000 ∧ dsize l ≤ room ∧ l.length ≤ 8 := by
  unfold diskOk at h; simp only [Bool.and_eq_true, inr, decide_eq_true_eq] at h; have := asc_len l 0 (by omega) h.1; omega
def appF (l : List S95) (nm : Int) (s : ByteArray) : S95 :=
  if idxName l nm 0 ≥ 0 then ⟨(rd_T95 l (idxName l nm 0)).f0, (rd_T95 l (idxName l nm 0)).f1, (rd_T95 l (idxName l nm 0)).f2 ++ s⟩ else ⟨nm, (⟨#[]⟩ : ByteArray), (⟨#[]⟩ : ByteArray) ++ s⟩
def diskAppend (room : Int) (l : List S95) (nm : Int) (s : ByteArray) : Int × List S95 × Int :=
  if (diskOk room l && inr nm 0 7) = true then (if (s.size : Int) > room - dsize l then (room, l, 3) else (room, putG (appF l nm s) l, 0)) else (0, [], 1)
theorem dsize_oth (nm : Int) : ∀ l : List S95, dsize (oth nm l) ≤ dsize l ∧ (oth nm l).length ≤ l.length
  | [] => by simp [oth, dsize]
  | x :: t => by
    have h := dsize_oth nm t; have hn := dsize_nn (oth nm t); by_cases c : x.f0 = nm
    · rw [oth_cons_eq c]; simp only [dsize, List.length_cons]; omega
    · rw [oth_cons_ne c]; simp only [dsize, List.length_cons]; omega
theorem dsize_putG (f : S95) : ∀ l : List S95, dsize (putG f l) ≤ dsize l + f.f1.size + f.f2.size ∧ (putG f l).length ≤ l.length + 1
  | [] => by simp only [putG, dsize, List.length_cons, List.length_nil]; omega
  | x :: t => by
    have h := dsize_putG f t; simp only [putG]
    split
    · have := dsize_oth f.f0 (x :: t); simp only [dsize, List.length_cons] at this ⊢; omega
    · simp only [dsize, List.length_cons]; omega
theorem appF_size (l : List S95) (nm : Int) (s : ByteArray) (hl : l.length ≤ 140737488355328) : ((appF l nm s).f1.size : Int) + (appF l nm s).f2.size ≤ dsize l + s.size := by
  unfold appF
  split
  · rename_i h
    have hb := idx_b nm l 0 (by omega); have hm := dsize_mem (rdF_mem l (idxName l nm 0) (by omega) (by omega)); simp only [ByteArray.size_append]; omega
  · have hn := dsize_nn l; have : (⟨#[]⟩ : ByteArray).size = 0 := rfl; simp only [ByteArray.size_append, this]; omega
theorem diskAppend_b (room : Int) (l : List S95) (nm : Int) (s : ByteArray) (h1 : dsize l ≤ 100000) (hl : l.length ≤ 10) (hs : s.size ≤ 1000) :
    dsize (diskAppend room l nm s).2.1 ≤ 100000 ∧ (diskAppend room l nm s).2.1.length ≤ 10 := by
  have hn := dsize_nn l; unfold diskAppend
  split
  · rename_i h
    simp only [Bool.and_eq_true] at h; have hb := diskOk_b h.1
    split
    · exact ⟨h1, hl⟩
    · have h2 := dsize_putG (appF l nm s) l; have h3 := appF_size l nm s (by omega); exact ⟨by simp only; omega, by simp only; omega⟩
  · simp [dsize]
theorem specDiskAppend_ev (room : Int) (l : List S95) (nm : Int) (s : ByteArray) (h1 : dsize l ≤ 1152921504606846976) (hl : l.length ≤ 3518437208878) (hs : s.size ≤ 140737488355328) : Ev (fun k => spec_DiskAppend.f k room l nm s) (diskAppend room l nm s) := by
  unfold spec_DiskAppend.f diskAppend; refine Ev.bind (specDiskOk_ev room l h1 (by omega)) ?_; have hj : Ev (fun k => spec_DiskAppend.j0 k nm s true room l) (0, [], 1) := by
    refine Ev.step (f := fun _ => some (0, [], 1)) (fun k => ?_) (Ev.now _); simp only [spec_DiskAppend.j0, ↓reduceIte]
  cases h : diskOk room l
  · simp only [Bool.false_eq_true, ↓reduceIte, Bool.false_and]; exact hj
  · have hb := diskOk_b h; have hn := dsize_nn l; simp only [↓reduceIte, Bool.true_and, l3Name_eq, Option.bind_some]; cases h2 : inr nm 0 7
    · simp only [Bool.not_false, Bool.false_eq_true, ↓reduceIte]; exact hj
    · simp only [Bool.not_true, ↓reduceIte]; refine Ev.step (fun k => by simp only [spec_DiskAppend.j0, Bool.false_eq_true, ↓reduceIte]; rfl) ?_; refine Ev.bind (l3Size_ev room l (by omega) (by omega)) ?_; have hw : wrap64 (room - dsize l) = room - dsize l := w64 (by omega) (by omega); simp only [hw]; by_cases c : (s.size : Int) > room - dsize l
      · simp only [c, ↓reduceIte, l3Copy_eq room l hl, Option.bind_some]; exact Ev.now _
      · simp only [c, ↓reduceIte]; refine Ev.bind (findS_ev room l nm (by omega)) ?_; unfold appF; by_cases c2 : idxName l nm 0 ≥ 0
        · have hb2 := idx_b nm l 0 (by omega); have hm := dsize_mem (rdF_mem l (idxName l nm 0) (by omega) (by omega)); simp only [c2, ↓reduceIte, show 0 ≤ idxName l nm 0 by omega, show idxName l nm 0 < (l.length : Int) by omega, show (rd_T95 l (idxName l nm 0)).f2.size + s.size ≤ 9223372036854775807 by omega]; exact Ev.bind (l3Put_ev room l ⟨(rd_T95 l (idxName l nm 0)).f0, (rd_T95 l (idxName l nm 0)).f1, (rd_T95 l (idxName l nm 0)).f2 ++ s⟩ hl) (Ev.now _)
        · simp only [c2, ↓reduceIte, show 0 + s.size ≤ 9223372036854775807 by omega]; exact Ev.bind (l3Put_ev room l ⟨nm, (⟨#[]⟩ : ByteArray), (⟨#[]⟩ : ByteArray) ++ s⟩ hl) (Ev.now _)

def movF (l : List S95) (nm to_ : Int) : S95 := ⟨to_, (rd_T95 l (idxName l nm 0)).f1, (rd_T95 l (idxName l nm 0)).f2⟩
def diskMove (room : Int) (l : List S95) (nm to_ : Int) : Int × List S95 × Int :=
  if (diskOk room l && (inr nm 0 7 && (inr to_ 0 7 && !(nm == to_)))) = true then (if idxName l nm 0 < 0 then (room, l, 2) else (room, putG (movF l nm to_) (l.eraseIdx (idxName l nm 0).toNat), 0)) else (0, [], 1)
theorem dsize_erase : ∀ (l : List S95) (i : Nat), dsize (l.eraseIdx i) ≤ dsize l ∧ (l.eraseIdx i).length ≤ l.length
  | [], i => by simp [dsize]
  | x :: t, 0 => by have := dsize_nn t; simp only [List.eraseIdx_cons_zero, dsize, List.length_cons]; omega
  | x :: t, i + 1 => by have := dsize_erase t i; simp only [List.eraseIdx_cons_succ, dsize, List.length_cons]; omega
theorem diskMove_b (room : Int) (l : List S95) (nm to_ : Int) (h1 : dsize l ≤ 100000) (hl : l.length ≤ 10) :
    dsize (diskMove room l nm to_).2.1 ≤ 100000 ∧ (diskMove room l nm to_).2.1.length ≤ 10 := by
  have hn := dsize_nn l; unfold diskMove
  split
  · rename_i h
    simp only [Bool.and_eq_true] at h; have hb := diskOk_b h.1
    split
    · exact ⟨h1, hl⟩
    · rename_i h2
      have hb2 := idx_b nm l 0 (by omega); have hm := dsize_mem (rdF_mem l (idxName l nm 0) (by omega) (by omega)); have h3 := dsize_putG (movF l nm to_) (l.eraseIdx (idxName l nm 0).toNat); have h4 := dsize_erase l (idxName l nm 0).toNat; simp only [movF] at h3 ⊢; exact ⟨by omega, by omega⟩
  · simp [dsize]
theorem moveS_l (room rm : Int) (l : List S95) (j : Nat) (f : S95) (hl : l.length ≤ 3518437208878) (d : Nat) : ∀ i : Nat, i + d = l.length →
    Ev (fun k => spec_DiskMove.l0 k (j : Int) (i : Int) room l f.f0 f.f1 f.f2 rm ((l.take i).eraseIdx j)) (rm, putG f (l.eraseIdx j), 0) := by
  induction d with
  | zero =>
    intro i hi; have ht : l.take i = l := List.take_of_length_le (by omega); refine Ev.step (fun k => by simp only [spec_DiskMove.l0]; rw [if_neg (by omega), ht]) ?_; refine Ev.bind (l3Put_ev rm (l.eraseIdx j) f (by have := (dsize_erase l j).2; omega)) ?_; exact Ev.now _
  | succ d ih =>
    intro i hi; have h := ih (i + 1) (by omega); have hlt : i < l.length := by omega
    have hw : wrap64 ((i : Int) + 1) = ((i + 1 : Nat) : Int) := by rw [w64 (by omega) (by omega)]; omega
    have et : l.take (i + 1) = l.take i ++ [l[i]] := List.take_succ_eq_append_getElem hlt; have hti : (l.take i).length = i := by rw [List.length_take]; omega
    by_cases c : i = j
    · refine Ev.step (fun k => ?_) h; simp only [spec_DiskMove.l0]; rw [if_pos (by omega), if_pos (by omega), hw]; have e : (l.take (i + 1)).eraseIdx j = (l.take i).eraseIdx j := by
        rw [et, ← c, List.eraseIdx_append_of_length_le (by omega), hti, Nat.sub_self, List.eraseIdx_of_length_le (l := l.take i) (by omega)]
        simp
      rw [e]
    · refine Ev.step (fun k => ?_) h; have hle := (dsize_erase (l.take i) j).2; simp only [spec_DiskMove.l0]; rw [if_pos (by omega), if_neg (by omega), if_pos (by omega), if_pos (by omega), hw]; have e : (l.take (i + 1)).eraseIdx j = (l.take i).eraseIdx j ++ [rd_T95 l (i : Int)] := by
        have er : rd_T95 l (i : Int) = l[i] := by unfold rd_T95; simp [List.getD_eq_getElem?_getD, hlt]
        rw [et, er]; by_cases c2 : j < i
        · rw [List.eraseIdx_append_of_lt_length (by omega)]
        · rw [List.eraseIdx_of_length_le (l := l.take i ++ [l[i]]) (by simp; omega), List.eraseIdx_of_length_le (l := l.take i) (by omega)]
      rw [e]
theorem specDiskMove_ev (room : Int) (l : List S95) (nm to_ : Int) (h1 : dsize l ≤ 1152921504606846976) (hl : l.length ≤ 3518437208878) : Ev (fun k => spec_DiskMove.f k room l nm to_) (diskMove room l nm to_) := by
  unfold spec_DiskMove.f diskMove; refine Ev.bind (specDiskOk_ev room l h1 (by omega)) ?_; have hj : Ev (fun k => spec_DiskMove.j0 k nm to_ true room l) (0, [], 1) := by
    refine Ev.step (f := fun _ => some (0, [], 1)) (fun k => ?_) (Ev.now _); simp only [spec_DiskMove.j0, ↓reduceIte]
  cases h : diskOk room l
  · simp only [Bool.false_eq_true, ↓reduceIte, Bool.false_and]; exact hj
  simp only [↓reduceIte, Bool.true_and, l3Name_eq, Option.bind_some]; cases h2 : inr nm 0 7
  · simp only [Bool.false_and, Bool.false_eq_true, ↓reduceIte]; exact hj
  simp only [↓reduceIte, Bool.true_and]; cases h3 : inr to_ 0 7
  · simp only [Bool.false_and, Bool.false_eq_true, ↓reduceIte]; exact hj
  simp only [↓reduceIte, Bool.true_and]; cases h4 : nm == to_
  · simp only [Bool.not_false, ↓reduceIte]; refine Ev.step (fun k => by simp only [spec_DiskMove.j0, Bool.false_eq_true, ↓reduceIte]; rfl) ?_; refine Ev.bind (findS_ev room l nm (by omega)) ?_; by_cases c : idxName l nm 0 < 0
    · simp only [c, ↓reduceIte, l3Copy_eq room l hl, Option.bind_some]; exact Ev.now _
    · have hb2 := idx_b nm l 0 (by omega); have hm := moveS_l room room l (idxName l nm 0).toNat (movF l nm to_) hl l.length 0 (by omega); have e : (((idxName l nm 0).toNat : Nat) : Int) = idxName l nm 0 := by omega
      simp only [c, ↓reduceIte, show 0 ≤ idxName l nm 0 by omega, show idxName l nm 0 < (l.length : Int) by omega]; rw [e] at hm
      simpa [movF] using hm
  · simp only [Bool.not_true, Bool.false_eq_true, ↓reduceIte]; exact hj

def syncF (l : List S95) (nm : Int) : S95 := ⟨nm, (rd_T95 l (idxName l nm 0)).f1 ++ (rd_T95 l (idxName l nm 0)).f2, (⟨#[]⟩ : ByteArray)⟩
def diskSync (room : Int) (l : List S95) (nm : Int) : Int × List S95 × Int :=
  if (diskOk room l && inr nm 0 7) = true then (if idxName l nm 0 < 0 then (room, l, 2) else (room, l.set (idxName l nm 0).toNat (syncF l nm), 0)) else (0, [], 1)
theorem diskSync_len (room : Int) (l : List S95) (nm : Int) : (diskSync room l nm).2.1.length ≤ l.length := by
  unfold diskSync
  split
  · split <;> simp
  · simp
theorem specDiskSync_ev (room : Int) (l : List S95) (nm : Int) (h1 : dsize l ≤ 1152921504606846976) (hl : l.length ≤ 3518437208878) : Ev (fun k => spec_DiskSync.f k room l nm) (diskSync room l nm) := by
  unfold spec_DiskSync.f diskSync; refine Ev.bind (specDiskOk_ev room l h1 (by omega)) ?_; have hj : Ev (fun k => spec_DiskSync.j0 k nm true room l) (0, [], 1) := by
    refine Ev.step (f := fun _ => some (0, [], 1)) (fun k => ?_) (Ev.now _); simp only [spec_DiskSync.j0, ↓reduceIte]
  cases h : diskOk room l
  · simp only [Bool.false_eq_true, ↓reduceIte, Bool.false_and]; exact hj
  · simp only [↓reduceIte, Bool.true_and, l3Name_eq, Option.bind_some]; cases h2 : inr nm 0 7
    · simp only [Bool.not_false, Bool.false_eq_true, ↓reduceIte]; exact hj
    · simp only [Bool.not_true, ↓reduceIte]; refine Ev.step (fun k => by simp only [spec_DiskSync.j0, Bool.false_eq_true, ↓reduceIte]; rfl) ?_; refine Ev.bind (findS_ev room l nm (by omega)) ?_; by_cases c : idxName l nm 0 < 0
      · simp only [c, ↓reduceIte, l3Copy_eq room l hl, Option.bind_some]; exact Ev.now _
      · have hb := idx_b nm l 0 (by omega); have hm := dsize_mem (rdF_mem l (idxName l nm 0) (by omega) (by omega)); have k1 : 0 ≤ idxName l nm 0 := by omega
        have k2 : idxName l nm 0 < (l.length : Int) := by omega
        have k3 : ((rd_T95 l (idxName l nm 0)).f1).size + ((rd_T95 l (idxName l nm 0)).f2).size ≤ 9223372036854775807 := by omega
        simp only [c, ↓reduceIte, k1, k2, k3]; refine Ev.bind (l3Put_ev room l (syncF l nm) hl) ?_; have e := putG_set (syncF l nm) l 0 0 (diskOk_asc h) (by omega) k1; rw [show (syncF l nm).f0 = nm from rfl, Int.sub_zero] at e; rw [e]; exact Ev.now _
theorem implDiskSync_ev (room : Int) (l : List S95) (nm : Int) (h1 : dsize l ≤ 1152921504606846976) (hl : l.length ≤ 3518437208878) : Ev (fun k => impl_DiskSync.f k room l nm) (diskSync room l nm) := by
  unfold impl_DiskSync.f diskSync; refine Ev.bind (implDiskOk_ev room l h1 (by omega)) ?_; have hj : Ev (fun k => impl_DiskSync.j0 k nm true room l) (0, [], 1) := by
    refine Ev.step (f := fun _ => some (0, [], 1)) (fun k => ?_) (Ev.now _); simp only [impl_DiskSync.j0, ↓reduceIte]
  cases h : diskOk room l
  · simp only [Bool.false_eq_true, ↓reduceIte, Bool.false_and]; exact hj
  · simp only [↓reduceIte, Bool.true_and, isFile_eq, Option.bind_some]; cases h2 : inr nm 0 7
    · simp only [Bool.not_false, Bool.false_eq_true, ↓reduceIte]; exact hj
    · simp only [Bool.not_true, ↓reduceIte]; refine Ev.step (fun k => by simp only [impl_DiskSync.j0, Bool.false_eq_true, ↓reduceIte, copyDisk_eq room l hl, impl_fileAt.f, Option.bind_some]; rfl) ?_; by_cases c : idxName l nm 0 < 0
      · simp only [c, ↓reduceIte]; exact Ev.now _
      · have hb := idx_b nm l 0 (by omega); have hm := dsize_mem (rdF_mem l (idxName l nm 0) (by omega) (by omega)); have k1 : 0 ≤ idxName l nm 0 := by omega
        have k2 : idxName l nm 0 < (l.length : Int) := by omega
        have k3 : ((rd_T95 l (idxName l nm 0)).f1).size + ((rd_T95 l (idxName l nm 0)).f2).size ≤ 9223372036854775807 := by omega
        simp only [c, ↓reduceIte, k1, k2, k3]; exact Ev.now _

theorem l1Byte_ok (b : List Int) (i h : Int) (hi : 0 ≤ i ∧ i ≤ 9223372036854775807) (hb : b.length ≤ 140737488355328) : ∃ x i' h', spec_l1Byte.f b i h = some (x, i', h') ∧ 0 ≤ i' ∧ i' ≤ 9223372036854775807 := by
  unfold spec_l1Byte.f; by_cases c : i < (b.length : Int)
  · rw [if_pos c, if_pos hi.1, w64 (x := i + 1) (by omega) (by omega)]; exact ⟨_, _, _, rfl, by omega, by omega⟩
  · rw [if_neg c]; exact ⟨_, _, _, rfl, hi.1, hi.2⟩
theorem l1Below_ok (b : List Int) (i h a : Int) (hi : 0 ≤ i ∧ i ≤ 9223372036854775807) (hb : b.length ≤ 140737488355328) : ∃ x i' h', spec_l1Below.f b i h a = some (x, i', h') ∧ (0 ≤ i' ∧ i' ≤ 9223372036854775807) ∧ (a ≤ 0 → x = 0) ∧ (0 < a → -a < x ∧ x < a) := by
  unfold spec_l1Below.f; by_cases c : a ≤ 0
  · rw [if_pos c]; exact ⟨_, _, _, rfl, hi, fun _ => rfl, fun h => by omega⟩
  · rw [if_neg c]; have ht : ∀ x : Int, -a < Int.tmod x a ∧ Int.tmod x a < a := fun x => by
      have h1 := Int.tmod_lt_of_pos x (show 0 < a by omega); have h2 := Int.lt_tmod_of_pos x (show 0 < a by omega); omega
    by_cases c2 : a ≤ 256
    · rw [if_pos c2]; obtain ⟨x, i', h', e, p⟩ := l1Byte_ok b i h hi hb; rw [e]; simp only [Option.bind_some]; rw [if_neg (by omega)]; exact ⟨_, _, _, rfl, p, fun h => by omega, fun _ => ht _⟩
    · rw [if_neg c2]; obtain ⟨x1, i1, h1, e1, p1⟩ := l1Byte_ok b i h hi hb; obtain ⟨x2, i2, h2, e2, p2⟩ := l1Byte_ok b i1 h1 p1 hb; obtain ⟨x3, i3, h3, e3, p3⟩ := l1Byte_ok b i2 h2 p2 hb; obtain ⟨x4, i4, h4, e4, p4⟩ := l1Byte_ok b i3 h3 p3 hb; rw [e1]; simp only [Option.bind_some]; rw [e2]; simp only [Option.bind_some]; rw [e3]; simp only [Option.bind_some]; rw [e4]; simp only [Option.bind_some]; rw [if_neg (by omega)]; exact ⟨_, _, _, rfl, p4, fun h => by omega, fun _ => ht _⟩
theorem l1New_l (l : List Int) (hl : l.length ≤ 140737488355328) (d : Nat) : ∀ (h i : Int), 0 ≤ i → i + d = 4000 → ∃ h', Ev (fun k => spec_l1New.l0 k l h i) (l, 0, h') := by
  induction d with
  | zero =>
    intro h i h0 hd; refine ⟨h, ?_⟩; refine Ev.step (f := fun _ => some (l, 0, h)) (fun k => ?_) (Ev.now _); simp only [spec_l1New.l0]
    split
    · rw [if_neg (by omega)]
    · rfl
  | succ d ih =>
    intro h i h0 hd; by_cases c : i < (l.length : Int)
    · obtain ⟨h', hh⟩ := ih (Go.bits .and .i64 (wrap64 ((wrap64 ((wrap64 (h * 131)) + (wrap64 (rd l i)))) + 7)) 1073741823) (i + 1) (by omega) (by omega); refine ⟨h', Ev.step (fun k => ?_) hh⟩; simp only [spec_l1New.l0]; rw [if_pos c, if_pos (by omega), if_pos h0, w64 (x := i + 1) (by omega) (by omega)]
    · refine ⟨h, Ev.step (f := fun _ => some (l, 0, h)) (fun k => ?_) (Ev.now _)⟩; simp only [spec_l1New.l0]; rw [if_neg c]
theorem l1New_ev (l : List Int) (hl : l.length ≤ 140737488355328) : ∃ h', Ev (fun k => spec_l1New.f k l) (l, 0, h') := by
  unfold spec_l1New.f; exact l1New_l l hl 4000 _ 0 (by omega) (by omega)
theorem l1Once_ok (b : List Int) (i h a : Int) (hi : 0 ≤ i ∧ i ≤ 9223372036854775807) (hb : b.length ≤ 140737488355328) : ∃ x i' h', spec_l1Once.f b i h a = some (x, i', h') ∧ (0 ≤ i' ∧ i' ≤ 9223372036854775807) := by
  unfold spec_l1Once.f; obtain ⟨x, i', h', e, p, _⟩ := l1Below_ok b i h a hi hb; rw [e]; exact ⟨_, _, _, rfl, p⟩

theorem l1DrawBytes_l (b : List Int) (hb : b.length ≤ 140737488355328) (n : Int) (hn : n ≤ 1000000) (d : Nat) : ∀ (acc : List Int) (j i h : Int), By acc → (acc.length : Int) = j → 0 ≤ j → (j ≤ n → j + d = n) → (n < j → d = 0) → (0 ≤ i ∧ i ≤ 9223372036854775807) → ∃ r i' h', Ev (fun k => spec_l1DrawBytes.l0 k acc n j b i h) (r, i', h') ∧ By r ∧ ((r.length : Int) ≤ n ∨ r = acc) ∧ (0 ≤ i' ∧ i' ≤ 9223372036854775807) := by
  induction d with
  | zero =>
    intro acc j i h ha hl h0 hd hd2 hi; refine ⟨acc, i, h, Ev.step (f := fun _ => some (acc, i, h)) (fun k => ?_) (Ev.now _), ha, .inr rfl, hi⟩; simp only [spec_l1DrawBytes.l0]; rw [if_neg (by omega)]
  | succ d ih =>
    intro acc j i h ha hl h0 hd hd2 hi; have c : j < n := by omega
    obtain ⟨x, i1, h1, e, p⟩ := l1Byte_ok b i h hi hb; obtain ⟨r, i', h', hh, hr, hrl, hi'⟩ := ih (acc ++ [x % 256]) (j + 1) i1 h1 (fun y hy => by
      rcases List.mem_append.1 hy with hy | hy
      · exact ha y hy
      · simp at hy; omega) (by simp; omega) (by omega) (by omega) (by omega) p
    refine ⟨r, i', h', Ev.step (fun k => ?_) hh, hr, .inl ?_, hi'⟩
    · simp only [spec_l1DrawBytes.l0]; rw [if_pos c, e]; simp only [Option.bind_some]; rw [if_pos (by omega), w64 (by omega) (by omega)]
    · rcases hrl with h | rfl
      · exact h
      · simp; omega
theorem l1DrawBytes_ev (b : List Int) (i h a : Int) (hb : b.length ≤ 140737488355328) (hi : 0 ≤ i ∧ i ≤ 9223372036854775807) (ha : 0 ≤ a ∧ a ≤ 1000000) : ∃ r i' h', Ev (fun k => spec_l1DrawBytes.f k b i h a) (r, i', h') ∧ By r ∧ (r.length : Int) ≤ a ∧ (0 ≤ i' ∧ i' ≤ 9223372036854775807) := by
  unfold spec_l1DrawBytes.f; rw [w64 (x := a + 1) (by omega) (by omega)]; obtain ⟨n, i1, h1, e, p, hx0, hx⟩ := l1Below_ok b i h (a + 1) hi hb; have hx := hx (by omega); obtain ⟨r, i', h', hh, hr, hrl, hi'⟩ := l1DrawBytes_l b hb n (by omega) n.toNat [] 0 i1 h1 (by intro y hy; simp at hy) rfl (by omega) (by omega) (by omega) p; refine ⟨r, i', h', ?_, hr, ?_, hi'⟩
  · rw [e]; simp only [Option.bind_some]; exact hh
  · rcases hrl with h | rfl
    · omega
    · simp; omega

theorem and_maskZ (i : Nat) (hi : i ≤ 62) (x : Int) : Go.bits .and .i64 x (2 ^ i - 1) = x % 2 ^ i := by
  have hpos : 0 < 2 ^ i := Nat.two_pow_pos i; have hle : 2 ^ i ≤ 2 ^ 62 := Nat.pow_le_pow_right (by decide) hi; have hc : ((2 : Int) ^ i - 1) = ((2 ^ i - 1 : Nat) : Int) := by rw [Int.natCast_sub hpos]; simp
  have hb : IntKind.i64.bits = 64 := rfl; have hd : ((2 : Int) ^ i) ∣ ((2 : Int) ^ 64) := ⟨2 ^ (64 - i), by rw [← Int.pow_add]; congr 1; omega⟩; have hx : (((x % (2 : Int) ^ 64).toNat : Nat) : Int) = x % (2 : Int) ^ 64 := Int.toNat_of_nonneg (Int.emod_nonneg _ (by decide)); rw [hc]; simp only [Go.bits, hb, BitVec.ofInt_natCast, BitVec.toNat_and, BitVec.toNat_ofNat, BitVec.toNat_ofInt]; rw [Nat.mod_eq_of_lt (show 2 ^ i - 1 < 2 ^ 64 by omega), Nat.and_two_pow_sub_one_eq_mod]; have e : (((x % ((2 ^ 64 : Nat) : Int)).toNat % 2 ^ i : Nat) : Int) = x % 2 ^ i := by
    rw [Int.natCast_emod]; have : ((2 ^ 64 : Nat) : Int) = (2 : Int) ^ 64 := by simp
    rw [this, hx]; have h2 : ((2 ^ i : Nat) : Int) = (2 : Int) ^ i := by simp
    rw [h2, Int.emod_emod_of_dvd _ hd]
  rw [e]; have h1 := Int.emod_nonneg x (show (2 : Int) ^ i ≠ 0 by exact_mod_cast Nat.ne_of_gt hpos); have h2 := Int.emod_lt_of_pos x (show (0 : Int) < 2 ^ i by exact_mod_cast hpos); have h3 : (2 : Int) ^ i ≤ 2 ^ 62 := by exact_mod_cast hle
  exact wraps_i64 _ h1 (by omega)
theorem and255 (x : Int) : Go.bits .and .i64 x 255 = x % 256 := and_maskZ 8 (by decide) x

theorem l1Byte_nn (b : List Int) (i h x : Int) (i' h' : Int) (e : spec_l1Byte.f b i h = some (x, i', h')) : 0 ≤ x ∧ x ≤ 255 := by
  unfold spec_l1Byte.f at e; simp only [and255] at e
  split at e
  · split at e
    · simp only [Option.some.injEq, Prod.mk.injEq] at e; omega
    · simp at e
  · simp only [Option.some.injEq, Prod.mk.injEq] at e; omega
theorem l1Below_nn (b : List Int) (i h a x : Int) (i' h' : Int) (e : spec_l1Below.f b i h a = some (x, i', h')) : 0 ≤ x := by
  unfold spec_l1Below.f at e
  split at e
  · simp only [Option.some.injEq, Prod.mk.injEq] at e; omega
  · split at e
    · obtain ⟨⟨x1, i1, h1⟩, e1, e⟩ := Option.bind_eq_some_iff.1 e; have := l1Byte_nn _ _ _ _ _ _ e1; simp only at e
      split at e
      · simp at e
      · simp only [Option.some.injEq, Prod.mk.injEq] at e; rw [← e.1]; exact Int.tmod_nonneg _ (by omega)
    · obtain ⟨⟨x1, i1, h1⟩, e1, e⟩ := Option.bind_eq_some_iff.1 e; obtain ⟨⟨x2, i2, h2⟩, e2, e⟩ := Option.bind_eq_some_iff.1 e; obtain ⟨⟨x3, i3, h3⟩, e3, e⟩ := Option.bind_eq_some_iff.1 e; obtain ⟨⟨x4, i4, h4⟩, e4, e⟩ := Option.bind_eq_some_iff.1 e; have b1 := l1Byte_nn _ _ _ _ _ _ e1; have b2 := l1Byte_nn _ _ _ _ _ _ e2; have b3 := l1Byte_nn _ _ _ _ _ _ e3; have b4 := l1Byte_nn _ _ _ _ _ _ e4; simp only at e
      split at e
      · simp at e
      · simp only [Option.some.injEq, Prod.mk.injEq] at e; rw [← e.1]; refine Int.tmod_nonneg _ ?_; rw [w64 (x := x1 * 16777216) (by omega) (by omega), w64 (x := x2 * 65536) (by omega) (by omega), w64 (x := x3 * 256) (by omega) (by omega), w64 (x := x1 * 16777216 + x2 * 65536) (by omega) (by omega), w64 (x := x1 * 16777216 + x2 * 65536 + x3 * 256) (by omega) (by omega), w64 (by omega) (by omega)]; omega
theorem rd_mem (l : List Int) (i : Int) (h0 : 0 ≤ i) (h1 : i < l.length) : rd l i ∈ l := by
  unfold rd; rw [List.getD_eq_getElem?_getD, List.getElem?_eq_getElem (by omega)]; exact List.getElem_mem _
theorem l1PickInt_ok (b : List Int) (i h : Int) (l : List Int) (hi : 0 ≤ i ∧ i ≤ 9223372036854775807) (hb : b.length ≤ 140737488355328) (hl : 0 < l.length) : ∃ x i' h', spec_l1PickInt.f b i h l = some (x, i', h') ∧ (0 ≤ i' ∧ i' ≤ 9223372036854775807) ∧ x ∈ l := by
  obtain ⟨x, i', h', e, p, _, hx⟩ := l1Below_ok b i h l.length hi hb; have hn := l1Below_nn _ _ _ _ _ _ _ e; have hx := hx (by omega); refine ⟨rd l x, i', h', ?_, p, rd_mem l x hn hx.2⟩; unfold spec_l1PickInt.f; rw [e]; simp only [Option.bind_some]; rw [if_pos hn, if_pos hx.2]
theorem strOf_inj {a b : List Int} (ha : By a) (hb : By b) (h : strOfNums a = strOfNums b) : a = b := by
  have h2 : (a.map fun n => UInt8.ofNat n.toNat) = (b.map fun n => UInt8.ofNat n.toNat) := by
    have := congrArg (fun s : ByteArray => s.data.toList) h
    simpa [strOfNums_data] using this
  clear h
  induction a generalizing b with
  | nil => cases b with
    | nil => rfl
    | cons y t => simp at h2
  | cons x s ih => cases b with
    | nil => simp at h2
    | cons y t =>
      simp only [List.map_cons, List.cons.injEq] at h2; have hx := ha x (by simp); have hy := hb y (by simp); have e := congrArg UInt8.toNat h2.1; simp only [UInt8.toNat_ofNat'] at e; have : x = y := by omega
      rw [this, ih (fun z hz => ha z (by simp [hz])) (fun z hz => hb z (by simp [hz])) h2.2]
theorem toList_inj {a b : ByteArray} (h : a.toList = b.toList) : a = b := by
  rw [ByteArray.toList_eq, ByteArray.toList_eq] at h; exact ByteArray.ext (Array.toList_inj.1 h)
theorem strOf_iff {a b : List Int} (ha : By a) (hb : By b) : (strOfNums a).toList = (strOfNums b).toList ↔ a = b :=
  ⟨fun h => strOf_inj ha hb (toList_inj h), fun h => by rw [h]⟩

theorem syncF_size (l : List S95) (nm : Int) (h : 0 ≤ idxName l nm 0) : ((syncF l nm).f1.size : Int) + (syncF l nm).f2.size ≤ dsize l := by
  have hb := idx_b nm l 0 (by omega); have hm := dsize_mem (rdF_mem l (idxName l nm 0) (by omega) (by omega)); have : (⟨#[]⟩ : ByteArray).size = 0 := rfl; simp only [syncF, ByteArray.size_append, this]; omega
theorem diskSync_b (room : Int) (l : List S95) (nm : Int) (h1 : dsize l ≤ 100000) (hl : l.length ≤ 10) : dsize (diskSync room l nm).2.1 ≤ 100000 ∧ (diskSync room l nm).2.1.length ≤ 10 := by
  have hn := dsize_nn l; unfold diskSync
  split
  · rename_i h
    simp only [Bool.and_eq_true] at h; have hb := diskOk_b h.1
    split
    · exact ⟨h1, hl⟩
    · have h2 := dsize_set l (idxName l nm 0).toNat (syncF l nm); have h3 := syncF_size l nm (by omega); exact ⟨by simp only; omega, by simp only [List.length_set]; omega⟩
  · simp [dsize]
theorem strOf_size (l : List Int) : (strOfNums l).size = l.length := by rw [← data_length, strOfNums_data, List.length_map]
theorem l3DrawText_ok (b : List Int) (i h a : Int) (hi : 0 ≤ i ∧ i ≤ 9223372036854775807) (hb : b.length ≤ 140737488355328) (ha : 0 ≤ a ∧ a ≤ 1000) : ∃ s i' h', Ev (fun k => spec_l3DrawText.f k b i h a) (s, i', h') ∧ (s.size : Int) ≤ a ∧ (0 ≤ i' ∧ i' ≤ 9223372036854775807) := by
  obtain ⟨r, i1, h1, e1, hr, hrl, p1⟩ := l1DrawBytes_ev b i h a hb hi (by omega); refine ⟨strOfNums r, i1, h1, ?_, by rw [strOf_size]; exact hrl, p1⟩; unfold spec_l3DrawText.f; exact Ev.bind e1 (Ev.now _)
theorem diskSync_room (room : Int) (l : List S95) (nm : Int) : (diskSync room l nm).1 = room ∨ (diskSync room l nm).1 = 0 := by
  unfold diskSync
  split
  · split <;> exact .inl rfl
  · exact .inr rfl
theorem diskMove_room (room : Int) (l : List S95) (nm to_ : Int) : (diskMove room l nm to_).1 = room ∨ (diskMove room l nm to_).1 = 0 := by
  unfold diskMove
  split
  · split <;> exact .inl rfl
  · exact .inr rfl
theorem diskAppend_room (room : Int) (l : List S95) (nm : Int) (s : ByteArray) : (diskAppend room l nm s).1 = room ∨ (diskAppend room l nm s).1 = 0 := by
  unfold diskAppend
  split
  · split <;> exact .inl rfl
  · exact .inr rfl
def DB (room : Int) (l : List S95) : Prop := (-9223372036854775808 ≤ room ∧ room ≤ 9223372036854775807) ∧ dsize l ≤ 100000 ∧ l.length ≤ 10
theorem dsize_snoc (x : S95) : ∀ l : List S95, dsize (l ++ [x]) = dsize l + x.f1.size + x.f2.size
  | [] => by simp [dsize]
  | y :: t => by have := dsize_snoc x t; simp only [List.cons_append, dsize, this]; omega
theorem l3DrawName_ok (b : List Int) (hb : b.length ≤ 140737488355328) (i h : Int) (hi : 0 ≤ i ∧ i ≤ 9223372036854775807) :
    ∃ x i' h', spec_l3DrawName.f b i h = some (x, i', h') ∧ (0 ≤ i' ∧ i' ≤ 9223372036854775807) := by
  obtain ⟨y, i1, h1, e1, p1⟩ := l1Once_ok b i h 20 hi hb; unfold spec_l3DrawName.f; cases y
  · obtain ⟨x, i2, h2, e2, p2, _, b2⟩ := l1Below_ok b i1 h1 5 p1 hb; refine ⟨x, i2, h2, ?_, p2⟩; simp only [e1, e2, Option.bind_some, Bool.false_eq_true, ↓reduceIte]
  · obtain ⟨x, i2, h2, e2, p2, m2⟩ := l1PickInt_ok b i1 h1 [(-1), 8, 7] p1 hb (by simp); refine ⟨x, i2, h2, ?_, p2⟩; simp only [e1, e2, Option.bind_some, ↓reduceIte]

theorem empty_app (s : ByteArray) : (⟨#[]⟩ : ByteArray) ++ s = s := by
  apply ByteArray.ext
  simp
theorem idx_none (nm : Int) : ∀ (l : List S95) (i : Int), 0 ≤ i → idxName l nm i < 0 → ∀ x ∈ l, x.f0 ≠ nm
  | [], i, h, h1, x, hx => by simp at hx
  | y :: t, i, h, h1, x, hx => by
    simp only [idxName] at h1; by_cases c : y.f0 = nm
    · simp only [c, ↓reduceIte] at h1; omega
    · simp only [c, ↓reduceIte] at h1; rcases List.mem_cons.1 hx with rfl | hx
      · exact c
      · exact idx_none nm t (i + 1) (by omega) h1 x hx
theorem idx_nameA (nm : Int) : ∀ (l : List S95) (i : Int), 0 ≤ i → 0 ≤ idxName l nm i → (rd_T95 l (idxName l nm i - i)).f0 = nm
  | [], i, h, h1 => by simp [idxName] at h1
  | y :: t, i, h, h1 => by
    simp only [idxName] at h1 ⊢; by_cases c : y.f0 = nm
    · simp only [c, ↓reduceIte, Int.sub_self]; unfold rd_T95; simpa using c
    · simp only [c, ↓reduceIte] at h1 ⊢; have ih := idx_nameA nm t (i + 1) (by omega) h1; have hb := idx_b nm t (i + 1) (by omega); have e : (idxName t nm (i + 1) - i).toNat = (idxName t nm (i + 1) - (i + 1)).toNat + 1 := by omega
      unfold rd_T95 at ih ⊢; rw [e]
      simpa using ih
theorem putG_place (f : S95) : ∀ l : List S95, (∀ x ∈ l, x.f0 ≠ f.f0) → putG f l = placeL l f
  | [], _ => by simp [putG, placeL, placeIdx]
  | x :: t, h => by
    have hx := h x (by simp); by_cases c : x.f0 ≥ f.f0
    · have e : placeIdx (x :: t) f.f0 = 0 := by
        have : ¬ x.f0 < f.f0 := by omega
        simp [placeIdx, this]
      have ho : oth f.f0 (x :: t) = x :: t := by
        unfold oth; rw [List.filter_eq_self]; intro y hy
        simpa using h y hy
      simp only [putG, c, ↓reduceIte, ho, placeL, e, List.take_zero, List.drop_zero, List.nil_append, List.cons_append]
    · have e : placeIdx (x :: t) f.f0 = placeIdx t f.f0 + 1 := by
        have : x.f0 < f.f0 := by omega
        simp [placeIdx, this]
      have ih := putG_place f t (fun y hy => h y (by simp [hy])); unfold placeL at ih ⊢; simp only [putG, c, ↓reduceIte, e, List.take_succ_cons, List.drop_succ_cons, List.cons_append, ih]
theorem diskAppend_len (room : Int) (l : List S95) (nm : Int) (s : ByteArray) : (diskAppend room l nm s).2.1.length ≤ l.length + 1 := by
  unfold diskAppend
  split
  · split
    · simp
    · exact (dsize_putG (appF l nm s) l).2
  · simp
theorem implDiskAppend_ev (room : Int) (l : List S95) (nm : Int) (s : ByteArray) (h1 : dsize l ≤ 1152921504606846976) (hl : l.length ≤ 3518437208878) (hs : s.size ≤ 140737488355328) : Ev (fun k => impl_DiskAppend.f k room l nm s) (diskAppend room l nm s) := by
  unfold impl_DiskAppend.f diskAppend; refine Ev.bind (implDiskOk_ev room l h1 (by omega)) ?_; have hj : Ev (fun k => impl_DiskAppend.j0 k nm s true room l) (0, [], 1) := by
    refine Ev.step (f := fun _ => some (0, [], 1)) (fun k => ?_) (Ev.now _); simp only [impl_DiskAppend.j0, ↓reduceIte]
  cases h : diskOk room l
  · simp only [Bool.false_eq_true, ↓reduceIte, Bool.false_and]; exact hj
  · have hb := diskOk_b h; have hn := dsize_nn l; simp only [↓reduceIte, Bool.true_and, isFile_eq, Option.bind_some]; cases h2 : inr nm 0 7
    · simp only [Bool.not_false, Bool.false_eq_true, ↓reduceIte]; exact hj
    · simp only [Bool.not_true, ↓reduceIte]; refine Ev.step (fun k => by simp only [impl_DiskAppend.j0, Bool.false_eq_true, ↓reduceIte]; rfl) ?_; refine Ev.bind (sizeOf_ev room l (by omega) (by omega)) ?_; have hw : wrap64 (dsize l + (s.size : Int)) = dsize l + s.size := w64 (by omega) (by omega); simp only [hw]; by_cases c : (s.size : Int) > room - dsize l
      · have c' : dsize l + (s.size : Int) > room := by omega
        simp only [c, c', ↓reduceIte, copyDisk_eq room l hl, Option.bind_some]; exact Ev.now _
      · have c' : ¬ dsize l + (s.size : Int) > room := by omega
        simp only [c, c', ↓reduceIte, impl_fileAt.f, Option.bind_some]; unfold appF; by_cases c2 : idxName l nm 0 < 0
        · have c3 : ¬ idxName l nm 0 ≥ 0 := by omega
          simp only [c2, c3, ↓reduceIte, impl_placed.f, show l.length ≤ 1000 by omega, Option.bind_some, empty_app]; rw [putG_place _ l (idx_none nm l 0 (by omega) c2)]; exact Ev.now _
        · have hb2 := idx_b nm l 0 (by omega); have hm := dsize_mem (rdF_mem l (idxName l nm 0) (by omega) (by omega)); have hnm := idx_nameA nm l 0 (by omega) (by omega); rw [Int.sub_zero] at hnm; have e := putG_set ⟨(rd_T95 l (idxName l nm 0)).f0, (rd_T95 l (idxName l nm 0)).f1, (rd_T95 l (idxName l nm 0)).f2 ++ s⟩ l 0 0 (diskOk_asc h) (by omega) (by rw [hnm]; omega); simp only [hnm, Int.sub_zero] at e; simp only [c2, ↓reduceIte, copyDisk_eq room l hl, Option.bind_some, show idxName l nm 0 ≥ 0 by omega, show 0 ≤ idxName l nm 0 by omega, show idxName l nm 0 < (l.length : Int) by omega, show (rd_T95 l (idxName l nm 0)).f2.size + s.size ≤ 9223372036854775807 by omega, hnm, e]; exact Ev.now _

theorem l1Max_eq (a b : Int) : spec_l1Max.f a b = some (mx a b) := by
  unfold spec_l1Max.f mx; by_cases h : a > b
  · rw [if_pos h, if_neg (by omega)]
  · rw [if_neg h]; by_cases h2 : a < b
    · rw [if_pos h2]
    · rw [if_neg h2]; exact congrArg some (by omega)
theorem mnmx_b (a b : Int) (h : 0 ≤ b) : 0 ≤ mn (mx a 0) b ∧ mn (mx a 0) b ≤ b := by
  unfold mn mx; split <;> split <;> omega
def crashK (ks : List Int) (i : Int) (x : S95) : Nat := if i < (ks.length : Int) then (mn (mx (rd ks i) 0) (x.f2.size : Int)).toNat else 0
def crashF (ks : List Int) (i : Int) (x : S95) : S95 := ⟨x.f0, x.f1 ++ x.f2.extract 0 (crashK ks i x), (⟨#[]⟩ : ByteArray)⟩
def crash (ks : List Int) : List S95 → Int → List S95
  | [], _ => []
  | x :: t, i => crashF ks i x :: crash ks t (i + 1)
theorem crash_length (ks : List Int) : ∀ (l : List S95) (i : Int), (crash ks l i).length = l.length
  | [], _ => rfl
  | x :: t, i => by rw [crash, List.length_cons, List.length_cons, crash_length ks t]
theorem ext_le (s : ByteArray) (n : Nat) : (s.extract 0 n).size ≤ s.size := by rw [ByteArray.size_extract]; omega
theorem specCrash_l (ks : List Int) (room rm : Int) (rest : List S95) : ∀ (P out : List S95), (∀ x ∈ rest, (x.f1.size : Int) + x.f2.size ≤ 1152921504606846976) → P.length + rest.length ≤ 140737488355328 → out.length + rest.length ≤ 3518437208878 → Ev (fun k => spec_DiskCrash.l0 k ks (P.length : Int) room (P ++ rest) rm out) (rm, out ++ crash ks rest (P.length : Int)) := by
  induction rest with
  | nil =>
    intro P out hx hl ho; refine Ev.step (f := fun _ => some (rm, out)) (fun k => ?_) ?_
    · simp only [spec_DiskCrash.l0]; rw [if_neg (by simp)]
    · simp [crash]; exact Ev.now _
  | cons x t ih =>
    intro P out hx hl ho; simp only [List.length_cons] at hl ho; have hs := hx x (by simp); have el : ((P ++ x :: t).length : Int) = P.length + t.length + 1 := by simp; omega
    have hw1 : wrap64 ((P.length : Int) + 1) = ((P ++ [x]).length : Int) := by rw [w64 (by omega) (by omega)]; simp
    have ea : P ++ x :: t = P ++ [x] ++ t := by simp
    have h := ih (P ++ [x]) (out ++ [crashF ks (P.length : Int) x]) (fun y hy => hx y (by simp [hy])) (by simp; omega) (by simp; omega); have ep : ((P ++ [x]).length : Int) = P.length + 1 := by simp
    have er : out ++ crash ks (x :: t) (P.length : Int) = out ++ [crashF ks (P.length : Int) x] ++ crash ks t ((P ++ [x]).length : Int) := by rw [ep]; simp [crash]
    rw [er]; refine Ev.step (fun k => ?_) h; simp only [spec_DiskCrash.l0]; rw [if_pos (by omega), if_pos (by omega), rdF_mid]; by_cases c : (P.length : Int) < (ks.length : Int)
    · have hm := mnmx_b (rd ks (P.length : Int)) (x.f2.size : Int) (by omega); have he := ext_le x.f2 (mn (mx (rd ks (P.length : Int)) 0) (x.f2.size : Int)).toNat; have ef : crashF ks (P.length : Int) x = ⟨x.f0, x.f1 ++ x.f2.extract 0 (mn (mx (rd ks (P.length : Int)) 0) (x.f2.size : Int)).toNat, (⟨#[]⟩ : ByteArray)⟩ := by unfold crashF crashK; rw [if_pos c]
      rw [if_pos c, l1Max_eq]; simp only [Option.bind_some, l1Min_eq]; rw [if_pos hm.1, if_pos hm.2, if_pos (by omega), if_pos (by omega), hw1, ea, ef]
    · have he := ext_le x.f2 0; have ef : crashF ks (P.length : Int) x = ⟨x.f0, x.f1, (⟨#[]⟩ : ByteArray)⟩ := by unfold crashF crashK; rw [if_neg c]; simp
      rw [if_neg c, if_pos (by omega), if_pos (by omega), if_pos (by omega), if_pos (by omega), hw1, ea, ef]
theorem implCrash_l (ks : List Int) (F : List S95) (hF : F.length ≤ 140737488355328) (rm : Int) (rest : List S95) : ∀ (P acc : List S95), F = P ++ rest → acc.length = P.length → (∀ x ∈ rest, (x.f1.size : Int) + x.f2.size ≤ 1152921504606846976) → Ev (fun k => impl_DiskCrash.l0 k ks F (F.length : Int) (P.length : Int) rm (acc ++ rest)) (rm, acc ++ crash ks rest (P.length : Int)) := by
  induction rest with
  | nil =>
    intro P acc hPF ha hx; refine Ev.step (f := fun _ => some (rm, acc)) (fun k => ?_) ?_
    · simp only [impl_DiskCrash.l0]; rw [if_neg (by rw [hPF]; simp)]; simp
    · simp [crash]; exact Ev.now _
  | cons x t ih =>
    intro P acc hPF ha hx; have hs := hx x (by simp); have el : (F.length : Int) = P.length + t.length + 1 := by rw [hPF]; simp; omega
    have hr : rd_T95 F (P.length : Int) = x := by rw [hPF]; exact rdF_mid P x t
    have hw1 : wrap64 ((P.length : Int) + 1) = ((P ++ [x]).length : Int) := by rw [w64 (by omega) (by omega)]; simp
    have ep : ((P ++ [x]).length : Int) = P.length + 1 := by simp
    have h := ih (P ++ [x]) (acc ++ [crashF ks (P.length : Int) x]) (by rw [hPF]; simp) (by simp [ha]) (fun y hy => hx y (by simp [hy])); have er : acc ++ crash ks (x :: t) (P.length : Int) = acc ++ [crashF ks (P.length : Int) x] ++ crash ks t ((P ++ [x]).length : Int) := by rw [ep]; simp [crash]
    have es : ∀ y : S95, (acc ++ x :: t).set (P.length : Int).toNat y = acc ++ [y] ++ t := fun y => by rw [Int.toNat_natCast, ← ha]; simp
    have hla : (P.length : Int) < ((acc ++ x :: t).length : Int) := by simp; omega
    rw [er]; refine Ev.step (fun k => ?_) h; simp only [impl_DiskCrash.l0]; rw [if_pos (by omega), if_pos (by omega), if_pos (by omega), hr]; by_cases c : (P.length : Int) < (ks.length : Int)
    · have hm := mnmx_b (rd ks (P.length : Int)) (x.f2.size : Int) (by omega); have he := ext_le x.f2 (mn (mx (rd ks (P.length : Int)) 0) (x.f2.size : Int)).toNat; have ef : crashF ks (P.length : Int) x = ⟨x.f0, x.f1 ++ x.f2.extract 0 (mn (mx (rd ks (P.length : Int)) 0) (x.f2.size : Int)).toNat, (⟨#[]⟩ : ByteArray)⟩ := by unfold crashF crashK; rw [if_pos c]
      rw [if_pos c, if_pos hm.1, if_pos hm.2, if_pos (by omega), if_pos hla, hw1, es, ef]
    · have he := ext_le x.f2 0; have ef : crashF ks (P.length : Int) x = ⟨x.f0, x.f1, (⟨#[]⟩ : ByteArray)⟩ := by unfold crashF crashK; rw [if_neg c]; simp
      rw [if_neg c, if_pos (by omega), if_pos (by omega), if_pos (by omega), if_pos hla, hw1, es, ef]
def diskCrash (room : Int) (l : List S95) (ks : List Int) : Int × List S95 := if (diskOk room l && decide (¬ (ks.length : Int) > 8)) = true then (room, crash ks l 0) else (0, [])
theorem diskCrash_len (room : Int) (l : List S95) (ks : List Int) : (diskCrash room l ks).2.length ≤ l.length := by
  unfold diskCrash; split
  · simp only [crash_length]; omega
  · simp
theorem mem_size {l : List S95} (h1 : dsize l ≤ 1152921504606846976) : ∀ x ∈ l, (x.f1.size : Int) + x.f2.size ≤ 1152921504606846976 := fun x hx => by
  have := dsize_mem hx; omega
theorem specDiskCrash_ev (room : Int) (l : List S95) (ks : List Int) (h1 : dsize l ≤ 1152921504606846976) (hl : l.length ≤ 3518437208878) : Ev (fun k => spec_DiskCrash.f k room l ks) (diskCrash room l ks) := by
  unfold spec_DiskCrash.f diskCrash; refine Ev.bind (specDiskOk_ev room l h1 (by omega)) ?_; have hj : Ev (fun k => spec_DiskCrash.j0 k ks true room l) (0, []) := by
    refine Ev.step (f := fun _ => some (0, [])) (fun k => ?_) (Ev.now _); simp only [spec_DiskCrash.j0, ↓reduceIte]
  cases h : diskOk room l
  · simp only [Bool.false_eq_true, ↓reduceIte, Bool.false_and]; exact hj
  · simp only [↓reduceIte, Bool.true_and]; by_cases c : (ks.length : Int) > 8
    · simp only [c, decide_true, not_true, decide_false, Bool.false_eq_true, ↓reduceIte]; exact hj
    · simp only [c, decide_false, not_false_eq_true, decide_true, ↓reduceIte]; refine Ev.step (f := fun k => spec_DiskCrash.l0 k ks 0 room l room []) (fun k => ?_) ?_
      · simp only [spec_DiskCrash.j0]; rfl
      · exact specCrash_l ks room room l [] [] (mem_size h1) (by simp; omega) (by simpa using hl)
theorem implDiskCrash_ev (room : Int) (l : List S95) (ks : List Int) (h1 : dsize l ≤ 1152921504606846976) (hl : l.length ≤ 3518437208878) : Ev (fun k => impl_DiskCrash.f k room l ks) (diskCrash room l ks) := by
  unfold impl_DiskCrash.f diskCrash; refine Ev.bind (implDiskOk_ev room l h1 (by omega)) ?_; have hj : Ev (fun k => impl_DiskCrash.j0 k ks true room l) (0, []) := by
    refine Ev.step (f := fun _ => some (0, [])) (fun k => ?_) (Ev.now _); simp only [impl_DiskCrash.j0, ↓reduceIte]
  cases h : diskOk room l
  · simp only [Bool.false_eq_true, ↓reduceIte, Bool.false_and]; exact hj
  · simp only [↓reduceIte, Bool.true_and]; by_cases c : (ks.length : Int) > 8
    · simp only [c, decide_true, not_true, decide_false, Bool.false_eq_true, ↓reduceIte]; exact hj
    · simp only [c, decide_false, not_false_eq_true, decide_true, ↓reduceIte]; refine Ev.step (f := fun k => impl_DiskCrash.l0 k ks l (l.length : Int) 0 room l) (fun k => ?_) ?_
      · simp only [impl_DiskCrash.j0, copyDisk_eq room l hl, Option.bind_some]; rfl
      · exact implCrash_l ks l (by omega) room l [] [] rfl rfl (mem_size h1)

def diskRead (room : Int) (l : List S95) (nm : Int) : ByteArray × Bool := if diskOk room l = true then (if idxName l nm 0 < 0 then ((⟨#[]⟩ : ByteArray), false) else (((rd_T95 l (idxName l nm 0)).f1) ++ ((rd_T95 l (idxName l nm 0)).f2), true)) else ((⟨#[]⟩ : ByteArray), false)
theorem diskRead_tail (room : Int) (l : List S95) (nm : Int) (h1 : dsize l ≤ 1152921504606846976) : (if diskOk room l = true then (if idxName l nm 0 < 0 then (some ((⟨#[]⟩ : ByteArray), false)) else (if 0 ≤ idxName l nm 0 then (if idxName l nm 0 < (l.length : Int) then (if ((rd_T95 l (idxName l nm 0)).f1).size + ((rd_T95 l (idxName l nm 0)).f2).size ≤ 9223372036854775807 then (some (((rd_T95 l (idxName l nm 0)).f1) ++ ((rd_T95 l (idxName l nm 0)).f2), true)) else (none)) else (none)) else (none))) else (some ((⟨#[]⟩ : ByteArray), false))) = some (diskRead room l nm) := by
  unfold diskRead
  split
  · split
    · rfl
    · rename_i h
      have hb := idx_b nm l 0 (by omega); have hm := dsize_mem (rdF_mem l (idxName l nm 0) (by omega) (by omega)); rw [if_pos (by omega), if_pos (by omega), if_pos (by omega)]
  · rfl

theorem asc_names : ∀ (l l' : List S95) (lo : Int), l.map (·.f0) = l'.map (·.f0) → asc lo l = asc lo l'
  | [], [], lo, _ => rfl
  | [], y :: t, lo, h => by simp at h
  | x :: s, [], lo, h => by simp at h
  | x :: s, y :: t, lo, h => by
    simp only [List.map_cons, List.cons.injEq] at h; simp only [asc, h.1, asc_names s t _ h.2]
theorem idx_name (nm : Int) : ∀ (l : List S95) (i : Int) (h : 0 ≤ i) (h2 : 0 ≤ idxName l nm i), ∃ x, l[(idxName l nm i - i).toNat]? = some x ∧ x.f0 = nm
  | [], i, h, h2 => by simp [idxName] at h2
  | x :: t, i, h, h2 => by
    simp only [idxName] at h2 ⊢; by_cases c : x.f0 = nm
    · simp only [c, ↓reduceIte, Int.sub_self]; exact ⟨x, by simp, c⟩
    · simp only [c, ↓reduceIte] at h2 ⊢; obtain ⟨y, hy, e⟩ := idx_name nm t (i + 1) (by omega) h2; have hb := idx_b nm t (i + 1) (by omega); have : (idxName t nm (i + 1) - i).toNat = (idxName t nm (i + 1) - (i + 1)).toNat + 1 := by omega
      exact ⟨y, by rw [this, List.getElem?_cons_succ]; exact hy, e⟩
theorem rdF_get (l : List S95) (i : Nat) (x : S95) (h : l[i]? = some x) : rd_T95 l (i : Int) = x := by
  unfold rd_T95
  simp [List.getD_eq_getElem?_getD, h]
theorem idx_rd (nm : Int) (l : List S95) (h2 : 0 ≤ idxName l nm 0) : (rd_T95 l (idxName l nm 0)).f0 = nm ∧ l[(idxName l nm 0).toNat]? = some (rd_T95 l (idxName l nm 0)) := by
  obtain ⟨x, hx, e⟩ := idx_name nm l 0 (by omega) h2; rw [Int.sub_zero] at hx; have := rdF_get l _ x hx; rw [show ((idxName l nm 0).toNat : Int) = idxName l nm 0 by omega] at this; rw [this]; exact ⟨e, hx⟩
theorem set_names (l : List S95) (i : Nat) (f x : S95) (h : l[i]? = some x) (e : f.f0 = x.f0) : (l.set i f).map (·.f0) = l.map (·.f0) := by
  have hlt : i < l.length := by
    rcases Nat.lt_or_ge i l.length with h1 | h1
    · exact h1
    · rw [List.getElem?_eq_none h1] at h; cases h
  rw [List.map_set]
  apply List.ext_getElem? 
  intro j; rw [List.getElem?_set]
  split
  · rename_i c
    subst c; rw [List.length_map, if_pos hlt, List.getElem?_map, h]
    simp [e]
  · rfl
theorem dsize_set_eq : ∀ (l : List S95) (i : Nat) (f x : S95), l[i]? = some x → dsize (l.set i f) + (x.f1.size + x.f2.size) = dsize l + (f.f1.size + f.f2.size)
  | [], i, f, x, h => by simp at h
  | y :: t, 0, f, x, h => by
    simp at h; subst h
    simp only [List.set_cons_zero, dsize]; omega
  | y :: t, i + 1, f, x, h => by
    have := dsize_set_eq t i f x (by simpa using h); simp only [List.set_cons_succ, dsize]; omega
theorem app_nil (s : ByteArray) : s ++ (⟨#[]⟩ : ByteArray) = s := by
  apply ByteArray.ext
  simp [ByteArray.data_append]
theorem extract_all (s : ByteArray) : s.extract 0 s.size = s := by
  apply ByteArray.ext
  simp [ByteArray.data_extract]
theorem crash_names (ks : List Int) : ∀ (l : List S95) (i : Int), (crash ks l i).map (·.f0) = l.map (·.f0)
  | [], _ => rfl
  | x :: t, i => by simp only [crash, List.map_cons, crash_names ks t]; rfl
theorem crash_get (ks : List Int) : ∀ (l : List S95) (i : Int) (j : Nat), (crash ks l i)[j]? = (l[j]?).map (crashF ks (i + j))
  | [], i, j => by simp [crash]
  | x :: t, i, 0 => by simp [crash]
  | x :: t, i, j + 1 => by
    simp only [crash, List.getElem?_cons_succ, crash_get ks t (i + 1) j]
    congr 2
    omega
theorem crashF_size (ks : List Int) (i : Int) (x : S95) : ((crashF ks i x).f1.size : Int) + (crashF ks i x).f2.size ≤ x.f1.size + x.f2.size := by
  have h := ext_le x.f2 (crashK ks i x); have hz : (⟨#[]⟩ : ByteArray).size = 0 := rfl; simp only [crashF, ByteArray.size_append, hz]; omega
theorem dsize_crash (ks : List Int) : ∀ (l : List S95) (i : Int), dsize (crash ks l i) ≤ dsize l
  | [], _ => by simp [crash]
  | x :: t, i => by
    have h1 := dsize_crash ks t (i + 1); have h2 := crashF_size ks i x; simp only [crash, dsize]; omega
theorem crash_ok (ks : List Int) (room : Int) (l : List S95) (h : diskOk room l = true) : diskOk room (crash ks l 0) = true := by
  have hd := dsize_crash ks l 0; unfold diskOk at h ⊢; rw [asc_names _ _ 0 (crash_names ks l 0)]; simp only [Bool.and_eq_true, decide_eq_true_eq] at h ⊢; exact ⟨h.1, h.2.1, by omega⟩
theorem idx_asc : ∀ (l : List S95) (lo i : Int) (j : Nat) (x : S95), asc lo l = true → l[j]? = some x → idxName l x.f0 i = i + j
  | [], lo, i, j, x, h, hx => by simp at hx
  | y :: t, lo, i, 0, x, h, hx => by
    simp at hx; subst hx
    simp [idxName]
  | y :: t, lo, i, j + 1, x, h, hx => by
    simp only [asc, Bool.and_eq_true, decide_eq_true_eq] at h; have hx' : t[j]? = some x := by simpa using hx
    have hg := asc_gt t (y.f0 + 1) x h.2 (List.mem_of_getElem? hx'); simp only [idxName]; rw [if_neg (by omega), idx_asc t (y.f0 + 1) (i + 1) j x h.2 hx']; omega
theorem read_at (room : Int) (l : List S95) (j : Nat) (x : S95) (h : diskOk room l = true) (hx : l[j]? = some x) : diskRead room l x.f0 = (x.f1 ++ x.f2, true) := by
  have hi := idx_asc l 0 0 j x (diskOk_asc h) hx; rw [Int.zero_add] at hi; unfold diskRead; rw [if_pos h, hi, if_neg (by omega), rdF_get l j x hx]
theorem crash_read (ks : List Int) (room : Int) (l : List S95) (j : Nat) (x : S95) (h : diskOk room l = true) (hx : l[j]? = some x) : diskRead room (crash ks l 0) x.f0 = (x.f1 ++ x.f2.extract 0 (crashK ks (j : Int) x), true) := by
  have hc : (crash ks l 0)[j]? = some (crashF ks (j : Int) x) := by rw [crash_get, hx]; simp
  have := read_at room (crash ks l 0) j _ (crash_ok ks room l h) hc; rw [show (crashF ks (j : Int) x).f0 = x.f0 from rfl] at this; rw [this]; simp only [crashF, app_nil]
theorem syncF_at (l : List S95) (j : Nat) (x : S95) (h : asc 0 l = true) (hx : l[j]? = some x) : idxName l x.f0 0 = (j : Int) ∧ syncF l x.f0 = ⟨x.f0, x.f1 ++ x.f2, (⟨#[]⟩ : ByteArray)⟩ := by
  have hi := idx_asc l 0 0 j x h hx; rw [Int.zero_add] at hi; refine ⟨hi, ?_⟩; unfold syncF; rw [hi, rdF_get l j x hx]
theorem set_ok (room : Int) (l : List S95) (j : Nat) (x : S95) (h : diskOk room l = true) (hx : l[j]? = some x) : diskOk room (l.set j ⟨x.f0, x.f1 ++ x.f2, (⟨#[]⟩ : ByteArray)⟩) = true := by
  have hn := set_names l j ⟨x.f0, x.f1 ++ x.f2, (⟨#[]⟩ : ByteArray)⟩ x hx rfl; have hd := dsize_set_eq l j ⟨x.f0, x.f1 ++ x.f2, (⟨#[]⟩ : ByteArray)⟩ x hx; have hz : (⟨#[]⟩ : ByteArray).size = 0 := rfl; unfold diskOk at h ⊢; rw [asc_names _ _ 0 hn]; simp only [Bool.and_eq_true, decide_eq_true_eq] at h ⊢; simp only [ByteArray.size_append, hz] at hd; exact ⟨h.1, h.2.1, by omega⟩

theorem implDiskRead_ev (room : Int) (l : List S95) (nm : Int) (h1 : dsize l ≤ 1152921504606846976) (hl : l.length ≤ 140737488355328) : Ev (fun k => impl_DiskRead.f k room l nm) (diskRead room l nm) := by
  unfold impl_DiskRead.f impl_fileAt.f; simp only [Option.bind_some]; refine Ev.bind (implDiskOk_ev room l h1 hl) ?_; rw [diskRead_tail room l nm h1]; exact Ev.now _

theorem specDiskRead_ev (room : Int) (l : List S95) (nm : Int) (h1 : dsize l ≤ 1152921504606846976) (hl : l.length ≤ 140737488355328) : Ev (fun k => spec_DiskRead.f k room l nm) (diskRead room l nm) := by
  unfold spec_DiskRead.f; refine Ev.bind (findS_ev room l nm hl) ?_; refine Ev.bind (specDiskOk_ev room l h1 hl) ?_; rw [diskRead_tail room l nm h1]; exact Ev.now _

def diskSize (room : Int) (l : List S95) : Int := if diskOk room l = true then dsize l else -1
theorem implDiskSize_ev (room : Int) (l : List S95) (h1 : dsize l ≤ 1152921504606846976) (hl : l.length ≤ 140737488355328) : Ev (fun k => impl_DiskSize.f k room l) (diskSize room l) := by
  unfold impl_DiskSize.f diskSize; refine Ev.bind (implDiskOk_ev room l h1 hl) ?_; cases diskOk room l
  · simp only [Bool.false_eq_true, ↓reduceIte]; exact Ev.now _
  · simp only [↓reduceIte]; refine Ev.congr (fun k => ?_) (sizeOf_ev room l h1 hl)
    first | rfl | (cases impl_sizeOf.f k room l <;> rfl)

theorem asc_iff : ∀ (l : List S95) (lo : Int), asc lo l = true ↔ ((∀ x ∈ l, lo ≤ x.f0 ∧ x.f0 ≤ 7) ∧ l.Pairwise (fun x y => x.f0 < y.f0))
  | [], lo => by simp [asc]
  | x :: t, lo => by
    simp only [asc, Bool.and_eq_true, decide_eq_true_eq, List.pairwise_cons, asc_iff t (x.f0 + 1), List.mem_cons, forall_eq_or_imp]
    constructor
    · rintro ⟨h1, h2, h3⟩; exact ⟨⟨h1, fun y hy => ⟨by have := (h2 y hy).1; omega, (h2 y hy).2⟩⟩, fun y hy => by have := (h2 y hy).1; omega, h3⟩
    · rintro ⟨⟨h1, h2⟩, h3, h4⟩; exact ⟨h1, fun y hy => ⟨by have := h3 y hy; omega, (h2 y hy).2⟩, h4⟩
theorem ok_iff (room : Int) (l : List S95) : diskOk room l = true ↔ (((∀ x ∈ l, 0 ≤ x.f0 ∧ x.f0 ≤ 7) ∧ l.Pairwise (fun x y => x.f0 < y.f0)) ∧ (0 ≤ room ∧ room ≤ 40000) ∧ dsize l ≤ room) := by
  unfold diskOk; simp only [Bool.and_eq_true, asc_iff, inr, decide_eq_true_eq]
theorem putG_mem (f : S95) : ∀ (m : List S95) (x : S95), x ∈ putG f m → x = f ∨ (x ∈ m ∧ x.f0 ≠ f.f0)
  | [], x, h => by simp [putG] at h; exact .inl h
  | y :: t, x, h => by
    by_cases c : y.f0 ≥ f.f0
    · simp only [putG, c, ↓reduceIte, List.mem_cons] at h; rcases h with h | h
      · exact .inl h
      · have := List.mem_filter.1 h; exact .inr ⟨this.1, by simpa using this.2⟩
    · simp only [putG, c, ↓reduceIte, List.mem_cons] at h; rcases h with rfl | h
      · exact .inr ⟨by simp, by omega⟩
      · rcases putG_mem f t x h with h | ⟨h, h2⟩
        · exact .inl h
        · exact .inr ⟨by simp [h], h2⟩
theorem putG_self (f : S95) : ∀ m : List S95, f ∈ putG f m
  | [] => by simp [putG]
  | y :: t => by
    by_cases c : y.f0 ≥ f.f0
    · simp only [putG, c, ↓reduceIte, List.mem_cons, true_or]
    · simp only [putG, c, ↓reduceIte, List.mem_cons, putG_self f t, or_true]
theorem putG_pw (f : S95) : ∀ m : List S95, m.Pairwise (fun x y => x.f0 < y.f0) → (putG f m).Pairwise (fun x y => x.f0 < y.f0)
  | [], _ => by simp [putG]
  | y :: t, h => by
    obtain ⟨h1, h2⟩ := List.pairwise_cons.1 h; by_cases c : y.f0 ≥ f.f0
    · simp only [putG, c, ↓reduceIte]; refine List.pairwise_cons.2 ⟨fun z hz => ?_, h.filter _⟩; have hz' := List.mem_filter.1 hz; have hne : z.f0 ≠ f.f0 := by simpa using hz'.2
      rcases List.mem_cons.1 hz'.1 with rfl | h3
      · omega
      · have := h1 z h3; omega
    · simp only [putG, c, ↓reduceIte]; refine List.pairwise_cons.2 ⟨fun z hz => ?_, putG_pw f t h2⟩; rcases putG_mem f t z hz with rfl | ⟨h3, _⟩
      · omega
      · exact h1 z h3
theorem putG_dsize (f : S95) : ∀ m : List S95, dsize (putG f m) = dsize (oth f.f0 m) + (f.f1.size + f.f2.size)
  | [] => by simp only [putG, oth, List.filter_nil, dsize]; omega
  | y :: t => by
    by_cases c : y.f0 ≥ f.f0
    · simp only [putG, c, ↓reduceIte, dsize]; omega
    · have ih := putG_dsize f t; rw [oth_cons_ne (by omega)]; simp only [putG, c, ↓reduceIte, dsize]; omega
theorem oth_none (nm : Int) (l : List S95) (h : ∀ x ∈ l, x.f0 ≠ nm) : oth nm l = l := by
  unfold oth; rw [List.filter_eq_self]; intro y hy
  simpa using h y hy
theorem oth_dsize : ∀ (l : List S95) (x : S95), l.Pairwise (fun x y => x.f0 < y.f0) → x ∈ l → dsize l = dsize (oth x.f0 l) + (x.f1.size + x.f2.size)
  | [], x, _, h => by simp at h
  | y :: t, x, hp, h => by
    obtain ⟨h1, h2⟩ := List.pairwise_cons.1 hp; rcases List.mem_cons.1 h with rfl | h
    · rw [oth_cons_eq rfl, oth_none _ t (fun z hz => by have := h1 z hz; omega)]; simp only [dsize]; omega
    · have := h1 x h; rw [oth_cons_ne (by omega)]; have ih := oth_dsize t x h2 h; simp only [dsize]; omega
theorem read_mem (room : Int) (l : List S95) (x : S95) (h : diskOk room l = true) (hx : x ∈ l) : diskRead room l x.f0 = (x.f1 ++ x.f2, true) := by
  obtain ⟨j, hj⟩ := List.getElem?_of_mem hx; exact read_at room l j x h hj
theorem read_none (room : Int) (l : List S95) (nm : Int) (h : ∀ x ∈ l, x.f0 ≠ nm) : diskRead room l nm = ((⟨#[]⟩ : ByteArray), false) := by
  unfold diskRead; have hn : idxName l nm 0 < 0 := by
    by_cases c : idxName l nm 0 < 0
    · exact c
    · obtain ⟨y, hy, e⟩ := idx_mem nm l 0 (by omega) (by omega); exact absurd e (h y hy)
  rw [if_pos hn]
  split <;> rfl
theorem app_facts (room : Int) (l : List S95) (nm : Int) (s : ByteArray) (h : diskOk room l = true) :
    (appF l nm s).f0 = nm ∧ (appF l nm s).f1 ++ (appF l nm s).f2 = (diskRead room l nm).1 ++ s ∧ dsize (oth nm l) + ((appF l nm s).f1.size + (appF l nm s).f2.size) = dsize l + s.size := by
  have hp := ((ok_iff room l).1 h).1.2; unfold appF; by_cases c : idxName l nm 0 ≥ 0
  · obtain ⟨h1, h2⟩ := idx_rd nm l (by omega); have hm := List.mem_of_getElem? h2; have h3 := read_mem room l _ h hm; have h4 := oth_dsize l _ hp hm; rw [h1] at h3 h4; rw [if_pos c, h3]; refine ⟨h1, (ByteArray.append_assoc).symm, ?_⟩; simp only [ByteArray.size_append]; omega
  · have hn : ∀ x ∈ l, x.f0 ≠ nm := idx_none nm l 0 (by omega) (by omega); rw [if_neg c, read_none room l nm hn, oth_none nm l hn]; have hz : (⟨#[]⟩ : ByteArray).size = 0 := rfl; refine ⟨rfl, by simp only [empty_app], ?_⟩; simp only [ByteArray.size_append, hz]; omega
theorem files_append (room : Int) (l : List S95) (nm : Int) (s : ByteArray) (h : diskOk room l = true) (hn : 0 ≤ nm ∧ nm ≤ 7) (hs : (s.size : Int) ≤ room - dsize l) :
    diskOk room (putG (appF l nm s) l) = true ∧ dsize (putG (appF l nm s) l) = dsize l + s.size ∧ diskRead room (putG (appF l nm s) l) nm = ((diskRead room l nm).1 ++ s, true) := by
  obtain ⟨a1, a2, a3⟩ := app_facts room l nm s h; obtain ⟨⟨o1, o2⟩, o3, o4⟩ := (ok_iff room l).1 h; have hd : dsize (putG (appF l nm s) l) = dsize l + s.size := by rw [putG_dsize, a1]; exact a3
  have hk : diskOk room (putG (appF l nm s) l) = true := by
    refine (ok_iff _ _).2 ⟨⟨fun x hx => ?_, putG_pw _ _ o2⟩, o3, by omega⟩; rcases putG_mem _ _ x hx with rfl | ⟨h3, _⟩
    · rw [a1]; exact hn
    · exact o1 x h3
  have hr := read_mem room _ _ hk (putG_self (appF l nm s) l); rw [a1, a2] at hr; exact ⟨hk, hd, hr⟩
theorem cut_app (a b c d : ByteArray) (h : a ++ b = c ++ d) : a.extract 0 (mn (c.size : Int) (a.size : Int)).toNat ++ b.extract 0 ((c.size : Int) - mn (c.size : Int) (a.size : Int)).toNat = c := by
  have hd := congrArg (fun x : ByteArray => x.data.toList) h; simp only [ByteArray.data_append, Array.toList_append] at hd; have ha : a.data.toList.length = a.size := by rw [Array.length_toList]; rfl
  have hc : c.data.toList.length = c.size := by rw [Array.length_toList]; rfl
  apply ByteArray.ext
  apply Array.toList_inj.1
  simp only [ByteArray.data_extract, ByteArray.data_append, Array.toList_extract, Array.toList_append, List.extract_eq_take_drop, List.drop_zero, Nat.sub_zero]; have e : c.data.toList = (a.data.toList ++ b.data.toList).take c.data.toList.length := by rw [hd, List.take_left']; rfl
  rw [List.take_append, hc, ha] at e; have e1 : (mn (c.size : Int) (a.size : Int)).toNat = min c.size a.size := by unfold mn; split <;> omega
  have e2 : ((c.size : Int) - mn (c.size : Int) (a.size : Int)).toNat = c.size - a.size := by unfold mn; split <;> omega
  rw [e1, e2]
  conv => rhs; rw [e]
  congr 1
  rcases Nat.le_total c.size a.size with q | q
  · rw [Nat.min_eq_left q]
  · rw [Nat.min_eq_right q, List.take_of_length_le (by omega), List.take_of_length_le (by omega)]
theorem files_cut (room : Int) (l : List S95) (a : S95) (c d : ByteArray) (h : diskOk room l = true) (ha : a ∈ l) (he : a.f1 ++ a.f2 = c ++ d) :
    ∃ B, diskCut room l a.f0 (c.size : Int) = (room, B, 0) ∧ (diskRead room B a.f0).1 = c ∧ dsize B ≤ dsize l ∧ B.length = l.length := by
  obtain ⟨j, hj⟩ := List.getElem?_of_mem ha; obtain ⟨⟨o1, o2⟩, o3, o4⟩ := (ok_iff room l).1 h; have hi := idx_asc l 0 0 j a (diskOk_asc h) hj; rw [Int.zero_add] at hi; have hr := rdF_get l j a hj; have hF : cutF l a.f0 (c.size : Int) = ⟨a.f0, a.f1.extract 0 (mn (c.size : Int) (a.f1.size : Int)).toNat, a.f2.extract 0 ((c.size : Int) - mn (c.size : Int) (a.f1.size : Int)).toNat⟩ := by
    unfold cutF; rw [hi, hr]
  have hsz : a.f1.size + a.f2.size = c.size + d.size := by
    have := congrArg ByteArray.size he
    simpa only [ByteArray.size_append] using this
  have hn := o1 a ha; have hB : diskCut room l a.f0 (c.size : Int) = (room, l.set j (cutF l a.f0 (c.size : Int)), 0) := by
    unfold diskCut; rw [h, hi, hr]; have e1 : inr a.f0 0 7 = true := by simp only [inr, decide_eq_true_eq]; exact hn
    have e2 : inr (c.size : Int) 0 ((a.f1.size : Int) + (a.f2.size : Int)) = true := by simp only [inr, decide_eq_true_eq]; omega
    rw [e1, if_pos (show (true && true) = true from rfl), if_neg (by omega), if_pos e2]; rfl
  have hx1 := extract_le a.f1 (mn (c.size : Int) (a.f1.size : Int)).toNat; have hx2 := extract_le a.f2 ((c.size : Int) - mn (c.size : Int) (a.f1.size : Int)).toNat; have hds := dsize_set_eq l j (cutF l a.f0 (c.size : Int)) a hj; have hnm := set_names l j (cutF l a.f0 (c.size : Int)) a hj (by rw [hF]); rw [hF] at hds hnm hB
  dsimp only at hds
  refine ⟨_, hB, ?_, by omega, List.length_set ..⟩; have hk : diskOk room (l.set j ⟨a.f0, a.f1.extract 0 (mn (c.size : Int) (a.f1.size : Int)).toNat, a.f2.extract 0 ((c.size : Int) - mn (c.size : Int) (a.f1.size : Int)).toNat⟩) = true := by
    unfold diskOk at h ⊢; rw [asc_names _ _ 0 hnm]; simp only [Bool.and_eq_true, decide_eq_true_eq] at h ⊢; exact ⟨h.1, h.2.1, by omega⟩
  have hlt : j < l.length := (List.getElem?_eq_some_iff.1 hj).1; have hg := read_at room _ j _ hk (List.getElem?_set_self hlt); simp only at hg; rw [hg]; exact cut_app _ _ _ _ he
theorem dsize_eraseEq : ∀ (l : List S95) (i : Nat) (x : S95), l[i]? = some x → dsize (l.eraseIdx i) + (x.f1.size + x.f2.size) = dsize l
  | [], i, x, h => by simp at h
  | y :: t, 0, x, h => by simp only [List.getElem?_cons_zero, Option.some.injEq] at h; subst h; simp only [List.eraseIdx_cons_zero, dsize]; omega
  | y :: t, i + 1, x, h => by
    have := dsize_eraseEq t i x (by simpa using h); simp only [List.eraseIdx_cons_succ, dsize]; omega
theorem diskSync_le (room : Int) (l : List S95) (nm : Int) : dsize (diskSync room l nm).2.1 ≤ dsize l := by
  have hn := dsize_nn l; unfold diskSync
  split
  · split
    · exact Int.le_refl _
    · obtain ⟨h1, h2⟩ := idx_rd nm l (by omega); have h3 := dsize_set_eq l (idxName l nm 0).toNat (syncF l nm) _ h2; have hz : (⟨#[]⟩ : ByteArray).size = 0 := rfl; simp only [syncF, ByteArray.size_append, hz] at h3; simp only [syncF]; omega
  · simpa [dsize] using hn
theorem diskMove_le (room : Int) (l : List S95) (nm to_ : Int) : dsize (diskMove room l nm to_).2.1 ≤ dsize l := by
  have hn := dsize_nn l; unfold diskMove
  split
  · split
    · exact Int.le_refl _
    · obtain ⟨h1, h2⟩ := idx_rd nm l (by omega); have h3 := dsize_eraseEq l (idxName l nm 0).toNat _ h2; have h4 := putG_dsize (movF l nm to_) (l.eraseIdx (idxName l nm 0).toNat); have h5 := dsize_oth (movF l nm to_).f0 (l.eraseIdx (idxName l nm 0).toNat); simp only [movF] at h4 h5 ⊢; omega
  · simpa [dsize] using hn
theorem diskAppend_le (room : Int) (l : List S95) (nm : Int) (s : ByteArray) : dsize (diskAppend room l nm s).2.1 ≤ dsize l + s.size ∧ (dsize (diskAppend room l nm s).2.1 ≤ dsize l ∨ dsize (diskAppend room l nm s).2.1 ≤ room) := by
  have hn := dsize_nn l; unfold diskAppend
  split
  · rename_i h
    simp only [Bool.and_eq_true] at h
    split
    · simp only; omega
    · have h2 := app_facts room l nm s h.1; have h4 := putG_dsize (appF l nm s) l; rw [h2.1] at h4
      simp only; omega
  · simp only [dsize]; omega
theorem drawRight_s (b : List Int) (hb : b.length ≤ 140737488355328) (d : Nat) : ∀ (x i h room : Int) (l : List S95), 0 ≤ x → x + d = 12 → (0 ≤ i ∧ i ≤ 9223372036854775807) → DB room l → dsize l ≤ 8 * x →
    ∃ room' l' i' h', Ev (fun k => spec_l3DrawRight.l0 k x b i h room l) (room', l', i', h') ∧ (DB room' l' ∧ dsize l' ≤ 96) ∧ (0 ≤ i' ∧ i' ≤ 9223372036854775807) := by
  induction d with
  | zero =>
    intro x i h room l hx hd hi hD hE; obtain ⟨y, i1, h1, e1, p1, _, b1⟩ := l1Below_ok b i h 12 hi hb; have b1 := b1 (by omega); refine ⟨room, l, i1, h1, ?_, ⟨hD, by omega⟩, p1⟩; refine Ev.step (f := fun _ => some (room, l, i1, h1)) (fun k => ?_) (Ev.now _); simp only [spec_l3DrawRight.l0, e1, Option.bind_some]; rw [if_neg (by omega)]
  | succ d ih =>
    intro x i h room l hx hd hi hD hE; have hw : wrap64 (x + 1) = x + 1 := w64 (by omega) (by omega); obtain ⟨y, i1, h1, e1, p1, _, b1⟩ := l1Below_ok b i h 12 hi hb; by_cases c : ¬ x < y
    · refine ⟨room, l, i1, h1, ?_, ⟨hD, by omega⟩, p1⟩; refine Ev.step (f := fun _ => some (room, l, i1, h1)) (fun k => ?_) (Ev.now _); simp only [spec_l3DrawRight.l0, e1, Option.bind_some, c, ↓reduceIte]
    · replace c := Decidable.not_not.1 c; obtain ⟨z, i2, h2, e2, p2, _, b2⟩ := l1Below_ok b i1 h1 5 p1 hb; have key : ∀ v : Bool, ∃ room' l' i' h', Ev (fun k => spec_l3DrawRight.j2 k x z v b i2 h2 room l) (room', l', i', h') ∧ (DB room' l' ∧ dsize l' ≤ 96) ∧ (0 ≤ i' ∧ i' ≤ 9223372036854775807) := by
        intro v; obtain ⟨u, i3, h3, e3, p3, _, b3⟩ := l1Below_ok b i2 h2 5 p2 hb; cases v
        · by_cases c3 : z = 3
          · have hv := diskSync_b room l u hD.2.1 hD.2.2; have hroom := diskSync_room room l u; have hle := diskSync_le room l u; have es := specDiskSync_ev room l u (by have := hD.2.1; omega) (by have := hD.2.2; omega); generalize diskSync room l u = U at *; obtain ⟨u0, u1, u2⟩ := U; simp only at hv hroom hle; by_cases cu : u2 = 1
            · obtain ⟨r', l', i', h', e', D', p'⟩ := ih (x + 1) i3 h3 room l (by omega) (by omega) p3 hD (by omega); refine ⟨r', l', i', h', ?_, D', p'⟩; refine Ev.step (fun k => by simp only [spec_l3DrawRight.j2, Bool.false_eq_true, ↓reduceIte, c3, e3, Option.bind_some]; rfl) ?_; refine Ev.bind es ?_; simp only [cu, ↓reduceIte, hw]; exact e'
            · obtain ⟨r', l', i', h', e', D', p'⟩ := ih (x + 1) i3 h3 u0 u1 (by omega) (by omega) p3 ⟨by have := hD.1; omega, hv⟩ (by omega); refine ⟨r', l', i', h', ?_, D', p'⟩; refine Ev.step (fun k => by simp only [spec_l3DrawRight.j2, Bool.false_eq_true, ↓reduceIte, c3, e3, Option.bind_some]; rfl) ?_; refine Ev.bind es ?_; simp only [cu, ↓reduceIte, hw]; exact e'
          · obtain ⟨t, i4, h4, e4, p4, _, b4⟩ := l1Below_ok b i3 h3 8 p3 hb; have hv := diskMove_b room l u t hD.2.1 hD.2.2; have hroom := diskMove_room room l u t; have hle := diskMove_le room l u t; have es := specDiskMove_ev room l u t (by have := hD.2.1; omega) (by have := hD.2.2; omega); generalize diskMove room l u t = U at *; obtain ⟨u0, u1, u2⟩ := U; simp only at hv hroom hle; by_cases cu : u2 = 1
            · obtain ⟨r', l', i', h', e', D', p'⟩ := ih (x + 1) i4 h4 room l (by omega) (by omega) p4 hD (by omega); refine ⟨r', l', i', h', ?_, D', p'⟩; refine Ev.step (fun k => by simp only [spec_l3DrawRight.j2, Bool.false_eq_true, ↓reduceIte, c3, e3, e4, Option.bind_some]; rfl) ?_; refine Ev.bind es ?_; simp only [cu, ↓reduceIte, hw]; exact e'
            · obtain ⟨r', l', i', h', e', D', p'⟩ := ih (x + 1) i4 h4 u0 u1 (by omega) (by omega) p4 ⟨by have := hD.1; omega, hv⟩ (by omega); refine ⟨r', l', i', h', ?_, D', p'⟩; refine Ev.step (fun k => by simp only [spec_l3DrawRight.j2, Bool.false_eq_true, ↓reduceIte, c3, e3, e4, Option.bind_some]; rfl) ?_; refine Ev.bind es ?_; simp only [cu, ↓reduceIte, hw]; exact e'
        · obtain ⟨s, i4, h4, e4, hs, p4⟩ := l3DrawText_ok b i3 h3 8 p3 hb (by omega); have hv := diskAppend_b room l u s hD.2.1 hD.2.2 (by omega); have hroom := diskAppend_room room l u s; have hle := diskAppend_le room l u s; have es := specDiskAppend_ev room l u s (by have := hD.2.1; omega) (by have := hD.2.2; omega) (by omega); generalize diskAppend room l u s = U at *; obtain ⟨u0, u1, u2⟩ := U; simp only at hv hroom hle; by_cases cu : u2 = 1
          · obtain ⟨r', l', i', h', e', D', p'⟩ := ih (x + 1) i4 h4 room l (by omega) (by omega) p4 hD (by omega); refine ⟨r', l', i', h', ?_, D', p'⟩; refine Ev.step (fun k => by simp only [spec_l3DrawRight.j2, ↓reduceIte, e3, Option.bind_some]; rfl) ?_; refine Ev.bind e4 ?_; refine Ev.bind es ?_; simp only [cu, ↓reduceIte, hw]; exact e'
          · obtain ⟨r', l', i', h', e', D', p'⟩ := ih (x + 1) i4 h4 u0 u1 (by omega) (by omega) p4 ⟨by have := hD.1; omega, hv⟩ (by omega); refine ⟨r', l', i', h', ?_, D', p'⟩; refine Ev.step (fun k => by simp only [spec_l3DrawRight.j2, ↓reduceIte, e3, Option.bind_some]; rfl) ?_; refine Ev.bind e4 ?_; refine Ev.bind es ?_; simp only [cu, ↓reduceIte, hw]; exact e'
      by_cases z0 : z = 0
      · obtain ⟨r', l', i', h', e', D', p'⟩ := key (z == 0); refine ⟨r', l', i', h', Ev.step (fun k => ?_) e', D', p'⟩; simp only [spec_l3DrawRight.l0, e1, e2, Option.bind_some, c, z0, ↓reduceIte]
      · by_cases z1 : z = 1
        · obtain ⟨r', l', i', h', e', D', p'⟩ := key (z == 1); refine ⟨r', l', i', h', Ev.step (fun k => ?_) e', D', p'⟩; simp only [spec_l3DrawRight.l0, e1, e2, Option.bind_some, c, z0, z1, ↓reduceIte, show ¬ ((1 : Int) = 0) by decide]
        · obtain ⟨r', l', i', h', e', D', p'⟩ := key (z == 2); refine ⟨r', l', i', h', Ev.step (fun k => ?_) e', D', p'⟩; simp only [spec_l3DrawRight.l0, e1, e2, Option.bind_some, c, z0, z1, ↓reduceIte]
theorem l3DrawRight_s (b : List Int) (hb : b.length ≤ 140737488355328) (i h : Int) (hi : 0 ≤ i ∧ i ≤ 9223372036854775807) :
    ∃ room l i' h', Ev (fun k => spec_l3DrawRight.f k b i h) (room, l, i', h') ∧ (DB room l ∧ dsize l ≤ 96) ∧ (0 ≤ i' ∧ i' ≤ 9223372036854775807) := by
  obtain ⟨x, i1, h1, e1, p1, _, b1⟩ := l1Below_ok b i h 200 hi hb; have b1 := b1 (by omega); obtain ⟨y, i2, h2, e2, p2⟩ := l1Once_ok b i1 h1 9 p1 hb; have hz : ∀ room : Int, -9223372036854775808 ≤ room → room ≤ 9223372036854775807 → DB room [] := fun room a c => ⟨⟨a, c⟩, by simp [dsize], by simp⟩
  cases y
  · obtain ⟨r', l', i', h', e', D', p'⟩ := drawRight_s b hb 12 0 i2 h2 (60 + x) [] (by omega) (by omega) p2 (hz _ (by omega) (by omega)) (by simp [dsize]); refine ⟨r', l', i', h', ?_, D', p'⟩; unfold spec_l3DrawRight.f; simp only [e1, e2, Option.bind_some, Bool.false_eq_true, ↓reduceIte]; rw [w64 (x := 60 + x) (by omega) (by omega)]; exact Ev.step (fun k => by simp only [spec_l3DrawRight.j0]) e'
  · obtain ⟨z, i3, h3, e3, p3, m3⟩ := l1PickInt_ok b i2 h2 [0, 40000, 20] p2 hb (by simp); have hzb : 0 ≤ z ∧ z ≤ 40000 := by simp only [List.mem_cons, List.not_mem_nil, or_false] at m3; omega
    obtain ⟨r', l', i', h', e', D', p'⟩ := drawRight_s b hb 12 0 i3 h3 z [] (by omega) (by omega) p3 (hz _ (by omega) (by omega)) (by simp [dsize]); refine ⟨r', l', i', h', ?_, D', p'⟩; unfold spec_l3DrawRight.f; simp only [e1, e2, e3, Option.bind_some, ↓reduceIte]; exact Ev.step (fun k => by simp only [spec_l3DrawRight.j0]) e'
theorem l3DrawDisk_s (b : List Int) (hb : b.length ≤ 140737488355328) (i h : Int) (hi : 0 ≤ i ∧ i ≤ 9223372036854775807) :
    ∃ room l i' h', Ev (fun k => spec_l3DrawDisk.f k b i h) (room, l, i', h') ∧ ((-9223372036854775808 ≤ room ∧ room ≤ 9223372036854775807) ∧ dsize l ≤ 96 ∧ l.length ≤ 11) ∧ (0 ≤ i' ∧ i' ≤ 9223372036854775807) := by
  obtain ⟨room, l, i1, h1, e1, ⟨D1, D2⟩, p1⟩ := l3DrawRight_s b hb i h hi; obtain ⟨x, i2, h2, e2, p2, _, b2⟩ := l1Below_ok b i1 h1 25 p1 hb; unfold spec_l3DrawDisk.f; have D1l := D1.2.2; by_cases x0 : x = 0
  · obtain ⟨z, i3, h3, e3, p3, m3⟩ := l1PickInt_ok b i2 h2 [(-1), 0, 40001, 3] p2 hb (by simp); have hzb : -1 ≤ z ∧ z ≤ 40001 := by simp only [List.mem_cons, List.not_mem_nil, or_false] at m3; omega
    refine ⟨z, l, i3, h3, ?_, ⟨by omega, D2, by omega⟩, p3⟩; refine Ev.bind e1 ?_; simp only [e2, e3, Option.bind_some, x0, ↓reduceIte]; exact Ev.now _
  · by_cases x1 : x = 1
    · obtain ⟨z, i3, h3, e3, p3, m3⟩ := l1PickInt_ok b i2 h2 [(-1), 0, 8, 7] p2 hb (by simp); refine ⟨room, l ++ [⟨z, (⟨#[]⟩ : ByteArray), (⟨#[]⟩ : ByteArray)⟩], i3, h3, ?_, ⟨D1.1, ?_, by simp; omega⟩, p3⟩
      · refine Ev.bind e1 ?_; simp only [e2, e3, Option.bind_some, x0, x1, ↓reduceIte, show l.length < 3518437208883 by omega, show ¬ ((1 : Int) = 0) by decide]; exact Ev.now _
      · rw [dsize_snoc]; have : (⟨#[]⟩ : ByteArray).size = 0 := rfl; have := D2
        simp only; omega
    · refine ⟨room, l, i2, h2, ?_, ⟨D1.1, D2, by omega⟩, p2⟩; refine Ev.bind e1 ?_; simp only [e2, Option.bind_some, x0, x1, ↓reduceIte]; exact Ev.now _


def sumGo : List Int → Int → Int → Int
  | [], x, y => 65536 * y + x
  | c :: t, x, y => sumGo t ((x + c) % 65521) ((y + (x + c) % 65521) % 65521)
theorem sumGo_b (l : List Int) : ∀ x y : Int, 0 ≤ x → x < 65521 → 0 ≤ y → y < 65521 → 0 ≤ sumGo l x y ∧ sumGo l x y < 4294967296 := by
  induction l with
  | nil => intro x y h0 h1 h2 h3; simp only [sumGo]; omega
  | cons c t ih =>
    intro x y h0 h1 h2 h3; exact ih _ _ (by omega) (by omega) (by omega) (by omega)
def sumOf (l : List Int) : Int := sumGo l 1 0
theorem sumOf_b (l : List Int) : 0 ≤ sumOf l ∧ sumOf l < 4294967296 := sumGo_b l 1 0 (by omega) (by omega) (by omega) (by omega)
theorem rd_mid (P : List Int) (c : Int) (t : List Int) : rd (P ++ c :: t) (P.length : Int) = c := by rw [rd_nat]; simp

def putNum (x : Int) : List Int := if h : x > 127 then (x % 128 + 128) :: putNum (x / 128) else [x]
termination_by x.toNat
decreasing_by omega
theorem putNum_big {x : Int} (h : x > 127) : putNum x = (x % 128 + 128) :: putNum (x / 128) := by rw [putNum]; simp [h]
theorem putNum_small {x : Int} (h : ¬ x > 127) : putNum x = [x] := by rw [putNum]; simp [h]
theorem putNum_by (m : Nat) : ∀ x : Int, 0 ≤ x → x < 128 ^ (m + 1) → By (putNum x) ∧ (putNum x).length ≤ m + 1 ∧ 1 ≤ (putNum x).length := by
  induction m with
  | zero =>
    intro x h0 h1; have h1 : x < 128 := by simpa using h1
    rw [putNum_small (by omega)]; refine ⟨fun y hy => ?_, by simp, by simp⟩
    simp at hy; omega
  | succ m ih =>
    intro x h0 h1; by_cases h : x > 127
    · rw [putNum_big h]; obtain ⟨h2, h3, h4⟩ := ih (x / 128) (by omega) (by rw [Int.pow_succ] at h1; omega); refine ⟨fun y hy => ?_, by simp; omega, by simp⟩; rcases List.mem_cons.1 hy with rfl | hy
      · omega
      · exact h2 y hy
    · rw [putNum_small h]; refine ⟨fun y hy => ?_, by simp, by simp⟩
      simp at hy; omega
theorem putNum_b9 {x : Int} (h0 : 0 ≤ x) (h1 : x ≤ 9223372036854775807) : By (putNum x) ∧ (putNum x).length ≤ 9 ∧ 1 ≤ (putNum x).length := putNum_by 8 x h0 (by omega)

def sum4 (l : List Int) : List Int := [sumOf l % 256, sumOf l / 256 % 256, sumOf l / 65536 % 256, sumOf l / 16777216 % 256]
def sealed (l : List Int) : List Int := putNum l.length ++ l ++ sum4 l
def sealOf (l : List Int) : List Int × Bool := if l.length > 3000 then ([], false) else (sealed l, true)
theorem sealOf_len (l : List Int) : (sealOf l).1.length ≤ 3013 := by
  unfold sealOf
  split
  · simp
  · have := (putNum_b9 (x := l.length) (by omega) (by omega)).2.1
    simp [sealed, sum4]; omega

def p7 (k : Nat) : Int := 128 ^ k
def gn : Nat → List Int → Int → Nat → Int → Int × Int × Bool
  | 0, _, _, _, _ => (0, 0, false)
  | d + 1, l, at_, k, x => if at_ + k < l.length then (if rd l (at_ + k) < 128 then (if rd l (at_ + k) = 0 ∧ 0 < k then (0, 0, false) else (x + rd l (at_ + k) % 128 * p7 k, at_ + k + 1, true)) else gn d l at_ (k + 1) (x + rd l (at_ + k) % 128 * p7 k)) else (0, 0, false)
def getNum (l : List Int) (at_ : Int) : Int × Int × Bool := if at_ < 0 then (0, 0, false) else gn 9 l at_ 0 0
theorem p7_0 : p7 0 = 1 := rfl
theorem p7_succ (k : Nat) : p7 (k + 1) = p7 k * 128 := Int.pow_succ 128 k
theorem p7_b (k : Nat) (hk : k ≤ 8) : 1 ≤ p7 k ∧ p7 k ≤ 72057594037927936 := by
  have : k = 0 ∨ k = 1 ∨ k = 2 ∨ k = 3 ∨ k = 4 ∨ k = 5 ∨ k = 6 ∨ k = 7 ∨ k = 8 := by omega
  rcases this with rfl | rfl | rfl | rfl | rfl | rfl | rfl | rfl | rfl <;> decide
theorem p128 (k : Nat) (hk : k ≤ 8) (x c : Int) (hx0 : 0 ≤ x) (hx : x < p7 k) (hc0 : 0 ≤ c) (hc : c < 128) : 0 ≤ c * p7 k ∧ c * p7 k ≤ 9223372036854775807 ∧ 0 ≤ x + c * p7 k ∧ x + c * p7 k ≤ 9223372036854775807 ∧ x + c * p7 k < p7 (k + 1) := by
  have h := p7_b k hk; rw [p7_succ]; generalize p7 k = u at *; have h1 : 0 ≤ c * u := Int.mul_nonneg hc0 (by omega); have h2 : c * u ≤ 127 * u := Int.mul_le_mul_of_nonneg_right (by omega) (by omega); refine ⟨h1, by omega, by omega, by omega, by omega⟩

theorem gn_b : ∀ (d : Nat) (k : Nat) (l : List Int) (a x : Int), By l → 0 ≤ a → d + k ≤ 9 → 0 ≤ x → x < p7 k → 0 ≤ (gn d l a k x).1 ∧ (gn d l a k x).1 ≤ 9223372036854775807 ∧ 0 ≤ (gn d l a k x).2.1 ∧ (gn d l a k x).2.1 ≤ l.length
  | 0, k, l, a, x, hb, ha, hk, h0, h1 => by simp [gn]
  | d + 1, k, l, a, x, hb, ha, hk, h0, h1 => by
    have hz : (0 : Int) ≤ 0 ∧ (0 : Int) ≤ 9223372036854775807 ∧ (0 : Int) ≤ 0 ∧ (0 : Int) ≤ l.length := ⟨by omega, by omega, by omega, by omega⟩; have hr := hb.at_ (a + k); have hp := p128 k (by omega) x (rd l (a + k) % 128) h0 h1 (by omega) (by omega); simp only [gn]
    split
    · split
      · split
        · exact hz
        · exact ⟨hp.2.2.1, hp.2.2.2.1, by simp only; omega, by simp only; omega⟩
      · exact gn_b d (k + 1) l a _ hb ha (by omega) hp.2.2.1 hp.2.2.2.2
    · exact hz
theorem getNum_b (l : List Int) (a : Int) (hb : By l) : 0 ≤ (getNum l a).1 ∧ (getNum l a).1 ≤ 9223372036854775807 ∧ 0 ≤ (getNum l a).2.1 ∧ (getNum l a).2.1 ≤ l.length := by
  unfold getNum
  split
  · exact ⟨by simp, by simp, by simp, by simp⟩
  · exact gn_b 9 0 l a 0 hb (by omega) (by omega) (by omega) (by decide)

def seg (l : List Int) (a b : Int) : List Int := (l.take b.toNat).drop a.toNat
theorem seg_len (l : List Int) (a b : Int) (h0 : 0 ≤ a) (h1 : a ≤ b) (h2 : b ≤ l.length) : ((seg l a b).length : Int) = b - a := by
  unfold seg; rw [List.length_drop, List.length_take]; omega
theorem seg_by (l : List Int) (a b : Int) (hb : By l) : By (seg l a b) := fun x hx => hb x (List.mem_of_mem_take (List.mem_of_mem_drop hx))
def unsealOf (l : List Int) (a : Int) : List Int × Int × Int :=
  if (getNum l a).2.2 = true ∧ (getNum l a).1 ≤ 3000 then
    (if (l.length : Int) - (getNum l a).2.1 < (getNum l a).1 + 4 then ([], 0, 2)
     else if seg l ((getNum l a).2.1 + (getNum l a).1) ((getNum l a).2.1 + (getNum l a).1 + 4) = sum4 (seg l (getNum l a).2.1 ((getNum l a).2.1 + (getNum l a).1)) then (seg l (getNum l a).2.1 ((getNum l a).2.1 + (getNum l a).1), (getNum l a).2.1 + (getNum l a).1 + 4, 0)
     else ([], 0, 3))
  else ([], 0, 1)
theorem sum4_by (l : List Int) : By (sum4 l) := by
  intro x hx; simp only [sum4, List.mem_cons, List.not_mem_nil, or_false] at hx; omega

theorem u_next {k0 : Nat} {u : Int} (h8 : k0 + 1 ≤ 8) (hu : u = p7 k0) : wrap64 (u * 128) = p7 (k0 + 1) := by
  have hp2 := p7_b (k0 + 1) h8; rw [p7_succ] at hp2 ⊢; rw [hu]; exact w64 (by omega) (by omega)
theorem gnStep {k0 : Nat} {c x u : Int} (k8 : k0 ≤ 8) (hc : 0 ≤ c ∧ c ≤ 255) (hx0 : 0 ≤ x) (hx : x < p7 k0) (hu : u = p7 k0) : wrap64 c = c ∧ wrap64 (x + wrap64 (Int.tmod c 128 * u)) = x + c % 128 * p7 k0 ∧ 0 ≤ x + c % 128 * p7 k0 ∧ x + c % 128 * p7 k0 < p7 (k0 + 1) := by
  have hp := p128 k0 k8 x (c % 128) hx0 hx (by omega) (by omega); refine ⟨w64 (by omega) (by omega), ?_, hp.2.2.1, hp.2.2.2.2⟩; rw [Int.tmod_eq_emod_of_nonneg hc.1, hu, w64 (x := c % 128 * p7 k0) (Int.le_trans (by decide) hp.1) hp.2.1, w64 (Int.le_trans (by decide) hp.2.2.1) hp.2.2.2.1]
theorem specGetNum_l (d : Nat) : ∀ (l : List Int) (at_ : Int) (k0 : Nat) (x u : Int), By l → l.length ≤ 140737488355328 → 0 ≤ at_ → at_ ≤ 140737488355328 → k0 + d = 9 → 0 ≤ x → x < p7 k0 → (k0 ≤ 8 → u = p7 k0) → Ev (fun k => spec_GetNum.l0 k l at_ x u (k0 : Int)) (gn d l at_ k0 x) := by
  induction d with
  | zero =>
    intro l at_ k0 x u hb hl h0 h1 hk hx0 hx hu; refine Ev.step (f := fun k => spec_GetNum.j2 k l at_ x u (k0 : Int) false) (fun k => ?_) ?_
    · simp only [spec_GetNum.l0]; rw [if_neg (by omega)]
    · refine Ev.step (f := fun _ => some (0, 0, false)) (fun k => ?_) (Ev.now _); simp only [spec_GetNum.j2]; rfl
  | succ d ih =>
    intro l at_ k0 x u hb hl h0 h1 hk hx0 hx hu; have k8 : k0 ≤ 8 := by omega
    have z0 : 0 ≤ at_ + (k0 : Int) := by omega
    have k9 : (k0 : Int) < 9 := by omega
    have e1 : wrap64 (at_ + (k0 : Int)) = at_ + k0 := w64 (by omega) (by omega); have e4 : wrap64 (at_ + (k0 : Int) + 1) = at_ + k0 + 1 := w64 (by omega) (by omega); have e6 : wrap64 ((k0 : Int) + 1) = ((k0 + 1 : Nat) : Int) := w64 (by omega) (by omega); have hk' : k0 + 1 + d = 9 := by omega
    have hu := hu k8; obtain ⟨e2, e3, x0, x1⟩ := gnStep k8 (hb.at_ (at_ + k0)) hx0 hx hu; by_cases h : at_ + k0 < l.length
    · refine Ev.step (f := fun k => spec_GetNum.j2 k l at_ x u (k0 : Int) true) (fun k => ?_) ?_
      · simp only [spec_GetNum.l0, k9, e1, h, decide_true, ↓reduceIte]
      simp only [gn, h, ↓reduceIte]; by_cases c1 : rd l (at_ + k0) < 128
      · by_cases c2 : rd l (at_ + k0) = 0
        · by_cases c3 : 0 < k0
          · refine Ev.step (f := fun _ => some (0, 0, false)) (fun k => ?_) ?_
            · have c3' : (k0 : Int) > 0 := by omega
              simp only [spec_GetNum.j2, e1, z0, h, ↓reduceIte]; rw [e2, if_pos c1, if_pos c2, if_pos c3']
            · rw [if_pos c1, if_pos ⟨c2, c3⟩]; exact Ev.now _
          · refine Ev.step (f := fun _ => some (x + rd l (at_ + k0) % 128 * p7 k0, at_ + k0 + 1, true)) (fun k => ?_) ?_
            · have c3' : ¬ (k0 : Int) > 0 := by omega
              simp only [spec_GetNum.j2, e1, z0, h, ↓reduceIte]; rw [e2, if_pos c1, if_pos c2, if_neg c3', e3, e4]
            · rw [if_pos c1, if_neg (fun hh => c3 hh.2)]; exact Ev.now _
        · refine Ev.step (f := fun _ => some (x + rd l (at_ + k0) % 128 * p7 k0, at_ + k0 + 1, true)) (fun k => ?_) ?_
          · simp only [spec_GetNum.j2, e1, z0, h, ↓reduceIte]; rw [e2, if_pos c1, if_neg c2, e3, e4]
          · rw [if_pos c1, if_neg (fun hh => c2 hh.1)]; exact Ev.now _
      · refine Ev.step (f := fun k => spec_GetNum.l0 k l at_ (x + rd l (at_ + k0) % 128 * p7 k0) (wrap64 (u * 128)) ((k0 + 1 : Nat) : Int)) (fun k => ?_) ?_
        · simp only [spec_GetNum.j2, e1, z0, h, ↓reduceIte]; rw [e2, if_neg c1, e3, e6]
        · rw [if_neg c1]; exact ih l at_ (k0 + 1) _ _ hb hl h0 h1 hk' x0 x1 (fun h8 => u_next h8 hu)
    · refine Ev.step (f := fun k => spec_GetNum.j2 k l at_ x u (k0 : Int) false) (fun k => ?_) ?_
      · simp only [spec_GetNum.l0, k9, e1, h, decide_false, ↓reduceIte]
      · simp only [gn, h, ↓reduceIte]; refine Ev.step (f := fun _ => some (0, 0, false)) (fun k => ?_) (Ev.now _); simp only [spec_GetNum.j2]; rfl
theorem specGetNum_ev (l : List Int) (at_ : Int) (hb : By l) (hl : l.length ≤ 140737488355328) : Ev (fun k => spec_GetNum.f k l at_) (getNum l at_) := by
  unfold spec_GetNum.f getNum; by_cases h : at_ < 0
  · simp only [h, ↓reduceIte]; refine Ev.step (f := fun _ => some (0, 0, false)) (fun k => ?_) (Ev.now _); simp only [spec_GetNum.j0, ↓reduceIte]
  · by_cases h2 : at_ ≥ (l.length : Int)
    · simp only [h, h2, ↓reduceIte, decide_true]; refine Ev.step (f := fun _ => some (0, 0, false)) (fun k => ?_) ?_
      · simp only [spec_GetNum.j0, ↓reduceIte]
      · simp only [gn]; rw [if_neg (by omega)]; exact Ev.now _
    · simp only [h, h2, ↓reduceIte, decide_false]; refine Ev.step (f := fun k => spec_GetNum.l0 k l at_ 0 1 0) (fun k => ?_) ?_
      · simp only [spec_GetNum.j0]; rfl
      · exact specGetNum_l 9 l at_ 0 0 1 hb hl (by omega) (by omega) (by omega) (by omega) (by decide) (fun _ => rfl)

theorem specSum_l (rest : List Int) : ∀ (P : List Int) (x y : Int), By rest → P.length + rest.length ≤ 140737488355328 → 0 ≤ x → x < 65521 → 0 ≤ y → y < 65521 → Ev (fun k => spec_Sum.l0 k (P ++ rest) x y (P.length : Int)) (sumGo rest x y) := by
  induction rest with
  | nil =>
    intro P x y hb hl h0 h1 h2 h3; refine Ev.step (f := fun _ => some (65536 * y + x)) (fun k => ?_) (Ev.now _); simp only [spec_Sum.l0]; rw [if_neg (by simp), w64 (x := 65536 * y) (by omega) (by omega), w64 (by omega) (by omega)]
  | cons c t ih =>
    intro P x y hb hl h0 h1 h2 h3; have hc := hb c (by simp); simp only [List.length_cons] at hl; have h := ih (P ++ [c]) ((x + c) % 65521) ((y + (x + c) % 65521) % 65521) (fun z hz => hb z (by simp [hz])) (by simp; omega) (by omega) (by omega) (by omega) (by omega); refine Ev.step (fun k => ?_) h; simp only [spec_Sum.l0]; rw [if_pos (by simp; omega), if_pos (by omega), rd_mid, w64 (x := c) (by omega) (by omega), w64 (x := x + c) (by omega) (by omega), Int.tmod_eq_emod_of_nonneg (by omega), w64 (x := y + _) (by omega) (by omega), Int.tmod_eq_emod_of_nonneg (by omega), w64 (by omega) (by omega)]
    simp
theorem specSum_ev (l : List Int) (hb : By l) (hl : l.length ≤ 140737488355328) : Ev (fun k => spec_Sum.f k l) (sumOf l) := by
  have h := specSum_l l [] 1 0 hb (by simpa using hl) (by omega) (by omega) (by omega) (by omega)
  simpa [spec_Sum.f, sumOf] using h

theorem sum_word (c : List Int) (s : Int) (hc : By c) (hl : c.length = 4) (h0 : 0 ≤ s) (h1 : s < 4294967296) :
    s = (wrap64 ((wrap64 ((wrap64 ((wrap64 (rd c 0)) + (wrap64 ((wrap64 (rd c 1)) * 256)))) + (wrap64 ((wrap64 (rd c 2)) * 65536)))) + (wrap64 ((wrap64 (rd c 3)) * 16777216)))) ↔ c = [s % 256, s / 256 % 256, s / 65536 % 256, s / 16777216 % 256] := by
  match c, hl with
  | [x0, x1, x2, x3], _ =>
    have b0 := hc x0 (by simp); have b1 := hc x1 (by simp); have b2 := hc x2 (by simp); have b3 := hc x3 (by simp); have e0 : rd [x0, x1, x2, x3] 0 = x0 := rfl; have e1 : rd [x0, x1, x2, x3] 1 = x1 := rfl; have e2 : rd [x0, x1, x2, x3] 2 = x2 := rfl; have e3 : rd [x0, x1, x2, x3] 3 = x3 := rfl; rw [e0, e1, e2, e3, w64 (x := x0) (by omega) (by omega), w64 (x := x1) (by omega) (by omega), w64 (x := x2) (by omega) (by omega), w64 (x := x3) (by omega) (by omega), w64 (x := x1 * 256) (by omega) (by omega), w64 (x := x2 * 65536) (by omega) (by omega), w64 (x := x3 * 16777216) (by omega) (by omega), w64 (x := x0 + x1 * 256) (by omega) (by omega), w64 (x := x0 + x1 * 256 + x2 * 65536) (by omega) (by omega), w64 (by omega) (by omega)]; simp only [List.cons.injEq, and_true]
    constructor
    · intro h; refine ⟨?_, ?_, ?_, ?_⟩ <;> omega
    · intro h; omega
theorem specUnseal_ev (l : List Int) (a : Int) (hb : By l) (hl : l.length ≤ 1048576) (h0 : -9223372036854775808 ≤ a) (h1 : a ≤ 9223372036854775807) : Ev (fun k => spec_Unseal.f k l a) (unsealOf l a) := by
  have hg := getNum_b l a hb; unfold spec_Unseal.f; refine Ev.bind (specGetNum_ev l a hb (by omega)) ?_; generalize hG : getNum l a = G at *; obtain ⟨n, p, ok⟩ := G; simp only at hg ⊢; cases ok
  · simp only [Bool.false_eq_true, ↓reduceIte]; refine Ev.step (f := fun _ => some ([], 0, 1)) (fun k => by simp only [spec_Unseal.j0, ↓reduceIte]) ?_; unfold unsealOf; rw [hG]; simp only [Bool.false_eq_true, false_and, ↓reduceIte]; exact Ev.now _
  · simp only [↓reduceIte]; by_cases c1 : n > 3000
    · refine Ev.step (f := fun _ => some ([], 0, 1)) (fun k => by simp only [spec_Unseal.j0, c1, decide_true, ↓reduceIte]) ?_; unfold unsealOf; rw [hG]; simp only [show ¬ n ≤ 3000 by omega, and_false, ↓reduceIte]; exact Ev.now _
    · by_cases c2 : (l.length : Int) - p < n + 4
      · refine Ev.step (f := fun _ => some ([], 0, 2)) (fun k => ?_) ?_
        · simp only [spec_Unseal.j0, c1, decide_false, Bool.false_eq_true, ↓reduceIte]; rw [w64 (x := (l.length : Int) - p) (by omega) (by omega), w64 (x := n + 4) (by omega) (by omega), if_pos c2]
        · unfold unsealOf; rw [hG]; simp only [show n ≤ 3000 by omega, c2, and_self, ↓reduceIte]; exact Ev.now _
      · have hw1 : wrap64 (p + n) = p + n := w64 (by omega) (by omega); have hw2 : wrap64 (p + n + 4) = p + n + 4 := w64 (by omega) (by omega); have L1 := seg_len l p (p + n) (by omega) (by omega) (by omega); have L2 := seg_len l (p + n) (p + n + 4) (by omega) (by omega) (by omega); have hs := sumOf_b (seg l p (p + n)); refine Ev.step (f := fun k => (spec_Sum.f k (seg l p (p + n))).bind fun t => if t = (wrap64 ((wrap64 ((wrap64 ((wrap64 (rd (seg l (p + n) (p + n + 4)) 0)) + (wrap64 ((wrap64 (rd (seg l (p + n) (p + n + 4)) 1)) * 256)))) + (wrap64 ((wrap64 (rd (seg l (p + n) (p + n + 4)) 2)) * 65536)))) + (wrap64 ((wrap64 (rd (seg l (p + n) (p + n + 4)) 3)) * 16777216)))) then some (seg l p (p + n), p + n + 4, 0) else some ([], 0, 3)) (fun k => ?_) ?_
        · simp only [spec_Unseal.j0, c1, decide_false, Bool.false_eq_true, ↓reduceIte, Option.bind_some, List.nil_append, List.length_nil]; rw [w64 (x := (l.length : Int) - p) (by omega) (by omega), w64 (x := n + 4) (by omega) (by omega), if_neg c2, hw1, hw2]
          change (if 0 ≤ p then (if p ≤ p + n then (if p + n ≤ (l.length : Int) then (if 0 + (seg l p (p + n)).length < 140737488355328 then _ else none) else none) else none) else none) = _
          rw [if_pos (by omega), if_pos (by omega), if_pos (by omega), if_pos (by omega), if_pos (by omega), if_pos (by omega), if_pos (by omega)]; refine congrArg _ (funext fun t => ?_)
          change (if 0 < ((seg l (p + n) (p + n + 4)).length : Int) then (if 1 < ((seg l (p + n) (p + n + 4)).length : Int) then (if 2 < ((seg l (p + n) (p + n + 4)).length : Int) then (if 3 < ((seg l (p + n) (p + n + 4)).length : Int) then _ else none) else none) else none) else none) = _
          rw [if_pos (by omega), if_pos (by omega), if_pos (by omega), if_pos (by omega)]; rfl
        · refine Ev.bind (specSum_ev _ (seg_by l _ _ hb) (by omega)) ?_; have hi := sum_word (seg l (p + n) (p + n + 4)) (sumOf (seg l p (p + n))) (seg_by l _ _ hb) (by omega) hs.1 hs.2; have e : unsealOf l a = if seg l (p + n) (p + n + 4) = sum4 (seg l p (p + n)) then (seg l p (p + n), p + n + 4, 0) else ([], 0, 3) := by
            unfold unsealOf; rw [hG]; simp only [show n ≤ 3000 by omega, c2, and_self, ↓reduceIte]
          rw [e]; by_cases c3 : seg l (p + n) (p + n + 4) = sum4 (seg l p (p + n))
          · rw [if_pos (hi.2 c3), if_pos c3]; exact Ev.now _
          · rw [if_neg (fun h => c3 (hi.1 h)), if_neg c3]; exact Ev.now _

theorem shl7 (k0 : Nat) (hk : k0 ≤ 8) (x c : Int) (hx0 : 0 ≤ x) (hx : x < p7 k0) (hc0 : 0 ≤ c) (hc : c < 128) : Go.bits .or .i64 x (shl .i64 c (wrap64 (7 * (k0 : Int)))) = x + c * p7 k0 := by
  have e0 : wrap64 (7 * (k0 : Int)) = ((7 * k0 : Nat) : Int) := by rw [w64 (by omega) (by omega)]; omega
  have e1 : (2 : Int) ^ (7 * k0) = p7 k0 := by rw [Int.pow_mul]; unfold p7; rfl
  have h7 : min (7 * k0) 64 = 7 * k0 := by omega
  have h63 : 7 * k0 ≤ 63 := by omega
  obtain ⟨h1, h2, h3, h4, h5⟩ := p128 k0 hk x c hx0 hx hc0 hc; have e2 : shl .i64 c (wrap64 (7 * (k0 : Int))) = c * p7 k0 := by
    rw [e0]; unfold shl; rw [show IntKind.i64.bits = 64 from rfl, Int.toNat_natCast, h7, e1]; exact wraps_i64 _ h1 (Int.lt_of_le_of_lt h2 (by decide))
  have e3 : Go.bits .or .i64 x (c * p7 k0) = Go.bits .or .i64 (c * p7 k0) x := by unfold Go.bits; simp only [BitVec.or_comm]
  have e4 : c * p7 k0 % 2 ^ (7 * k0) = 0 := by rw [e1]; exact Int.mul_emod_left _ _
  rw [e2, e3, or_join (7 * k0) h1 e4 h2 hx0 (by rw [e1]; exact hx) (Int.le_trans (Int.le_of_lt hx) (Int.le_trans (p7_b k0 hk).2 (by decide))), Int.add_comm]
theorem giStep {k0 : Nat} {c x : Int} (k8 : k0 ≤ 8) (hc : 0 ≤ c ∧ c ≤ 255) (hx0 : 0 ≤ x) (hx : x < p7 k0) : wrap64 c = c ∧ Go.bits .or .i64 x (shl .i64 (Go.bits .and .i64 c 127) (wrap64 (7 * (k0 : Int)))) = x + c % 128 * p7 k0 ∧ 0 ≤ x + c % 128 * p7 k0 ∧ x + c % 128 * p7 k0 < p7 (k0 + 1) := by
  have hp := p128 k0 k8 x (c % 128) hx0 hx (by omega) (by omega); refine ⟨w64 (by omega) (by omega), ?_, hp.2.2.1, hp.2.2.2.2⟩; rw [show Go.bits .and .i64 c 127 = c % 128 from and_mask 7 (by decide) hc.1 (by omega)]; exact shl7 k0 k8 x _ hx0 hx (by omega) (by omega)
theorem implGetNum_l (d : Nat) : ∀ (l : List Int) (at_ : Int) (k0 : Nat) (x : Int), By l → l.length ≤ 140737488355328 → 0 ≤ at_ → at_ ≤ 9223372036854775807 → k0 + d = 9 → 0 ≤ x → x < p7 k0 → Ev (fun k => impl_GetNum.l0 k l at_ x (k0 : Int)) (gn d l at_ k0 x) := by
  induction d with
  | zero =>
    intro l at_ k0 x hb hl h0 h1 hk hx0 hx; refine Ev.step (f := fun k => impl_GetNum.j1 k l at_ x (k0 : Int) false) (fun k => ?_) ?_
    · simp only [impl_GetNum.l0]; rw [if_neg (by omega)]
    · refine Ev.step (f := fun _ => some (0, 0, false)) (fun k => ?_) (Ev.now _); simp only [impl_GetNum.j1]; rfl
  | succ d ih =>
    intro l at_ k0 x hb hl h0 h1 hk hx0 hx; have k8 : k0 ≤ 8 := by omega
    have z0 : 0 ≤ at_ + (k0 : Int) := by omega
    have k9 : (k0 : Int) < 9 := by omega
    have e0 : wrap64 ((l.length : Int) - at_) = l.length - at_ := w64 (by omega) (by omega); have e6 : wrap64 ((k0 : Int) + 1) = ((k0 + 1 : Nat) : Int) := w64 (by omega) (by omega); have e7 : 0 ≤ wrap64 (7 * (k0 : Int)) := by rw [w64 (by omega) (by omega)]; omega
    have hk' : k0 + 1 + d = 9 := by omega
    have e14 : at_ + k0 < l.length → wrap64 (at_ + (k0 : Int)) = at_ + k0 ∧ wrap64 (at_ + (k0 : Int) + 1) = at_ + k0 + 1 ∧ (k0 : Int) < l.length - at_ := fun h => ⟨w64 (by omega) (by omega), w64 (by omega) (by omega), by omega⟩
    have e15 : ¬ at_ + k0 < l.length → ¬ (k0 : Int) < l.length - at_ := fun h => by omega
    obtain ⟨e2, e3, x0, x1⟩ := giStep k8 (hb.at_ (at_ + k0)) hx0 hx; by_cases h : at_ + k0 < l.length
    · obtain ⟨e1, e4, h'⟩ := e14 h; clear e14 e15; refine Ev.step (f := fun k => impl_GetNum.j1 k l at_ x (k0 : Int) true) (fun k => ?_) ?_
      · simp only [impl_GetNum.l0, k9, e0, h', decide_true, ↓reduceIte]
      simp only [gn, h, ↓reduceIte]; by_cases c1 : rd l (at_ + k0) < 128
      · have c1' : ¬ rd l (at_ + k0) > 127 := fun hh => absurd (Int.add_one_le_of_lt hh) (Int.not_le.2 c1)
        by_cases c2 : rd l (at_ + k0) = 0
        · by_cases c3 : 0 < k0
          · refine Ev.step (f := fun _ => some (0, 0, false)) (fun k => ?_) ?_
            · have c3' : (k0 : Int) > 0 := by omega
              simp only [impl_GetNum.j1, e1, z0, h, e7, ↓reduceIte]; rw [e2, if_neg c1', if_pos c3', if_pos c2]
            · rw [if_pos c1, if_pos ⟨c2, c3⟩]; exact Ev.now _
          · refine Ev.step (f := fun _ => some (x + rd l (at_ + k0) % 128 * p7 k0, at_ + k0 + 1, true)) (fun k => ?_) ?_
            · have c3' : ¬ (k0 : Int) > 0 := by omega
              simp only [impl_GetNum.j1, e1, z0, h, e7, ↓reduceIte]; rw [e2, if_neg c1', if_neg c3', e3, e4]
            · rw [if_pos c1, if_neg (fun hh => c3 hh.2)]; exact Ev.now _
        · refine Ev.step (f := fun _ => some (x + rd l (at_ + k0) % 128 * p7 k0, at_ + k0 + 1, true)) (fun k => ?_) ?_
          · simp only [impl_GetNum.j1, e1, z0, h, e7, ↓reduceIte]; rw [e2, if_neg c1']; by_cases c3 : (k0 : Int) > 0
            · rw [if_pos c3, if_neg c2, e3, e4]
            · rw [if_neg c3, e3, e4]
          · rw [if_pos c1, if_neg (fun hh => c2 hh.1)]; exact Ev.now _
      · have c1' : rd l (at_ + k0) > 127 := Int.lt_of_lt_of_le (by decide) (Int.not_lt.1 c1); refine Ev.step (f := fun k => impl_GetNum.l0 k l at_ (x + rd l (at_ + k0) % 128 * p7 k0) ((k0 + 1 : Nat) : Int)) (fun k => ?_) ?_
        · simp only [impl_GetNum.j1, e1, z0, h, e7, ↓reduceIte]; rw [e2, if_pos c1', e3, e6]
        · rw [if_neg c1]; exact ih l at_ (k0 + 1) _ hb hl h0 h1 hk' x0 x1
    · have h' := e15 h; clear e14 e15; refine Ev.step (f := fun k => impl_GetNum.j1 k l at_ x (k0 : Int) false) (fun k => ?_) ?_
      · simp only [impl_GetNum.l0, k9, e0, h', decide_false, ↓reduceIte]
      · simp only [gn, h, ↓reduceIte]; refine Ev.step (f := fun _ => some (0, 0, false)) (fun k => ?_) (Ev.now _); simp only [impl_GetNum.j1]; rfl
theorem implGetNum_ev (l : List Int) (at_ : Int) (hb : By l) (hl : l.length ≤ 140737488355328) (ha : at_ ≤ 9223372036854775807) : Ev (fun k => impl_GetNum.f k l at_) (getNum l at_) := by
  unfold impl_GetNum.f getNum; by_cases h : at_ < 0
  · simp only [h, ↓reduceIte]; exact Ev.now _
  · simp only [h, ↓reduceIte]; exact implGetNum_l 9 l at_ 0 0 hb hl (by omega) ha (by omega) (by omega) (by decide)

theorem implSum_l (rest : List Int) : ∀ (P : List Int) (x y n : Int), n = P.length + rest.length → By rest → P.length + rest.length ≤ 140737488355328 → 0 ≤ x → x < 65521 → 0 ≤ y → y < 65521 → Ev (fun k => impl_Sum.l0 k x y (P ++ rest) n (P.length : Int)) (sumGo rest x y) := by
  induction rest with
  | nil =>
    intro P x y n hn hb hl h0 h1 h2 h3; refine Ev.step (f := fun _ => some (65536 * y + x)) (fun k => ?_) (Ev.now _); simp only [impl_Sum.l0]; rw [if_neg (by simp at hn; omega), w64 (x := 65536 * y) (by omega) (by omega), w64 (by omega) (by omega)]
  | cons c t ih =>
    intro P x y n hn hb hl h0 h1 h2 h3; have hc := hb c (by simp); simp only [List.length_cons] at hl hn; have h := ih (P ++ [c]) ((x + c) % 65521) ((y + (x + c) % 65521) % 65521) n (by simp; omega) (fun z hz => hb z (by simp [hz])) (by simp; omega) (by omega) (by omega) (by omega) (by omega); refine Ev.step (fun k => ?_) h; simp only [impl_Sum.l0]; rw [if_pos (by omega), if_pos (by omega), if_pos (by simp; omega), rd_mid, w64 (x := c) (by omega) (by omega), w64 (x := x + c) (by omega) (by omega), Int.tmod_eq_emod_of_nonneg (by omega), w64 (x := y + _) (by omega) (by omega), Int.tmod_eq_emod_of_nonneg (by omega), w64 (by omega) (by omega)]
    simp
theorem implSum_ev (l : List Int) (hb : By l) (hl : l.length ≤ 140737488355328) : Ev (fun k => impl_Sum.f k l) (sumOf l) := by
  have h := implSum_l l [] 1 0 l.length (by simp) hb (by simpa using hl) (by omega) (by omega) (by omega) (by omega)
  simpa [impl_Sum.f, sumOf] using h

theorem mask255 {x : Int} (h0 : 0 ≤ x) (h1 : x ≤ 9223372036854775807) : Go.bits .and .i64 x 255 % 256 = x % 256 := by
  have e : Go.bits .and .i64 x 255 = x % 256 := and_mask 8 (by decide) h0 h1; rw [e]; omega
theorem sumBytes_ev (l : List Int) (hb : By l) (hl : l.length ≤ 140737488355328) : Ev (fun k => impl_sumBytes.f k l) (sum4 l) := by
  unfold impl_sumBytes.f; have h := sumOf_b l; refine Ev.bind (implSum_ev l hb hl) ?_; rw [mask255 (x := sumOf l) (by omega) (by omega), mask255 (x := sumOf l / 256) (by omega) (by omega), mask255 (x := sumOf l / 65536) (by omega) (by omega), mask255 (x := sumOf l / 16777216) (by omega) (by omega)]; exact Ev.now _

theorem implUnseal_ev (l : List Int) (a : Int) (hb : By l) (hl : l.length ≤ 1048576) (h0 : -9223372036854775808 ≤ a) (h1 : a ≤ 9223372036854775807) : Ev (fun k => impl_Unseal.f k l a) (unsealOf l a) := by
  have hg := getNum_b l a hb; unfold impl_Unseal.f; refine Ev.bind (implGetNum_ev l a hb (by omega) h1) ?_; generalize hG : getNum l a = G at *; obtain ⟨n, p, ok⟩ := G; simp only at hg ⊢; cases ok
  · simp only [Bool.false_eq_true, ↓reduceIte]; refine Ev.step (f := fun _ => some ([], 0, 1)) (fun k => by simp only [impl_Unseal.j0, ↓reduceIte]) ?_; unfold unsealOf; rw [hG]; simp only [Bool.false_eq_true, false_and, ↓reduceIte]; exact Ev.now _
  · simp only [↓reduceIte]; by_cases c1 : n > 3000
    · refine Ev.step (f := fun _ => some ([], 0, 1)) (fun k => by simp only [impl_Unseal.j0, c1, decide_true, ↓reduceIte]) ?_; unfold unsealOf; rw [hG]; simp only [show ¬ n ≤ 3000 by omega, and_false, ↓reduceIte]; exact Ev.now _
    · by_cases c2 : (l.length : Int) - p < n + 4
      · refine Ev.step (f := fun _ => some ([], 0, 2)) (fun k => ?_) ?_
        · simp only [impl_Unseal.j0, c1, decide_false, Bool.false_eq_true, ↓reduceIte]; rw [w64 (x := (l.length : Int) - p) (by omega) (by omega), w64 (x := n + 4) (by omega) (by omega), if_pos (by omega)]
        · unfold unsealOf; rw [hG]; simp only [show n ≤ 3000 by omega, c2, and_self, ↓reduceIte]; exact Ev.now _
      · have hw1 : wrap64 (p + n) = p + n := w64 (by omega) (by omega); have hw2 : wrap64 (p + n + 4) = p + n + 4 := w64 (by omega) (by omega); have L1 := seg_len l p (p + n) (by omega) (by omega) (by omega); refine Ev.step (f := fun k => (impl_sumBytes.f k (seg l p (p + n))).bind fun t => if (strOfNums (seg l (p + n) (p + n + 4))).toList = (strOfNums t).toList then some (seg l p (p + n), p + n + 4, 0) else some ([], 0, 3)) (fun k => ?_) ?_
        · simp only [impl_Unseal.j0, c1, decide_false, Bool.false_eq_true, ↓reduceIte, Option.bind_some, List.nil_append, List.length_nil]; rw [w64 (x := (l.length : Int) - p) (by omega) (by omega), w64 (x := n + 4) (by omega) (by omega), if_neg (by omega), hw1, hw2]
          change (if 0 ≤ p then (if p ≤ p + n then (if p + n ≤ (l.length : Int) then (if 0 + (seg l p (p + n)).length < 140737488355328 then _ else none) else none) else none) else none) = _
          rw [if_pos (by omega), if_pos (by omega), if_pos (by omega), if_pos (by omega), if_pos (by omega), if_pos (by omega), if_pos (by omega)]; rfl
        · refine Ev.bind (sumBytes_ev _ (seg_by l _ _ hb) (by omega)) ?_; have hi := strOf_iff (seg_by l (p + n) (p + n + 4) hb) (sum4_by (seg l p (p + n))); have e : unsealOf l a = if seg l (p + n) (p + n + 4) = sum4 (seg l p (p + n)) then (seg l p (p + n), p + n + 4, 0) else ([], 0, 3) := by
            unfold unsealOf; rw [hG]; simp only [show n ≤ 3000 by omega, c2, and_self, ↓reduceIte]
          rw [e]; by_cases c3 : seg l (p + n) (p + n + 4) = sum4 (seg l p (p + n))
          · rw [if_pos (hi.2 c3), if_pos c3]; exact Ev.now _
          · rw [if_neg (fun h => c3 (hi.1 h)), if_neg c3]; exact Ev.now _

theorem bytesOf_by (s : ByteArray) : By (bytesOf s) := by
  intro x hx; unfold bytesOf at hx; obtain ⟨b, _, rfl⟩ := List.mem_map.1 hx; have := b.toNat_lt; omega

theorem unseal_b (l : List Int) (a : Int) (hb : By l) : 0 ≤ (unsealOf l a).2.1 ∧ (unsealOf l a).2.1 ≤ l.length := by
  have hg := getNum_b l a hb; unfold unsealOf
  split
  · split
    · exact ⟨by simp, by simp⟩
    · split
      · exact ⟨by simp only; omega, by simp only; omega⟩
      · exact ⟨by simp, by simp⟩
  · exact ⟨by simp, by simp⟩
theorem unseal_end (l : List Int) (a : Int) (h : (l.length : Int) ≤ a) : (unsealOf l a).2.2 = 1 := by
  have : getNum l a = (0, 0, false) := by
    unfold getNum; rw [if_neg (by omega)]; simp only [gn]; rw [if_neg (by omega)]
  unfold unsealOf; rw [this]; simp
def jr : Nat → List Int → List ByteArray → Int → List ByteArray × Int
  | 0, _, acc, a => (acc, a)
  | d + 1, b, acc, a => if (unsealOf b a).2.2 = 0 then jr d b (acc ++ [strOfNums (unsealOf b a).1]) (unsealOf b a).2.1 else (acc, a)
set_option maxRecDepth 100000 in
theorem specJr_l (b : List Int) (hb : By b) (hl : b.length ≤ 1048576) (d : Nat) : ∀ (acc : List ByteArray) (a : Int), acc.length + d = 2000 → 0 ≤ a → a ≤ b.length → Ev (fun k => spec_JournalRead.l0 k acc b a) (jr d b acc a) := by
  induction d with
  | zero =>
    intro acc a hd h0 h1; have hj : Ev (fun k => spec_JournalRead.j1 k acc b a false) (acc, a) := by
      refine Ev.step (f := fun _ => some (acc, a)) (fun k => ?_) (Ev.now _); simp only [spec_JournalRead.j1, Bool.false_eq_true, ↓reduceIte]
    refine Ev.step (fun k => ?_) hj; have e : decide ((acc.length : Int) < 2000) = false := decide_eq_false (by omega); simp only [spec_JournalRead.l0, e]
    split <;> rfl
  | succ d ih =>
    intro acc a hd h0 h1; have hj : Ev (fun k => spec_JournalRead.j1 k acc b a false) (acc, a) := by
      refine Ev.step (f := fun _ => some (acc, a)) (fun k => ?_) (Ev.now _); simp only [spec_JournalRead.j1, Bool.false_eq_true, ↓reduceIte]
    have e : decide ((acc.length : Int) < 2000) = true := decide_eq_true (by omega); by_cases c : a < (b.length : Int)
    · refine Ev.step (f := fun k => spec_JournalRead.j1 k acc b a true) (fun k => by simp only [spec_JournalRead.l0, e]; rw [if_pos c]) ?_; refine Ev.step (fun k => by simp only [spec_JournalRead.j1, ↓reduceIte]; rfl) ?_; refine Ev.bind (specUnseal_ev b a hb hl (by omega) (by omega)) ?_; have hu := unseal_b b a hb; simp only [jr]; by_cases c2 : (unsealOf b a).2.2 = 0
      · have k1 : acc.length < 8796093022208 := by omega
        simp only [c2, ↓reduceIte, k1]; exact ih _ _ (by simp; omega) hu.1 hu.2
      · simp only [c2, ↓reduceIte]; exact Ev.now _
    · have hu := unseal_end b a (by omega); simp only [jr]; rw [hu]; simp only [show ¬ (1 : Int) = 0 by omega, ↓reduceIte]; refine Ev.step (fun k => ?_) hj; simp only [spec_JournalRead.l0]; rw [if_neg c]
set_option maxRecDepth 100000 in
theorem implJr_l (b : List Int) (hb : By b) (hl : b.length ≤ 1048576) (d : Nat) : ∀ (acc : List ByteArray) (a : Int), acc.length + d = 2000 → 0 ≤ a → a ≤ b.length → Ev (fun k => impl_JournalRead.l0 k acc b a) (jr d b acc a) := by
  induction d with
  | zero =>
    intro acc a hd h0 h1; refine Ev.step (f := fun _ => some (acc, a)) (fun k => ?_) (Ev.now _); simp only [impl_JournalRead.l0_s]; rw [if_neg (by omega)]
  | succ d ih =>
    intro acc a hd h0 h1; refine Ev.step (fun k => by simp only [impl_JournalRead.l0_s]; rw [if_pos (by omega)]) ?_; refine Ev.bind (implUnseal_ev b a hb hl (by omega) (by omega)) ?_; have hu := unseal_b b a hb; simp only [jr]; by_cases c2 : (unsealOf b a).2.2 = 0
    · have k1 : acc.length < 8796093022208 := by omega
      simp only [c2, ↓reduceIte, k1]; exact ih _ _ (by simp; omega) hu.1 hu.2
    · simp only [c2, ↓reduceIte]; exact Ev.now _
theorem diskRead_size (room : Int) (l : List S95) (nm : Int) : ((diskRead room l nm).1.size : Int) ≤ dsize l := by
  have hn := dsize_nn l; have hz : ((⟨#[]⟩ : ByteArray).size : Int) ≤ dsize l := by
    have : (⟨#[]⟩ : ByteArray).size = 0 := rfl; omega
  unfold diskRead
  split
  · split
    · exact hz
    · have hb := idx_b nm l 0 (by omega); have hm := dsize_mem (rdF_mem l (idxName l nm 0) (by omega) (by omega)); simp only [ByteArray.size_append]; omega
  · exact hz
def journalRead (room : Int) (l : List S95) (nm : Int) : List ByteArray × Int := if (diskRead room l nm).2 = true then jr 2000 (bytesOf (diskRead room l nm).1) [] 0 else ([], 0)
theorem specJournalRead_ev (room : Int) (l : List S95) (nm : Int) (h1 : dsize l ≤ 1048576) (hl : l.length ≤ 1048576) : Ev (fun k => spec_JournalRead.f k room l nm) (journalRead room l nm) := by
  unfold spec_JournalRead.f journalRead; simp only [Option.bind_some]; refine Ev.bind (specDiskRead_ev room l nm (by omega) (by omega)) ?_; have hs := diskRead_size room l nm; cases h : (diskRead room l nm).2
  · simp only [Bool.false_eq_true, ↓reduceIte]; exact Ev.now _
  · have k1 : (diskRead room l nm).1.size ≤ 9223372036854775807 := by omega
    simp only [↓reduceIte, k1]; exact specJr_l _ (bytesOf_by _) (by rw [bytesOf_length]; omega) 2000 [] 0 rfl (by omega) (by omega)
theorem implJournalRead_ev (room : Int) (l : List S95) (nm : Int) (h1 : dsize l ≤ 1048576) (hl : l.length ≤ 1048576) : Ev (fun k => impl_JournalRead.f k room l nm) (journalRead room l nm) := by
  unfold impl_JournalRead.f journalRead; simp only [Option.bind_some]; refine Ev.bind (implDiskRead_ev room l nm (by omega) (by omega)) ?_; have hs := diskRead_size room l nm; cases h : (diskRead room l nm).2
  · simp only [Bool.false_eq_true, ↓reduceIte]; exact Ev.now _
  · have k1 : (diskRead room l nm).1.size ≤ 9223372036854775807 := by omega
    simp only [↓reduceIte, k1]; exact implJr_l _ (bytesOf_by _) (by rw [bytesOf_length]; omega) 2000 [] 0 rfl (by omega) (by omega)

def journalMend (room : Int) (l : List S95) (nm : Int) : Int × List S95 × Int :=
  if (diskCut room l nm (journalRead room l nm).2).2.2 = 0 then diskSync (diskCut room l nm (journalRead room l nm).2).1 (diskCut room l nm (journalRead room l nm).2).2.1 nm else diskCut room l nm (journalRead room l nm).2
theorem journalMend_len (room : Int) (l : List S95) (nm : Int) : (journalMend room l nm).2.1.length ≤ l.length := by
  have h1 := diskCut_len room l nm (journalRead room l nm).2; unfold journalMend
  split
  · have h2 := diskSync_len (diskCut room l nm (journalRead room l nm).2).1 (diskCut room l nm (journalRead room l nm).2).2.1 nm; omega
  · exact h1
theorem specJournalMend_ev (room : Int) (l : List S95) (nm : Int) (h1 : dsize l ≤ 1048576) (hl : l.length ≤ 1048576) : Ev (fun k => spec_JournalMend.f k room l nm) (journalMend room l nm) := by
  unfold spec_JournalMend.f journalMend; refine Ev.bind (specJournalRead_ev room l nm h1 hl) ?_; generalize (journalRead room l nm).2 = n; refine Ev.bind (specDiskCut_ev room l nm n (by omega) (by omega)) ?_; have hs := diskCut_size room l nm n; have hc := diskCut_len room l nm n; generalize diskCut room l nm n = U at *; obtain ⟨u0, u1, u2⟩ := U; simp only at hs hc ⊢; by_cases h : u2 = 0
  · simp only [h, ↓reduceIte]; refine Ev.bind (specDiskSync_ev u0 u1 nm (by omega) (by omega)) ?_; exact Ev.now _
  · simp only [h, ↓reduceIte]; exact Ev.now _
theorem implJournalMend_ev (room : Int) (l : List S95) (nm : Int) (h1 : dsize l ≤ 1048576) (hl : l.length ≤ 1048576) : Ev (fun k => impl_JournalMend.f k room l nm) (journalMend room l nm) := by
  unfold impl_JournalMend.f journalMend; refine Ev.bind (implJournalRead_ev room l nm h1 hl) ?_; generalize (journalRead room l nm).2 = n; refine Ev.bind (implDiskCut_ev room l nm n (by omega) (by omega)) ?_; have hs := diskCut_size room l nm n; have hc := diskCut_len room l nm n; generalize diskCut room l nm n = U at *; obtain ⟨u0, u1, u2⟩ := U; simp only at hs hc ⊢; by_cases h : u2 = 0
  · simp only [h, ↓reduceIte]; refine Ev.bind (implDiskSync_ev u0 u1 nm (by omega) (by omega)) ?_; exact Ev.now _
  · simp only [h, ↓reduceIte]; exact Ev.now _

def sealsB : List ByteArray → List Int
  | [] => []
  | s :: t => sealed (bytesOf s) ++ sealsB t
def okS (l : List ByteArray) : Bool := l.all fun s => decide (s.size ≤ 3000)
theorem sealed_len (s : ByteArray) (h : s.size ≤ 3000) : (sealed (bytesOf s)).length ≤ 3013 := by
  have := sealOf_len (bytesOf s); unfold sealOf at this; rw [if_neg (by rw [bytesOf_length]; omega)] at this; exact this
theorem sealOf_str (s : ByteArray) : sealOf (bytesOf s) = if s.size ≤ 3000 then (sealed (bytesOf s), true) else ([], false) := by
  unfold sealOf; rw [bytesOf_length]; by_cases h : s.size ≤ 3000
  · rw [if_neg (by omega), if_pos h]
  · rw [if_pos (by omega), if_neg h]
theorem sealsB_len : ∀ l : List ByteArray, okS l = true → (sealsB l).length ≤ 3013 * l.length
  | [], _ => by simp [sealsB]
  | s :: t, h => by
    simp only [okS, List.all_cons, Bool.and_eq_true, decide_eq_true_eq] at h; have h1 := sealed_len s h.1; have h2 := sealsB_len t (by simpa [okS] using h.2); simp only [sealsB, List.length_append, List.length_cons]; omega

theorem specPutNum_l (m : Nat) : ∀ (x : Int) (acc : List Int), 0 ≤ x → x ≤ 9223372036854775807 → x < 128 ^ (m + 1) → acc.length + m ≤ 140737488355327 → Ev (fun k => spec_PutNum.l0 k x acc) (acc ++ putNum x) := by
  induction m with
  | zero =>
    intro x acc h0 h9 h1 hl; have h : ¬ x > 127 := by simp at h1; omega
    refine Ev.step (f := fun _ => some (acc ++ [x])) (fun k => ?_) ?_
    · simp only [spec_PutNum.l0]; rw [if_neg h, if_pos (by omega)]; have : x % 256 = x := by omega
      rw [this]
    · rw [putNum_small h]; exact Ev.now _
  | succ m ih =>
    intro x acc h0 h9 h1 hl; by_cases h : x > 127
    · refine Ev.step (f := fun k => spec_PutNum.l0 k (x / 128) (acc ++ [x % 128 + 128])) (fun k => ?_) ?_
      · simp only [spec_PutNum.l0]; rw [if_pos h, if_pos (by omega), Int.tdiv_eq_ediv_of_nonneg h0, Int.tmod_eq_emod_of_nonneg h0, w64 (by omega) (by omega), w64 (by omega) (by omega)]; have : (x % 128 + 128) % 256 = x % 128 + 128 := by omega
        rw [this]
      · have := ih (x / 128) (acc ++ [x % 128 + 128]) (by omega) (by omega) (by rw [Int.pow_succ] at h1; omega) (by simp; omega); rw [putNum_big h]; simpa using this
    · refine Ev.step (f := fun _ => some (acc ++ [x])) (fun k => ?_) ?_
      · simp only [spec_PutNum.l0]; rw [if_neg h, if_pos (by omega)]; have : x % 256 = x := by omega
        rw [this]
      · rw [putNum_small h]; exact Ev.now _
theorem specPutNum_ev {x : Int} (h0 : 0 ≤ x) (h1 : x ≤ 9223372036854775807) : Ev (fun k => spec_PutNum.f k x) (putNum x) := by
  have h := specPutNum_l 8 x [] h0 h1 (by omega) (by simp); refine Ev.congr (fun k => ?_) h; unfold spec_PutNum.f; simp only [Option.bind_some]; rw [if_neg (by omega)]
theorem specSeal_ev (l : List Int) (hb : By l) : Ev (fun k => spec_Seal.f k l) (sealOf l) := by
  unfold spec_Seal.f sealOf; by_cases h : l.length > 3000
  · have h' : (l.length : Int) > 3000 := by omega
    simp only [h, h', ↓reduceIte]; exact Ev.now _
  · have h' : ¬ (l.length : Int) > 3000 := by omega
    have hp := (putNum_b9 (x := l.length) (by omega) (by omega)).2.1; simp only [h, h', ↓reduceIte]; refine Ev.bind (specSum_ev l hb (by omega)) ?_; refine Ev.bind (specPutNum_ev (x := l.length) (by omega) (by omega)) ?_; simp only [Option.bind_some, List.length_append, List.length_cons, List.length_nil, show (putNum (l.length : Int)).length + l.length < 140737488355328 by omega, show (putNum (l.length : Int)).length + l.length + (0 + 1 + 1 + 1 + 1) < 140737488355328 by omega, ↓reduceIte]; exact Ev.now _

theorem or_and_128 {x : Int} (h0 : 0 ≤ x) (h9 : x ≤ 9223372036854775807) : Go.bits .or .i64 (Go.bits .and .i64 x 127) 128 = x % 128 + 128 := by
  have e1 : Go.bits .and .i64 x 127 = x % 128 := and_mask 7 (by decide) h0 h9; have e2 : Go.bits .or .i64 (x % 128) 128 = Go.bits .or .i64 128 (x % 128) := by unfold Go.bits; simp only [BitVec.or_comm]
  rw [e1, e2, or_join 7 (by decide) (by decide) (by decide) (by omega) (by omega) (by omega)]; omega
theorem implPutNum_l (m : Nat) : ∀ (x : Int) (acc : List Int), 0 ≤ x → x ≤ 9223372036854775807 → x < 128 ^ (m + 1) → acc.length + m ≤ 140737488355327 → Ev (fun k => impl_PutNum.l0 k x acc) (acc ++ putNum x) := by
  induction m with
  | zero =>
    intro x acc h0 h9 h1 hl; have h : ¬ x > 127 := by simp at h1; omega
    refine Ev.step (f := fun _ => some (acc ++ [x])) (fun k => ?_) ?_
    · simp only [impl_PutNum.l0]; rw [if_neg h, if_pos (by omega)]; have : x % 256 = x := by omega
      rw [this]
    · rw [putNum_small h]; exact Ev.now _
  | succ m ih =>
    intro x acc h0 h9 h1 hl; by_cases h : x > 127
    · refine Ev.step (f := fun k => impl_PutNum.l0 k (x / 128) (acc ++ [x % 128 + 128])) (fun k => ?_) ?_
      · simp only [impl_PutNum.l0]; rw [if_pos h, if_pos (by omega), or_and_128 h0 h9]; have : (x % 128 + 128) % 256 = x % 128 + 128 := by omega
        rw [this]
      · have := ih (x / 128) (acc ++ [x % 128 + 128]) (by omega) (by omega) (by rw [Int.pow_succ] at h1; omega) (by simp; omega); rw [putNum_big h]; simpa using this
    · refine Ev.step (f := fun _ => some (acc ++ [x])) (fun k => ?_) ?_
      · simp only [impl_PutNum.l0]; rw [if_neg h, if_pos (by omega)]; have : x % 256 = x := by omega
        rw [this]
      · rw [putNum_small h]; exact Ev.now _
theorem implPutNum_ev {x : Int} (h0 : 0 ≤ x) (h1 : x ≤ 9223372036854775807) : Ev (fun k => impl_PutNum.f k x) (putNum x) := by
  have h := implPutNum_l 8 x [] h0 h1 (by omega) (by simp); refine Ev.congr (fun k => ?_) h; unfold impl_PutNum.f; rw [if_neg (by omega)]
theorem implSeal_ev (l : List Int) (hb : By l) : Ev (fun k => impl_Seal.f k l) (sealOf l) := by
  unfold impl_Seal.f sealOf; by_cases h : l.length > 3000
  · have h' : (l.length : Int) > 3000 := by omega
    simp only [h, h', ↓reduceIte]; exact Ev.now _
  · have h' : ¬ (l.length : Int) > 3000 := by omega
    have hp := (putNum_b9 (x := l.length) (by omega) (by omega)).2.1; simp only [h, h', ↓reduceIte]; refine Ev.bind (implPutNum_ev (x := l.length) (by omega) (by omega)) ?_; simp only [Option.bind_some, show (putNum (l.length : Int)).length + l.length < 140737488355328 by omega, ↓reduceIte]; refine Ev.bind (sumBytes_ev l hb (by omega)) ?_; simp only [List.length_append, sum4, List.length_cons, List.length_nil, show (putNum (l.length : Int)).length + l.length + (0 + 1 + 1 + 1 + 1) < 140737488355328 by omega, ↓reduceIte]; exact Ev.now _

theorem rdB_mid (P : List ByteArray) (x : ByteArray) (t : List ByteArray) : rdOf ByteArray.empty (P ++ x :: t) (P.length : Int) = x := by
  unfold rdOf; simp
theorem seals_l (rest : List ByteArray) : ∀ (P : List ByteArray) (out : List Int), P.length + rest.length ≤ 100 → out.length ≤ 3013 * P.length → (∀ x ∈ rest, x.size ≤ 140737488355328) → Ev (fun k => spec_l4Seals.l0 k (P ++ rest) out (P.length : Int)) (if okS rest = true then (strOfNums (out ++ sealsB rest), true) else ((⟨#[]⟩ : ByteArray), false)) := by
  induction rest with
  | nil =>
    intro P out hl ho hx; refine Ev.step (f := fun _ => some (strOfNums out, true)) (fun k => ?_) (by simpa [okS, sealsB] using Ev.now _); simp only [spec_l4Seals.l0]; rw [if_neg (by simp)]
  | cons x t ih =>
    intro P out hl ho hx; simp only [List.length_cons] at hl; have hx0 := hx x (by simp); have el : ((P ++ x :: t).length : Int) = P.length + t.length + 1 := by simp; omega
    refine Ev.step (fun k => by simp only [spec_l4Seals.l0]; rw [if_pos (by omega), if_pos (by omega), rdB_mid, if_pos (by omega)]) ?_; refine Ev.bind (specSeal_ev (bytesOf x) (bytesOf_by x)) ?_; rw [sealOf_str]; by_cases c : x.size ≤ 3000
    · have hs := sealed_len x c; have h := ih (P ++ [x]) (out ++ sealed (bytesOf x)) (by simp; omega) (by simp; omega) (fun y hy => hx y (by simp [hy])); simp only [c, ↓reduceIte, show out.length + (sealed (bytesOf x)).length < 140737488355328 by omega]; rw [w64 (by omega) (by omega)]; have e : okS (x :: t) = okS t := by simp [okS, c]
      rw [e]
      simpa [sealsB] using h
    · have e : okS (x :: t) = false := by simp [okS, c]
      simp only [c, ↓reduceIte, Bool.false_eq_true, e]; exact Ev.now _
theorem l4Seals_ev (l : List ByteArray) (hx : ∀ x ∈ l, x.size ≤ 140737488355328) : Ev (fun k => spec_l4Seals.f k l) (if (decide (l.length ≤ 100) && okS l) = true then (strOfNums (sealsB l), true) else ((⟨#[]⟩ : ByteArray), false)) := by
  unfold spec_l4Seals.f; by_cases c : l.length ≤ 100
  · have h := seals_l l [] [] (by simpa using c) (by simp) hx; simp only [show ¬ (l.length : Int) > 100 by omega, ↓reduceIte, c, decide_true, Bool.true_and]
    simpa using h
  · simp only [show (l.length : Int) > 100 by omega, ↓reduceIte, c, decide_false, Bool.false_and, Bool.false_eq_true]; exact Ev.now _
def journalLate (room : Int) (l : List S95) (nm : Int) (q : List ByteArray) : Int × List S95 × Int :=
  if (decide (q.length ≤ 100) && okS q) = true then diskAppend room l nm (strOfNums (sealsB q)) else (0, [], 1)
theorem sealsB_size (q : List ByteArray) (h : (decide (q.length ≤ 100) && okS q) = true) : (strOfNums (sealsB q)).size ≤ 301300 := by
  simp only [Bool.and_eq_true, decide_eq_true_eq] at h; have := sealsB_len q h.2; rw [strOfNums_size]; omega
theorem specJournalLate_ev (room : Int) (l : List S95) (nm : Int) (q : List ByteArray) (h1 : dsize l ≤ 1152921504606846976) (hl : l.length ≤ 3518437208878) (hx : ∀ x ∈ q, x.size ≤ 140737488355328) : Ev (fun k => spec_JournalLate.f k room l nm q) (journalLate room l nm q) := by
  unfold spec_JournalLate.f journalLate; refine Ev.bind (l4Seals_ev q hx) ?_; cases c : (decide (q.length ≤ 100) && okS q)
  · simp only [Bool.false_eq_true, ↓reduceIte]; exact Ev.now _
  · have hs := sealsB_size q c; simp only [↓reduceIte]; refine Ev.bind (specDiskAppend_ev room l nm _ h1 hl (by omega)) ?_; exact Ev.now _
theorem implLate_l (room : Int) (l : List S95) (nm : Int) (h1 : dsize l ≤ 1152921504606846976) (hd : l.length ≤ 3518437208878) (rest : List ByteArray) : ∀ (P : List ByteArray) (out : List Int), P.length + rest.length ≤ 100 → out.length ≤ 3013 * P.length → (∀ x ∈ rest, x.size ≤ 140737488355328) → Ev (fun k => impl_JournalLate.l0 k nm out (P ++ rest) ((P ++ rest).length : Int) (P.length : Int) room l) (if okS rest = true then diskAppend room l nm (strOfNums (out ++ sealsB rest)) else (0, [], 1)) := by
  induction rest with
  | nil =>
    intro P out hl ho hx; refine Ev.step (f := fun k => (impl_DiskAppend.f k room l nm (strOfNums out)).bind fun b => some (b.1, b.2.1, b.2.2)) (fun k => ?_) ?_
    · simp only [impl_JournalLate.l0]; rw [if_neg (by simp)]
    · simp only [okS, List.all_nil, ↓reduceIte, sealsB, List.append_nil]; refine Ev.bind (implDiskAppend_ev room l nm _ h1 hd (by rw [strOfNums_size]; simp at hl; omega)) ?_; exact Ev.now _
  | cons x t ih =>
    intro P out hl ho hx; simp only [List.length_cons] at hl; have hx0 := hx x (by simp); have el : ((P ++ x :: t).length : Int) = P.length + t.length + 1 := by simp; omega
    refine Ev.step (fun k => by simp only [impl_JournalLate.l0]; rw [if_pos (by omega), if_pos (by omega), if_pos (by omega), rdB_mid, if_pos (by omega)]) ?_; refine Ev.bind (implSeal_ev (bytesOf x) (bytesOf_by x)) ?_; rw [sealOf_str]; by_cases c : x.size ≤ 3000
    · have hs := sealed_len x c; have h := ih (P ++ [x]) (out ++ sealed (bytesOf x)) (by simp; omega) (by simp; omega) (fun y hy => hx y (by simp [hy])); simp only [c, ↓reduceIte, show out.length + (sealed (bytesOf x)).length < 140737488355328 by omega]; rw [w64 (by omega) (by omega)]; have e : okS (x :: t) = okS t := by simp [okS, c]
      rw [e]
      simpa [sealsB] using h
    · have e : okS (x :: t) = false := by simp [okS, c]
      simp only [c, ↓reduceIte, Bool.false_eq_true, e]; exact Ev.now _
theorem implJournalLate_ev (room : Int) (l : List S95) (nm : Int) (q : List ByteArray) (h1 : dsize l ≤ 1152921504606846976) (hl : l.length ≤ 3518437208878) (hq : q.length ≤ 140737488355328) (hx : ∀ x ∈ q, x.size ≤ 140737488355328) : Ev (fun k => impl_JournalLate.f k room l nm q) (journalLate room l nm q) := by
  unfold impl_JournalLate.f journalLate; refine Ev.bind (implDiskOk_ev room l h1 (by omega)) ?_; have hj : Ev (fun k => impl_JournalLate.j0 k nm q true room l) (0, [], 1) := by
    refine Ev.step (f := fun _ => some (0, [], 1)) (fun k => ?_) (Ev.now _); simp only [impl_JournalLate.j0, ↓reduceIte]
  have hbad : ∀ s, (diskOk room l && inr nm 0 7) = false → diskAppend room l nm s = (0, [], 1) := fun s h => by unfold diskAppend; rw [h]; rfl
  cases h : diskOk room l
  · simp only [Bool.false_eq_true, ↓reduceIte]; rw [hbad _ (by rw [h]; rfl)]
    simpa using hj
  · simp only [↓reduceIte, isFile_eq, Option.bind_some]; cases h2 : inr nm 0 7
    · simp only [Bool.false_eq_true, ↓reduceIte]; rw [hbad _ (by rw [h, h2]; rfl)]
      simpa using hj
    · simp only [↓reduceIte]; by_cases c : q.length ≤ 100
      · have c' : decide ((q.length : Int) > 100) = false := decide_eq_false (by omega); have hh := implLate_l room l nm h1 hl q [] [] (by simpa using c) (by simp) hx; simp only [c', c, decide_true, Bool.true_and]; refine Ev.step (fun k => by simp only [impl_JournalLate.j0, Bool.false_eq_true, ↓reduceIte]; rfl) ?_
        simpa using hh
      · have c' : decide ((q.length : Int) > 100) = true := decide_eq_true (by omega); simp only [c', c, decide_false, Bool.false_and, Bool.false_eq_true, ↓reduceIte]; exact hj
theorem journalLate_len (room : Int) (l : List S95) (nm : Int) (q : List ByteArray) : (journalLate room l nm q).2.1.length ≤ l.length + 1 := by
  unfold journalLate
  split
  · exact diskAppend_len _ _ _ _
  · simp

theorem diskAppend_size (room : Int) (l : List S95) (nm : Int) (s : ByteArray) (hl : l.length ≤ 140737488355328) : dsize (diskAppend room l nm s).2.1 ≤ 2 * dsize l + s.size := by
  have hn := dsize_nn l; unfold diskAppend
  split
  · split
    · simp only; omega
    · have h2 := dsize_putG (appF l nm s) l; have h3 := appF_size l nm s hl
      simp only; omega
  · simp only [dsize]; omega
theorem journalLate_size (room : Int) (l : List S95) (nm : Int) (q : List ByteArray) (hl : l.length ≤ 140737488355328) : dsize (journalLate room l nm q).2.1 ≤ 2 * dsize l + 301300 := by
  have hn := dsize_nn l; unfold journalLate
  split
  · rename_i h
    have h1 := diskAppend_size room l nm (strOfNums (sealsB q)) hl; have h2 := sealsB_size q h; omega
  · simp only [dsize]; omega
def journalAdd (room : Int) (l : List S95) (nm : Int) (q : List ByteArray) : Int × List S95 × Int :=
  if (journalLate room l nm q).2.2 = 0 then diskSync (journalLate room l nm q).1 (journalLate room l nm q).2.1 nm else journalLate room l nm q
theorem specJournalAdd_ev (room : Int) (l : List S95) (nm : Int) (q : List ByteArray) (h1 : dsize l ≤ 140737488355328) (hl : l.length ≤ 1759218604439) (hx : ∀ x ∈ q, x.size ≤ 140737488355328) : Ev (fun k => spec_JournalAdd.f k room l nm q) (journalAdd room l nm q) := by
  unfold spec_JournalAdd.f journalAdd; refine Ev.bind (specJournalLate_ev room l nm q (by omega) (by omega) hx) ?_; have hs := journalLate_size room l nm q (by omega); have hc := journalLate_len room l nm q; generalize journalLate room l nm q = U at *; obtain ⟨u0, u1, u2⟩ := U; simp only at hs hc ⊢; by_cases h : u2 = 0
  · simp only [h, ↓reduceIte]; refine Ev.bind (specDiskSync_ev u0 u1 nm (by omega) (by omega)) ?_; exact Ev.now _
  · simp only [h, ↓reduceIte]; exact Ev.now _
theorem implJournalAdd_ev (room : Int) (l : List S95) (nm : Int) (q : List ByteArray) (h1 : dsize l ≤ 140737488355328) (hl : l.length ≤ 1759218604439) (hq : q.length ≤ 140737488355328) (hx : ∀ x ∈ q, x.size ≤ 140737488355328) : Ev (fun k => impl_JournalAdd.f k room l nm q) (journalAdd room l nm q) := by
  unfold impl_JournalAdd.f journalAdd; refine Ev.bind (implJournalLate_ev room l nm q (by omega) (by omega) hq hx) ?_; have hs := journalLate_size room l nm q (by omega); have hc := journalLate_len room l nm q; generalize journalLate room l nm q = U at *; obtain ⟨u0, u1, u2⟩ := U; simp only at hs hc ⊢; by_cases h : u2 = 0
  · simp only [h, ↓reduceIte]; refine Ev.bind (implDiskSync_ev u0 u1 nm (by omega) (by omega)) ?_; exact Ev.now _
  · simp only [h, ↓reduceIte]; exact Ev.now _

theorem l4DrawList_l (b : List Int) (hb : b.length ≤ 140737488355328) (a : Int) (ha : 0 ≤ a ∧ a ≤ 10) (d : Nat) : ∀ (acc : List ByteArray) (i h : Int), (acc.length : Int) + d = a → (∀ x ∈ acc, x.size ≤ 5) → (0 ≤ i ∧ i ≤ 9223372036854775807) →
    ∃ r i' h', Ev (fun k => spec_l4DrawList.l0 k a acc (acc.length : Int) b i h) (r, i', h') ∧ ((r.length : Int) ≤ a ∧ ∀ x ∈ r, x.size ≤ 5) ∧ (0 ≤ i' ∧ i' ≤ 9223372036854775807) := by
  induction d with
  | zero =>
    intro acc i h hd hx hi; obtain ⟨y, i1, h1, e1, p1, _, b1⟩ := l1Below_ok b i h (a + 1) hi hb; have b1 := b1 (by omega); refine ⟨acc, i1, h1, ?_, ⟨by omega, hx⟩, p1⟩; refine Ev.step (f := fun _ => some (acc, i1, h1)) (fun k => ?_) (Ev.now _); simp only [spec_l4DrawList.l0, w64 (x := a + 1) (by omega) (by omega), e1, Option.bind_some]; rw [if_neg (by omega)]
  | succ d ih =>
    intro acc i h hd hx hi; obtain ⟨y, i1, h1, e1, p1, _, b1⟩ := l1Below_ok b i h (a + 1) hi hb; have b1 := b1 (by omega); by_cases c : (acc.length : Int) < y
    · obtain ⟨s, i2, h2, e2, hs, p2⟩ := l3DrawText_ok b i1 h1 5 p1 hb (by omega); obtain ⟨r, i', h', e', B, p'⟩ := ih (acc ++ [s]) i2 h2 (by simp; omega) (fun x hx' => by
        rcases List.mem_append.1 hx' with h | h
        · exact hx x h
        · have := List.mem_singleton.1 h; subst this; omega) p2
      refine ⟨r, i', h', ?_, B, p'⟩; refine Ev.step (fun k => by simp only [spec_l4DrawList.l0, w64 (x := a + 1) (by omega) (by omega), e1, Option.bind_some, c, ↓reduceIte]; rfl) ?_; refine Ev.bind e2 ?_; simp only [show acc.length < 8796093022208 by omega, ↓reduceIte]; rw [w64 (by omega) (by omega)]
      simpa using e'
    · refine ⟨acc, i1, h1, ?_, ⟨by omega, hx⟩, p1⟩; refine Ev.step (f := fun _ => some (acc, i1, h1)) (fun k => ?_) (Ev.now _); simp only [spec_l4DrawList.l0, w64 (x := a + 1) (by omega) (by omega), e1, Option.bind_some, c, ↓reduceIte]
theorem l4DrawList_ok (b : List Int) (hb : b.length ≤ 140737488355328) (a : Int) (ha : 0 ≤ a ∧ a ≤ 10) (i h : Int) (hi : 0 ≤ i ∧ i ≤ 9223372036854775807) :
    ∃ r i' h', Ev (fun k => spec_l4DrawList.f k b i h a) (r, i', h') ∧ ((r.length : Int) ≤ a ∧ ∀ x ∈ r, x.size ≤ 5) ∧ (0 ≤ i' ∧ i' ≤ 9223372036854775807) :=
  l4DrawList_l b hb a ha a.toNat [] i h (by simp; omega) (by simp) hi
/-- a disk of the draws of journals -/
def DJ (room : Int) (l : List S95) : Prop := (0 ≤ room ∧ room ≤ 500) ∧ dsize l ≤ 500 ∧ l.length ≤ 10
theorem diskCut_le (room : Int) (l : List S95) (nm n : Int) : dsize (diskCut room l nm n).2.1 ≤ dsize l := by
  have hn := dsize_nn l; unfold diskCut
  split
  · split
    · exact Int.le_refl _
    · split
      · obtain ⟨h1, h2⟩ := idx_rd nm l (by omega); have h3 := dsize_set_eq l (idxName l nm 0).toNat (cutF l nm n) _ h2; have e1 := extract_le (rd_T95 l (idxName l nm 0)).f1 (mn n ((rd_T95 l (idxName l nm 0)).f1.size : Int)).toNat; have e2 := extract_le (rd_T95 l (idxName l nm 0)).f2 (n - mn n ((rd_T95 l (idxName l nm 0)).f1.size : Int)).toNat; simp only [cutF] at h3 ⊢; omega
      · exact Int.le_refl _
  · simpa [dsize] using hn
theorem diskCut_room (room : Int) (l : List S95) (nm n : Int) : (diskCut room l nm n).1 = room ∨ (diskCut room l nm n).1 = 0 := by
  unfold diskCut
  split
  · split
    · exact .inl rfl
    · split <;> exact .inl rfl
  · exact .inr rfl
theorem app_len (room : Int) (l : List S95) (nm : Int) (s : ByteArray) (h : l.length ≤ 10) : (diskAppend room l nm s).2.1.length ≤ 10 := by
  unfold diskAppend
  split
  · rename_i h1
    simp only [Bool.and_eq_true] at h1; have hb := diskOk_b h1.1
    split
    · exact h
    · have := (dsize_putG (appF l nm s) l).2
      simp only; omega
  · simp
theorem DJ_append (room : Int) (l : List S95) (nm : Int) (s : ByteArray) (h : DJ room l) : DJ (diskAppend room l nm s).1 (diskAppend room l nm s).2.1 := by
  obtain ⟨h1, h2, h3⟩ := h; have a := diskAppend_room room l nm s; have b := (diskAppend_le room l nm s).2; exact ⟨by omega, by omega, app_len room l nm s h3⟩
theorem DJ_sync (room : Int) (l : List S95) (nm : Int) (h : DJ room l) : DJ (diskSync room l nm).1 (diskSync room l nm).2.1 := by
  obtain ⟨h1, h2, h3⟩ := h; have a := diskSync_room room l nm; have b := diskSync_le room l nm; have c := diskSync_len room l nm; exact ⟨by omega, by omega, by omega⟩
theorem DJ_cut (room : Int) (l : List S95) (nm n : Int) (h : DJ room l) : DJ (diskCut room l nm n).1 (diskCut room l nm n).2.1 := by
  obtain ⟨h1, h2, h3⟩ := h; have a := diskCut_room room l nm n; have b := diskCut_le room l nm n; have c := diskCut_len room l nm n; exact ⟨by omega, by omega, by omega⟩
theorem DJ_late (room : Int) (l : List S95) (nm : Int) (q : List ByteArray) (h : DJ room l) : DJ (journalLate room l nm q).1 (journalLate room l nm q).2.1 := by
  unfold journalLate
  split
  · exact DJ_append room l nm _ h
  · exact ⟨by omega, by simp [dsize], by simp⟩
theorem DJ_add (room : Int) (l : List S95) (nm : Int) (q : List ByteArray) (h : DJ room l) : DJ (journalAdd room l nm q).1 (journalAdd room l nm q).2.1 := by
  have h1 := DJ_late room l nm q h; unfold journalAdd
  split
  · exact DJ_sync _ _ nm h1
  · exact h1
theorem DJ_mend (room : Int) (l : List S95) (nm : Int) (h : DJ room l) : DJ (journalMend room l nm).1 (journalMend room l nm).2.1 := by
  unfold journalMend
  split
  · exact DJ_sync _ _ nm (DJ_cut _ _ nm _ h)
  · exact DJ_cut _ _ nm _ h
theorem DJ_crash (room : Int) (l : List S95) (ks : List Int) (h : DJ room l) : DJ (diskCrash room l ks).1 (diskCrash room l ks).2 := by
  obtain ⟨h1, h2, h3⟩ := h; have b := diskCrash_len room l ks; refine ⟨?_, ?_, by omega⟩
  · unfold diskCrash; split <;> simp only <;> omega
  · unfold diskCrash
    split
    · have := dsize_crash ks l 0; simp only; omega
    · simp [dsize]
def RB (room : Int) : Prop := -9223372036854775808 ≤ room ∧ room ≤ 9223372036854775807
theorem drawDiskJ_l (b : List Int) (hb : b.length ≤ 140737488355328) (d : Nat) : ∀ (x i h room : Int) (l : List S95), 0 ≤ x → x + d = 9 → (0 ≤ i ∧ i ≤ 9223372036854775807) → DJ room l →
    ∃ room' l' i' h', Ev (fun k => spec_l4DrawDisk.l0 k x b i h room l) (room', l', i', h') ∧ (RB room' ∧ dsize l' ≤ 500 ∧ l'.length ≤ 11) ∧ (0 ≤ i' ∧ i' ≤ 9223372036854775807) := by
  have fin : ∀ (x i h room : Int) (l : List S95) (y i1 h1 : Int), spec_l1Below.f b i h 9 = some (y, i1, h1) → (0 ≤ i1 ∧ i1 ≤ 9223372036854775807) → ¬ x < y → DJ room l →
      ∃ room' l' i' h', Ev (fun k => spec_l4DrawDisk.l0 k x b i h room l) (room', l', i', h') ∧ (RB room' ∧ dsize l' ≤ 500 ∧ l'.length ≤ 11) ∧ (0 ≤ i' ∧ i' ≤ 9223372036854775807) := by
    intro x i h room l y i1 h1 e1 p1 c hD; obtain ⟨w, i2, h2, e2, p2⟩ := l1Once_ok b i1 h1 25 p1 hb; cases w
    · refine ⟨room, l, i2, h2, ?_, ⟨⟨by have := hD.1; omega, by have := hD.1; omega⟩, hD.2.1, by have := hD.2.2; omega⟩, p2⟩; refine Ev.step (f := fun _ => some (room, l, i2, h2)) (fun k => ?_) (Ev.now _); simp only [spec_l4DrawDisk.l0, e1, e2, Option.bind_some, c, Bool.false_eq_true, ↓reduceIte]
    · obtain ⟨r', l', i', h', e', D', p'⟩ := l3DrawDisk_s b hb i2 h2 p2; refine ⟨r', l', i', h', ?_, ⟨D'.1, by have := D'.2.1; omega, D'.2.2⟩, p'⟩; refine Ev.step (fun k => by simp only [spec_l4DrawDisk.l0, e1, e2, Option.bind_some, c, ↓reduceIte]; rfl) ?_; exact Ev.bind e' (Ev.now _)
  induction d with
  | zero =>
    intro x i h room l hx hd hi hD; obtain ⟨y, i1, h1, e1, p1, _, b1⟩ := l1Below_ok b i h 9 hi hb; have b1 := b1 (by omega); exact fin x i h room l y i1 h1 e1 p1 (by omega) hD
  | succ d ih =>
    intro x i h room l hx hd hi hD; have hw : wrap64 (x + 1) = x + 1 := w64 (by omega) (by omega); obtain ⟨y, i1, h1, e1, p1, _, b1⟩ := l1Below_ok b i h 9 hi hb; by_cases c : ¬ x < y
    · exact fin x i h room l y i1 h1 e1 p1 c hD
    · replace c := Decidable.not_not.1 c; have hs1 : dsize l ≤ 1048576 := by have := hD.2.1; omega
      have hl1 : l.length ≤ 1048576 := by have := hD.2.2; omega
      obtain ⟨z, i2, h2, e2, p2, _, b2⟩ := l1Below_ok b i1 h1 6 p1 hb; have key : ∀ v : Bool, ∃ room' l' i' h', Ev (fun k => spec_l4DrawDisk.j1 k x z v b i2 h2 room l) (room', l', i', h') ∧ (RB room' ∧ dsize l' ≤ 500 ∧ l'.length ≤ 11) ∧ (0 ≤ i' ∧ i' ≤ 9223372036854775807) := by
        intro v; cases v
        · by_cases c3 : z = 3
          · obtain ⟨u, i3, h3, e3, p3, _, b3⟩ := l1Below_ok b i2 h2 3 p2 hb; obtain ⟨q, i4, h4, e4, hq, p4⟩ := l4DrawList_ok b hb 3 (by omega) i3 h3 p3; have hv := DJ_late room l u q hD; have es := specJournalLate_ev room l u q (by omega) (by omega) (fun x hx => by have := hq.2 x hx; omega); generalize journalLate room l u q = U at *; obtain ⟨u0, u1, u2⟩ := U; simp only at hv; by_cases cu : u2 = 1
            · obtain ⟨r', l', i', h', e', D', p'⟩ := ih (x + 1) i4 h4 room l (by omega) (by omega) p4 hD; refine ⟨r', l', i', h', ?_, D', p'⟩; refine Ev.step (fun k => by simp only [spec_l4DrawDisk.j1, Bool.false_eq_true, ↓reduceIte, c3, e3, Option.bind_some]; rfl) ?_; refine Ev.bind e4 (Ev.bind es ?_); simp only [cu, ↓reduceIte, hw]; exact e'
            · obtain ⟨r', l', i', h', e', D', p'⟩ := ih (x + 1) i4 h4 u0 u1 (by omega) (by omega) p4 hv; refine ⟨r', l', i', h', ?_, D', p'⟩; refine Ev.step (fun k => by simp only [spec_l4DrawDisk.j1, Bool.false_eq_true, ↓reduceIte, c3, e3, Option.bind_some]; rfl) ?_; refine Ev.bind e4 (Ev.bind es ?_); simp only [cu, ↓reduceIte, hw]; exact e'
          · by_cases c4 : z = 4
            · obtain ⟨u, i3, h3, e3, p3, _, b3⟩ := l1Below_ok b i2 h2 30 p2 hb; obtain ⟨u', i4, h4, e4, p4, _, b4⟩ := l1Below_ok b i3 h3 30 p3 hb; obtain ⟨u'', i5, h5, e5, p5, _, b5⟩ := l1Below_ok b i4 h4 30 p4 hb; have hv := DJ_crash room l [u, u', u''] hD; have es := specDiskCrash_ev room l [u, u', u''] (by omega) (by omega); generalize diskCrash room l [u, u', u''] = U at *; obtain ⟨u0, u1⟩ := U; simp only at hv; obtain ⟨r', l', i', h', e', D', p'⟩ := ih (x + 1) i5 h5 u0 u1 (by omega) (by omega) p5 hv; refine ⟨r', l', i', h', ?_, D', p'⟩; refine Ev.step (fun k => by simp only [spec_l4DrawDisk.j1, Bool.false_eq_true, ↓reduceIte, c3, c4, show ¬ ((4 : Int) = 3) by decide, e3, e4, e5, Option.bind_some]; rfl) ?_; refine Ev.bind es ?_; simp only [show ¬ ((0 : Int) = 1) by decide, ↓reduceIte, hw]; exact e'
            · obtain ⟨w, i3, h3, e3, p3⟩ := l1Once_ok b i2 h2 3 p2 hb; cases w
              · obtain ⟨u, i4, h4, e4, p4, _, b4⟩ := l1Below_ok b i3 h3 3 p3 hb; have hv := DJ_mend room l u hD; have es := specJournalMend_ev room l u hs1 hl1; generalize journalMend room l u = U at *; obtain ⟨u0, u1, u2⟩ := U; simp only at hv; by_cases cu : u2 = 1
                · obtain ⟨r', l', i', h', e', D', p'⟩ := ih (x + 1) i4 h4 room l (by omega) (by omega) p4 hD; refine ⟨r', l', i', h', ?_, D', p'⟩; refine Ev.step (fun k => by simp only [spec_l4DrawDisk.j1, Bool.false_eq_true, ↓reduceIte, c3, c4, e3, e4, Option.bind_some]; rfl) ?_; refine Ev.bind es ?_; simp only [cu, ↓reduceIte, hw]; exact e'
                · obtain ⟨r', l', i', h', e', D', p'⟩ := ih (x + 1) i4 h4 u0 u1 (by omega) (by omega) p4 hv; refine ⟨r', l', i', h', ?_, D', p'⟩; refine Ev.step (fun k => by simp only [spec_l4DrawDisk.j1, Bool.false_eq_true, ↓reduceIte, c3, c4, e3, e4, Option.bind_some]; rfl) ?_; refine Ev.bind es ?_; simp only [cu, ↓reduceIte, hw]; exact e'
              · obtain ⟨u, i4, h4, e4, p4, _, b4⟩ := l1Below_ok b i3 h3 3 p3 hb; obtain ⟨s, i5, h5, e5, hs, p5⟩ := l3DrawText_ok b i4 h4 4 p4 hb (by omega); have hv := DJ_append room l u s hD; have es := specDiskAppend_ev room l u s (by omega) (by omega) (by omega); generalize diskAppend room l u s = U at *; obtain ⟨u0, u1, u2⟩ := U; simp only at hv; by_cases cu : u2 = 1
                · obtain ⟨r', l', i', h', e', D', p'⟩ := ih (x + 1) i5 h5 room l (by omega) (by omega) p5 hD; refine ⟨r', l', i', h', ?_, D', p'⟩; refine Ev.step (fun k => by simp only [spec_l4DrawDisk.j1, Bool.false_eq_true, ↓reduceIte, c3, c4, e3, e4, Option.bind_some]; rfl) ?_; refine Ev.bind e5 (Ev.bind es ?_); simp only [cu, ↓reduceIte, hw]; exact e'
                · obtain ⟨r', l', i', h', e', D', p'⟩ := ih (x + 1) i5 h5 u0 u1 (by omega) (by omega) p5 hv; refine ⟨r', l', i', h', ?_, D', p'⟩; refine Ev.step (fun k => by simp only [spec_l4DrawDisk.j1, Bool.false_eq_true, ↓reduceIte, c3, c4, e3, e4, Option.bind_some]; rfl) ?_; refine Ev.bind e5 (Ev.bind es ?_); simp only [cu, ↓reduceIte, hw]; exact e'
        · obtain ⟨u, i3, h3, e3, p3, _, b3⟩ := l1Below_ok b i2 h2 3 p2 hb; obtain ⟨q, i4, h4, e4, hq, p4⟩ := l4DrawList_ok b hb 3 (by omega) i3 h3 p3; have hv := DJ_add room l u q hD; have es := specJournalAdd_ev room l u q (by omega) (by omega) (fun x hx => by have := hq.2 x hx; omega); generalize journalAdd room l u q = U at *; obtain ⟨u0, u1, u2⟩ := U; simp only at hv; by_cases cu : u2 = 1
          · obtain ⟨r', l', i', h', e', D', p'⟩ := ih (x + 1) i4 h4 room l (by omega) (by omega) p4 hD; refine ⟨r', l', i', h', ?_, D', p'⟩; refine Ev.step (fun k => by simp only [spec_l4DrawDisk.j1, ↓reduceIte, e3, Option.bind_some]; rfl) ?_; refine Ev.bind e4 (Ev.bind es ?_); simp only [cu, ↓reduceIte, hw]; exact e'
          · obtain ⟨r', l', i', h', e', D', p'⟩ := ih (x + 1) i4 h4 u0 u1 (by omega) (by omega) p4 hv; refine ⟨r', l', i', h', ?_, D', p'⟩; refine Ev.step (fun k => by simp only [spec_l4DrawDisk.j1, ↓reduceIte, e3, Option.bind_some]; rfl) ?_; refine Ev.bind e4 (Ev.bind es ?_); simp only [cu, ↓reduceIte, hw]; exact e'
      by_cases z0 : z = 0
      · obtain ⟨r', l', i', h', e', D', p'⟩ := key (z == 0); refine ⟨r', l', i', h', Ev.step (fun k => ?_) e', D', p'⟩; simp only [spec_l4DrawDisk.l0, e1, e2, Option.bind_some, c, z0, ↓reduceIte]
      · by_cases z1 : z = 1
        · obtain ⟨r', l', i', h', e', D', p'⟩ := key (z == 1); refine ⟨r', l', i', h', Ev.step (fun k => ?_) e', D', p'⟩; simp only [spec_l4DrawDisk.l0, e1, e2, Option.bind_some, c, z0, z1, ↓reduceIte, show ¬ ((1 : Int) = 0) by decide]
        · obtain ⟨r', l', i', h', e', D', p'⟩ := key (z == 2); refine ⟨r', l', i', h', Ev.step (fun k => ?_) e', D', p'⟩; simp only [spec_l4DrawDisk.l0, e1, e2, Option.bind_some, c, z0, z1, ↓reduceIte]
theorem l4DrawDisk_ok (b : List Int) (hb : b.length ≤ 140737488355328) (i h : Int) (hi : 0 ≤ i ∧ i ≤ 9223372036854775807) :
    ∃ room' l' i' h', Ev (fun k => spec_l4DrawDisk.f k b i h) (room', l', i', h') ∧ (RB room' ∧ dsize l' ≤ 500 ∧ l'.length ≤ 11) ∧ (0 ≤ i' ∧ i' ≤ 9223372036854775807) := by
  obtain ⟨x, i1, h1, e1, p1, _, b1⟩ := l1Below_ok b i h 300 hi hb; have b1 := b1 (by omega); have nn := l1Below_nn b i h 300 x i1 h1 e1; obtain ⟨r', l', i', h', e', D', p'⟩ := drawDiskJ_l b hb 9 0 i1 h1 (200 + x) [] (by omega) (by omega) p1 ⟨by omega, by simp [dsize], by simp⟩; refine ⟨r', l', i', h', ?_, D', p'⟩; unfold spec_l4DrawDisk.f; simp only [e1, Option.bind_some]; rw [w64 (x := 200 + x) (by omega) (by omega)]; exact e'
def QB (q : List ByteArray) : Prop := q.length ≤ 101 ∧ ∀ x ∈ q, x.size ≤ 3001
theorem l4Draw_j0 (b : List Int) (hb : b.length ≤ 140737488355328) (nm i h room : Int) (l : List S95) (hi : 0 ≤ i ∧ i ≤ 9223372036854775807) (hr : RB room) :
    ∃ room' q, Ev (fun k => spec_l4Draw.j0 k nm b i h room l) (room', l, nm, q) ∧ RB room' ∧ QB q := by
  obtain ⟨q, i1, h1, e1, hq, p1⟩ := l4DrawList_ok b hb 4 (by omega) i h hi; obtain ⟨x, i2, h2, e2, p2, _, b2⟩ := l1Below_ok b i1 h1 30 p1 hb; by_cases x0 : x = 0
  · obtain ⟨y, i3, h3, e3, p3, _, b3⟩ := l1Below_ok b i2 h2 2 p2 hb; have b3 := b3 (by omega); have hw : wrap64 (100 + y) = 100 + y := w64 (by omega) (by omega); refine ⟨room, List.replicate (100 + y).toNat (⟨#[]⟩ : ByteArray), ?_, hr, ⟨by simp; omega, fun x hx => ?_⟩⟩
    · refine Ev.step (fun k => by simp only [spec_l4Draw.j0]; rfl) ?_; refine Ev.bind e1 ?_; simp only [e2, e3, Option.bind_some, x0, ↓reduceIte, hw]; rw [if_pos (by omega), if_pos (by omega)]; exact Ev.now _
    · have := (List.mem_replicate.1 hx).2; subst this; exact Nat.zero_le _
  · by_cases x1 : x = 1
    · obtain ⟨y, i3, h3, e3, p3, _, b3⟩ := l1Below_ok b i2 h2 2 p2 hb; have b3 := b3 (by omega); have hw : wrap64 (3000 + y) = 3000 + y := w64 (by omega) (by omega); have hqs := hq.1; refine ⟨40000, q ++ [strOfNums (List.replicate (3000 + y).toNat 0)], ?_, ⟨by omega, by omega⟩, ⟨by simp; omega, fun x hx => ?_⟩⟩
      · refine Ev.step (fun k => by simp only [spec_l4Draw.j0]; rfl) ?_; refine Ev.bind e1 ?_; simp only [e2, e3, Option.bind_some, x0, x1, ↓reduceIte, hw, show ¬ ((1 : Int) = 0) by decide]; rw [if_pos (by omega), if_pos (by omega), if_pos (by omega)]; exact Ev.now _
      · rcases List.mem_append.1 hx with hx | hx
        · have := hq.2 x hx; omega
        · have := List.mem_singleton.1 hx; subst this; rw [strOf_size, List.length_replicate]; omega
    · refine ⟨room, q, ?_, hr, ⟨by have := hq.1; omega, fun x hx => by have := hq.2 x hx; omega⟩⟩; refine Ev.step (fun k => by simp only [spec_l4Draw.j0]; rfl) ?_; refine Ev.bind e1 ?_; simp only [e2, Option.bind_some, x0, x1, ↓reduceIte]; exact Ev.now _
theorem drawJournalAdd_ok (l : List Int) (hl : l.length ≤ 140737488355328) : ∃ room f nm q, Ev (fun k => spec_DrawJournalAdd.f k l) (room, f, nm, q) ∧ RB room ∧ (dsize f ≤ 500 ∧ f.length ≤ 11) ∧ QB q := by
  obtain ⟨h0, e0⟩ := l1New_ev l hl; obtain ⟨r, f, i1, h1, e1, D1, p1⟩ := l4DrawDisk_ok l hl 0 h0 (by omega); obtain ⟨x, i2, h2, e2, p2, _, b2⟩ := l1Below_ok l i1 h1 3 p1 hl; obtain ⟨w, i3, h3, e3, p3⟩ := l1Once_ok l i2 h2 20 p2 hl; cases w
  · obtain ⟨r', q, e', hr', hq'⟩ := l4Draw_j0 l hl x i3 h3 r f p3 D1.1; refine ⟨r', f, x, q, ?_, hr', D1.2, hq'⟩; unfold spec_DrawJournalAdd.f spec_l4Draw.f; refine Ev.bind (a := (r', f, _, q)) (Ev.bind e0 (Ev.bind e1 ?_)) (Ev.now _); simp only [e2, e3, Option.bind_some, Bool.false_eq_true, ↓reduceIte]; exact e'
  · obtain ⟨y, i4, h4, e4, p4⟩ := l3DrawName_ok l hl i3 h3 p3; obtain ⟨r', q, e', hr', hq'⟩ := l4Draw_j0 l hl y i4 h4 r f p4 D1.1; refine ⟨r', f, y, q, ?_, hr', D1.2, hq'⟩; unfold spec_DrawJournalAdd.f spec_l4Draw.f; refine Ev.bind (a := (r', f, _, q)) (Ev.bind e0 (Ev.bind e1 ?_)) (Ev.now _); simp only [e2, e3, e4, Option.bind_some, ↓reduceIte]; exact e'

theorem rd_app (P Q : List Int) (i : Nat) : rd (P ++ Q) ((P.length + i : Nat) : Int) = rd Q (i : Int) := by
  rw [rd_nat, rd_nat]
  simp [List.getD_eq_getElem?_getD, List.getElem?_append_right]
theorem rd_app_l (P Q : List Int) (i : Nat) (h : i < P.length) : rd (P ++ Q) (i : Int) = rd P (i : Int) := by
  rw [rd_nat, rd_nat]
  simp [List.getD_eq_getElem?_getD, List.getElem?_append_left h]
theorem getNum_put (P R : List Int) (n : Int) (h0 : 0 ≤ n) (h1 : n ≤ 3000) : getNum (P ++ (putNum n ++ R)) (P.length : Int) = (n, (P.length : Int) + (putNum n).length, true) := by
  have e0 : ∀ Q : List Int, rd (P ++ Q) ((P.length : Int) + ((0 : Nat) : Int)) = rd Q 0 := fun Q => by have := rd_app P Q 0; simpa using this
  have e1 : ∀ Q : List Int, rd (P ++ Q) ((P.length : Int) + ((0 + 1 : Nat) : Int)) = rd Q 1 := fun Q => by have := rd_app P Q 1; simpa using this
  unfold getNum; rw [if_neg (by omega)]; by_cases h : n > 127
  · rw [putNum_big h, putNum_small (x := n / 128) (by omega)]; simp only [gn, List.cons_append, List.nil_append]; rw [e0, e1, if_pos (by simp; omega)]; have r0 : rd ((n % 128 + 128) :: n / 128 :: R) 0 = n % 128 + 128 := rfl; have r1 : rd ((n % 128 + 128) :: n / 128 :: R) 1 = n / 128 := rfl; rw [r0, r1, if_neg (by omega), if_pos (by simp; omega), if_pos (by omega), if_neg (by omega), p7_0, p7_succ, p7_0]; simp only [Prod.mk.injEq, and_true]; refine ⟨by omega, by simp; omega⟩
  · rw [putNum_small h]; simp only [gn, List.cons_append, List.nil_append]; rw [e0, if_pos (by simp; omega)]; have r0 : rd (n :: R) 0 = n := rfl; rw [r0, if_pos (by omega), if_neg (by omega), p7_0]; simp only [Prod.mk.injEq, and_true]; refine ⟨by omega, by simp⟩
theorem seg_app (A B : List Int) (i j : Nat) : seg (A ++ B) ((A.length : Int) + i) ((A.length : Int) + j) = (B.take j).drop i := by
  unfold seg; have h1 : ((A.length : Int) + (j : Int)).toNat = A.length + j := by omega
  have h2 : ((A.length : Int) + (i : Int)).toNat = A.length + i := by omega
  rw [h1, h2, List.take_append, List.drop_append]
  simp
theorem unseal_at (P R : List Int) (n : Nat) (h1 : n ≤ 3000) (hR : R.length = n + 4) : unsealOf (P ++ (putNum (n : Int) ++ R)) (P.length : Int) = if R.drop n = sum4 (R.take n) then (R.take n, (P.length : Int) + (putNum (n : Int)).length + n + 4, 0) else ([], 0, 3) := by
  have g := getNum_put P R n (by omega) (by omega); unfold unsealOf; rw [g]; simp only [show (n : Int) ≤ 3000 by omega, and_self, ↓reduceIte]; have hl : ((P ++ (putNum (n : Int) ++ R)).length : Int) = P.length + (putNum (n : Int)).length + n + 4 := by simp; omega
  rw [if_neg (by omega)]; have ea : P ++ (putNum (n : Int) ++ R) = (P ++ putNum (n : Int)) ++ R := by simp
  have la : ((P ++ putNum (n : Int)).length : Int) = P.length + (putNum (n : Int)).length := by simp
  have s1 := seg_app (P ++ putNum (n : Int)) R n (n + 4); have s2 := seg_app (P ++ putNum (n : Int)) R 0 n; rw [la] at s1 s2; have e1 : seg (P ++ (putNum (n : Int) ++ R)) ((P.length : Int) + (putNum (n : Int)).length + n) ((P.length : Int) + (putNum (n : Int)).length + n + 4) = R.drop n := by
    rw [ea, show ((P.length : Int) + (putNum (n : Int)).length + n + 4) = ((P.length : Int) + (putNum (n : Int)).length + ((n + 4 : Nat) : Int)) by omega, s1, List.take_of_length_le (by omega)]
  have e2 : seg (P ++ (putNum (n : Int) ++ R)) ((P.length : Int) + (putNum (n : Int)).length) ((P.length : Int) + (putNum (n : Int)).length + n) = R.take n := by
    have : ((P.length : Int) + (putNum (n : Int)).length) = ((P.length : Int) + (putNum (n : Int)).length + ((0 : Nat) : Int)) := by omega
    rw [ea]; rw [this] at s2 ⊢; rw [Int.natCast_zero, Int.add_zero] at *
    simpa using s2
  rw [e1, e2]
theorem unseal_sealed (P b : List Int) (hl : b.length ≤ 3000) : unsealOf (P ++ sealed b) (P.length : Int) = (b, (P.length : Int) + (sealed b).length, 0) := by
  have h := unseal_at P (b ++ sum4 b) b.length hl (by simp [sum4]); have e1 : (b ++ sum4 b).drop b.length = sum4 b := by simp
  have e2 : (b ++ sum4 b).take b.length = b := by simp
  have el : ((sealed b).length : Int) = (putNum (b.length : Int)).length + b.length + 4 := by simp [sealed, sum4]; omega
  rw [e1, e2, if_pos rfl] at h; unfold sealed at *; rw [List.append_assoc (putNum (b.length : Int)), h]; rw [List.append_assoc (putNum (b.length : Int))] at el; rw [el]; simp only [Prod.mk.injEq, and_true, true_and]; omega
theorem strOf_bytesOf (s : ByteArray) : strOfNums (bytesOf s) = s := by
  apply ByteArray.ext
  apply Array.toList_inj.1
  have h := strOfNums_data (bytesOf s); rw [h]; unfold bytesOf; rw [List.map_map]; have : ((fun n : Int => UInt8.ofNat n.toNat) ∘ fun b : UInt8 => (b.toNat : Int)) = id := by
    funext b
    simp
  rw [this, List.map_id]
theorem bytesOf_strOf' (l : List Int) (hb : By l) : bytesOf (strOfNums l) = l := strOf_inj (bytesOf_by _) hb (strOf_bytesOf _)
theorem rdl_app (l X : List Int) (i : Int) (h0 : 0 ≤ i) (h1 : i < l.length) : rd (l ++ X) i = rd l i := by
  have := rd_app_l l X i.toNat (by omega)
  rwa [show ((i.toNat : Nat) : Int) = i by omega] at this
theorem gn_pos : ∀ (d : Nat) (l : List Int) (a : Int) (k : Nat) (x : Int), (gn d l a k x).2.2 = true → a + k + 1 ≤ (gn d l a k x).2.1
  | 0, l, a, k, x, h => by simp [gn] at h
  | d + 1, l, a, k, x, h => by
    simp only [gn] at h ⊢
    split at h
    · rename_i c1
      rw [if_pos c1]
      split at h
      · rename_i c2
        rw [if_pos c2]
        split at h
        · simp at h
        · rename_i c3; rw [if_neg c3]; simp only; omega
      · rename_i c2
        rw [if_neg c2]; have := gn_pos d l a (k + 1) _ h; omega
    · simp at h
theorem gn_app (X : List Int) : ∀ (d : Nat) (l : List Int) (a : Int) (k : Nat) (x : Int), 0 ≤ a → (gn d l a k x).2.2 = true → gn d (l ++ X) a k x = gn d l a k x
  | 0, l, a, k, x, ha, h => by simp [gn] at h
  | d + 1, l, a, k, x, ha, h => by
    simp only [gn] at h ⊢; by_cases c1 : a + k < (l.length : Int)
    · have c1' : a + k < ((l ++ X).length : Int) := by simp; omega
      rw [if_pos c1] at h ⊢; rw [if_pos c1', rdl_app l X _ (by omega) c1]; by_cases c2 : rd l (a + k) < 128
      · rw [if_pos c2, if_pos c2]
      · rw [if_neg c2] at h ⊢; rw [if_neg c2]; exact gn_app X d l a (k + 1) _ ha h
    · rw [if_neg c1] at h; simp at h
theorem gn_cut (X : List Int) : ∀ (d : Nat) (l : List Int) (a : Int) (k : Nat) (x : Int), 0 ≤ a → (gn d (l ++ X) a k x).2.2 = true → (gn d (l ++ X) a k x).2.1 ≤ l.length → gn d l a k x = gn d (l ++ X) a k x
  | 0, l, a, k, x, ha, h, h2 => by simp [gn] at h
  | d + 1, l, a, k, x, ha, h, h2 => by
    have hp := gn_pos (d + 1) (l ++ X) a k x h; have c1 : a + k < (l.length : Int) := by omega
    have c1' : a + k < ((l ++ X).length : Int) := by simp; omega
    simp only [gn] at h h2 ⊢; rw [if_pos c1'] at h h2 ⊢; rw [if_pos c1, rdl_app l X _ (by omega) c1] at *; by_cases c2 : rd l (a + k) < 128
    · rw [if_pos c2, if_pos c2]
    · rw [if_neg c2] at h h2 ⊢; rw [if_neg c2]; exact gn_cut X d l a (k + 1) _ ha h h2
theorem getNum_pos (l : List Int) (a : Int) (h : (getNum l a).2.2 = true) : 0 ≤ a ∧ a + 1 ≤ (getNum l a).2.1 := by
  unfold getNum at h ⊢
  split at h
  · simp at h
  · rename_i c
    rw [if_neg c]; have := gn_pos 9 l a 0 0 h; omega
theorem getNum_app (l X : List Int) (a : Int) (h : (getNum l a).2.2 = true) : getNum (l ++ X) a = getNum l a := by
  have hp := getNum_pos l a h; unfold getNum at h ⊢; rw [if_neg (by omega)] at h ⊢; rw [if_neg (by omega)]; exact gn_app X 9 l a 0 0 hp.1 h
theorem getNum_cut (l X : List Int) (a : Int) (h : (getNum (l ++ X) a).2.2 = true) (h2 : (getNum (l ++ X) a).2.1 ≤ l.length) : getNum l a = getNum (l ++ X) a := by
  have hp := getNum_pos (l ++ X) a h; unfold getNum at h h2 ⊢; rw [if_neg (by omega)] at h h2 ⊢; rw [if_neg (by omega)]; exact gn_cut X 9 l a 0 0 hp.1 h h2
theorem seg_left (l X : List Int) (i j : Int) (hj : j ≤ l.length) : seg (l ++ X) i j = seg l i j := by
  unfold seg; rw [List.take_append_of_le_length (by omega)]
theorem unseal_ok (l : List Int) (a : Int) (h : (unsealOf l a).2.2 = 0) : ((getNum l a).2.2 = true ∧ (getNum l a).1 ≤ 3000) ∧ (getNum l a).2.1 + (getNum l a).1 + 4 ≤ l.length ∧ (unsealOf l a).2.1 = (getNum l a).2.1 + (getNum l a).1 + 4 := by
  unfold unsealOf at h ⊢
  split at h
  · rename_i c1
    rw [if_pos c1]
    split at h
    · simp at h
    · rename_i c2
      rw [if_neg c2]
      split at h
      · rename_i c3; rw [if_pos c3]; exact ⟨c1, by omega, rfl⟩
      · simp at h
  · simp at h
theorem unseal_app (l X : List Int) (a : Int) (hb : By l) (h : (unsealOf l a).2.2 = 0) : unsealOf (l ++ X) a = unsealOf l a := by
  obtain ⟨h1, h2, h3⟩ := unseal_ok l a h; have hg := getNum_b l a hb; have e := getNum_app l X a h1.1; have k1 : ¬ ((l ++ X).length : Int) - (getNum l a).2.1 < (getNum l a).1 + 4 := by rw [List.length_append]; omega
  have k2 : ¬ (l.length : Int) - (getNum l a).2.1 < (getNum l a).1 + 4 := by omega
  unfold unsealOf; rw [e, if_pos h1, if_pos h1, if_neg k1, if_neg k2, seg_left _ _ _ _ (by omega), seg_left _ _ _ _ (by omega)]
theorem unseal_cut (l X : List Int) (a : Int) (hb : By (l ++ X)) (h : (unsealOf (l ++ X) a).2.2 = 0) (hn : (unsealOf (l ++ X) a).2.1 ≤ l.length) : unsealOf l a = unsealOf (l ++ X) a := by
  obtain ⟨h1, h2, h3⟩ := unseal_ok (l ++ X) a h; have hg := getNum_b (l ++ X) a hb; have e := getNum_cut l X a h1.1 (by omega); have k1 : ¬ ((l ++ X).length : Int) - (getNum (l ++ X) a).2.1 < (getNum (l ++ X) a).1 + 4 := by omega
  have k2 : ¬ (l.length : Int) - (getNum (l ++ X) a).2.1 < (getNum (l ++ X) a).1 + 4 := by omega
  unfold unsealOf; rw [e, if_pos h1, if_pos h1, if_neg k1, if_neg k2, seg_left _ _ _ _ (by omega), seg_left _ _ _ _ (by omega)]
theorem unseal_next (l : List Int) (a : Int) (hb : By l) (h : (unsealOf l a).2.2 = 0) : a + 5 ≤ (unsealOf l a).2.1 := by
  obtain ⟨h1, h2, h3⟩ := unseal_ok l a h; have hg := getNum_b l a hb; have hp := getNum_pos l a h1.1; omega
theorem jr_ge : ∀ (d : Nat) (b : List Int) (acc : List ByteArray) (a : Int), By b → a + 5 * (((jr d b acc a).1.length : Int) - acc.length) ≤ (jr d b acc a).2 ∧ acc.length ≤ (jr d b acc a).1.length
  | 0, b, acc, a, hb => by simp [jr]
  | d + 1, b, acc, a, hb => by
    simp only [jr]
    split
    · rename_i c
      have h1 := unseal_next b a hb c; have h2 := jr_ge d b (acc ++ [strOfNums (unsealOf b a).1]) (unsealOf b a).2.1 hb; rw [List.length_append, List.length_singleton] at h2; exact ⟨by omega, by omega⟩
    · simp only; omega
theorem jr_le : ∀ (d : Nat) (b : List Int) (acc : List ByteArray) (a : Int), By b → a ≤ b.length → (jr d b acc a).2 ≤ b.length
  | 0, b, acc, a, hb, h => by simpa [jr] using h
  | d + 1, b, acc, a, hb, h => by
    simp only [jr]
    split
    · exact jr_le d b _ _ hb (unseal_b b a hb).2
    · exact h
/-- What is read of a row is read of its beginning up to there. -/
theorem jr_take : ∀ (d : Nat) (b : List Int) (acc : List ByteArray) (a : Int), By b → 0 ≤ a → a ≤ b.length → jr d (b.take (jr d b acc a).2.toNat) acc a = jr d b acc a
  | 0, b, acc, a, hb, h0, h1 => by simp [jr]
  | d + 1, b, acc, a, hb, h0, h1 => by
    by_cases c : (unsealOf b a).2.2 = 0
    · have e : jr (d + 1) b acc a = jr d b (acc ++ [strOfNums (unsealOf b a).1]) (unsealOf b a).2.1 := by simp only [jr, c, ↓reduceIte]
      have hu := unseal_b b a hb; have ih := jr_take d b (acc ++ [strOfNums (unsealOf b a).1]) (unsealOf b a).2.1 hb hu.1 hu.2; have hg := (jr_ge d b (acc ++ [strOfNums (unsealOf b a).1]) (unsealOf b a).2.1 hb); have hl := jr_le d b (acc ++ [strOfNums (unsealOf b a).1]) (unsealOf b a).2.1 hb hu.2; rw [e]; generalize hr : jr d b (acc ++ [strOfNums (unsealOf b a).1]) (unsealOf b a).2.1 = r at *; have hb2 : b.take r.2.toNat ++ b.drop r.2.toNat = b := List.take_append_drop _ _; have hu2 := unseal_cut (b.take r.2.toNat) (b.drop r.2.toNat) a (by rw [hb2]; exact hb) (by rw [hb2]; exact c) (by rw [hb2, List.length_take]; omega); rw [hb2] at hu2; simp only [jr]; rw [hu2, if_pos c]; exact ih
    · have e : jr (d + 1) b acc a = (acc, a) := by simp only [jr, c, ↓reduceIte]
      rw [e]; have hu := unseal_end (b.take a.toNat) a (by rw [List.length_take]; omega); simp only [jr]; rw [hu, if_neg (by decide)]
theorem jr_app (X : List Int) : ∀ (d : Nat) (b : List Int) (acc : List ByteArray) (a : Int), By b → (jr d b acc a).2 = b.length → jr d (b ++ X) acc a = jr (d + acc.length - (jr d b acc a).1.length) (b ++ X) (jr d b acc a).1 (b.length : Int)
  | 0, b, acc, a, hb, h => by simp only [jr] at h; subst h; simp [jr]
  | d + 1, b, acc, a, hb, h => by
    by_cases c : (unsealOf b a).2.2 = 0
    · have e : jr (d + 1) b acc a = jr d b (acc ++ [strOfNums (unsealOf b a).1]) (unsealOf b a).2.1 := by simp only [jr, c, ↓reduceIte]
      rw [e] at h ⊢; have ih := jr_app X d b (acc ++ [strOfNums (unsealOf b a).1]) (unsealOf b a).2.1 hb h; have hg := (jr_ge d b (acc ++ [strOfNums (unsealOf b a).1]) (unsealOf b a).2.1 hb).2; have e2 : jr (d + 1) (b ++ X) acc a = jr d (b ++ X) (acc ++ [strOfNums (unsealOf b a).1]) (unsealOf b a).2.1 := by
        simp only [jr]; rw [unseal_app b X a hb c, if_pos c]
      rw [e2, ih]
      congr 1
      simp only [List.length_append, List.length_cons, List.length_nil] at hg ⊢; omega
    · have e : jr (d + 1) b acc a = (acc, a) := by simp only [jr, c, ↓reduceIte]
      rw [e] at h ⊢; simp only at h ⊢; rw [← h]
      congr 1
      omega
theorem sealed_by (b : List Int) (hb : By b) (hl : b.length ≤ 3000) : By (sealed b) := by
  unfold sealed; intro x hx; rcases List.mem_append.1 hx with hx | hx
  · rcases List.mem_append.1 hx with hx | hx
    · exact (putNum_b9 (x := (b.length : Int)) (by omega) (by omega)).1 x hx
    · exact hb x hx
  · exact sum4_by b x hx
theorem okS_cons {s : ByteArray} {t : List ByteArray} (h : okS (s :: t) = true) : s.size ≤ 3000 ∧ okS t = true := by
  simpa [okS] using h
theorem sealsB_by : ∀ q : List ByteArray, okS q = true → By (sealsB q)
  | [], _ => by intro x hx; simp [sealsB] at hx
  | s :: t, h => by
    obtain ⟨h1, h2⟩ := okS_cons h; intro x hx; rcases List.mem_append.1 hx with hx | hx
    · exact sealed_by _ (bytesOf_by s) (by rw [bytesOf_length]; exact h1) x hx
    · exact sealsB_by t h2 x hx
theorem By.app {a b : List Int} (ha : By a) (hb : By b) : By (a ++ b) := fun x hx => (List.mem_append.1 hx).elim (ha x) (hb x)
theorem By.take {a : List Int} (ha : By a) (n : Nat) : By (a.take n) := fun x hx => ha x (List.mem_of_mem_take hx)
theorem unseal_str (P X : List Int) (s : ByteArray) (hP : By P) (h : s.size ≤ 3000) : unsealOf (P ++ sealed (bytesOf s) ++ X) (P.length : Int) = (bytesOf s, (P.length : Int) + (sealed (bytesOf s)).length, 0) := by
  have h1 := unseal_sealed P (bytesOf s) (by rw [bytesOf_length]; exact h); rw [unseal_app _ X _ (hP.app (sealed_by _ (bytesOf_by s) (by rw [bytesOf_length]; exact h))) (by rw [h1]), h1]
theorem jr_seals (X : List Int) : ∀ (q : List ByteArray) (P : List Int) (acc : List ByteArray) (d : Nat), By P → okS q = true → jr (d + q.length) (P ++ sealsB q ++ X) acc (P.length : Int) = jr d (P ++ sealsB q ++ X) (acc ++ q) ((P.length : Int) + (sealsB q).length)
  | [], P, acc, d, hP, h => by simp [sealsB]
  | s :: t, P, acc, d, hP, h => by
    obtain ⟨h1, h2⟩ := okS_cons h; have hs := sealed_by _ (bytesOf_by s) (by rw [bytesOf_length]; exact h1); have ih := jr_seals X t (P ++ sealed (bytesOf s)) (acc ++ [s]) d (hP.app hs) h2; have hu := unseal_str P (sealsB t ++ X) s hP h1; have el : P ++ sealsB (s :: t) ++ X = P ++ sealed (bytesOf s) ++ (sealsB t ++ X) := by simp [sealsB, List.append_assoc]
    have el2 : P ++ sealed (bytesOf s) ++ sealsB t ++ X = P ++ sealed (bytesOf s) ++ (sealsB t ++ X) := by simp [List.append_assoc]
    rw [el2] at ih; rw [el, List.length_cons, ← Nat.add_assoc]; have e1 : jr (d + t.length + 1) (P ++ sealed (bytesOf s) ++ (sealsB t ++ X)) acc (P.length : Int) = jr (d + t.length) (P ++ sealed (bytesOf s) ++ (sealsB t ++ X)) (acc ++ [strOfNums (bytesOf s)]) ((P.length : Int) + (sealed (bytesOf s)).length) := by
      simp only [jr]; rw [hu, if_pos rfl]
    rw [e1, strOf_bytesOf]; rw [List.length_append, Int.natCast_add] at ih; rw [ih]; simp only [sealsB, List.length_append, Int.natCast_add, List.append_assoc, List.cons_append, List.nil_append, Int.add_assoc]
/-- Of seals that are torn some are read, from the first one on. -/
theorem jr_torn : ∀ (q : List ByteArray) (P : List Int) (acc : List ByteArray) (d j : Nat), By P → okS q = true → ∃ i : Nat, i ≤ q.length ∧ (jr d (P ++ (sealsB q).take j) acc (P.length : Int)).1 = acc ++ q.take i
  | [], P, acc, 0, j, hP, h => ⟨0, by simp, by simp [jr]⟩
  | [], P, acc, d + 1, j, hP, h => by
    refine ⟨0, by simp, ?_⟩; have hu := unseal_end P (P.length : Int) (Int.le_refl _); simp only [sealsB, List.take_nil, List.append_nil, jr]; rw [hu, if_neg (by decide)]
  | s :: t, P, acc, 0, j, hP, h => ⟨0, by simp, by simp [jr]⟩
  | s :: t, P, acc, d + 1, j, hP, h => by
    obtain ⟨h1, h2⟩ := okS_cons h; have hs := sealed_by _ (bytesOf_by s) (by rw [bytesOf_length]; exact h1); by_cases c : j < (sealed (bytesOf s)).length
    · refine ⟨0, by simp, ?_⟩; have el : (sealsB (s :: t)).take j = (sealed (bytesOf s)).take j := by
        simp only [sealsB]; rw [List.take_append_of_le_length (by omega)]
      rw [el]; have hn : ¬ (unsealOf (P ++ (sealed (bytesOf s)).take j) (P.length : Int)).2.2 = 0 := by
        intro h0; have hb : By (P ++ (sealed (bytesOf s)).take j) := hP.app (hs.take j); have e1 := unseal_app _ ((sealed (bytesOf s)).drop j) _ hb h0; rw [List.append_assoc, List.take_append_drop] at e1; have e2 := unseal_str P [] s hP h1; rw [List.append_nil] at e2; have e3 := (unseal_b _ (P.length : Int) hb).2; rw [← e1, e2, List.length_append, List.length_take] at e3; simp only at e3; omega
      simp only [jr]; rw [if_neg hn]
      simp
    · have el : (sealsB (s :: t)).take j = sealed (bytesOf s) ++ (sealsB t).take (j - (sealed (bytesOf s)).length) := by
        simp only [sealsB]; rw [List.take_append, List.take_of_length_le (by omega)]
      obtain ⟨i, hi, e⟩ := jr_torn t (P ++ sealed (bytesOf s)) (acc ++ [s]) d (j - (sealed (bytesOf s)).length) (hP.app hs) h2; refine ⟨i + 1, by simp; omega, ?_⟩; have hu := unseal_str P ((sealsB t).take (j - (sealed (bytesOf s)).length)) s hP h1; rw [el, ← List.append_assoc]; simp only [jr]; rw [hu, if_pos rfl]; simp only [strOf_bytesOf]; rw [List.length_append, Int.natCast_add] at e; rw [e]
      simp
/-- A whole journal, some that were added, some that are torn. -/
theorem jr_all (C : List Int) (old q tl : List ByteArray) (j : Nat) (hC : By C) (h0 : jr 2000 C [] 0 = (old, (C.length : Int))) (hq : okS q = true) (ht : okS tl = true) (hl : old.length + q.length ≤ 2000) :
    ∃ i : Nat, i ≤ tl.length ∧ (jr 2000 (C ++ sealsB q ++ (sealsB tl).take j) [] 0).1 = old ++ q ++ tl.take i ∧ 0 ≤ (jr 2000 (C ++ sealsB q ++ (sealsB tl).take j) [] 0).2 := by
  have hA : By (C ++ sealsB q) := hC.app (sealsB_by q hq); have e1 := jr_app (sealsB q ++ (sealsB tl).take j) 2000 C [] 0 hC (by rw [h0]); rw [h0] at e1; simp only [List.length_nil, Nat.add_zero] at e1; rw [← List.append_assoc] at e1; obtain ⟨m, hm⟩ : ∃ m, 2000 - old.length = m + q.length := ⟨2000 - old.length - q.length, by omega⟩; rw [hm, jr_seals ((sealsB tl).take j) q C old m hC hq] at e1; obtain ⟨i, hi, e⟩ := jr_torn tl (C ++ sealsB q) (old ++ q) m j hA ht; rw [List.length_append, Int.natCast_add] at e; refine ⟨i, hi, by rw [e1, e], ?_⟩; have := jr_ge 2000 (C ++ sealsB q ++ (sealsB tl).take j) [] 0 (hA.app ((sealsB_by tl ht).take j)); omega

theorem bytesOf_append (a b : ByteArray) : bytesOf (a ++ b) = bytesOf a ++ bytesOf b := by
  unfold bytesOf; rw [ByteArray.data_append, Array.toList_append, List.map_append]
theorem bytesOf_extract (s : ByteArray) (k : Nat) : bytesOf (s.extract 0 k) = (bytesOf s).take k := by
  unfold bytesOf; rw [ByteArray.data_extract, Array.toList_extract, List.map_take]
  simp [List.extract]
theorem sync_done (room : Int) (l : List S95) (a : S95) (h : diskOk room l = true) (ha : a ∈ l) :
    ∃ E, diskSync room l a.f0 = (room, E, 0) ∧ diskOk room E = true ∧ (⟨a.f0, a.f1 ++ a.f2, (⟨#[]⟩ : ByteArray)⟩ : S95) ∈ E ∧ diskRead room E a.f0 = (a.f1 ++ a.f2, true) ∧ dsize E = dsize l ∧ E.length = l.length := by
  obtain ⟨j, hj⟩ := List.getElem?_of_mem ha; obtain ⟨⟨o1, o2⟩, o3, o4⟩ := (ok_iff room l).1 h; obtain ⟨s1, s2⟩ := syncF_at l j a (diskOk_asc h) hj; have hk := set_ok room l j a h hj; have hlt : j < l.length := (List.getElem?_eq_some_iff.1 hj).1; have hm : (⟨a.f0, a.f1 ++ a.f2, (⟨#[]⟩ : ByteArray)⟩ : S95) ∈ l.set j ⟨a.f0, a.f1 ++ a.f2, (⟨#[]⟩ : ByteArray)⟩ := List.mem_of_getElem? (List.getElem?_set_self hlt); have hd := dsize_set_eq l j ⟨a.f0, a.f1 ++ a.f2, (⟨#[]⟩ : ByteArray)⟩ a hj; have hz : (⟨#[]⟩ : ByteArray).size = 0 := rfl; have hr := read_mem room _ _ hk hm; simp only [app_nil] at hr; simp only [ByteArray.size_append, hz] at hd; refine ⟨_, ?_, hk, hm, hr, by omega, List.length_set ..⟩; have hn := o1 a ha; unfold diskSync; rw [h, s1, s2, show inr a.f0 0 7 = true by simp only [inr, decide_eq_true_eq]; exact hn, if_pos (show (true && true) = true from rfl), if_neg (by omega)]; rfl
theorem cut_code (room : Int) (l : List S95) (nm n : Int) : (diskCut room l nm n).2.2 = 1 ∨ diskCut room l nm n = (room, l, 2) ∨ (diskOk room l = true ∧ ∃ a ∈ l, a.f0 = nm ∧ 0 ≤ n ∧ n ≤ (a.f1.size : Int) + a.f2.size) := by
  unfold diskCut
  split
  · rename_i h
    simp only [Bool.and_eq_true] at h
    split
    · exact .inr (.inl rfl)
    · obtain ⟨h1, h2⟩ := idx_rd nm l (by omega)
      split
      · rename_i h3
        simp only [inr, decide_eq_true_eq] at h3; exact .inr (.inr ⟨h.1, _, List.mem_of_getElem? h2, h1, h3⟩)
      · exact .inr (.inl rfl)
  · exact .inl rfl
theorem files_cut_ok (room : Int) (l : List S95) (a : S95) (c d : ByteArray) (h : diskOk room l = true) (ha : a ∈ l) (he : a.f1 ++ a.f2 = c ++ d) :
    ∃ B, diskCut room l a.f0 (c.size : Int) = (room, B, 0) ∧ diskOk room B = true ∧ ∃ x ∈ B, x.f0 = a.f0 ∧ x.f1 ++ x.f2 = c := by
  obtain ⟨B, h1, h2, h3, h4⟩ := files_cut room l a c d h ha he; obtain ⟨j, hj⟩ := List.getElem?_of_mem ha; have hi := idx_asc l 0 0 j a (diskOk_asc h) hj; rw [Int.zero_add] at hi; have hlt : j < l.length := (List.getElem?_eq_some_iff.1 hj).1; have hr := rdF_get l j a hj; have hB : B = l.set j (cutF l a.f0 (c.size : Int)) := by
    have h0 := h1; unfold diskCut at h0
    split at h0
    · split at h0
      · simp at h0
      · split at h0
        · rw [hi] at h0; simp only [Int.toNat_natCast, Prod.mk.injEq, true_and, and_true] at h0; exact h0.symm
        · simp at h0
    · simp at h0
  have hF : (cutF l a.f0 (c.size : Int)).f0 = a.f0 := by unfold cutF; rw [hi, hr]
  have hnm := set_names l j (cutF l a.f0 (c.size : Int)) a hj hF; rw [← hB] at hnm; have hk : diskOk room B = true := by
    unfold diskOk at h ⊢; rw [asc_names _ _ 0 hnm]; simp only [Bool.and_eq_true, decide_eq_true_eq] at h ⊢; exact ⟨h.1, h.2.1, by omega⟩
  have hx : cutF l a.f0 (c.size : Int) ∈ B := by rw [hB]; exact List.mem_of_getElem? (List.getElem?_set_self hlt)
  refine ⟨B, h1, hk, _, hx, hF, ?_⟩; have := read_mem room B _ hk hx; rw [hF] at this; rw [this] at h2; exact h2
/-- A mended journal: whole. -/
theorem mend_facts (room : Int) (l : List S95) (nm : Int) : (journalMend room l nm).2.2 = 1 ∨ journalMend room l nm = (room, l, 2) ∨
    ∃ M c, journalMend room l nm = (room, M, 0) ∧ diskOk room M = true ∧ (0 ≤ nm ∧ nm ≤ 7) ∧ diskRead room M nm = (c, true) ∧ (jr 2000 (bytesOf c) [] 0).2 = (c.size : Int) ∧ (c.size : Int) ≤ dsize l ∧ dsize M ≤ dsize l ∧ M.length ≤ l.length := by
  have hlen := journalMend_len room l nm; rcases cut_code room l nm (journalRead room l nm).2 with h | h | ⟨hk, a, ha, rfl, n0, n1⟩
  · exact .inl (by unfold journalMend; rw [if_neg (by rw [h]; decide)]; exact h)
  · exact .inr (.inl (by unfold journalMend; rw [h]; rfl))
  · have hr := read_mem room l a hk ha; have hj : journalRead room l a.f0 = jr 2000 (bytesOf (a.f1 ++ a.f2)) [] 0 := by unfold journalRead; rw [hr]; rfl
    have hn := ((ok_iff room l).1 hk).1.1 a ha; generalize hN : (journalRead room l a.f0).2 = n at *; have hsz : (a.f1 ++ a.f2).size = a.f1.size + a.f2.size := ByteArray.size_append; obtain ⟨c, hc⟩ : ∃ c, c = (a.f1 ++ a.f2).extract 0 n.toNat := ⟨_, rfl⟩; have hcs : (c.size : Int) = n := by rw [hc, ByteArray.size_extract]; omega
    have he : a.f1 ++ a.f2 = c ++ (a.f1 ++ a.f2).extract n.toNat (a.f1 ++ a.f2).size := by
      rw [hc, ByteArray.extract_append_extract, Nat.min_eq_left (by omega), Nat.max_eq_right (by omega)]; exact (extract_all _).symm
    obtain ⟨B, b1, b2, x, hx, hx0, hx1⟩ := files_cut_ok room l a c _ hk ha he; rw [hcs] at b1; obtain ⟨E, e1, e2, e3, e4, e5, e6⟩ := sync_done room B x b2 hx; rw [hx0, hx1] at e4; rw [hx0] at e1; have hle := diskCut_le room l a.f0 n; rw [b1] at hle; have hm : journalMend room l a.f0 = (room, E, 0) := by unfold journalMend; rw [hN, b1, if_pos rfl, e1]
    rw [hm] at hlen; have hby := bytesOf_by (a.f1 ++ a.f2); have htk := jr_take 2000 (bytesOf (a.f1 ++ a.f2)) [] 0 hby (by omega) (by omega); rw [← hj, hN, ← bytesOf_extract, ← hc, hj] at htk; refine .inr (.inr ⟨E, c, hm, e2, hn, e4, ?_, ?_, ?_, hlen⟩)
    · rw [htk, ← hj, hN, hcs]
    · have := dsize_mem ha; omega
    · simp only at hle; omega
theorem append_code (room : Int) (l : List S95) (nm : Int) (s : ByteArray) (h : diskOk room l = true) (hn : 0 ≤ nm ∧ nm ≤ 7) : diskAppend room l nm s = (room, l, 3) ∨ ((s.size : Int) ≤ room - dsize l ∧ diskAppend room l nm s = (room, putG (appF l nm s) l, 0)) := by
  unfold diskAppend; rw [h, show inr nm 0 7 = true by simp only [inr, decide_eq_true_eq]; exact hn, if_pos (show (true && true) = true from rfl)]
  split
  · exact .inl rfl
  · exact .inr ⟨by omega, rfl⟩
/-- What is added to it. -/
theorem add_facts (room : Int) (M : List S95) (nm : Int) (c : ByteArray) (q : List ByteArray) (h : diskOk room M = true) (hn : 0 ≤ nm ∧ nm ≤ 7) (hc : diskRead room M nm = (c, true)) :
    (journalAdd room M nm q).2.2 = 1 ∨ journalAdd room M nm q = (room, M, 3) ∨
    ∃ E, journalAdd room M nm q = (room, E, 0) ∧ diskOk room E = true ∧ (q.length ≤ 100 ∧ okS q = true) ∧ (⟨nm, c ++ strOfNums (sealsB q), (⟨#[]⟩ : ByteArray)⟩ : S95) ∈ E := by
  by_cases k : (decide (q.length ≤ 100) && okS q) = true
  · have hl : journalLate room M nm q = diskAppend room M nm (strOfNums (sealsB q)) := by unfold journalLate; rw [if_pos k]
    simp only [Bool.and_eq_true, decide_eq_true_eq] at k; rcases append_code room M nm (strOfNums (sealsB q)) h hn with e | ⟨hs, e⟩
    · exact .inr (.inl (by unfold journalAdd; rw [hl, e]; rfl))
    · obtain ⟨f1, f2, f3⟩ := files_append room M nm (strOfNums (sealsB q)) h hn hs; have a := app_facts room M nm (strOfNums (sealsB q)) h; have hm := putG_self (appF M nm (strOfNums (sealsB q))) M; obtain ⟨E, e1, e2, e3, e4, _, _⟩ := sync_done room _ _ f1 hm; rw [a.1, a.2.1, hc] at e3; rw [a.1] at e1; exact .inr (.inr ⟨E, by unfold journalAdd; rw [hl, e, if_pos rfl, e1], e2, k, e3⟩)
  · refine .inl ?_; have hl : journalLate room M nm q = (0, [], 1) := by unfold journalLate; rw [if_neg k]
    unfold journalAdd; rw [hl]; rfl
/-- What is late behind it. -/
theorem late_facts (room : Int) (E : List S95) (nm : Int) (w : ByteArray) (tl : List ByteArray) (h : diskOk room E = true) (hn : 0 ≤ nm ∧ nm ≤ 7) (hm : (⟨nm, w, (⟨#[]⟩ : ByteArray)⟩ : S95) ∈ E) (hd : (journalLate room E nm tl).2.2 = 0) :
    ∃ G, journalLate room E nm tl = (room, G, 0) ∧ diskOk room G = true ∧ okS tl = true ∧ (⟨nm, w, strOfNums (sealsB tl)⟩ : S95) ∈ G := by
  by_cases k : (decide (tl.length ≤ 100) && okS tl) = true
  · have hl : journalLate room E nm tl = diskAppend room E nm (strOfNums (sealsB tl)) := by unfold journalLate; rw [if_pos k]
    simp only [Bool.and_eq_true, decide_eq_true_eq] at k; rcases append_code room E nm (strOfNums (sealsB tl)) h hn with e | ⟨hs, e⟩
    · rw [hl, e] at hd; simp at hd
    · obtain ⟨f1, f2, f3⟩ := files_append room E nm (strOfNums (sealsB tl)) h hn hs; refine ⟨_, hl.trans e, f1, k.2, ?_⟩; obtain ⟨j, hj⟩ := List.getElem?_of_mem hm; have hi := idx_asc E 0 0 j _ (diskOk_asc h) hj; rw [Int.zero_add] at hi; simp only at hi; have hr := rdF_get E j _ hj; have ha : appF E nm (strOfNums (sealsB tl)) = ⟨nm, w, strOfNums (sealsB tl)⟩ := by
        unfold appF; rw [hi, if_pos (by omega), hr]; simp only [empty_app]
      rw [← ha]; exact putG_self _ E
  · have hl : journalLate room E nm tl = (0, [], 1) := by unfold journalLate; rw [if_neg k]
    rw [hl] at hd; simp at hd
/-- What is read behind a crash. -/
theorem crash_facts (room : Int) (G : List S95) (nm : Int) (c : ByteArray) (q tl : List ByteArray) (ks : List Int) (h : diskOk room G = true) (hm : (⟨nm, c ++ strOfNums (sealsB q), strOfNums (sealsB tl)⟩ : S95) ∈ G)
    (h0 : (jr 2000 (bytesOf c) [] 0).2 = (c.size : Int)) (hq : okS q = true) (ht : okS tl = true) (hl : (jr 2000 (bytesOf c) [] 0).1.length + q.length ≤ 2000) :
    ∃ i : Nat, i ≤ tl.length ∧ (journalRead room (crash ks G 0) nm).1 = (jr 2000 (bytesOf c) [] 0).1 ++ q ++ tl.take i ∧ 0 ≤ (journalRead room (crash ks G 0) nm).2 := by
  obtain ⟨j, hj⟩ := List.getElem?_of_mem hm; have hr := crash_read ks room G j _ h hj; simp only at hr; have e : journalRead room (crash ks G 0) nm = jr 2000 (bytesOf c ++ sealsB q ++ (sealsB tl).take (crashK ks (j : Int) ⟨nm, c ++ strOfNums (sealsB q), strOfNums (sealsB tl)⟩)) [] 0 := by
    unfold journalRead; rw [hr]; simp only [↓reduceIte]; rw [bytesOf_append, bytesOf_append, bytesOf_extract, bytesOf_strOf' _ (sealsB_by q hq), bytesOf_strOf' _ (sealsB_by tl ht)]
  rw [e]; refine jr_all (bytesOf c) _ q tl _ (bytesOf_by c) ?_ hq ht hl; rw [bytesOf_length, ← h0]

theorem at_ok (l : List Int) (a : Int) (hb : By l) (hl : l.length ≤ 1048576) (h0 : 0 ≤ a) (h1 : a ≤ 10) : ∃ x, laws_at.f l a = some x ∧ 0 ≤ x ∧ x ≤ 255 := by
  unfold laws_at.f; by_cases c : a < (l.length : Int)
  · have := hb.at_ a; rw [if_pos c, if_pos h0, w64 (by omega) (by omega)]; exact ⟨_, rfl, this⟩
  · rw [if_neg c, w64 (x := a * 7) (by omega) (by omega), w64 (by omega) (by omega), Int.tmod_eq_emod_of_nonneg (by omega)]; exact ⟨_, rfl, by omega, by omega⟩

theorem rdB_get (l : List ByteArray) (i : Nat) (x : ByteArray) (h : l[i]? = some x) : rdOf ByteArray.empty l (i : Int) = x := by
  unfold rdOf; simp [List.getD_eq_getElem?_getD, h]
theorem lists_l (old q tl all : List ByteArray) (hall : all = old ++ q ++ tl) (hl : all.length ≤ 100000) (htl : tl = [] ∨ tl = [(⟨#[97]⟩ : ByteArray)] ∨ tl = [(⟨#[97]⟩ : ByteArray), (⟨#[98, 99]⟩ : ByteArray)]) (d : Nat) :
    ∀ i : Nat, i + d = all.length → Ev (fun k => laws_FnJournal.l0 k q old all (i : Int)) true := by
  have el : all.length = old.length + q.length + tl.length := by rw [hall]; simp [Nat.add_assoc]
  have hw : wrap64 ((old.length : Int) + (q.length : Int)) = ((old.length + q.length : Nat) : Int) := by rw [w64 (by omega) (by omega)]; omega
  induction d with
  | zero =>
    intro i hi; refine Ev.step (f := fun _ => some true) (fun k => ?_) (Ev.now _); simp only [laws_FnJournal.l0]; rw [if_neg (by omega)]
  | succ d ih =>
    intro i hi; have h := ih (i + 1) (by omega); have hw1 : wrap64 ((i : Int) + 1) = ((i + 1 : Nat) : Int) := by rw [w64 (by omega) (by omega)]; omega
    refine Ev.step (f := fun k => laws_FnJournal.j9 k q old all (i : Int)) (fun k => by simp only [laws_FnJournal.l0]; rw [if_pos (by omega)]) ?_; by_cases c1 : i < old.length
    · have e1 : all[i]? = some old[i] := by
        rw [hall, List.append_assoc, List.getElem?_append_left c1, List.getElem?_eq_getElem c1]
      have e2 : old[i]? = some old[i] := List.getElem?_eq_getElem c1; refine Ev.step (fun k => ?_) h; simp only [laws_FnJournal.j9]; rw [if_pos (by omega), if_pos (by omega), if_pos (by omega), rdB_get _ _ _ e1, rdB_get _ _ _ e2, if_pos rfl, hw1]
    · by_cases c2 : i < old.length + q.length
      · have c2' : i - old.length < q.length := by omega
        have e1 : all[i]? = some q[i - old.length] := by
          rw [hall, List.append_assoc, List.getElem?_append_right (by omega), List.getElem?_append_left c2', List.getElem?_eq_getElem c2']
        have e2 : q[i - old.length]? = some q[i - old.length] := List.getElem?_eq_getElem c2'; have hw2 : wrap64 ((i : Int) - (old.length : Int)) = ((i - old.length : Nat) : Int) := by rw [w64 (by omega) (by omega)]; omega
        refine Ev.step (fun k => ?_) h; simp only [laws_FnJournal.j9]; rw [hw, hw2, hw1]; rw [if_neg (by omega), if_pos (by omega), if_pos (by omega), if_pos (by omega), if_pos (by omega), if_pos (by omega), rdB_get _ _ _ e1, rdB_get _ _ _ e2, if_pos rfl]
      · have e0 : all[i]? = tl[i - (old.length + q.length)]? := by
          rw [hall, List.getElem?_append_right (by rw [List.length_append]; omega), List.length_append]
        by_cases c3 : i = old.length + q.length
        · have e1 : all[i]? = some (⟨#[97]⟩ : ByteArray) := by
            rw [e0, c3, Nat.sub_self]; rcases htl with rfl | rfl | rfl
            · simp at el; omega
            · rfl
            · rfl
          have e2 : (⟨#[97]⟩ : ByteArray).toList = ([97] : List UInt8) := by decide +kernel
          refine Ev.step (fun k => ?_) h; simp only [laws_FnJournal.j9]; rw [hw, hw1]; rw [if_neg (by omega), if_neg (by omega), if_pos (by omega), if_pos (by omega), if_pos (by omega), rdB_get _ _ _ e1, if_pos e2, if_neg (by omega)]
        · have e1 : all[i]? = some (⟨#[98, 99]⟩ : ByteArray) := by
            rw [e0]; rcases htl with rfl | rfl | rfl
            · simp at el; omega
            · simp at el; omega
            · have : i - (old.length + q.length) = 1 := by simp at el; omega
              rw [this]; rfl
          have e2 : (⟨#[98, 99]⟩ : ByteArray).toList = ([98, 99] : List UInt8) := by decide +kernel
          refine Ev.step (fun k => ?_) h; simp only [laws_FnJournal.j9]; rw [hw, hw1]; rw [if_neg (by omega), if_neg (by omega), if_neg (by omega), if_pos (by omega), if_pos (by omega), if_pos (by omega), rdB_get _ _ _ e1, if_pos e2]
theorem w64_two (a b : Nat) (h : a ≤ 1000) (h2 : b ≤ 100) : wrap64 ((a : Int) + (b : Int)) = (a : Int) + b ∧ wrap64 ((a : Int) + (b : Int) + 2) = (a : Int) + b + 2 := ⟨w64 (by omega) (by omega), w64 (by omega) (by omega)⟩
theorem journal_j5 (l : List Int) (hb : By l) (hl : l.length ≤ 1048576) (nm room : Int) (G : List S95) (c : ByteArray) (q tl : List ByteArray) (hk : diskOk room G = true) (hm : (⟨nm, c ++ strOfNums (sealsB q), strOfNums (sealsB tl)⟩ : S95) ∈ G)
    (h0 : (jr 2000 (bytesOf c) [] 0).2 = (c.size : Int)) (hq : okS q = true) (ht : okS tl = true) (hcs : (c.size : Int) ≤ 500) (hql : q.length ≤ 100) (htl : tl = [] ∨ tl = [(⟨#[97]⟩ : ByteArray), (⟨#[98, 99]⟩ : ByteArray)]) :
    Ev (fun k => laws_FnJournal.j5 k l nm q (jr 2000 (bytesOf c) [] 0).1 room G) true := by
  obtain ⟨x, ex, x0, x1⟩ := at_ok l 1 hb hl (by omega) (by omega); have hold := (jr_ge 2000 (bytesOf c) [] 0 (bytesOf_by c)).1; rw [h0] at hold; simp only [List.length_nil] at hold; have hbk := diskOk_b hk; have hn := dsize_nn G; generalize hz : Int.tmod x 20 = z; obtain ⟨i, i1, i2, i3⟩ := crash_facts room G nm c q tl [z, z, z, z, z, z, z, z] hk hm h0 hq ht (by omega); have hD : diskCrash room G [z, z, z, z, z, z, z, z] = (room, crash [z, z, z, z, z, z, z, z] G 0) := by unfold diskCrash; rw [hk]; rfl
  have ec := implDiskCrash_ev room G [z, z, z, z, z, z, z, z] (by omega) (by omega); rw [hD] at ec; have hds := dsize_crash [z, z, z, z, z, z, z, z] G 0; have hln := crash_length [z, z, z, z, z, z, z, z] G 0; have er := implJournalRead_ev room (crash [z, z, z, z, z, z, z, z] G 0) nm (by omega) (by omega); generalize journalRead room (crash [z, z, z, z, z, z, z, z] G 0) nm = R at *; obtain ⟨all, n⟩ := R; simp only at i2 i3 er; generalize (jr 2000 (bytesOf c) [] 0).1 = old at *; have htl2 : tl.length ≤ 2 := by rcases htl with rfl | rfl <;> simp
  have el : all.length = old.length + q.length + (tl.take i).length := by rw [i2]; simp [Nat.add_assoc]
  have elt : (tl.take i).length ≤ 2 := by rw [List.length_take]; omega
  have hti : tl.take i = [] ∨ tl.take i = [(⟨#[97]⟩ : ByteArray)] ∨ tl.take i = [(⟨#[97]⟩ : ByteArray), (⟨#[98, 99]⟩ : ByteArray)] := by
    rcases htl with rfl | rfl
    · exact .inl (List.take_nil ..)
    · match i with
      | 0 => exact .inl rfl
      | 1 => exact .inr (.inl rfl)
      | m + 2 => exact .inr (.inr (by simp))
  have la : all.length ≤ 100000 := by omega
  have hf := lists_l old q (tl.take i) all i2 la hti all.length 0 (Nat.zero_add _); have lo : old.length ≤ 1000 := by omega
  have c1 : ¬ ((all.length : Int) < (old.length : Int) + q.length) := by omega
  have c2 : ¬ ((all.length : Int) > (old.length : Int) + q.length + 2) := by omega
  have c3 : decide (n < 0) = false := decide_eq_false (by omega); obtain ⟨w1, w2⟩ := w64_two old.length q.length lo hql; refine Ev.step (fun k => by simp only [laws_FnJournal.j5, ex, Option.bind_some, hz]; rfl) ?_; refine Ev.bind ec ?_; refine Ev.bind er ?_; simp only [w1, w2]; simp only [c1, c2, c3, ↓reduceIte]; refine Ev.step (fun k => by simp only [laws_FnJournal.j6, Bool.false_eq_true, ↓reduceIte]; rfl) ?_; refine Ev.step (fun k => by simp only [laws_FnJournal.j7]; rfl) ?_; exact hf
theorem FnJournal : laws_FnJournal.Pure := by
  intro l hm hl hw
  apply Ev.rounds
  unfold laws_FnJournal.f laws_big.f; simp only [Option.bind_some]; by_cases h : (l.length : Int) > 1048576
  · simp only [h, decide_true, ↓reduceIte]; exact Ev.now _
  simp only [h, decide_false, Bool.false_eq_true, ↓reduceIte]; have hb := by_wf hw; obtain ⟨room, f, nm, q, e1, hr, ⟨hd, hf⟩, hq1, hq2⟩ := drawJournalAdd_ok l (by omega); have hnf := dsize_nn f; refine Ev.step (fun k => by simp only [laws_FnJournal.j0]; rfl) ?_; refine Ev.bind e1 ?_; have mI := implJournalMend_ev room f nm (by omega) (by omega); have mS := specJournalMend_ev room f nm (by omega) (by omega); have zF := implDiskSize_ev room f (by omega) (by omega); rcases mend_facts room f nm with m | m | ⟨M, c, m, mk, mn, mr, m0, m1, m2, m3⟩
  · generalize journalMend room f nm = U at *; obtain ⟨u0, u1, u2⟩ := U; simp only at m; subst m; refine Ev.bind mI (Ev.bind mS ?_); simp only [↓reduceIte]; refine Ev.step (f := fun _ => some true) (fun k => ?_) (Ev.now _); simp only [laws_FnJournal.j1, show ¬ ((1 : Int) = 0) by decide, ↓reduceIte]
  · rw [m] at mI mS; refine Ev.bind mI (Ev.bind mS ?_); simp only [↓reduceIte]; refine Ev.step (fun k => by simp only [laws_FnJournal.j1, show ¬ ((2 : Int) = 0) by decide, show ¬ ((2 : Int) = 1) by decide, ↓reduceIte]; rfl) ?_; refine Ev.bind zF (Ev.bind zF ?_); simp only [beq_self_eq_true]; exact Ev.now _
  · rw [m] at mI mS; refine Ev.bind mI (Ev.bind mS ?_); simp only [↓reduceIte]; refine Ev.step (f := fun k => laws_FnJournal.j2 k l nm q room M) (fun k => by simp only [laws_FnJournal.j1, ↓reduceIte]) ?_; have hnM := dsize_nn M; have rM := implJournalRead_ev room M nm (by omega) (by omega); have hjr : journalRead room M nm = jr 2000 (bytesOf c) [] 0 := by unfold journalRead; rw [mr]; rfl
    rw [hjr] at rM; have hx : ∀ x ∈ q, x.size ≤ 140737488355328 := fun x hx => by have := hq2 x hx; omega
    have aI := implJournalAdd_ev room M nm q (by omega) (by omega) (by omega) hx; have aS := specJournalAdd_ev room M nm q (by omega) (by omega) hx; have zM := implDiskSize_ev room M (by omega) (by omega); refine Ev.step (fun k => by simp only [laws_FnJournal.j2]; rfl) ?_; refine Ev.bind rM ?_; rcases add_facts room M nm c q mk mn mr with a | a | ⟨E, a, ak, ⟨aq1, aq2⟩, am⟩
    · generalize journalAdd room M nm q = U at *; obtain ⟨u0, u1, u2⟩ := U; simp only at a; subst a; refine Ev.bind aI (Ev.bind aS ?_); simp only [↓reduceIte]; refine Ev.step (f := fun _ => some true) (fun k => ?_) (Ev.now _); simp only [laws_FnJournal.j3, show ¬ ((1 : Int) = 0) by decide, ↓reduceIte]
    · rw [a] at aI aS; refine Ev.bind aI (Ev.bind aS ?_); simp only [↓reduceIte]; refine Ev.step (fun k => by simp only [laws_FnJournal.j3, show ¬ ((3 : Int) = 0) by decide, show ¬ ((3 : Int) = 1) by decide, ↓reduceIte]; rfl) ?_; refine Ev.bind zM (Ev.bind zM ?_); simp only [beq_self_eq_true]; exact Ev.now _
    · rw [a] at aI aS; refine Ev.bind aI (Ev.bind aS ?_); simp only [↓reduceIte]; refine Ev.step (f := fun k => laws_FnJournal.j4 k l nm q (jr 2000 (bytesOf c) [] 0).1 room E) (fun k => by simp only [laws_FnJournal.j3, ↓reduceIte]) ?_; have hbE := diskOk_b ak; have tI := implJournalLate_ev room E nm [(⟨#[97]⟩ : ByteArray), (⟨#[98, 99]⟩ : ByteArray)] (by omega) (by omega) (by simp) (by
        intro x hx; simp only [List.mem_cons, List.not_mem_nil, or_false] at hx; rcases hx with rfl | rfl <;> decide)
      have j5 := fun G tl => journal_j5 l hb (by omega) nm room G c q tl
      refine Ev.step (fun k => by simp only [laws_FnJournal.j4]; rfl) ?_; refine Ev.bind tI ?_; by_cases t0 : (journalLate room E nm [(⟨#[97]⟩ : ByteArray), (⟨#[98, 99]⟩ : ByteArray)]).2.2 = 0
      · obtain ⟨G, g1, g2, g3, g4⟩ := late_facts room E nm _ _ ak mn am t0; rw [g1]; simp only [↓reduceIte]; exact j5 G _ g2 g4 m0 aq2 g3 (by omega) aq1 (.inr rfl)
      · simp only [t0, ↓reduceIte]; exact j5 E [] ak am m0 aq2 rfl (by omega) aq1 (.inl rfl)

end Go.Proofs.Ytoojdlobnbakoaa.Pure
