/- FnDisk holds of all bytes: behind a crash each file has what was safe and a beginning of what was late, and what is synced ahead of it is there whole. -/
import Derived.Test.YtkfoojknjmgjdaaQFnDiskx11
namespace Go.Proofs.Ytkfoojknjmgjdaa.Pure
open Go.RowKit Go.Proofs.Ytkfoojknjmgjdaa.QFnDisk Go.Proofs.YtkfoojknjmgjdaaW.PrintWords Go.Proofs.YtkfoojknjmgjdaaW.PrintLast
set_option linter.unusedVariables false
set_option linter.unusedSimpArgs false
theorem w64 {x : Int} (h0 : -9223372036854775808 ≤ x) (h1 : x ≤ 9223372036854775807) : wrap64 x = x := by
  unfold wrap64; omega
def By (l : List Int) : Prop := ∀ x ∈ l, 0 ≤ x ∧ x ≤ 255
theorem wraps_i64 (n : Int) (h₀ : 0 ≤ n) (h₁ : n < 2 ^ 63) : IntKind.i64.wrap n = n := by rw [IntKind.wrap_i64]; omega
def inr (a b c : Int) : Bool := decide (b ≤ a ∧ a ≤ c)
theorem rdF_mid (P : List S81) (x : S81) (t : List S81) : rd_T81 (P ++ x :: t) (P.length : Int) = x := by
  unfold rd_T81; simp
theorem rdF_last (P : List S81) (y : S81) (t : List S81) : rd_T81 (P ++ [y] ++ t) (((P ++ [y]).length : Int) - 1) = y := by
  unfold rd_T81
  have : (((P ++ [y]).length : Int) - 1).toNat = P.length := by simp
  rw [this]; simp
def dsize : List S81 → Int
  | [] => 0
  | x :: t => x.f1.size + x.f2.size + dsize t
theorem dsize_nn : ∀ l : List S81, 0 ≤ dsize l
  | [] => by simp [dsize]
  | x :: t => by have := dsize_nn t; simp only [dsize]; omega
theorem dsize_mem {l : List S81} {x : S81} (h : x ∈ l) : (x.f1.size : Int) + x.f2.size ≤ dsize l := by
  induction l with
  | nil => simp at h
  | cons y t ih =>
    have hn := dsize_nn t
    simp only [dsize]
    rcases List.mem_cons.1 h with rfl | h
    · omega
    · have := ih h; omega
def asc : Int → List S81 → Bool
  | _, [] => true
  | lo, x :: t => decide (lo ≤ x.f0 ∧ x.f0 ≤ 7) && asc (x.f0 + 1) t
theorem asc_len : ∀ (l : List S81) (lo : Int), lo ≤ 8 → asc lo l = true → (l.length : Int) ≤ 8 - lo
  | [], lo, h, _ => by simp; omega
  | x :: t, lo, h, ha => by
    simp only [asc, Bool.and_eq_true, decide_eq_true_eq] at ha
    have := asc_len t (x.f0 + 1) (by omega) ha.2
    simp only [List.length_cons]; omega
def diskOk (room : Int) (l : List S81) : Bool := asc 0 l && (inr room 0 40000 && decide (dsize l ≤ room))

theorem l3Size_l (rest : List S81) : ∀ (P : List S81) (n room : Int), 0 ≤ n → n + dsize rest ≤ 1152921504606846976 → P.length + rest.length ≤ 140737488355328 → Ev (fun k => spec_l3Size.l0 k n (P.length : Int) room (P ++ rest)) (n + dsize rest) := by
  induction rest with
  | nil =>
    intro P n room h0 h1 hl
    refine Ev.step (f := fun _ => some n) (fun k => ?_) ?_
    · simp only [spec_l3Size.l0]
      rw [if_neg (by simp)]
    · simp only [dsize, Int.add_zero]; exact Ev.now _
  | cons x t ih =>
    intro P n room h0 h1 hl
    simp only [List.length_cons] at hl
    have hn := dsize_nn t
    simp only [dsize] at h1
    have h := ih (P ++ [x]) (n + x.f1.size + x.f2.size) room (by omega) (by omega) (by simp; omega)
    have e : n + dsize (x :: t) = n + x.f1.size + x.f2.size + dsize t := by simp only [dsize]; omega
    rw [e]
    refine Ev.step (fun k => ?_) h
    simp only [spec_l3Size.l0]
    rw [if_pos (by simp; omega), if_pos (by omega), rdF_mid, w64 (x := n + x.f1.size) (by omega) (by omega), w64 (by omega) (by omega), w64 (by omega) (by omega)]
    simp
theorem l3Size_ev (room : Int) (l : List S81) (h1 : dsize l ≤ 1152921504606846976) (hl : l.length ≤ 140737488355328) : Ev (fun k => spec_l3Size.f k room l) (dsize l) := by
  have h := l3Size_l l [] 0 room (by omega) (by omega) (by simpa using hl)
  simpa [spec_l3Size.f] using h

theorem l1In_eq (a b c : Int) : spec_l1In.f a b c = some (inr a b c) := by
  unfold spec_l1In.f inr
  by_cases h : a ≥ b
  · rw [if_pos h]; congr 1; by_cases h2 : a ≤ c <;> simp [h, h2]
  · rw [if_neg h]; congr 1; simp; omega

theorem l3Name_eq (a : Int) : spec_l3Name.f a = some (inr a 0 7) := by unfold spec_l3Name.f; rw [l1In_eq]; rfl
theorem specDiskOk_l (rest : List S81) : ∀ (P : List S81) (lo room : Int), 0 ≤ lo → (P = [] ∧ lo = 0 ∨ ∃ P' y, P = P' ++ [y] ∧ lo = y.f0 + 1) → P.length + rest.length ≤ 140737488355328 → Ev (fun k => spec_DiskOk.l0 k (P.length : Int) room (P ++ rest)) (asc lo rest) := by
  induction rest with
  | nil =>
    intro P lo room h0 hP hl
    refine Ev.step (f := fun _ => some true) (fun k => ?_) (Ev.now _)
    simp only [spec_DiskOk.l0]
    rw [if_neg (by simp)]
  | cons x t ih =>
    intro P lo room h0 hP hl
    simp only [List.length_cons] at hl
    have el : ((P ++ x :: t).length : Int) = P.length + t.length + 1 := by simp; omega
    have hw1 : wrap64 ((P.length : Int) + 1) = ((P ++ [x]).length : Int) := by rw [w64 (by omega) (by omega)]; simp
    by_cases c1 : 0 ≤ x.f0 ∧ x.f0 ≤ 7
    · have i1 : inr x.f0 0 7 = true := decide_eq_true c1
      by_cases c2 : lo ≤ x.f0
      · have h := ih (P ++ [x]) (x.f0 + 1) room (by omega) (.inr ⟨P, x, rfl, rfl⟩) (by simp; omega)
        refine Ev.step (f := fun k => spec_DiskOk.l0 k ((P ++ [x]).length : Int) room ((P ++ [x]) ++ t)) (fun k => ?_) ?_
        · simp only [spec_DiskOk.l0, l3Name_eq, Option.bind_some]
          rw [if_pos (by omega), if_pos (by omega), rdF_mid, i1, if_pos rfl]
          have ea : P ++ x :: t = P ++ [x] ++ t := by simp
          rcases hP with ⟨rfl, rfl⟩ | ⟨P', y, rfl, rfl⟩
          · rw [if_neg (by simp), hw1, ea]
          · have ep : ((P' ++ [y]).length : Int) = P'.length + 1 := by simp
            rw [if_pos (by omega), w64 (x := ((P' ++ [y]).length : Int) - 1) (by omega) (by omega), if_pos (by omega), if_pos (by omega), show P' ++ [y] ++ x :: t = P' ++ [y] ++ (x :: t) from rfl, rdF_last, if_neg (by omega), hw1, ea]
        · simp only [asc, show lo ≤ x.f0 ∧ x.f0 ≤ 7 from ⟨c2, c1.2⟩, decide_true, Bool.true_and]; exact h
      · refine Ev.step (f := fun _ => some false) (fun k => ?_) ?_
        · simp only [spec_DiskOk.l0, l3Name_eq, Option.bind_some]
          rw [if_pos (by omega), if_pos (by omega), rdF_mid, i1, if_pos rfl]
          rcases hP with ⟨rfl, rfl⟩ | ⟨P', y, rfl, rfl⟩
          · omega
          · have ep : ((P' ++ [y]).length : Int) = P'.length + 1 := by simp
            rw [if_pos (by omega), w64 (x := ((P' ++ [y]).length : Int) - 1) (by omega) (by omega), if_pos (by omega), if_pos (by omega), rdF_last, if_pos (by omega)]
        · have : asc lo (x :: t) = false := by simp [asc, c2]
          rw [this]; exact Ev.now _
    · have i1 : inr x.f0 0 7 = false := decide_eq_false c1
      refine Ev.step (f := fun _ => some false) (fun k => ?_) ?_
      · simp only [spec_DiskOk.l0, l3Name_eq, Option.bind_some]
        rw [if_pos (by omega), if_pos (by omega), rdF_mid, i1, if_neg (by simp)]
      · have : asc lo (x :: t) = false := by
          have : ¬ (lo ≤ x.f0 ∧ x.f0 ≤ 7) := by omega
          simp only [asc, this, decide_false, Bool.false_and]
        rw [this]; exact Ev.now _
theorem specDiskOk_ev (room : Int) (l : List S81) (h1 : dsize l ≤ 1152921504606846976) (hl : l.length ≤ 140737488355328) : Ev (fun k => spec_DiskOk.f k room l) (diskOk room l) := by
  unfold spec_DiskOk.f diskOk
  simp only [l1In_eq, Option.bind_some]
  have hj : Ev (fun k => spec_DiskOk.j0 k true room l) false := by
    refine Ev.step (f := fun _ => some false) (fun k => ?_) (Ev.now _)
    simp only [spec_DiskOk.j0, ↓reduceIte]
  cases h : inr room 0 40000
  · simp only [Bool.false_eq_true, ↓reduceIte, Bool.false_and, Bool.and_false]; exact hj
  · simp only [↓reduceIte, Bool.true_and]
    by_cases h8 : (l.length : Int) > 8
    · have : asc 0 l = false := by
        cases ha : asc 0 l
        · rfl
        · have := asc_len l 0 (by omega) ha; omega
      simp only [h8, ↓reduceIte, this, Bool.false_and]; exact hj
    · simp only [h8, ↓reduceIte]
      refine Ev.bind (l3Size_ev room l h1 hl) ?_
      by_cases hd : dsize l > room
      · simp only [hd, decide_true, show ¬ dsize l ≤ room by omega, decide_false, Bool.and_false]; exact hj
      · simp only [hd, decide_false, show dsize l ≤ room by omega, decide_true, Bool.and_true]
        refine Ev.step (f := fun k => spec_DiskOk.l0 k 0 room l) (fun k => ?_) ?_
        · simp only [spec_DiskOk.j0]; rfl
        · exact specDiskOk_l l [] 0 room (by omega) (.inl ⟨rfl, rfl⟩) (by simpa using hl)

theorem sizeOf_l (rest : List S81) : ∀ (P : List S81) (n m : Int), m = P.length + rest.length → 0 ≤ n → n + dsize rest ≤ 1152921504606846976 → P.length + rest.length ≤ 140737488355328 → Ev (fun k => impl_sizeOf.l0 k n (P ++ rest) m (P.length : Int)) (n + dsize rest) := by
  induction rest with
  | nil =>
    intro P n m hm h0 h1 hl
    refine Ev.step (f := fun _ => some n) (fun k => ?_) ?_
    · simp only [impl_sizeOf.l0]
      rw [if_neg (by simp at hm; omega)]
    · simp only [dsize, Int.add_zero]; exact Ev.now _
  | cons x t ih =>
    intro P n m hm h0 h1 hl
    simp only [List.length_cons] at hl hm
    have hn := dsize_nn t
    simp only [dsize] at h1
    have h := ih (P ++ [x]) (n + x.f1.size + x.f2.size) m (by simp; omega) (by omega) (by omega) (by simp; omega)
    have e : n + dsize (x :: t) = n + x.f1.size + x.f2.size + dsize t := by simp only [dsize]; omega
    rw [e]
    refine Ev.step (fun k => ?_) h
    simp only [impl_sizeOf.l0]
    rw [if_pos (by omega), if_pos (by omega), if_pos (by simp; omega), rdF_mid, w64 (x := (x.f1.size : Int) + x.f2.size) (by omega) (by omega), w64 (by omega) (by omega), w64 (by omega) (by omega)]
    simp [Int.add_assoc]
theorem sizeOf_ev (room : Int) (l : List S81) (h1 : dsize l ≤ 1152921504606846976) (hl : l.length ≤ 140737488355328) : Ev (fun k => impl_sizeOf.f k room l) (dsize l) := by
  have h := sizeOf_l l [] 0 l.length (by simp) (by omega) (by omega) (by simpa using hl)
  simpa [impl_sizeOf.f] using h

theorem within_eq (a b c : Int) : impl_within.f a b c = some (inr a b c) := by
  unfold impl_within.f inr
  by_cases h : a ≥ b
  · rw [if_pos h]; congr 1; by_cases h2 : a ≤ c <;> simp [h, h2]
  · rw [if_neg h]; congr 1; simp; omega

theorem isFile_eq (a : Int) : impl_isFile.f a = some (inr a 0 7) := by unfold impl_isFile.f; rw [within_eq]; rfl
theorem implDiskOk_l (F : List S81) (hd : dsize F ≤ 1152921504606846976) (hF : F.length ≤ 140737488355328) (rest : List S81) : ∀ (P : List S81) (lo room : Int), F = P ++ rest → 0 ≤ lo → (P = [] ∧ lo = 0 ∨ ∃ P' y, P = P' ++ [y] ∧ lo = y.f0 + 1) → Ev (fun k => impl_DiskOk.l0 k F (F.length : Int) (P.length : Int) room F) (asc lo rest && (inr room 0 40000 && decide (dsize F ≤ room))) := by
  induction rest with
  | nil =>
    intro P lo room hPF h0 hP
    refine Ev.step (f := fun k => (impl_within.f room 0 40000).bind fun t => if t = true then (impl_sizeOf.f k room F).bind fun t2 => some (decide (t2 ≤ room)) else some false) (fun k => ?_) ?_
    · simp only [impl_DiskOk.l0]
      rw [if_neg (by rw [hPF]; simp)]
    · simp only [within_eq, Option.bind_some, asc, Bool.true_and]
      cases inr room 0 40000
      · simp only [Bool.false_eq_true, ↓reduceIte, Bool.false_and]; exact Ev.now _
      · simp only [↓reduceIte, Bool.true_and]
        refine Ev.bind (sizeOf_ev room F hd hF) ?_
        exact Ev.now _
  | cons x t ih =>
    intro P lo room hPF h0 hP
    have el : (F.length : Int) = P.length + t.length + 1 := by rw [hPF]; simp; omega
    have hr : rd_T81 F (P.length : Int) = x := by rw [hPF]; exact rdF_mid P x t
    have hw1 : wrap64 ((P.length : Int) + 1) = ((P ++ [x]).length : Int) := by rw [w64 (by omega) (by omega)]; simp
    by_cases c1 : 0 ≤ x.f0 ∧ x.f0 ≤ 7
    · have i1 : inr x.f0 0 7 = true := decide_eq_true c1
      by_cases c2 : lo ≤ x.f0
      · have h := ih (P ++ [x]) (x.f0 + 1) room (by rw [hPF]; simp) (by omega) (.inr ⟨P, x, rfl, rfl⟩)
        refine Ev.step (f := fun k => impl_DiskOk.l0 k F (F.length : Int) ((P ++ [x]).length : Int) room F) (fun k => ?_) ?_
        · simp only [impl_DiskOk.l0, isFile_eq, Option.bind_some]
          rw [if_pos (by omega), if_pos (by omega), if_pos (by omega), hr, i1, if_pos rfl]
          rcases hP with ⟨rfl, rfl⟩ | ⟨P', y, rfl, rfl⟩
          · rw [if_neg (by simp), hw1]
          · have hy : rd_T81 F (((P' ++ [y]).length : Int) - 1) = y := by rw [hPF]; exact rdF_last P' y (x :: t)
            have ep : ((P' ++ [y]).length : Int) = P'.length + 1 := by simp
            rw [if_pos (by omega), w64 (x := ((P' ++ [y]).length : Int) - 1) (by omega) (by omega), if_pos (by omega), if_pos (by omega), hy, if_neg (by omega), hw1]
        · simp only [asc, show lo ≤ x.f0 ∧ x.f0 ≤ 7 from ⟨c2, c1.2⟩, decide_true, Bool.true_and]; exact h
      · refine Ev.step (f := fun _ => some false) (fun k => ?_) ?_
        · simp only [impl_DiskOk.l0, isFile_eq, Option.bind_some]
          rw [if_pos (by omega), if_pos (by omega), if_pos (by omega), hr, i1, if_pos rfl]
          rcases hP with ⟨rfl, rfl⟩ | ⟨P', y, rfl, rfl⟩
          · omega
          · have hy : rd_T81 F (((P' ++ [y]).length : Int) - 1) = y := by rw [hPF]; exact rdF_last P' y (x :: t)
            have ep : ((P' ++ [y]).length : Int) = P'.length + 1 := by simp
            rw [if_pos (by omega), w64 (x := ((P' ++ [y]).length : Int) - 1) (by omega) (by omega), if_pos (by omega), if_pos (by omega), hy, if_pos (by omega)]
        · have : asc lo (x :: t) = false := by simp [asc, c2]
          rw [this]; exact Ev.now _
    · have i1 : inr x.f0 0 7 = false := decide_eq_false c1
      refine Ev.step (f := fun _ => some false) (fun k => ?_) ?_
      · simp only [impl_DiskOk.l0, isFile_eq, Option.bind_some]
        rw [if_pos (by omega), if_pos (by omega), if_pos (by omega), hr, i1, if_neg (by simp)]
      · have : asc lo (x :: t) = false := by
          have : ¬ (lo ≤ x.f0 ∧ x.f0 ≤ 7) := by omega
          simp only [asc, this, decide_false, Bool.false_and]
        rw [this]; exact Ev.now _
theorem implDiskOk_ev (room : Int) (l : List S81) (h1 : dsize l ≤ 1152921504606846976) (hl : l.length ≤ 140737488355328) : Ev (fun k => impl_DiskOk.f k room l) (diskOk room l) :=
  implDiskOk_l l h1 hl l [] 0 room rfl (by omega) (.inl ⟨rfl, rfl⟩)

theorem l3Copy_eq (room : Int) (l : List S81) (hl : l.length ≤ 3518437208878) : spec_l3Copy.f room l = some (room, l) := by
  unfold spec_l3Copy.f
  simp only [Option.bind_some, List.length_nil, List.nil_append]
  rw [if_pos (by omega)]
theorem copyDisk_eq (room : Int) (l : List S81) (hl : l.length ≤ 3518437208878) : impl_copyDisk.f room l = some (room, l) := by
  unfold impl_copyDisk.f
  simp only [Option.bind_some, List.length_nil, List.nil_append]
  rw [if_pos (by omega)]
theorem diskOk_asc {room : Int} {l : List S81} (h : diskOk room l = true) : asc 0 l = true := by
  unfold diskOk at h; rw [Bool.and_eq_true] at h; exact h.1

theorem findS_l (nm : Int) (rest : List S81) : ∀ (P : List S81) (room : Int), P.length + rest.length ≤ 140737488355328 → Ev (fun k => spec_l3Find.l0 k nm (P.length : Int) room (P ++ rest)) (idxName rest nm (P.length : Int)) := by
  induction rest with
  | nil =>
    intro P room hl
    refine Ev.step (f := fun _ => some (-1)) (fun k => ?_) (Ev.now _)
    simp only [spec_l3Find.l0]
    rw [if_neg (by simp)]
  | cons x t ih =>
    intro P room hl
    simp only [List.length_cons] at hl
    have el : ((P ++ x :: t).length : Int) = P.length + t.length + 1 := by simp; omega
    by_cases c : x.f0 = nm
    · refine Ev.step (f := fun _ => some (P.length : Int)) (fun k => ?_) ?_
      · simp only [spec_l3Find.l0]
        rw [if_pos (by omega), if_pos (by omega), rdF_mid, if_pos c]
      · simp only [idxName, c, ↓reduceIte]; exact Ev.now _
    · have h := ih (P ++ [x]) room (by simp; omega)
      have hw1 : wrap64 ((P.length : Int) + 1) = ((P ++ [x]).length : Int) := by rw [w64 (by omega) (by omega)]; simp
      have hi : idxName (x :: t) nm (P.length : Int) = idxName t nm ((P ++ [x]).length : Int) := by simp only [idxName, c, ↓reduceIte]; simp
      rw [hi]
      refine Ev.step (fun k => ?_) h
      simp only [spec_l3Find.l0]
      rw [if_pos (by omega), if_pos (by omega), rdF_mid, if_neg c, hw1]
      simp
theorem findS_ev (room : Int) (l : List S81) (nm : Int) (hl : l.length ≤ 140737488355328) : Ev (fun k => spec_l3Find.f k room l nm) (idxName l nm 0) := by
  have h := findS_l nm l [] room (by simpa using hl)
  simpa [spec_l3Find.f] using h

theorem idx_b (nm : Int) : ∀ (l : List S81) (i : Int), 0 ≤ i → (idxName l nm i = -1 ∨ i ≤ idxName l nm i ∧ idxName l nm i < i + l.length)
  | [], i, h => by simp [idxName]
  | x :: t, i, h => by
    simp only [idxName, List.length_cons]
    split
    · exact .inr ⟨by omega, by omega⟩
    · have := idx_b nm t (i + 1) (by omega)
      omega
theorem rdF_mem (l : List S81) (i : Int) (h0 : 0 ≤ i) (h1 : i < l.length) : rd_T81 l i ∈ l := by
  unfold rd_T81
  have : i.toNat < l.length := by omega
  simp [List.getD_eq_getElem?_getD, this]
theorem idx_mem (nm : Int) : ∀ (l : List S81) (i : Int), 0 ≤ i → 0 ≤ idxName l nm i → ∃ y ∈ l, y.f0 = nm
  | [], i, h, h1 => by simp [idxName] at h1
  | x :: t, i, h, h1 => by
    simp only [idxName] at h1
    by_cases c : x.f0 = nm
    · exact ⟨x, by simp, c⟩
    · simp only [c, ↓reduceIte] at h1
      obtain ⟨y, hy, e⟩ := idx_mem nm t (i + 1) (by omega) h1
      exact ⟨y, by simp [hy], e⟩

def oth (nm : Int) (l : List S81) : List S81 := l.filter fun x => decide (x.f0 ≠ nm)
def putG (f : S81) : List S81 → List S81
  | [] => [f]
  | x :: t => if x.f0 ≥ f.f0 then f :: oth f.f0 (x :: t) else x :: putG f t
theorem oth_cons_eq {nm : Int} {x : S81} {t : List S81} (h : x.f0 = nm) : oth nm (x :: t) = oth nm t := by simp [oth, h]
theorem oth_cons_ne {nm : Int} {x : S81} {t : List S81} (h : x.f0 ≠ nm) : oth nm (x :: t) = x :: oth nm t := by simp [oth, h]
theorem putT_l (room : Int) (f : S81) (rm : Int) (rest : List S81) : ∀ (P out : List S81), P.length + rest.length ≤ 140737488355328 → out.length + rest.length ≤ 3518437208880 → Ev (fun k => spec_l3Put.l0 k true (P.length : Int) room (P ++ rest) f.f0 f.f1 f.f2 rm out) (rm, out ++ oth f.f0 rest) := by
  induction rest with
  | nil =>
    intro P out hl ho
    refine Ev.step (f := fun _ => some (rm, out)) (fun k => ?_) ?_
    · simp only [spec_l3Put.l0]
      rw [if_neg (by simp), if_pos trivial]
    · simp [oth]; exact Ev.now _
  | cons x t ih =>
    intro P out hl ho
    simp only [List.length_cons] at hl ho
    have el : ((P ++ x :: t).length : Int) = P.length + t.length + 1 := by simp; omega
    have hw1 : wrap64 ((P.length : Int) + 1) = ((P ++ [x]).length : Int) := by rw [w64 (by omega) (by omega)]; simp
    have ea : P ++ x :: t = P ++ [x] ++ t := by simp
    refine Ev.step (fun k => by simp only [spec_l3Put.l0]; rw [if_pos (by omega), if_pos trivial]) ?_
    by_cases c : x.f0 = f.f0
    · have h := ih (P ++ [x]) out (by simp; omega) (by omega)
      rw [oth_cons_eq c]
      refine Ev.step (fun k => ?_) h
      simp only [spec_l3Put.j1]
      rw [if_neg (by simp), if_pos (by omega), if_pos (by omega), rdF_mid, if_pos c, hw1, ea]
    · have h := ih (P ++ [x]) (out ++ [x]) (by simp; omega) (by simp; omega)
      rw [oth_cons_ne c]
      have e3 : out ++ x :: oth f.f0 t = (out ++ [x]) ++ oth f.f0 t := by simp
      rw [e3]
      refine Ev.step (fun k => ?_) h
      simp only [spec_l3Put.j1]
      rw [if_neg (by simp), if_pos (by omega), if_pos (by omega), rdF_mid, if_neg c, if_pos (by omega), hw1, ea]
theorem putF_l (room : Int) (f : S81) (rm : Int) (rest : List S81) : ∀ (P out : List S81), P.length + rest.length ≤ 140737488355328 → out.length + rest.length ≤ 3518437208878 → Ev (fun k => spec_l3Put.l0 k false (P.length : Int) room (P ++ rest) f.f0 f.f1 f.f2 rm out) (rm, out ++ putG f rest) := by
  induction rest with
  | nil =>
    intro P out hl ho
    refine Ev.step (f := fun _ => some (rm, out ++ [f])) (fun k => ?_) ?_
    · simp only [spec_l3Put.l0]
      rw [if_neg (by simp), if_neg (by simp), if_pos (by omega)]
    · simp [putG]; exact Ev.now _
  | cons x t ih =>
    intro P out hl ho
    simp only [List.length_cons] at hl ho
    have el : ((P ++ x :: t).length : Int) = P.length + t.length + 1 := by simp; omega
    have hw1 : wrap64 ((P.length : Int) + 1) = ((P ++ [x]).length : Int) := by rw [w64 (by omega) (by omega)]; simp
    have ea : P ++ x :: t = P ++ [x] ++ t := by simp
    refine Ev.step (fun k => by simp only [spec_l3Put.l0]; rw [if_pos (by omega), if_neg (by simp), if_pos (by omega), rdF_mid]) ?_
    by_cases c : x.f0 ≥ f.f0
    · simp only [c, decide_true, putG, ↓reduceIte]
      by_cases c2 : x.f0 = f.f0
      · have h := putT_l room f rm t (P ++ [x]) (out ++ [f]) (by simp; omega) (by simp; omega)
        rw [oth_cons_eq c2]
        have e3 : out ++ f :: oth f.f0 t = (out ++ [f]) ++ oth f.f0 t := by simp
        rw [e3]
        refine Ev.step (fun k => ?_) h
        simp only [spec_l3Put.j1]
        rw [if_pos trivial, if_pos (by omega)]
        simp only [Option.bind_some]
        rw [if_pos (by omega), if_pos (by omega), rdF_mid, if_pos c2, hw1, ea]
      · have h := putT_l room f rm t (P ++ [x]) (out ++ [f] ++ [x]) (by simp; omega) (by simp; omega)
        rw [oth_cons_ne c2]
        have e3 : out ++ f :: x :: oth f.f0 t = (out ++ [f] ++ [x]) ++ oth f.f0 t := by simp
        rw [e3]
        refine Ev.step (fun k => ?_) h
        simp only [spec_l3Put.j1]
        rw [if_pos trivial, if_pos (by omega)]
        simp only [Option.bind_some]
        rw [if_pos (by omega), if_pos (by omega), rdF_mid, if_neg c2, if_pos (by simp; omega), hw1, ea]
    · simp only [c, decide_false, putG, ↓reduceIte]
      have c2 : ¬ x.f0 = f.f0 := by omega
      have h := ih (P ++ [x]) (out ++ [x]) (by simp; omega) (by simp; omega)
      have e3 : out ++ x :: putG f t = (out ++ [x]) ++ putG f t := by simp
      rw [e3]
      refine Ev.step (fun k => ?_) h
      simp only [spec_l3Put.j1]
      rw [if_neg (by simp), if_pos (by omega), if_pos (by omega), rdF_mid, if_neg c2, if_pos (by omega), hw1, ea]
theorem l3Put_ev (room : Int) (l : List S81) (f : S81) (hl : l.length ≤ 3518437208878) : Ev (fun k => spec_l3Put.f k room l f.f0 f.f1 f.f2) (room, putG f l) := by
  have h := putF_l room f room l [] [] (by simp; omega) (by simpa using hl)
  simpa [spec_l3Put.f] using h
theorem asc_gt : ∀ (l : List S81) (lo : Int) (x : S81), asc lo l = true → x ∈ l → lo ≤ x.f0
  | y :: t, lo, x, h, hx => by
    simp only [asc, Bool.and_eq_true, decide_eq_true_eq] at h
    rcases List.mem_cons.1 hx with rfl | hx
    · exact h.1.1
    · have := asc_gt t (y.f0 + 1) x h.2 hx; omega
theorem oth_asc (l : List S81) (lo nm : Int) (h : asc lo l = true) (hn : nm < lo) : oth nm l = l := by
  unfold oth
  rw [List.filter_eq_self]
  intro x hx
  have := asc_gt l lo x h hx
  simp; omega
theorem putG_set (f : S81) : ∀ (l : List S81) (lo i : Int), asc lo l = true → 0 ≤ i → 0 ≤ idxName l f.f0 i → putG f l = l.set (idxName l f.f0 i - i).toNat f
  | [], lo, i, h, h0, h1 => by simp [idxName] at h1
  | x :: t, lo, i, h, h0, h1 => by
    simp only [asc, Bool.and_eq_true, decide_eq_true_eq] at h
    simp only [idxName] at h1 ⊢
    by_cases c : x.f0 = f.f0
    · simp only [c, ↓reduceIte, putG]
      rw [if_pos (by omega), oth_cons_eq c, oth_asc t (x.f0 + 1) f.f0 h.2 (by omega)]
      simp
    · simp only [c, ↓reduceIte] at h1 ⊢
      have hb := idx_b f.f0 t (i + 1) (by omega)
      have hm : ∃ y ∈ t, y.f0 = f.f0 := idx_mem f.f0 t (i + 1) (by omega) h1
      obtain ⟨y, hy, e⟩ := hm
      have hg := asc_gt t (x.f0 + 1) y h.2 hy
      have ih := putG_set f t (x.f0 + 1) (i + 1) h.2 (by omega) h1
      simp only [putG]
      rw [if_neg (by omega), ih]
      have e2 : (idxName t f.f0 (i + 1) - i).toNat = (idxName t f.f0 (i + 1) - (i + 1)).toNat + 1 := by omega
      rw [e2, List.set_cons_succ]

theorem dsize_set : ∀ (l : List S81) (i : Nat) (f : S81), dsize (l.set i f) ≤ dsize l + f.f1.size + f.f2.size
  | [], i, f => by simp [dsize]; omega
  | x :: t, 0, f => by have := dsize_nn t; simp only [List.set_cons_zero, dsize]; omega
  | x :: t, i + 1, f => by have := dsize_set t i f; simp only [List.set_cons_succ, dsize]; omega
theorem diskOk_b {room : Int} {l : List S81} (h : diskOk room l = true) : 0 ≤ room ∧ room ≤ 40000 ∧ dsize l ≤ room ∧ l.length ≤ 8 := by
  unfold diskOk at h
  simp only [Bool.and_eq_true, inr, decide_eq_true_eq] at h
  have := asc_len l 0 (by omega) h.1
  omega
def appF (l : List S81) (nm : Int) (s : ByteArray) : S81 :=
  if idxName l nm 0 ≥ 0 then ⟨(rd_T81 l (idxName l nm 0)).f0, (rd_T81 l (idxName l nm 0)).f1, (rd_T81 l (idxName l nm 0)).f2 ++ s⟩ else ⟨nm, (⟨#[]⟩ : ByteArray), (⟨#[]⟩ : ByteArray) ++ s⟩
def diskAppend (room : Int) (l : List S81) (nm : Int) (s : ByteArray) : Int × List S81 × Int :=
  if (diskOk room l && inr nm 0 7) = true then (if (s.size : Int) > room - dsize l then (room, l, 3) else (room, putG (appF l nm s) l, 0)) else (0, [], 1)
theorem dsize_oth (nm : Int) : ∀ l : List S81, dsize (oth nm l) ≤ dsize l ∧ (oth nm l).length ≤ l.length
  | [] => by simp [oth, dsize]
  | x :: t => by
    have h := dsize_oth nm t
    have hn := dsize_nn (oth nm t)
    by_cases c : x.f0 = nm
    · rw [oth_cons_eq c]; simp only [dsize, List.length_cons]; omega
    · rw [oth_cons_ne c]; simp only [dsize, List.length_cons]; omega
theorem dsize_putG (f : S81) : ∀ l : List S81, dsize (putG f l) ≤ dsize l + f.f1.size + f.f2.size ∧ (putG f l).length ≤ l.length + 1
  | [] => by simp only [putG, dsize, List.length_cons, List.length_nil]; omega
  | x :: t => by
    have h := dsize_putG f t
    simp only [putG]
    split
    · have := dsize_oth f.f0 (x :: t)
      simp only [dsize, List.length_cons] at this ⊢; omega
    · simp only [dsize, List.length_cons]; omega
theorem appF_size (l : List S81) (nm : Int) (s : ByteArray) (hl : l.length ≤ 140737488355328) : ((appF l nm s).f1.size : Int) + (appF l nm s).f2.size ≤ dsize l + s.size := by
  unfold appF
  split
  · rename_i h
    have hb := idx_b nm l 0 (by omega)
    have hm := dsize_mem (rdF_mem l (idxName l nm 0) (by omega) (by omega))
    simp only [ByteArray.size_append]; omega
  · have hn := dsize_nn l
    have : (⟨#[]⟩ : ByteArray).size = 0 := rfl
    simp only [ByteArray.size_append, this]; omega
theorem diskAppend_b (room : Int) (l : List S81) (nm : Int) (s : ByteArray) (h1 : dsize l ≤ 100000) (hl : l.length ≤ 10) (hs : s.size ≤ 1000) :
    dsize (diskAppend room l nm s).2.1 ≤ 100000 ∧ (diskAppend room l nm s).2.1.length ≤ 10 := by
  have hn := dsize_nn l
  unfold diskAppend
  split
  · rename_i h
    simp only [Bool.and_eq_true] at h
    have hb := diskOk_b h.1
    split
    · exact ⟨h1, hl⟩
    · have h2 := dsize_putG (appF l nm s) l
      have h3 := appF_size l nm s (by omega)
      exact ⟨by simp only; omega, by simp only; omega⟩
  · simp [dsize]
theorem specDiskAppend_ev (room : Int) (l : List S81) (nm : Int) (s : ByteArray) (h1 : dsize l ≤ 1152921504606846976) (hl : l.length ≤ 3518437208878) (hs : s.size ≤ 140737488355328) : Ev (fun k => spec_DiskAppend.f k room l nm s) (diskAppend room l nm s) := by
  unfold spec_DiskAppend.f diskAppend
  refine Ev.bind (specDiskOk_ev room l h1 (by omega)) ?_
  have hj : Ev (fun k => spec_DiskAppend.j0 k nm s true room l) (0, [], 1) := by
    refine Ev.step (f := fun _ => some (0, [], 1)) (fun k => ?_) (Ev.now _)
    simp only [spec_DiskAppend.j0, ↓reduceIte]
  cases h : diskOk room l
  · simp only [Bool.false_eq_true, ↓reduceIte, Bool.false_and]; exact hj
  · have hb := diskOk_b h
    have hn := dsize_nn l
    simp only [↓reduceIte, Bool.true_and, l3Name_eq, Option.bind_some]
    cases h2 : inr nm 0 7
    · simp only [Bool.not_false, Bool.false_eq_true, ↓reduceIte]; exact hj
    · simp only [Bool.not_true, ↓reduceIte]
      refine Ev.step (fun k => by simp only [spec_DiskAppend.j0, Bool.false_eq_true, ↓reduceIte]; rfl) ?_
      refine Ev.bind (l3Size_ev room l (by omega) (by omega)) ?_
      have hw : wrap64 (room - dsize l) = room - dsize l := w64 (by omega) (by omega)
      simp only [hw]
      by_cases c : (s.size : Int) > room - dsize l
      · simp only [c, ↓reduceIte, l3Copy_eq room l hl, Option.bind_some]; exact Ev.now _
      · simp only [c, ↓reduceIte]
        refine Ev.bind (findS_ev room l nm (by omega)) ?_
        unfold appF
        by_cases c2 : idxName l nm 0 ≥ 0
        · have hb2 := idx_b nm l 0 (by omega)
          have hm := dsize_mem (rdF_mem l (idxName l nm 0) (by omega) (by omega))
          simp only [c2, ↓reduceIte, show 0 ≤ idxName l nm 0 by omega, show idxName l nm 0 < (l.length : Int) by omega, show (rd_T81 l (idxName l nm 0)).f2.size + s.size ≤ 9223372036854775807 by omega]
          exact Ev.bind (l3Put_ev room l ⟨(rd_T81 l (idxName l nm 0)).f0, (rd_T81 l (idxName l nm 0)).f1, (rd_T81 l (idxName l nm 0)).f2 ++ s⟩ hl) (Ev.now _)
        · simp only [c2, ↓reduceIte, show 0 + s.size ≤ 9223372036854775807 by omega]
          exact Ev.bind (l3Put_ev room l ⟨nm, (⟨#[]⟩ : ByteArray), (⟨#[]⟩ : ByteArray) ++ s⟩ hl) (Ev.now _)

def movF (l : List S81) (nm to_ : Int) : S81 := ⟨to_, (rd_T81 l (idxName l nm 0)).f1, (rd_T81 l (idxName l nm 0)).f2⟩
def diskMove (room : Int) (l : List S81) (nm to_ : Int) : Int × List S81 × Int :=
  if (diskOk room l && (inr nm 0 7 && (inr to_ 0 7 && !(nm == to_)))) = true then (if idxName l nm 0 < 0 then (room, l, 2) else (room, putG (movF l nm to_) (l.eraseIdx (idxName l nm 0).toNat), 0)) else (0, [], 1)
theorem dsize_erase : ∀ (l : List S81) (i : Nat), dsize (l.eraseIdx i) ≤ dsize l ∧ (l.eraseIdx i).length ≤ l.length
  | [], i => by simp [dsize]
  | x :: t, 0 => by have := dsize_nn t; simp only [List.eraseIdx_cons_zero, dsize, List.length_cons]; omega
  | x :: t, i + 1 => by have := dsize_erase t i; simp only [List.eraseIdx_cons_succ, dsize, List.length_cons]; omega
theorem diskMove_b (room : Int) (l : List S81) (nm to_ : Int) (h1 : dsize l ≤ 100000) (hl : l.length ≤ 10) :
    dsize (diskMove room l nm to_).2.1 ≤ 100000 ∧ (diskMove room l nm to_).2.1.length ≤ 10 := by
  have hn := dsize_nn l
  unfold diskMove
  split
  · rename_i h
    simp only [Bool.and_eq_true] at h
    have hb := diskOk_b h.1
    split
    · exact ⟨h1, hl⟩
    · rename_i h2
      have hb2 := idx_b nm l 0 (by omega)
      have hm := dsize_mem (rdF_mem l (idxName l nm 0) (by omega) (by omega))
      have h3 := dsize_putG (movF l nm to_) (l.eraseIdx (idxName l nm 0).toNat)
      have h4 := dsize_erase l (idxName l nm 0).toNat
      simp only [movF] at h3 ⊢
      exact ⟨by omega, by omega⟩
  · simp [dsize]
theorem moveS_l (room rm : Int) (l : List S81) (j : Nat) (f : S81) (hl : l.length ≤ 3518437208878) (d : Nat) : ∀ i : Nat, i + d = l.length →
    Ev (fun k => spec_DiskMove.l0 k (j : Int) (i : Int) room l f.f0 f.f1 f.f2 rm ((l.take i).eraseIdx j)) (rm, putG f (l.eraseIdx j), 0) := by
  induction d with
  | zero =>
    intro i hi
    have ht : l.take i = l := List.take_of_length_le (by omega)
    refine Ev.step (fun k => by simp only [spec_DiskMove.l0]; rw [if_neg (by omega), ht]) ?_
    refine Ev.bind (l3Put_ev rm (l.eraseIdx j) f (by have := (dsize_erase l j).2; omega)) ?_
    exact Ev.now _
  | succ d ih =>
    intro i hi
    have h := ih (i + 1) (by omega)
    have hlt : i < l.length := by omega
    have hw : wrap64 ((i : Int) + 1) = ((i + 1 : Nat) : Int) := by rw [w64 (by omega) (by omega)]; omega
    have et : l.take (i + 1) = l.take i ++ [l[i]] := List.take_succ_eq_append_getElem hlt
    have hti : (l.take i).length = i := by rw [List.length_take]; omega
    by_cases c : i = j
    · refine Ev.step (fun k => ?_) h
      simp only [spec_DiskMove.l0]
      rw [if_pos (by omega), if_pos (by omega), hw]
      have e : (l.take (i + 1)).eraseIdx j = (l.take i).eraseIdx j := by
        rw [et, ← c, List.eraseIdx_append_of_length_le (by omega), hti, Nat.sub_self, List.eraseIdx_of_length_le (l := l.take i) (by omega)]
        simp
      rw [e]
    · refine Ev.step (fun k => ?_) h
      have hle := (dsize_erase (l.take i) j).2
      simp only [spec_DiskMove.l0]
      rw [if_pos (by omega), if_neg (by omega), if_pos (by omega), if_pos (by omega), hw]
      have e : (l.take (i + 1)).eraseIdx j = (l.take i).eraseIdx j ++ [rd_T81 l (i : Int)] := by
        have er : rd_T81 l (i : Int) = l[i] := by unfold rd_T81; simp [List.getD_eq_getElem?_getD, hlt]
        rw [et, er]
        by_cases c2 : j < i
        · rw [List.eraseIdx_append_of_lt_length (by omega)]
        · rw [List.eraseIdx_of_length_le (l := l.take i ++ [l[i]]) (by simp; omega), List.eraseIdx_of_length_le (l := l.take i) (by omega)]
      rw [e]
theorem specDiskMove_ev (room : Int) (l : List S81) (nm to_ : Int) (h1 : dsize l ≤ 1152921504606846976) (hl : l.length ≤ 3518437208878) : Ev (fun k => spec_DiskMove.f k room l nm to_) (diskMove room l nm to_) := by
  unfold spec_DiskMove.f diskMove
  refine Ev.bind (specDiskOk_ev room l h1 (by omega)) ?_
  have hj : Ev (fun k => spec_DiskMove.j0 k nm to_ true room l) (0, [], 1) := by
    refine Ev.step (f := fun _ => some (0, [], 1)) (fun k => ?_) (Ev.now _)
    simp only [spec_DiskMove.j0, ↓reduceIte]
  cases h : diskOk room l
  · simp only [Bool.false_eq_true, ↓reduceIte, Bool.false_and]; exact hj
  simp only [↓reduceIte, Bool.true_and, l3Name_eq, Option.bind_some]
  cases h2 : inr nm 0 7
  · simp only [Bool.false_and, Bool.false_eq_true, ↓reduceIte]; exact hj
  simp only [↓reduceIte, Bool.true_and]
  cases h3 : inr to_ 0 7
  · simp only [Bool.false_and, Bool.false_eq_true, ↓reduceIte]; exact hj
  simp only [↓reduceIte, Bool.true_and]
  cases h4 : nm == to_
  · simp only [Bool.not_false, ↓reduceIte]
    refine Ev.step (fun k => by simp only [spec_DiskMove.j0, Bool.false_eq_true, ↓reduceIte]; rfl) ?_
    refine Ev.bind (findS_ev room l nm (by omega)) ?_
    by_cases c : idxName l nm 0 < 0
    · simp only [c, ↓reduceIte, l3Copy_eq room l hl, Option.bind_some]; exact Ev.now _
    · have hb2 := idx_b nm l 0 (by omega)
      have hm := moveS_l room room l (idxName l nm 0).toNat (movF l nm to_) hl l.length 0 (by omega)
      have e : (((idxName l nm 0).toNat : Nat) : Int) = idxName l nm 0 := by omega
      simp only [c, ↓reduceIte, show 0 ≤ idxName l nm 0 by omega, show idxName l nm 0 < (l.length : Int) by omega]
      rw [e] at hm
      simpa [movF] using hm
  · simp only [Bool.not_true, Bool.false_eq_true, ↓reduceIte]; exact hj

def syncF (l : List S81) (nm : Int) : S81 := ⟨nm, (rd_T81 l (idxName l nm 0)).f1 ++ (rd_T81 l (idxName l nm 0)).f2, (⟨#[]⟩ : ByteArray)⟩
def diskSync (room : Int) (l : List S81) (nm : Int) : Int × List S81 × Int :=
  if (diskOk room l && inr nm 0 7) = true then (if idxName l nm 0 < 0 then (room, l, 2) else (room, l.set (idxName l nm 0).toNat (syncF l nm), 0)) else (0, [], 1)
theorem specDiskSync_ev (room : Int) (l : List S81) (nm : Int) (h1 : dsize l ≤ 1152921504606846976) (hl : l.length ≤ 3518437208878) : Ev (fun k => spec_DiskSync.f k room l nm) (diskSync room l nm) := by
  unfold spec_DiskSync.f diskSync
  refine Ev.bind (specDiskOk_ev room l h1 (by omega)) ?_
  have hj : Ev (fun k => spec_DiskSync.j0 k nm true room l) (0, [], 1) := by
    refine Ev.step (f := fun _ => some (0, [], 1)) (fun k => ?_) (Ev.now _)
    simp only [spec_DiskSync.j0, ↓reduceIte]
  cases h : diskOk room l
  · simp only [Bool.false_eq_true, ↓reduceIte, Bool.false_and]; exact hj
  · simp only [↓reduceIte, Bool.true_and, l3Name_eq, Option.bind_some]
    cases h2 : inr nm 0 7
    · simp only [Bool.not_false, Bool.false_eq_true, ↓reduceIte]; exact hj
    · simp only [Bool.not_true, ↓reduceIte]
      refine Ev.step (fun k => by simp only [spec_DiskSync.j0, Bool.false_eq_true, ↓reduceIte]; rfl) ?_
      refine Ev.bind (findS_ev room l nm (by omega)) ?_
      by_cases c : idxName l nm 0 < 0
      · simp only [c, ↓reduceIte, l3Copy_eq room l hl, Option.bind_some]; exact Ev.now _
      · have hb := idx_b nm l 0 (by omega)
        have hm := dsize_mem (rdF_mem l (idxName l nm 0) (by omega) (by omega))
        have k1 : 0 ≤ idxName l nm 0 := by omega
        have k2 : idxName l nm 0 < (l.length : Int) := by omega
        have k3 : ((rd_T81 l (idxName l nm 0)).f1).size + ((rd_T81 l (idxName l nm 0)).f2).size ≤ 9223372036854775807 := by omega
        simp only [c, ↓reduceIte, k1, k2, k3]
        refine Ev.bind (l3Put_ev room l (syncF l nm) hl) ?_
        have e := putG_set (syncF l nm) l 0 0 (diskOk_asc h) (by omega) k1
        rw [show (syncF l nm).f0 = nm from rfl, Int.sub_zero] at e
        rw [e]
        exact Ev.now _
theorem implDiskSync_ev (room : Int) (l : List S81) (nm : Int) (h1 : dsize l ≤ 1152921504606846976) (hl : l.length ≤ 3518437208878) : Ev (fun k => impl_DiskSync.f k room l nm) (diskSync room l nm) := by
  unfold impl_DiskSync.f diskSync
  refine Ev.bind (implDiskOk_ev room l h1 (by omega)) ?_
  have hj : Ev (fun k => impl_DiskSync.j0 k nm true room l) (0, [], 1) := by
    refine Ev.step (f := fun _ => some (0, [], 1)) (fun k => ?_) (Ev.now _)
    simp only [impl_DiskSync.j0, ↓reduceIte]
  cases h : diskOk room l
  · simp only [Bool.false_eq_true, ↓reduceIte, Bool.false_and]; exact hj
  · simp only [↓reduceIte, Bool.true_and, isFile_eq, Option.bind_some]
    cases h2 : inr nm 0 7
    · simp only [Bool.not_false, Bool.false_eq_true, ↓reduceIte]; exact hj
    · simp only [Bool.not_true, ↓reduceIte]
      refine Ev.step (fun k => by simp only [impl_DiskSync.j0, Bool.false_eq_true, ↓reduceIte, copyDisk_eq room l hl, impl_fileAt.f, Option.bind_some]; rfl) ?_
      by_cases c : idxName l nm 0 < 0
      · simp only [c, ↓reduceIte]; exact Ev.now _
      · have hb := idx_b nm l 0 (by omega)
        have hm := dsize_mem (rdF_mem l (idxName l nm 0) (by omega) (by omega))
        have k1 : 0 ≤ idxName l nm 0 := by omega
        have k2 : idxName l nm 0 < (l.length : Int) := by omega
        have k3 : ((rd_T81 l (idxName l nm 0)).f1).size + ((rd_T81 l (idxName l nm 0)).f2).size ≤ 9223372036854775807 := by omega
        simp only [c, ↓reduceIte, k1, k2, k3]
        exact Ev.now _

theorem l1Byte_ok (b : List Int) (i h : Int) (hi : 0 ≤ i ∧ i ≤ 9223372036854775807) (hb : b.length ≤ 140737488355328) : ∃ x i' h', spec_l1Byte.f b i h = some (x, i', h') ∧ 0 ≤ i' ∧ i' ≤ 9223372036854775807 := by
  unfold spec_l1Byte.f
  by_cases c : i < (b.length : Int)
  · rw [if_pos c, if_pos hi.1, w64 (x := i + 1) (by omega) (by omega)]
    exact ⟨_, _, _, rfl, by omega, by omega⟩
  · rw [if_neg c]
    exact ⟨_, _, _, rfl, hi.1, hi.2⟩
theorem l1Below_ok (b : List Int) (i h a : Int) (hi : 0 ≤ i ∧ i ≤ 9223372036854775807) (hb : b.length ≤ 140737488355328) : ∃ x i' h', spec_l1Below.f b i h a = some (x, i', h') ∧ (0 ≤ i' ∧ i' ≤ 9223372036854775807) ∧ (a ≤ 0 → x = 0) ∧ (0 < a → -a < x ∧ x < a) := by
  unfold spec_l1Below.f
  by_cases c : a ≤ 0
  · rw [if_pos c]
    exact ⟨_, _, _, rfl, hi, fun _ => rfl, fun h => by omega⟩
  · rw [if_neg c]
    have ht : ∀ x : Int, -a < Int.tmod x a ∧ Int.tmod x a < a := fun x => by
      have h1 := Int.tmod_lt_of_pos x (show 0 < a by omega)
      have h2 := Int.lt_tmod_of_pos x (show 0 < a by omega)
      omega
    by_cases c2 : a ≤ 256
    · rw [if_pos c2]
      obtain ⟨x, i', h', e, p⟩ := l1Byte_ok b i h hi hb
      rw [e]
      simp only [Option.bind_some]
      rw [if_neg (by omega)]
      exact ⟨_, _, _, rfl, p, fun h => by omega, fun _ => ht _⟩
    · rw [if_neg c2]
      obtain ⟨x1, i1, h1, e1, p1⟩ := l1Byte_ok b i h hi hb
      obtain ⟨x2, i2, h2, e2, p2⟩ := l1Byte_ok b i1 h1 p1 hb
      obtain ⟨x3, i3, h3, e3, p3⟩ := l1Byte_ok b i2 h2 p2 hb
      obtain ⟨x4, i4, h4, e4, p4⟩ := l1Byte_ok b i3 h3 p3 hb
      rw [e1]; simp only [Option.bind_some]
      rw [e2]; simp only [Option.bind_some]
      rw [e3]; simp only [Option.bind_some]
      rw [e4]; simp only [Option.bind_some]
      rw [if_neg (by omega)]
      exact ⟨_, _, _, rfl, p4, fun h => by omega, fun _ => ht _⟩
theorem l1New_l (l : List Int) (hl : l.length ≤ 140737488355328) (d : Nat) : ∀ (h i : Int), 0 ≤ i → i + d = 4000 → ∃ h', Ev (fun k => spec_l1New.l0 k l h i) (l, 0, h') := by
  induction d with
  | zero =>
    intro h i h0 hd
    refine ⟨h, ?_⟩
    refine Ev.step (f := fun _ => some (l, 0, h)) (fun k => ?_) (Ev.now _)
    simp only [spec_l1New.l0]
    split
    · rw [if_neg (by omega)]
    · rfl
  | succ d ih =>
    intro h i h0 hd
    by_cases c : i < (l.length : Int)
    · obtain ⟨h', hh⟩ := ih (Go.bits .and .i64 (wrap64 ((wrap64 ((wrap64 (h * 131)) + (wrap64 (rd l i)))) + 7)) 1073741823) (i + 1) (by omega) (by omega)
      refine ⟨h', Ev.step (fun k => ?_) hh⟩
      simp only [spec_l1New.l0]
      rw [if_pos c, if_pos (by omega), if_pos h0, w64 (x := i + 1) (by omega) (by omega)]
    · refine ⟨h, Ev.step (f := fun _ => some (l, 0, h)) (fun k => ?_) (Ev.now _)⟩
      simp only [spec_l1New.l0]
      rw [if_neg c]
theorem l1New_ev (l : List Int) (hl : l.length ≤ 140737488355328) : ∃ h', Ev (fun k => spec_l1New.f k l) (l, 0, h') := by
  unfold spec_l1New.f
  exact l1New_l l hl 4000 _ 0 (by omega) (by omega)
theorem l1Once_ok (b : List Int) (i h a : Int) (hi : 0 ≤ i ∧ i ≤ 9223372036854775807) (hb : b.length ≤ 140737488355328) : ∃ x i' h', spec_l1Once.f b i h a = some (x, i', h') ∧ (0 ≤ i' ∧ i' ≤ 9223372036854775807) := by
  unfold spec_l1Once.f
  obtain ⟨x, i', h', e, p, _⟩ := l1Below_ok b i h a hi hb
  rw [e]
  exact ⟨_, _, _, rfl, p⟩

theorem l1DrawBytes_l (b : List Int) (hb : b.length ≤ 140737488355328) (n : Int) (hn : n ≤ 1000000) (d : Nat) : ∀ (acc : List Int) (j i h : Int), By acc → (acc.length : Int) = j → 0 ≤ j → (j ≤ n → j + d = n) → (n < j → d = 0) → (0 ≤ i ∧ i ≤ 9223372036854775807) → ∃ r i' h', Ev (fun k => spec_l1DrawBytes.l0 k acc n j b i h) (r, i', h') ∧ By r ∧ ((r.length : Int) ≤ n ∨ r = acc) ∧ (0 ≤ i' ∧ i' ≤ 9223372036854775807) := by
  induction d with
  | zero =>
    intro acc j i h ha hl h0 hd hd2 hi
    refine ⟨acc, i, h, Ev.step (f := fun _ => some (acc, i, h)) (fun k => ?_) (Ev.now _), ha, .inr rfl, hi⟩
    simp only [spec_l1DrawBytes.l0]
    rw [if_neg (by omega)]
  | succ d ih =>
    intro acc j i h ha hl h0 hd hd2 hi
    have c : j < n := by omega
    obtain ⟨x, i1, h1, e, p⟩ := l1Byte_ok b i h hi hb
    obtain ⟨r, i', h', hh, hr, hrl, hi'⟩ := ih (acc ++ [x % 256]) (j + 1) i1 h1 (fun y hy => by
      rcases List.mem_append.1 hy with hy | hy
      · exact ha y hy
      · simp at hy; omega) (by simp; omega) (by omega) (by omega) (by omega) p
    refine ⟨r, i', h', Ev.step (fun k => ?_) hh, hr, .inl ?_, hi'⟩
    · simp only [spec_l1DrawBytes.l0]
      rw [if_pos c, e]
      simp only [Option.bind_some]
      rw [if_pos (by omega), w64 (by omega) (by omega)]
    · rcases hrl with h | rfl
      · exact h
      · simp; omega
theorem l1DrawBytes_ev (b : List Int) (i h a : Int) (hb : b.length ≤ 140737488355328) (hi : 0 ≤ i ∧ i ≤ 9223372036854775807) (ha : 0 ≤ a ∧ a ≤ 1000000) : ∃ r i' h', Ev (fun k => spec_l1DrawBytes.f k b i h a) (r, i', h') ∧ By r ∧ (r.length : Int) ≤ a ∧ (0 ≤ i' ∧ i' ≤ 9223372036854775807) := by
  unfold spec_l1DrawBytes.f
  rw [w64 (x := a + 1) (by omega) (by omega)]
  obtain ⟨n, i1, h1, e, p, hx0, hx⟩ := l1Below_ok b i h (a + 1) hi hb
  have hx := hx (by omega)
  obtain ⟨r, i', h', hh, hr, hrl, hi'⟩ := l1DrawBytes_l b hb n (by omega) n.toNat [] 0 i1 h1 (by intro y hy; simp at hy) rfl (by omega) (by omega) (by omega) p
  refine ⟨r, i', h', ?_, hr, ?_, hi'⟩
  · rw [e]
    simp only [Option.bind_some]
    exact hh
  · rcases hrl with h | rfl
    · omega
    · simp; omega

theorem and_maskZ (i : Nat) (hi : i ≤ 62) (x : Int) : Go.bits .and .i64 x (2 ^ i - 1) = x % 2 ^ i := by
  have hpos : 0 < 2 ^ i := Nat.two_pow_pos i
  have hle : 2 ^ i ≤ 2 ^ 62 := Nat.pow_le_pow_right (by decide) hi
  have hc : ((2 : Int) ^ i - 1) = ((2 ^ i - 1 : Nat) : Int) := by rw [Int.natCast_sub hpos]; simp
  have hb : IntKind.i64.bits = 64 := rfl
  have hd : ((2 : Int) ^ i) ∣ ((2 : Int) ^ 64) := ⟨2 ^ (64 - i), by rw [← Int.pow_add]; congr 1; omega⟩
  have hx : (((x % (2 : Int) ^ 64).toNat : Nat) : Int) = x % (2 : Int) ^ 64 := Int.toNat_of_nonneg (Int.emod_nonneg _ (by decide))
  rw [hc]
  simp only [Go.bits, hb, BitVec.ofInt_natCast, BitVec.toNat_and, BitVec.toNat_ofNat, BitVec.toNat_ofInt]
  rw [Nat.mod_eq_of_lt (show 2 ^ i - 1 < 2 ^ 64 by omega), Nat.and_two_pow_sub_one_eq_mod]
  have e : (((x % ((2 ^ 64 : Nat) : Int)).toNat % 2 ^ i : Nat) : Int) = x % 2 ^ i := by
    rw [Int.natCast_emod]
    have : ((2 ^ 64 : Nat) : Int) = (2 : Int) ^ 64 := by simp
    rw [this, hx]
    have h2 : ((2 ^ i : Nat) : Int) = (2 : Int) ^ i := by simp
    rw [h2, Int.emod_emod_of_dvd _ hd]
  rw [e]
  have h1 := Int.emod_nonneg x (show (2 : Int) ^ i ≠ 0 by exact_mod_cast Nat.ne_of_gt hpos)
  have h2 := Int.emod_lt_of_pos x (show (0 : Int) < 2 ^ i by exact_mod_cast hpos)
  have h3 : (2 : Int) ^ i ≤ 2 ^ 62 := by exact_mod_cast hle
  exact wraps_i64 _ h1 (by omega)
theorem and255 (x : Int) : Go.bits .and .i64 x 255 = x % 256 := and_maskZ 8 (by decide) x

theorem l1Byte_nn (b : List Int) (i h x : Int) (i' h' : Int) (e : spec_l1Byte.f b i h = some (x, i', h')) : 0 ≤ x ∧ x ≤ 255 := by
  unfold spec_l1Byte.f at e
  simp only [and255] at e
  split at e
  · split at e
    · simp only [Option.some.injEq, Prod.mk.injEq] at e; omega
    · simp at e
  · simp only [Option.some.injEq, Prod.mk.injEq] at e; omega
theorem l1Below_nn (b : List Int) (i h a x : Int) (i' h' : Int) (e : spec_l1Below.f b i h a = some (x, i', h')) : 0 ≤ x := by
  unfold spec_l1Below.f at e
  split at e
  · simp only [Option.some.injEq, Prod.mk.injEq] at e; omega
  · split at e
    · obtain ⟨⟨x1, i1, h1⟩, e1, e⟩ := Option.bind_eq_some_iff.1 e
      have := l1Byte_nn _ _ _ _ _ _ e1
      simp only at e
      split at e
      · simp at e
      · simp only [Option.some.injEq, Prod.mk.injEq] at e
        rw [← e.1]; exact Int.tmod_nonneg _ (by omega)
    · obtain ⟨⟨x1, i1, h1⟩, e1, e⟩ := Option.bind_eq_some_iff.1 e
      obtain ⟨⟨x2, i2, h2⟩, e2, e⟩ := Option.bind_eq_some_iff.1 e
      obtain ⟨⟨x3, i3, h3⟩, e3, e⟩ := Option.bind_eq_some_iff.1 e
      obtain ⟨⟨x4, i4, h4⟩, e4, e⟩ := Option.bind_eq_some_iff.1 e
      have b1 := l1Byte_nn _ _ _ _ _ _ e1
      have b2 := l1Byte_nn _ _ _ _ _ _ e2
      have b3 := l1Byte_nn _ _ _ _ _ _ e3
      have b4 := l1Byte_nn _ _ _ _ _ _ e4
      simp only at e
      split at e
      · simp at e
      · simp only [Option.some.injEq, Prod.mk.injEq] at e
        rw [← e.1]
        refine Int.tmod_nonneg _ ?_
        rw [w64 (x := x1 * 16777216) (by omega) (by omega), w64 (x := x2 * 65536) (by omega) (by omega), w64 (x := x3 * 256) (by omega) (by omega), w64 (x := x1 * 16777216 + x2 * 65536) (by omega) (by omega), w64 (x := x1 * 16777216 + x2 * 65536 + x3 * 256) (by omega) (by omega), w64 (by omega) (by omega)]
        omega
theorem rd_mem (l : List Int) (i : Int) (h0 : 0 ≤ i) (h1 : i < l.length) : rd l i ∈ l := by
  unfold rd
  rw [List.getD_eq_getElem?_getD, List.getElem?_eq_getElem (by omega)]
  exact List.getElem_mem _
theorem l1PickInt_ok (b : List Int) (i h : Int) (l : List Int) (hi : 0 ≤ i ∧ i ≤ 9223372036854775807) (hb : b.length ≤ 140737488355328) (hl : 0 < l.length) : ∃ x i' h', spec_l1PickInt.f b i h l = some (x, i', h') ∧ (0 ≤ i' ∧ i' ≤ 9223372036854775807) ∧ x ∈ l := by
  obtain ⟨x, i', h', e, p, _, hx⟩ := l1Below_ok b i h l.length hi hb
  have hn := l1Below_nn _ _ _ _ _ _ _ e
  have hx := hx (by omega)
  refine ⟨rd l x, i', h', ?_, p, rd_mem l x hn hx.2⟩
  unfold spec_l1PickInt.f
  rw [e]
  simp only [Option.bind_some]
  rw [if_pos hn, if_pos hx.2]
theorem toList_inj {a b : ByteArray} (h : a.toList = b.toList) : a = b := by
  rw [ByteArray.toList_eq, ByteArray.toList_eq] at h
  exact ByteArray.ext (Array.toList_inj.1 h)
theorem syncF_size (l : List S81) (nm : Int) (h : 0 ≤ idxName l nm 0) : ((syncF l nm).f1.size : Int) + (syncF l nm).f2.size ≤ dsize l := by
  have hb := idx_b nm l 0 (by omega)
  have hm := dsize_mem (rdF_mem l (idxName l nm 0) (by omega) (by omega))
  have : (⟨#[]⟩ : ByteArray).size = 0 := rfl
  simp only [syncF, ByteArray.size_append, this]; omega
theorem diskSync_b (room : Int) (l : List S81) (nm : Int) (h1 : dsize l ≤ 100000) (hl : l.length ≤ 10) : dsize (diskSync room l nm).2.1 ≤ 100000 ∧ (diskSync room l nm).2.1.length ≤ 10 := by
  have hn := dsize_nn l
  unfold diskSync
  split
  · rename_i h
    simp only [Bool.and_eq_true] at h
    have hb := diskOk_b h.1
    split
    · exact ⟨h1, hl⟩
    · have h2 := dsize_set l (idxName l nm 0).toNat (syncF l nm)
      have h3 := syncF_size l nm (by omega)
      exact ⟨by simp only; omega, by simp only [List.length_set]; omega⟩
  · simp [dsize]
theorem strOf_size (l : List Int) : (strOfNums l).size = l.length := by rw [← data_length, strOfNums_data, List.length_map]
theorem l3DrawText_ok (b : List Int) (i h a : Int) (hi : 0 ≤ i ∧ i ≤ 9223372036854775807) (hb : b.length ≤ 140737488355328) (ha : 0 ≤ a ∧ a ≤ 1000) : ∃ s i' h', Ev (fun k => spec_l3DrawText.f k b i h a) (s, i', h') ∧ (s.size : Int) ≤ a ∧ (0 ≤ i' ∧ i' ≤ 9223372036854775807) := by
  obtain ⟨r, i1, h1, e1, hr, hrl, p1⟩ := l1DrawBytes_ev b i h a hb hi (by omega)
  refine ⟨strOfNums r, i1, h1, ?_, by rw [strOf_size]; exact hrl, p1⟩
  unfold spec_l3DrawText.f
  exact Ev.bind e1 (Ev.now _)
theorem diskSync_room (room : Int) (l : List S81) (nm : Int) : (diskSync room l nm).1 = room ∨ (diskSync room l nm).1 = 0 := by
  unfold diskSync
  split
  · split <;> exact .inl rfl
  · exact .inr rfl
theorem diskMove_room (room : Int) (l : List S81) (nm to_ : Int) : (diskMove room l nm to_).1 = room ∨ (diskMove room l nm to_).1 = 0 := by
  unfold diskMove
  split
  · split <;> exact .inl rfl
  · exact .inr rfl
theorem diskAppend_room (room : Int) (l : List S81) (nm : Int) (s : ByteArray) : (diskAppend room l nm s).1 = room ∨ (diskAppend room l nm s).1 = 0 := by
  unfold diskAppend
  split
  · split <;> exact .inl rfl
  · exact .inr rfl
def DB (room : Int) (l : List S81) : Prop := (-9223372036854775808 ≤ room ∧ room ≤ 9223372036854775807) ∧ dsize l ≤ 100000 ∧ l.length ≤ 10
theorem drawRight_l (b : List Int) (hb : b.length ≤ 140737488355328) (d : Nat) : ∀ (x i h room : Int) (l : List S81), 0 ≤ x → x + d = 12 → (0 ≤ i ∧ i ≤ 9223372036854775807) → DB room l →
    ∃ room' l' i' h', Ev (fun k => spec_l3DrawRight.l0 k x b i h room l) (room', l', i', h') ∧ DB room' l' ∧ (0 ≤ i' ∧ i' ≤ 9223372036854775807) := by
  induction d with
  | zero =>
    intro x i h room l hx hd hi hD
    obtain ⟨y, i1, h1, e1, p1, _, b1⟩ := l1Below_ok b i h 12 hi hb
    have b1 := b1 (by omega)
    refine ⟨room, l, i1, h1, ?_, hD, p1⟩
    refine Ev.step (f := fun _ => some (room, l, i1, h1)) (fun k => ?_) (Ev.now _)
    simp only [spec_l3DrawRight.l0, e1, Option.bind_some]
    rw [if_neg (by omega)]
  | succ d ih =>
    intro x i h room l hx hd hi hD
    have hw : wrap64 (x + 1) = x + 1 := w64 (by omega) (by omega)
    obtain ⟨y, i1, h1, e1, p1, _, b1⟩ := l1Below_ok b i h 12 hi hb
    by_cases c : ¬ x < y
    · refine ⟨room, l, i1, h1, ?_, hD, p1⟩
      refine Ev.step (f := fun _ => some (room, l, i1, h1)) (fun k => ?_) (Ev.now _)
      simp only [spec_l3DrawRight.l0, e1, Option.bind_some, c, ↓reduceIte]
    · replace c := Decidable.not_not.1 c
      obtain ⟨z, i2, h2, e2, p2, _, b2⟩ := l1Below_ok b i1 h1 5 p1 hb
      have key : ∀ v : Bool, ∃ room' l' i' h', Ev (fun k => spec_l3DrawRight.j2 k x z v b i2 h2 room l) (room', l', i', h') ∧ DB room' l' ∧ (0 ≤ i' ∧ i' ≤ 9223372036854775807) := by
        intro v
        obtain ⟨u, i3, h3, e3, p3, _, b3⟩ := l1Below_ok b i2 h2 5 p2 hb
        cases v
        · by_cases c3 : z = 3
          · have hv := diskSync_b room l u hD.2.1 hD.2.2
            have hroom := diskSync_room room l u
            have es := specDiskSync_ev room l u (by have := hD.2.1; omega) (by have := hD.2.2; omega)
            generalize diskSync room l u = U at *
            obtain ⟨u0, u1, u2⟩ := U
            simp only at hv hroom
            by_cases cu : u2 = 1
            · obtain ⟨r', l', i', h', e', D', p'⟩ := ih (x + 1) i3 h3 room l (by omega) (by omega) p3 hD
              refine ⟨r', l', i', h', ?_, D', p'⟩
              refine Ev.step (fun k => by simp only [spec_l3DrawRight.j2, Bool.false_eq_true, ↓reduceIte, c3, e3, Option.bind_some]; rfl) ?_
              refine Ev.bind es ?_
              simp only [cu, ↓reduceIte, hw]; exact e'
            · obtain ⟨r', l', i', h', e', D', p'⟩ := ih (x + 1) i3 h3 u0 u1 (by omega) (by omega) p3 ⟨by have := hD.1; omega, hv⟩
              refine ⟨r', l', i', h', ?_, D', p'⟩
              refine Ev.step (fun k => by simp only [spec_l3DrawRight.j2, Bool.false_eq_true, ↓reduceIte, c3, e3, Option.bind_some]; rfl) ?_
              refine Ev.bind es ?_
              simp only [cu, ↓reduceIte, hw]; exact e'
          · obtain ⟨t, i4, h4, e4, p4, _, b4⟩ := l1Below_ok b i3 h3 8 p3 hb
            have hv := diskMove_b room l u t hD.2.1 hD.2.2
            have hroom := diskMove_room room l u t
            have es := specDiskMove_ev room l u t (by have := hD.2.1; omega) (by have := hD.2.2; omega)
            generalize diskMove room l u t = U at *
            obtain ⟨u0, u1, u2⟩ := U
            simp only at hv hroom
            by_cases cu : u2 = 1
            · obtain ⟨r', l', i', h', e', D', p'⟩ := ih (x + 1) i4 h4 room l (by omega) (by omega) p4 hD
              refine ⟨r', l', i', h', ?_, D', p'⟩
              refine Ev.step (fun k => by simp only [spec_l3DrawRight.j2, Bool.false_eq_true, ↓reduceIte, c3, e3, e4, Option.bind_some]; rfl) ?_
              refine Ev.bind es ?_
              simp only [cu, ↓reduceIte, hw]; exact e'
            · obtain ⟨r', l', i', h', e', D', p'⟩ := ih (x + 1) i4 h4 u0 u1 (by omega) (by omega) p4 ⟨by have := hD.1; omega, hv⟩
              refine ⟨r', l', i', h', ?_, D', p'⟩
              refine Ev.step (fun k => by simp only [spec_l3DrawRight.j2, Bool.false_eq_true, ↓reduceIte, c3, e3, e4, Option.bind_some]; rfl) ?_
              refine Ev.bind es ?_
              simp only [cu, ↓reduceIte, hw]; exact e'
        · obtain ⟨s, i4, h4, e4, hs, p4⟩ := l3DrawText_ok b i3 h3 8 p3 hb (by omega)
          have hv := diskAppend_b room l u s hD.2.1 hD.2.2 (by omega)
          have hroom := diskAppend_room room l u s
          have es := specDiskAppend_ev room l u s (by have := hD.2.1; omega) (by have := hD.2.2; omega) (by omega)
          generalize diskAppend room l u s = U at *
          obtain ⟨u0, u1, u2⟩ := U
          simp only at hv hroom
          by_cases cu : u2 = 1
          · obtain ⟨r', l', i', h', e', D', p'⟩ := ih (x + 1) i4 h4 room l (by omega) (by omega) p4 hD
            refine ⟨r', l', i', h', ?_, D', p'⟩
            refine Ev.step (fun k => by simp only [spec_l3DrawRight.j2, ↓reduceIte, e3, Option.bind_some]; rfl) ?_
            refine Ev.bind e4 ?_
            refine Ev.bind es ?_
            simp only [cu, ↓reduceIte, hw]; exact e'
          · obtain ⟨r', l', i', h', e', D', p'⟩ := ih (x + 1) i4 h4 u0 u1 (by omega) (by omega) p4 ⟨by have := hD.1; omega, hv⟩
            refine ⟨r', l', i', h', ?_, D', p'⟩
            refine Ev.step (fun k => by simp only [spec_l3DrawRight.j2, ↓reduceIte, e3, Option.bind_some]; rfl) ?_
            refine Ev.bind e4 ?_
            refine Ev.bind es ?_
            simp only [cu, ↓reduceIte, hw]; exact e'
      by_cases z0 : z = 0
      · obtain ⟨r', l', i', h', e', D', p'⟩ := key (z == 0)
        refine ⟨r', l', i', h', Ev.step (fun k => ?_) e', D', p'⟩
        simp only [spec_l3DrawRight.l0, e1, e2, Option.bind_some, c, z0, ↓reduceIte]
      · by_cases z1 : z = 1
        · obtain ⟨r', l', i', h', e', D', p'⟩ := key (z == 1)
          refine ⟨r', l', i', h', Ev.step (fun k => ?_) e', D', p'⟩
          simp only [spec_l3DrawRight.l0, e1, e2, Option.bind_some, c, z0, z1, ↓reduceIte, show ¬ ((1 : Int) = 0) by decide]
        · obtain ⟨r', l', i', h', e', D', p'⟩ := key (z == 2)
          refine ⟨r', l', i', h', Ev.step (fun k => ?_) e', D', p'⟩
          simp only [spec_l3DrawRight.l0, e1, e2, Option.bind_some, c, z0, z1, ↓reduceIte]
theorem l3DrawRight_ok (b : List Int) (hb : b.length ≤ 140737488355328) (i h : Int) (hi : 0 ≤ i ∧ i ≤ 9223372036854775807) :
    ∃ room l i' h', Ev (fun k => spec_l3DrawRight.f k b i h) (room, l, i', h') ∧ DB room l ∧ (0 ≤ i' ∧ i' ≤ 9223372036854775807) := by
  obtain ⟨x, i1, h1, e1, p1, _, b1⟩ := l1Below_ok b i h 200 hi hb
  have b1 := b1 (by omega)
  obtain ⟨y, i2, h2, e2, p2⟩ := l1Once_ok b i1 h1 9 p1 hb
  have hz : ∀ room : Int, -9223372036854775808 ≤ room → room ≤ 9223372036854775807 → DB room [] := fun room a c => ⟨⟨a, c⟩, by simp [dsize], by simp⟩
  cases y
  · obtain ⟨r', l', i', h', e', D', p'⟩ := drawRight_l b hb 12 0 i2 h2 (60 + x) [] (by omega) (by omega) p2 (hz _ (by omega) (by omega))
    refine ⟨r', l', i', h', ?_, D', p'⟩
    unfold spec_l3DrawRight.f
    simp only [e1, e2, Option.bind_some, Bool.false_eq_true, ↓reduceIte]
    rw [w64 (x := 60 + x) (by omega) (by omega)]
    exact Ev.step (fun k => by simp only [spec_l3DrawRight.j0]) e'
  · obtain ⟨z, i3, h3, e3, p3, m3⟩ := l1PickInt_ok b i2 h2 [0, 40000, 20] p2 hb (by simp)
    have hzb : 0 ≤ z ∧ z ≤ 40000 := by simp only [List.mem_cons, List.not_mem_nil, or_false] at m3; omega
    obtain ⟨r', l', i', h', e', D', p'⟩ := drawRight_l b hb 12 0 i3 h3 z [] (by omega) (by omega) p3 (hz _ (by omega) (by omega))
    refine ⟨r', l', i', h', ?_, D', p'⟩
    unfold spec_l3DrawRight.f
    simp only [e1, e2, e3, Option.bind_some, ↓reduceIte]
    exact Ev.step (fun k => by simp only [spec_l3DrawRight.j0]) e'
theorem dsize_snoc (x : S81) : ∀ l : List S81, dsize (l ++ [x]) = dsize l + x.f1.size + x.f2.size
  | [] => by simp [dsize]
  | y :: t => by have := dsize_snoc x t; simp only [List.cons_append, dsize, this]; omega
theorem l3DrawDisk_ok (b : List Int) (hb : b.length ≤ 140737488355328) (i h : Int) (hi : 0 ≤ i ∧ i ≤ 9223372036854775807) :
    ∃ room l i' h', Ev (fun k => spec_l3DrawDisk.f k b i h) (room, l, i', h') ∧ ((-9223372036854775808 ≤ room ∧ room ≤ 9223372036854775807) ∧ dsize l ≤ 100000 ∧ l.length ≤ 11) ∧ (0 ≤ i' ∧ i' ≤ 9223372036854775807) := by
  obtain ⟨room, l, i1, h1, e1, D1, p1⟩ := l3DrawRight_ok b hb i h hi
  obtain ⟨x, i2, h2, e2, p2, _, b2⟩ := l1Below_ok b i1 h1 25 p1 hb
  unfold spec_l3DrawDisk.f
  have D1l := D1.2.2
  by_cases x0 : x = 0
  · obtain ⟨z, i3, h3, e3, p3, m3⟩ := l1PickInt_ok b i2 h2 [(-1), 0, 40001, 3] p2 hb (by simp)
    have hzb : -1 ≤ z ∧ z ≤ 40001 := by simp only [List.mem_cons, List.not_mem_nil, or_false] at m3; omega
    refine ⟨z, l, i3, h3, ?_, ⟨by omega, D1.2.1, by omega⟩, p3⟩
    refine Ev.bind e1 ?_
    simp only [e2, e3, Option.bind_some, x0, ↓reduceIte]; exact Ev.now _
  · by_cases x1 : x = 1
    · obtain ⟨z, i3, h3, e3, p3, m3⟩ := l1PickInt_ok b i2 h2 [(-1), 0, 8, 7] p2 hb (by simp)
      refine ⟨room, l ++ [⟨z, (⟨#[]⟩ : ByteArray), (⟨#[]⟩ : ByteArray)⟩], i3, h3, ?_, ⟨D1.1, ?_, by simp; omega⟩, p3⟩
      · refine Ev.bind e1 ?_
        simp only [e2, e3, Option.bind_some, x0, x1, ↓reduceIte, show l.length < 3518437208883 by omega, show ¬ ((1 : Int) = 0) by decide]; exact Ev.now _
      · rw [dsize_snoc]
        have : (⟨#[]⟩ : ByteArray).size = 0 := rfl
        have := D1.2.1
        simp only; omega
    · refine ⟨room, l, i2, h2, ?_, ⟨D1.1, D1.2.1, by omega⟩, p2⟩
      refine Ev.bind e1 ?_
      simp only [e2, Option.bind_some, x0, x1, ↓reduceIte]; exact Ev.now _
theorem mnmx_b (a b : Int) (h : 0 ≤ b) : 0 ≤ mn (mx a 0) b ∧ mn (mx a 0) b ≤ b := by
  unfold mn mx; split <;> split <;> omega
def crashK (ks : List Int) (i : Int) (x : S81) : Nat := if i < (ks.length : Int) then (mn (mx (rd ks i) 0) (x.f2.size : Int)).toNat else 0
def crashF (ks : List Int) (i : Int) (x : S81) : S81 := ⟨x.f0, x.f1 ++ x.f2.extract 0 (crashK ks i x), (⟨#[]⟩ : ByteArray)⟩
def crash (ks : List Int) : List S81 → Int → List S81
  | [], _ => []
  | x :: t, i => crashF ks i x :: crash ks t (i + 1)
theorem crash_length (ks : List Int) : ∀ (l : List S81) (i : Int), (crash ks l i).length = l.length
  | [], _ => rfl
  | x :: t, i => by rw [crash, List.length_cons, List.length_cons, crash_length ks t]
theorem ext_le (s : ByteArray) (n : Nat) : (s.extract 0 n).size ≤ s.size := by rw [ByteArray.size_extract]; omega
theorem implCrash_l (ks : List Int) (F : List S81) (hF : F.length ≤ 140737488355328) (rm : Int) (rest : List S81) : ∀ (P acc : List S81), F = P ++ rest → acc.length = P.length → (∀ x ∈ rest, (x.f1.size : Int) + x.f2.size ≤ 1152921504606846976) → Ev (fun k => impl_DiskCrash.l0 k ks F (F.length : Int) (P.length : Int) rm (acc ++ rest)) (rm, acc ++ crash ks rest (P.length : Int)) := by
  induction rest with
  | nil =>
    intro P acc hPF ha hx
    refine Ev.step (f := fun _ => some (rm, acc)) (fun k => ?_) ?_
    · simp only [impl_DiskCrash.l0]
      rw [if_neg (by rw [hPF]; simp)]; simp
    · simp [crash]; exact Ev.now _
  | cons x t ih =>
    intro P acc hPF ha hx
    have hs := hx x (by simp)
    have el : (F.length : Int) = P.length + t.length + 1 := by rw [hPF]; simp; omega
    have hr : rd_T81 F (P.length : Int) = x := by rw [hPF]; exact rdF_mid P x t
    have hw1 : wrap64 ((P.length : Int) + 1) = ((P ++ [x]).length : Int) := by rw [w64 (by omega) (by omega)]; simp
    have ep : ((P ++ [x]).length : Int) = P.length + 1 := by simp
    have h := ih (P ++ [x]) (acc ++ [crashF ks (P.length : Int) x]) (by rw [hPF]; simp) (by simp [ha]) (fun y hy => hx y (by simp [hy]))
    have er : acc ++ crash ks (x :: t) (P.length : Int) = acc ++ [crashF ks (P.length : Int) x] ++ crash ks t ((P ++ [x]).length : Int) := by rw [ep]; simp [crash]
    have es : ∀ y : S81, (acc ++ x :: t).set (P.length : Int).toNat y = acc ++ [y] ++ t := fun y => by rw [Int.toNat_natCast, ← ha]; simp
    have hla : (P.length : Int) < ((acc ++ x :: t).length : Int) := by simp; omega
    rw [er]
    refine Ev.step (fun k => ?_) h
    simp only [impl_DiskCrash.l0]
    rw [if_pos (by omega), if_pos (by omega), if_pos (by omega), hr]
    by_cases c : (P.length : Int) < (ks.length : Int)
    · have hm := mnmx_b (rd ks (P.length : Int)) (x.f2.size : Int) (by omega)
      have he := ext_le x.f2 (mn (mx (rd ks (P.length : Int)) 0) (x.f2.size : Int)).toNat
      have ef : crashF ks (P.length : Int) x = ⟨x.f0, x.f1 ++ x.f2.extract 0 (mn (mx (rd ks (P.length : Int)) 0) (x.f2.size : Int)).toNat, (⟨#[]⟩ : ByteArray)⟩ := by unfold crashF crashK; rw [if_pos c]
      rw [if_pos c, if_pos hm.1, if_pos hm.2, if_pos (by omega), if_pos hla, hw1, es, ef]
    · have he := ext_le x.f2 0
      have ef : crashF ks (P.length : Int) x = ⟨x.f0, x.f1, (⟨#[]⟩ : ByteArray)⟩ := by unfold crashF crashK; rw [if_neg c]; simp
      rw [if_neg c, if_pos (by omega), if_pos (by omega), if_pos (by omega), if_pos hla, hw1, es, ef]
def diskCrash (room : Int) (l : List S81) (ks : List Int) : Int × List S81 := if (diskOk room l && decide (¬ (ks.length : Int) > 8)) = true then (room, crash ks l 0) else (0, [])
theorem mem_size {l : List S81} (h1 : dsize l ≤ 1152921504606846976) : ∀ x ∈ l, (x.f1.size : Int) + x.f2.size ≤ 1152921504606846976 := fun x hx => by
  have := dsize_mem hx; omega
theorem implDiskCrash_ev (room : Int) (l : List S81) (ks : List Int) (h1 : dsize l ≤ 1152921504606846976) (hl : l.length ≤ 3518437208878) : Ev (fun k => impl_DiskCrash.f k room l ks) (diskCrash room l ks) := by
  unfold impl_DiskCrash.f diskCrash
  refine Ev.bind (implDiskOk_ev room l h1 (by omega)) ?_
  have hj : Ev (fun k => impl_DiskCrash.j0 k ks true room l) (0, []) := by
    refine Ev.step (f := fun _ => some (0, [])) (fun k => ?_) (Ev.now _)
    simp only [impl_DiskCrash.j0, ↓reduceIte]
  cases h : diskOk room l
  · simp only [Bool.false_eq_true, ↓reduceIte, Bool.false_and]; exact hj
  · simp only [↓reduceIte, Bool.true_and]
    by_cases c : (ks.length : Int) > 8
    · simp only [c, decide_true, not_true, decide_false, Bool.false_eq_true, ↓reduceIte]; exact hj
    · simp only [c, decide_false, not_false_eq_true, decide_true, ↓reduceIte]
      refine Ev.step (f := fun k => impl_DiskCrash.l0 k ks l (l.length : Int) 0 room l) (fun k => ?_) ?_
      · simp only [impl_DiskCrash.j0, copyDisk_eq room l hl, Option.bind_some]; rfl
      · exact implCrash_l ks l (by omega) room l [] [] rfl rfl (mem_size h1)

def diskRead (room : Int) (l : List S81) (nm : Int) : ByteArray × Bool := if diskOk room l = true then (if idxName l nm 0 < 0 then ((⟨#[]⟩ : ByteArray), false) else (((rd_T81 l (idxName l nm 0)).f1) ++ ((rd_T81 l (idxName l nm 0)).f2), true)) else ((⟨#[]⟩ : ByteArray), false)
theorem diskRead_tail (room : Int) (l : List S81) (nm : Int) (h1 : dsize l ≤ 1152921504606846976) : (if diskOk room l = true then (if idxName l nm 0 < 0 then (some ((⟨#[]⟩ : ByteArray), false)) else (if 0 ≤ idxName l nm 0 then (if idxName l nm 0 < (l.length : Int) then (if ((rd_T81 l (idxName l nm 0)).f1).size + ((rd_T81 l (idxName l nm 0)).f2).size ≤ 9223372036854775807 then (some (((rd_T81 l (idxName l nm 0)).f1) ++ ((rd_T81 l (idxName l nm 0)).f2), true)) else (none)) else (none)) else (none))) else (some ((⟨#[]⟩ : ByteArray), false))) = some (diskRead room l nm) := by
  unfold diskRead
  split
  · split
    · rfl
    · rename_i h
      have hb := idx_b nm l 0 (by omega)
      have hm := dsize_mem (rdF_mem l (idxName l nm 0) (by omega) (by omega))
      rw [if_pos (by omega), if_pos (by omega), if_pos (by omega)]
  · rfl

theorem implDiskRead_ev (room : Int) (l : List S81) (nm : Int) (h1 : dsize l ≤ 1152921504606846976) (hl : l.length ≤ 140737488355328) : Ev (fun k => impl_DiskRead.f k room l nm) (diskRead room l nm) := by
  unfold impl_DiskRead.f impl_fileAt.f
  simp only [Option.bind_some]
  refine Ev.bind (implDiskOk_ev room l h1 hl) ?_
  rw [diskRead_tail room l nm h1]
  exact Ev.now _

def diskSize (room : Int) (l : List S81) : Int := if diskOk room l = true then dsize l else -1
theorem implDiskSize_ev (room : Int) (l : List S81) (h1 : dsize l ≤ 1152921504606846976) (hl : l.length ≤ 140737488355328) : Ev (fun k => impl_DiskSize.f k room l) (diskSize room l) := by
  unfold impl_DiskSize.f diskSize
  refine Ev.bind (implDiskOk_ev room l h1 hl) ?_
  cases diskOk room l
  · simp only [Bool.false_eq_true, ↓reduceIte]; exact Ev.now _
  · simp only [↓reduceIte]
    refine Ev.congr (fun k => ?_) (sizeOf_ev room l h1 hl)
    first | rfl | (cases impl_sizeOf.f k room l <;> rfl)

theorem asc_names : ∀ (l l' : List S81) (lo : Int), l.map (·.f0) = l'.map (·.f0) → asc lo l = asc lo l'
  | [], [], lo, _ => rfl
  | [], y :: t, lo, h => by simp at h
  | x :: s, [], lo, h => by simp at h
  | x :: s, y :: t, lo, h => by
    simp only [List.map_cons, List.cons.injEq] at h
    simp only [asc, h.1, asc_names s t _ h.2]
theorem rdF_get (l : List S81) (i : Nat) (x : S81) (h : l[i]? = some x) : rd_T81 l (i : Int) = x := by
  unfold rd_T81
  simp [List.getD_eq_getElem?_getD, h]
theorem set_names (l : List S81) (i : Nat) (f x : S81) (h : l[i]? = some x) (e : f.f0 = x.f0) : (l.set i f).map (·.f0) = l.map (·.f0) := by
  have hlt : i < l.length := by
    rcases Nat.lt_or_ge i l.length with h1 | h1
    · exact h1
    · rw [List.getElem?_eq_none h1] at h; cases h
  rw [List.map_set]
  apply List.ext_getElem? 
  intro j
  rw [List.getElem?_set]
  split
  · rename_i c
    subst c
    rw [List.length_map, if_pos hlt, List.getElem?_map, h]
    simp [e]
  · rfl
theorem dsize_set_eq : ∀ (l : List S81) (i : Nat) (f x : S81), l[i]? = some x → dsize (l.set i f) + (x.f1.size + x.f2.size) = dsize l + (f.f1.size + f.f2.size)
  | [], i, f, x, h => by simp at h
  | y :: t, 0, f, x, h => by
    simp at h; subst h
    simp only [List.set_cons_zero, dsize]; omega
  | y :: t, i + 1, f, x, h => by
    have := dsize_set_eq t i f x (by simpa using h)
    simp only [List.set_cons_succ, dsize]; omega
theorem app_nil (s : ByteArray) : s ++ (⟨#[]⟩ : ByteArray) = s := by
  apply ByteArray.ext
  simp [ByteArray.data_append]
theorem crash_names (ks : List Int) : ∀ (l : List S81) (i : Int), (crash ks l i).map (·.f0) = l.map (·.f0)
  | [], _ => rfl
  | x :: t, i => by simp only [crash, List.map_cons, crash_names ks t]; rfl
theorem crash_get (ks : List Int) : ∀ (l : List S81) (i : Int) (j : Nat), (crash ks l i)[j]? = (l[j]?).map (crashF ks (i + j))
  | [], i, j => by simp [crash]
  | x :: t, i, 0 => by simp [crash]
  | x :: t, i, j + 1 => by
    simp only [crash, List.getElem?_cons_succ, crash_get ks t (i + 1) j]
    congr 2
    omega
theorem crashF_size (ks : List Int) (i : Int) (x : S81) : ((crashF ks i x).f1.size : Int) + (crashF ks i x).f2.size ≤ x.f1.size + x.f2.size := by
  have h := ext_le x.f2 (crashK ks i x)
  have hz : (⟨#[]⟩ : ByteArray).size = 0 := rfl
  simp only [crashF, ByteArray.size_append, hz]; omega
theorem dsize_crash (ks : List Int) : ∀ (l : List S81) (i : Int), dsize (crash ks l i) ≤ dsize l
  | [], _ => by simp [crash]
  | x :: t, i => by
    have h1 := dsize_crash ks t (i + 1)
    have h2 := crashF_size ks i x
    simp only [crash, dsize]; omega
theorem crash_ok (ks : List Int) (room : Int) (l : List S81) (h : diskOk room l = true) : diskOk room (crash ks l 0) = true := by
  have hd := dsize_crash ks l 0
  unfold diskOk at h ⊢
  rw [asc_names _ _ 0 (crash_names ks l 0)]
  simp only [Bool.and_eq_true, decide_eq_true_eq] at h ⊢
  exact ⟨h.1, h.2.1, by omega⟩
theorem idx_asc : ∀ (l : List S81) (lo i : Int) (j : Nat) (x : S81), asc lo l = true → l[j]? = some x → idxName l x.f0 i = i + j
  | [], lo, i, j, x, h, hx => by simp at hx
  | y :: t, lo, i, 0, x, h, hx => by
    simp at hx; subst hx
    simp [idxName]
  | y :: t, lo, i, j + 1, x, h, hx => by
    simp only [asc, Bool.and_eq_true, decide_eq_true_eq] at h
    have hx' : t[j]? = some x := by simpa using hx
    have hg := asc_gt t (y.f0 + 1) x h.2 (List.mem_of_getElem? hx')
    simp only [idxName]
    rw [if_neg (by omega), idx_asc t (y.f0 + 1) (i + 1) j x h.2 hx']
    omega
theorem read_at (room : Int) (l : List S81) (j : Nat) (x : S81) (h : diskOk room l = true) (hx : l[j]? = some x) : diskRead room l x.f0 = (x.f1 ++ x.f2, true) := by
  have hi := idx_asc l 0 0 j x (diskOk_asc h) hx
  rw [Int.zero_add] at hi
  unfold diskRead
  rw [if_pos h, hi, if_neg (by omega), rdF_get l j x hx]
theorem crash_read (ks : List Int) (room : Int) (l : List S81) (j : Nat) (x : S81) (h : diskOk room l = true) (hx : l[j]? = some x) : diskRead room (crash ks l 0) x.f0 = (x.f1 ++ x.f2.extract 0 (crashK ks (j : Int) x), true) := by
  have hc : (crash ks l 0)[j]? = some (crashF ks (j : Int) x) := by rw [crash_get, hx]; simp
  have := read_at room (crash ks l 0) j _ (crash_ok ks room l h) hc
  rw [show (crashF ks (j : Int) x).f0 = x.f0 from rfl] at this
  rw [this]
  simp only [crashF, app_nil]
theorem ext_app (a b : ByteArray) (k : Nat) : (a ++ b).extract 0 (a ++ b.extract 0 k).size = a ++ b.extract 0 k := by
  apply ByteArray.ext
  apply Array.toList_inj.1
  have h1 : (a ++ b.extract 0 k).size = a.size + min k b.size := by rw [ByteArray.size_append, ByteArray.size_extract]; omega
  have ha : a.data.toList.length = a.size := by rw [Array.length_toList]; rfl
  have hb : b.data.toList.length = b.size := by rw [Array.length_toList]; rfl
  rw [h1]
  simp only [ByteArray.data_extract, ByteArray.data_append, Array.toList_extract, Array.toList_append, List.extract_eq_take_drop, List.drop_zero, Nat.sub_zero, Nat.zero_add]
  rw [List.take_append, List.take_of_length_le (by omega)]
  congr 1
  rw [ha, Nat.add_sub_cancel_left]
  rcases Nat.le_total k b.size with c | c
  · rw [Nat.min_eq_left c]
  · rw [Nat.min_eq_right c, List.take_of_length_le (by omega), List.take_of_length_le (by omega)]
theorem syncF_at (l : List S81) (j : Nat) (x : S81) (h : asc 0 l = true) (hx : l[j]? = some x) : idxName l x.f0 0 = (j : Int) ∧ syncF l x.f0 = ⟨x.f0, x.f1 ++ x.f2, (⟨#[]⟩ : ByteArray)⟩ := by
  have hi := idx_asc l 0 0 j x h hx
  rw [Int.zero_add] at hi
  refine ⟨hi, ?_⟩
  unfold syncF
  rw [hi, rdF_get l j x hx]
theorem set_ok (room : Int) (l : List S81) (j : Nat) (x : S81) (h : diskOk room l = true) (hx : l[j]? = some x) : diskOk room (l.set j ⟨x.f0, x.f1 ++ x.f2, (⟨#[]⟩ : ByteArray)⟩) = true := by
  have hn := set_names l j ⟨x.f0, x.f1 ++ x.f2, (⟨#[]⟩ : ByteArray)⟩ x hx rfl
  have hd := dsize_set_eq l j ⟨x.f0, x.f1 ++ x.f2, (⟨#[]⟩ : ByteArray)⟩ x hx
  have hz : (⟨#[]⟩ : ByteArray).size = 0 := rfl
  unfold diskOk at h ⊢
  rw [asc_names _ _ 0 hn]
  simp only [Bool.and_eq_true, decide_eq_true_eq] at h ⊢
  simp only [ByteArray.size_append, hz] at hd
  exact ⟨h.1, h.2.1, by omega⟩

theorem crashDraw_l (b : List Int) (hb : b.length ≤ 140737488355328) (room : Int) (f : List S81) (d : Nat) : ∀ (x i h : Int) (ks : List Int), 0 ≤ x → x + d = 7 → (0 ≤ i ∧ i ≤ 9223372036854775807) → ks.length ≤ x →
    ∃ ks', Ev (fun k => spec_DrawDiskCrash.l0 k ks x b i h room f) (room, f, ks') ∧ ks'.length ≤ 9 := by
  have fin : ∀ (x i h : Int) (ks : List Int) (y i1 h1 : Int), (0 ≤ i1 ∧ i1 ≤ 9223372036854775807) → spec_l1Below.f b i h 7 = some (y, i1, h1) → ¬ x < y → ks.length ≤ 7 →
      ∃ ks', Ev (fun k => spec_DrawDiskCrash.l0 k ks x b i h room f) (room, f, ks') ∧ ks'.length ≤ 9 := by
    intro x i h ks y i1 h1 p1 e1 c hk
    obtain ⟨o, i2, h2, e2, p2⟩ := l1Once_ok b i1 h1 20 p1 hb
    cases o
    · refine ⟨ks, ?_, by omega⟩
      refine Ev.step (f := fun _ => some (room, f, ks)) (fun k => ?_) (Ev.now _)
      simp only [spec_DrawDiskCrash.l0, e1, e2, Option.bind_some, c, Bool.false_eq_true, ↓reduceIte]
    · obtain ⟨z, i3, h3, e3, p3, _, b3⟩ := l1Below_ok b i2 h2 2 p2 hb
      have b3 := b3 (by omega)
      have hw : wrap64 (8 + z) = 8 + z := w64 (by omega) (by omega)
      refine ⟨List.replicate (8 + z).toNat 0, ?_, by simp; omega⟩
      refine Ev.step (f := fun _ => some (room, f, List.replicate (8 + z).toNat 0)) (fun k => ?_) (Ev.now _)
      simp only [spec_DrawDiskCrash.l0, e1, e2, e3, Option.bind_some, c, ↓reduceIte, hw, show 0 ≤ 8 + z by omega, show (8 + z).toNat ≤ 35184372088832 by omega]
  induction d with
  | zero =>
    intro x i h ks hx hd hi hk
    obtain ⟨y, i1, h1, e1, p1, _, b1⟩ := l1Below_ok b i h 7 hi hb
    have b1 := b1 (by omega)
    exact fin x i h ks y i1 h1 p1 e1 (by omega) (by omega)
  | succ d ih =>
    intro x i h ks hx hd hi hk
    obtain ⟨y, i1, h1, e1, p1, _, b1⟩ := l1Below_ok b i h 7 hi hb
    by_cases c : x < y
    · obtain ⟨z, i2, h2, e2, p2, _, b2⟩ := l1Below_ok b i1 h1 14 p1 hb
      obtain ⟨ks', e', l'⟩ := ih (x + 1) i2 h2 (ks ++ [wrap64 (z - 1)]) (by omega) (by omega) p2 (by simp; omega)
      refine ⟨ks', Ev.step (fun k => ?_) e', l'⟩
      simp only [spec_DrawDiskCrash.l0, e1, e2, Option.bind_some, c, ↓reduceIte, show ks.length < 17592186044416 by omega, show wrap64 (x + 1) = x + 1 from w64 (by omega) (by omega)]
    · exact fin x i h ks y i1 h1 p1 e1 c (by omega)
theorem drawDiskCrash_ok (l : List Int) (hl : l.length ≤ 140737488355328) : ∃ room f ks, Ev (fun k => spec_DrawDiskCrash.f k l) (room, f, ks) ∧ dsize f ≤ 100000 ∧ f.length ≤ 11 ∧ ks.length ≤ 9 := by
  obtain ⟨h, e1⟩ := l1New_ev l hl
  obtain ⟨room, f, i2, h2, e2, D2, p2⟩ := l3DrawDisk_ok l hl 0 h (by omega)
  obtain ⟨ks, e3, hk⟩ := crashDraw_l l hl room f 7 0 i2 h2 [] (by omega) (by omega) p2 (by simp)
  refine ⟨room, f, ks, ?_, D2.2.1, D2.2.2, hk⟩
  unfold spec_DrawDiskCrash.f
  exact Ev.bind e1 (Ev.bind e2 e3)
theorem disk_l (ks : List Int) (hks : ks.length ≤ 8) (room : Int) (f : List S81) (hok : diskOk room f = true) (d : Nat) :
    ∀ i : Nat, i + d = f.length → Ev (fun k => laws_FnDisk.l0 k ks (i : Int) room f room (crash ks f 0)) true := by
  have hbk := diskOk_b hok
  have hn := dsize_nn f
  have hdc := dsize_crash ks f 0
  have hlc := crash_length ks f 0
  induction d with
  | zero =>
    intro i hi
    refine Ev.step (fun k => by simp only [laws_FnDisk.l0]; rw [if_neg (by omega)]) ?_
    refine Ev.bind (implDiskOk_ev room (crash ks f 0) (by omega) (by omega)) ?_
    rw [crash_ok ks room f hok]
    simp only [↓reduceIte]
    refine Ev.bind (implDiskSize_ev room (crash ks f 0) (by omega) (by omega)) ?_
    refine Ev.bind (implDiskSize_ev room f (by omega) (by omega)) ?_
    unfold diskSize
    rw [crash_ok ks room f hok, hok, hlc]
    simp only [↓reduceIte, hdc, beq_self_eq_true]
    exact Ev.now _
  | succ d ih =>
    intro i hi
    have h := ih (i + 1) (by omega)
    have hw : wrap64 ((i : Int) + 1) = ((i + 1 : Nat) : Int) := by rw [w64 (by omega) (by omega)]; omega
    have hlt : i < f.length := by omega
    have hx : f[i]? = some (rd_T81 f (i : Int)) := by unfold rd_T81; simp [List.getD_eq_getElem?_getD, hlt]
    have hm := dsize_mem (List.mem_of_getElem? hx)
    obtain ⟨s1, s2⟩ := syncF_at f i _ (diskOk_asc hok) hx
    have r1 := crash_read ks room f i _ hok hx
    have k2 := set_ok room f i _ hok hx
    have ey := ext_app (rd_T81 f (i : Int)).f1 (rd_T81 f (i : Int)).f2 (crashK ks (i : Int) (rd_T81 f (i : Int)))
    have hnm : inr (rd_T81 f (i : Int)).f0 0 7 = true := by
      have ha := diskOk_asc hok
      have g0 := asc_gt f 0 _ ha (List.mem_of_getElem? hx)
      have g1 : ∀ (l : List S81) (lo : Int) (z : S81), asc lo l = true → z ∈ l → z.f0 ≤ 7 := by
        intro l
        induction l with
        | nil => intro lo z _ hz; simp at hz
        | cons y t iht =>
          intro lo z hl hz
          simp only [asc, Bool.and_eq_true, decide_eq_true_eq] at hl
          rcases List.mem_cons.1 hz with rfl | hz
          · exact hl.1.2
          · exact iht _ z hl.2 hz
      exact decide_eq_true ⟨g0, g1 f 0 _ ha (List.mem_of_getElem? hx)⟩
    generalize hX : rd_T81 f (i : Int) = X at *
    have eD := implDiskRead_ev room (crash ks f 0) X.f0 (by omega) (by omega)
    rw [r1] at eD
    have eS := implDiskSync_ev room f X.f0 (by omega) (by omega)
    have hS : diskSync room f X.f0 = (room, f.set i ⟨X.f0, X.f1 ++ X.f2, (⟨#[]⟩ : ByteArray)⟩, 0) := by
      unfold diskSync
      rw [hok, hnm, s1, s2]
      simp only [Bool.and_self, ↓reduceIte, show ¬ ((i : Int) < 0) by omega, Int.toNat_natCast]
    rw [hS] at eS
    have hg : (f.set i ⟨X.f0, X.f1 ++ X.f2, (⟨#[]⟩ : ByteArray)⟩)[i]? = some ⟨X.f0, X.f1 ++ X.f2, (⟨#[]⟩ : ByteArray)⟩ := by rw [List.getElem?_set, if_pos rfl, if_pos hlt]
    have r2 := crash_read ks room _ i _ k2 hg
    have hbk2 := diskOk_b k2
    have eC := implDiskCrash_ev room (f.set i ⟨X.f0, X.f1 ++ X.f2, (⟨#[]⟩ : ByteArray)⟩) ks (by omega) (by omega)
    have hC : diskCrash room (f.set i ⟨X.f0, X.f1 ++ X.f2, (⟨#[]⟩ : ByteArray)⟩) ks = (room, crash ks (f.set i ⟨X.f0, X.f1 ++ X.f2, (⟨#[]⟩ : ByteArray)⟩) 0) := by
      unfold diskCrash; rw [if_pos (by rw [k2]; simp; omega)]
    rw [hC] at eC
    have hd2 := dsize_crash ks (f.set i ⟨X.f0, X.f1 ++ X.f2, (⟨#[]⟩ : ByteArray)⟩) 0
    have hl2 := crash_length ks (f.set i ⟨X.f0, X.f1 ++ X.f2, (⟨#[]⟩ : ByteArray)⟩) 0
    have eR := implDiskRead_ev room (crash ks (f.set i ⟨X.f0, X.f1 ++ X.f2, (⟨#[]⟩ : ByteArray)⟩) 0) X.f0 (by omega) (by omega)
    rw [r2] at eR
    have en : ∀ n : Nat, (⟨#[]⟩ : ByteArray).extract 0 n = (⟨#[]⟩ : ByteArray) := fun n => by apply ByteArray.ext; simp [ByteArray.data_extract]
    simp only [en, app_nil] at eR
    have hsz1 : ((X.f1 ++ X.f2.extract 0 (crashK ks (i : Int) X)).size : Int) = X.f1.size + (X.f2.extract 0 (crashK ks (i : Int) X)).size := by rw [ByteArray.size_append]; omega
    have hsz2 : ((X.f1 ++ X.f2).size : Int) = X.f1.size + X.f2.size := by rw [ByteArray.size_append]; omega
    have hel := ext_le X.f2 (crashK ks (i : Int) X)
    generalize hY : X.f1 ++ X.f2.extract 0 (crashK ks (i : Int) X) = Y at *
    refine Ev.step (fun k => by simp only [laws_FnDisk.l0]; rw [if_pos (by omega)]) ?_
    refine Ev.step (fun k => by simp only [laws_FnDisk.j4]; rw [if_pos (by omega), if_pos (by omega), hX]) ?_
    refine Ev.bind eD ?_
    simp only [show X.f1.size + X.f2.size ≤ 9223372036854775807 by omega, ↓reduceIte, show ¬ ((Y.size : Int) < (X.f1.size : Int)) by omega, show ¬ ((Y.size : Int) > ((X.f1 ++ X.f2).size : Int)) by omega, show 0 ≤ (Y.size : Int) by omega, show (Y.size : Int) ≤ ((X.f1 ++ X.f2).size : Int) by omega, Int.toNat_natCast, ey, bne_self_eq_false]
    refine Ev.step (fun k => by simp only [laws_FnDisk.j5, Bool.false_eq_true, ↓reduceIte]; rfl) ?_
    refine Ev.step (fun k => by simp only [laws_FnDisk.j6]; rfl) ?_
    refine Ev.bind eS ?_
    refine Ev.bind eC ?_
    refine Ev.bind eR ?_
    simp only [↓reduceIte, hw]
    exact h
theorem FnDisk : laws_FnDisk.Pure := by
  intro l hm hl hw
  apply Ev.rounds
  unfold laws_FnDisk.f laws_big.f
  simp only [Option.bind_some]
  by_cases h : (l.length : Int) > 1048576
  · simp only [h, decide_true, ↓reduceIte]; exact Ev.now _
  · simp only [h, decide_false, Bool.false_eq_true, ↓reduceIte]
    obtain ⟨room, f, ks, e1, hs, hf, hk⟩ := drawDiskCrash_ok l (by omega)
    refine Ev.step (fun k => by simp only [laws_FnDisk.j0]; rfl) ?_
    refine Ev.bind e1 ?_
    have eC := implDiskCrash_ev room f ks (by omega) (by omega)
    have eO := specDiskOk_ev room f (by omega) (by omega)
    refine Ev.bind eC ?_
    refine Ev.bind eO ?_
    cases hok : diskOk room f
    · have hC : diskCrash room f ks = (0, []) := by unfold diskCrash; simp [hok]
      rw [hC]
      simp only [Bool.false_eq_true, ↓reduceIte]
      exact Ev.step (f := fun _ => some true) (fun k => by simp only [laws_FnDisk.j1, ↓reduceIte]; rfl) (Ev.now _)
    · simp only [↓reduceIte]
      by_cases c : (ks.length : Int) > 8
      · have hC : diskCrash room f ks = (0, []) := by unfold diskCrash; simp [hok]; omega
        rw [hC]
        simp only [c, decide_true]
        exact Ev.step (f := fun _ => some true) (fun k => by simp only [laws_FnDisk.j1, ↓reduceIte]; rfl) (Ev.now _)
      · have hC : diskCrash room f ks = (room, crash ks f 0) := by unfold diskCrash; simp [hok]; omega
        rw [hC]
        simp only [c, decide_false]
        refine Ev.step (fun k => by simp only [laws_FnDisk.j1, Bool.false_eq_true, ↓reduceIte]; rfl) ?_
        refine Ev.step (fun k => by simp only [laws_FnDisk.j2]; rfl) ?_
        exact disk_l ks (by omega) room f hok f.length 0 (by omega)

end Go.Proofs.Ytkfoojknjmgjdaa.Pure
