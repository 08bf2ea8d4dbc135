/- FnFiles holds of all bytes: what is appended to a file of a drawn disk stands behind what it had, cut there again it is what it was, and moved it has the other name. -/
import Derived.Test.YtnjpfllmcmomoaaQFnFilesx10
namespace Go.Proofs.Ytnjpfllmcmomoaa.Pure
open Go.RowKit Go.Proofs.Ytnjpfllmcmomoaa.QFnFiles Go.Proofs.YtnjpfllmcmomoaaW.PrintWords Go.Proofs.YtnjpfllmcmomoaaW.PrintLast
set_option linter.unusedVariables false
set_option linter.unusedSimpArgs false
theorem w64 {x : Int} (h0 : -9223372036854775808 ≤ x) (h1 : x ≤ 9223372036854775807) : wrap64 x = x := by
  unfold wrap64; omega
def By (l : List Int) : Prop := ∀ x ∈ l, 0 ≤ x ∧ x ≤ 255
theorem wraps_i64 (n : Int) (h₀ : 0 ≤ n) (h₁ : n < 2 ^ 63) : IntKind.i64.wrap n = n := by rw [IntKind.wrap_i64]; omega
def inr (a b c : Int) : Bool := decide (b ≤ a ∧ a ≤ c)
theorem rdF_mid (P : List S134) (x : S134) (t : List S134) : rd_T134 (P ++ x :: t) (P.length : Int) = x := by
  unfold rd_T134; simp
theorem rdF_last (P : List S134) (y : S134) (t : List S134) : rd_T134 (P ++ [y] ++ t) (((P ++ [y]).length : Int) - 1) = y := by
  unfold rd_T134
  have : (((P ++ [y]).length : Int) - 1).toNat = P.length := by simp
  rw [this]; simp
def dsize : List S134 → Int
  | [] => 0
  | x :: t => x.f1.size + x.f2.size + dsize t
theorem dsize_nn : ∀ l : List S134, 0 ≤ dsize l
  | [] => by simp [dsize]
  | x :: t => by have := dsize_nn t; simp only [dsize]; omega
theorem dsize_mem {l : List S134} {x : S134} (h : x ∈ l) : (x.f1.size : Int) + x.f2.size ≤ dsize l := by
  induction l with
  | nil => simp at h
  | cons y t ih =>
    have hn := dsize_nn t
    simp only [dsize]
    rcases List.mem_cons.1 h with rfl | h
    · omega
    · have := ih h; omega
def asc : Int → List S134 → Bool
  | _, [] => true
  | lo, x :: t => decide (lo ≤ x.f0 ∧ x.f0 ≤ 7) && asc (x.f0 + 1) t
theorem asc_len : ∀ (l : List S134) (lo : Int), lo ≤ 8 → asc lo l = true → (l.length : Int) ≤ 8 - lo
  | [], lo, h, _ => by simp; omega
  | x :: t, lo, h, ha => by
    simp only [asc, Bool.and_eq_true, decide_eq_true_eq] at ha
    have := asc_len t (x.f0 + 1) (by omega) ha.2
    simp only [List.length_cons]; omega
def diskOk (room : Int) (l : List S134) : Bool := asc 0 l && (inr room 0 40000 && decide (dsize l ≤ room))

theorem l3Size_l (rest : List S134) : ∀ (P : List S134) (n room : Int), 0 ≤ n → n + dsize rest ≤ 1152921504606846976 → P.length + rest.length ≤ 140737488355328 → Ev (fun k => spec_l3Size.l0 k n (P.length : Int) room (P ++ rest)) (n + dsize rest) := by
  induction rest with
  | nil =>
    intro P n room h0 h1 hl
    refine Ev.step (f := fun _ => some n) (fun k => ?_) ?_
    · simp only [spec_l3Size.l0]
      rw [if_neg (by simp)]
    · simp only [dsize, Int.add_zero]; exact Ev.now _
  | cons x t ih =>
    intro P n room h0 h1 hl
    simp only [List.length_cons] at hl
    have hn := dsize_nn t
    simp only [dsize] at h1
    have h := ih (P ++ [x]) (n + x.f1.size + x.f2.size) room (by omega) (by omega) (by simp; omega)
    have e : n + dsize (x :: t) = n + x.f1.size + x.f2.size + dsize t := by simp only [dsize]; omega
    rw [e]
    refine Ev.step (fun k => ?_) h
    simp only [spec_l3Size.l0]
    rw [if_pos (by simp; omega), if_pos (by omega), rdF_mid, w64 (x := n + x.f1.size) (by omega) (by omega), w64 (by omega) (by omega), w64 (by omega) (by omega)]
    simp
theorem l3Size_ev (room : Int) (l : List S134) (h1 : dsize l ≤ 1152921504606846976) (hl : l.length ≤ 140737488355328) : Ev (fun k => spec_l3Size.f k room l) (dsize l) := by
  have h := l3Size_l l [] 0 room (by omega) (by omega) (by simpa using hl)
  simpa [spec_l3Size.f] using h

theorem l1In_eq (a b c : Int) : spec_l1In.f a b c = some (inr a b c) := by
  unfold spec_l1In.f inr
  by_cases h : a ≥ b
  · rw [if_pos h]; congr 1; by_cases h2 : a ≤ c <;> simp [h, h2]
  · rw [if_neg h]; congr 1; simp; omega

theorem l3Name_eq (a : Int) : spec_l3Name.f a = some (inr a 0 7) := by unfold spec_l3Name.f; rw [l1In_eq]; rfl
theorem specDiskOk_l (rest : List S134) : ∀ (P : List S134) (lo room : Int), 0 ≤ lo → (P = [] ∧ lo = 0 ∨ ∃ P' y, P = P' ++ [y] ∧ lo = y.f0 + 1) → P.length + rest.length ≤ 140737488355328 → Ev (fun k => spec_DiskOk.l0 k (P.length : Int) room (P ++ rest)) (asc lo rest) := by
  induction rest with
  | nil =>
    intro P lo room h0 hP hl
    refine Ev.step (f := fun _ => some true) (fun k => ?_) (Ev.now _)
    simp only [spec_DiskOk.l0]
    rw [if_neg (by simp)]
  | cons x t ih =>
    intro P lo room h0 hP hl
    simp only [List.length_cons] at hl
    have el : ((P ++ x :: t).length : Int) = P.length + t.length + 1 := by simp; omega
    have hw1 : wrap64 ((P.length : Int) + 1) = ((P ++ [x]).length : Int) := by rw [w64 (by omega) (by omega)]; simp
    by_cases c1 : 0 ≤ x.f0 ∧ x.f0 ≤ 7
    · have i1 : inr x.f0 0 7 = true := decide_eq_true c1
      by_cases c2 : lo ≤ x.f0
      · have h := ih (P ++ [x]) (x.f0 + 1) room (by omega) (.inr ⟨P, x, rfl, rfl⟩) (by simp; omega)
        refine Ev.step (f := fun k => spec_DiskOk.l0 k ((P ++ [x]).length : Int) room ((P ++ [x]) ++ t)) (fun k => ?_) ?_
        · simp only [spec_DiskOk.l0, l3Name_eq, Option.bind_some]
          rw [if_pos (by omega), if_pos (by omega), rdF_mid, i1, if_pos rfl]
          have ea : P ++ x :: t = P ++ [x] ++ t := by simp
          rcases hP with ⟨rfl, rfl⟩ | ⟨P', y, rfl, rfl⟩
          · rw [if_neg (by simp), hw1, ea]
          · have ep : ((P' ++ [y]).length : Int) = P'.length + 1 := by simp
            rw [if_pos (by omega), w64 (x := ((P' ++ [y]).length : Int) - 1) (by omega) (by omega), if_pos (by omega), if_pos (by omega), show P' ++ [y] ++ x :: t = P' ++ [y] ++ (x :: t) from rfl, rdF_last, if_neg (by omega), hw1, ea]
        · simp only [asc, show lo ≤ x.f0 ∧ x.f0 ≤ 7 from ⟨c2, c1.2⟩, decide_true, Bool.true_and]; exact h
      · refine Ev.step (f := fun _ => some false) (fun k => ?_) ?_
        · simp only [spec_DiskOk.l0, l3Name_eq, Option.bind_some]
          rw [if_pos (by omega), if_pos (by omega), rdF_mid, i1, if_pos rfl]
          rcases hP with ⟨rfl, rfl⟩ | ⟨P', y, rfl, rfl⟩
          · omega
          · have ep : ((P' ++ [y]).length : Int) = P'.length + 1 := by simp
            rw [if_pos (by omega), w64 (x := ((P' ++ [y]).length : Int) - 1) (by omega) (by omega), if_pos (by omega), if_pos (by omega), rdF_last, if_pos (by omega)]
        · have : asc lo (x :: t) = false := by simp [asc, c2]
          rw [this]; exact Ev.now _
    · have i1 : inr x.f0 0 7 = false := decide_eq_false c1
      refine Ev.step (f := fun _ => some false) (fun k => ?_) ?_
      · simp only [spec_DiskOk.l0, l3Name_eq, Option.bind_some]
        rw [if_pos (by omega), if_pos (by omega), rdF_mid, i1, if_neg (by simp)]
      · have : asc lo (x :: t) = false := by
          have : ¬ (lo ≤ x.f0 ∧ x.f0 ≤ 7) := by omega
          simp only [asc, this, decide_false, Bool.false_and]
        rw [this]; exact Ev.now _
theorem specDiskOk_ev (room : Int) (l : List S134) (h1 : dsize l ≤ 1152921504606846976) (hl : l.length ≤ 140737488355328) : Ev (fun k => spec_DiskOk.f k room l) (diskOk room l) := by
  unfold spec_DiskOk.f diskOk
  simp only [l1In_eq, Option.bind_some]
  have hj : Ev (fun k => spec_DiskOk.j0 k true room l) false := by
    refine Ev.step (f := fun _ => some false) (fun k => ?_) (Ev.now _)
    simp only [spec_DiskOk.j0, ↓reduceIte]
  cases h : inr room 0 40000
  · simp only [Bool.false_eq_true, ↓reduceIte, Bool.false_and, Bool.and_false]; exact hj
  · simp only [↓reduceIte, Bool.true_and]
    by_cases h8 : (l.length : Int) > 8
    · have : asc 0 l = false := by
        cases ha : asc 0 l
        · rfl
        · have := asc_len l 0 (by omega) ha; omega
      simp only [h8, ↓reduceIte, this, Bool.false_and]; exact hj
    · simp only [h8, ↓reduceIte]
      refine Ev.bind (l3Size_ev room l h1 hl) ?_
      by_cases hd : dsize l > room
      · simp only [hd, decide_true, show ¬ dsize l ≤ room by omega, decide_false, Bool.and_false]; exact hj
      · simp only [hd, decide_false, show dsize l ≤ room by omega, decide_true, Bool.and_true]
        refine Ev.step (f := fun k => spec_DiskOk.l0 k 0 room l) (fun k => ?_) ?_
        · simp only [spec_DiskOk.j0]; rfl
        · exact specDiskOk_l l [] 0 room (by omega) (.inl ⟨rfl, rfl⟩) (by simpa using hl)

theorem sizeOf_l (rest : List S134) : ∀ (P : List S134) (n m : Int), m = P.length + rest.length → 0 ≤ n → n + dsize rest ≤ 1152921504606846976 → P.length + rest.length ≤ 140737488355328 → Ev (fun k => impl_sizeOf.l0 k n (P ++ rest) m (P.length : Int)) (n + dsize rest) := by
  induction rest with
  | nil =>
    intro P n m hm h0 h1 hl
    refine Ev.step (f := fun _ => some n) (fun k => ?_) ?_
    · simp only [impl_sizeOf.l0]
      rw [if_neg (by simp at hm; omega)]
    · simp only [dsize, Int.add_zero]; exact Ev.now _
  | cons x t ih =>
    intro P n m hm h0 h1 hl
    simp only [List.length_cons] at hl hm
    have hn := dsize_nn t
    simp only [dsize] at h1
    have h := ih (P ++ [x]) (n + x.f1.size + x.f2.size) m (by simp; omega) (by omega) (by omega) (by simp; omega)
    have e : n + dsize (x :: t) = n + x.f1.size + x.f2.size + dsize t := by simp only [dsize]; omega
    rw [e]
    refine Ev.step (fun k => ?_) h
    simp only [impl_sizeOf.l0]
    rw [if_pos (by omega), if_pos (by omega), if_pos (by simp; omega), rdF_mid, w64 (x := (x.f1.size : Int) + x.f2.size) (by omega) (by omega), w64 (by omega) (by omega), w64 (by omega) (by omega)]
    simp [Int.add_assoc]
theorem sizeOf_ev (room : Int) (l : List S134) (h1 : dsize l ≤ 1152921504606846976) (hl : l.length ≤ 140737488355328) : Ev (fun k => impl_sizeOf.f k room l) (dsize l) := by
  have h := sizeOf_l l [] 0 l.length (by simp) (by omega) (by omega) (by simpa using hl)
  simpa [impl_sizeOf.f] using h

theorem within_eq (a b c : Int) : impl_within.f a b c = some (inr a b c) := by
  unfold impl_within.f inr
  by_cases h : a ≥ b
  · rw [if_pos h]; congr 1; by_cases h2 : a ≤ c <;> simp [h, h2]
  · rw [if_neg h]; congr 1; simp; omega

theorem isFile_eq (a : Int) : impl_isFile.f a = some (inr a 0 7) := by unfold impl_isFile.f; rw [within_eq]; rfl
theorem implDiskOk_l (F : List S134) (hd : dsize F ≤ 1152921504606846976) (hF : F.length ≤ 140737488355328) (rest : List S134) : ∀ (P : List S134) (lo room : Int), F = P ++ rest → 0 ≤ lo → (P = [] ∧ lo = 0 ∨ ∃ P' y, P = P' ++ [y] ∧ lo = y.f0 + 1) → Ev (fun k => impl_DiskOk.l0 k F (F.length : Int) (P.length : Int) room F) (asc lo rest && (inr room 0 40000 && decide (dsize F ≤ room))) := by
  induction rest with
  | nil =>
    intro P lo room hPF h0 hP
    refine Ev.step (f := fun k => (impl_within.f room 0 40000).bind fun t => if t = true then (impl_sizeOf.f k room F).bind fun t2 => some (decide (t2 ≤ room)) else some false) (fun k => ?_) ?_
    · simp only [impl_DiskOk.l0]
      rw [if_neg (by rw [hPF]; simp)]
    · simp only [within_eq, Option.bind_some, asc, Bool.true_and]
      cases inr room 0 40000
      · simp only [Bool.false_eq_true, ↓reduceIte, Bool.false_and]; exact Ev.now _
      · simp only [↓reduceIte, Bool.true_and]
        refine Ev.bind (sizeOf_ev room F hd hF) ?_
        exact Ev.now _
  | cons x t ih =>
    intro P lo room hPF h0 hP
    have el : (F.length : Int) = P.length + t.length + 1 := by rw [hPF]; simp; omega
    have hr : rd_T134 F (P.length : Int) = x := by rw [hPF]; exact rdF_mid P x t
    have hw1 : wrap64 ((P.length : Int) + 1) = ((P ++ [x]).length : Int) := by rw [w64 (by omega) (by omega)]; simp
    by_cases c1 : 0 ≤ x.f0 ∧ x.f0 ≤ 7
    · have i1 : inr x.f0 0 7 = true := decide_eq_true c1
      by_cases c2 : lo ≤ x.f0
      · have h := ih (P ++ [x]) (x.f0 + 1) room (by rw [hPF]; simp) (by omega) (.inr ⟨P, x, rfl, rfl⟩)
        refine Ev.step (f := fun k => impl_DiskOk.l0 k F (F.length : Int) ((P ++ [x]).length : Int) room F) (fun k => ?_) ?_
        · simp only [impl_DiskOk.l0, isFile_eq, Option.bind_some]
          rw [if_pos (by omega), if_pos (by omega), if_pos (by omega), hr, i1, if_pos rfl]
          rcases hP with ⟨rfl, rfl⟩ | ⟨P', y, rfl, rfl⟩
          · rw [if_neg (by simp), hw1]
          · have hy : rd_T134 F (((P' ++ [y]).length : Int) - 1) = y := by rw [hPF]; exact rdF_last P' y (x :: t)
            have ep : ((P' ++ [y]).length : Int) = P'.length + 1 := by simp
            rw [if_pos (by omega), w64 (x := ((P' ++ [y]).length : Int) - 1) (by omega) (by omega), if_pos (by omega), if_pos (by omega), hy, if_neg (by omega), hw1]
        · simp only [asc, show lo ≤ x.f0 ∧ x.f0 ≤ 7 from ⟨c2, c1.2⟩, decide_true, Bool.true_and]; exact h
      · refine Ev.step (f := fun _ => some false) (fun k => ?_) ?_
        · simp only [impl_DiskOk.l0, isFile_eq, Option.bind_some]
          rw [if_pos (by omega), if_pos (by omega), if_pos (by omega), hr, i1, if_pos rfl]
          rcases hP with ⟨rfl, rfl⟩ | ⟨P', y, rfl, rfl⟩
          · omega
          · have hy : rd_T134 F (((P' ++ [y]).length : Int) - 1) = y := by rw [hPF]; exact rdF_last P' y (x :: t)
            have ep : ((P' ++ [y]).length : Int) = P'.length + 1 := by simp
            rw [if_pos (by omega), w64 (x := ((P' ++ [y]).length : Int) - 1) (by omega) (by omega), if_pos (by omega), if_pos (by omega), hy, if_pos (by omega)]
        · have : asc lo (x :: t) = false := by simp [asc, c2]
          rw [this]; exact Ev.now _
    · have i1 : inr x.f0 0 7 = false := decide_eq_false c1
      refine Ev.step (f := fun _ => some false) (fun k => ?_) ?_
      · simp only [impl_DiskOk.l0, isFile_eq, Option.bind_some]
        rw [if_pos (by omega), if_pos (by omega), if_pos (by omega), hr, i1, if_neg (by simp)]
      · have : asc lo (x :: t) = false := by
          have : ¬ (lo ≤ x.f0 ∧ x.f0 ≤ 7) := by omega
          simp only [asc, this, decide_false, Bool.false_and]
        rw [this]; exact Ev.now _
theorem implDiskOk_ev (room : Int) (l : List S134) (h1 : dsize l ≤ 1152921504606846976) (hl : l.length ≤ 140737488355328) : Ev (fun k => impl_DiskOk.f k room l) (diskOk room l) :=
  implDiskOk_l l h1 hl l [] 0 room rfl (by omega) (.inl ⟨rfl, rfl⟩)

theorem l3Copy_eq (room : Int) (l : List S134) (hl : l.length ≤ 3518437208878) : spec_l3Copy.f room l = some (room, l) := by
  unfold spec_l3Copy.f
  simp only [Option.bind_some, List.length_nil, List.nil_append]
  rw [if_pos (by omega)]
theorem copyDisk_eq (room : Int) (l : List S134) (hl : l.length ≤ 3518437208878) : impl_copyDisk.f room l = some (room, l) := by
  unfold impl_copyDisk.f
  simp only [Option.bind_some, List.length_nil, List.nil_append]
  rw [if_pos (by omega)]
theorem diskOk_asc {room : Int} {l : List S134} (h : diskOk room l = true) : asc 0 l = true := by
  unfold diskOk at h; rw [Bool.and_eq_true] at h; exact h.1

theorem findS_l (nm : Int) (rest : List S134) : ∀ (P : List S134) (room : Int), P.length + rest.length ≤ 140737488355328 → Ev (fun k => spec_l3Find.l0 k nm (P.length : Int) room (P ++ rest)) (idxName rest nm (P.length : Int)) := by
  induction rest with
  | nil =>
    intro P room hl
    refine Ev.step (f := fun _ => some (-1)) (fun k => ?_) (Ev.now _)
    simp only [spec_l3Find.l0]
    rw [if_neg (by simp)]
  | cons x t ih =>
    intro P room hl
    simp only [List.length_cons] at hl
    have el : ((P ++ x :: t).length : Int) = P.length + t.length + 1 := by simp; omega
    by_cases c : x.f0 = nm
    · refine Ev.step (f := fun _ => some (P.length : Int)) (fun k => ?_) ?_
      · simp only [spec_l3Find.l0]
        rw [if_pos (by omega), if_pos (by omega), rdF_mid, if_pos c]
      · simp only [idxName, c, ↓reduceIte]; exact Ev.now _
    · have h := ih (P ++ [x]) room (by simp; omega)
      have hw1 : wrap64 ((P.length : Int) + 1) = ((P ++ [x]).length : Int) := by rw [w64 (by omega) (by omega)]; simp
      have hi : idxName (x :: t) nm (P.length : Int) = idxName t nm ((P ++ [x]).length : Int) := by simp only [idxName, c, ↓reduceIte]; simp
      rw [hi]
      refine Ev.step (fun k => ?_) h
      simp only [spec_l3Find.l0]
      rw [if_pos (by omega), if_pos (by omega), rdF_mid, if_neg c, hw1]
      simp
theorem findS_ev (room : Int) (l : List S134) (nm : Int) (hl : l.length ≤ 140737488355328) : Ev (fun k => spec_l3Find.f k room l nm) (idxName l nm 0) := by
  have h := findS_l nm l [] room (by simpa using hl)
  simpa [spec_l3Find.f] using h

theorem idx_b (nm : Int) : ∀ (l : List S134) (i : Int), 0 ≤ i → (idxName l nm i = -1 ∨ i ≤ idxName l nm i ∧ idxName l nm i < i + l.length)
  | [], i, h => by simp [idxName]
  | x :: t, i, h => by
    simp only [idxName, List.length_cons]
    split
    · exact .inr ⟨by omega, by omega⟩
    · have := idx_b nm t (i + 1) (by omega)
      omega
theorem rdF_mem (l : List S134) (i : Int) (h0 : 0 ≤ i) (h1 : i < l.length) : rd_T134 l i ∈ l := by
  unfold rd_T134
  have : i.toNat < l.length := by omega
  simp [List.getD_eq_getElem?_getD, this]
theorem idx_mem (nm : Int) : ∀ (l : List S134) (i : Int), 0 ≤ i → 0 ≤ idxName l nm i → ∃ y ∈ l, y.f0 = nm
  | [], i, h, h1 => by simp [idxName] at h1
  | x :: t, i, h, h1 => by
    simp only [idxName] at h1
    by_cases c : x.f0 = nm
    · exact ⟨x, by simp, c⟩
    · simp only [c, ↓reduceIte] at h1
      obtain ⟨y, hy, e⟩ := idx_mem nm t (i + 1) (by omega) h1
      exact ⟨y, by simp [hy], e⟩

def oth (nm : Int) (l : List S134) : List S134 := l.filter fun x => decide (x.f0 ≠ nm)
def putG (f : S134) : List S134 → List S134
  | [] => [f]
  | x :: t => if x.f0 ≥ f.f0 then f :: oth f.f0 (x :: t) else x :: putG f t
theorem oth_cons_eq {nm : Int} {x : S134} {t : List S134} (h : x.f0 = nm) : oth nm (x :: t) = oth nm t := by simp [oth, h]
theorem oth_cons_ne {nm : Int} {x : S134} {t : List S134} (h : x.f0 ≠ nm) : oth nm (x :: t) = x :: oth nm t := by simp [oth, h]
theorem putT_l (room : Int) (f : S134) (rm : Int) (rest : List S134) : ∀ (P out : List S134), P.length + rest.length ≤ 140737488355328 → out.length + rest.length ≤ 3518437208880 → Ev (fun k => spec_l3Put.l0 k true (P.length : Int) room (P ++ rest) f.f0 f.f1 f.f2 rm out) (rm, out ++ oth f.f0 rest) := by
  induction rest with
  | nil =>
    intro P out hl ho
    refine Ev.step (f := fun _ => some (rm, out)) (fun k => ?_) ?_
    · simp only [spec_l3Put.l0]
      rw [if_neg (by simp), if_pos trivial]
    · simp [oth]; exact Ev.now _
  | cons x t ih =>
    intro P out hl ho
    simp only [List.length_cons] at hl ho
    have el : ((P ++ x :: t).length : Int) = P.length + t.length + 1 := by simp; omega
    have hw1 : wrap64 ((P.length : Int) + 1) = ((P ++ [x]).length : Int) := by rw [w64 (by omega) (by omega)]; simp
    have ea : P ++ x :: t = P ++ [x] ++ t := by simp
    refine Ev.step (fun k => by simp only [spec_l3Put.l0]; rw [if_pos (by omega), if_pos trivial]) ?_
    by_cases c : x.f0 = f.f0
    · have h := ih (P ++ [x]) out (by simp; omega) (by omega)
      rw [oth_cons_eq c]
      refine Ev.step (fun k => ?_) h
      simp only [spec_l3Put.j1]
      rw [if_neg (by simp), if_pos (by omega), if_pos (by omega), rdF_mid, if_pos c, hw1, ea]
    · have h := ih (P ++ [x]) (out ++ [x]) (by simp; omega) (by simp; omega)
      rw [oth_cons_ne c]
      have e3 : out ++ x :: oth f.f0 t = (out ++ [x]) ++ oth f.f0 t := by simp
      rw [e3]
      refine Ev.step (fun k => ?_) h
      simp only [spec_l3Put.j1]
      rw [if_neg (by simp), if_pos (by omega), if_pos (by omega), rdF_mid, if_neg c, if_pos (by omega), hw1, ea]
theorem putF_l (room : Int) (f : S134) (rm : Int) (rest : List S134) : ∀ (P out : List S134), P.length + rest.length ≤ 140737488355328 → out.length + rest.length ≤ 3518437208878 → Ev (fun k => spec_l3Put.l0 k false (P.length : Int) room (P ++ rest) f.f0 f.f1 f.f2 rm out) (rm, out ++ putG f rest) := by
  induction rest with
  | nil =>
    intro P out hl ho
    refine Ev.step (f := fun _ => some (rm, out ++ [f])) (fun k => ?_) ?_
    · simp only [spec_l3Put.l0]
      rw [if_neg (by simp), if_neg (by simp), if_pos (by omega)]
    · simp [putG]; exact Ev.now _
  | cons x t ih =>
    intro P out hl ho
    simp only [List.length_cons] at hl ho
    have el : ((P ++ x :: t).length : Int) = P.length + t.length + 1 := by simp; omega
    have hw1 : wrap64 ((P.length : Int) + 1) = ((P ++ [x]).length : Int) := by rw [w64 (by omega) (by omega)]; simp
    have ea : P ++ x :: t = P ++ [x] ++ t := by simp
    refine Ev.step (fun k => by simp only [spec_l3Put.l0]; rw [if_pos (by omega), if_neg (by simp), if_pos (by omega), rdF_mid]) ?_
    by_cases c : x.f0 ≥ f.f0
    · simp only [c, decide_true, putG, ↓reduceIte]
      by_cases c2 : x.f0 = f.f0
      · have h := putT_l room f rm t (P ++ [x]) (out ++ [f]) (by simp; omega) (by simp; omega)
        rw [oth_cons_eq c2]
        have e3 : out ++ f :: oth f.f0 t = (out ++ [f]) ++ oth f.f0 t := by simp
        rw [e3]
        refine Ev.step (fun k => ?_) h
        simp only [spec_l3Put.j1]
        rw [if_pos trivial, if_pos (by omega)]
        simp only [Option.bind_some]
        rw [if_pos (by omega), if_pos (by omega), rdF_mid, if_pos c2, hw1, ea]
      · have h := putT_l room f rm t (P ++ [x]) (out ++ [f] ++ [x]) (by simp; omega) (by simp; omega)
        rw [oth_cons_ne c2]
        have e3 : out ++ f :: x :: oth f.f0 t = (out ++ [f] ++ [x]) ++ oth f.f0 t := by simp
        rw [e3]
        refine Ev.step (fun k => ?_) h
        simp only [spec_l3Put.j1]
        rw [if_pos trivial, if_pos (by omega)]
        simp only [Option.bind_some]
        rw [if_pos (by omega), if_pos (by omega), rdF_mid, if_neg c2, if_pos (by simp; omega), hw1, ea]
    · simp only [c, decide_false, putG, ↓reduceIte]
      have c2 : ¬ x.f0 = f.f0 := by omega
      have h := ih (P ++ [x]) (out ++ [x]) (by simp; omega) (by simp; omega)
      have e3 : out ++ x :: putG f t = (out ++ [x]) ++ putG f t := by simp
      rw [e3]
      refine Ev.step (fun k => ?_) h
      simp only [spec_l3Put.j1]
      rw [if_neg (by simp), if_pos (by omega), if_pos (by omega), rdF_mid, if_neg c2, if_pos (by omega), hw1, ea]
theorem l3Put_ev (room : Int) (l : List S134) (f : S134) (hl : l.length ≤ 3518437208878) : Ev (fun k => spec_l3Put.f k room l f.f0 f.f1 f.f2) (room, putG f l) := by
  have h := putF_l room f room l [] [] (by simp; omega) (by simpa using hl)
  simpa [spec_l3Put.f] using h
theorem asc_gt : ∀ (l : List S134) (lo : Int) (x : S134), asc lo l = true → x ∈ l → lo ≤ x.f0
  | y :: t, lo, x, h, hx => by
    simp only [asc, Bool.and_eq_true, decide_eq_true_eq] at h
    rcases List.mem_cons.1 hx with rfl | hx
    · exact h.1.1
    · have := asc_gt t (y.f0 + 1) x h.2 hx; omega
theorem oth_asc (l : List S134) (lo nm : Int) (h : asc lo l = true) (hn : nm < lo) : oth nm l = l := by
  unfold oth
  rw [List.filter_eq_self]
  intro x hx
  have := asc_gt l lo x h hx
  simp; omega
theorem putG_set (f : S134) : ∀ (l : List S134) (lo i : Int), asc lo l = true → 0 ≤ i → 0 ≤ idxName l f.f0 i → putG f l = l.set (idxName l f.f0 i - i).toNat f
  | [], lo, i, h, h0, h1 => by simp [idxName] at h1
  | x :: t, lo, i, h, h0, h1 => by
    simp only [asc, Bool.and_eq_true, decide_eq_true_eq] at h
    simp only [idxName] at h1 ⊢
    by_cases c : x.f0 = f.f0
    · simp only [c, ↓reduceIte, putG]
      rw [if_pos (by omega), oth_cons_eq c, oth_asc t (x.f0 + 1) f.f0 h.2 (by omega)]
      simp
    · simp only [c, ↓reduceIte] at h1 ⊢
      have hb := idx_b f.f0 t (i + 1) (by omega)
      have hm : ∃ y ∈ t, y.f0 = f.f0 := idx_mem f.f0 t (i + 1) (by omega) h1
      obtain ⟨y, hy, e⟩ := hm
      have hg := asc_gt t (x.f0 + 1) y h.2 hy
      have ih := putG_set f t (x.f0 + 1) (i + 1) h.2 (by omega) h1
      simp only [putG]
      rw [if_neg (by omega), ih]
      have e2 : (idxName t f.f0 (i + 1) - i).toNat = (idxName t f.f0 (i + 1) - (i + 1)).toNat + 1 := by omega
      rw [e2, List.set_cons_succ]

def cutF (l : List S134) (nm n : Int) : S134 :=
  ⟨nm, (rd_T134 l (idxName l nm 0)).f1.extract 0 (mn n ((rd_T134 l (idxName l nm 0)).f1.size : Int)).toNat, (rd_T134 l (idxName l nm 0)).f2.extract 0 (n - mn n ((rd_T134 l (idxName l nm 0)).f1.size : Int)).toNat⟩
def diskCut (room : Int) (l : List S134) (nm n : Int) : Int × List S134 × Int :=
  if (diskOk room l && inr nm 0 7) = true then (if idxName l nm 0 < 0 then (room, l, 2) else if inr n 0 (((rd_T134 l (idxName l nm 0)).f1.size : Int) + ((rd_T134 l (idxName l nm 0)).f2.size : Int)) = true then (room, l.set (idxName l nm 0).toNat (cutF l nm n), 0) else (room, l, 2)) else (0, [], 1)
theorem mn_b (a b : Int) (h0 : 0 ≤ a) (h1 : 0 ≤ b) (c : Int) (hc : 0 ≤ c) (h : a ≤ b + c) : 0 ≤ mn a b ∧ mn a b ≤ b ∧ 0 ≤ a - mn a b ∧ a - mn a b ≤ c := by
  unfold mn; split <;> omega
theorem implDiskCut_ev (room : Int) (l : List S134) (nm n : Int) (h1 : dsize l ≤ 1152921504606846976) (hl : l.length ≤ 3518437208878) : Ev (fun k => impl_DiskCut.f k room l nm n) (diskCut room l nm n) := by
  unfold impl_DiskCut.f diskCut
  refine Ev.bind (implDiskOk_ev room l h1 (by omega)) ?_
  have hj : Ev (fun k => impl_DiskCut.j0 k nm n true room l) (0, [], 1) := by
    refine Ev.step (f := fun _ => some (0, [], 1)) (fun k => ?_) (Ev.now _)
    simp only [impl_DiskCut.j0, ↓reduceIte]
  cases h : diskOk room l
  · simp only [Bool.false_eq_true, ↓reduceIte, Bool.false_and]; exact hj
  · simp only [↓reduceIte, Bool.true_and, isFile_eq, Option.bind_some]
    cases h2 : inr nm 0 7
    · simp only [Bool.not_false, Bool.false_eq_true, ↓reduceIte]; exact hj
    · simp only [Bool.not_true, ↓reduceIte]
      refine Ev.step (fun k => by simp only [impl_DiskCut.j0, Bool.false_eq_true, ↓reduceIte, copyDisk_eq room l hl, impl_fileAt.f, Option.bind_some]; rfl) ?_
      by_cases c : idxName l nm 0 < 0
      · simp only [c, ↓reduceIte]; exact Ev.now _
      · have hb := idx_b nm l 0 (by omega)
        have hm := dsize_mem (rdF_mem l (idxName l nm 0) (by omega) (by omega))
        have k1 : 0 ≤ idxName l nm 0 := by omega
        have k2 : idxName l nm 0 < (l.length : Int) := by omega
        have hw : wrap64 (((rd_T134 l (idxName l nm 0)).f1.size : Int) + ((rd_T134 l (idxName l nm 0)).f2.size : Int)) = ((rd_T134 l (idxName l nm 0)).f1.size : Int) + ((rd_T134 l (idxName l nm 0)).f2.size : Int) := w64 (by omega) (by omega)
        simp only [c, ↓reduceIte, k1, k2, hw, within_eq, Option.bind_some]
        cases h3 : inr n 0 (((rd_T134 l (idxName l nm 0)).f1.size : Int) + ((rd_T134 l (idxName l nm 0)).f2.size : Int))
        · simp only [Bool.false_eq_true, ↓reduceIte]; exact Ev.now _
        · have hr := of_decide_eq_true h3
          obtain ⟨m1, m2, m3, m4⟩ := mn_b n ((rd_T134 l (idxName l nm 0)).f1.size : Int) hr.1 (by omega) ((rd_T134 l (idxName l nm 0)).f2.size : Int) (by omega) hr.2
          have hw2 : wrap64 (n - mn n ((rd_T134 l (idxName l nm 0)).f1.size : Int)) = n - mn n ((rd_T134 l (idxName l nm 0)).f1.size : Int) := w64 (by omega) (by omega)
          simp only [↓reduceIte, m1, m2, hw2, m3, m4]
          exact Ev.now _

theorem dsize_set : ∀ (l : List S134) (i : Nat) (f : S134), dsize (l.set i f) ≤ dsize l + f.f1.size + f.f2.size
  | [], i, f => by simp [dsize]; omega
  | x :: t, 0, f => by have := dsize_nn t; simp only [List.set_cons_zero, dsize]; omega
  | x :: t, i + 1, f => by have := dsize_set t i f; simp only [List.set_cons_succ, dsize]; omega
theorem extract_le (s : ByteArray) (b : Nat) : (s.extract 0 b).size ≤ s.size := by rw [ByteArray.size_extract]; omega
theorem diskOk_b {room : Int} {l : List S134} (h : diskOk room l = true) : 0 ≤ room ∧ room ≤ 40000 ∧ dsize l ≤ room ∧ l.length ≤ 8 := by
  unfold diskOk at h
  simp only [Bool.and_eq_true, inr, decide_eq_true_eq] at h
  have := asc_len l 0 (by omega) h.1
  omega
def appF (l : List S134) (nm : Int) (s : ByteArray) : S134 :=
  if idxName l nm 0 ≥ 0 then ⟨(rd_T134 l (idxName l nm 0)).f0, (rd_T134 l (idxName l nm 0)).f1, (rd_T134 l (idxName l nm 0)).f2 ++ s⟩ else ⟨nm, (⟨#[]⟩ : ByteArray), (⟨#[]⟩ : ByteArray) ++ s⟩
def diskAppend (room : Int) (l : List S134) (nm : Int) (s : ByteArray) : Int × List S134 × Int :=
  if (diskOk room l && inr nm 0 7) = true then (if (s.size : Int) > room - dsize l then (room, l, 3) else (room, putG (appF l nm s) l, 0)) else (0, [], 1)
theorem dsize_oth (nm : Int) : ∀ l : List S134, dsize (oth nm l) ≤ dsize l ∧ (oth nm l).length ≤ l.length
  | [] => by simp [oth, dsize]
  | x :: t => by
    have h := dsize_oth nm t
    have hn := dsize_nn (oth nm t)
    by_cases c : x.f0 = nm
    · rw [oth_cons_eq c]; simp only [dsize, List.length_cons]; omega
    · rw [oth_cons_ne c]; simp only [dsize, List.length_cons]; omega
theorem dsize_putG (f : S134) : ∀ l : List S134, dsize (putG f l) ≤ dsize l + f.f1.size + f.f2.size ∧ (putG f l).length ≤ l.length + 1
  | [] => by simp only [putG, dsize, List.length_cons, List.length_nil]; omega
  | x :: t => by
    have h := dsize_putG f t
    simp only [putG]
    split
    · have := dsize_oth f.f0 (x :: t)
      simp only [dsize, List.length_cons] at this ⊢; omega
    · simp only [dsize, List.length_cons]; omega
theorem appF_size (l : List S134) (nm : Int) (s : ByteArray) (hl : l.length ≤ 140737488355328) : ((appF l nm s).f1.size : Int) + (appF l nm s).f2.size ≤ dsize l + s.size := by
  unfold appF
  split
  · rename_i h
    have hb := idx_b nm l 0 (by omega)
    have hm := dsize_mem (rdF_mem l (idxName l nm 0) (by omega) (by omega))
    simp only [ByteArray.size_append]; omega
  · have hn := dsize_nn l
    have : (⟨#[]⟩ : ByteArray).size = 0 := rfl
    simp only [ByteArray.size_append, this]; omega
theorem diskAppend_b (room : Int) (l : List S134) (nm : Int) (s : ByteArray) (h1 : dsize l ≤ 100000) (hl : l.length ≤ 10) (hs : s.size ≤ 1000) :
    dsize (diskAppend room l nm s).2.1 ≤ 100000 ∧ (diskAppend room l nm s).2.1.length ≤ 10 := by
  have hn := dsize_nn l
  unfold diskAppend
  split
  · rename_i h
    simp only [Bool.and_eq_true] at h
    have hb := diskOk_b h.1
    split
    · exact ⟨h1, hl⟩
    · have h2 := dsize_putG (appF l nm s) l
      have h3 := appF_size l nm s (by omega)
      exact ⟨by simp only; omega, by simp only; omega⟩
  · simp [dsize]
theorem specDiskAppend_ev (room : Int) (l : List S134) (nm : Int) (s : ByteArray) (h1 : dsize l ≤ 1152921504606846976) (hl : l.length ≤ 3518437208878) (hs : s.size ≤ 140737488355328) : Ev (fun k => spec_DiskAppend.f k room l nm s) (diskAppend room l nm s) := by
  unfold spec_DiskAppend.f diskAppend
  refine Ev.bind (specDiskOk_ev room l h1 (by omega)) ?_
  have hj : Ev (fun k => spec_DiskAppend.j0 k nm s true room l) (0, [], 1) := by
    refine Ev.step (f := fun _ => some (0, [], 1)) (fun k => ?_) (Ev.now _)
    simp only [spec_DiskAppend.j0, ↓reduceIte]
  cases h : diskOk room l
  · simp only [Bool.false_eq_true, ↓reduceIte, Bool.false_and]; exact hj
  · have hb := diskOk_b h
    have hn := dsize_nn l
    simp only [↓reduceIte, Bool.true_and, l3Name_eq, Option.bind_some]
    cases h2 : inr nm 0 7
    · simp only [Bool.not_false, Bool.false_eq_true, ↓reduceIte]; exact hj
    · simp only [Bool.not_true, ↓reduceIte]
      refine Ev.step (fun k => by simp only [spec_DiskAppend.j0, Bool.false_eq_true, ↓reduceIte]; rfl) ?_
      refine Ev.bind (l3Size_ev room l (by omega) (by omega)) ?_
      have hw : wrap64 (room - dsize l) = room - dsize l := w64 (by omega) (by omega)
      simp only [hw]
      by_cases c : (s.size : Int) > room - dsize l
      · simp only [c, ↓reduceIte, l3Copy_eq room l hl, Option.bind_some]; exact Ev.now _
      · simp only [c, ↓reduceIte]
        refine Ev.bind (findS_ev room l nm (by omega)) ?_
        unfold appF
        by_cases c2 : idxName l nm 0 ≥ 0
        · have hb2 := idx_b nm l 0 (by omega)
          have hm := dsize_mem (rdF_mem l (idxName l nm 0) (by omega) (by omega))
          simp only [c2, ↓reduceIte, show 0 ≤ idxName l nm 0 by omega, show idxName l nm 0 < (l.length : Int) by omega, show (rd_T134 l (idxName l nm 0)).f2.size + s.size ≤ 9223372036854775807 by omega]
          exact Ev.bind (l3Put_ev room l ⟨(rd_T134 l (idxName l nm 0)).f0, (rd_T134 l (idxName l nm 0)).f1, (rd_T134 l (idxName l nm 0)).f2 ++ s⟩ hl) (Ev.now _)
        · simp only [c2, ↓reduceIte, show 0 + s.size ≤ 9223372036854775807 by omega]
          exact Ev.bind (l3Put_ev room l ⟨nm, (⟨#[]⟩ : ByteArray), (⟨#[]⟩ : ByteArray) ++ s⟩ hl) (Ev.now _)

def movF (l : List S134) (nm to_ : Int) : S134 := ⟨to_, (rd_T134 l (idxName l nm 0)).f1, (rd_T134 l (idxName l nm 0)).f2⟩
def diskMove (room : Int) (l : List S134) (nm to_ : Int) : Int × List S134 × Int :=
  if (diskOk room l && (inr nm 0 7 && (inr to_ 0 7 && !(nm == to_)))) = true then (if idxName l nm 0 < 0 then (room, l, 2) else (room, putG (movF l nm to_) (l.eraseIdx (idxName l nm 0).toNat), 0)) else (0, [], 1)
theorem dsize_erase : ∀ (l : List S134) (i : Nat), dsize (l.eraseIdx i) ≤ dsize l ∧ (l.eraseIdx i).length ≤ l.length
  | [], i => by simp [dsize]
  | x :: t, 0 => by have := dsize_nn t; simp only [List.eraseIdx_cons_zero, dsize, List.length_cons]; omega
  | x :: t, i + 1 => by have := dsize_erase t i; simp only [List.eraseIdx_cons_succ, dsize, List.length_cons]; omega
theorem diskMove_b (room : Int) (l : List S134) (nm to_ : Int) (h1 : dsize l ≤ 100000) (hl : l.length ≤ 10) :
    dsize (diskMove room l nm to_).2.1 ≤ 100000 ∧ (diskMove room l nm to_).2.1.length ≤ 10 := by
  have hn := dsize_nn l
  unfold diskMove
  split
  · rename_i h
    simp only [Bool.and_eq_true] at h
    have hb := diskOk_b h.1
    split
    · exact ⟨h1, hl⟩
    · rename_i h2
      have hb2 := idx_b nm l 0 (by omega)
      have hm := dsize_mem (rdF_mem l (idxName l nm 0) (by omega) (by omega))
      have h3 := dsize_putG (movF l nm to_) (l.eraseIdx (idxName l nm 0).toNat)
      have h4 := dsize_erase l (idxName l nm 0).toNat
      simp only [movF] at h3 ⊢
      exact ⟨by omega, by omega⟩
  · simp [dsize]
theorem moveS_l (room rm : Int) (l : List S134) (j : Nat) (f : S134) (hl : l.length ≤ 3518437208878) (d : Nat) : ∀ i : Nat, i + d = l.length →
    Ev (fun k => spec_DiskMove.l0 k (j : Int) (i : Int) room l f.f0 f.f1 f.f2 rm ((l.take i).eraseIdx j)) (rm, putG f (l.eraseIdx j), 0) := by
  induction d with
  | zero =>
    intro i hi
    have ht : l.take i = l := List.take_of_length_le (by omega)
    refine Ev.step (fun k => by simp only [spec_DiskMove.l0]; rw [if_neg (by omega), ht]) ?_
    refine Ev.bind (l3Put_ev rm (l.eraseIdx j) f (by have := (dsize_erase l j).2; omega)) ?_
    exact Ev.now _
  | succ d ih =>
    intro i hi
    have h := ih (i + 1) (by omega)
    have hlt : i < l.length := by omega
    have hw : wrap64 ((i : Int) + 1) = ((i + 1 : Nat) : Int) := by rw [w64 (by omega) (by omega)]; omega
    have et : l.take (i + 1) = l.take i ++ [l[i]] := List.take_succ_eq_append_getElem hlt
    have hti : (l.take i).length = i := by rw [List.length_take]; omega
    by_cases c : i = j
    · refine Ev.step (fun k => ?_) h
      simp only [spec_DiskMove.l0]
      rw [if_pos (by omega), if_pos (by omega), hw]
      have e : (l.take (i + 1)).eraseIdx j = (l.take i).eraseIdx j := by
        rw [et, ← c, List.eraseIdx_append_of_length_le (by omega), hti, Nat.sub_self, List.eraseIdx_of_length_le (l := l.take i) (by omega)]
        simp
      rw [e]
    · refine Ev.step (fun k => ?_) h
      have hle := (dsize_erase (l.take i) j).2
      simp only [spec_DiskMove.l0]
      rw [if_pos (by omega), if_neg (by omega), if_pos (by omega), if_pos (by omega), hw]
      have e : (l.take (i + 1)).eraseIdx j = (l.take i).eraseIdx j ++ [rd_T134 l (i : Int)] := by
        have er : rd_T134 l (i : Int) = l[i] := by unfold rd_T134; simp [List.getD_eq_getElem?_getD, hlt]
        rw [et, er]
        by_cases c2 : j < i
        · rw [List.eraseIdx_append_of_lt_length (by omega)]
        · rw [List.eraseIdx_of_length_le (l := l.take i ++ [l[i]]) (by simp; omega), List.eraseIdx_of_length_le (l := l.take i) (by omega)]
      rw [e]
theorem specDiskMove_ev (room : Int) (l : List S134) (nm to_ : Int) (h1 : dsize l ≤ 1152921504606846976) (hl : l.length ≤ 3518437208878) : Ev (fun k => spec_DiskMove.f k room l nm to_) (diskMove room l nm to_) := by
  unfold spec_DiskMove.f diskMove
  refine Ev.bind (specDiskOk_ev room l h1 (by omega)) ?_
  have hj : Ev (fun k => spec_DiskMove.j0 k nm to_ true room l) (0, [], 1) := by
    refine Ev.step (f := fun _ => some (0, [], 1)) (fun k => ?_) (Ev.now _)
    simp only [spec_DiskMove.j0, ↓reduceIte]
  cases h : diskOk room l
  · simp only [Bool.false_eq_true, ↓reduceIte, Bool.false_and]; exact hj
  simp only [↓reduceIte, Bool.true_and, l3Name_eq, Option.bind_some]
  cases h2 : inr nm 0 7
  · simp only [Bool.false_and, Bool.false_eq_true, ↓reduceIte]; exact hj
  simp only [↓reduceIte, Bool.true_and]
  cases h3 : inr to_ 0 7
  · simp only [Bool.false_and, Bool.false_eq_true, ↓reduceIte]; exact hj
  simp only [↓reduceIte, Bool.true_and]
  cases h4 : nm == to_
  · simp only [Bool.not_false, ↓reduceIte]
    refine Ev.step (fun k => by simp only [spec_DiskMove.j0, Bool.false_eq_true, ↓reduceIte]; rfl) ?_
    refine Ev.bind (findS_ev room l nm (by omega)) ?_
    by_cases c : idxName l nm 0 < 0
    · simp only [c, ↓reduceIte, l3Copy_eq room l hl, Option.bind_some]; exact Ev.now _
    · have hb2 := idx_b nm l 0 (by omega)
      have hm := moveS_l room room l (idxName l nm 0).toNat (movF l nm to_) hl l.length 0 (by omega)
      have e : (((idxName l nm 0).toNat : Nat) : Int) = idxName l nm 0 := by omega
      simp only [c, ↓reduceIte, show 0 ≤ idxName l nm 0 by omega, show idxName l nm 0 < (l.length : Int) by omega]
      rw [e] at hm
      simpa [movF] using hm
  · simp only [Bool.not_true, Bool.false_eq_true, ↓reduceIte]; exact hj

theorem empty_app (s : ByteArray) : (⟨#[]⟩ : ByteArray) ++ s = s := by
  apply ByteArray.ext
  simp
theorem idx_none (nm : Int) : ∀ (l : List S134) (i : Int), 0 ≤ i → idxName l nm i < 0 → ∀ x ∈ l, x.f0 ≠ nm
  | [], i, h, h1, x, hx => by simp at hx
  | y :: t, i, h, h1, x, hx => by
    simp only [idxName] at h1
    by_cases c : y.f0 = nm
    · simp only [c, ↓reduceIte] at h1; omega
    · simp only [c, ↓reduceIte] at h1
      rcases List.mem_cons.1 hx with rfl | hx
      · exact c
      · exact idx_none nm t (i + 1) (by omega) h1 x hx
theorem idx_nameA (nm : Int) : ∀ (l : List S134) (i : Int), 0 ≤ i → 0 ≤ idxName l nm i → (rd_T134 l (idxName l nm i - i)).f0 = nm
  | [], i, h, h1 => by simp [idxName] at h1
  | y :: t, i, h, h1 => by
    simp only [idxName] at h1 ⊢
    by_cases c : y.f0 = nm
    · simp only [c, ↓reduceIte, Int.sub_self]
      unfold rd_T134; simpa using c
    · simp only [c, ↓reduceIte] at h1 ⊢
      have ih := idx_nameA nm t (i + 1) (by omega) h1
      have hb := idx_b nm t (i + 1) (by omega)
      have e : (idxName t nm (i + 1) - i).toNat = (idxName t nm (i + 1) - (i + 1)).toNat + 1 := by omega
      unfold rd_T134 at ih ⊢
      rw [e]
      simpa using ih
theorem putG_place (f : S134) : ∀ l : List S134, (∀ x ∈ l, x.f0 ≠ f.f0) → putG f l = placeL l f
  | [], _ => by simp [putG, placeL, placeIdx]
  | x :: t, h => by
    have hx := h x (by simp)
    by_cases c : x.f0 ≥ f.f0
    · have e : placeIdx (x :: t) f.f0 = 0 := by
        have : ¬ x.f0 < f.f0 := by omega
        simp [placeIdx, this]
      have ho : oth f.f0 (x :: t) = x :: t := by
        unfold oth
        rw [List.filter_eq_self]
        intro y hy
        simpa using h y hy
      simp only [putG, c, ↓reduceIte, ho, placeL, e, List.take_zero, List.drop_zero, List.nil_append, List.cons_append]
    · have e : placeIdx (x :: t) f.f0 = placeIdx t f.f0 + 1 := by
        have : x.f0 < f.f0 := by omega
        simp [placeIdx, this]
      have ih := putG_place f t (fun y hy => h y (by simp [hy]))
      unfold placeL at ih ⊢
      simp only [putG, c, ↓reduceIte, e, List.take_succ_cons, List.drop_succ_cons, List.cons_append, ih]
theorem implDiskAppend_ev (room : Int) (l : List S134) (nm : Int) (s : ByteArray) (h1 : dsize l ≤ 1152921504606846976) (hl : l.length ≤ 3518437208878) (hs : s.size ≤ 140737488355328) : Ev (fun k => impl_DiskAppend.f k room l nm s) (diskAppend room l nm s) := by
  unfold impl_DiskAppend.f diskAppend
  refine Ev.bind (implDiskOk_ev room l h1 (by omega)) ?_
  have hj : Ev (fun k => impl_DiskAppend.j0 k nm s true room l) (0, [], 1) := by
    refine Ev.step (f := fun _ => some (0, [], 1)) (fun k => ?_) (Ev.now _)
    simp only [impl_DiskAppend.j0, ↓reduceIte]
  cases h : diskOk room l
  · simp only [Bool.false_eq_true, ↓reduceIte, Bool.false_and]; exact hj
  · have hb := diskOk_b h
    have hn := dsize_nn l
    simp only [↓reduceIte, Bool.true_and, isFile_eq, Option.bind_some]
    cases h2 : inr nm 0 7
    · simp only [Bool.not_false, Bool.false_eq_true, ↓reduceIte]; exact hj
    · simp only [Bool.not_true, ↓reduceIte]
      refine Ev.step (fun k => by simp only [impl_DiskAppend.j0, Bool.false_eq_true, ↓reduceIte]; rfl) ?_
      refine Ev.bind (sizeOf_ev room l (by omega) (by omega)) ?_
      have hw : wrap64 (dsize l + (s.size : Int)) = dsize l + s.size := w64 (by omega) (by omega)
      simp only [hw]
      by_cases c : (s.size : Int) > room - dsize l
      · have c' : dsize l + (s.size : Int) > room := by omega
        simp only [c, c', ↓reduceIte, copyDisk_eq room l hl, Option.bind_some]; exact Ev.now _
      · have c' : ¬ dsize l + (s.size : Int) > room := by omega
        simp only [c, c', ↓reduceIte, impl_fileAt.f, Option.bind_some]
        unfold appF
        by_cases c2 : idxName l nm 0 < 0
        · have c3 : ¬ idxName l nm 0 ≥ 0 := by omega
          simp only [c2, c3, ↓reduceIte, impl_placed.f, show l.length ≤ 1000 by omega, Option.bind_some, empty_app]
          rw [putG_place _ l (idx_none nm l 0 (by omega) c2)]
          exact Ev.now _
        · have hb2 := idx_b nm l 0 (by omega)
          have hm := dsize_mem (rdF_mem l (idxName l nm 0) (by omega) (by omega))
          have hnm := idx_nameA nm l 0 (by omega) (by omega)
          rw [Int.sub_zero] at hnm
          have e := putG_set ⟨(rd_T134 l (idxName l nm 0)).f0, (rd_T134 l (idxName l nm 0)).f1, (rd_T134 l (idxName l nm 0)).f2 ++ s⟩ l 0 0 (diskOk_asc h) (by omega) (by rw [hnm]; omega)
          simp only [hnm, Int.sub_zero] at e
          simp only [c2, ↓reduceIte, copyDisk_eq room l hl, Option.bind_some, show idxName l nm 0 ≥ 0 by omega, show 0 ≤ idxName l nm 0 by omega, show idxName l nm 0 < (l.length : Int) by omega, show (rd_T134 l (idxName l nm 0)).f2.size + s.size ≤ 9223372036854775807 by omega, hnm, e]
          exact Ev.now _

theorem asc_pw : ∀ (l : List S134) (lo : Int), asc lo l = true → (∀ x ∈ l, lo ≤ x.f0) ∧ l.Pairwise (fun x y => x.f0 < y.f0)
  | [], _, _ => ⟨by simp, List.Pairwise.nil⟩
  | x :: t, lo, h => by
    simp only [asc, Bool.and_eq_true, decide_eq_true_eq] at h
    obtain ⟨h1, h2⟩ := asc_pw t (x.f0 + 1) h.2
    refine ⟨fun y hy => ?_, List.pairwise_cons.2 ⟨fun y hy => by have := h1 y hy; omega, h2⟩⟩
    rcases List.mem_cons.1 hy with rfl | hy
    · exact h.1.1
    · have := h1 y hy; omega
theorem erase_oth (nm : Int) : ∀ (l : List S134) (i : Int), l.Pairwise (fun x y => x.f0 < y.f0) → 0 ≤ i → 0 ≤ idxName l nm i → l.eraseIdx (idxName l nm i - i).toNat = oth nm l
  | [], i, _, h, h1 => by simp [idxName] at h1
  | x :: t, i, hp, h, h1 => by
    obtain ⟨hx, ht⟩ := List.pairwise_cons.1 hp
    simp only [idxName] at h1 ⊢
    by_cases c : x.f0 = nm
    · simp only [c, ↓reduceIte, Int.sub_self, Int.toNat_zero, List.eraseIdx_cons_zero]
      rw [oth_cons_eq c]
      unfold oth
      symm
      rw [List.filter_eq_self]
      intro y hy
      have := hx y hy
      simp only [ne_eq, decide_eq_true_eq]
      omega
    · simp only [c, ↓reduceIte] at h1 ⊢
      have ih := erase_oth nm t (i + 1) ht (by omega) h1
      have hb := idx_b nm t (i + 1) (by omega)
      have e : (idxName t nm (i + 1) - i).toNat = (idxName t nm (i + 1) - (i + 1)).toNat + 1 := by omega
      rw [e, List.eraseIdx_cons_succ, ih, oth_cons_ne c]
theorem place_head (f : S134) (m : List S134) (h : ∀ x ∈ m, f.f0 ≤ x.f0) : placeL m f = f :: m := by
  have e : placeIdx m f.f0 = 0 := by
    cases m with
    | nil => rfl
    | cons x t =>
      have := h x (by simp)
      have hn : ¬ x.f0 < f.f0 := by omega
      simp [placeIdx, hn]
  simp [placeL, e]
theorem putG_oth (f : S134) : ∀ (m : List S134), m.Pairwise (fun x y => x.f0 < y.f0) → putG f m = placeL (oth f.f0 m) f
  | [], _ => by rw [place_head f _ (by simp [oth])]; rfl
  | x :: t, hp => by
    obtain ⟨hx, ht⟩ := List.pairwise_cons.1 hp
    by_cases c : x.f0 ≥ f.f0
    · rw [place_head f (oth f.f0 (x :: t)) (fun y hy => by
        have hy' := (List.mem_filter.1 hy).1
        rcases List.mem_cons.1 hy' with rfl | hy'
        · exact c
        · have := hx y hy'; omega)]
      simp only [putG, c, ↓reduceIte]
    · have ih := putG_oth f t ht
      have e : ∀ m, placeIdx (x :: m) f.f0 = placeIdx m f.f0 + 1 := fun m => by
        have : x.f0 < f.f0 := by omega
        simp [placeIdx, this]
      rw [oth_cons_ne (by omega)]
      unfold placeL at ih ⊢
      simp only [putG, c, ↓reduceIte, e, List.take_succ_cons, List.drop_succ_cons, List.cons_append, ih]
theorem del_oth (nm tt : Int) (l : List S134) : l.filter (fun x => !delP nm tt x) = oth tt (oth nm l) := by
  unfold oth
  rw [List.filter_filter]
  congr 1
  funext x
  unfold delP
  by_cases c1 : x.f0 = nm <;> by_cases c2 : x.f0 = tt <;> simp [c1, c2]
theorem implDiskMove_ev (room : Int) (l : List S134) (nm tt : Int) (h1 : dsize l ≤ 1152921504606846976) (hl : l.length ≤ 3518437208878) : Ev (fun k => impl_DiskMove.f k room l nm tt) (diskMove room l nm tt) := by
  unfold impl_DiskMove.f diskMove
  refine Ev.bind (implDiskOk_ev room l h1 (by omega)) ?_
  cases h : diskOk room l
  · simp only [Bool.false_eq_true, ↓reduceIte, Bool.false_and]; exact Ev.now _
  have hb := diskOk_b h
  simp only [Bool.true_eq_false, ↓reduceIte, Bool.true_and, isFile_eq, Option.bind_some]
  cases h2 : inr nm 0 7
  · simp only [Bool.false_and, Bool.false_eq_true, ↓reduceIte]; exact Ev.now _
  simp only [Bool.true_eq_false, ↓reduceIte, Bool.true_and]
  cases h3 : inr tt 0 7
  · simp only [Bool.false_and, Bool.false_eq_true, ↓reduceIte]; exact Ev.now _
  simp only [Bool.true_eq_false, ↓reduceIte, Bool.true_and]
  by_cases h4 : nm = tt
  · simp only [h4, beq_self_eq_true, Bool.not_true, Bool.false_eq_true, ↓reduceIte]; exact Ev.now _
  · have h5 : (nm == tt) = false := by simpa using h4
    simp only [h4, h5, Bool.not_false, ↓reduceIte, moveCore, show l.length ≤ 1000 by omega]
    by_cases c : idxName l nm 0 < 0
    · simp only [c, ↓reduceIte]; exact Ev.now _
    · have hp := (asc_pw l 0 (diskOk_asc h)).2
      have he := erase_oth nm l 0 hp (by omega) (by omega)
      rw [Int.sub_zero] at he
      have hg := putG_oth (movF l nm tt) (oth nm l) (hp.filter _)
      simp only [c, ↓reduceIte, he, hg, del_oth]
      exact Ev.now _

def syncF (l : List S134) (nm : Int) : S134 := ⟨nm, (rd_T134 l (idxName l nm 0)).f1 ++ (rd_T134 l (idxName l nm 0)).f2, (⟨#[]⟩ : ByteArray)⟩
def diskSync (room : Int) (l : List S134) (nm : Int) : Int × List S134 × Int :=
  if (diskOk room l && inr nm 0 7) = true then (if idxName l nm 0 < 0 then (room, l, 2) else (room, l.set (idxName l nm 0).toNat (syncF l nm), 0)) else (0, [], 1)
theorem specDiskSync_ev (room : Int) (l : List S134) (nm : Int) (h1 : dsize l ≤ 1152921504606846976) (hl : l.length ≤ 3518437208878) : Ev (fun k => spec_DiskSync.f k room l nm) (diskSync room l nm) := by
  unfold spec_DiskSync.f diskSync
  refine Ev.bind (specDiskOk_ev room l h1 (by omega)) ?_
  have hj : Ev (fun k => spec_DiskSync.j0 k nm true room l) (0, [], 1) := by
    refine Ev.step (f := fun _ => some (0, [], 1)) (fun k => ?_) (Ev.now _)
    simp only [spec_DiskSync.j0, ↓reduceIte]
  cases h : diskOk room l
  · simp only [Bool.false_eq_true, ↓reduceIte, Bool.false_and]; exact hj
  · simp only [↓reduceIte, Bool.true_and, l3Name_eq, Option.bind_some]
    cases h2 : inr nm 0 7
    · simp only [Bool.not_false, Bool.false_eq_true, ↓reduceIte]; exact hj
    · simp only [Bool.not_true, ↓reduceIte]
      refine Ev.step (fun k => by simp only [spec_DiskSync.j0, Bool.false_eq_true, ↓reduceIte]; rfl) ?_
      refine Ev.bind (findS_ev room l nm (by omega)) ?_
      by_cases c : idxName l nm 0 < 0
      · simp only [c, ↓reduceIte, l3Copy_eq room l hl, Option.bind_some]; exact Ev.now _
      · have hb := idx_b nm l 0 (by omega)
        have hm := dsize_mem (rdF_mem l (idxName l nm 0) (by omega) (by omega))
        have k1 : 0 ≤ idxName l nm 0 := by omega
        have k2 : idxName l nm 0 < (l.length : Int) := by omega
        have k3 : ((rd_T134 l (idxName l nm 0)).f1).size + ((rd_T134 l (idxName l nm 0)).f2).size ≤ 9223372036854775807 := by omega
        simp only [c, ↓reduceIte, k1, k2, k3]
        refine Ev.bind (l3Put_ev room l (syncF l nm) hl) ?_
        have e := putG_set (syncF l nm) l 0 0 (diskOk_asc h) (by omega) k1
        rw [show (syncF l nm).f0 = nm from rfl, Int.sub_zero] at e
        rw [e]
        exact Ev.now _
def diskRead (room : Int) (l : List S134) (nm : Int) : ByteArray × Bool := if diskOk room l = true then (if idxName l nm 0 < 0 then ((⟨#[]⟩ : ByteArray), false) else (((rd_T134 l (idxName l nm 0)).f1) ++ ((rd_T134 l (idxName l nm 0)).f2), true)) else ((⟨#[]⟩ : ByteArray), false)
theorem diskRead_tail (room : Int) (l : List S134) (nm : Int) (h1 : dsize l ≤ 1152921504606846976) : (if diskOk room l = true then (if idxName l nm 0 < 0 then (some ((⟨#[]⟩ : ByteArray), false)) else (if 0 ≤ idxName l nm 0 then (if idxName l nm 0 < (l.length : Int) then (if ((rd_T134 l (idxName l nm 0)).f1).size + ((rd_T134 l (idxName l nm 0)).f2).size ≤ 9223372036854775807 then (some (((rd_T134 l (idxName l nm 0)).f1) ++ ((rd_T134 l (idxName l nm 0)).f2), true)) else (none)) else (none)) else (none))) else (some ((⟨#[]⟩ : ByteArray), false))) = some (diskRead room l nm) := by
  unfold diskRead
  split
  · split
    · rfl
    · rename_i h
      have hb := idx_b nm l 0 (by omega)
      have hm := dsize_mem (rdF_mem l (idxName l nm 0) (by omega) (by omega))
      rw [if_pos (by omega), if_pos (by omega), if_pos (by omega)]
  · rfl

theorem asc_names : ∀ (l l' : List S134) (lo : Int), l.map (·.f0) = l'.map (·.f0) → asc lo l = asc lo l'
  | [], [], lo, _ => rfl
  | [], y :: t, lo, h => by simp at h
  | x :: s, [], lo, h => by simp at h
  | x :: s, y :: t, lo, h => by
    simp only [List.map_cons, List.cons.injEq] at h
    simp only [asc, h.1, asc_names s t _ h.2]
theorem idx_name (nm : Int) : ∀ (l : List S134) (i : Int) (h : 0 ≤ i) (h2 : 0 ≤ idxName l nm i), ∃ x, l[(idxName l nm i - i).toNat]? = some x ∧ x.f0 = nm
  | [], i, h, h2 => by simp [idxName] at h2
  | x :: t, i, h, h2 => by
    simp only [idxName] at h2 ⊢
    by_cases c : x.f0 = nm
    · simp only [c, ↓reduceIte, Int.sub_self]
      exact ⟨x, by simp, c⟩
    · simp only [c, ↓reduceIte] at h2 ⊢
      obtain ⟨y, hy, e⟩ := idx_name nm t (i + 1) (by omega) h2
      have hb := idx_b nm t (i + 1) (by omega)
      have : (idxName t nm (i + 1) - i).toNat = (idxName t nm (i + 1) - (i + 1)).toNat + 1 := by omega
      exact ⟨y, by rw [this, List.getElem?_cons_succ]; exact hy, e⟩
theorem rdF_get (l : List S134) (i : Nat) (x : S134) (h : l[i]? = some x) : rd_T134 l (i : Int) = x := by
  unfold rd_T134
  simp [List.getD_eq_getElem?_getD, h]
theorem idx_rd (nm : Int) (l : List S134) (h2 : 0 ≤ idxName l nm 0) : (rd_T134 l (idxName l nm 0)).f0 = nm ∧ l[(idxName l nm 0).toNat]? = some (rd_T134 l (idxName l nm 0)) := by
  obtain ⟨x, hx, e⟩ := idx_name nm l 0 (by omega) h2
  rw [Int.sub_zero] at hx
  have := rdF_get l _ x hx
  rw [show ((idxName l nm 0).toNat : Int) = idxName l nm 0 by omega] at this
  rw [this]; exact ⟨e, hx⟩
theorem set_names (l : List S134) (i : Nat) (f x : S134) (h : l[i]? = some x) (e : f.f0 = x.f0) : (l.set i f).map (·.f0) = l.map (·.f0) := by
  have hlt : i < l.length := by
    rcases Nat.lt_or_ge i l.length with h1 | h1
    · exact h1
    · rw [List.getElem?_eq_none h1] at h; cases h
  rw [List.map_set]
  apply List.ext_getElem? 
  intro j
  rw [List.getElem?_set]
  split
  · rename_i c
    subst c
    rw [List.length_map, if_pos hlt, List.getElem?_map, h]
    simp [e]
  · rfl
theorem dsize_set_eq : ∀ (l : List S134) (i : Nat) (f x : S134), l[i]? = some x → dsize (l.set i f) + (x.f1.size + x.f2.size) = dsize l + (f.f1.size + f.f2.size)
  | [], i, f, x, h => by simp at h
  | y :: t, 0, f, x, h => by
    simp at h; subst h
    simp only [List.set_cons_zero, dsize]; omega
  | y :: t, i + 1, f, x, h => by
    have := dsize_set_eq t i f x (by simpa using h)
    simp only [List.set_cons_succ, dsize]; omega
theorem idx_asc : ∀ (l : List S134) (lo i : Int) (j : Nat) (x : S134), asc lo l = true → l[j]? = some x → idxName l x.f0 i = i + j
  | [], lo, i, j, x, h, hx => by simp at hx
  | y :: t, lo, i, 0, x, h, hx => by
    simp at hx; subst hx
    simp [idxName]
  | y :: t, lo, i, j + 1, x, h, hx => by
    simp only [asc, Bool.and_eq_true, decide_eq_true_eq] at h
    have hx' : t[j]? = some x := by simpa using hx
    have hg := asc_gt t (y.f0 + 1) x h.2 (List.mem_of_getElem? hx')
    simp only [idxName]
    rw [if_neg (by omega), idx_asc t (y.f0 + 1) (i + 1) j x h.2 hx']
    omega
theorem read_at (room : Int) (l : List S134) (j : Nat) (x : S134) (h : diskOk room l = true) (hx : l[j]? = some x) : diskRead room l x.f0 = (x.f1 ++ x.f2, true) := by
  have hi := idx_asc l 0 0 j x (diskOk_asc h) hx
  rw [Int.zero_add] at hi
  unfold diskRead
  rw [if_pos h, hi, if_neg (by omega), rdF_get l j x hx]
theorem implDiskRead_ev (room : Int) (l : List S134) (nm : Int) (h1 : dsize l ≤ 1152921504606846976) (hl : l.length ≤ 140737488355328) : Ev (fun k => impl_DiskRead.f k room l nm) (diskRead room l nm) := by
  unfold impl_DiskRead.f impl_fileAt.f
  simp only [Option.bind_some]
  refine Ev.bind (implDiskOk_ev room l h1 hl) ?_
  rw [diskRead_tail room l nm h1]
  exact Ev.now _

theorem specDiskRead_ev (room : Int) (l : List S134) (nm : Int) (h1 : dsize l ≤ 1152921504606846976) (hl : l.length ≤ 140737488355328) : Ev (fun k => spec_DiskRead.f k room l nm) (diskRead room l nm) := by
  unfold spec_DiskRead.f
  refine Ev.bind (findS_ev room l nm hl) ?_
  refine Ev.bind (specDiskOk_ev room l h1 hl) ?_
  rw [diskRead_tail room l nm h1]
  exact Ev.now _

def diskSize (room : Int) (l : List S134) : Int := if diskOk room l = true then dsize l else -1
theorem specDiskSize_ev (room : Int) (l : List S134) (h1 : dsize l ≤ 1152921504606846976) (hl : l.length ≤ 140737488355328) : Ev (fun k => spec_DiskSize.f k room l) (diskSize room l) := by
  unfold spec_DiskSize.f diskSize
  refine Ev.bind (specDiskOk_ev room l h1 hl) ?_
  cases diskOk room l
  · simp only [Bool.false_eq_true, ↓reduceIte]; exact Ev.now _
  · simp only [↓reduceIte]
    refine Ev.congr (fun k => ?_) (l3Size_ev room l h1 hl)
    first | rfl | (cases spec_l3Size.f k room l <;> rfl)
theorem implDiskSize_ev (room : Int) (l : List S134) (h1 : dsize l ≤ 1152921504606846976) (hl : l.length ≤ 140737488355328) : Ev (fun k => impl_DiskSize.f k room l) (diskSize room l) := by
  unfold impl_DiskSize.f diskSize
  refine Ev.bind (implDiskOk_ev room l h1 hl) ?_
  cases diskOk room l
  · simp only [Bool.false_eq_true, ↓reduceIte]; exact Ev.now _
  · simp only [↓reduceIte]
    refine Ev.congr (fun k => ?_) (sizeOf_ev room l h1 hl)
    first | rfl | (cases impl_sizeOf.f k room l <;> rfl)

theorem l1Byte_ok (b : List Int) (i h : Int) (hi : 0 ≤ i ∧ i ≤ 9223372036854775807) (hb : b.length ≤ 140737488355328) : ∃ x i' h', spec_l1Byte.f b i h = some (x, i', h') ∧ 0 ≤ i' ∧ i' ≤ 9223372036854775807 := by
  unfold spec_l1Byte.f
  by_cases c : i < (b.length : Int)
  · rw [if_pos c, if_pos hi.1, w64 (x := i + 1) (by omega) (by omega)]
    exact ⟨_, _, _, rfl, by omega, by omega⟩
  · rw [if_neg c]
    exact ⟨_, _, _, rfl, hi.1, hi.2⟩
theorem l1Below_ok (b : List Int) (i h a : Int) (hi : 0 ≤ i ∧ i ≤ 9223372036854775807) (hb : b.length ≤ 140737488355328) : ∃ x i' h', spec_l1Below.f b i h a = some (x, i', h') ∧ (0 ≤ i' ∧ i' ≤ 9223372036854775807) ∧ (a ≤ 0 → x = 0) ∧ (0 < a → -a < x ∧ x < a) := by
  unfold spec_l1Below.f
  by_cases c : a ≤ 0
  · rw [if_pos c]
    exact ⟨_, _, _, rfl, hi, fun _ => rfl, fun h => by omega⟩
  · rw [if_neg c]
    have ht : ∀ x : Int, -a < Int.tmod x a ∧ Int.tmod x a < a := fun x => by
      have h1 := Int.tmod_lt_of_pos x (show 0 < a by omega)
      have h2 := Int.lt_tmod_of_pos x (show 0 < a by omega)
      omega
    by_cases c2 : a ≤ 256
    · rw [if_pos c2]
      obtain ⟨x, i', h', e, p⟩ := l1Byte_ok b i h hi hb
      rw [e]
      simp only [Option.bind_some]
      rw [if_neg (by omega)]
      exact ⟨_, _, _, rfl, p, fun h => by omega, fun _ => ht _⟩
    · rw [if_neg c2]
      obtain ⟨x1, i1, h1, e1, p1⟩ := l1Byte_ok b i h hi hb
      obtain ⟨x2, i2, h2, e2, p2⟩ := l1Byte_ok b i1 h1 p1 hb
      obtain ⟨x3, i3, h3, e3, p3⟩ := l1Byte_ok b i2 h2 p2 hb
      obtain ⟨x4, i4, h4, e4, p4⟩ := l1Byte_ok b i3 h3 p3 hb
      rw [e1]; simp only [Option.bind_some]
      rw [e2]; simp only [Option.bind_some]
      rw [e3]; simp only [Option.bind_some]
      rw [e4]; simp only [Option.bind_some]
      rw [if_neg (by omega)]
      exact ⟨_, _, _, rfl, p4, fun h => by omega, fun _ => ht _⟩
theorem l1New_l (l : List Int) (hl : l.length ≤ 140737488355328) (d : Nat) : ∀ (h i : Int), 0 ≤ i → i + d = 4000 → ∃ h', Ev (fun k => spec_l1New.l0 k l h i) (l, 0, h') := by
  induction d with
  | zero =>
    intro h i h0 hd
    refine ⟨h, ?_⟩
    refine Ev.step (f := fun _ => some (l, 0, h)) (fun k => ?_) (Ev.now _)
    simp only [spec_l1New.l0]
    split
    · rw [if_neg (by omega)]
    · rfl
  | succ d ih =>
    intro h i h0 hd
    by_cases c : i < (l.length : Int)
    · obtain ⟨h', hh⟩ := ih (Go.bits .and .i64 (wrap64 ((wrap64 ((wrap64 (h * 131)) + (wrap64 (rd l i)))) + 7)) 1073741823) (i + 1) (by omega) (by omega)
      refine ⟨h', Ev.step (fun k => ?_) hh⟩
      simp only [spec_l1New.l0]
      rw [if_pos c, if_pos (by omega), if_pos h0, w64 (x := i + 1) (by omega) (by omega)]
    · refine ⟨h, Ev.step (f := fun _ => some (l, 0, h)) (fun k => ?_) (Ev.now _)⟩
      simp only [spec_l1New.l0]
      rw [if_neg c]
theorem l1New_ev (l : List Int) (hl : l.length ≤ 140737488355328) : ∃ h', Ev (fun k => spec_l1New.f k l) (l, 0, h') := by
  unfold spec_l1New.f
  exact l1New_l l hl 4000 _ 0 (by omega) (by omega)
theorem l1Once_ok (b : List Int) (i h a : Int) (hi : 0 ≤ i ∧ i ≤ 9223372036854775807) (hb : b.length ≤ 140737488355328) : ∃ x i' h', spec_l1Once.f b i h a = some (x, i', h') ∧ (0 ≤ i' ∧ i' ≤ 9223372036854775807) := by
  unfold spec_l1Once.f
  obtain ⟨x, i', h', e, p, _⟩ := l1Below_ok b i h a hi hb
  rw [e]
  exact ⟨_, _, _, rfl, p⟩

theorem l1DrawBytes_l (b : List Int) (hb : b.length ≤ 140737488355328) (n : Int) (hn : n ≤ 1000000) (d : Nat) : ∀ (acc : List Int) (j i h : Int), By acc → (acc.length : Int) = j → 0 ≤ j → (j ≤ n → j + d = n) → (n < j → d = 0) → (0 ≤ i ∧ i ≤ 9223372036854775807) → ∃ r i' h', Ev (fun k => spec_l1DrawBytes.l0 k acc n j b i h) (r, i', h') ∧ By r ∧ ((r.length : Int) ≤ n ∨ r = acc) ∧ (0 ≤ i' ∧ i' ≤ 9223372036854775807) := by
  induction d with
  | zero =>
    intro acc j i h ha hl h0 hd hd2 hi
    refine ⟨acc, i, h, Ev.step (f := fun _ => some (acc, i, h)) (fun k => ?_) (Ev.now _), ha, .inr rfl, hi⟩
    simp only [spec_l1DrawBytes.l0]
    rw [if_neg (by omega)]
  | succ d ih =>
    intro acc j i h ha hl h0 hd hd2 hi
    have c : j < n := by omega
    obtain ⟨x, i1, h1, e, p⟩ := l1Byte_ok b i h hi hb
    obtain ⟨r, i', h', hh, hr, hrl, hi'⟩ := ih (acc ++ [x % 256]) (j + 1) i1 h1 (fun y hy => by
      rcases List.mem_append.1 hy with hy | hy
      · exact ha y hy
      · simp at hy; omega) (by simp; omega) (by omega) (by omega) (by omega) p
    refine ⟨r, i', h', Ev.step (fun k => ?_) hh, hr, .inl ?_, hi'⟩
    · simp only [spec_l1DrawBytes.l0]
      rw [if_pos c, e]
      simp only [Option.bind_some]
      rw [if_pos (by omega), w64 (by omega) (by omega)]
    · rcases hrl with h | rfl
      · exact h
      · simp; omega
theorem l1DrawBytes_ev (b : List Int) (i h a : Int) (hb : b.length ≤ 140737488355328) (hi : 0 ≤ i ∧ i ≤ 9223372036854775807) (ha : 0 ≤ a ∧ a ≤ 1000000) : ∃ r i' h', Ev (fun k => spec_l1DrawBytes.f k b i h a) (r, i', h') ∧ By r ∧ (r.length : Int) ≤ a ∧ (0 ≤ i' ∧ i' ≤ 9223372036854775807) := by
  unfold spec_l1DrawBytes.f
  rw [w64 (x := a + 1) (by omega) (by omega)]
  obtain ⟨n, i1, h1, e, p, hx0, hx⟩ := l1Below_ok b i h (a + 1) hi hb
  have hx := hx (by omega)
  obtain ⟨r, i', h', hh, hr, hrl, hi'⟩ := l1DrawBytes_l b hb n (by omega) n.toNat [] 0 i1 h1 (by intro y hy; simp at hy) rfl (by omega) (by omega) (by omega) p
  refine ⟨r, i', h', ?_, hr, ?_, hi'⟩
  · rw [e]
    simp only [Option.bind_some]
    exact hh
  · rcases hrl with h | rfl
    · omega
    · simp; omega

theorem and_maskZ (i : Nat) (hi : i ≤ 62) (x : Int) : Go.bits .and .i64 x (2 ^ i - 1) = x % 2 ^ i := by
  have hpos : 0 < 2 ^ i := Nat.two_pow_pos i
  have hle : 2 ^ i ≤ 2 ^ 62 := Nat.pow_le_pow_right (by decide) hi
  have hc : ((2 : Int) ^ i - 1) = ((2 ^ i - 1 : Nat) : Int) := by rw [Int.natCast_sub hpos]; simp
  have hb : IntKind.i64.bits = 64 := rfl
  have hd : ((2 : Int) ^ i) ∣ ((2 : Int) ^ 64) := ⟨2 ^ (64 - i), by rw [← Int.pow_add]; congr 1; omega⟩
  have hx : (((x % (2 : Int) ^ 64).toNat : Nat) : Int) = x % (2 : Int) ^ 64 := Int.toNat_of_nonneg (Int.emod_nonneg _ (by decide))
  rw [hc]
  simp only [Go.bits, hb, BitVec.ofInt_natCast, BitVec.toNat_and, BitVec.toNat_ofNat, BitVec.toNat_ofInt]
  rw [Nat.mod_eq_of_lt (show 2 ^ i - 1 < 2 ^ 64 by omega), Nat.and_two_pow_sub_one_eq_mod]
  have e : (((x % ((2 ^ 64 : Nat) : Int)).toNat % 2 ^ i : Nat) : Int) = x % 2 ^ i := by
    rw [Int.natCast_emod]
    have : ((2 ^ 64 : Nat) : Int) = (2 : Int) ^ 64 := by simp
    rw [this, hx]
    have h2 : ((2 ^ i : Nat) : Int) = (2 : Int) ^ i := by simp
    rw [h2, Int.emod_emod_of_dvd _ hd]
  rw [e]
  have h1 := Int.emod_nonneg x (show (2 : Int) ^ i ≠ 0 by exact_mod_cast Nat.ne_of_gt hpos)
  have h2 := Int.emod_lt_of_pos x (show (0 : Int) < 2 ^ i by exact_mod_cast hpos)
  have h3 : (2 : Int) ^ i ≤ 2 ^ 62 := by exact_mod_cast hle
  exact wraps_i64 _ h1 (by omega)
theorem and255 (x : Int) : Go.bits .and .i64 x 255 = x % 256 := and_maskZ 8 (by decide) x

theorem l1Byte_nn (b : List Int) (i h x : Int) (i' h' : Int) (e : spec_l1Byte.f b i h = some (x, i', h')) : 0 ≤ x ∧ x ≤ 255 := by
  unfold spec_l1Byte.f at e
  simp only [and255] at e
  split at e
  · split at e
    · simp only [Option.some.injEq, Prod.mk.injEq] at e; omega
    · simp at e
  · simp only [Option.some.injEq, Prod.mk.injEq] at e; omega
theorem l1Below_nn (b : List Int) (i h a x : Int) (i' h' : Int) (e : spec_l1Below.f b i h a = some (x, i', h')) : 0 ≤ x := by
  unfold spec_l1Below.f at e
  split at e
  · simp only [Option.some.injEq, Prod.mk.injEq] at e; omega
  · split at e
    · obtain ⟨⟨x1, i1, h1⟩, e1, e⟩ := Option.bind_eq_some_iff.1 e
      have := l1Byte_nn _ _ _ _ _ _ e1
      simp only at e
      split at e
      · simp at e
      · simp only [Option.some.injEq, Prod.mk.injEq] at e
        rw [← e.1]; exact Int.tmod_nonneg _ (by omega)
    · obtain ⟨⟨x1, i1, h1⟩, e1, e⟩ := Option.bind_eq_some_iff.1 e
      obtain ⟨⟨x2, i2, h2⟩, e2, e⟩ := Option.bind_eq_some_iff.1 e
      obtain ⟨⟨x3, i3, h3⟩, e3, e⟩ := Option.bind_eq_some_iff.1 e
      obtain ⟨⟨x4, i4, h4⟩, e4, e⟩ := Option.bind_eq_some_iff.1 e
      have b1 := l1Byte_nn _ _ _ _ _ _ e1
      have b2 := l1Byte_nn _ _ _ _ _ _ e2
      have b3 := l1Byte_nn _ _ _ _ _ _ e3
      have b4 := l1Byte_nn _ _ _ _ _ _ e4
      simp only at e
      split at e
      · simp at e
      · simp only [Option.some.injEq, Prod.mk.injEq] at e
        rw [← e.1]
        refine Int.tmod_nonneg _ ?_
        rw [w64 (x := x1 * 16777216) (by omega) (by omega), w64 (x := x2 * 65536) (by omega) (by omega), w64 (x := x3 * 256) (by omega) (by omega), w64 (x := x1 * 16777216 + x2 * 65536) (by omega) (by omega), w64 (x := x1 * 16777216 + x2 * 65536 + x3 * 256) (by omega) (by omega), w64 (by omega) (by omega)]
        omega
theorem rd_mem (l : List Int) (i : Int) (h0 : 0 ≤ i) (h1 : i < l.length) : rd l i ∈ l := by
  unfold rd
  rw [List.getD_eq_getElem?_getD, List.getElem?_eq_getElem (by omega)]
  exact List.getElem_mem _
theorem l1PickInt_ok (b : List Int) (i h : Int) (l : List Int) (hi : 0 ≤ i ∧ i ≤ 9223372036854775807) (hb : b.length ≤ 140737488355328) (hl : 0 < l.length) : ∃ x i' h', spec_l1PickInt.f b i h l = some (x, i', h') ∧ (0 ≤ i' ∧ i' ≤ 9223372036854775807) ∧ x ∈ l := by
  obtain ⟨x, i', h', e, p, _, hx⟩ := l1Below_ok b i h l.length hi hb
  have hn := l1Below_nn _ _ _ _ _ _ _ e
  have hx := hx (by omega)
  refine ⟨rd l x, i', h', ?_, p, rd_mem l x hn hx.2⟩
  unfold spec_l1PickInt.f
  rw [e]
  simp only [Option.bind_some]
  rw [if_pos hn, if_pos hx.2]
theorem toList_inj {a b : ByteArray} (h : a.toList = b.toList) : a = b := by
  rw [ByteArray.toList_eq, ByteArray.toList_eq] at h
  exact ByteArray.ext (Array.toList_inj.1 h)
theorem syncF_size (l : List S134) (nm : Int) (h : 0 ≤ idxName l nm 0) : ((syncF l nm).f1.size : Int) + (syncF l nm).f2.size ≤ dsize l := by
  have hb := idx_b nm l 0 (by omega)
  have hm := dsize_mem (rdF_mem l (idxName l nm 0) (by omega) (by omega))
  have : (⟨#[]⟩ : ByteArray).size = 0 := rfl
  simp only [syncF, ByteArray.size_append, this]; omega
theorem diskSync_b (room : Int) (l : List S134) (nm : Int) (h1 : dsize l ≤ 100000) (hl : l.length ≤ 10) : dsize (diskSync room l nm).2.1 ≤ 100000 ∧ (diskSync room l nm).2.1.length ≤ 10 := by
  have hn := dsize_nn l
  unfold diskSync
  split
  · rename_i h
    simp only [Bool.and_eq_true] at h
    have hb := diskOk_b h.1
    split
    · exact ⟨h1, hl⟩
    · have h2 := dsize_set l (idxName l nm 0).toNat (syncF l nm)
      have h3 := syncF_size l nm (by omega)
      exact ⟨by simp only; omega, by simp only [List.length_set]; omega⟩
  · simp [dsize]
theorem strOf_size (l : List Int) : (strOfNums l).size = l.length := by rw [← data_length, strOfNums_data, List.length_map]
theorem l3DrawText_ok (b : List Int) (i h a : Int) (hi : 0 ≤ i ∧ i ≤ 9223372036854775807) (hb : b.length ≤ 140737488355328) (ha : 0 ≤ a ∧ a ≤ 1000) : ∃ s i' h', Ev (fun k => spec_l3DrawText.f k b i h a) (s, i', h') ∧ (s.size : Int) ≤ a ∧ (0 ≤ i' ∧ i' ≤ 9223372036854775807) := by
  obtain ⟨r, i1, h1, e1, hr, hrl, p1⟩ := l1DrawBytes_ev b i h a hb hi (by omega)
  refine ⟨strOfNums r, i1, h1, ?_, by rw [strOf_size]; exact hrl, p1⟩
  unfold spec_l3DrawText.f
  exact Ev.bind e1 (Ev.now _)
theorem diskSync_room (room : Int) (l : List S134) (nm : Int) : (diskSync room l nm).1 = room ∨ (diskSync room l nm).1 = 0 := by
  unfold diskSync
  split
  · split <;> exact .inl rfl
  · exact .inr rfl
theorem diskMove_room (room : Int) (l : List S134) (nm to_ : Int) : (diskMove room l nm to_).1 = room ∨ (diskMove room l nm to_).1 = 0 := by
  unfold diskMove
  split
  · split <;> exact .inl rfl
  · exact .inr rfl
theorem diskAppend_room (room : Int) (l : List S134) (nm : Int) (s : ByteArray) : (diskAppend room l nm s).1 = room ∨ (diskAppend room l nm s).1 = 0 := by
  unfold diskAppend
  split
  · split <;> exact .inl rfl
  · exact .inr rfl
def DB (room : Int) (l : List S134) : Prop := (-9223372036854775808 ≤ room ∧ room ≤ 9223372036854775807) ∧ dsize l ≤ 100000 ∧ l.length ≤ 10
theorem drawRight_l (b : List Int) (hb : b.length ≤ 140737488355328) (d : Nat) : ∀ (x i h room : Int) (l : List S134), 0 ≤ x → x + d = 12 → (0 ≤ i ∧ i ≤ 9223372036854775807) → DB room l →
    ∃ room' l' i' h', Ev (fun k => spec_l3DrawRight.l0 k x b i h room l) (room', l', i', h') ∧ DB room' l' ∧ (0 ≤ i' ∧ i' ≤ 9223372036854775807) := by
  induction d with
  | zero =>
    intro x i h room l hx hd hi hD
    obtain ⟨y, i1, h1, e1, p1, _, b1⟩ := l1Below_ok b i h 12 hi hb
    have b1 := b1 (by omega)
    refine ⟨room, l, i1, h1, ?_, hD, p1⟩
    refine Ev.step (f := fun _ => some (room, l, i1, h1)) (fun k => ?_) (Ev.now _)
    simp only [spec_l3DrawRight.l0, e1, Option.bind_some]
    rw [if_neg (by omega)]
  | succ d ih =>
    intro x i h room l hx hd hi hD
    have hw : wrap64 (x + 1) = x + 1 := w64 (by omega) (by omega)
    obtain ⟨y, i1, h1, e1, p1, _, b1⟩ := l1Below_ok b i h 12 hi hb
    by_cases c : ¬ x < y
    · refine ⟨room, l, i1, h1, ?_, hD, p1⟩
      refine Ev.step (f := fun _ => some (room, l, i1, h1)) (fun k => ?_) (Ev.now _)
      simp only [spec_l3DrawRight.l0, e1, Option.bind_some, c, ↓reduceIte]
    · replace c := Decidable.not_not.1 c
      obtain ⟨z, i2, h2, e2, p2, _, b2⟩ := l1Below_ok b i1 h1 5 p1 hb
      have key : ∀ v : Bool, ∃ room' l' i' h', Ev (fun k => spec_l3DrawRight.j2 k x z v b i2 h2 room l) (room', l', i', h') ∧ DB room' l' ∧ (0 ≤ i' ∧ i' ≤ 9223372036854775807) := by
        intro v
        obtain ⟨u, i3, h3, e3, p3, _, b3⟩ := l1Below_ok b i2 h2 5 p2 hb
        cases v
        · by_cases c3 : z = 3
          · have hv := diskSync_b room l u hD.2.1 hD.2.2
            have hroom := diskSync_room room l u
            have es := specDiskSync_ev room l u (by have := hD.2.1; omega) (by have := hD.2.2; omega)
            generalize diskSync room l u = U at *
            obtain ⟨u0, u1, u2⟩ := U
            simp only at hv hroom
            by_cases cu : u2 = 1
            · obtain ⟨r', l', i', h', e', D', p'⟩ := ih (x + 1) i3 h3 room l (by omega) (by omega) p3 hD
              refine ⟨r', l', i', h', ?_, D', p'⟩
              refine Ev.step (fun k => by simp only [spec_l3DrawRight.j2, Bool.false_eq_true, ↓reduceIte, c3, e3, Option.bind_some]; rfl) ?_
              refine Ev.bind es ?_
              simp only [cu, ↓reduceIte, hw]; exact e'
            · obtain ⟨r', l', i', h', e', D', p'⟩ := ih (x + 1) i3 h3 u0 u1 (by omega) (by omega) p3 ⟨by have := hD.1; omega, hv⟩
              refine ⟨r', l', i', h', ?_, D', p'⟩
              refine Ev.step (fun k => by simp only [spec_l3DrawRight.j2, Bool.false_eq_true, ↓reduceIte, c3, e3, Option.bind_some]; rfl) ?_
              refine Ev.bind es ?_
              simp only [cu, ↓reduceIte, hw]; exact e'
          · obtain ⟨t, i4, h4, e4, p4, _, b4⟩ := l1Below_ok b i3 h3 8 p3 hb
            have hv := diskMove_b room l u t hD.2.1 hD.2.2
            have hroom := diskMove_room room l u t
            have es := specDiskMove_ev room l u t (by have := hD.2.1; omega) (by have := hD.2.2; omega)
            generalize diskMove room l u t = U at *
            obtain ⟨u0, u1, u2⟩ := U
            simp only at hv hroom
            by_cases cu : u2 = 1
            · obtain ⟨r', l', i', h', e', D', p'⟩ := ih (x + 1) i4 h4 room l (by omega) (by omega) p4 hD
              refine ⟨r', l', i', h', ?_, D', p'⟩
              refine Ev.step (fun k => by simp only [spec_l3DrawRight.j2, Bool.false_eq_true, ↓reduceIte, c3, e3, e4, Option.bind_some]; rfl) ?_
              refine Ev.bind es ?_
              simp only [cu, ↓reduceIte, hw]; exact e'
            · obtain ⟨r', l', i', h', e', D', p'⟩ := ih (x + 1) i4 h4 u0 u1 (by omega) (by omega) p4 ⟨by have := hD.1; omega, hv⟩
              refine ⟨r', l', i', h', ?_, D', p'⟩
              refine Ev.step (fun k => by simp only [spec_l3DrawRight.j2, Bool.false_eq_true, ↓reduceIte, c3, e3, e4, Option.bind_some]; rfl) ?_
              refine Ev.bind es ?_
              simp only [cu, ↓reduceIte, hw]; exact e'
        · obtain ⟨s, i4, h4, e4, hs, p4⟩ := l3DrawText_ok b i3 h3 8 p3 hb (by omega)
          have hv := diskAppend_b room l u s hD.2.1 hD.2.2 (by omega)
          have hroom := diskAppend_room room l u s
          have es := specDiskAppend_ev room l u s (by have := hD.2.1; omega) (by have := hD.2.2; omega) (by omega)
          generalize diskAppend room l u s = U at *
          obtain ⟨u0, u1, u2⟩ := U
          simp only at hv hroom
          by_cases cu : u2 = 1
          · obtain ⟨r', l', i', h', e', D', p'⟩ := ih (x + 1) i4 h4 room l (by omega) (by omega) p4 hD
            refine ⟨r', l', i', h', ?_, D', p'⟩
            refine Ev.step (fun k => by simp only [spec_l3DrawRight.j2, ↓reduceIte, e3, Option.bind_some]; rfl) ?_
            refine Ev.bind e4 ?_
            refine Ev.bind es ?_
            simp only [cu, ↓reduceIte, hw]; exact e'
          · obtain ⟨r', l', i', h', e', D', p'⟩ := ih (x + 1) i4 h4 u0 u1 (by omega) (by omega) p4 ⟨by have := hD.1; omega, hv⟩
            refine ⟨r', l', i', h', ?_, D', p'⟩
            refine Ev.step (fun k => by simp only [spec_l3DrawRight.j2, ↓reduceIte, e3, Option.bind_some]; rfl) ?_
            refine Ev.bind e4 ?_
            refine Ev.bind es ?_
            simp only [cu, ↓reduceIte, hw]; exact e'
      by_cases z0 : z = 0
      · obtain ⟨r', l', i', h', e', D', p'⟩ := key (z == 0)
        refine ⟨r', l', i', h', Ev.step (fun k => ?_) e', D', p'⟩
        simp only [spec_l3DrawRight.l0, e1, e2, Option.bind_some, c, z0, ↓reduceIte]
      · by_cases z1 : z = 1
        · obtain ⟨r', l', i', h', e', D', p'⟩ := key (z == 1)
          refine ⟨r', l', i', h', Ev.step (fun k => ?_) e', D', p'⟩
          simp only [spec_l3DrawRight.l0, e1, e2, Option.bind_some, c, z0, z1, ↓reduceIte, show ¬ ((1 : Int) = 0) by decide]
        · obtain ⟨r', l', i', h', e', D', p'⟩ := key (z == 2)
          refine ⟨r', l', i', h', Ev.step (fun k => ?_) e', D', p'⟩
          simp only [spec_l3DrawRight.l0, e1, e2, Option.bind_some, c, z0, z1, ↓reduceIte]
theorem l3DrawRight_ok (b : List Int) (hb : b.length ≤ 140737488355328) (i h : Int) (hi : 0 ≤ i ∧ i ≤ 9223372036854775807) :
    ∃ room l i' h', Ev (fun k => spec_l3DrawRight.f k b i h) (room, l, i', h') ∧ DB room l ∧ (0 ≤ i' ∧ i' ≤ 9223372036854775807) := by
  obtain ⟨x, i1, h1, e1, p1, _, b1⟩ := l1Below_ok b i h 200 hi hb
  have b1 := b1 (by omega)
  obtain ⟨y, i2, h2, e2, p2⟩ := l1Once_ok b i1 h1 9 p1 hb
  have hz : ∀ room : Int, -9223372036854775808 ≤ room → room ≤ 9223372036854775807 → DB room [] := fun room a c => ⟨⟨a, c⟩, by simp [dsize], by simp⟩
  cases y
  · obtain ⟨r', l', i', h', e', D', p'⟩ := drawRight_l b hb 12 0 i2 h2 (60 + x) [] (by omega) (by omega) p2 (hz _ (by omega) (by omega))
    refine ⟨r', l', i', h', ?_, D', p'⟩
    unfold spec_l3DrawRight.f
    simp only [e1, e2, Option.bind_some, Bool.false_eq_true, ↓reduceIte]
    rw [w64 (x := 60 + x) (by omega) (by omega)]
    exact Ev.step (fun k => by simp only [spec_l3DrawRight.j0]) e'
  · obtain ⟨z, i3, h3, e3, p3, m3⟩ := l1PickInt_ok b i2 h2 [0, 40000, 20] p2 hb (by simp)
    have hzb : 0 ≤ z ∧ z ≤ 40000 := by simp only [List.mem_cons, List.not_mem_nil, or_false] at m3; omega
    obtain ⟨r', l', i', h', e', D', p'⟩ := drawRight_l b hb 12 0 i3 h3 z [] (by omega) (by omega) p3 (hz _ (by omega) (by omega))
    refine ⟨r', l', i', h', ?_, D', p'⟩
    unfold spec_l3DrawRight.f
    simp only [e1, e2, e3, Option.bind_some, ↓reduceIte]
    exact Ev.step (fun k => by simp only [spec_l3DrawRight.j0]) e'
theorem dsize_snoc (x : S134) : ∀ l : List S134, dsize (l ++ [x]) = dsize l + x.f1.size + x.f2.size
  | [] => by simp [dsize]
  | y :: t => by have := dsize_snoc x t; simp only [List.cons_append, dsize, this]; omega
theorem l3DrawDisk_ok (b : List Int) (hb : b.length ≤ 140737488355328) (i h : Int) (hi : 0 ≤ i ∧ i ≤ 9223372036854775807) :
    ∃ room l i' h', Ev (fun k => spec_l3DrawDisk.f k b i h) (room, l, i', h') ∧ ((-9223372036854775808 ≤ room ∧ room ≤ 9223372036854775807) ∧ dsize l ≤ 100000 ∧ l.length ≤ 11) ∧ (0 ≤ i' ∧ i' ≤ 9223372036854775807) := by
  obtain ⟨room, l, i1, h1, e1, D1, p1⟩ := l3DrawRight_ok b hb i h hi
  obtain ⟨x, i2, h2, e2, p2, _, b2⟩ := l1Below_ok b i1 h1 25 p1 hb
  unfold spec_l3DrawDisk.f
  have D1l := D1.2.2
  by_cases x0 : x = 0
  · obtain ⟨z, i3, h3, e3, p3, m3⟩ := l1PickInt_ok b i2 h2 [(-1), 0, 40001, 3] p2 hb (by simp)
    have hzb : -1 ≤ z ∧ z ≤ 40001 := by simp only [List.mem_cons, List.not_mem_nil, or_false] at m3; omega
    refine ⟨z, l, i3, h3, ?_, ⟨by omega, D1.2.1, by omega⟩, p3⟩
    refine Ev.bind e1 ?_
    simp only [e2, e3, Option.bind_some, x0, ↓reduceIte]; exact Ev.now _
  · by_cases x1 : x = 1
    · obtain ⟨z, i3, h3, e3, p3, m3⟩ := l1PickInt_ok b i2 h2 [(-1), 0, 8, 7] p2 hb (by simp)
      refine ⟨room, l ++ [⟨z, (⟨#[]⟩ : ByteArray), (⟨#[]⟩ : ByteArray)⟩], i3, h3, ?_, ⟨D1.1, ?_, by simp; omega⟩, p3⟩
      · refine Ev.bind e1 ?_
        simp only [e2, e3, Option.bind_some, x0, x1, ↓reduceIte, show l.length < 3518437208883 by omega, show ¬ ((1 : Int) = 0) by decide]; exact Ev.now _
      · rw [dsize_snoc]
        have : (⟨#[]⟩ : ByteArray).size = 0 := rfl
        have := D1.2.1
        simp only; omega
    · refine ⟨room, l, i2, h2, ?_, ⟨D1.1, D1.2.1, by omega⟩, p2⟩
      refine Ev.bind e1 ?_
      simp only [e2, Option.bind_some, x0, x1, ↓reduceIte]; exact Ev.now _
theorem l3DrawName_ok (b : List Int) (hb : b.length ≤ 140737488355328) (i h : Int) (hi : 0 ≤ i ∧ i ≤ 9223372036854775807) :
    ∃ x i' h', spec_l3DrawName.f b i h = some (x, i', h') ∧ (0 ≤ i' ∧ i' ≤ 9223372036854775807) := by
  obtain ⟨y, i1, h1, e1, p1⟩ := l1Once_ok b i h 20 hi hb
  unfold spec_l3DrawName.f
  cases y
  · obtain ⟨x, i2, h2, e2, p2, _, b2⟩ := l1Below_ok b i1 h1 5 p1 hb
    refine ⟨x, i2, h2, ?_, p2⟩
    simp only [e1, e2, Option.bind_some, Bool.false_eq_true, ↓reduceIte]
  · obtain ⟨x, i2, h2, e2, p2, m2⟩ := l1PickInt_ok b i1 h1 [(-1), 8, 7] p1 hb (by simp)
    refine ⟨x, i2, h2, ?_, p2⟩
    simp only [e1, e2, Option.bind_some, ↓reduceIte]

theorem asc_iff : ∀ (l : List S134) (lo : Int), asc lo l = true ↔ ((∀ x ∈ l, lo ≤ x.f0 ∧ x.f0 ≤ 7) ∧ l.Pairwise (fun x y => x.f0 < y.f0))
  | [], lo => by simp [asc]
  | x :: t, lo => by
    simp only [asc, Bool.and_eq_true, decide_eq_true_eq, List.pairwise_cons, asc_iff t (x.f0 + 1), List.mem_cons, forall_eq_or_imp]
    constructor
    · rintro ⟨h1, h2, h3⟩
      exact ⟨⟨h1, fun y hy => ⟨by have := (h2 y hy).1; omega, (h2 y hy).2⟩⟩, fun y hy => by have := (h2 y hy).1; omega, h3⟩
    · rintro ⟨⟨h1, h2⟩, h3, h4⟩
      exact ⟨h1, fun y hy => ⟨by have := h3 y hy; omega, (h2 y hy).2⟩, h4⟩
theorem ok_iff (room : Int) (l : List S134) : diskOk room l = true ↔ (((∀ x ∈ l, 0 ≤ x.f0 ∧ x.f0 ≤ 7) ∧ l.Pairwise (fun x y => x.f0 < y.f0)) ∧ (0 ≤ room ∧ room ≤ 40000) ∧ dsize l ≤ room) := by
  unfold diskOk
  simp only [Bool.and_eq_true, asc_iff, inr, decide_eq_true_eq]
theorem putG_mem (f : S134) : ∀ (m : List S134) (x : S134), x ∈ putG f m → x = f ∨ (x ∈ m ∧ x.f0 ≠ f.f0)
  | [], x, h => by simp [putG] at h; exact .inl h
  | y :: t, x, h => by
    by_cases c : y.f0 ≥ f.f0
    · simp only [putG, c, ↓reduceIte, List.mem_cons] at h
      rcases h with h | h
      · exact .inl h
      · have := List.mem_filter.1 h
        exact .inr ⟨this.1, by simpa using this.2⟩
    · simp only [putG, c, ↓reduceIte, List.mem_cons] at h
      rcases h with rfl | h
      · exact .inr ⟨by simp, by omega⟩
      · rcases putG_mem f t x h with h | ⟨h, h2⟩
        · exact .inl h
        · exact .inr ⟨by simp [h], h2⟩
theorem putG_self (f : S134) : ∀ m : List S134, f ∈ putG f m
  | [] => by simp [putG]
  | y :: t => by
    by_cases c : y.f0 ≥ f.f0
    · simp only [putG, c, ↓reduceIte, List.mem_cons, true_or]
    · simp only [putG, c, ↓reduceIte, List.mem_cons, putG_self f t, or_true]
theorem putG_pw (f : S134) : ∀ m : List S134, m.Pairwise (fun x y => x.f0 < y.f0) → (putG f m).Pairwise (fun x y => x.f0 < y.f0)
  | [], _ => by simp [putG]
  | y :: t, h => by
    obtain ⟨h1, h2⟩ := List.pairwise_cons.1 h
    by_cases c : y.f0 ≥ f.f0
    · simp only [putG, c, ↓reduceIte]
      refine List.pairwise_cons.2 ⟨fun z hz => ?_, h.filter _⟩
      have hz' := List.mem_filter.1 hz
      have hne : z.f0 ≠ f.f0 := by simpa using hz'.2
      rcases List.mem_cons.1 hz'.1 with rfl | h3
      · omega
      · have := h1 z h3; omega
    · simp only [putG, c, ↓reduceIte]
      refine List.pairwise_cons.2 ⟨fun z hz => ?_, putG_pw f t h2⟩
      rcases putG_mem f t z hz with rfl | ⟨h3, _⟩
      · omega
      · exact h1 z h3
theorem putG_dsize (f : S134) : ∀ m : List S134, dsize (putG f m) = dsize (oth f.f0 m) + (f.f1.size + f.f2.size)
  | [] => by simp only [putG, oth, List.filter_nil, dsize]; omega
  | y :: t => by
    by_cases c : y.f0 ≥ f.f0
    · simp only [putG, c, ↓reduceIte, dsize]; omega
    · have ih := putG_dsize f t
      rw [oth_cons_ne (by omega)]
      simp only [putG, c, ↓reduceIte, dsize]; omega
theorem oth_none (nm : Int) (l : List S134) (h : ∀ x ∈ l, x.f0 ≠ nm) : oth nm l = l := by
  unfold oth
  rw [List.filter_eq_self]
  intro y hy
  simpa using h y hy
theorem oth_dsize : ∀ (l : List S134) (x : S134), l.Pairwise (fun x y => x.f0 < y.f0) → x ∈ l → dsize l = dsize (oth x.f0 l) + (x.f1.size + x.f2.size)
  | [], x, _, h => by simp at h
  | y :: t, x, hp, h => by
    obtain ⟨h1, h2⟩ := List.pairwise_cons.1 hp
    rcases List.mem_cons.1 h with rfl | h
    · rw [oth_cons_eq rfl, oth_none _ t (fun z hz => by have := h1 z hz; omega)]
      simp only [dsize]; omega
    · have := h1 x h
      rw [oth_cons_ne (by omega)]
      have ih := oth_dsize t x h2 h
      simp only [dsize]; omega
theorem read_mem (room : Int) (l : List S134) (x : S134) (h : diskOk room l = true) (hx : x ∈ l) : diskRead room l x.f0 = (x.f1 ++ x.f2, true) := by
  obtain ⟨j, hj⟩ := List.getElem?_of_mem hx
  exact read_at room l j x h hj
theorem read_none (room : Int) (l : List S134) (nm : Int) (h : ∀ x ∈ l, x.f0 ≠ nm) : diskRead room l nm = ((⟨#[]⟩ : ByteArray), false) := by
  unfold diskRead
  have hn : idxName l nm 0 < 0 := by
    by_cases c : idxName l nm 0 < 0
    · exact c
    · obtain ⟨y, hy, e⟩ := idx_mem nm l 0 (by omega) (by omega)
      exact absurd e (h y hy)
  rw [if_pos hn]
  split <;> rfl
theorem app_facts (room : Int) (l : List S134) (nm : Int) (s : ByteArray) (h : diskOk room l = true) :
    (appF l nm s).f0 = nm ∧ (appF l nm s).f1 ++ (appF l nm s).f2 = (diskRead room l nm).1 ++ s ∧ dsize (oth nm l) + ((appF l nm s).f1.size + (appF l nm s).f2.size) = dsize l + s.size := by
  have hp := ((ok_iff room l).1 h).1.2
  unfold appF
  by_cases c : idxName l nm 0 ≥ 0
  · obtain ⟨h1, h2⟩ := idx_rd nm l (by omega)
    have hm := List.mem_of_getElem? h2
    have h3 := read_mem room l _ h hm
    have h4 := oth_dsize l _ hp hm
    rw [h1] at h3 h4
    rw [if_pos c, h3]
    refine ⟨h1, (ByteArray.append_assoc).symm, ?_⟩
    simp only [ByteArray.size_append]
    omega
  · have hn : ∀ x ∈ l, x.f0 ≠ nm := idx_none nm l 0 (by omega) (by omega)
    rw [if_neg c, read_none room l nm hn, oth_none nm l hn]
    have hz : (⟨#[]⟩ : ByteArray).size = 0 := rfl
    refine ⟨rfl, by simp only [empty_app], ?_⟩
    simp only [ByteArray.size_append, hz]
    omega
theorem files_append (room : Int) (l : List S134) (nm : Int) (s : ByteArray) (h : diskOk room l = true) (hn : 0 ≤ nm ∧ nm ≤ 7) (hs : (s.size : Int) ≤ room - dsize l) :
    diskOk room (putG (appF l nm s) l) = true ∧ dsize (putG (appF l nm s) l) = dsize l + s.size ∧ diskRead room (putG (appF l nm s) l) nm = ((diskRead room l nm).1 ++ s, true) := by
  obtain ⟨a1, a2, a3⟩ := app_facts room l nm s h
  obtain ⟨⟨o1, o2⟩, o3, o4⟩ := (ok_iff room l).1 h
  have hd : dsize (putG (appF l nm s) l) = dsize l + s.size := by rw [putG_dsize, a1]; exact a3
  have hk : diskOk room (putG (appF l nm s) l) = true := by
    refine (ok_iff _ _).2 ⟨⟨fun x hx => ?_, putG_pw _ _ o2⟩, o3, by omega⟩
    rcases putG_mem _ _ x hx with rfl | ⟨h3, _⟩
    · rw [a1]; exact hn
    · exact o1 x h3
  have hr := read_mem room _ _ hk (putG_self (appF l nm s) l)
  rw [a1, a2] at hr
  exact ⟨hk, hd, hr⟩
theorem cut_app (a b c d : ByteArray) (h : a ++ b = c ++ d) : a.extract 0 (mn (c.size : Int) (a.size : Int)).toNat ++ b.extract 0 ((c.size : Int) - mn (c.size : Int) (a.size : Int)).toNat = c := by
  have hd := congrArg (fun x : ByteArray => x.data.toList) h
  simp only [ByteArray.data_append, Array.toList_append] at hd
  have ha : a.data.toList.length = a.size := by rw [Array.length_toList]; rfl
  have hc : c.data.toList.length = c.size := by rw [Array.length_toList]; rfl
  apply ByteArray.ext
  apply Array.toList_inj.1
  simp only [ByteArray.data_extract, ByteArray.data_append, Array.toList_extract, Array.toList_append, List.extract_eq_take_drop, List.drop_zero, Nat.sub_zero]
  have e : c.data.toList = (a.data.toList ++ b.data.toList).take c.data.toList.length := by rw [hd, List.take_left']; rfl
  rw [List.take_append, hc, ha] at e
  have e1 : (mn (c.size : Int) (a.size : Int)).toNat = min c.size a.size := by unfold mn; split <;> omega
  have e2 : ((c.size : Int) - mn (c.size : Int) (a.size : Int)).toNat = c.size - a.size := by unfold mn; split <;> omega
  rw [e1, e2]
  conv => rhs; rw [e]
  congr 1
  rcases Nat.le_total c.size a.size with q | q
  · rw [Nat.min_eq_left q]
  · rw [Nat.min_eq_right q, List.take_of_length_le (by omega), List.take_of_length_le (by omega)]
theorem files_cut (room : Int) (l : List S134) (a : S134) (c d : ByteArray) (h : diskOk room l = true) (ha : a ∈ l) (he : a.f1 ++ a.f2 = c ++ d) :
    ∃ B, diskCut room l a.f0 (c.size : Int) = (room, B, 0) ∧ (diskRead room B a.f0).1 = c ∧ dsize B ≤ dsize l ∧ B.length = l.length := by
  obtain ⟨j, hj⟩ := List.getElem?_of_mem ha
  obtain ⟨⟨o1, o2⟩, o3, o4⟩ := (ok_iff room l).1 h
  have hi := idx_asc l 0 0 j a (diskOk_asc h) hj
  rw [Int.zero_add] at hi
  have hr := rdF_get l j a hj
  have hF : cutF l a.f0 (c.size : Int) = ⟨a.f0, a.f1.extract 0 (mn (c.size : Int) (a.f1.size : Int)).toNat, a.f2.extract 0 ((c.size : Int) - mn (c.size : Int) (a.f1.size : Int)).toNat⟩ := by
    unfold cutF
    rw [hi, hr]
  have hsz : a.f1.size + a.f2.size = c.size + d.size := by
    have := congrArg ByteArray.size he
    simpa only [ByteArray.size_append] using this
  have hn := o1 a ha
  have hB : diskCut room l a.f0 (c.size : Int) = (room, l.set j (cutF l a.f0 (c.size : Int)), 0) := by
    unfold diskCut
    rw [h, hi, hr]
    have e1 : inr a.f0 0 7 = true := by simp only [inr, decide_eq_true_eq]; exact hn
    have e2 : inr (c.size : Int) 0 ((a.f1.size : Int) + (a.f2.size : Int)) = true := by simp only [inr, decide_eq_true_eq]; omega
    rw [e1, if_pos (show (true && true) = true from rfl), if_neg (by omega), if_pos e2]
    rfl
  have hx1 := extract_le a.f1 (mn (c.size : Int) (a.f1.size : Int)).toNat
  have hx2 := extract_le a.f2 ((c.size : Int) - mn (c.size : Int) (a.f1.size : Int)).toNat
  have hds := dsize_set_eq l j (cutF l a.f0 (c.size : Int)) a hj
  have hnm := set_names l j (cutF l a.f0 (c.size : Int)) a hj (by rw [hF])
  rw [hF] at hds hnm hB
  dsimp only at hds
  refine ⟨_, hB, ?_, by omega, List.length_set ..⟩
  have hk : diskOk room (l.set j ⟨a.f0, a.f1.extract 0 (mn (c.size : Int) (a.f1.size : Int)).toNat, a.f2.extract 0 ((c.size : Int) - mn (c.size : Int) (a.f1.size : Int)).toNat⟩) = true := by
    unfold diskOk at h ⊢
    rw [asc_names _ _ 0 hnm]
    simp only [Bool.and_eq_true, decide_eq_true_eq] at h ⊢
    exact ⟨h.1, h.2.1, by omega⟩
  have hlt : j < l.length := (List.getElem?_eq_some_iff.1 hj).1
  have hg := read_at room _ j _ hk (List.getElem?_set_self hlt)
  simp only at hg
  rw [hg]
  exact cut_app _ _ _ _ he
theorem tmod8 (nm : Int) (h : 0 ≤ nm ∧ nm ≤ 7) : 0 ≤ Int.tmod (nm + 1) 8 ∧ Int.tmod (nm + 1) 8 ≤ 7 ∧ nm ≠ Int.tmod (nm + 1) 8 := by
  have : nm = 0 ∨ nm = 1 ∨ nm = 2 ∨ nm = 3 ∨ nm = 4 ∨ nm = 5 ∨ nm = 6 ∨ nm = 7 := by omega
  rcases this with rfl | rfl | rfl | rfl | rfl | rfl | rfl | rfl <;> decide
theorem files_move (room : Int) (l : List S134) (a : S134) (tt : Int) (h : diskOk room l = true) (ha : a ∈ l) (ht : 0 ≤ tt ∧ tt ≤ 7) (hne : a.f0 ≠ tt) :
    ∃ M, diskMove room l a.f0 tt = (room, M, 0) ∧ diskRead room M tt = (a.f1 ++ a.f2, true) ∧ (diskRead room M a.f0).2 = false ∧ diskOk room M = true := by
  obtain ⟨j, hj⟩ := List.getElem?_of_mem ha
  obtain ⟨⟨o1, o2⟩, o3, o4⟩ := (ok_iff room l).1 h
  have hi := idx_asc l 0 0 j a (diskOk_asc h) hj
  rw [Int.zero_add] at hi
  have hr := rdF_get l j a hj
  have hn := o1 a ha
  have he := erase_oth a.f0 l 0 o2 (by omega) (by omega)
  rw [Int.sub_zero] at he
  have hmv : diskMove room l a.f0 tt = (room, putG ⟨tt, a.f1, a.f2⟩ (oth a.f0 l), 0) := by
    unfold diskMove movF
    rw [he, h, hi, hr]
    have e1 : inr a.f0 0 7 = true := by simp only [inr, decide_eq_true_eq]; exact hn
    have e2 : inr tt 0 7 = true := by simp only [inr, decide_eq_true_eq]; exact ht
    have e3 : (a.f0 == tt) = false := by simpa using hne
    rw [e1, e2, e3, if_pos (show (true && (true && (true && !false))) = true from rfl), if_neg (by omega)]
  have hd1 := putG_dsize ⟨tt, a.f1, a.f2⟩ (oth a.f0 l)
  have hd2 := oth_dsize l a o2 ha
  have hd3 := (dsize_oth tt (oth a.f0 l)).1
  simp only at hd1
  have hmem : ∀ x ∈ putG ⟨tt, a.f1, a.f2⟩ (oth a.f0 l), x.f0 = tt ∨ (x ∈ l ∧ x.f0 ≠ a.f0) := fun x hx => by
    rcases putG_mem _ _ x hx with rfl | ⟨h3, _⟩
    · exact .inl rfl
    · have := List.mem_filter.1 h3
      exact .inr ⟨this.1, by simpa using this.2⟩
  have hk : diskOk room (putG ⟨tt, a.f1, a.f2⟩ (oth a.f0 l)) = true := by
    refine (ok_iff _ _).2 ⟨⟨fun x hx => ?_, putG_pw _ _ (o2.filter _)⟩, o3, by omega⟩
    rcases hmem x hx with h3 | ⟨h3, _⟩
    · rw [h3]; exact ht
    · exact o1 x h3
  refine ⟨_, hmv, read_mem room _ _ hk (putG_self ⟨tt, a.f1, a.f2⟩ (oth a.f0 l)), ?_, hk⟩
  rw [read_none room _ a.f0 (fun x hx => ?_)]
  rcases hmem x hx with h3 | ⟨_, h3⟩
  · rw [h3]; exact Ne.symm hne
  · exact h3
theorem drawDiskAppend_ok (l : List Int) (hl : l.length ≤ 140737488355328) : ∃ room f nm s, Ev (fun k => spec_DrawDiskAppend.f k l) (room, f, nm, s) ∧ dsize f ≤ 100000 ∧ f.length ≤ 11 ∧ s.size ≤ 50000 := by
  obtain ⟨h, e1⟩ := l1New_ev l hl
  obtain ⟨room, f, i2, h2, e2, D2, p2⟩ := l3DrawDisk_ok l hl 0 h (by omega)
  obtain ⟨x, i3, h3, e3, p3⟩ := l3DrawName_ok l hl i2 h2 p2
  obtain ⟨s, i4, h4, e4, hs, p4⟩ := l3DrawText_ok l i3 h3 9 p3 hl (by omega)
  obtain ⟨o, i5, h5, e5, p5⟩ := l1Once_ok l i4 h4 5 p4 hl
  have hff : Ev (fun k => spec_DrawDiskAppend.j0 k x s false l i5 h5 room f) (room, f, x, s) := by
    refine Ev.step (f := fun _ => some (room, f, x, s)) (fun k => ?_) (Ev.now _)
    simp only [spec_DrawDiskAppend.j0, Bool.false_eq_true, ↓reduceIte]
  have go : ∀ (u : ByteArray) (q : Option (Int × List S134 × Int × ByteArray)), u.size ≤ 50000 → Ev (fun k => spec_DrawDiskAppend.f k l) (room, f, x, u) → ∃ room f nm s, Ev (fun k => spec_DrawDiskAppend.f k l) (room, f, nm, s) ∧ dsize f ≤ 100000 ∧ f.length ≤ 11 ∧ s.size ≤ 50000 :=
    fun u _ hu he => ⟨room, f, x, u, he, D2.2.1, D2.2.2, hu⟩
  cases o
  · refine go s none (by omega) ?_
    unfold spec_DrawDiskAppend.f
    refine Ev.bind e1 (Ev.bind e2 ?_)
    simp only [e3, Option.bind_some]
    refine Ev.bind e4 ?_
    simp only [e5, Option.bind_some, Bool.false_eq_true, ↓reduceIte]
    exact hff
  · have eO := specDiskOk_ev room f (by have := D2.2.1; omega) (by have := D2.2.2; omega)
    cases hok : diskOk room f
    · rw [hok] at eO
      refine go s none (by omega) ?_
      unfold spec_DrawDiskAppend.f
      refine Ev.bind e1 (Ev.bind e2 ?_)
      simp only [e3, Option.bind_some]
      refine Ev.bind e4 ?_
      simp only [e5, Option.bind_some, ↓reduceIte]
      exact Ev.bind eO hff
    · rw [hok] at eO
      have hb := diskOk_b hok
      have hn := dsize_nn f
      obtain ⟨z, i6, h6, e6, p6, _, b6⟩ := l1Below_ok l i5 h5 2 p5 hl
      have b6 := b6 (by omega)
      have nn := l1Below_nn _ _ _ _ _ _ _ e6
      have w1 : wrap64 (room - dsize f) = room - dsize f := w64 (by omega) (by omega)
      have w2 : wrap64 (room - dsize f + z) = room - dsize f + z := w64 (by omega) (by omega)
      have hD1 := D2.2.1
      have hD2 := D2.2.2
      have hsz : (strOfNums (List.replicate (room - dsize f + z).toNat 0)).size ≤ 50000 := by
        rw [strOf_size, List.length_replicate]
        clear w1 w2
        omega
      refine go (strOfNums (List.replicate (room - dsize f + z).toNat 0)) none hsz ?_
      unfold spec_DrawDiskAppend.f
      refine Ev.bind e1 (Ev.bind e2 ?_)
      simp only [e3, Option.bind_some]
      refine Ev.bind e4 ?_
      simp only [e5, Option.bind_some, ↓reduceIte]
      refine Ev.bind eO ?_
      refine Ev.step (fun k => by simp only [spec_DrawDiskAppend.j0, ↓reduceIte]; rfl) ?_
      refine Ev.bind (l3Size_ev room f (by clear w1 w2; omega) (by clear w1 w2; omega)) ?_
      have c1 : 0 ≤ room - dsize f + z := by clear w1 w2; omega
      have c2 : (room - dsize f + z).toNat ≤ 281474976710656 := by clear w1 w2; omega
      simp only [e6, Option.bind_some, w1, w2, c1, c2, ↓reduceIte]
      exact Ev.now _

theorem FnFiles : laws_FnFiles.Pure := by
  intro l hm hl hw
  apply Ev.rounds
  unfold laws_FnFiles.f laws_big.f
  simp only [Option.bind_some]
  by_cases h : (l.length : Int) > 1048576
  · simp only [h, decide_true, ↓reduceIte]; exact Ev.now _
  simp only [h, decide_false, Bool.false_eq_true, ↓reduceIte]
  obtain ⟨room, f, nm, s, e1, hd, hf, hs⟩ := drawDiskAppend_ok l (by omega)
  refine Ev.bind e1 ?_
  have hI := implDiskAppend_ev room f nm s (by omega) (by omega) (by omega)
  have hS := specDiskAppend_ev room f nm s (by omega) (by omega) (by omega)
  have eF := implDiskSize_ev room f (by omega) (by omega)
  by_cases ok : (diskOk room f && inr nm 0 7) = true
  · by_cases c : (s.size : Int) > room - dsize f
    · have hU : diskAppend room f nm s = (room, f, 3) := by unfold diskAppend; rw [if_pos ok, if_pos c]
      rw [hU] at hI hS
      refine Ev.bind hI ?_
      refine Ev.bind hS ?_
      simp only [↓reduceIte, show ¬ ((3 : Int) = 0) by omega, show ¬ ((3 : Int) = 1) by omega]
      refine Ev.bind eF ?_
      refine Ev.bind eF ?_
      simp only [beq_self_eq_true]
      exact Ev.now _
    · have hU : diskAppend room f nm s = (room, putG (appF f nm s) f, 0) := by unfold diskAppend; rw [if_pos ok, if_neg c]
      rw [hU] at hI hS
      simp only [Bool.and_eq_true, inr, decide_eq_true_eq] at ok
      obtain ⟨ok1, ok2⟩ := ok
      have hb := diskOk_b ok1
      have hnn := dsize_nn f
      obtain ⟨a1, a2, _⟩ := app_facts room f nm s ok1
      obtain ⟨g1, g2, g3⟩ := files_append room f nm s ok1 ok2 (by omega)
      have gl := (dsize_putG (appF f nm s) f).2
      have hmem := putG_self (appF f nm s) f
      have hold := specDiskRead_ev room f nm (by omega) (by omega)
      have hSz := specDiskSize_ev room f (by omega) (by omega)
      obtain ⟨t1, t2, t3⟩ := tmod8 nm ok2
      have hwt : wrap64 (nm + 1) = nm + 1 := w64 (by omega) (by omega)
      have hok2 := diskOk_b g1
      have hnn2 := dsize_nn (oth nm f)
      obtain ⟨B, hB1, hB2, hB3, hB4⟩ := files_cut room _ _ _ _ g1 hmem a2
      obtain ⟨M, hM1, hM2, hM3, hM4⟩ := files_move room _ _ (Int.tmod (nm + 1) 8) g1 hmem ⟨t1, t2⟩ (by rw [a1]; exact t3)
      have hokM := diskOk_b hM4
      have ha3 := (app_facts room f nm s ok1).2.2
      have hsz := congrArg ByteArray.size a2
      simp only [ByteArray.size_append] at hsz
      rw [a1] at hB1 hB2 hM1 hM3
      rw [a2] at hM2
      obtain ⟨D, hD⟩ : ∃ D, D = diskRead room f nm := ⟨_, rfl⟩
      rw [← hD] at hold hB1 hB2 hM2 g3 hsz
      obtain ⟨old, b⟩ := D
      simp only at hold hB1 hB2 hM2 g3 hsz
      obtain ⟨L, hL⟩ : ∃ L, L = putG (appF f nm s) f := ⟨_, rfl⟩
      rw [← hL] at hI hS g1 g2 g3 gl hok2 hB1 hB3 hB4 hM1
      have k1 := implDiskRead_ev room L nm (by omega) (by omega)
      have k2 := implDiskCut_ev room L nm (old.size : Int) (by omega) (by omega)
      have k3 := implDiskRead_ev room B nm (by omega) (by omega)
      have k4 := implDiskSize_ev room L (by omega) (by omega)
      have k5 := implDiskMove_ev room L nm (Int.tmod (nm + 1) 8) (by omega) (by omega)
      have k6 := implDiskRead_ev room M (Int.tmod (nm + 1) 8) (by omega) (by omega)
      have k7 := implDiskRead_ev room M nm (by omega) (by omega)
      have k8 := implDiskOk_ev room M (by omega) (by omega)
      have hw2 : wrap64 (dsize f + (s.size : Int)) = dsize f + s.size := w64 (by omega) (by omega)
      have hbig : old.size + s.size ≤ 9223372036854775807 := by clear hw2 hwt; omega
      unfold diskSize at k4 hSz
      rw [g1, if_pos rfl, g2] at k4
      rw [ok1, if_pos rfl] at hSz
      rw [g3] at k1
      rw [hB1] at k2
      rw [hM1] at k5
      rw [hM2] at k6
      rw [hM4] at k8
      refine Ev.bind hI ?_
      refine Ev.bind hS ?_
      simp only [↓reduceIte]
      refine Ev.bind hold ?_
      refine Ev.bind k1 ?_
      refine Ev.bind k2 ?_
      refine Ev.bind k3 ?_
      simp only [↓reduceIte, hbig, hB2]
      refine Ev.bind k4 ?_
      refine Ev.bind hSz ?_
      simp only [hw2, bne_self_eq_false]
      refine Ev.step (fun k => by simp only [laws_FnFiles.j0, Bool.false_eq_true, ↓reduceIte, hwt]; rfl) ?_
      refine Ev.bind k5 ?_
      refine Ev.bind k6 ?_
      refine Ev.bind k7 ?_
      simp only [↓reduceIte, hM3, Bool.false_eq_true]
      refine Ev.bind k8 ?_
      exact Ev.now _
  · have hU : diskAppend room f nm s = (0, [], 1) := by unfold diskAppend; rw [if_neg ok]
    rw [hU] at hI hS
    refine Ev.bind hI ?_
    refine Ev.bind hS ?_
    simp only [↓reduceIte, show ¬ ((1 : Int) = 0) by omega]
    exact Ev.now _

end Go.Proofs.Ytnjpfllmcmomoaa.Pure
