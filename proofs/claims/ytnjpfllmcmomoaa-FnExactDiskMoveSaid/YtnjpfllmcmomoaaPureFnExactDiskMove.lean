/- DiskMove of the program and of the reference give the same disk and word for every disk and names, in memory of their own, and the program leaves its argument as it was; no condition. -/
import Derived.Test.YtnjpfllmcmomoaaQFnExactDiskMovex9
namespace Go.Proofs.Ytnjpfllmcmomoaa.Pure
open Go.RowKit Go.Proofs.Ytnjpfllmcmomoaa.QFnExactDiskMove Go.Proofs.YtnjpfllmcmomoaaW.PrintWords Go.Proofs.YtnjpfllmcmomoaaW.PrintLast
set_option linter.unusedVariables false
set_option linter.unusedSimpArgs false
theorem w64 {x : Int} (h0 : -9223372036854775808 ≤ x) (h1 : x ≤ 9223372036854775807) : wrap64 x = x := by
  unfold wrap64; omega
def inr (a b c : Int) : Bool := decide (b ≤ a ∧ a ≤ c)
theorem rdF_mid (P : List S134) (x : S134) (t : List S134) : rd_T134 (P ++ x :: t) (P.length : Int) = x := by
  unfold rd_T134; simp
theorem rdF_last (P : List S134) (y : S134) (t : List S134) : rd_T134 (P ++ [y] ++ t) (((P ++ [y]).length : Int) - 1) = y := by
  unfold rd_T134
  have : (((P ++ [y]).length : Int) - 1).toNat = P.length := by simp
  rw [this]; simp
def dsize : List S134 → Int
  | [] => 0
  | x :: t => x.f1.size + x.f2.size + dsize t
theorem dsize_nn : ∀ l : List S134, 0 ≤ dsize l
  | [] => by simp [dsize]
  | x :: t => by have := dsize_nn t; simp only [dsize]; omega
def asc : Int → List S134 → Bool
  | _, [] => true
  | lo, x :: t => decide (lo ≤ x.f0 ∧ x.f0 ≤ 7) && asc (x.f0 + 1) t
theorem asc_len : ∀ (l : List S134) (lo : Int), lo ≤ 8 → asc lo l = true → (l.length : Int) ≤ 8 - lo
  | [], lo, h, _ => by simp; omega
  | x :: t, lo, h, ha => by
    simp only [asc, Bool.and_eq_true, decide_eq_true_eq] at ha
    have := asc_len t (x.f0 + 1) (by omega) ha.2
    simp only [List.length_cons]; omega
def diskOk (room : Int) (l : List S134) : Bool := asc 0 l && (inr room 0 40000 && decide (dsize l ≤ room))

theorem rdG_mid (P : List S164) (x : S164) (t : List S164) : rd_T164 (P ++ x :: t) (P.length : Int) = x := by
  unfold rd_T164; simp
def toF (x : S164) : S134 := ⟨x.f0, x.f1, x.f2⟩
def szF : List S164 → Int → Int
  | [], a => a
  | x :: t, a => if a - x.f1.size < 0 then -1 else if a - x.f1.size - x.f2.size < 0 then -1 else szF t (a - x.f1.size - x.f2.size)
theorem szF_b : ∀ (l : List S164) (a : Int), 0 ≤ a → (szF l a = -1 ∨ 0 ≤ szF l a ∧ szF l a + dsize (l.map toF) = a)
  | [], a, h => by simp [szF, dsize, h]
  | x :: t, a, h => by
    have ht : dsize ((x :: t).map toF) = x.f1.size + x.f2.size + dsize (t.map toF) := rfl
    rw [ht]
    simp only [szF]
    split
    · exact .inl rfl
    · split
      · exact .inl rfl
      · have := szF_b t (a - x.f1.size - x.f2.size) (by omega)
        rcases this with h1 | h1
        · exact .inl h1
        · refine .inr ⟨h1.1, ?_⟩; omega
theorem szFile_eq (x : S164) (a : Int) (h0 : 0 ≤ a) (h1 : a ≤ 140737488355328) (hx : x.f1.size ≤ 140737488355328 ∧ x.f2.size ≤ 140737488355328) : laws_szFile.f x.f0 x.f1 x.f2 a = some (if a - x.f1.size < 0 then -1 else if a - x.f1.size - x.f2.size < 0 then -1 else a - x.f1.size - x.f2.size) := by
  unfold laws_szFile.f
  rw [w64 (x := a - x.f1.size) (by omega) (by omega), w64 (by omega) (by omega)]
  split
  · rfl
  · split <;> rfl
theorem szFileS_l (rest : List S164) : ∀ (P : List S164) (a : Int), 0 ≤ a → a ≤ 140737488355328 → P.length + rest.length ≤ 140737488355328 → (∀ x ∈ rest, x.f1.size ≤ 140737488355328 ∧ x.f2.size ≤ 140737488355328) → Ev (fun k => laws_szFileS.l0 k (P ++ rest) a (P.length : Int)) (szF rest a) := by
  induction rest with
  | nil =>
    intro P a h0 h1 hl hx
    refine Ev.step (f := fun _ => some a) (fun k => ?_) (Ev.now _)
    simp only [laws_szFileS.l0]
    rw [if_neg (by simp)]
  | cons x t ih =>
    intro P a h0 h1 hl hx
    simp only [List.length_cons] at hl
    have hx0 := hx x (by simp)
    have e := szFile_eq x a h0 h1 hx0
    have el : ((P ++ x :: t).length : Int) = P.length + t.length + 1 := by simp; omega
    by_cases c1 : a - x.f1.size < 0
    · refine Ev.step (f := fun _ => some (-1)) (fun k => ?_) ?_
      · simp only [laws_szFileS.l0]
        rw [if_pos (by omega), if_pos (by omega), rdG_mid, e, if_pos c1]
        rfl
      · simp only [szF, c1, ↓reduceIte]; exact Ev.now _
    · by_cases c2 : a - x.f1.size - x.f2.size < 0
      · refine Ev.step (f := fun _ => some (-1)) (fun k => ?_) ?_
        · simp only [laws_szFileS.l0]
          rw [if_pos (by omega), if_pos (by omega), rdG_mid, e, if_neg c1, if_pos c2]
          rfl
        · simp only [szF, c1, c2, ↓reduceIte]; exact Ev.now _
      · have h := ih (P ++ [x]) (a - x.f1.size - x.f2.size) (by omega) (by omega) (by simp; omega) (fun y hy => hx y (by simp [hy]))
        refine Ev.step (f := fun k => laws_szFileS.l0 k ((P ++ [x]) ++ t) (a - x.f1.size - x.f2.size) ((P ++ [x]).length : Int)) (fun k => ?_) ?_
        · simp only [laws_szFileS.l0]
          rw [if_pos (by omega), if_pos (by omega), rdG_mid, e, if_neg c1, if_neg c2]
          simp only [Option.bind_some]
          rw [if_neg c2, w64 (by omega) (by omega)]
          simp
        · simp only [szF, c1, c2, ↓reduceIte]; exact h
theorem szFileS_ev (l : List S164) (a : Int) (h0 : 0 ≤ a) (h1 : a ≤ 140737488355328) (hl : l.length ≤ 140737488355328) (hx : ∀ x ∈ l, x.f1.size ≤ 140737488355328 ∧ x.f2.size ≤ 140737488355328) :
    ∃ r, Ev (fun k => laws_szFileS.f k l a) r ∧ (0 ≤ r → r + l.length + dsize (l.map toF) = a) := by
  unfold laws_szFileS.f
  rw [w64 (x := a - l.length) (by omega) (by omega)]
  by_cases h : a - l.length < 0
  · refine ⟨-1, ?_, by omega⟩
    simp only [h, ↓reduceIte]; exact Ev.now _
  · refine ⟨szF l (a - l.length), ?_, ?_⟩
    · simp only [h, ↓reduceIte]
      exact szFileS_l l [] (a - l.length) (by omega) (by omega) (by simp; omega) hx
    · have := szF_b l (a - l.length) (by omega)
      omega
theorem set_fillF (l : List S164) (i d : Nat) (hi : i + (d + 1) = l.length) : ((l.take i).map toF ++ List.replicate (d + 1) z134).set i (toF (rd_T164 l (i : Int))) = (l.take (i + 1)).map toF ++ List.replicate d z134 := by
  have hlt : i < l.length := by omega
  have h1 : ((l.take i).map toF).length = i := by rw [List.length_map, List.length_take]; omega
  rw [List.set_append_right _ _ (by omega), h1, Nat.sub_self, List.replicate_succ, List.set_cons_zero, List.take_succ_eq_append_getElem hlt, List.map_append, List.append_assoc]
  unfold rd_T164
  simp [List.getD_eq_getElem?_getD, hlt]
theorem toFileS_l (l : List S164) (hl : l.length ≤ 7036874417766) (d : Nat) : ∀ i : Nat, i + d = l.length → Ev (fun k => laws_toFileS.l0 k l ((l.take i).map toF ++ List.replicate d z134) (i : Int)) (l.map toF) := by
  induction d with
  | zero =>
    intro i hi
    refine Ev.step (f := fun _ => some (l.map toF)) (fun k => ?_) (Ev.now _)
    simp only [laws_toFileS.l0]
    rw [if_neg (by omega)]
    have : l.take i = l := List.take_of_length_le (by omega)
    simp [this]
  | succ d ih =>
    intro i hi
    refine Ev.step (f := fun k => laws_toFileS.l0 k l ((l.take (i + 1)).map toF ++ List.replicate d z134) ((i + 1 : Nat) : Int)) (fun k => ?_) (ih (i + 1) (by omega))
    simp only [laws_toFileS.l0, laws_toFile.f, Option.bind_some]
    rw [if_pos (by omega), if_pos (by omega), if_pos (by simp; omega), w64 (by omega) (by omega), Int.toNat_natCast]
    rw [show (⟨(rd_T164 l (i : Int)).f0, (rd_T164 l (i : Int)).f1, (rd_T164 l (i : Int)).f2⟩ : S134) = toF (rd_T164 l (i : Int)) from rfl, set_fillF l i d hi]
    rfl
theorem toFileS_ev (l : List S164) (hl : l.length ≤ 7036874417766) : Ev (fun k => laws_toFileS.f k l) (l.map toF) := by
  refine Ev.congr (fun k => ?_) (toFileS_l l hl l.length 0 (by omega))
  unfold laws_toFileS.f
  rw [if_pos (by omega), if_pos (by simp; omega)]
  simp
theorem eqFileS_l (l : List S134) (hl : l.length ≤ 140737488355328) (d : Nat) : ∀ i : Nat, i + d = l.length → Ev (fun k => laws_eqFileS.l0 k l l (i : Int)) true := by
  induction d with
  | zero =>
    intro i hi
    refine Ev.step (f := fun _ => some true) (fun k => ?_) (Ev.now _)
    simp only [laws_eqFileS.l0]
    rw [if_neg (by omega)]
  | succ d ih =>
    intro i hi
    refine Ev.step (f := fun k => laws_eqFileS.l0 k l l ((i + 1 : Nat) : Int)) (fun k => ?_) (ih (i + 1) (by omega))
    simp only [laws_eqFileS.l0, laws_eqFile.f, ↓reduceIte, Option.bind_some]
    rw [if_pos (by omega), if_pos (by omega), if_pos (by omega), w64 (by omega) (by omega)]
    rfl
theorem eqFileS_ev (l : List S134) (hl : l.length ≤ 140737488355328) : Ev (fun k => laws_eqFileS.f k l l) true := by
  refine Ev.congr (fun k => ?_) (eqFileS_l l hl l.length 0 (by omega))
  unfold laws_eqFileS.f
  rw [if_pos rfl]; rfl

theorem szDisk_ev (room : Int) (l : List S164) (h : ∀ x ∈ l, Q164 x) (hl : l.length * 40 ≤ 140737488351232) (a : Int) (h0 : 0 ≤ a) (h1 : a ≤ 140737488355328) :
    ∃ r, Ev (fun k => laws_szDisk.f k room l a) r ∧ (0 ≤ r → r + l.length + dsize (l.map toF) = a) := by
  obtain ⟨r, hr, hb⟩ := szFileS_ev l a h0 h1 (by omega) (fun x hx => by have := h x hx; unfold Q164 at this; omega)
  by_cases c : r < 0
  · refine ⟨-1, ?_, by omega⟩
    unfold laws_szDisk.f
    refine Ev.bind hr ?_
    simp only [c, ↓reduceIte]; exact Ev.now _
  · refine ⟨r, ?_, hb⟩
    unfold laws_szDisk.f
    refine Ev.bind hr ?_
    simp only [c, ↓reduceIte]; exact Ev.now _
theorem toDisk_ev (room : Int) (l : List S164) (hl : l.length ≤ 7036874417766) : Ev (fun k => laws_toDisk.f k room l) (room, l.map toF) := by
  unfold laws_toDisk.f
  refine Ev.bind (toFileS_ev l hl) ?_
  exact Ev.now _
theorem eqDisk_ev (room : Int) (l : List S134) (hl : l.length ≤ 140737488355328) : Ev (fun k => laws_eqDisk.f k room l room l) true := by
  unfold laws_eqDisk.f
  simp only [↓reduceIte]
  refine Ev.bind (eqFileS_ev l hl) ?_
  simp only [↓reduceIte]; exact Ev.now _

def mtGo (x : Int) (a : ByteArray) : ByteArray := if h : x > 0 then mtGo (x / 10) (strOfNums [(48 + x % 10) % 256] ++ a) else (⟨#[109]⟩ : ByteArray) ++ a
termination_by x.toNat
decreasing_by omega
def mt (x : Int) : ByteArray := if x ≤ 0 then (⟨#[109, 48]⟩ : ByteArray) else mtGo x (⟨#[]⟩ : ByteArray)
theorem strOf1_size (c : Int) : (strOfNums [c]).size = 1 := rfl
theorem markText_l (m : Nat) : ∀ (x : Int) (a : ByteArray), x < 10 ^ m → a.size + m ≤ 1000000 → x ≤ 9223372036854775807 → 0 ≤ x → Ev (fun k => laws_markText.l0 k x a) (mtGo x a) := by
  induction m with
  | zero =>
    intro x a h0 h1 h2 h3
    have h0 : x < 1 := by simpa using h0
    refine Ev.step (f := fun _ => some (mtGo x a)) (fun k => ?_) (Ev.now _)
    simp only [laws_markText.l0]
    rw [if_neg (by omega), if_pos (by omega)]
    rw [mtGo, dif_neg (by omega)]
  | succ m ih =>
    intro x a h0 h1 h2 h3
    by_cases c : x > 0
    · have e : mtGo x a = mtGo (x / 10) (strOfNums [(48 + x % 10) % 256] ++ a) := by rw [mtGo]; simp [c]
      have es : (strOfNums [(48 + x % 10) % 256] ++ a).size = 1 + a.size := by rw [ByteArray.size_append, strOf1_size]
      rw [Int.pow_succ] at h0
      have h := ih (x / 10) (strOfNums [(48 + x % 10) % 256] ++ a) (by omega) (by omega) (by omega) (by omega)
      rw [e]
      refine Ev.step (fun k => ?_) h
      simp only [laws_markText.l0]
      rw [if_pos c, Int.tmod_eq_emod_of_nonneg h3, Int.tdiv_eq_ediv_of_nonneg h3, w64 (x := 48 + x % 10) (by omega) (by omega), w64 (x := x / 10) (by omega) (by omega)]
      simp only [Option.bind_some]
      rw [strOf1_size, if_pos (by omega)]
    · refine Ev.step (f := fun _ => some (mtGo x a)) (fun k => ?_) (Ev.now _)
      simp only [laws_markText.l0]
      rw [if_neg c, if_pos (by omega)]
      rw [mtGo, dif_neg c]
theorem markText_ev (x : Int) (h : x ≤ 9223372036854775807) : Ev (fun k => laws_markText.f k x) (mt x) := by
  unfold laws_markText.f mt
  by_cases c : x ≤ 0
  · simp only [c, ↓reduceIte]; exact Ev.now _
  · simp only [c, ↓reduceIte]
    exact markText_l 19 x _ (by omega) (by decide) h (by omega)

def marksF : Nat → Int → List S134
  | 0, _ => []
  | n + 1, q => ⟨q, mt (q + 1), mt (q + 2)⟩ :: marksF n (q + 3)
theorem marksF_length : ∀ (n : Nat) (q : Int), (marksF n q).length = n
  | 0, _ => rfl
  | n + 1, q => by rw [marksF, List.length_cons, marksF_length n]
theorem setF_mid (P : List S134) (x y : S134) (t : List S134) : (P ++ x :: t).set (P.length : Int).toNat y = P ++ y :: t := by simp
theorem markF_l (rest : List S134) : ∀ (P : List S134) (q : Int), P.length + rest.length ≤ 140737488355328 → 0 ≤ q → q + 3 * rest.length ≤ 2814749767106560 →
    Ev (fun k => laws_markFileS.l0 k (P ++ rest) q (P.length : Int)) (q + 3 * rest.length, P ++ marksF rest.length q) := by
  induction rest with
  | nil =>
    intro P q hl h0 h1
    refine Ev.step (f := fun _ => some (q, P)) (fun k => ?_) ?_
    · simp only [laws_markFileS.l0]
      rw [if_neg (by simp)]; simp
    · simp [marksF]; exact Ev.now _
  | cons x t ih =>
    intro P q hl h0 h1
    simp only [List.length_cons] at hl h1
    have el : ((P ++ x :: t).length : Int) = P.length + t.length + 1 := by simp; omega
    have h := ih (P ++ [⟨q, mt (q + 1), mt (q + 2)⟩]) (q + 3) (by simp; omega) (by omega) (by omega)
    refine Ev.step (fun k => by
      simp only [laws_markFileS.l0]
      rw [if_pos (by omega), if_pos (by omega), rdF_mid, setF_mid, w64 (x := q + 1) (by omega) (by omega)]) ?_
    simp only [Option.bind_some]
    refine Ev.bind (markText_ev (q + 1) (by omega)) ?_
    rw [w64 (x := q + 1 + 1) (by omega) (by omega), rdF_mid, setF_mid]
    simp only [Option.bind_some]
    refine Ev.bind (markText_ev (q + 1 + 1) (by omega)) ?_
    rw [rdF_mid, setF_mid, w64 (x := q + 1 + 1 + 1) (by omega) (by omega), w64 (x := (P.length : Int) + 1) (by omega) (by omega)]
    have e1 : q + 1 + 1 = q + 2 := by omega
    have e2 : q + 1 + 1 + 1 = q + 3 := by omega
    have e3 : (q + 3 + 3 * (t.length : Int), P ++ [(⟨q, mt (q + 1), mt (q + 2)⟩ : S134)] ++ marksF t.length (q + 3)) = (q + 3 * ((x :: t).length : Int), P ++ marksF (x :: t).length q) := by
      simp [marksF]; omega
    rw [← e3]
    rw [e2, e1]
    refine Ev.congr (fun k => ?_) h
    simp
theorem markF_ev (l : List S134) (q : Int) (hl : l.length ≤ 140737488355328) (h0 : 0 ≤ q) (h1 : q ≤ 140737488355328) : Ev (fun k => laws_markFileS.f k l q) (q + 3 * l.length, marksF l.length q) := by
  have h := markF_l l [] q (by simpa using hl) h0 (by omega)
  simpa [laws_markFileS.f] using h

theorem markDisk_ev (room : Int) (l : List S134) (q : Int) (hl : l.length ≤ 140737488355328) (h0 : 0 ≤ q) (h1 : q ≤ 140737488355328) : Ev (fun k => laws_markDisk.f k room l q) (q + 3 * l.length, marksF l.length q) := by
  unfold laws_markDisk.f
  refine Ev.bind (markF_ev l q hl h0 h1) ?_
  exact Ev.now _

theorem heldF_l (n : Nat) : ∀ (P : List S134) (q : Int), P.length + n ≤ 140737488355328 → 0 ≤ q → q + 3 * n ≤ 2814749767106560 →
    Ev (fun k => laws_heldFileS.l0 k (P ++ marksF n q) q (P.length : Int)) (q + 3 * n) := by
  induction n with
  | zero =>
    intro P q hl h0 h1
    refine Ev.step (f := fun _ => some q) (fun k => ?_) ?_
    · simp only [laws_heldFileS.l0]
      rw [if_neg (by simp [marksF])]
    · simp; exact Ev.now _
  | succ n ih =>
    intro P q hl h0 h1
    have h := ih (P ++ [⟨q, mt (q + 1), mt (q + 2)⟩]) (q + 3) (by simp; omega) (by omega) (by omega)
    have e : P ++ marksF (n + 1) q = P ++ [(⟨q, mt (q + 1), mt (q + 2)⟩ : S134)] ++ marksF n (q + 3) := by simp [marksF]
    have el : ((P ++ marksF (n + 1) q).length : Int) = P.length + n + 1 := by rw [List.length_append, marksF_length]; omega
    have er : rd_T134 (P ++ marksF (n + 1) q) (P.length : Int) = ⟨q, mt (q + 1), mt (q + 2)⟩ := rdF_mid P _ _
    refine Ev.step (fun k => by
      simp only [laws_heldFileS.l0]
      rw [if_pos (by omega), if_pos (by omega), er, w64 (x := q + 1) (by omega) (by omega)]) ?_
    simp only [↓reduceIte]
    refine Ev.bind (markText_ev (q + 1) (by omega)) ?_
    simp only [↓reduceIte]
    rw [w64 (x := q + 1 + 1) (by omega) (by omega), show q + 1 + 1 = q + 2 by omega]
    refine Ev.bind (markText_ev (q + 2) (by omega)) ?_
    simp only [↓reduceIte]
    rw [w64 (x := q + 2 + 1) (by omega) (by omega), w64 (x := (P.length : Int) + 1) (by omega) (by omega), show q + 2 + 1 = q + 3 by omega]
    have e2 : (q + 3 + 3 * (n : Int)) = q + 3 * ((n + 1 : Nat) : Int) := by omega
    rw [← e2, e]
    refine Ev.congr (fun k => ?_) h
    simp
theorem heldF_ev (n : Nat) (q : Int) (hl : n ≤ 140737488355328) (h0 : 0 ≤ q) (h1 : q ≤ 140737488355328) : Ev (fun k => laws_heldFileS.f k (marksF n q) q) (q + 3 * n) := by
  have h := heldF_l n [] q (by simpa using hl) h0 (by omega)
  simpa [laws_heldFileS.f] using h

theorem heldDisk_ev (room : Int) (n : Nat) (q : Int) (hl : n ≤ 140737488355328) (h0 : 0 ≤ q) (h1 : q ≤ 140737488355328) : Ev (fun k => laws_heldDisk.f k room (marksF n q) q) (q + 3 * n) := by
  unfold laws_heldDisk.f
  refine Ev.bind (heldF_ev n q hl h0 h1) ?_
  simp only [show ¬ q + 3 * (n : Int) < 0 by omega, ↓reduceIte]
  exact Ev.now _

theorem l3Size_l (rest : List S134) : ∀ (P : List S134) (n room : Int), 0 ≤ n → n + dsize rest ≤ 1152921504606846976 → P.length + rest.length ≤ 140737488355328 → Ev (fun k => spec_l3Size.l0 k n (P.length : Int) room (P ++ rest)) (n + dsize rest) := by
  induction rest with
  | nil =>
    intro P n room h0 h1 hl
    refine Ev.step (f := fun _ => some n) (fun k => ?_) ?_
    · simp only [spec_l3Size.l0]
      rw [if_neg (by simp)]
    · simp only [dsize, Int.add_zero]; exact Ev.now _
  | cons x t ih =>
    intro P n room h0 h1 hl
    simp only [List.length_cons] at hl
    have hn := dsize_nn t
    simp only [dsize] at h1
    have h := ih (P ++ [x]) (n + x.f1.size + x.f2.size) room (by omega) (by omega) (by simp; omega)
    have e : n + dsize (x :: t) = n + x.f1.size + x.f2.size + dsize t := by simp only [dsize]; omega
    rw [e]
    refine Ev.step (fun k => ?_) h
    simp only [spec_l3Size.l0]
    rw [if_pos (by simp; omega), if_pos (by omega), rdF_mid, w64 (x := n + x.f1.size) (by omega) (by omega), w64 (by omega) (by omega), w64 (by omega) (by omega)]
    simp
theorem l3Size_ev (room : Int) (l : List S134) (h1 : dsize l ≤ 1152921504606846976) (hl : l.length ≤ 140737488355328) : Ev (fun k => spec_l3Size.f k room l) (dsize l) := by
  have h := l3Size_l l [] 0 room (by omega) (by omega) (by simpa using hl)
  simpa [spec_l3Size.f] using h

theorem l1In_eq (a b c : Int) : spec_l1In.f a b c = some (inr a b c) := by
  unfold spec_l1In.f inr
  by_cases h : a ≥ b
  · rw [if_pos h]; congr 1; by_cases h2 : a ≤ c <;> simp [h, h2]
  · rw [if_neg h]; congr 1; simp; omega

theorem l3Name_eq (a : Int) : spec_l3Name.f a = some (inr a 0 7) := by unfold spec_l3Name.f; rw [l1In_eq]; rfl
theorem specDiskOk_l (rest : List S134) : ∀ (P : List S134) (lo room : Int), 0 ≤ lo → (P = [] ∧ lo = 0 ∨ ∃ P' y, P = P' ++ [y] ∧ lo = y.f0 + 1) → P.length + rest.length ≤ 140737488355328 → Ev (fun k => spec_DiskOk.l0 k (P.length : Int) room (P ++ rest)) (asc lo rest) := by
  induction rest with
  | nil =>
    intro P lo room h0 hP hl
    refine Ev.step (f := fun _ => some true) (fun k => ?_) (Ev.now _)
    simp only [spec_DiskOk.l0]
    rw [if_neg (by simp)]
  | cons x t ih =>
    intro P lo room h0 hP hl
    simp only [List.length_cons] at hl
    have el : ((P ++ x :: t).length : Int) = P.length + t.length + 1 := by simp; omega
    have hw1 : wrap64 ((P.length : Int) + 1) = ((P ++ [x]).length : Int) := by rw [w64 (by omega) (by omega)]; simp
    by_cases c1 : 0 ≤ x.f0 ∧ x.f0 ≤ 7
    · have i1 : inr x.f0 0 7 = true := decide_eq_true c1
      by_cases c2 : lo ≤ x.f0
      · have h := ih (P ++ [x]) (x.f0 + 1) room (by omega) (.inr ⟨P, x, rfl, rfl⟩) (by simp; omega)
        refine Ev.step (f := fun k => spec_DiskOk.l0 k ((P ++ [x]).length : Int) room ((P ++ [x]) ++ t)) (fun k => ?_) ?_
        · simp only [spec_DiskOk.l0, l3Name_eq, Option.bind_some]
          rw [if_pos (by omega), if_pos (by omega), rdF_mid, i1, if_pos rfl]
          have ea : P ++ x :: t = P ++ [x] ++ t := by simp
          rcases hP with ⟨rfl, rfl⟩ | ⟨P', y, rfl, rfl⟩
          · rw [if_neg (by simp), hw1, ea]
          · have ep : ((P' ++ [y]).length : Int) = P'.length + 1 := by simp
            rw [if_pos (by omega), w64 (x := ((P' ++ [y]).length : Int) - 1) (by omega) (by omega), if_pos (by omega), if_pos (by omega), show P' ++ [y] ++ x :: t = P' ++ [y] ++ (x :: t) from rfl, rdF_last, if_neg (by omega), hw1, ea]
        · simp only [asc, show lo ≤ x.f0 ∧ x.f0 ≤ 7 from ⟨c2, c1.2⟩, decide_true, Bool.true_and]; exact h
      · refine Ev.step (f := fun _ => some false) (fun k => ?_) ?_
        · simp only [spec_DiskOk.l0, l3Name_eq, Option.bind_some]
          rw [if_pos (by omega), if_pos (by omega), rdF_mid, i1, if_pos rfl]
          rcases hP with ⟨rfl, rfl⟩ | ⟨P', y, rfl, rfl⟩
          · omega
          · have ep : ((P' ++ [y]).length : Int) = P'.length + 1 := by simp
            rw [if_pos (by omega), w64 (x := ((P' ++ [y]).length : Int) - 1) (by omega) (by omega), if_pos (by omega), if_pos (by omega), rdF_last, if_pos (by omega)]
        · have : asc lo (x :: t) = false := by simp [asc, c2]
          rw [this]; exact Ev.now _
    · have i1 : inr x.f0 0 7 = false := decide_eq_false c1
      refine Ev.step (f := fun _ => some false) (fun k => ?_) ?_
      · simp only [spec_DiskOk.l0, l3Name_eq, Option.bind_some]
        rw [if_pos (by omega), if_pos (by omega), rdF_mid, i1, if_neg (by simp)]
      · have : asc lo (x :: t) = false := by
          have : ¬ (lo ≤ x.f0 ∧ x.f0 ≤ 7) := by omega
          simp only [asc, this, decide_false, Bool.false_and]
        rw [this]; exact Ev.now _
theorem specDiskOk_ev (room : Int) (l : List S134) (h1 : dsize l ≤ 1152921504606846976) (hl : l.length ≤ 140737488355328) : Ev (fun k => spec_DiskOk.f k room l) (diskOk room l) := by
  unfold spec_DiskOk.f diskOk
  simp only [l1In_eq, Option.bind_some]
  have hj : Ev (fun k => spec_DiskOk.j0 k true room l) false := by
    refine Ev.step (f := fun _ => some false) (fun k => ?_) (Ev.now _)
    simp only [spec_DiskOk.j0, ↓reduceIte]
  cases h : inr room 0 40000
  · simp only [Bool.false_eq_true, ↓reduceIte, Bool.false_and, Bool.and_false]; exact hj
  · simp only [↓reduceIte, Bool.true_and]
    by_cases h8 : (l.length : Int) > 8
    · have : asc 0 l = false := by
        cases ha : asc 0 l
        · rfl
        · have := asc_len l 0 (by omega) ha; omega
      simp only [h8, ↓reduceIte, this, Bool.false_and]; exact hj
    · simp only [h8, ↓reduceIte]
      refine Ev.bind (l3Size_ev room l h1 hl) ?_
      by_cases hd : dsize l > room
      · simp only [hd, decide_true, show ¬ dsize l ≤ room by omega, decide_false, Bool.and_false]; exact hj
      · simp only [hd, decide_false, show dsize l ≤ room by omega, decide_true, Bool.and_true]
        refine Ev.step (f := fun k => spec_DiskOk.l0 k 0 room l) (fun k => ?_) ?_
        · simp only [spec_DiskOk.j0]; rfl
        · exact specDiskOk_l l [] 0 room (by omega) (.inl ⟨rfl, rfl⟩) (by simpa using hl)

theorem sizeOf_l (rest : List S134) : ∀ (P : List S134) (n m : Int), m = P.length + rest.length → 0 ≤ n → n + dsize rest ≤ 1152921504606846976 → P.length + rest.length ≤ 140737488355328 → Ev (fun k => impl_sizeOf.l0 k n (P ++ rest) m (P.length : Int)) (n + dsize rest) := by
  induction rest with
  | nil =>
    intro P n m hm h0 h1 hl
    refine Ev.step (f := fun _ => some n) (fun k => ?_) ?_
    · simp only [impl_sizeOf.l0]
      rw [if_neg (by simp at hm; omega)]
    · simp only [dsize, Int.add_zero]; exact Ev.now _
  | cons x t ih =>
    intro P n m hm h0 h1 hl
    simp only [List.length_cons] at hl hm
    have hn := dsize_nn t
    simp only [dsize] at h1
    have h := ih (P ++ [x]) (n + x.f1.size + x.f2.size) m (by simp; omega) (by omega) (by omega) (by simp; omega)
    have e : n + dsize (x :: t) = n + x.f1.size + x.f2.size + dsize t := by simp only [dsize]; omega
    rw [e]
    refine Ev.step (fun k => ?_) h
    simp only [impl_sizeOf.l0]
    rw [if_pos (by omega), if_pos (by omega), if_pos (by simp; omega), rdF_mid, w64 (x := (x.f1.size : Int) + x.f2.size) (by omega) (by omega), w64 (by omega) (by omega), w64 (by omega) (by omega)]
    simp [Int.add_assoc]
theorem sizeOf_ev (room : Int) (l : List S134) (h1 : dsize l ≤ 1152921504606846976) (hl : l.length ≤ 140737488355328) : Ev (fun k => impl_sizeOf.f k room l) (dsize l) := by
  have h := sizeOf_l l [] 0 l.length (by simp) (by omega) (by omega) (by simpa using hl)
  simpa [impl_sizeOf.f] using h

theorem within_eq (a b c : Int) : impl_within.f a b c = some (inr a b c) := by
  unfold impl_within.f inr
  by_cases h : a ≥ b
  · rw [if_pos h]; congr 1; by_cases h2 : a ≤ c <;> simp [h, h2]
  · rw [if_neg h]; congr 1; simp; omega

theorem isFile_eq (a : Int) : impl_isFile.f a = some (inr a 0 7) := by unfold impl_isFile.f; rw [within_eq]; rfl
theorem implDiskOk_l (F : List S134) (hd : dsize F ≤ 1152921504606846976) (hF : F.length ≤ 140737488355328) (rest : List S134) : ∀ (P : List S134) (lo room : Int), F = P ++ rest → 0 ≤ lo → (P = [] ∧ lo = 0 ∨ ∃ P' y, P = P' ++ [y] ∧ lo = y.f0 + 1) → Ev (fun k => impl_DiskOk.l0 k F (F.length : Int) (P.length : Int) room F) (asc lo rest && (inr room 0 40000 && decide (dsize F ≤ room))) := by
  induction rest with
  | nil =>
    intro P lo room hPF h0 hP
    refine Ev.step (f := fun k => (impl_within.f room 0 40000).bind fun t => if t = true then (impl_sizeOf.f k room F).bind fun t2 => some (decide (t2 ≤ room)) else some false) (fun k => ?_) ?_
    · simp only [impl_DiskOk.l0]
      rw [if_neg (by rw [hPF]; simp)]
    · simp only [within_eq, Option.bind_some, asc, Bool.true_and]
      cases inr room 0 40000
      · simp only [Bool.false_eq_true, ↓reduceIte, Bool.false_and]; exact Ev.now _
      · simp only [↓reduceIte, Bool.true_and]
        refine Ev.bind (sizeOf_ev room F hd hF) ?_
        exact Ev.now _
  | cons x t ih =>
    intro P lo room hPF h0 hP
    have el : (F.length : Int) = P.length + t.length + 1 := by rw [hPF]; simp; omega
    have hr : rd_T134 F (P.length : Int) = x := by rw [hPF]; exact rdF_mid P x t
    have hw1 : wrap64 ((P.length : Int) + 1) = ((P ++ [x]).length : Int) := by rw [w64 (by omega) (by omega)]; simp
    by_cases c1 : 0 ≤ x.f0 ∧ x.f0 ≤ 7
    · have i1 : inr x.f0 0 7 = true := decide_eq_true c1
      by_cases c2 : lo ≤ x.f0
      · have h := ih (P ++ [x]) (x.f0 + 1) room (by rw [hPF]; simp) (by omega) (.inr ⟨P, x, rfl, rfl⟩)
        refine Ev.step (f := fun k => impl_DiskOk.l0 k F (F.length : Int) ((P ++ [x]).length : Int) room F) (fun k => ?_) ?_
        · simp only [impl_DiskOk.l0, isFile_eq, Option.bind_some]
          rw [if_pos (by omega), if_pos (by omega), if_pos (by omega), hr, i1, if_pos rfl]
          rcases hP with ⟨rfl, rfl⟩ | ⟨P', y, rfl, rfl⟩
          · rw [if_neg (by simp), hw1]
          · have hy : rd_T134 F (((P' ++ [y]).length : Int) - 1) = y := by rw [hPF]; exact rdF_last P' y (x :: t)
            have ep : ((P' ++ [y]).length : Int) = P'.length + 1 := by simp
            rw [if_pos (by omega), w64 (x := ((P' ++ [y]).length : Int) - 1) (by omega) (by omega), if_pos (by omega), if_pos (by omega), hy, if_neg (by omega), hw1]
        · simp only [asc, show lo ≤ x.f0 ∧ x.f0 ≤ 7 from ⟨c2, c1.2⟩, decide_true, Bool.true_and]; exact h
      · refine Ev.step (f := fun _ => some false) (fun k => ?_) ?_
        · simp only [impl_DiskOk.l0, isFile_eq, Option.bind_some]
          rw [if_pos (by omega), if_pos (by omega), if_pos (by omega), hr, i1, if_pos rfl]
          rcases hP with ⟨rfl, rfl⟩ | ⟨P', y, rfl, rfl⟩
          · omega
          · have hy : rd_T134 F (((P' ++ [y]).length : Int) - 1) = y := by rw [hPF]; exact rdF_last P' y (x :: t)
            have ep : ((P' ++ [y]).length : Int) = P'.length + 1 := by simp
            rw [if_pos (by omega), w64 (x := ((P' ++ [y]).length : Int) - 1) (by omega) (by omega), if_pos (by omega), if_pos (by omega), hy, if_pos (by omega)]
        · have : asc lo (x :: t) = false := by simp [asc, c2]
          rw [this]; exact Ev.now _
    · have i1 : inr x.f0 0 7 = false := decide_eq_false c1
      refine Ev.step (f := fun _ => some false) (fun k => ?_) ?_
      · simp only [impl_DiskOk.l0, isFile_eq, Option.bind_some]
        rw [if_pos (by omega), if_pos (by omega), if_pos (by omega), hr, i1, if_neg (by simp)]
      · have : asc lo (x :: t) = false := by
          have : ¬ (lo ≤ x.f0 ∧ x.f0 ≤ 7) := by omega
          simp only [asc, this, decide_false, Bool.false_and]
        rw [this]; exact Ev.now _
theorem implDiskOk_ev (room : Int) (l : List S134) (h1 : dsize l ≤ 1152921504606846976) (hl : l.length ≤ 140737488355328) : Ev (fun k => impl_DiskOk.f k room l) (diskOk room l) :=
  implDiskOk_l l h1 hl l [] 0 room rfl (by omega) (.inl ⟨rfl, rfl⟩)

theorem l3Copy_eq (room : Int) (l : List S134) (hl : l.length ≤ 3518437208878) : spec_l3Copy.f room l = some (room, l) := by
  unfold spec_l3Copy.f
  simp only [Option.bind_some, List.length_nil, List.nil_append]
  rw [if_pos (by omega)]
theorem diskOk_asc {room : Int} {l : List S134} (h : diskOk room l = true) : asc 0 l = true := by
  unfold diskOk at h; rw [Bool.and_eq_true] at h; exact h.1

theorem findS_l (nm : Int) (rest : List S134) : ∀ (P : List S134) (room : Int), P.length + rest.length ≤ 140737488355328 → Ev (fun k => spec_l3Find.l0 k nm (P.length : Int) room (P ++ rest)) (idxName rest nm (P.length : Int)) := by
  induction rest with
  | nil =>
    intro P room hl
    refine Ev.step (f := fun _ => some (-1)) (fun k => ?_) (Ev.now _)
    simp only [spec_l3Find.l0]
    rw [if_neg (by simp)]
  | cons x t ih =>
    intro P room hl
    simp only [List.length_cons] at hl
    have el : ((P ++ x :: t).length : Int) = P.length + t.length + 1 := by simp; omega
    by_cases c : x.f0 = nm
    · refine Ev.step (f := fun _ => some (P.length : Int)) (fun k => ?_) ?_
      · simp only [spec_l3Find.l0]
        rw [if_pos (by omega), if_pos (by omega), rdF_mid, if_pos c]
      · simp only [idxName, c, ↓reduceIte]; exact Ev.now _
    · have h := ih (P ++ [x]) room (by simp; omega)
      have hw1 : wrap64 ((P.length : Int) + 1) = ((P ++ [x]).length : Int) := by rw [w64 (by omega) (by omega)]; simp
      have hi : idxName (x :: t) nm (P.length : Int) = idxName t nm ((P ++ [x]).length : Int) := by simp only [idxName, c, ↓reduceIte]; simp
      rw [hi]
      refine Ev.step (fun k => ?_) h
      simp only [spec_l3Find.l0]
      rw [if_pos (by omega), if_pos (by omega), rdF_mid, if_neg c, hw1]
      simp
theorem findS_ev (room : Int) (l : List S134) (nm : Int) (hl : l.length ≤ 140737488355328) : Ev (fun k => spec_l3Find.f k room l nm) (idxName l nm 0) := by
  have h := findS_l nm l [] room (by simpa using hl)
  simpa [spec_l3Find.f] using h

theorem idx_b (nm : Int) : ∀ (l : List S134) (i : Int), 0 ≤ i → (idxName l nm i = -1 ∨ i ≤ idxName l nm i ∧ idxName l nm i < i + l.length)
  | [], i, h => by simp [idxName]
  | x :: t, i, h => by
    simp only [idxName, List.length_cons]
    split
    · exact .inr ⟨by omega, by omega⟩
    · have := idx_b nm t (i + 1) (by omega)
      omega
def oth (nm : Int) (l : List S134) : List S134 := l.filter fun x => decide (x.f0 ≠ nm)
def putG (f : S134) : List S134 → List S134
  | [] => [f]
  | x :: t => if x.f0 ≥ f.f0 then f :: oth f.f0 (x :: t) else x :: putG f t
theorem oth_cons_eq {nm : Int} {x : S134} {t : List S134} (h : x.f0 = nm) : oth nm (x :: t) = oth nm t := by simp [oth, h]
theorem oth_cons_ne {nm : Int} {x : S134} {t : List S134} (h : x.f0 ≠ nm) : oth nm (x :: t) = x :: oth nm t := by simp [oth, h]
theorem putT_l (room : Int) (f : S134) (rm : Int) (rest : List S134) : ∀ (P out : List S134), P.length + rest.length ≤ 140737488355328 → out.length + rest.length ≤ 3518437208880 → Ev (fun k => spec_l3Put.l0 k true (P.length : Int) room (P ++ rest) f.f0 f.f1 f.f2 rm out) (rm, out ++ oth f.f0 rest) := by
  induction rest with
  | nil =>
    intro P out hl ho
    refine Ev.step (f := fun _ => some (rm, out)) (fun k => ?_) ?_
    · simp only [spec_l3Put.l0]
      rw [if_neg (by simp), if_pos trivial]
    · simp [oth]; exact Ev.now _
  | cons x t ih =>
    intro P out hl ho
    simp only [List.length_cons] at hl ho
    have el : ((P ++ x :: t).length : Int) = P.length + t.length + 1 := by simp; omega
    have hw1 : wrap64 ((P.length : Int) + 1) = ((P ++ [x]).length : Int) := by rw [w64 (by omega) (by omega)]; simp
    have ea : P ++ x :: t = P ++ [x] ++ t := by simp
    refine Ev.step (fun k => by simp only [spec_l3Put.l0]; rw [if_pos (by omega), if_pos trivial]) ?_
    by_cases c : x.f0 = f.f0
    · have h := ih (P ++ [x]) out (by simp; omega) (by omega)
      rw [oth_cons_eq c]
      refine Ev.step (fun k => ?_) h
      simp only [spec_l3Put.j1]
      rw [if_neg (by simp), if_pos (by omega), if_pos (by omega), rdF_mid, if_pos c, hw1, ea]
    · have h := ih (P ++ [x]) (out ++ [x]) (by simp; omega) (by simp; omega)
      rw [oth_cons_ne c]
      have e3 : out ++ x :: oth f.f0 t = (out ++ [x]) ++ oth f.f0 t := by simp
      rw [e3]
      refine Ev.step (fun k => ?_) h
      simp only [spec_l3Put.j1]
      rw [if_neg (by simp), if_pos (by omega), if_pos (by omega), rdF_mid, if_neg c, if_pos (by omega), hw1, ea]
theorem putF_l (room : Int) (f : S134) (rm : Int) (rest : List S134) : ∀ (P out : List S134), P.length + rest.length ≤ 140737488355328 → out.length + rest.length ≤ 3518437208878 → Ev (fun k => spec_l3Put.l0 k false (P.length : Int) room (P ++ rest) f.f0 f.f1 f.f2 rm out) (rm, out ++ putG f rest) := by
  induction rest with
  | nil =>
    intro P out hl ho
    refine Ev.step (f := fun _ => some (rm, out ++ [f])) (fun k => ?_) ?_
    · simp only [spec_l3Put.l0]
      rw [if_neg (by simp), if_neg (by simp), if_pos (by omega)]
    · simp [putG]; exact Ev.now _
  | cons x t ih =>
    intro P out hl ho
    simp only [List.length_cons] at hl ho
    have el : ((P ++ x :: t).length : Int) = P.length + t.length + 1 := by simp; omega
    have hw1 : wrap64 ((P.length : Int) + 1) = ((P ++ [x]).length : Int) := by rw [w64 (by omega) (by omega)]; simp
    have ea : P ++ x :: t = P ++ [x] ++ t := by simp
    refine Ev.step (fun k => by simp only [spec_l3Put.l0]; rw [if_pos (by omega), if_neg (by simp), if_pos (by omega), rdF_mid]) ?_
    by_cases c : x.f0 ≥ f.f0
    · simp only [c, decide_true, putG, ↓reduceIte]
      by_cases c2 : x.f0 = f.f0
      · have h := putT_l room f rm t (P ++ [x]) (out ++ [f]) (by simp; omega) (by simp; omega)
        rw [oth_cons_eq c2]
        have e3 : out ++ f :: oth f.f0 t = (out ++ [f]) ++ oth f.f0 t := by simp
        rw [e3]
        refine Ev.step (fun k => ?_) h
        simp only [spec_l3Put.j1]
        rw [if_pos trivial, if_pos (by omega)]
        simp only [Option.bind_some]
        rw [if_pos (by omega), if_pos (by omega), rdF_mid, if_pos c2, hw1, ea]
      · have h := putT_l room f rm t (P ++ [x]) (out ++ [f] ++ [x]) (by simp; omega) (by simp; omega)
        rw [oth_cons_ne c2]
        have e3 : out ++ f :: x :: oth f.f0 t = (out ++ [f] ++ [x]) ++ oth f.f0 t := by simp
        rw [e3]
        refine Ev.step (fun k => ?_) h
        simp only [spec_l3Put.j1]
        rw [if_pos trivial, if_pos (by omega)]
        simp only [Option.bind_some]
        rw [if_pos (by omega), if_pos (by omega), rdF_mid, if_neg c2, if_pos (by simp; omega), hw1, ea]
    · simp only [c, decide_false, putG, ↓reduceIte]
      have c2 : ¬ x.f0 = f.f0 := by omega
      have h := ih (P ++ [x]) (out ++ [x]) (by simp; omega) (by simp; omega)
      have e3 : out ++ x :: putG f t = (out ++ [x]) ++ putG f t := by simp
      rw [e3]
      refine Ev.step (fun k => ?_) h
      simp only [spec_l3Put.j1]
      rw [if_neg (by simp), if_pos (by omega), if_pos (by omega), rdF_mid, if_neg c2, if_pos (by omega), hw1, ea]
theorem l3Put_ev (room : Int) (l : List S134) (f : S134) (hl : l.length ≤ 3518437208878) : Ev (fun k => spec_l3Put.f k room l f.f0 f.f1 f.f2) (room, putG f l) := by
  have h := putF_l room f room l [] [] (by simp; omega) (by simpa using hl)
  simpa [spec_l3Put.f] using h
theorem diskOk_b {room : Int} {l : List S134} (h : diskOk room l = true) : 0 ≤ room ∧ room ≤ 40000 ∧ dsize l ≤ room ∧ l.length ≤ 8 := by
  unfold diskOk at h
  simp only [Bool.and_eq_true, inr, decide_eq_true_eq] at h
  have := asc_len l 0 (by omega) h.1
  omega
theorem dsize_oth (nm : Int) : ∀ l : List S134, dsize (oth nm l) ≤ dsize l ∧ (oth nm l).length ≤ l.length
  | [] => by simp [oth, dsize]
  | x :: t => by
    have h := dsize_oth nm t
    have hn := dsize_nn (oth nm t)
    by_cases c : x.f0 = nm
    · rw [oth_cons_eq c]; simp only [dsize, List.length_cons]; omega
    · rw [oth_cons_ne c]; simp only [dsize, List.length_cons]; omega
theorem dsize_putG (f : S134) : ∀ l : List S134, dsize (putG f l) ≤ dsize l + f.f1.size + f.f2.size ∧ (putG f l).length ≤ l.length + 1
  | [] => by simp only [putG, dsize, List.length_cons, List.length_nil]; omega
  | x :: t => by
    have h := dsize_putG f t
    simp only [putG]
    split
    · have := dsize_oth f.f0 (x :: t)
      simp only [dsize, List.length_cons] at this ⊢; omega
    · simp only [dsize, List.length_cons]; omega
def movF (l : List S134) (nm to_ : Int) : S134 := ⟨to_, (rd_T134 l (idxName l nm 0)).f1, (rd_T134 l (idxName l nm 0)).f2⟩
def diskMove (room : Int) (l : List S134) (nm to_ : Int) : Int × List S134 × Int :=
  if (diskOk room l && (inr nm 0 7 && (inr to_ 0 7 && !(nm == to_)))) = true then (if idxName l nm 0 < 0 then (room, l, 2) else (room, putG (movF l nm to_) (l.eraseIdx (idxName l nm 0).toNat), 0)) else (0, [], 1)
theorem dsize_erase : ∀ (l : List S134) (i : Nat), dsize (l.eraseIdx i) ≤ dsize l ∧ (l.eraseIdx i).length ≤ l.length
  | [], i => by simp [dsize]
  | x :: t, 0 => by have := dsize_nn t; simp only [List.eraseIdx_cons_zero, dsize, List.length_cons]; omega
  | x :: t, i + 1 => by have := dsize_erase t i; simp only [List.eraseIdx_cons_succ, dsize, List.length_cons]; omega
theorem moveS_l (room rm : Int) (l : List S134) (j : Nat) (f : S134) (hl : l.length ≤ 3518437208878) (d : Nat) : ∀ i : Nat, i + d = l.length →
    Ev (fun k => spec_DiskMove.l0 k (j : Int) (i : Int) room l f.f0 f.f1 f.f2 rm ((l.take i).eraseIdx j)) (rm, putG f (l.eraseIdx j), 0) := by
  induction d with
  | zero =>
    intro i hi
    have ht : l.take i = l := List.take_of_length_le (by omega)
    refine Ev.step (fun k => by simp only [spec_DiskMove.l0]; rw [if_neg (by omega), ht]) ?_
    refine Ev.bind (l3Put_ev rm (l.eraseIdx j) f (by have := (dsize_erase l j).2; omega)) ?_
    exact Ev.now _
  | succ d ih =>
    intro i hi
    have h := ih (i + 1) (by omega)
    have hlt : i < l.length := by omega
    have hw : wrap64 ((i : Int) + 1) = ((i + 1 : Nat) : Int) := by rw [w64 (by omega) (by omega)]; omega
    have et : l.take (i + 1) = l.take i ++ [l[i]] := List.take_succ_eq_append_getElem hlt
    have hti : (l.take i).length = i := by rw [List.length_take]; omega
    by_cases c : i = j
    · refine Ev.step (fun k => ?_) h
      simp only [spec_DiskMove.l0]
      rw [if_pos (by omega), if_pos (by omega), hw]
      have e : (l.take (i + 1)).eraseIdx j = (l.take i).eraseIdx j := by
        rw [et, ← c, List.eraseIdx_append_of_length_le (by omega), hti, Nat.sub_self, List.eraseIdx_of_length_le (l := l.take i) (by omega)]
        simp
      rw [e]
    · refine Ev.step (fun k => ?_) h
      have hle := (dsize_erase (l.take i) j).2
      simp only [spec_DiskMove.l0]
      rw [if_pos (by omega), if_neg (by omega), if_pos (by omega), if_pos (by omega), hw]
      have e : (l.take (i + 1)).eraseIdx j = (l.take i).eraseIdx j ++ [rd_T134 l (i : Int)] := by
        have er : rd_T134 l (i : Int) = l[i] := by unfold rd_T134; simp [List.getD_eq_getElem?_getD, hlt]
        rw [et, er]
        by_cases c2 : j < i
        · rw [List.eraseIdx_append_of_lt_length (by omega)]
        · rw [List.eraseIdx_of_length_le (l := l.take i ++ [l[i]]) (by simp; omega), List.eraseIdx_of_length_le (l := l.take i) (by omega)]
      rw [e]
theorem specDiskMove_ev (room : Int) (l : List S134) (nm to_ : Int) (h1 : dsize l ≤ 1152921504606846976) (hl : l.length ≤ 3518437208878) : Ev (fun k => spec_DiskMove.f k room l nm to_) (diskMove room l nm to_) := by
  unfold spec_DiskMove.f diskMove
  refine Ev.bind (specDiskOk_ev room l h1 (by omega)) ?_
  have hj : Ev (fun k => spec_DiskMove.j0 k nm to_ true room l) (0, [], 1) := by
    refine Ev.step (f := fun _ => some (0, [], 1)) (fun k => ?_) (Ev.now _)
    simp only [spec_DiskMove.j0, ↓reduceIte]
  cases h : diskOk room l
  · simp only [Bool.false_eq_true, ↓reduceIte, Bool.false_and]; exact hj
  simp only [↓reduceIte, Bool.true_and, l3Name_eq, Option.bind_some]
  cases h2 : inr nm 0 7
  · simp only [Bool.false_and, Bool.false_eq_true, ↓reduceIte]; exact hj
  simp only [↓reduceIte, Bool.true_and]
  cases h3 : inr to_ 0 7
  · simp only [Bool.false_and, Bool.false_eq_true, ↓reduceIte]; exact hj
  simp only [↓reduceIte, Bool.true_and]
  cases h4 : nm == to_
  · simp only [Bool.not_false, ↓reduceIte]
    refine Ev.step (fun k => by simp only [spec_DiskMove.j0, Bool.false_eq_true, ↓reduceIte]; rfl) ?_
    refine Ev.bind (findS_ev room l nm (by omega)) ?_
    by_cases c : idxName l nm 0 < 0
    · simp only [c, ↓reduceIte, l3Copy_eq room l hl, Option.bind_some]; exact Ev.now _
    · have hb2 := idx_b nm l 0 (by omega)
      have hm := moveS_l room room l (idxName l nm 0).toNat (movF l nm to_) hl l.length 0 (by omega)
      have e : (((idxName l nm 0).toNat : Nat) : Int) = idxName l nm 0 := by omega
      simp only [c, ↓reduceIte, show 0 ≤ idxName l nm 0 by omega, show idxName l nm 0 < (l.length : Int) by omega]
      rw [e] at hm
      simpa [movF] using hm
  · simp only [Bool.not_true, Bool.false_eq_true, ↓reduceIte]; exact hj

theorem asc_pw : ∀ (l : List S134) (lo : Int), asc lo l = true → (∀ x ∈ l, lo ≤ x.f0) ∧ l.Pairwise (fun x y => x.f0 < y.f0)
  | [], _, _ => ⟨by simp, List.Pairwise.nil⟩
  | x :: t, lo, h => by
    simp only [asc, Bool.and_eq_true, decide_eq_true_eq] at h
    obtain ⟨h1, h2⟩ := asc_pw t (x.f0 + 1) h.2
    refine ⟨fun y hy => ?_, List.pairwise_cons.2 ⟨fun y hy => by have := h1 y hy; omega, h2⟩⟩
    rcases List.mem_cons.1 hy with rfl | hy
    · exact h.1.1
    · have := h1 y hy; omega
theorem erase_oth (nm : Int) : ∀ (l : List S134) (i : Int), l.Pairwise (fun x y => x.f0 < y.f0) → 0 ≤ i → 0 ≤ idxName l nm i → l.eraseIdx (idxName l nm i - i).toNat = oth nm l
  | [], i, _, h, h1 => by simp [idxName] at h1
  | x :: t, i, hp, h, h1 => by
    obtain ⟨hx, ht⟩ := List.pairwise_cons.1 hp
    simp only [idxName] at h1 ⊢
    by_cases c : x.f0 = nm
    · simp only [c, ↓reduceIte, Int.sub_self, Int.toNat_zero, List.eraseIdx_cons_zero]
      rw [oth_cons_eq c]
      unfold oth
      symm
      rw [List.filter_eq_self]
      intro y hy
      have := hx y hy
      simp only [ne_eq, decide_eq_true_eq]
      omega
    · simp only [c, ↓reduceIte] at h1 ⊢
      have ih := erase_oth nm t (i + 1) ht (by omega) h1
      have hb := idx_b nm t (i + 1) (by omega)
      have e : (idxName t nm (i + 1) - i).toNat = (idxName t nm (i + 1) - (i + 1)).toNat + 1 := by omega
      rw [e, List.eraseIdx_cons_succ, ih, oth_cons_ne c]
theorem place_head (f : S134) (m : List S134) (h : ∀ x ∈ m, f.f0 ≤ x.f0) : placeL m f = f :: m := by
  have e : placeIdx m f.f0 = 0 := by
    cases m with
    | nil => rfl
    | cons x t =>
      have := h x (by simp)
      have hn : ¬ x.f0 < f.f0 := by omega
      simp [placeIdx, hn]
  simp [placeL, e]
theorem putG_oth (f : S134) : ∀ (m : List S134), m.Pairwise (fun x y => x.f0 < y.f0) → putG f m = placeL (oth f.f0 m) f
  | [], _ => by rw [place_head f _ (by simp [oth])]; rfl
  | x :: t, hp => by
    obtain ⟨hx, ht⟩ := List.pairwise_cons.1 hp
    by_cases c : x.f0 ≥ f.f0
    · rw [place_head f (oth f.f0 (x :: t)) (fun y hy => by
        have hy' := (List.mem_filter.1 hy).1
        rcases List.mem_cons.1 hy' with rfl | hy'
        · exact c
        · have := hx y hy'; omega)]
      simp only [putG, c, ↓reduceIte]
    · have ih := putG_oth f t ht
      have e : ∀ m, placeIdx (x :: m) f.f0 = placeIdx m f.f0 + 1 := fun m => by
        have : x.f0 < f.f0 := by omega
        simp [placeIdx, this]
      rw [oth_cons_ne (by omega)]
      unfold placeL at ih ⊢
      simp only [putG, c, ↓reduceIte, e, List.take_succ_cons, List.drop_succ_cons, List.cons_append, ih]
theorem del_oth (nm tt : Int) (l : List S134) : l.filter (fun x => !delP nm tt x) = oth tt (oth nm l) := by
  unfold oth
  rw [List.filter_filter]
  congr 1
  funext x
  unfold delP
  by_cases c1 : x.f0 = nm <;> by_cases c2 : x.f0 = tt <;> simp [c1, c2]
theorem diskMove_len (room : Int) (l : List S134) (nm tt : Int) : (diskMove room l nm tt).2.1.length ≤ l.length + 1 := by
  unfold diskMove
  split
  · split
    · simp
    · have h1 := (dsize_putG (movF l nm tt) (l.eraseIdx (idxName l nm 0).toNat)).2
      have h2 := (dsize_erase l (idxName l nm 0).toNat).2
      simp only
      omega
  · simp
theorem implDiskMove_ev (room : Int) (l : List S134) (nm tt : Int) (h1 : dsize l ≤ 1152921504606846976) (hl : l.length ≤ 3518437208878) : Ev (fun k => impl_DiskMove.f k room l nm tt) (diskMove room l nm tt) := by
  unfold impl_DiskMove.f diskMove
  refine Ev.bind (implDiskOk_ev room l h1 (by omega)) ?_
  cases h : diskOk room l
  · simp only [Bool.false_eq_true, ↓reduceIte, Bool.false_and]; exact Ev.now _
  have hb := diskOk_b h
  simp only [Bool.true_eq_false, ↓reduceIte, Bool.true_and, isFile_eq, Option.bind_some]
  cases h2 : inr nm 0 7
  · simp only [Bool.false_and, Bool.false_eq_true, ↓reduceIte]; exact Ev.now _
  simp only [Bool.true_eq_false, ↓reduceIte, Bool.true_and]
  cases h3 : inr tt 0 7
  · simp only [Bool.false_and, Bool.false_eq_true, ↓reduceIte]; exact Ev.now _
  simp only [Bool.true_eq_false, ↓reduceIte, Bool.true_and]
  by_cases h4 : nm = tt
  · simp only [h4, beq_self_eq_true, Bool.not_true, Bool.false_eq_true, ↓reduceIte]; exact Ev.now _
  · have h5 : (nm == tt) = false := by simpa using h4
    simp only [h4, h5, Bool.not_false, ↓reduceIte, moveCore, show l.length ≤ 1000 by omega]
    by_cases c : idxName l nm 0 < 0
    · simp only [c, ↓reduceIte]; exact Ev.now _
    · have hp := (asc_pw l 0 (diskOk_asc h)).2
      have he := erase_oth nm l 0 hp (by omega) (by omega)
      rw [Int.sub_zero] at he
      have hg := putG_oth (movF l nm tt) (oth nm l) (hp.filter _)
      simp only [c, ↓reduceIte, he, hg, del_oth]
      exact Ev.now _

theorem FnExactDiskMove : laws_FnExactDiskMove.Pure := by
  intro room l nm s hr hm hz hq _ _
  have hl : l.length ≤ 3518437208780 := by omega
  obtain ⟨r, h1, h2⟩ := szDisk_ev room l hq hz 1048576 (by omega) (by omega)
  apply Ev.rounds
  unfold laws_FnExactDiskMove.f
  refine Ev.bind h1 ?_
  by_cases h : r < 0
  · simp only [h, ↓reduceIte]; exact Ev.now _
  · have h2 := h2 (by omega)
    have hn := dsize_nn (l.map toF)
    have hL : (l.map toF).length ≤ 1048576 := by simp; omega
    have hT := toDisk_ev room l (by omega)
    have hS := specDiskMove_ev room (l.map toF) nm s (by omega) (by omega)
    have hI := implDiskMove_ev room (l.map toF) nm s (by omega) (by omega)
    have hG := diskMove_len room (l.map toF) nm s
    generalize l.map toF = L at *
    generalize diskMove room L nm s = U at *
    obtain ⟨u0, u1, u2⟩ := U
    simp only at hG
    simp only [h, ↓reduceIte]
    refine Ev.bind hT ?_
    refine Ev.bind hS ?_
    refine Ev.bind hT ?_
    refine Ev.bind hI ?_
    refine Ev.bind (eqDisk_ev u0 u1 (by omega)) ?_
    simp only [↓reduceIte, bne_self_eq_false]
    refine Ev.step (fun k => by simp only [laws_FnExactDiskMove.j0, Bool.false_eq_true, ↓reduceIte]; rfl) ?_
    refine Ev.bind hT ?_
    refine Ev.bind (eqDisk_ev room L (by omega)) ?_
    simp only [↓reduceIte]
    refine Ev.bind (markDisk_ev room L 1 (by omega) (by omega) (by omega)) ?_
    simp only [show ¬ (1 + 3 * (L.length : Int) < 0) by omega, ↓reduceIte]
    refine Ev.bind (eqDisk_ev u0 u1 (by omega)) ?_
    simp only [↓reduceIte, bne_self_eq_false]
    refine Ev.step (fun k => by simp only [laws_FnExactDiskMove.j1, Bool.false_eq_true, ↓reduceIte]; rfl) ?_
    refine Ev.bind (markDisk_ev u0 u1 1 (by omega) (by omega) (by omega)) ?_
    refine Ev.bind (heldDisk_ev u0 u1.length 1 (by omega) (by omega) (by omega)) ?_
    simp only [show ¬ (1 + 3 * (u1.length : Int) < 0) by omega, ↓reduceIte]
    refine Ev.bind hT ?_
    refine Ev.bind hI ?_
    refine Ev.bind (eqDisk_ev u0 u1 (by omega)) ?_
    simp only [↓reduceIte, bne_self_eq_false]
    refine Ev.step (fun k => by simp only [laws_FnExactDiskMove.j2, Bool.false_eq_true, ↓reduceIte]; rfl) ?_
    refine Ev.bind (heldDisk_ev u0 u1.length 1 (by omega) (by omega) (by omega)) ?_
    simp only [show ¬ (1 + 3 * (u1.length : Int) < 0) by omega, ↓reduceIte]
    exact Ev.now _

end Go.Proofs.Ytnjpfllmcmomoaa.Pure
