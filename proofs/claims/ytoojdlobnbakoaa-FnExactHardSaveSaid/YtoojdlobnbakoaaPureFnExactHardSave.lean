/- HardSave of the program and of the reference give the same disk and word for every disk, name and row of records, in memory of their own, and the program leaves its arguments as they were; no condition. -/
import Derived.Test.YtoojdlobnbakoaaQFnExactHardSavex15
namespace Go.Proofs.Ytoojdlobnbakoaa.Pure
open Go.RowKit Go.Proofs.Ytoojdlobnbakoaa.QFnExactHardSave Go.Proofs.YtoojdlobnbakoaaW.PrintWords Go.Proofs.YtoojdlobnbakoaaW.PrintLast
set_option linter.unusedVariables false
set_option linter.unusedSimpArgs false
theorem w64 {x : Int} (h0 : -9223372036854775808 ≤ x) (h1 : x ≤ 9223372036854775807) : wrap64 x = x := by
  unfold wrap64; omega
def By (l : List Int) : Prop := ∀ x ∈ l, 0 ≤ x ∧ x ≤ 255
theorem rd_nat (l : List Int) (i : Nat) : rd l (i : Int) = l.getD i 0 := by simp [rd]
theorem wraps_i64 (n : Int) (h₀ : 0 ≤ n) (h₁ : n < 2 ^ 63) : IntKind.i64.wrap n = n := by rw [IntKind.wrap_i64]; omega
theorem and_mask (i : Nat) (hi : i ≤ 63) {x : Int} (h₀ : 0 ≤ x) (h₁ : x ≤ 9223372036854775807) : Go.bits .and .i64 x (2 ^ i - 1) = x % 2 ^ i :=
  bits_mask .i64 63 (by decide) wraps_i64 i hi x h₀ (by omega)
theorem or_join (i : Nat) {x y : Int} (hx₀ : 0 ≤ x) (hx : x % 2 ^ i = 0) (hx₁ : x ≤ 9223372036854775807) (hy₀ : 0 ≤ y) (hy : y < 2 ^ i) (hy₁ : y ≤ 9223372036854775807) : Go.bits .or .i64 x y = x + y :=
  bits_join .i64 63 (by decide) wraps_i64 i x y hx₀ hx (by omega) hy₀ hy (by omega)

def inr (a b c : Int) : Bool := decide (b ≤ a ∧ a ≤ c)
theorem ba_nil : (⟨#[]⟩ : ByteArray).toList = [] := by rw [ByteArray.toList, ByteArray.toList.loop]; rfl
theorem if_eq0 (a c : Int) (x : Bool) : (if a = c then some x else some false) = some (a == c && x) := by
  by_cases h : a = c
  · subst h; simp
  · have b : (a == c) = false := by simpa using h
    simp [h, b]
theorem if_tt (b x : Bool) : (if b = true then some x else some false) = some (b && x) := by cases b <;> rfl

theorem rdF_mid (P : List S95) (x : S95) (t : List S95) : rd_T95 (P ++ x :: t) (P.length : Int) = x := by
  unfold rd_T95; simp
theorem rdF_last (P : List S95) (y : S95) (t : List S95) : rd_T95 (P ++ [y] ++ t) (((P ++ [y]).length : Int) - 1) = y := by
  unfold rd_T95
  have : (((P ++ [y]).length : Int) - 1).toNat = P.length := by simp
  rw [this]; simp
def dsize : List S95 → Int
  | [] => 0
  | x :: t => x.f1.size + x.f2.size + dsize t
theorem dsize_nn : ∀ l : List S95, 0 ≤ dsize l
  | [] => by simp [dsize]
  | x :: t => by have := dsize_nn t; simp only [dsize]; omega
theorem dsize_mem {l : List S95} {x : S95} (h : x ∈ l) : (x.f1.size : Int) + x.f2.size ≤ dsize l := by
  induction l with
  | nil => simp at h
  | cons y t ih =>
    have hn := dsize_nn t
    simp only [dsize]
    rcases List.mem_cons.1 h with rfl | h
    · omega
    · have := ih h; omega
def asc : Int → List S95 → Bool
  | _, [] => true
  | lo, x :: t => decide (lo ≤ x.f0 ∧ x.f0 ≤ 7) && asc (x.f0 + 1) t
theorem asc_len : ∀ (l : List S95) (lo : Int), lo ≤ 8 → asc lo l = true → (l.length : Int) ≤ 8 - lo
  | [], lo, h, _ => by simp; omega
  | x :: t, lo, h, ha => by
    simp only [asc, Bool.and_eq_true, decide_eq_true_eq] at ha
    have := asc_len t (x.f0 + 1) (by omega) ha.2
    simp only [List.length_cons]; omega
def diskOk (room : Int) (l : List S95) : Bool := asc 0 l && (inr room 0 40000 && decide (dsize l ≤ room))

theorem rdG_mid (P : List S161) (x : S161) (t : List S161) : rd_T161 (P ++ x :: t) (P.length : Int) = x := by
  unfold rd_T161; simp
def toF (x : S161) : S95 := ⟨x.f0, x.f1, x.f2⟩
def szF : List S161 → Int → Int
  | [], a => a
  | x :: t, a => if a - x.f1.size < 0 then -1 else if a - x.f1.size - x.f2.size < 0 then -1 else szF t (a - x.f1.size - x.f2.size)
theorem szF_b : ∀ (l : List S161) (a : Int), 0 ≤ a → (szF l a = -1 ∨ 0 ≤ szF l a ∧ szF l a + dsize (l.map toF) = a)
  | [], a, h => by simp [szF, dsize, h]
  | x :: t, a, h => by
    have ht : dsize ((x :: t).map toF) = x.f1.size + x.f2.size + dsize (t.map toF) := rfl
    rw [ht]
    simp only [szF]
    split
    · exact .inl rfl
    · split
      · exact .inl rfl
      · have := szF_b t (a - x.f1.size - x.f2.size) (by omega)
        rcases this with h1 | h1
        · exact .inl h1
        · refine .inr ⟨h1.1, ?_⟩; omega
theorem szFile_eq (x : S161) (a : Int) (h0 : 0 ≤ a) (h1 : a ≤ 140737488355328) (hx : x.f1.size ≤ 140737488355328 ∧ x.f2.size ≤ 140737488355328) : laws_szFile.f x.f0 x.f1 x.f2 a = some (if a - x.f1.size < 0 then -1 else if a - x.f1.size - x.f2.size < 0 then -1 else a - x.f1.size - x.f2.size) := by
  unfold laws_szFile.f
  rw [w64 (x := a - x.f1.size) (by omega) (by omega), w64 (by omega) (by omega)]
  split
  · rfl
  · split <;> rfl
theorem szFileS_l (rest : List S161) : ∀ (P : List S161) (a : Int), 0 ≤ a → a ≤ 140737488355328 → P.length + rest.length ≤ 140737488355328 → (∀ x ∈ rest, x.f1.size ≤ 140737488355328 ∧ x.f2.size ≤ 140737488355328) → Ev (fun k => laws_szFileS.l0 k (P ++ rest) a (P.length : Int)) (szF rest a) := by
  induction rest with
  | nil =>
    intro P a h0 h1 hl hx
    refine Ev.step (f := fun _ => some a) (fun k => ?_) (Ev.now _)
    simp only [laws_szFileS.l0]
    rw [if_neg (by simp)]
  | cons x t ih =>
    intro P a h0 h1 hl hx
    simp only [List.length_cons] at hl
    have hx0 := hx x (by simp)
    have e := szFile_eq x a h0 h1 hx0
    have el : ((P ++ x :: t).length : Int) = P.length + t.length + 1 := by simp; omega
    by_cases c1 : a - x.f1.size < 0
    · refine Ev.step (f := fun _ => some (-1)) (fun k => ?_) ?_
      · simp only [laws_szFileS.l0]
        rw [if_pos (by omega), if_pos (by omega), rdG_mid, e, if_pos c1]
        rfl
      · simp only [szF, c1, ↓reduceIte]; exact Ev.now _
    · by_cases c2 : a - x.f1.size - x.f2.size < 0
      · refine Ev.step (f := fun _ => some (-1)) (fun k => ?_) ?_
        · simp only [laws_szFileS.l0]
          rw [if_pos (by omega), if_pos (by omega), rdG_mid, e, if_neg c1, if_pos c2]
          rfl
        · simp only [szF, c1, c2, ↓reduceIte]; exact Ev.now _
      · have h := ih (P ++ [x]) (a - x.f1.size - x.f2.size) (by omega) (by omega) (by simp; omega) (fun y hy => hx y (by simp [hy]))
        refine Ev.step (f := fun k => laws_szFileS.l0 k ((P ++ [x]) ++ t) (a - x.f1.size - x.f2.size) ((P ++ [x]).length : Int)) (fun k => ?_) ?_
        · simp only [laws_szFileS.l0]
          rw [if_pos (by omega), if_pos (by omega), rdG_mid, e, if_neg c1, if_neg c2]
          simp only [Option.bind_some]
          rw [if_neg c2, w64 (by omega) (by omega)]
          simp
        · simp only [szF, c1, c2, ↓reduceIte]; exact h
theorem szFileS_ev (l : List S161) (a : Int) (h0 : 0 ≤ a) (h1 : a ≤ 140737488355328) (hl : l.length ≤ 140737488355328) (hx : ∀ x ∈ l, x.f1.size ≤ 140737488355328 ∧ x.f2.size ≤ 140737488355328) :
    ∃ r, Ev (fun k => laws_szFileS.f k l a) r ∧ (0 ≤ r → r + l.length + dsize (l.map toF) = a) := by
  unfold laws_szFileS.f
  rw [w64 (x := a - l.length) (by omega) (by omega)]
  by_cases h : a - l.length < 0
  · refine ⟨-1, ?_, by omega⟩
    simp only [h, ↓reduceIte]; exact Ev.now _
  · refine ⟨szF l (a - l.length), ?_, ?_⟩
    · simp only [h, ↓reduceIte]
      exact szFileS_l l [] (a - l.length) (by omega) (by omega) (by simp; omega) hx
    · have := szF_b l (a - l.length) (by omega)
      omega
theorem set_fillF (l : List S161) (i d : Nat) (hi : i + (d + 1) = l.length) : ((l.take i).map toF ++ List.replicate (d + 1) z95).set i (toF (rd_T161 l (i : Int))) = (l.take (i + 1)).map toF ++ List.replicate d z95 := by
  have hlt : i < l.length := by omega
  have h1 : ((l.take i).map toF).length = i := by rw [List.length_map, List.length_take]; omega
  rw [List.set_append_right _ _ (by omega), h1, Nat.sub_self, List.replicate_succ, List.set_cons_zero, List.take_succ_eq_append_getElem hlt, List.map_append, List.append_assoc]
  unfold rd_T161
  simp [List.getD_eq_getElem?_getD, hlt]
theorem toFileS_l (l : List S161) (hl : l.length ≤ 7036874417766) (d : Nat) : ∀ i : Nat, i + d = l.length → Ev (fun k => laws_toFileS.l0 k l ((l.take i).map toF ++ List.replicate d z95) (i : Int)) (l.map toF) := by
  induction d with
  | zero =>
    intro i hi
    refine Ev.step (f := fun _ => some (l.map toF)) (fun k => ?_) (Ev.now _)
    simp only [laws_toFileS.l0]
    rw [if_neg (by omega)]
    have : l.take i = l := List.take_of_length_le (by omega)
    simp [this]
  | succ d ih =>
    intro i hi
    refine Ev.step (f := fun k => laws_toFileS.l0 k l ((l.take (i + 1)).map toF ++ List.replicate d z95) ((i + 1 : Nat) : Int)) (fun k => ?_) (ih (i + 1) (by omega))
    simp only [laws_toFileS.l0, laws_toFile.f, Option.bind_some]
    rw [if_pos (by omega), if_pos (by omega), if_pos (by simp; omega), w64 (by omega) (by omega), Int.toNat_natCast]
    rw [show (⟨(rd_T161 l (i : Int)).f0, (rd_T161 l (i : Int)).f1, (rd_T161 l (i : Int)).f2⟩ : S95) = toF (rd_T161 l (i : Int)) from rfl, set_fillF l i d hi]
    rfl
theorem toFileS_ev (l : List S161) (hl : l.length ≤ 7036874417766) : Ev (fun k => laws_toFileS.f k l) (l.map toF) := by
  refine Ev.congr (fun k => ?_) (toFileS_l l hl l.length 0 (by omega))
  unfold laws_toFileS.f
  rw [if_pos (by omega), if_pos (by simp; omega)]
  simp
theorem eqFileS_l (l : List S95) (hl : l.length ≤ 140737488355328) (d : Nat) : ∀ i : Nat, i + d = l.length → Ev (fun k => laws_eqFileS.l0 k l l (i : Int)) true := by
  induction d with
  | zero =>
    intro i hi
    refine Ev.step (f := fun _ => some true) (fun k => ?_) (Ev.now _)
    simp only [laws_eqFileS.l0]
    rw [if_neg (by omega)]
  | succ d ih =>
    intro i hi
    refine Ev.step (f := fun k => laws_eqFileS.l0 k l l ((i + 1 : Nat) : Int)) (fun k => ?_) (ih (i + 1) (by omega))
    simp only [laws_eqFileS.l0, laws_eqFile.f, ↓reduceIte, Option.bind_some]
    rw [if_pos (by omega), if_pos (by omega), if_pos (by omega), w64 (by omega) (by omega)]
    rfl
theorem eqFileS_ev (l : List S95) (hl : l.length ≤ 140737488355328) : Ev (fun k => laws_eqFileS.f k l l) true := by
  refine Ev.congr (fun k => ?_) (eqFileS_l l hl l.length 0 (by omega))
  unfold laws_eqFileS.f
  rw [if_pos rfl]; rfl

theorem szDisk_ev (room : Int) (l : List S161) (h : ∀ x ∈ l, Q161 x) (hl : l.length * 40 ≤ 140737488351232) (a : Int) (h0 : 0 ≤ a) (h1 : a ≤ 140737488355328) :
    ∃ r, Ev (fun k => laws_szDisk.f k room l a) r ∧ (0 ≤ r → r + l.length + dsize (l.map toF) = a) := by
  obtain ⟨r, hr, hb⟩ := szFileS_ev l a h0 h1 (by omega) (fun x hx => by have := h x hx; unfold Q161 at this; omega)
  by_cases c : r < 0
  · refine ⟨-1, ?_, by omega⟩
    unfold laws_szDisk.f
    refine Ev.bind hr ?_
    simp only [c, ↓reduceIte]; exact Ev.now _
  · refine ⟨r, ?_, hb⟩
    unfold laws_szDisk.f
    refine Ev.bind hr ?_
    simp only [c, ↓reduceIte]; exact Ev.now _
theorem toDisk_ev (room : Int) (l : List S161) (hl : l.length ≤ 7036874417766) : Ev (fun k => laws_toDisk.f k room l) (room, l.map toF) := by
  unfold laws_toDisk.f
  refine Ev.bind (toFileS_ev l hl) ?_
  exact Ev.now _
theorem eqDisk_ev (room : Int) (l : List S95) (hl : l.length ≤ 140737488355328) : Ev (fun k => laws_eqDisk.f k room l room l) true := by
  unfold laws_eqDisk.f
  simp only [↓reduceIte]
  refine Ev.bind (eqFileS_ev l hl) ?_
  simp only [↓reduceIte]; exact Ev.now _

def mtGo (x : Int) (a : ByteArray) : ByteArray := if h : x > 0 then mtGo (x / 10) (strOfNums [(48 + x % 10) % 256] ++ a) else (⟨#[109]⟩ : ByteArray) ++ a
termination_by x.toNat
decreasing_by omega
def mt (x : Int) : ByteArray := if x ≤ 0 then (⟨#[109, 48]⟩ : ByteArray) else mtGo x (⟨#[]⟩ : ByteArray)
theorem strOf1_size (c : Int) : (strOfNums [c]).size = 1 := rfl
theorem markText_l (m : Nat) : ∀ (x : Int) (a : ByteArray), x < 10 ^ m → a.size + m ≤ 1000000 → x ≤ 9223372036854775807 → 0 ≤ x → Ev (fun k => laws_markText.l0 k x a) (mtGo x a) := by
  induction m with
  | zero =>
    intro x a h0 h1 h2 h3
    have h0 : x < 1 := by simpa using h0
    refine Ev.step (f := fun _ => some (mtGo x a)) (fun k => ?_) (Ev.now _)
    simp only [laws_markText.l0]
    rw [if_neg (by omega), if_pos (by omega)]
    rw [mtGo, dif_neg (by omega)]
  | succ m ih =>
    intro x a h0 h1 h2 h3
    by_cases c : x > 0
    · have e : mtGo x a = mtGo (x / 10) (strOfNums [(48 + x % 10) % 256] ++ a) := by rw [mtGo]; simp [c]
      have es : (strOfNums [(48 + x % 10) % 256] ++ a).size = 1 + a.size := by rw [ByteArray.size_append, strOf1_size]
      rw [Int.pow_succ] at h0
      have h := ih (x / 10) (strOfNums [(48 + x % 10) % 256] ++ a) (by omega) (by omega) (by omega) (by omega)
      rw [e]
      refine Ev.step (fun k => ?_) h
      simp only [laws_markText.l0]
      rw [if_pos c, Int.tmod_eq_emod_of_nonneg h3, Int.tdiv_eq_ediv_of_nonneg h3, w64 (x := 48 + x % 10) (by omega) (by omega), w64 (x := x / 10) (by omega) (by omega)]
      simp only [Option.bind_some]
      rw [strOf1_size, if_pos (by omega)]
    · refine Ev.step (f := fun _ => some (mtGo x a)) (fun k => ?_) (Ev.now _)
      simp only [laws_markText.l0]
      rw [if_neg c, if_pos (by omega)]
      rw [mtGo, dif_neg c]
theorem markText_ev (x : Int) (h : x ≤ 9223372036854775807) : Ev (fun k => laws_markText.f k x) (mt x) := by
  unfold laws_markText.f mt
  by_cases c : x ≤ 0
  · simp only [c, ↓reduceIte]; exact Ev.now _
  · simp only [c, ↓reduceIte]
    exact markText_l 19 x _ (by omega) (by decide) h (by omega)

def marksF : Nat → Int → List S95
  | 0, _ => []
  | n + 1, q => ⟨q, mt (q + 1), mt (q + 2)⟩ :: marksF n (q + 3)
theorem marksF_length : ∀ (n : Nat) (q : Int), (marksF n q).length = n
  | 0, _ => rfl
  | n + 1, q => by rw [marksF, List.length_cons, marksF_length n]
theorem setF_mid (P : List S95) (x y : S95) (t : List S95) : (P ++ x :: t).set (P.length : Int).toNat y = P ++ y :: t := by simp
theorem markF_l (rest : List S95) : ∀ (P : List S95) (q : Int), P.length + rest.length ≤ 140737488355328 → 0 ≤ q → q + 3 * rest.length ≤ 2814749767106560 →
    Ev (fun k => laws_markFileS.l0 k (P ++ rest) q (P.length : Int)) (q + 3 * rest.length, P ++ marksF rest.length q) := by
  induction rest with
  | nil =>
    intro P q hl h0 h1
    refine Ev.step (f := fun _ => some (q, P)) (fun k => ?_) ?_
    · simp only [laws_markFileS.l0]
      rw [if_neg (by simp)]; simp
    · simp [marksF]; exact Ev.now _
  | cons x t ih =>
    intro P q hl h0 h1
    simp only [List.length_cons] at hl h1
    have el : ((P ++ x :: t).length : Int) = P.length + t.length + 1 := by simp; omega
    have h := ih (P ++ [⟨q, mt (q + 1), mt (q + 2)⟩]) (q + 3) (by simp; omega) (by omega) (by omega)
    refine Ev.step (fun k => by
      simp only [laws_markFileS.l0]
      rw [if_pos (by omega), if_pos (by omega), rdF_mid, setF_mid, w64 (x := q + 1) (by omega) (by omega)]) ?_
    simp only [Option.bind_some]
    refine Ev.bind (markText_ev (q + 1) (by omega)) ?_
    rw [w64 (x := q + 1 + 1) (by omega) (by omega), rdF_mid, setF_mid]
    simp only [Option.bind_some]
    refine Ev.bind (markText_ev (q + 1 + 1) (by omega)) ?_
    rw [rdF_mid, setF_mid, w64 (x := q + 1 + 1 + 1) (by omega) (by omega), w64 (x := (P.length : Int) + 1) (by omega) (by omega)]
    have e1 : q + 1 + 1 = q + 2 := by omega
    have e2 : q + 1 + 1 + 1 = q + 3 := by omega
    have e3 : (q + 3 + 3 * (t.length : Int), P ++ [(⟨q, mt (q + 1), mt (q + 2)⟩ : S95)] ++ marksF t.length (q + 3)) = (q + 3 * ((x :: t).length : Int), P ++ marksF (x :: t).length q) := by
      simp [marksF]; omega
    rw [← e3]
    rw [e2, e1]
    refine Ev.congr (fun k => ?_) h
    simp
theorem markF_ev (l : List S95) (q : Int) (hl : l.length ≤ 140737488355328) (h0 : 0 ≤ q) (h1 : q ≤ 140737488355328) : Ev (fun k => laws_markFileS.f k l q) (q + 3 * l.length, marksF l.length q) := by
  have h := markF_l l [] q (by simpa using hl) h0 (by omega)
  simpa [laws_markFileS.f] using h

theorem markDisk_ev (room : Int) (l : List S95) (q : Int) (hl : l.length ≤ 140737488355328) (h0 : 0 ≤ q) (h1 : q ≤ 140737488355328) : Ev (fun k => laws_markDisk.f k room l q) (q + 3 * l.length, marksF l.length q) := by
  unfold laws_markDisk.f
  refine Ev.bind (markF_ev l q hl h0 h1) ?_
  exact Ev.now _

theorem heldF_l (n : Nat) : ∀ (P : List S95) (q : Int), P.length + n ≤ 140737488355328 → 0 ≤ q → q + 3 * n ≤ 2814749767106560 →
    Ev (fun k => laws_heldFileS.l0 k (P ++ marksF n q) q (P.length : Int)) (q + 3 * n) := by
  induction n with
  | zero =>
    intro P q hl h0 h1
    refine Ev.step (f := fun _ => some q) (fun k => ?_) ?_
    · simp only [laws_heldFileS.l0]
      rw [if_neg (by simp [marksF])]
    · simp; exact Ev.now _
  | succ n ih =>
    intro P q hl h0 h1
    have h := ih (P ++ [⟨q, mt (q + 1), mt (q + 2)⟩]) (q + 3) (by simp; omega) (by omega) (by omega)
    have e : P ++ marksF (n + 1) q = P ++ [(⟨q, mt (q + 1), mt (q + 2)⟩ : S95)] ++ marksF n (q + 3) := by simp [marksF]
    have el : ((P ++ marksF (n + 1) q).length : Int) = P.length + n + 1 := by rw [List.length_append, marksF_length]; omega
    have er : rd_T95 (P ++ marksF (n + 1) q) (P.length : Int) = ⟨q, mt (q + 1), mt (q + 2)⟩ := rdF_mid P _ _
    refine Ev.step (fun k => by
      simp only [laws_heldFileS.l0]
      rw [if_pos (by omega), if_pos (by omega), er, w64 (x := q + 1) (by omega) (by omega)]) ?_
    simp only [↓reduceIte]
    refine Ev.bind (markText_ev (q + 1) (by omega)) ?_
    simp only [↓reduceIte]
    rw [w64 (x := q + 1 + 1) (by omega) (by omega), show q + 1 + 1 = q + 2 by omega]
    refine Ev.bind (markText_ev (q + 2) (by omega)) ?_
    simp only [↓reduceIte]
    rw [w64 (x := q + 2 + 1) (by omega) (by omega), w64 (x := (P.length : Int) + 1) (by omega) (by omega), show q + 2 + 1 = q + 3 by omega]
    have e2 : (q + 3 + 3 * (n : Int)) = q + 3 * ((n + 1 : Nat) : Int) := by omega
    rw [← e2, e]
    refine Ev.congr (fun k => ?_) h
    simp
theorem heldF_ev (n : Nat) (q : Int) (hl : n ≤ 140737488355328) (h0 : 0 ≤ q) (h1 : q ≤ 140737488355328) : Ev (fun k => laws_heldFileS.f k (marksF n q) q) (q + 3 * n) := by
  have h := heldF_l n [] q (by simpa using hl) h0 (by omega)
  simpa [laws_heldFileS.f] using h

theorem heldDisk_ev (room : Int) (n : Nat) (q : Int) (hl : n ≤ 140737488355328) (h0 : 0 ≤ q) (h1 : q ≤ 140737488355328) : Ev (fun k => laws_heldDisk.f k room (marksF n q) q) (q + 3 * n) := by
  unfold laws_heldDisk.f
  refine Ev.bind (heldF_ev n q hl h0 h1) ?_
  simp only [show ¬ q + 3 * (n : Int) < 0 by omega, ↓reduceIte]
  exact Ev.now _

def cmdOk (kind rel node size : Int) (dig : ByteArray) : Bool :=
  if kind = 1 then (rel == 0 && (node == 0 && (size == 0 && (dig.toList == ([] : List UInt8)))))
  else if kind = 2 then (inr rel 1 1000 && (inr size 0 1000 && (decide ((dig.size : Int) = 32) && (node == 0))))
  else if kind = 3 then (inr rel 1 1000 && (inr node 0 4 && (size == 0 && (dig.toList == ([] : List UInt8)))))
  else if kind = 4 ∨ kind = 5 then (inr rel 1 1000 && (node == 0 && (size == 0 && (dig.toList == ([] : List UInt8)))))
  else false

def toC (x : S119) : S127 := ⟨x.f0, x.f1, x.f2, x.f3, x.f4⟩
def toE (x : S121) : S129 := ⟨x.f0, toC x.f1⟩
theorem szEntry_eq (x : S121) (a : Int) (h0 : 0 ≤ a) (h1 : a ≤ 140737488355328) (hx : x.f1.f4.size ≤ 140737488355328) : laws_szEntry.f x.f0 x.f1.f0 x.f1.f1 x.f1.f2 x.f1.f3 x.f1.f4 a = some (if a - x.f1.f4.size < 0 then -1 else a - x.f1.f4.size) := by
  unfold laws_szEntry.f laws_szCmd.f
  rw [w64 (x := a - x.f1.f4.size) (by omega) (by omega)]
  split
  · rfl
  · rename_i h; simp only [Option.bind_some, h, ↓reduceIte]
theorem rdQ_mid (P : List S123) (x : S123) (t : List S123) : rd_T123 (P ++ x :: t) (P.length : Int) = x := by
  unfold rd_T123; simp
def toR (x : S123) : S131 := ⟨x.f0, x.f1, x.f2, x.f3, toE x.f4⟩
def szR : List S123 → Int → Int
  | [], a => a
  | x :: t, a => if a - x.f4.f1.f4.size < 0 then -1 else szR t (a - x.f4.f1.f4.size)
theorem szRec_eq (x : S123) (a : Int) (h0 : 0 ≤ a) (h1 : a ≤ 140737488355328) (hx : x.f4.f1.f4.size ≤ 140737488355328) : laws_szRec.f x.f0 x.f1 x.f2 x.f3 x.f4.f0 x.f4.f1.f0 x.f4.f1.f1 x.f4.f1.f2 x.f4.f1.f3 x.f4.f1.f4 a = some (if a - x.f4.f1.f4.size < 0 then -1 else a - x.f4.f1.f4.size) := by
  unfold laws_szRec.f
  rw [szEntry_eq x.f4 a h0 h1 hx]
  by_cases h : a - x.f4.f1.f4.size < 0
  · rw [if_pos h]; rfl
  · rw [if_neg h]; simp only [Option.bind_some, h, ↓reduceIte]
theorem szRecS_l (rest : List S123) : ∀ (P : List S123) (a : Int), 0 ≤ a → a ≤ 140737488355328 → P.length + rest.length ≤ 140737488355328 → (∀ x ∈ rest, x.f4.f1.f4.size ≤ 140737488355328) → Ev (fun k => laws_szRecS.l0 k (P ++ rest) a (P.length : Int)) (szR rest a) := by
  induction rest with
  | nil =>
    intro P a h0 h1 hl hx
    refine Ev.step (f := fun _ => some a) (fun k => ?_) (Ev.now _)
    simp only [laws_szRecS.l0]
    rw [if_neg (by simp)]
  | cons x t ih =>
    intro P a h0 h1 hl hx
    simp only [List.length_cons] at hl
    have hx0 := hx x (by simp)
    have e := szRec_eq x a h0 h1 hx0
    have el : ((P ++ x :: t).length : Int) = P.length + t.length + 1 := by simp; omega
    by_cases c1 : a - x.f4.f1.f4.size < 0
    · refine Ev.step (f := fun _ => some (-1)) (fun k => ?_) ?_
      · simp only [laws_szRecS.l0]
        rw [if_pos (by omega), if_pos (by omega), rdQ_mid, e, if_pos c1]
        rfl
      · simp only [szR, c1, ↓reduceIte]; exact Ev.now _
    · have h := ih (P ++ [x]) (a - x.f4.f1.f4.size) (by omega) (by omega) (by simp; omega) (fun y hy => hx y (by simp [hy]))
      refine Ev.step (f := fun k => laws_szRecS.l0 k ((P ++ [x]) ++ t) (a - x.f4.f1.f4.size) ((P ++ [x]).length : Int)) (fun k => ?_) ?_
      · simp only [laws_szRecS.l0]
        rw [if_pos (by omega), if_pos (by omega), rdQ_mid, e, if_neg c1]
        simp only [Option.bind_some]
        rw [if_neg c1, w64 (by omega) (by omega)]
        simp
      · simp only [szR, c1, ↓reduceIte]; exact h
theorem szRecS_ev (l : List S123) (a : Int) (h0 : 0 ≤ a) (h1 : a ≤ 140737488355328) (hl : l.length ≤ 140737488355328) (hx : ∀ x ∈ l, x.f4.f1.f4.size ≤ 140737488355328) : ∃ r, Ev (fun k => laws_szRecS.f k l a) r ∧ (0 ≤ r → (l.length : Int) ≤ a) := by
  unfold laws_szRecS.f
  rw [w64 (x := a - l.length) (by omega) (by omega)]
  by_cases h : a - (l.length : Int) < 0
  · refine ⟨-1, ?_, by omega⟩
    simp only [h, ↓reduceIte]; exact Ev.now _
  · refine ⟨szR l (a - l.length), ?_, by omega⟩
    simp only [h, ↓reduceIte]
    exact szRecS_l l [] (a - l.length) (by omega) (by omega) (by simp; omega) hx
theorem set_fillR (l : List S123) (i d : Nat) (hi : i + (d + 1) = l.length) : ((l.take i).map toR ++ List.replicate (d + 1) z131).set i (toR (rd_T123 l (i : Int))) = (l.take (i + 1)).map toR ++ List.replicate d z131 := by
  have hlt : i < l.length := by omega
  have h1 : ((l.take i).map toR).length = i := by rw [List.length_map, List.length_take]; omega
  rw [List.set_append_right _ _ (by omega), h1, Nat.sub_self, List.replicate_succ, List.set_cons_zero, List.take_succ_eq_append_getElem hlt, List.map_append, List.append_assoc]
  unfold rd_T123
  simp [List.getD_eq_getElem?_getD, hlt]
theorem toRecS_l (l : List S123) (hl : l.length ≤ 3198579280802) (d : Nat) : ∀ i : Nat, i + d = l.length → Ev (fun k => laws_toRecS.l0 k l ((l.take i).map toR ++ List.replicate d z131) (i : Int)) (l.map toR) := by
  induction d with
  | zero =>
    intro i hi
    refine Ev.step (f := fun _ => some (l.map toR)) (fun k => ?_) (Ev.now _)
    simp only [laws_toRecS.l0]
    rw [if_neg (by omega)]
    have : l.take i = l := List.take_of_length_le (by omega)
    simp [this]
  | succ d ih =>
    intro i hi
    refine Ev.step (f := fun k => laws_toRecS.l0 k l ((l.take (i + 1)).map toR ++ List.replicate d z131) ((i + 1 : Nat) : Int)) (fun k => ?_) (ih (i + 1) (by omega))
    have s := set_fillR l i d hi
    generalize hz : rd_T123 l (i : Int) = z at s
    simp only [laws_toRecS.l0, laws_toRec.f, laws_toEntry.f, laws_toCmd.f, Option.bind_some]
    rw [if_pos (by omega), if_pos (by omega), if_pos (by simp; omega), w64 (by omega) (by omega), Int.toNat_natCast, hz]
    rw [← s]
    rfl
theorem toRecS_ev (l : List S123) (hl : l.length ≤ 3198579280802) : Ev (fun k => laws_toRecS.f k l) (l.map toR) := by
  refine Ev.congr (fun k => ?_) (toRecS_l l hl l.length 0 (by omega))
  unfold laws_toRecS.f
  rw [if_pos (by omega), if_pos (by simp; omega)]
  simp
theorem eqRecS_l (l : List S131) (hl : l.length ≤ 140737488355328) (d : Nat) : ∀ i : Nat, i + d = l.length → Ev (fun k => laws_eqRecS.l0 k l l (i : Int)) true := by
  induction d with
  | zero =>
    intro i hi
    refine Ev.step (f := fun _ => some true) (fun k => ?_) (Ev.now _)
    simp only [laws_eqRecS.l0]
    rw [if_neg (by omega)]
  | succ d ih =>
    intro i hi
    refine Ev.step (f := fun k => laws_eqRecS.l0 k l l ((i + 1 : Nat) : Int)) (fun k => ?_) (ih (i + 1) (by omega))
    simp only [laws_eqRecS.l0, laws_eqRec.f, laws_eqEntry.f, laws_eqCmd.f, ↓reduceIte, Option.bind_some]
    rw [if_pos (by omega), if_pos (by omega), if_pos (by omega), w64 (by omega) (by omega)]
    rfl
theorem eqRecS_ev (l : List S131) (hl : l.length ≤ 140737488355328) : Ev (fun k => laws_eqRecS.f k l l) true := by
  refine Ev.congr (fun k => ?_) (eqRecS_l l hl l.length 0 (by omega))
  unfold laws_eqRecS.f
  rw [if_pos rfl]; rfl

theorem rdR_set (l : List S131) (i : Int) (v : S131) (h : i < (l.length : Int)) (h0 : 0 ≤ i) : rd_T131 (l.set i.toNat v) i = v := by
  unfold rd_T131
  have : i.toNat < l.length := by omega
  simp [List.getD_eq_getElem?_getD, this]
theorem markR_step (k : Nat) (l : List S131) (q i : Int) (h : i < (l.length : Int)) (h0 : 0 ≤ i) (w1 : wrap64 (q + 1) = q + 1) (w2 : wrap64 (q + 1 + 1) = q + 2) (w3 : wrap64 (q + 2 + 1) = q + 3) (w4 : wrap64 (q + 3 + 1) = q + 4) (w5 : wrap64 (q + 4 + 1) = q + 5) (w6 : wrap64 (q + 5 + 1) = q + 6) (w7 : wrap64 (q + 6 + 1) = q + 7) (w8 : wrap64 (q + 7 + 1) = q + 8) (w9 : wrap64 (q + 8 + 1) = q + 9) (w10 : wrap64 (q + 9 + 1) = q + 10) :
    laws_markRecS.l0 (k + 1) l q i = (laws_markText.f k (q + 9)).bind fun s => laws_markRecS.l0 k (l.set i.toNat ⟨q, q + 1, q + 2, q + 3, ⟨q + 4, ⟨q + 5, q + 6, q + 7, q + 8, s⟩⟩⟩) (q + 10) (wrap64 (i + 1)) := by
  rw [laws_markRecS.l0, if_pos h, if_pos h0, w1, w2, w3, w4, w5, w6, w7, w8, w9, w10]
  generalize rd_T131 l i = z
  iterate 8
    rw [Option.bind_some, rdR_set l i _ h h0, List.set_set]
    dsimp only
  rw [Option.bind_some, rdR_set l i _ h h0]
  dsimp only
  congr 1
  funext s
  rw [List.set_set]
theorem markR_end (k : Nat) (l : List S131) (q i : Int) (h : ¬ i < (l.length : Int)) : laws_markRecS.l0 (k + 1) l q i = some (q, l) := by
  rw [laws_markRecS.l0, if_neg h]
theorem markR_l (d : Nat) : ∀ (l : List S131) (q i : Int), (l.length : Int) - i = d → 0 ≤ i → 0 ≤ q → q + 10 * d ≤ 2814749767106560 → l.length ≤ 140737488355328 →
    ∃ L, Ev (fun k => laws_markRecS.l0 k l q i) (q + 10 * d, L) := by
  induction d with
  | zero =>
    intro l q i hd hi h0 h1 hl
    refine ⟨l, ?_⟩
    refine Ev.step (fun k => markR_end k l q i (by omega)) ?_
    simp; exact Ev.now _
  | succ d ih =>
    intro l q i hd hi h0 h1 hl
    have g1 : i < (l.length : Int) := by omega
    have g3 := markText_ev (q + 9) (by omega)
    obtain ⟨L, h⟩ := ih (l.set i.toNat ⟨q, q + 1, q + 2, q + 3, ⟨q + 4, ⟨q + 5, q + 6, q + 7, q + 8, mt (q + 9)⟩⟩⟩) (q + 10) (i + 1) (by rw [List.length_set]; omega) (by omega) (by omega) (by omega) (by rw [List.length_set]; exact hl)
    have e3 : q + 10 + 10 * (d : Int) = q + 10 * ((d + 1 : Nat) : Int) := by omega
    have w1 : wrap64 (q + 1) = q + 1 := w64 (by omega) (by omega)
    have w2 : wrap64 (q + 1 + 1) = q + 2 := by rw [w64 (by omega) (by omega)]; omega
    have w3 : wrap64 (q + 2 + 1) = q + 3 := by rw [w64 (by omega) (by omega)]; omega
    have w4 : wrap64 (q + 3 + 1) = q + 4 := by rw [w64 (by omega) (by omega)]; omega
    have w5 : wrap64 (q + 4 + 1) = q + 5 := by rw [w64 (by omega) (by omega)]; omega
    have w6 : wrap64 (q + 5 + 1) = q + 6 := by rw [w64 (by omega) (by omega)]; omega
    have w7 : wrap64 (q + 6 + 1) = q + 7 := by rw [w64 (by omega) (by omega)]; omega
    have w8 : wrap64 (q + 7 + 1) = q + 8 := by rw [w64 (by omega) (by omega)]; omega
    have w9 : wrap64 (q + 8 + 1) = q + 9 := by rw [w64 (by omega) (by omega)]; omega
    have w10 : wrap64 (q + 9 + 1) = q + 10 := by rw [w64 (by omega) (by omega)]; omega
    have wi : wrap64 (i + 1) = i + 1 := w64 (by omega) (by omega)
    rw [e3] at h
    refine ⟨L, ?_⟩
    refine Ev.step (fun k => markR_step k l q i g1 hi w1 w2 w3 w4 w5 w6 w7 w8 w9 w10) ?_
    refine Ev.bind g3 ?_
    rw [wi]
    exact h
theorem markR_ev (l : List S131) (q : Int) (hl : l.length ≤ 140737488355) (h0 : 0 ≤ q) (h1 : q ≤ 140737488355) : ∃ L, Ev (fun k => laws_markRecS.f k l q) (q + 10 * l.length, L) := by
  obtain ⟨L, h⟩ := markR_l l.length l q 0 (by omega) (by omega) h0 (by omega) (by omega)
  exact ⟨L, by simpa [laws_markRecS.f] using h⟩

def entryOk (term ek er en es : Int) (dig : ByteArray) : Bool := inr term 1 1000000000 && cmdOk ek er en es dig
def zero6 (et ek er en es : Int) (dig : ByteArray) : Bool := et == 0 && ((ek == 0 && (er == 0 && (en == 0 && (es == 0 && (dig.toList == ([] : List UInt8)))))))
def recOk (kind term vote pos et ek er en es : Int) (dig : ByteArray) : Bool :=
  if kind = 1 then (inr term 0 1000000000 && (inr vote 0 5 && (pos == 0 && zero6 et ek er en es dig)))
  else if kind = 2 then (inr pos 1 80 && (entryOk et ek er en es dig && (term == 0 && vote == 0)))
  else if kind = 3 then (inr pos 0 80 && (term == 0 && (vote == 0 && zero6 et ek er en es dig)))
  else false

theorem l1In_eq (a b c : Int) : spec_l1In.f a b c = some (inr a b c) := by
  unfold spec_l1In.f inr
  by_cases h : a ≥ b
  · rw [if_pos h]; congr 1; by_cases h2 : a ≤ c <;> simp [h, h2]
  · rw [if_neg h]; congr 1; simp; omega

theorem specCmdOk_ev (kind rel node size : Int) (dig : ByteArray) : Ev (fun k => spec_CmdOk.f k kind rel node size dig) (cmdOk kind rel node size dig) := by
  unfold spec_CmdOk.f
  simp only [l1In_eq, Option.bind_some]
  by_cases h1 : kind = 1
  · simp only [cmdOk, h1, ↓reduceIte]; exact Ev.now _
  · simp only [h1, ↓reduceIte]
    by_cases h2 : 2 ≤ kind ∧ kind ≤ 5
    · have e : inr kind 2 5 = true := decide_eq_true h2
      simp only [e, ↓reduceIte]
      refine Ev.step (f := fun _ => some (cmdOk kind rel node size dig)) (fun k => ?_) (Ev.now _)
      simp only [spec_CmdOk.j0, l1In_eq, Option.bind_some, ba_nil, cmdOk]
      have h3 : kind = 2 ∨ kind = 3 ∨ kind = 4 ∨ kind = 5 := by omega
      cases inr rel 1 1000 <;> rcases h3 with rfl | rfl | rfl | rfl <;> cases inr size 0 1000 <;> cases inr node 0 4 <;> by_cases hd : (dig.size : Int) = 32 <;> simp [hd]
    · have e : inr kind 2 5 = false := decide_eq_false h2
      simp only [e, Bool.false_eq_true, ↓reduceIte]
      refine Ev.step (f := fun _ => some false) (fun k => ?_) ?_
      · simp only [spec_CmdOk.j0, ↓reduceIte]
      · have : cmdOk kind rel node size dig = false := by
          unfold cmdOk
          rw [if_neg h1, if_neg (by omega), if_neg (by omega), if_neg (by omega)]
        rw [this]; exact Ev.now _

theorem l1Whole_eq (a : Int) : spec_l1Whole.f a = some (inr a 0 1000000000) := by unfold spec_l1Whole.f; rw [l1In_eq]; rfl
theorem l6EntryF_ev (term ek er en es : Int) (dig : ByteArray) : Ev (fun k => spec_l6Entry.f k term ek er en es dig) (entryOk term ek er en es dig) := by
  unfold spec_l6Entry.f entryOk
  simp only [l1In_eq, Option.bind_some]
  cases inr term 1 1000000000
  · simp only [Bool.false_eq_true, ↓reduceIte, Bool.false_and]; exact Ev.now _
  · simp only [↓reduceIte, Bool.true_and]
    refine Ev.bind (specCmdOk_ev ek er en es dig) ?_
    exact Ev.now _
theorem specRecOk_ev (kind term vote pos et ek er en es : Int) (dig : ByteArray) : Ev (fun k => spec_RecOk.f k kind term vote pos et ek er en es dig) (recOk kind term vote pos et ek er en es dig) := by
  unfold spec_RecOk.f recOk
  simp only [l1In_eq, l1Whole_eq, Option.bind_some]
  by_cases h1 : kind = 1
  · simp only [h1, ↓reduceIte]
    cases inr term 0 1000000000 <;> cases inr vote 0 5 <;> simp only [Bool.false_eq_true, ↓reduceIte, Bool.false_and, Bool.true_and] <;> exact Ev.now _
  · by_cases h2 : kind = 2
    · simp only [h2, ↓reduceIte, show ¬ (2 : Int) = 1 by omega]
      cases inr pos 1 80
      · simp only [Bool.false_eq_true, ↓reduceIte, Bool.false_and]; exact Ev.now _
      · simp only [↓reduceIte, Bool.true_and]
        refine Ev.bind (l6EntryF_ev et ek er en es dig) ?_
        cases entryOk et ek er en es dig <;> simp only [Bool.false_eq_true, ↓reduceIte, Bool.false_and, Bool.true_and] <;> exact Ev.now _
    · by_cases h3 : kind = 3
      · simp only [h3, ↓reduceIte, show ¬ (3 : Int) = 1 by omega, show ¬ (3 : Int) = 2 by omega]
        cases inr pos 0 80 <;> simp only [Bool.false_eq_true, ↓reduceIte, Bool.false_and, Bool.true_and] <;> exact Ev.now _
      · simp only [h1, h2, h3, ↓reduceIte]; exact Ev.now _

theorem within_eq (a b c : Int) : impl_within.f a b c = some (inr a b c) := by
  unfold impl_within.f inr
  by_cases h : a ≥ b
  · rw [if_pos h]; congr 1; by_cases h2 : a ≤ c <;> simp [h, h2]
  · rw [if_neg h]; congr 1; simp; omega

theorem isRelease_eq (a : Int) : impl_isRelease.f a = some (inr a 1 1000) := by unfold impl_isRelease.f; rw [within_eq]; rfl
theorem isSize_eq (a : Int) : impl_isSize.f a = some (inr a 0 1000) := by unfold impl_isSize.f; rw [within_eq]; rfl
theorem isNode_eq (a : Int) : impl_isNode.f a = some (inr a 0 4) := by unfold impl_isNode.f; rw [within_eq]; rfl
theorem implCmdOk_j2 (k : Nat) (x : Bool) (a b c d : Int) (s : ByteArray) : impl_CmdOk.j2 (k + 1) x a b c d s = some (x && (a == 0 && (b == 0 && (c == 0 && (d == 0 && (s.toList == ([] : List UInt8))))))) := by
  simp only [impl_CmdOk.j2]; cases x <;> simp
theorem implCmdOk_ev (kind rel node size : Int) (dig : ByteArray) : Ev (fun k => impl_CmdOk.f k kind rel node size dig) (cmdOk kind rel node size dig) := by
  refine ⟨3, fun k hk => ?_⟩
  obtain ⟨k, rfl⟩ : ∃ m, k = m + 3 := ⟨k - 3, by omega⟩
  unfold impl_CmdOk.f
  simp only [isRelease_eq, isSize_eq, isNode_eq, Option.bind_some, cmdOk]
  by_cases h1 : kind = 1
  · simp only [h1, ↓reduceIte]; rw [implCmdOk_j2]; simp
  · by_cases h2 : kind = 2
    · simp only [h2, ↓reduceIte]
      cases inr rel 1 1000 <;> cases inr size 0 1000 <;> by_cases hd : (dig.size : Int) = 32 <;> simp [impl_CmdOk.j0, implCmdOk_j2, ba_nil, hd]
    · by_cases h3 : kind = 3
      · simp only [h3, ↓reduceIte]
        cases inr rel 1 1000 <;> cases inr node 0 4 <;> simp [impl_CmdOk.j1, implCmdOk_j2]
      · by_cases h4 : kind = 4
        · simp only [h4, ↓reduceIte]
          cases inr rel 1 1000 <;> simp [impl_CmdOk.j1, implCmdOk_j2]
        · by_cases h5 : kind = 5
          · simp only [h5, ↓reduceIte]
            cases inr rel 1 1000 <;> simp [impl_CmdOk.j1, implCmdOk_j2]
          · simp [h1, h2, h3, h4, h5, impl_CmdOk.j1]

theorem isWhole_eq (a : Int) : impl_isWhole.f a = some (inr a 0 1000000000) := by unfold impl_isWhole.f; rw [within_eq]; rfl
theorem entryOk_ev (term ek er en es : Int) (dig : ByteArray) : Ev (fun k => impl_entryOk.f k term ek er en es dig) (entryOk term ek er en es dig) := by
  unfold impl_entryOk.f entryOk
  simp only [within_eq, Option.bind_some]
  cases inr term 1 1000000000
  · simp only [Bool.false_eq_true, ↓reduceIte, Bool.false_and]; exact Ev.now _
  · simp only [↓reduceIte, Bool.true_and]
    refine Ev.bind (implCmdOk_ev ek er en es dig) ?_
    exact Ev.now _
theorem implRecOk_ev (kind term vote pos et ek er en es : Int) (dig : ByteArray) : Ev (fun k => impl_RecOk.f k kind term vote pos et ek er en es dig) (recOk kind term vote pos et ek er en es dig) := by
  unfold impl_RecOk.f recOk
  simp only [within_eq, isWhole_eq, Option.bind_some]
  by_cases h1 : kind = 1
  · simp only [h1, ↓reduceIte, if_eq0, if_tt]
    exact Ev.now _
  · by_cases h2 : kind = 2
    · simp only [h2, ↓reduceIte, show ¬ (2 : Int) = 1 by omega, if_eq0]
      cases inr pos 1 80
      · simp only [Bool.false_eq_true, ↓reduceIte, Bool.false_and]; exact Ev.now _
      · simp only [↓reduceIte, Bool.true_and]
        refine Ev.bind (entryOk_ev et ek er en es dig) ?_
        simp only [if_tt]
        exact Ev.now _
    · by_cases h3 : kind = 3
      · simp only [h3, ↓reduceIte, show ¬ (3 : Int) = 1 by omega, show ¬ (3 : Int) = 2 by omega, if_eq0, if_tt]
        exact Ev.now _
      · simp only [h1, h2, h3, ↓reduceIte]; exact Ev.now _

def putNum (x : Int) : List Int := if h : x > 127 then (x % 128 + 128) :: putNum (x / 128) else [x]
termination_by x.toNat
decreasing_by omega
theorem putNum_big {x : Int} (h : x > 127) : putNum x = (x % 128 + 128) :: putNum (x / 128) := by rw [putNum]; simp [h]
theorem putNum_small {x : Int} (h : ¬ x > 127) : putNum x = [x] := by rw [putNum]; simp [h]
theorem putNum_by (m : Nat) : ∀ x : Int, 0 ≤ x → x < 128 ^ (m + 1) → By (putNum x) ∧ (putNum x).length ≤ m + 1 ∧ 1 ≤ (putNum x).length := by
  induction m with
  | zero =>
    intro x h0 h1
    have h1 : x < 128 := by simpa using h1
    rw [putNum_small (by omega)]
    refine ⟨fun y hy => ?_, by simp, by simp⟩
    simp at hy; omega
  | succ m ih =>
    intro x h0 h1
    by_cases h : x > 127
    · rw [putNum_big h]
      obtain ⟨h2, h3, h4⟩ := ih (x / 128) (by omega) (by rw [Int.pow_succ] at h1; omega)
      refine ⟨fun y hy => ?_, by simp; omega, by simp⟩
      rcases List.mem_cons.1 hy with rfl | hy
      · omega
      · exact h2 y hy
    · rw [putNum_small h]
      refine ⟨fun y hy => ?_, by simp, by simp⟩
      simp at hy; omega
theorem putNum_b9 {x : Int} (h0 : 0 ≤ x) (h1 : x ≤ 9223372036854775807) : By (putNum x) ∧ (putNum x).length ≤ 9 ∧ 1 ≤ (putNum x).length := putNum_by 8 x h0 (by omega)

theorem cmdOk_k {kind rel node size : Int} {dig : ByteArray} (h : cmdOk kind rel node size dig = true) : (kind = 1 ∨ kind = 2 ∨ kind = 3 ∨ kind = 4 ∨ kind = 5) ∧ (kind ≠ 1 → 1 ≤ rel ∧ rel ≤ 1000) ∧ (kind = 3 → 0 ≤ node ∧ node ≤ 4) ∧ (kind = 2 → (0 ≤ size ∧ size ≤ 1000) ∧ (dig.size : Int) = 32) := by
  unfold cmdOk at h
  by_cases h1 : kind = 1
  · exact ⟨.inl h1, fun c => absurd h1 c, fun c => by omega, fun c => by omega⟩
  rw [if_neg h1] at h
  by_cases h2 : kind = 2
  · rw [if_pos h2] at h
    simp only [Bool.and_eq_true, inr, decide_eq_true_eq] at h
    exact ⟨by omega, fun _ => h.1, fun c => by omega, fun _ => ⟨h.2.1, h.2.2.1⟩⟩
  rw [if_neg h2] at h
  by_cases h3 : kind = 3
  · rw [if_pos h3] at h
    simp only [Bool.and_eq_true, inr, decide_eq_true_eq] at h
    exact ⟨by omega, fun _ => h.1, fun _ => h.2.1, fun c => by omega⟩
  rw [if_neg h3] at h
  by_cases h4 : kind = 4 ∨ kind = 5
  · rw [if_pos h4] at h
    simp only [Bool.and_eq_true, inr, decide_eq_true_eq] at h
    exact ⟨by omega, fun _ => h.1, fun c => by omega, fun c => by omega⟩
  · rw [if_neg h4] at h; simp at h
def cmdPack (kind rel node size : Int) (dig : ByteArray) : List Int × Bool :=
  if cmdOk kind rel node size dig = true then
    (if kind = 1 then (putNum kind, true) else if kind = 2 then (putNum kind ++ putNum rel ++ putNum size ++ bytesOf dig, true) else if kind = 3 then (putNum kind ++ putNum rel ++ putNum node, true) else (putNum kind ++ putNum rel, true))
  else ([], false)
theorem cmdPack_len (kind rel node size : Int) (dig : ByteArray) : (cmdPack kind rel node size dig).1.length ≤ 60 := by
  unfold cmdPack
  split
  · rename_i h
    obtain ⟨k0, k1, k2, k3⟩ := cmdOk_k h
    have l0 := (putNum_b9 (x := kind) (by omega) (by omega)).2.1
    split
    · simp only; omega
    · rename_i h1
      have k1 := k1 h1
      have l1 := (putNum_b9 (x := rel) (by omega) (by omega)).2.1
      split
      · rename_i h2
        have k3 := k3 h2
        have l2 := (putNum_b9 (x := size) (by omega) (by omega)).2.1
        simp only [List.length_append, bytesOf_length]; omega
      · split
        · rename_i h3
          have k2 := k2 h3
          have l2 := (putNum_b9 (x := node) (by omega) (by omega)).2.1
          simp only [List.length_append]; omega
        · simp only [List.length_append]; omega
  · simp

theorem specPutNum_l (m : Nat) : ∀ (x : Int) (acc : List Int), 0 ≤ x → x ≤ 9223372036854775807 → x < 128 ^ (m + 1) → acc.length + m ≤ 140737488355327 → Ev (fun k => spec_PutNum.l0 k x acc) (acc ++ putNum x) := by
  induction m with
  | zero =>
    intro x acc h0 h9 h1 hl
    have h : ¬ x > 127 := by simp at h1; omega
    refine Ev.step (f := fun _ => some (acc ++ [x])) (fun k => ?_) ?_
    · simp only [spec_PutNum.l0]
      rw [if_neg h, if_pos (by omega)]
      have : x % 256 = x := by omega
      rw [this]
    · rw [putNum_small h]; exact Ev.now _
  | succ m ih =>
    intro x acc h0 h9 h1 hl
    by_cases h : x > 127
    · refine Ev.step (f := fun k => spec_PutNum.l0 k (x / 128) (acc ++ [x % 128 + 128])) (fun k => ?_) ?_
      · simp only [spec_PutNum.l0]
        rw [if_pos h, if_pos (by omega), Int.tdiv_eq_ediv_of_nonneg h0, Int.tmod_eq_emod_of_nonneg h0, w64 (by omega) (by omega), w64 (by omega) (by omega)]
        have : (x % 128 + 128) % 256 = x % 128 + 128 := by omega
        rw [this]
      · have := ih (x / 128) (acc ++ [x % 128 + 128]) (by omega) (by omega) (by rw [Int.pow_succ] at h1; omega) (by simp; omega)
        rw [putNum_big h]; simpa using this
    · refine Ev.step (f := fun _ => some (acc ++ [x])) (fun k => ?_) ?_
      · simp only [spec_PutNum.l0]
        rw [if_neg h, if_pos (by omega)]
        have : x % 256 = x := by omega
        rw [this]
      · rw [putNum_small h]; exact Ev.now _
theorem specPutNum_ev {x : Int} (h0 : 0 ≤ x) (h1 : x ≤ 9223372036854775807) : Ev (fun k => spec_PutNum.f k x) (putNum x) := by
  have h := specPutNum_l 8 x [] h0 h1 (by omega) (by simp)
  refine Ev.congr (fun k => ?_) h
  unfold spec_PutNum.f
  simp only [Option.bind_some]
  rw [if_neg (by omega)]
theorem specCmdPack_ev (kind rel node size : Int) (dig : ByteArray) : Ev (fun k => spec_CmdPack.f k kind rel node size dig) (cmdPack kind rel node size dig) := by
  unfold spec_CmdPack.f cmdPack
  refine Ev.bind (specCmdOk_ev kind rel node size dig) ?_
  cases h : cmdOk kind rel node size dig
  · simp only [Bool.false_eq_true, ↓reduceIte]; exact Ev.now _
  · obtain ⟨k0, k1, k2, k3⟩ := cmdOk_k h
    have l0 := (putNum_b9 (x := kind) (by omega) (by omega)).2.1
    simp only [↓reduceIte]
    refine Ev.bind (specPutNum_ev (x := kind) (by omega) (by omega)) ?_
    by_cases h1 : kind = 1
    · simp only [h1, ↓reduceIte]
      refine Ev.step (f := fun _ => some (putNum 1, true)) (fun k => ?_) (Ev.now _)
      simp only [spec_CmdPack.j0]
      rw [if_neg (by omega), if_neg (by omega)]
    · have k1 := k1 h1
      have l1 := (putNum_b9 (x := rel) (by omega) (by omega)).2.1
      simp only [h1, ↓reduceIte]
      refine Ev.bind (specPutNum_ev (x := rel) (by omega) (by omega)) ?_
      have c1 : (putNum kind).length + (putNum rel).length < 140737488355328 := by omega
      simp only [c1, ↓reduceIte]
      by_cases h2 : kind = 2
      · have k3 := k3 h2
        have l2 := (putNum_b9 (x := size) (by omega) (by omega)).2.1
        have h3 : ¬ kind = 3 := by omega
        simp only [h2, ↓reduceIte]
        refine Ev.step (fun k => by simp only [spec_CmdPack.j0]; rw [if_neg (by omega), if_pos trivial]) ?_
        refine Ev.bind (specPutNum_ev (x := size) (by omega) (by omega)) ?_
        rw [h2] at c1 l0
        have c2 : (putNum 2 ++ putNum rel).length + (putNum size).length < 140737488355328 := by rw [List.length_append]; omega
        have c3 : dig.size ≤ 9223372036854775807 := by omega
        have c4 : (putNum 2 ++ putNum rel ++ putNum size).length + (bytesOf dig).length < 140737488355328 := by rw [List.length_append, List.length_append, bytesOf_length]; omega
        simp only [c2, ↓reduceIte, Option.bind_some, c3, c4]
        exact Ev.now _
      · by_cases h3 : kind = 3
        · have k2 := k2 h3
          have l2 := (putNum_b9 (x := node) (by omega) (by omega)).2.1
          simp only [h2, h3, ↓reduceIte]
          rw [h3] at l0
          refine Ev.step (fun k => by simp only [spec_CmdPack.j0]; rw [if_pos trivial]) ?_
          refine Ev.bind (specPutNum_ev (x := node) (by omega) (by omega)) ?_
          have c2 : (putNum 3 ++ putNum rel).length + (putNum node).length < 140737488355328 := by rw [List.length_append]; omega
          simp only [c2, ↓reduceIte, show ¬ (3 : Int) = 2 by omega]
          exact Ev.now _
        · simp only [h2, h3, ↓reduceIte]
          refine Ev.step (f := fun _ => some (putNum kind ++ putNum rel, true)) (fun k => ?_) (Ev.now _)
          simp only [spec_CmdPack.j0]
          rw [if_neg h3, if_neg h2]

theorem or_and_128 {x : Int} (h0 : 0 ≤ x) (h9 : x ≤ 9223372036854775807) : Go.bits .or .i64 (Go.bits .and .i64 x 127) 128 = x % 128 + 128 := by
  have e1 : Go.bits .and .i64 x 127 = x % 128 := and_mask 7 (by decide) h0 h9
  have e2 : Go.bits .or .i64 (x % 128) 128 = Go.bits .or .i64 128 (x % 128) := by unfold Go.bits; simp only [BitVec.or_comm]
  rw [e1, e2, or_join 7 (by decide) (by decide) (by decide) (by omega) (by omega) (by omega)]
  omega
theorem implPutNum_l (m : Nat) : ∀ (x : Int) (acc : List Int), 0 ≤ x → x ≤ 9223372036854775807 → x < 128 ^ (m + 1) → acc.length + m ≤ 140737488355327 → Ev (fun k => impl_PutNum.l0 k x acc) (acc ++ putNum x) := by
  induction m with
  | zero =>
    intro x acc h0 h9 h1 hl
    have h : ¬ x > 127 := by simp at h1; omega
    refine Ev.step (f := fun _ => some (acc ++ [x])) (fun k => ?_) ?_
    · simp only [impl_PutNum.l0]
      rw [if_neg h, if_pos (by omega)]
      have : x % 256 = x := by omega
      rw [this]
    · rw [putNum_small h]; exact Ev.now _
  | succ m ih =>
    intro x acc h0 h9 h1 hl
    by_cases h : x > 127
    · refine Ev.step (f := fun k => impl_PutNum.l0 k (x / 128) (acc ++ [x % 128 + 128])) (fun k => ?_) ?_
      · simp only [impl_PutNum.l0]
        rw [if_pos h, if_pos (by omega), or_and_128 h0 h9]
        have : (x % 128 + 128) % 256 = x % 128 + 128 := by omega
        rw [this]
      · have := ih (x / 128) (acc ++ [x % 128 + 128]) (by omega) (by omega) (by rw [Int.pow_succ] at h1; omega) (by simp; omega)
        rw [putNum_big h]; simpa using this
    · refine Ev.step (f := fun _ => some (acc ++ [x])) (fun k => ?_) ?_
      · simp only [impl_PutNum.l0]
        rw [if_neg h, if_pos (by omega)]
        have : x % 256 = x := by omega
        rw [this]
      · rw [putNum_small h]; exact Ev.now _
theorem implPutNum_ev {x : Int} (h0 : 0 ≤ x) (h1 : x ≤ 9223372036854775807) : Ev (fun k => impl_PutNum.f k x) (putNum x) := by
  have h := implPutNum_l 8 x [] h0 h1 (by omega) (by simp)
  refine Ev.congr (fun k => ?_) h
  unfold impl_PutNum.f
  rw [if_neg (by omega)]
def sumGo : List Int → Int → Int → Int
  | [], x, y => 65536 * y + x
  | c :: t, x, y => sumGo t ((x + c) % 65521) ((y + (x + c) % 65521) % 65521)
theorem sumGo_b (l : List Int) : ∀ x y : Int, 0 ≤ x → x < 65521 → 0 ≤ y → y < 65521 → 0 ≤ sumGo l x y ∧ sumGo l x y < 4294967296 := by
  induction l with
  | nil => intro x y h0 h1 h2 h3; simp only [sumGo]; omega
  | cons c t ih =>
    intro x y h0 h1 h2 h3
    exact ih _ _ (by omega) (by omega) (by omega) (by omega)
def sumOf (l : List Int) : Int := sumGo l 1 0
theorem sumOf_b (l : List Int) : 0 ≤ sumOf l ∧ sumOf l < 4294967296 := sumGo_b l 1 0 (by omega) (by omega) (by omega) (by omega)
theorem rd_mid (P : List Int) (c : Int) (t : List Int) : rd (P ++ c :: t) (P.length : Int) = c := by rw [rd_nat]; simp

def putNumsOf : List Int → List Int
  | [] => []
  | x :: t => putNum x ++ putNumsOf t
theorem putNums_l (F : List Int) (rest : List Int) : ∀ (P acc : List Int), F = P ++ rest → (∀ x ∈ rest, 0 ≤ x ∧ x ≤ 9223372036854775807) → F.length ≤ 1000 → acc.length + 10 * rest.length ≤ 100000 → Ev (fun k => impl_putNums.l0 k acc F (F.length : Int) (P.length : Int)) (acc ++ putNumsOf rest) := by
  induction rest with
  | nil =>
    intro P acc hF hx hl ha
    refine Ev.step (f := fun _ => some acc) (fun k => ?_) ?_
    · simp only [impl_putNums.l0]
      rw [if_neg (by rw [hF]; simp)]
    · simp [putNumsOf]; exact Ev.now _
  | cons x t ih =>
    intro P acc hF hx hl ha
    simp only [List.length_cons] at ha
    have hx0 := hx x (by simp)
    have el : (F.length : Int) = P.length + t.length + 1 := by rw [hF]; simp; omega
    have hr : rd F (P.length : Int) = x := by rw [hF]; exact rd_mid P x t
    have l0 := (putNum_b9 (x := x) hx0.1 hx0.2).2.1
    have h := ih (P ++ [x]) (acc ++ putNum x) (by rw [hF]; simp) (fun y hy => hx y (by simp [hy])) hl (by rw [List.length_append]; omega)
    have e3 : acc ++ putNumsOf (x :: t) = (acc ++ putNum x) ++ putNumsOf t := by simp [putNumsOf]
    refine Ev.step (fun k => by simp only [impl_putNums.l0]; rw [if_pos (by omega), if_pos (by omega), if_pos (by omega), hr]) ?_
    refine Ev.bind (implPutNum_ev hx0.1 hx0.2) ?_
    have c1 : acc.length + (putNum x).length < 140737488355328 := by omega
    simp only [c1, ↓reduceIte]
    rw [w64 (x := (P.length : Int) + 1) (by omega) (by omega), e3]
    refine Ev.congr (fun k => ?_) h
    simp
theorem putNums_ev (l : List Int) (hx : ∀ x ∈ l, 0 ≤ x ∧ x ≤ 9223372036854775807) (hl : l.length ≤ 1000) : Ev (fun k => impl_putNums.f k l) (putNumsOf l) := by
  have h := putNums_l l l [] [] rfl hx hl (by simp; omega)
  simpa [impl_putNums.f] using h

theorem implCmdPack_ev (kind rel node size : Int) (dig : ByteArray) : Ev (fun k => impl_CmdPack.f k kind rel node size dig) (cmdPack kind rel node size dig) := by
  unfold impl_CmdPack.f cmdPack
  refine Ev.bind (implCmdOk_ev kind rel node size dig) ?_
  cases h : cmdOk kind rel node size dig
  · simp only [Bool.false_eq_true, ↓reduceIte]; exact Ev.now _
  · obtain ⟨k0, k1, k2, k3⟩ := cmdOk_k h
    have l0 := (putNum_b9 (x := kind) (by omega) (by omega)).2.1
    simp only [↓reduceIte]
    by_cases h1 : kind = 1
    · simp only [h1, ↓reduceIte]
      refine Ev.bind (implPutNum_ev (x := 1) (by omega) (by omega)) ?_
      exact Ev.now _
    · have k1 := k1 h1
      have l1 := (putNum_b9 (x := rel) (by omega) (by omega)).2.1
      simp only [h1, ↓reduceIte]
      by_cases h2 : kind = 2
      · have k3 := k3 h2
        have l2 := (putNum_b9 (x := size) (by omega) (by omega)).2.1
        simp only [h2, ↓reduceIte]
        refine Ev.bind (putNums_ev [2, rel, size] (by intro x hx; simp at hx; omega) (by simp)) ?_
        rw [h2] at l0
        have e : putNumsOf [2, rel, size] = putNum 2 ++ putNum rel ++ putNum size := by simp [putNumsOf]
        rw [e]
        have c4 : (putNum 2 ++ putNum rel ++ putNum size).length + dig.size < 140737488355328 := by rw [List.length_append, List.length_append]; omega
        simp only [c4, ↓reduceIte]
        exact Ev.now _
      · by_cases h3 : kind = 3
        · have k2 := k2 h3
          simp only [h3, show ¬ (3 : Int) = 2 by omega, ↓reduceIte]
          refine Ev.bind (putNums_ev [3, rel, node] (by intro x hx; simp at hx; omega) (by simp)) ?_
          have e : putNumsOf [3, rel, node] = putNum 3 ++ putNum rel ++ putNum node := by simp [putNumsOf]
          rw [e]
          exact Ev.now _
        · simp only [h2, h3, ↓reduceIte]
          refine Ev.bind (putNums_ev [kind, rel] (by intro x hx; simp at hx; omega) (by simp)) ?_
          have e : putNumsOf [kind, rel] = putNum kind ++ putNum rel := by simp [putNumsOf]
          rw [e]
          exact Ev.now _

theorem recOk_k {kind term vote pos et ek er en es : Int} {dig : ByteArray} (h : recOk kind term vote pos et ek er en es dig = true) : (kind = 1 ∨ kind = 2 ∨ kind = 3) ∧ (kind = 1 → (0 ≤ term ∧ term ≤ 1000000000) ∧ (0 ≤ vote ∧ vote ≤ 5)) ∧ (kind = 2 → (1 ≤ pos ∧ pos ≤ 80) ∧ (1 ≤ et ∧ et ≤ 1000000000)) ∧ (kind = 3 → 0 ≤ pos ∧ pos ≤ 80) := by
  unfold recOk at h
  by_cases h1 : kind = 1
  · rw [if_pos h1] at h
    simp only [Bool.and_eq_true, inr, decide_eq_true_eq] at h
    exact ⟨by omega, fun _ => ⟨h.1, h.2.1⟩, fun c => by omega, fun c => by omega⟩
  rw [if_neg h1] at h
  by_cases h2 : kind = 2
  · rw [if_pos h2] at h
    simp only [entryOk, Bool.and_eq_true, inr, decide_eq_true_eq] at h
    exact ⟨by omega, fun c => by omega, fun _ => ⟨h.1, h.2.1.1⟩, fun c => by omega⟩
  rw [if_neg h2] at h
  by_cases h3 : kind = 3
  · rw [if_pos h3] at h
    simp only [Bool.and_eq_true, inr, decide_eq_true_eq] at h
    exact ⟨by omega, fun c => by omega, fun c => by omega, fun _ => h.1⟩
  · rw [if_neg h3] at h; simp at h
def recPack (kind term vote pos et ek er en es : Int) (dig : ByteArray) : ByteArray × Bool :=
  if recOk kind term vote pos et ek er en es dig = true then
    (if kind = 1 then (strOfNums (putNum kind ++ putNum term ++ putNum vote), true) else if kind = 2 then (strOfNums (putNum kind ++ putNum pos ++ putNum et ++ (cmdPack ek er en es dig).1), true) else (strOfNums (putNum kind ++ putNum pos), true))
  else ((⟨#[]⟩ : ByteArray), false)
theorem specRecPack_ev (kind term vote pos et ek er en es : Int) (dig : ByteArray) : Ev (fun k => spec_RecPack.f k kind term vote pos et ek er en es dig) (recPack kind term vote pos et ek er en es dig) := by
  unfold spec_RecPack.f recPack
  refine Ev.bind (specRecOk_ev kind term vote pos et ek er en es dig) ?_
  cases h : recOk kind term vote pos et ek er en es dig
  · simp only [Bool.false_eq_true, ↓reduceIte]; exact Ev.now _
  · obtain ⟨k0, k1, k2, k3⟩ := recOk_k h
    simp only [↓reduceIte]
    have l0 := (putNum_b9 (x := kind) (by omega) (by omega)).2.1
    refine Ev.bind (specPutNum_ev (x := kind) (by omega) (by omega)) ?_
    by_cases h1 : kind = 1
    · have k1 := k1 h1
      rw [h1] at l0
      have l1 := (putNum_b9 (x := term) (by omega) (by omega)).2.1
      have l2 := (putNum_b9 (x := vote) (by omega) (by omega)).2.1
      simp only [h1, ↓reduceIte]
      refine Ev.bind (specPutNum_ev (x := term) (by omega) (by omega)) ?_
      have c1 : (putNum 1).length + (putNum term).length < 140737488355328 := by omega
      simp only [c1, ↓reduceIte, Option.bind_some]
      refine Ev.bind (specPutNum_ev (x := vote) (by omega) (by omega)) ?_
      have c2 : (putNum 1 ++ putNum term).length + (putNum vote).length < 140737488355328 := by rw [List.length_append]; omega
      simp only [c2, ↓reduceIte]
      exact Ev.now _
    · by_cases h2 : kind = 2
      · have k2 := k2 h2
        rw [h2] at l0
        have l1 := (putNum_b9 (x := pos) (by omega) (by omega)).2.1
        have l2 := (putNum_b9 (x := et) (by omega) (by omega)).2.1
        have l3 := cmdPack_len ek er en es dig
        simp only [h2, ↓reduceIte, show ¬ (2 : Int) = 1 by omega]
        refine Ev.bind (specPutNum_ev (x := pos) (by omega) (by omega)) ?_
        have c1 : (putNum 2).length + (putNum pos).length < 140737488355328 := by omega
        simp only [c1, ↓reduceIte, Option.bind_some]
        refine Ev.bind (specPutNum_ev (x := et) (by omega) (by omega)) ?_
        have c2 : (putNum 2 ++ putNum pos).length + (putNum et).length < 140737488355328 := by rw [List.length_append]; omega
        simp only [c2, ↓reduceIte, Option.bind_some]
        refine Ev.bind (specCmdPack_ev ek er en es dig) ?_
        have c3 : (putNum 2 ++ putNum pos ++ putNum et).length + (cmdPack ek er en es dig).1.length < 140737488355328 := by rw [List.length_append, List.length_append]; omega
        simp only [c3, ↓reduceIte]
        exact Ev.now _
      · have h3 : kind = 3 := by omega
        have k3 := k3 h3
        rw [h3] at l0
        have l1 := (putNum_b9 (x := pos) (by omega) (by omega)).2.1
        simp only [h3, ↓reduceIte, show ¬ (3 : Int) = 1 by omega, show ¬ (3 : Int) = 2 by omega]
        refine Ev.bind (specPutNum_ev (x := pos) (by omega) (by omega)) ?_
        have c1 : (putNum 3).length + (putNum pos).length < 140737488355328 := by omega
        simp only [c1, ↓reduceIte]
        exact Ev.now _
theorem implRecPack_ev (kind term vote pos et ek er en es : Int) (dig : ByteArray) : Ev (fun k => impl_RecPack.f k kind term vote pos et ek er en es dig) (recPack kind term vote pos et ek er en es dig) := by
  unfold impl_RecPack.f recPack
  refine Ev.bind (implRecOk_ev kind term vote pos et ek er en es dig) ?_
  cases h : recOk kind term vote pos et ek er en es dig
  · simp only [Bool.false_eq_true, ↓reduceIte]; exact Ev.now _
  · obtain ⟨k0, k1, k2, k3⟩ := recOk_k h
    simp only [↓reduceIte]
    have l0 := (putNum_b9 (x := kind) (by omega) (by omega)).2.1
    by_cases h1 : kind = 1
    · have k1 := k1 h1
      simp only [h1, ↓reduceIte]
      refine Ev.bind (putNums_ev [1, term, vote] (by intro x hx; simp at hx; omega) (by simp)) ?_
      have e : putNumsOf [1, term, vote] = putNum 1 ++ putNum term ++ putNum vote := by simp [putNumsOf]
      rw [e]; exact Ev.now _
    · by_cases h2 : kind = 2
      · have k2 := k2 h2
        rw [h2] at l0
        have l1 := (putNum_b9 (x := pos) (by omega) (by omega)).2.1
        have l2 := (putNum_b9 (x := et) (by omega) (by omega)).2.1
        have l3 := cmdPack_len ek er en es dig
        simp only [h2, ↓reduceIte, show ¬ (2 : Int) = 1 by omega]
        refine Ev.bind (implCmdPack_ev ek er en es dig) ?_
        refine Ev.bind (putNums_ev [2, pos, et] (by intro x hx; simp at hx; omega) (by simp)) ?_
        have e : putNumsOf [2, pos, et] = putNum 2 ++ putNum pos ++ putNum et := by simp [putNumsOf]
        rw [e]
        have c3 : (putNum 2 ++ putNum pos ++ putNum et).length + (cmdPack ek er en es dig).1.length < 140737488355328 := by rw [List.length_append, List.length_append]; omega
        simp only [c3, ↓reduceIte]
        exact Ev.now _
      · have h3 : kind = 3 := by omega
        have k3 := k3 h3
        simp only [h3, ↓reduceIte, show ¬ (3 : Int) = 1 by omega, show ¬ (3 : Int) = 2 by omega]
        refine Ev.bind (putNums_ev [3, pos] (by intro x hx; simp at hx; omega) (by simp)) ?_
        have e : putNumsOf [3, pos] = putNum 3 ++ putNum pos := by simp [putNumsOf]
        rw [e]; exact Ev.now _

theorem l3Size_l (rest : List S95) : ∀ (P : List S95) (n room : Int), 0 ≤ n → n + dsize rest ≤ 1152921504606846976 → P.length + rest.length ≤ 140737488355328 → Ev (fun k => spec_l3Size.l0 k n (P.length : Int) room (P ++ rest)) (n + dsize rest) := by
  induction rest with
  | nil =>
    intro P n room h0 h1 hl
    refine Ev.step (f := fun _ => some n) (fun k => ?_) ?_
    · simp only [spec_l3Size.l0]
      rw [if_neg (by simp)]
    · simp only [dsize, Int.add_zero]; exact Ev.now _
  | cons x t ih =>
    intro P n room h0 h1 hl
    simp only [List.length_cons] at hl
    have hn := dsize_nn t
    simp only [dsize] at h1
    have h := ih (P ++ [x]) (n + x.f1.size + x.f2.size) room (by omega) (by omega) (by simp; omega)
    have e : n + dsize (x :: t) = n + x.f1.size + x.f2.size + dsize t := by simp only [dsize]; omega
    rw [e]
    refine Ev.step (fun k => ?_) h
    simp only [spec_l3Size.l0]
    rw [if_pos (by simp; omega), if_pos (by omega), rdF_mid, w64 (x := n + x.f1.size) (by omega) (by omega), w64 (by omega) (by omega), w64 (by omega) (by omega)]
    simp
theorem l3Size_ev (room : Int) (l : List S95) (h1 : dsize l ≤ 1152921504606846976) (hl : l.length ≤ 140737488355328) : Ev (fun k => spec_l3Size.f k room l) (dsize l) := by
  have h := l3Size_l l [] 0 room (by omega) (by omega) (by simpa using hl)
  simpa [spec_l3Size.f] using h

theorem l3Name_eq (a : Int) : spec_l3Name.f a = some (inr a 0 7) := by unfold spec_l3Name.f; rw [l1In_eq]; rfl
theorem specDiskOk_l (rest : List S95) : ∀ (P : List S95) (lo room : Int), 0 ≤ lo → (P = [] ∧ lo = 0 ∨ ∃ P' y, P = P' ++ [y] ∧ lo = y.f0 + 1) → P.length + rest.length ≤ 140737488355328 → Ev (fun k => spec_DiskOk.l0 k (P.length : Int) room (P ++ rest)) (asc lo rest) := by
  induction rest with
  | nil =>
    intro P lo room h0 hP hl
    refine Ev.step (f := fun _ => some true) (fun k => ?_) (Ev.now _)
    simp only [spec_DiskOk.l0]
    rw [if_neg (by simp)]
  | cons x t ih =>
    intro P lo room h0 hP hl
    simp only [List.length_cons] at hl
    have el : ((P ++ x :: t).length : Int) = P.length + t.length + 1 := by simp; omega
    have hw1 : wrap64 ((P.length : Int) + 1) = ((P ++ [x]).length : Int) := by rw [w64 (by omega) (by omega)]; simp
    by_cases c1 : 0 ≤ x.f0 ∧ x.f0 ≤ 7
    · have i1 : inr x.f0 0 7 = true := decide_eq_true c1
      by_cases c2 : lo ≤ x.f0
      · have h := ih (P ++ [x]) (x.f0 + 1) room (by omega) (.inr ⟨P, x, rfl, rfl⟩) (by simp; omega)
        refine Ev.step (f := fun k => spec_DiskOk.l0 k ((P ++ [x]).length : Int) room ((P ++ [x]) ++ t)) (fun k => ?_) ?_
        · simp only [spec_DiskOk.l0, l3Name_eq, Option.bind_some]
          rw [if_pos (by omega), if_pos (by omega), rdF_mid, i1, if_pos rfl]
          have ea : P ++ x :: t = P ++ [x] ++ t := by simp
          rcases hP with ⟨rfl, rfl⟩ | ⟨P', y, rfl, rfl⟩
          · rw [if_neg (by simp), hw1, ea]
          · have ep : ((P' ++ [y]).length : Int) = P'.length + 1 := by simp
            rw [if_pos (by omega), w64 (x := ((P' ++ [y]).length : Int) - 1) (by omega) (by omega), if_pos (by omega), if_pos (by omega), show P' ++ [y] ++ x :: t = P' ++ [y] ++ (x :: t) from rfl, rdF_last, if_neg (by omega), hw1, ea]
        · simp only [asc, show lo ≤ x.f0 ∧ x.f0 ≤ 7 from ⟨c2, c1.2⟩, decide_true, Bool.true_and]; exact h
      · refine Ev.step (f := fun _ => some false) (fun k => ?_) ?_
        · simp only [spec_DiskOk.l0, l3Name_eq, Option.bind_some]
          rw [if_pos (by omega), if_pos (by omega), rdF_mid, i1, if_pos rfl]
          rcases hP with ⟨rfl, rfl⟩ | ⟨P', y, rfl, rfl⟩
          · omega
          · have ep : ((P' ++ [y]).length : Int) = P'.length + 1 := by simp
            rw [if_pos (by omega), w64 (x := ((P' ++ [y]).length : Int) - 1) (by omega) (by omega), if_pos (by omega), if_pos (by omega), rdF_last, if_pos (by omega)]
        · have : asc lo (x :: t) = false := by simp [asc, c2]
          rw [this]; exact Ev.now _
    · have i1 : inr x.f0 0 7 = false := decide_eq_false c1
      refine Ev.step (f := fun _ => some false) (fun k => ?_) ?_
      · simp only [spec_DiskOk.l0, l3Name_eq, Option.bind_some]
        rw [if_pos (by omega), if_pos (by omega), rdF_mid, i1, if_neg (by simp)]
      · have : asc lo (x :: t) = false := by
          have : ¬ (lo ≤ x.f0 ∧ x.f0 ≤ 7) := by omega
          simp only [asc, this, decide_false, Bool.false_and]
        rw [this]; exact Ev.now _
theorem specDiskOk_ev (room : Int) (l : List S95) (h1 : dsize l ≤ 1152921504606846976) (hl : l.length ≤ 140737488355328) : Ev (fun k => spec_DiskOk.f k room l) (diskOk room l) := by
  unfold spec_DiskOk.f diskOk
  simp only [l1In_eq, Option.bind_some]
  have hj : Ev (fun k => spec_DiskOk.j0 k true room l) false := by
    refine Ev.step (f := fun _ => some false) (fun k => ?_) (Ev.now _)
    simp only [spec_DiskOk.j0, ↓reduceIte]
  cases h : inr room 0 40000
  · simp only [Bool.false_eq_true, ↓reduceIte, Bool.false_and, Bool.and_false]; exact hj
  · simp only [↓reduceIte, Bool.true_and]
    by_cases h8 : (l.length : Int) > 8
    · have : asc 0 l = false := by
        cases ha : asc 0 l
        · rfl
        · have := asc_len l 0 (by omega) ha; omega
      simp only [h8, ↓reduceIte, this, Bool.false_and]; exact hj
    · simp only [h8, ↓reduceIte]
      refine Ev.bind (l3Size_ev room l h1 hl) ?_
      by_cases hd : dsize l > room
      · simp only [hd, decide_true, show ¬ dsize l ≤ room by omega, decide_false, Bool.and_false]; exact hj
      · simp only [hd, decide_false, show dsize l ≤ room by omega, decide_true, Bool.and_true]
        refine Ev.step (f := fun k => spec_DiskOk.l0 k 0 room l) (fun k => ?_) ?_
        · simp only [spec_DiskOk.j0]; rfl
        · exact specDiskOk_l l [] 0 room (by omega) (.inl ⟨rfl, rfl⟩) (by simpa using hl)

theorem sizeOf_l (rest : List S95) : ∀ (P : List S95) (n m : Int), m = P.length + rest.length → 0 ≤ n → n + dsize rest ≤ 1152921504606846976 → P.length + rest.length ≤ 140737488355328 → Ev (fun k => impl_sizeOf.l0 k n (P ++ rest) m (P.length : Int)) (n + dsize rest) := by
  induction rest with
  | nil =>
    intro P n m hm h0 h1 hl
    refine Ev.step (f := fun _ => some n) (fun k => ?_) ?_
    · simp only [impl_sizeOf.l0]
      rw [if_neg (by simp at hm; omega)]
    · simp only [dsize, Int.add_zero]; exact Ev.now _
  | cons x t ih =>
    intro P n m hm h0 h1 hl
    simp only [List.length_cons] at hl hm
    have hn := dsize_nn t
    simp only [dsize] at h1
    have h := ih (P ++ [x]) (n + x.f1.size + x.f2.size) m (by simp; omega) (by omega) (by omega) (by simp; omega)
    have e : n + dsize (x :: t) = n + x.f1.size + x.f2.size + dsize t := by simp only [dsize]; omega
    rw [e]
    refine Ev.step (fun k => ?_) h
    simp only [impl_sizeOf.l0]
    rw [if_pos (by omega), if_pos (by omega), if_pos (by simp; omega), rdF_mid, w64 (x := (x.f1.size : Int) + x.f2.size) (by omega) (by omega), w64 (by omega) (by omega), w64 (by omega) (by omega)]
    simp [Int.add_assoc]
theorem sizeOf_ev (room : Int) (l : List S95) (h1 : dsize l ≤ 1152921504606846976) (hl : l.length ≤ 140737488355328) : Ev (fun k => impl_sizeOf.f k room l) (dsize l) := by
  have h := sizeOf_l l [] 0 l.length (by simp) (by omega) (by omega) (by simpa using hl)
  simpa [impl_sizeOf.f] using h

theorem isFile_eq (a : Int) : impl_isFile.f a = some (inr a 0 7) := by unfold impl_isFile.f; rw [within_eq]; rfl
theorem implDiskOk_l (F : List S95) (hd : dsize F ≤ 1152921504606846976) (hF : F.length ≤ 140737488355328) (rest : List S95) : ∀ (P : List S95) (lo room : Int), F = P ++ rest → 0 ≤ lo → (P = [] ∧ lo = 0 ∨ ∃ P' y, P = P' ++ [y] ∧ lo = y.f0 + 1) → Ev (fun k => impl_DiskOk.l0 k F (F.length : Int) (P.length : Int) room F) (asc lo rest && (inr room 0 40000 && decide (dsize F ≤ room))) := by
  induction rest with
  | nil =>
    intro P lo room hPF h0 hP
    refine Ev.step (f := fun k => (impl_within.f room 0 40000).bind fun t => if t = true then (impl_sizeOf.f k room F).bind fun t2 => some (decide (t2 ≤ room)) else some false) (fun k => ?_) ?_
    · simp only [impl_DiskOk.l0]
      rw [if_neg (by rw [hPF]; simp)]
    · simp only [within_eq, Option.bind_some, asc, Bool.true_and]
      cases inr room 0 40000
      · simp only [Bool.false_eq_true, ↓reduceIte, Bool.false_and]; exact Ev.now _
      · simp only [↓reduceIte, Bool.true_and]
        refine Ev.bind (sizeOf_ev room F hd hF) ?_
        exact Ev.now _
  | cons x t ih =>
    intro P lo room hPF h0 hP
    have el : (F.length : Int) = P.length + t.length + 1 := by rw [hPF]; simp; omega
    have hr : rd_T95 F (P.length : Int) = x := by rw [hPF]; exact rdF_mid P x t
    have hw1 : wrap64 ((P.length : Int) + 1) = ((P ++ [x]).length : Int) := by rw [w64 (by omega) (by omega)]; simp
    by_cases c1 : 0 ≤ x.f0 ∧ x.f0 ≤ 7
    · have i1 : inr x.f0 0 7 = true := decide_eq_true c1
      by_cases c2 : lo ≤ x.f0
      · have h := ih (P ++ [x]) (x.f0 + 1) room (by rw [hPF]; simp) (by omega) (.inr ⟨P, x, rfl, rfl⟩)
        refine Ev.step (f := fun k => impl_DiskOk.l0 k F (F.length : Int) ((P ++ [x]).length : Int) room F) (fun k => ?_) ?_
        · simp only [impl_DiskOk.l0, isFile_eq, Option.bind_some]
          rw [if_pos (by omega), if_pos (by omega), if_pos (by omega), hr, i1, if_pos rfl]
          rcases hP with ⟨rfl, rfl⟩ | ⟨P', y, rfl, rfl⟩
          · rw [if_neg (by simp), hw1]
          · have hy : rd_T95 F (((P' ++ [y]).length : Int) - 1) = y := by rw [hPF]; exact rdF_last P' y (x :: t)
            have ep : ((P' ++ [y]).length : Int) = P'.length + 1 := by simp
            rw [if_pos (by omega), w64 (x := ((P' ++ [y]).length : Int) - 1) (by omega) (by omega), if_pos (by omega), if_pos (by omega), hy, if_neg (by omega), hw1]
        · simp only [asc, show lo ≤ x.f0 ∧ x.f0 ≤ 7 from ⟨c2, c1.2⟩, decide_true, Bool.true_and]; exact h
      · refine Ev.step (f := fun _ => some false) (fun k => ?_) ?_
        · simp only [impl_DiskOk.l0, isFile_eq, Option.bind_some]
          rw [if_pos (by omega), if_pos (by omega), if_pos (by omega), hr, i1, if_pos rfl]
          rcases hP with ⟨rfl, rfl⟩ | ⟨P', y, rfl, rfl⟩
          · omega
          · have hy : rd_T95 F (((P' ++ [y]).length : Int) - 1) = y := by rw [hPF]; exact rdF_last P' y (x :: t)
            have ep : ((P' ++ [y]).length : Int) = P'.length + 1 := by simp
            rw [if_pos (by omega), w64 (x := ((P' ++ [y]).length : Int) - 1) (by omega) (by omega), if_pos (by omega), if_pos (by omega), hy, if_pos (by omega)]
        · have : asc lo (x :: t) = false := by simp [asc, c2]
          rw [this]; exact Ev.now _
    · have i1 : inr x.f0 0 7 = false := decide_eq_false c1
      refine Ev.step (f := fun _ => some false) (fun k => ?_) ?_
      · simp only [impl_DiskOk.l0, isFile_eq, Option.bind_some]
        rw [if_pos (by omega), if_pos (by omega), if_pos (by omega), hr, i1, if_neg (by simp)]
      · have : asc lo (x :: t) = false := by
          have : ¬ (lo ≤ x.f0 ∧ x.f0 ≤ 7) := by omega
          simp only [asc, this, decide_false, Bool.false_and]
        rw [this]; exact Ev.now _
theorem implDiskOk_ev (room : Int) (l : List S95) (h1 : dsize l ≤ 1152921504606846976) (hl : l.length ≤ 140737488355328) : Ev (fun k => impl_DiskOk.f k room l) (diskOk room l) :=
  implDiskOk_l l h1 hl l [] 0 room rfl (by omega) (.inl ⟨rfl, rfl⟩)

theorem l3Copy_eq (room : Int) (l : List S95) (hl : l.length ≤ 3518437208878) : spec_l3Copy.f room l = some (room, l) := by
  unfold spec_l3Copy.f
  simp only [Option.bind_some, List.length_nil, List.nil_append]
  rw [if_pos (by omega)]
theorem copyDisk_eq (room : Int) (l : List S95) (hl : l.length ≤ 3518437208878) : impl_copyDisk.f room l = some (room, l) := by
  unfold impl_copyDisk.f
  simp only [Option.bind_some, List.length_nil, List.nil_append]
  rw [if_pos (by omega)]
theorem diskOk_asc {room : Int} {l : List S95} (h : diskOk room l = true) : asc 0 l = true := by
  unfold diskOk at h; rw [Bool.and_eq_true] at h; exact h.1

theorem findS_l (nm : Int) (rest : List S95) : ∀ (P : List S95) (room : Int), P.length + rest.length ≤ 140737488355328 → Ev (fun k => spec_l3Find.l0 k nm (P.length : Int) room (P ++ rest)) (idxName rest nm (P.length : Int)) := by
  induction rest with
  | nil =>
    intro P room hl
    refine Ev.step (f := fun _ => some (-1)) (fun k => ?_) (Ev.now _)
    simp only [spec_l3Find.l0]
    rw [if_neg (by simp)]
  | cons x t ih =>
    intro P room hl
    simp only [List.length_cons] at hl
    have el : ((P ++ x :: t).length : Int) = P.length + t.length + 1 := by simp; omega
    by_cases c : x.f0 = nm
    · refine Ev.step (f := fun _ => some (P.length : Int)) (fun k => ?_) ?_
      · simp only [spec_l3Find.l0]
        rw [if_pos (by omega), if_pos (by omega), rdF_mid, if_pos c]
      · simp only [idxName, c, ↓reduceIte]; exact Ev.now _
    · have h := ih (P ++ [x]) room (by simp; omega)
      have hw1 : wrap64 ((P.length : Int) + 1) = ((P ++ [x]).length : Int) := by rw [w64 (by omega) (by omega)]; simp
      have hi : idxName (x :: t) nm (P.length : Int) = idxName t nm ((P ++ [x]).length : Int) := by simp only [idxName, c, ↓reduceIte]; simp
      rw [hi]
      refine Ev.step (fun k => ?_) h
      simp only [spec_l3Find.l0]
      rw [if_pos (by omega), if_pos (by omega), rdF_mid, if_neg c, hw1]
      simp
theorem findS_ev (room : Int) (l : List S95) (nm : Int) (hl : l.length ≤ 140737488355328) : Ev (fun k => spec_l3Find.f k room l nm) (idxName l nm 0) := by
  have h := findS_l nm l [] room (by simpa using hl)
  simpa [spec_l3Find.f] using h

theorem idx_b (nm : Int) : ∀ (l : List S95) (i : Int), 0 ≤ i → (idxName l nm i = -1 ∨ i ≤ idxName l nm i ∧ idxName l nm i < i + l.length)
  | [], i, h => by simp [idxName]
  | x :: t, i, h => by
    simp only [idxName, List.length_cons]
    split
    · exact .inr ⟨by omega, by omega⟩
    · have := idx_b nm t (i + 1) (by omega)
      omega
theorem rdF_mem (l : List S95) (i : Int) (h0 : 0 ≤ i) (h1 : i < l.length) : rd_T95 l i ∈ l := by
  unfold rd_T95
  have : i.toNat < l.length := by omega
  simp [List.getD_eq_getElem?_getD, this]
theorem idx_mem (nm : Int) : ∀ (l : List S95) (i : Int), 0 ≤ i → 0 ≤ idxName l nm i → ∃ y ∈ l, y.f0 = nm
  | [], i, h, h1 => by simp [idxName] at h1
  | x :: t, i, h, h1 => by
    simp only [idxName] at h1
    by_cases c : x.f0 = nm
    · exact ⟨x, by simp, c⟩
    · simp only [c, ↓reduceIte] at h1
      obtain ⟨y, hy, e⟩ := idx_mem nm t (i + 1) (by omega) h1
      exact ⟨y, by simp [hy], e⟩

def oth (nm : Int) (l : List S95) : List S95 := l.filter fun x => decide (x.f0 ≠ nm)
def putG (f : S95) : List S95 → List S95
  | [] => [f]
  | x :: t => if x.f0 ≥ f.f0 then f :: oth f.f0 (x :: t) else x :: putG f t
theorem oth_cons_eq {nm : Int} {x : S95} {t : List S95} (h : x.f0 = nm) : oth nm (x :: t) = oth nm t := by simp [oth, h]
theorem oth_cons_ne {nm : Int} {x : S95} {t : List S95} (h : x.f0 ≠ nm) : oth nm (x :: t) = x :: oth nm t := by simp [oth, h]
theorem putT_l (room : Int) (f : S95) (rm : Int) (rest : List S95) : ∀ (P out : List S95), P.length + rest.length ≤ 140737488355328 → out.length + rest.length ≤ 3518437208880 → Ev (fun k => spec_l3Put.l0 k true (P.length : Int) room (P ++ rest) f.f0 f.f1 f.f2 rm out) (rm, out ++ oth f.f0 rest) := by
  induction rest with
  | nil =>
    intro P out hl ho
    refine Ev.step (f := fun _ => some (rm, out)) (fun k => ?_) ?_
    · simp only [spec_l3Put.l0]
      rw [if_neg (by simp), if_pos trivial]
    · simp [oth]; exact Ev.now _
  | cons x t ih =>
    intro P out hl ho
    simp only [List.length_cons] at hl ho
    have el : ((P ++ x :: t).length : Int) = P.length + t.length + 1 := by simp; omega
    have hw1 : wrap64 ((P.length : Int) + 1) = ((P ++ [x]).length : Int) := by rw [w64 (by omega) (by omega)]; simp
    have ea : P ++ x :: t = P ++ [x] ++ t := by simp
    refine Ev.step (fun k => by simp only [spec_l3Put.l0]; rw [if_pos (by omega), if_pos trivial]) ?_
    by_cases c : x.f0 = f.f0
    · have h := ih (P ++ [x]) out (by simp; omega) (by omega)
      rw [oth_cons_eq c]
      refine Ev.step (fun k => ?_) h
      simp only [spec_l3Put.j1]
      rw [if_neg (by simp), if_pos (by omega), if_pos (by omega), rdF_mid, if_pos c, hw1, ea]
    · have h := ih (P ++ [x]) (out ++ [x]) (by simp; omega) (by simp; omega)
      rw [oth_cons_ne c]
      have e3 : out ++ x :: oth f.f0 t = (out ++ [x]) ++ oth f.f0 t := by simp
      rw [e3]
      refine Ev.step (fun k => ?_) h
      simp only [spec_l3Put.j1]
      rw [if_neg (by simp), if_pos (by omega), if_pos (by omega), rdF_mid, if_neg c, if_pos (by omega), hw1, ea]
theorem putF_l (room : Int) (f : S95) (rm : Int) (rest : List S95) : ∀ (P out : List S95), P.length + rest.length ≤ 140737488355328 → out.length + rest.length ≤ 3518437208878 → Ev (fun k => spec_l3Put.l0 k false (P.length : Int) room (P ++ rest) f.f0 f.f1 f.f2 rm out) (rm, out ++ putG f rest) := by
  induction rest with
  | nil =>
    intro P out hl ho
    refine Ev.step (f := fun _ => some (rm, out ++ [f])) (fun k => ?_) ?_
    · simp only [spec_l3Put.l0]
      rw [if_neg (by simp), if_neg (by simp), if_pos (by omega)]
    · simp [putG]; exact Ev.now _
  | cons x t ih =>
    intro P out hl ho
    simp only [List.length_cons] at hl ho
    have el : ((P ++ x :: t).length : Int) = P.length + t.length + 1 := by simp; omega
    have hw1 : wrap64 ((P.length : Int) + 1) = ((P ++ [x]).length : Int) := by rw [w64 (by omega) (by omega)]; simp
    have ea : P ++ x :: t = P ++ [x] ++ t := by simp
    refine Ev.step (fun k => by simp only [spec_l3Put.l0]; rw [if_pos (by omega), if_neg (by simp), if_pos (by omega), rdF_mid]) ?_
    by_cases c : x.f0 ≥ f.f0
    · simp only [c, decide_true, putG, ↓reduceIte]
      by_cases c2 : x.f0 = f.f0
      · have h := putT_l room f rm t (P ++ [x]) (out ++ [f]) (by simp; omega) (by simp; omega)
        rw [oth_cons_eq c2]
        have e3 : out ++ f :: oth f.f0 t = (out ++ [f]) ++ oth f.f0 t := by simp
        rw [e3]
        refine Ev.step (fun k => ?_) h
        simp only [spec_l3Put.j1]
        rw [if_pos trivial, if_pos (by omega)]
        simp only [Option.bind_some]
        rw [if_pos (by omega), if_pos (by omega), rdF_mid, if_pos c2, hw1, ea]
      · have h := putT_l room f rm t (P ++ [x]) (out ++ [f] ++ [x]) (by simp; omega) (by simp; omega)
        rw [oth_cons_ne c2]
        have e3 : out ++ f :: x :: oth f.f0 t = (out ++ [f] ++ [x]) ++ oth f.f0 t := by simp
        rw [e3]
        refine Ev.step (fun k => ?_) h
        simp only [spec_l3Put.j1]
        rw [if_pos trivial, if_pos (by omega)]
        simp only [Option.bind_some]
        rw [if_pos (by omega), if_pos (by omega), rdF_mid, if_neg c2, if_pos (by simp; omega), hw1, ea]
    · simp only [c, decide_false, putG, ↓reduceIte]
      have c2 : ¬ x.f0 = f.f0 := by omega
      have h := ih (P ++ [x]) (out ++ [x]) (by simp; omega) (by simp; omega)
      have e3 : out ++ x :: putG f t = (out ++ [x]) ++ putG f t := by simp
      rw [e3]
      refine Ev.step (fun k => ?_) h
      simp only [spec_l3Put.j1]
      rw [if_neg (by simp), if_pos (by omega), if_pos (by omega), rdF_mid, if_neg c2, if_pos (by omega), hw1, ea]
theorem l3Put_ev (room : Int) (l : List S95) (f : S95) (hl : l.length ≤ 3518437208878) : Ev (fun k => spec_l3Put.f k room l f.f0 f.f1 f.f2) (room, putG f l) := by
  have h := putF_l room f room l [] [] (by simp; omega) (by simpa using hl)
  simpa [spec_l3Put.f] using h
theorem asc_gt : ∀ (l : List S95) (lo : Int) (x : S95), asc lo l = true → x ∈ l → lo ≤ x.f0
  | y :: t, lo, x, h, hx => by
    simp only [asc, Bool.and_eq_true, decide_eq_true_eq] at h
    rcases List.mem_cons.1 hx with rfl | hx
    · exact h.1.1
    · have := asc_gt t (y.f0 + 1) x h.2 hx; omega
theorem oth_asc (l : List S95) (lo nm : Int) (h : asc lo l = true) (hn : nm < lo) : oth nm l = l := by
  unfold oth
  rw [List.filter_eq_self]
  intro x hx
  have := asc_gt l lo x h hx
  simp; omega
theorem putG_set (f : S95) : ∀ (l : List S95) (lo i : Int), asc lo l = true → 0 ≤ i → 0 ≤ idxName l f.f0 i → putG f l = l.set (idxName l f.f0 i - i).toNat f
  | [], lo, i, h, h0, h1 => by simp [idxName] at h1
  | x :: t, lo, i, h, h0, h1 => by
    simp only [asc, Bool.and_eq_true, decide_eq_true_eq] at h
    simp only [idxName] at h1 ⊢
    by_cases c : x.f0 = f.f0
    · simp only [c, ↓reduceIte, putG]
      rw [if_pos (by omega), oth_cons_eq c, oth_asc t (x.f0 + 1) f.f0 h.2 (by omega)]
      simp
    · simp only [c, ↓reduceIte] at h1 ⊢
      have hb := idx_b f.f0 t (i + 1) (by omega)
      have hm : ∃ y ∈ t, y.f0 = f.f0 := idx_mem f.f0 t (i + 1) (by omega) h1
      obtain ⟨y, hy, e⟩ := hm
      have hg := asc_gt t (x.f0 + 1) y h.2 hy
      have ih := putG_set f t (x.f0 + 1) (i + 1) h.2 (by omega) h1
      simp only [putG]
      rw [if_neg (by omega), ih]
      have e2 : (idxName t f.f0 (i + 1) - i).toNat = (idxName t f.f0 (i + 1) - (i + 1)).toNat + 1 := by omega
      rw [e2, List.set_cons_succ]

theorem diskOk_b {room : Int} {l : List S95} (h : diskOk room l = true) : 0 ≤ room ∧ room ≤ 40000 ∧ dsize l ≤ room ∧ l.length ≤ 8 := by
  unfold diskOk at h
  simp only [Bool.and_eq_true, inr, decide_eq_true_eq] at h
  have := asc_len l 0 (by omega) h.1
  omega
def appF (l : List S95) (nm : Int) (s : ByteArray) : S95 :=
  if idxName l nm 0 ≥ 0 then ⟨(rd_T95 l (idxName l nm 0)).f0, (rd_T95 l (idxName l nm 0)).f1, (rd_T95 l (idxName l nm 0)).f2 ++ s⟩ else ⟨nm, (⟨#[]⟩ : ByteArray), (⟨#[]⟩ : ByteArray) ++ s⟩
def diskAppend (room : Int) (l : List S95) (nm : Int) (s : ByteArray) : Int × List S95 × Int :=
  if (diskOk room l && inr nm 0 7) = true then (if (s.size : Int) > room - dsize l then (room, l, 3) else (room, putG (appF l nm s) l, 0)) else (0, [], 1)
theorem dsize_oth (nm : Int) : ∀ l : List S95, dsize (oth nm l) ≤ dsize l ∧ (oth nm l).length ≤ l.length
  | [] => by simp [oth, dsize]
  | x :: t => by
    have h := dsize_oth nm t
    have hn := dsize_nn (oth nm t)
    by_cases c : x.f0 = nm
    · rw [oth_cons_eq c]; simp only [dsize, List.length_cons]; omega
    · rw [oth_cons_ne c]; simp only [dsize, List.length_cons]; omega
theorem dsize_putG (f : S95) : ∀ l : List S95, dsize (putG f l) ≤ dsize l + f.f1.size + f.f2.size ∧ (putG f l).length ≤ l.length + 1
  | [] => by simp only [putG, dsize, List.length_cons, List.length_nil]; omega
  | x :: t => by
    have h := dsize_putG f t
    simp only [putG]
    split
    · have := dsize_oth f.f0 (x :: t)
      simp only [dsize, List.length_cons] at this ⊢; omega
    · simp only [dsize, List.length_cons]; omega
theorem appF_size (l : List S95) (nm : Int) (s : ByteArray) (hl : l.length ≤ 140737488355328) : ((appF l nm s).f1.size : Int) + (appF l nm s).f2.size ≤ dsize l + s.size := by
  unfold appF
  split
  · rename_i h
    have hb := idx_b nm l 0 (by omega)
    have hm := dsize_mem (rdF_mem l (idxName l nm 0) (by omega) (by omega))
    simp only [ByteArray.size_append]; omega
  · have hn := dsize_nn l
    have : (⟨#[]⟩ : ByteArray).size = 0 := rfl
    simp only [ByteArray.size_append, this]; omega
theorem specDiskAppend_ev (room : Int) (l : List S95) (nm : Int) (s : ByteArray) (h1 : dsize l ≤ 1152921504606846976) (hl : l.length ≤ 3518437208878) (hs : s.size ≤ 140737488355328) : Ev (fun k => spec_DiskAppend.f k room l nm s) (diskAppend room l nm s) := by
  unfold spec_DiskAppend.f diskAppend
  refine Ev.bind (specDiskOk_ev room l h1 (by omega)) ?_
  have hj : Ev (fun k => spec_DiskAppend.j0 k nm s true room l) (0, [], 1) := by
    refine Ev.step (f := fun _ => some (0, [], 1)) (fun k => ?_) (Ev.now _)
    simp only [spec_DiskAppend.j0, ↓reduceIte]
  cases h : diskOk room l
  · simp only [Bool.false_eq_true, ↓reduceIte, Bool.false_and]; exact hj
  · have hb := diskOk_b h
    have hn := dsize_nn l
    simp only [↓reduceIte, Bool.true_and, l3Name_eq, Option.bind_some]
    cases h2 : inr nm 0 7
    · simp only [Bool.not_false, Bool.false_eq_true, ↓reduceIte]; exact hj
    · simp only [Bool.not_true, ↓reduceIte]
      refine Ev.step (fun k => by simp only [spec_DiskAppend.j0, Bool.false_eq_true, ↓reduceIte]; rfl) ?_
      refine Ev.bind (l3Size_ev room l (by omega) (by omega)) ?_
      have hw : wrap64 (room - dsize l) = room - dsize l := w64 (by omega) (by omega)
      simp only [hw]
      by_cases c : (s.size : Int) > room - dsize l
      · simp only [c, ↓reduceIte, l3Copy_eq room l hl, Option.bind_some]; exact Ev.now _
      · simp only [c, ↓reduceIte]
        refine Ev.bind (findS_ev room l nm (by omega)) ?_
        unfold appF
        by_cases c2 : idxName l nm 0 ≥ 0
        · have hb2 := idx_b nm l 0 (by omega)
          have hm := dsize_mem (rdF_mem l (idxName l nm 0) (by omega) (by omega))
          simp only [c2, ↓reduceIte, show 0 ≤ idxName l nm 0 by omega, show idxName l nm 0 < (l.length : Int) by omega, show (rd_T95 l (idxName l nm 0)).f2.size + s.size ≤ 9223372036854775807 by omega]
          exact Ev.bind (l3Put_ev room l ⟨(rd_T95 l (idxName l nm 0)).f0, (rd_T95 l (idxName l nm 0)).f1, (rd_T95 l (idxName l nm 0)).f2 ++ s⟩ hl) (Ev.now _)
        · simp only [c2, ↓reduceIte, show 0 + s.size ≤ 9223372036854775807 by omega]
          exact Ev.bind (l3Put_ev room l ⟨nm, (⟨#[]⟩ : ByteArray), (⟨#[]⟩ : ByteArray) ++ s⟩ hl) (Ev.now _)

theorem empty_app (s : ByteArray) : (⟨#[]⟩ : ByteArray) ++ s = s := by
  apply ByteArray.ext
  simp
theorem idx_none (nm : Int) : ∀ (l : List S95) (i : Int), 0 ≤ i → idxName l nm i < 0 → ∀ x ∈ l, x.f0 ≠ nm
  | [], i, h, h1, x, hx => by simp at hx
  | y :: t, i, h, h1, x, hx => by
    simp only [idxName] at h1
    by_cases c : y.f0 = nm
    · simp only [c, ↓reduceIte] at h1; omega
    · simp only [c, ↓reduceIte] at h1
      rcases List.mem_cons.1 hx with rfl | hx
      · exact c
      · exact idx_none nm t (i + 1) (by omega) h1 x hx
theorem idx_nameA (nm : Int) : ∀ (l : List S95) (i : Int), 0 ≤ i → 0 ≤ idxName l nm i → (rd_T95 l (idxName l nm i - i)).f0 = nm
  | [], i, h, h1 => by simp [idxName] at h1
  | y :: t, i, h, h1 => by
    simp only [idxName] at h1 ⊢
    by_cases c : y.f0 = nm
    · simp only [c, ↓reduceIte, Int.sub_self]
      unfold rd_T95; simpa using c
    · simp only [c, ↓reduceIte] at h1 ⊢
      have ih := idx_nameA nm t (i + 1) (by omega) h1
      have hb := idx_b nm t (i + 1) (by omega)
      have e : (idxName t nm (i + 1) - i).toNat = (idxName t nm (i + 1) - (i + 1)).toNat + 1 := by omega
      unfold rd_T95 at ih ⊢
      rw [e]
      simpa using ih
theorem putG_place (f : S95) : ∀ l : List S95, (∀ x ∈ l, x.f0 ≠ f.f0) → putG f l = placeL l f
  | [], _ => by simp [putG, placeL, placeIdx]
  | x :: t, h => by
    have hx := h x (by simp)
    by_cases c : x.f0 ≥ f.f0
    · have e : placeIdx (x :: t) f.f0 = 0 := by
        have : ¬ x.f0 < f.f0 := by omega
        simp [placeIdx, this]
      have ho : oth f.f0 (x :: t) = x :: t := by
        unfold oth
        rw [List.filter_eq_self]
        intro y hy
        simpa using h y hy
      simp only [putG, c, ↓reduceIte, ho, placeL, e, List.take_zero, List.drop_zero, List.nil_append, List.cons_append]
    · have e : placeIdx (x :: t) f.f0 = placeIdx t f.f0 + 1 := by
        have : x.f0 < f.f0 := by omega
        simp [placeIdx, this]
      have ih := putG_place f t (fun y hy => h y (by simp [hy]))
      unfold placeL at ih ⊢
      simp only [putG, c, ↓reduceIte, e, List.take_succ_cons, List.drop_succ_cons, List.cons_append, ih]
theorem diskAppend_len (room : Int) (l : List S95) (nm : Int) (s : ByteArray) : (diskAppend room l nm s).2.1.length ≤ l.length + 1 := by
  unfold diskAppend
  split
  · split
    · simp
    · exact (dsize_putG (appF l nm s) l).2
  · simp
theorem implDiskAppend_ev (room : Int) (l : List S95) (nm : Int) (s : ByteArray) (h1 : dsize l ≤ 1152921504606846976) (hl : l.length ≤ 3518437208878) (hs : s.size ≤ 140737488355328) : Ev (fun k => impl_DiskAppend.f k room l nm s) (diskAppend room l nm s) := by
  unfold impl_DiskAppend.f diskAppend
  refine Ev.bind (implDiskOk_ev room l h1 (by omega)) ?_
  have hj : Ev (fun k => impl_DiskAppend.j0 k nm s true room l) (0, [], 1) := by
    refine Ev.step (f := fun _ => some (0, [], 1)) (fun k => ?_) (Ev.now _)
    simp only [impl_DiskAppend.j0, ↓reduceIte]
  cases h : diskOk room l
  · simp only [Bool.false_eq_true, ↓reduceIte, Bool.false_and]; exact hj
  · have hb := diskOk_b h
    have hn := dsize_nn l
    simp only [↓reduceIte, Bool.true_and, isFile_eq, Option.bind_some]
    cases h2 : inr nm 0 7
    · simp only [Bool.not_false, Bool.false_eq_true, ↓reduceIte]; exact hj
    · simp only [Bool.not_true, ↓reduceIte]
      refine Ev.step (fun k => by simp only [impl_DiskAppend.j0, Bool.false_eq_true, ↓reduceIte]; rfl) ?_
      refine Ev.bind (sizeOf_ev room l (by omega) (by omega)) ?_
      have hw : wrap64 (dsize l + (s.size : Int)) = dsize l + s.size := w64 (by omega) (by omega)
      simp only [hw]
      by_cases c : (s.size : Int) > room - dsize l
      · have c' : dsize l + (s.size : Int) > room := by omega
        simp only [c, c', ↓reduceIte, copyDisk_eq room l hl, Option.bind_some]; exact Ev.now _
      · have c' : ¬ dsize l + (s.size : Int) > room := by omega
        simp only [c, c', ↓reduceIte, impl_fileAt.f, Option.bind_some]
        unfold appF
        by_cases c2 : idxName l nm 0 < 0
        · have c3 : ¬ idxName l nm 0 ≥ 0 := by omega
          simp only [c2, c3, ↓reduceIte, impl_placed.f, show l.length ≤ 1000 by omega, Option.bind_some, empty_app]
          rw [putG_place _ l (idx_none nm l 0 (by omega) c2)]
          exact Ev.now _
        · have hb2 := idx_b nm l 0 (by omega)
          have hm := dsize_mem (rdF_mem l (idxName l nm 0) (by omega) (by omega))
          have hnm := idx_nameA nm l 0 (by omega) (by omega)
          rw [Int.sub_zero] at hnm
          have e := putG_set ⟨(rd_T95 l (idxName l nm 0)).f0, (rd_T95 l (idxName l nm 0)).f1, (rd_T95 l (idxName l nm 0)).f2 ++ s⟩ l 0 0 (diskOk_asc h) (by omega) (by rw [hnm]; omega)
          simp only [hnm, Int.sub_zero] at e
          simp only [c2, ↓reduceIte, copyDisk_eq room l hl, Option.bind_some, show idxName l nm 0 ≥ 0 by omega, show 0 ≤ idxName l nm 0 by omega, show idxName l nm 0 < (l.length : Int) by omega, show (rd_T95 l (idxName l nm 0)).f2.size + s.size ≤ 9223372036854775807 by omega, hnm, e]
          exact Ev.now _

def sum4 (l : List Int) : List Int := [sumOf l % 256, sumOf l / 256 % 256, sumOf l / 65536 % 256, sumOf l / 16777216 % 256]
def sealed (l : List Int) : List Int := putNum l.length ++ l ++ sum4 l
def sealOf (l : List Int) : List Int × Bool := if l.length > 3000 then ([], false) else (sealed l, true)
theorem sealOf_len (l : List Int) : (sealOf l).1.length ≤ 3013 := by
  unfold sealOf
  split
  · simp
  · have := (putNum_b9 (x := l.length) (by omega) (by omega)).2.1
    simp [sealed, sum4]; omega

theorem bytesOf_by (s : ByteArray) : By (bytesOf s) := by
  intro x hx
  unfold bytesOf at hx
  obtain ⟨b, _, rfl⟩ := List.mem_map.1 hx
  have := b.toNat_lt
  omega

def sealsB : List ByteArray → List Int
  | [] => []
  | s :: t => sealed (bytesOf s) ++ sealsB t
def okS (l : List ByteArray) : Bool := l.all fun s => decide (s.size ≤ 3000)
theorem sealed_len (s : ByteArray) (h : s.size ≤ 3000) : (sealed (bytesOf s)).length ≤ 3013 := by
  have := sealOf_len (bytesOf s)
  unfold sealOf at this
  rw [if_neg (by rw [bytesOf_length]; omega)] at this
  exact this
theorem sealOf_str (s : ByteArray) : sealOf (bytesOf s) = if s.size ≤ 3000 then (sealed (bytesOf s), true) else ([], false) := by
  unfold sealOf
  rw [bytesOf_length]
  by_cases h : s.size ≤ 3000
  · rw [if_neg (by omega), if_pos h]
  · rw [if_pos (by omega), if_neg h]
theorem sealsB_len : ∀ l : List ByteArray, okS l = true → (sealsB l).length ≤ 3013 * l.length
  | [], _ => by simp [sealsB]
  | s :: t, h => by
    simp only [okS, List.all_cons, Bool.and_eq_true, decide_eq_true_eq] at h
    have h1 := sealed_len s h.1
    have h2 := sealsB_len t (by simpa [okS] using h.2)
    simp only [sealsB, List.length_append, List.length_cons]; omega

theorem specSum_l (rest : List Int) : ∀ (P : List Int) (x y : Int), By rest → P.length + rest.length ≤ 140737488355328 → 0 ≤ x → x < 65521 → 0 ≤ y → y < 65521 → Ev (fun k => spec_Sum.l0 k (P ++ rest) x y (P.length : Int)) (sumGo rest x y) := by
  induction rest with
  | nil =>
    intro P x y hb hl h0 h1 h2 h3
    refine Ev.step (f := fun _ => some (65536 * y + x)) (fun k => ?_) (Ev.now _)
    simp only [spec_Sum.l0]
    rw [if_neg (by simp), w64 (x := 65536 * y) (by omega) (by omega), w64 (by omega) (by omega)]
  | cons c t ih =>
    intro P x y hb hl h0 h1 h2 h3
    have hc := hb c (by simp)
    simp only [List.length_cons] at hl
    have h := ih (P ++ [c]) ((x + c) % 65521) ((y + (x + c) % 65521) % 65521) (fun z hz => hb z (by simp [hz])) (by simp; omega) (by omega) (by omega) (by omega) (by omega)
    refine Ev.step (fun k => ?_) h
    simp only [spec_Sum.l0]
    rw [if_pos (by simp; omega), if_pos (by omega), rd_mid, w64 (x := c) (by omega) (by omega), w64 (x := x + c) (by omega) (by omega), Int.tmod_eq_emod_of_nonneg (by omega), w64 (x := y + _) (by omega) (by omega), Int.tmod_eq_emod_of_nonneg (by omega), w64 (by omega) (by omega)]
    simp
theorem specSum_ev (l : List Int) (hb : By l) (hl : l.length ≤ 140737488355328) : Ev (fun k => spec_Sum.f k l) (sumOf l) := by
  have h := specSum_l l [] 1 0 hb (by simpa using hl) (by omega) (by omega) (by omega) (by omega)
  simpa [spec_Sum.f, sumOf] using h

theorem specSeal_ev (l : List Int) (hb : By l) : Ev (fun k => spec_Seal.f k l) (sealOf l) := by
  unfold spec_Seal.f sealOf
  by_cases h : l.length > 3000
  · have h' : (l.length : Int) > 3000 := by omega
    simp only [h, h', ↓reduceIte]; exact Ev.now _
  · have h' : ¬ (l.length : Int) > 3000 := by omega
    have hp := (putNum_b9 (x := l.length) (by omega) (by omega)).2.1
    simp only [h, h', ↓reduceIte]
    refine Ev.bind (specSum_ev l hb (by omega)) ?_
    refine Ev.bind (specPutNum_ev (x := l.length) (by omega) (by omega)) ?_
    simp only [Option.bind_some, List.length_append, List.length_cons, List.length_nil, show (putNum (l.length : Int)).length + l.length < 140737488355328 by omega, show (putNum (l.length : Int)).length + l.length + (0 + 1 + 1 + 1 + 1) < 140737488355328 by omega, ↓reduceIte]
    exact Ev.now _

theorem implSum_l (rest : List Int) : ∀ (P : List Int) (x y n : Int), n = P.length + rest.length → By rest → P.length + rest.length ≤ 140737488355328 → 0 ≤ x → x < 65521 → 0 ≤ y → y < 65521 → Ev (fun k => impl_Sum.l0 k x y (P ++ rest) n (P.length : Int)) (sumGo rest x y) := by
  induction rest with
  | nil =>
    intro P x y n hn hb hl h0 h1 h2 h3
    refine Ev.step (f := fun _ => some (65536 * y + x)) (fun k => ?_) (Ev.now _)
    simp only [impl_Sum.l0]
    rw [if_neg (by simp at hn; omega), w64 (x := 65536 * y) (by omega) (by omega), w64 (by omega) (by omega)]
  | cons c t ih =>
    intro P x y n hn hb hl h0 h1 h2 h3
    have hc := hb c (by simp)
    simp only [List.length_cons] at hl hn
    have h := ih (P ++ [c]) ((x + c) % 65521) ((y + (x + c) % 65521) % 65521) n (by simp; omega) (fun z hz => hb z (by simp [hz])) (by simp; omega) (by omega) (by omega) (by omega) (by omega)
    refine Ev.step (fun k => ?_) h
    simp only [impl_Sum.l0]
    rw [if_pos (by omega), if_pos (by omega), if_pos (by simp; omega), rd_mid, w64 (x := c) (by omega) (by omega), w64 (x := x + c) (by omega) (by omega), Int.tmod_eq_emod_of_nonneg (by omega), w64 (x := y + _) (by omega) (by omega), Int.tmod_eq_emod_of_nonneg (by omega), w64 (by omega) (by omega)]
    simp
theorem implSum_ev (l : List Int) (hb : By l) (hl : l.length ≤ 140737488355328) : Ev (fun k => impl_Sum.f k l) (sumOf l) := by
  have h := implSum_l l [] 1 0 l.length (by simp) hb (by simpa using hl) (by omega) (by omega) (by omega) (by omega)
  simpa [impl_Sum.f, sumOf] using h

theorem mask255 {x : Int} (h0 : 0 ≤ x) (h1 : x ≤ 9223372036854775807) : Go.bits .and .i64 x 255 % 256 = x % 256 := by
  have e : Go.bits .and .i64 x 255 = x % 256 := and_mask 8 (by decide) h0 h1
  rw [e]; omega
theorem sumBytes_ev (l : List Int) (hb : By l) (hl : l.length ≤ 140737488355328) : Ev (fun k => impl_sumBytes.f k l) (sum4 l) := by
  unfold impl_sumBytes.f
  have h := sumOf_b l
  refine Ev.bind (implSum_ev l hb hl) ?_
  rw [mask255 (x := sumOf l) (by omega) (by omega), mask255 (x := sumOf l / 256) (by omega) (by omega), mask255 (x := sumOf l / 65536) (by omega) (by omega), mask255 (x := sumOf l / 16777216) (by omega) (by omega)]
  exact Ev.now _

theorem implSeal_ev (l : List Int) (hb : By l) : Ev (fun k => impl_Seal.f k l) (sealOf l) := by
  unfold impl_Seal.f sealOf
  by_cases h : l.length > 3000
  · have h' : (l.length : Int) > 3000 := by omega
    simp only [h, h', ↓reduceIte]; exact Ev.now _
  · have h' : ¬ (l.length : Int) > 3000 := by omega
    have hp := (putNum_b9 (x := l.length) (by omega) (by omega)).2.1
    simp only [h, h', ↓reduceIte]
    refine Ev.bind (implPutNum_ev (x := l.length) (by omega) (by omega)) ?_
    simp only [Option.bind_some, show (putNum (l.length : Int)).length + l.length < 140737488355328 by omega, ↓reduceIte]
    refine Ev.bind (sumBytes_ev l hb (by omega)) ?_
    simp only [List.length_append, sum4, List.length_cons, List.length_nil, show (putNum (l.length : Int)).length + l.length + (0 + 1 + 1 + 1 + 1) < 140737488355328 by omega, ↓reduceIte]
    exact Ev.now _

theorem rdB_mid (P : List ByteArray) (x : ByteArray) (t : List ByteArray) : rdOf ByteArray.empty (P ++ x :: t) (P.length : Int) = x := by
  unfold rdOf; simp
theorem seals_l (rest : List ByteArray) : ∀ (P : List ByteArray) (out : List Int), P.length + rest.length ≤ 100 → out.length ≤ 3013 * P.length → (∀ x ∈ rest, x.size ≤ 140737488355328) → Ev (fun k => spec_l4Seals.l0 k (P ++ rest) out (P.length : Int)) (if okS rest = true then (strOfNums (out ++ sealsB rest), true) else ((⟨#[]⟩ : ByteArray), false)) := by
  induction rest with
  | nil =>
    intro P out hl ho hx
    refine Ev.step (f := fun _ => some (strOfNums out, true)) (fun k => ?_) (by simpa [okS, sealsB] using Ev.now _)
    simp only [spec_l4Seals.l0]
    rw [if_neg (by simp)]
  | cons x t ih =>
    intro P out hl ho hx
    simp only [List.length_cons] at hl
    have hx0 := hx x (by simp)
    have el : ((P ++ x :: t).length : Int) = P.length + t.length + 1 := by simp; omega
    refine Ev.step (fun k => by simp only [spec_l4Seals.l0]; rw [if_pos (by omega), if_pos (by omega), rdB_mid, if_pos (by omega)]) ?_
    refine Ev.bind (specSeal_ev (bytesOf x) (bytesOf_by x)) ?_
    rw [sealOf_str]
    by_cases c : x.size ≤ 3000
    · have hs := sealed_len x c
      have h := ih (P ++ [x]) (out ++ sealed (bytesOf x)) (by simp; omega) (by simp; omega) (fun y hy => hx y (by simp [hy]))
      simp only [c, ↓reduceIte, show out.length + (sealed (bytesOf x)).length < 140737488355328 by omega]
      rw [w64 (by omega) (by omega)]
      have e : okS (x :: t) = okS t := by simp [okS, c]
      rw [e]
      simpa [sealsB] using h
    · have e : okS (x :: t) = false := by simp [okS, c]
      simp only [c, ↓reduceIte, Bool.false_eq_true, e]
      exact Ev.now _
theorem l4Seals_ev (l : List ByteArray) (hx : ∀ x ∈ l, x.size ≤ 140737488355328) : Ev (fun k => spec_l4Seals.f k l) (if (decide (l.length ≤ 100) && okS l) = true then (strOfNums (sealsB l), true) else ((⟨#[]⟩ : ByteArray), false)) := by
  unfold spec_l4Seals.f
  by_cases c : l.length ≤ 100
  · have h := seals_l l [] [] (by simpa using c) (by simp) hx
    simp only [show ¬ (l.length : Int) > 100 by omega, ↓reduceIte, c, decide_true, Bool.true_and]
    simpa using h
  · simp only [show (l.length : Int) > 100 by omega, ↓reduceIte, c, decide_false, Bool.false_and, Bool.false_eq_true]
    exact Ev.now _
def journalLate (room : Int) (l : List S95) (nm : Int) (q : List ByteArray) : Int × List S95 × Int :=
  if (decide (q.length ≤ 100) && okS q) = true then diskAppend room l nm (strOfNums (sealsB q)) else (0, [], 1)
theorem sealsB_size (q : List ByteArray) (h : (decide (q.length ≤ 100) && okS q) = true) : (strOfNums (sealsB q)).size ≤ 301300 := by
  simp only [Bool.and_eq_true, decide_eq_true_eq] at h
  have := sealsB_len q h.2
  rw [strOfNums_size]; omega
theorem specJournalLate_ev (room : Int) (l : List S95) (nm : Int) (q : List ByteArray) (h1 : dsize l ≤ 1152921504606846976) (hl : l.length ≤ 3518437208878) (hx : ∀ x ∈ q, x.size ≤ 140737488355328) : Ev (fun k => spec_JournalLate.f k room l nm q) (journalLate room l nm q) := by
  unfold spec_JournalLate.f journalLate
  refine Ev.bind (l4Seals_ev q hx) ?_
  cases c : (decide (q.length ≤ 100) && okS q)
  · simp only [Bool.false_eq_true, ↓reduceIte]; exact Ev.now _
  · have hs := sealsB_size q c
    simp only [↓reduceIte]
    refine Ev.bind (specDiskAppend_ev room l nm _ h1 hl (by omega)) ?_
    exact Ev.now _
theorem implLate_l (room : Int) (l : List S95) (nm : Int) (h1 : dsize l ≤ 1152921504606846976) (hd : l.length ≤ 3518437208878) (rest : List ByteArray) : ∀ (P : List ByteArray) (out : List Int), P.length + rest.length ≤ 100 → out.length ≤ 3013 * P.length → (∀ x ∈ rest, x.size ≤ 140737488355328) → Ev (fun k => impl_JournalLate.l0 k nm out (P ++ rest) ((P ++ rest).length : Int) (P.length : Int) room l) (if okS rest = true then diskAppend room l nm (strOfNums (out ++ sealsB rest)) else (0, [], 1)) := by
  induction rest with
  | nil =>
    intro P out hl ho hx
    refine Ev.step (f := fun k => (impl_DiskAppend.f k room l nm (strOfNums out)).bind fun b => some (b.1, b.2.1, b.2.2)) (fun k => ?_) ?_
    · simp only [impl_JournalLate.l0]
      rw [if_neg (by simp)]
    · simp only [okS, List.all_nil, ↓reduceIte, sealsB, List.append_nil]
      refine Ev.bind (implDiskAppend_ev room l nm _ h1 hd (by rw [strOfNums_size]; simp at hl; omega)) ?_
      exact Ev.now _
  | cons x t ih =>
    intro P out hl ho hx
    simp only [List.length_cons] at hl
    have hx0 := hx x (by simp)
    have el : ((P ++ x :: t).length : Int) = P.length + t.length + 1 := by simp; omega
    refine Ev.step (fun k => by simp only [impl_JournalLate.l0]; rw [if_pos (by omega), if_pos (by omega), if_pos (by omega), rdB_mid, if_pos (by omega)]) ?_
    refine Ev.bind (implSeal_ev (bytesOf x) (bytesOf_by x)) ?_
    rw [sealOf_str]
    by_cases c : x.size ≤ 3000
    · have hs := sealed_len x c
      have h := ih (P ++ [x]) (out ++ sealed (bytesOf x)) (by simp; omega) (by simp; omega) (fun y hy => hx y (by simp [hy]))
      simp only [c, ↓reduceIte, show out.length + (sealed (bytesOf x)).length < 140737488355328 by omega]
      rw [w64 (by omega) (by omega)]
      have e : okS (x :: t) = okS t := by simp [okS, c]
      rw [e]
      simpa [sealsB] using h
    · have e : okS (x :: t) = false := by simp [okS, c]
      simp only [c, ↓reduceIte, Bool.false_eq_true, e]
      exact Ev.now _
theorem implJournalLate_ev (room : Int) (l : List S95) (nm : Int) (q : List ByteArray) (h1 : dsize l ≤ 1152921504606846976) (hl : l.length ≤ 3518437208878) (hq : q.length ≤ 140737488355328) (hx : ∀ x ∈ q, x.size ≤ 140737488355328) : Ev (fun k => impl_JournalLate.f k room l nm q) (journalLate room l nm q) := by
  unfold impl_JournalLate.f journalLate
  refine Ev.bind (implDiskOk_ev room l h1 (by omega)) ?_
  have hj : Ev (fun k => impl_JournalLate.j0 k nm q true room l) (0, [], 1) := by
    refine Ev.step (f := fun _ => some (0, [], 1)) (fun k => ?_) (Ev.now _)
    simp only [impl_JournalLate.j0, ↓reduceIte]
  have hbad : ∀ s, (diskOk room l && inr nm 0 7) = false → diskAppend room l nm s = (0, [], 1) := fun s h => by unfold diskAppend; rw [h]; rfl
  cases h : diskOk room l
  · simp only [Bool.false_eq_true, ↓reduceIte]
    rw [hbad _ (by rw [h]; rfl)]
    simpa using hj
  · simp only [↓reduceIte, isFile_eq, Option.bind_some]
    cases h2 : inr nm 0 7
    · simp only [Bool.false_eq_true, ↓reduceIte]
      rw [hbad _ (by rw [h, h2]; rfl)]
      simpa using hj
    · simp only [↓reduceIte]
      by_cases c : q.length ≤ 100
      · have c' : decide ((q.length : Int) > 100) = false := decide_eq_false (by omega)
        have hh := implLate_l room l nm h1 hl q [] [] (by simpa using c) (by simp) hx
        simp only [c', c, decide_true, Bool.true_and]
        refine Ev.step (fun k => by simp only [impl_JournalLate.j0, Bool.false_eq_true, ↓reduceIte]; rfl) ?_
        simpa using hh
      · have c' : decide ((q.length : Int) > 100) = true := decide_eq_true (by omega)
        simp only [c', c, decide_false, Bool.false_and, Bool.false_eq_true, ↓reduceIte]
        exact hj
theorem journalLate_len (room : Int) (l : List S95) (nm : Int) (q : List ByteArray) : (journalLate room l nm q).2.1.length ≤ l.length + 1 := by
  unfold journalLate
  split
  · exact diskAppend_len _ _ _ _
  · simp

def syncF (l : List S95) (nm : Int) : S95 := ⟨nm, (rd_T95 l (idxName l nm 0)).f1 ++ (rd_T95 l (idxName l nm 0)).f2, (⟨#[]⟩ : ByteArray)⟩
def diskSync (room : Int) (l : List S95) (nm : Int) : Int × List S95 × Int :=
  if (diskOk room l && inr nm 0 7) = true then (if idxName l nm 0 < 0 then (room, l, 2) else (room, l.set (idxName l nm 0).toNat (syncF l nm), 0)) else (0, [], 1)
theorem diskSync_len (room : Int) (l : List S95) (nm : Int) : (diskSync room l nm).2.1.length ≤ l.length := by
  unfold diskSync
  split
  · split <;> simp
  · simp
theorem specDiskSync_ev (room : Int) (l : List S95) (nm : Int) (h1 : dsize l ≤ 1152921504606846976) (hl : l.length ≤ 3518437208878) : Ev (fun k => spec_DiskSync.f k room l nm) (diskSync room l nm) := by
  unfold spec_DiskSync.f diskSync
  refine Ev.bind (specDiskOk_ev room l h1 (by omega)) ?_
  have hj : Ev (fun k => spec_DiskSync.j0 k nm true room l) (0, [], 1) := by
    refine Ev.step (f := fun _ => some (0, [], 1)) (fun k => ?_) (Ev.now _)
    simp only [spec_DiskSync.j0, ↓reduceIte]
  cases h : diskOk room l
  · simp only [Bool.false_eq_true, ↓reduceIte, Bool.false_and]; exact hj
  · simp only [↓reduceIte, Bool.true_and, l3Name_eq, Option.bind_some]
    cases h2 : inr nm 0 7
    · simp only [Bool.not_false, Bool.false_eq_true, ↓reduceIte]; exact hj
    · simp only [Bool.not_true, ↓reduceIte]
      refine Ev.step (fun k => by simp only [spec_DiskSync.j0, Bool.false_eq_true, ↓reduceIte]; rfl) ?_
      refine Ev.bind (findS_ev room l nm (by omega)) ?_
      by_cases c : idxName l nm 0 < 0
      · simp only [c, ↓reduceIte, l3Copy_eq room l hl, Option.bind_some]; exact Ev.now _
      · have hb := idx_b nm l 0 (by omega)
        have hm := dsize_mem (rdF_mem l (idxName l nm 0) (by omega) (by omega))
        have k1 : 0 ≤ idxName l nm 0 := by omega
        have k2 : idxName l nm 0 < (l.length : Int) := by omega
        have k3 : ((rd_T95 l (idxName l nm 0)).f1).size + ((rd_T95 l (idxName l nm 0)).f2).size ≤ 9223372036854775807 := by omega
        simp only [c, ↓reduceIte, k1, k2, k3]
        refine Ev.bind (l3Put_ev room l (syncF l nm) hl) ?_
        have e := putG_set (syncF l nm) l 0 0 (diskOk_asc h) (by omega) k1
        rw [show (syncF l nm).f0 = nm from rfl, Int.sub_zero] at e
        rw [e]
        exact Ev.now _
theorem implDiskSync_ev (room : Int) (l : List S95) (nm : Int) (h1 : dsize l ≤ 1152921504606846976) (hl : l.length ≤ 3518437208878) : Ev (fun k => impl_DiskSync.f k room l nm) (diskSync room l nm) := by
  unfold impl_DiskSync.f diskSync
  refine Ev.bind (implDiskOk_ev room l h1 (by omega)) ?_
  have hj : Ev (fun k => impl_DiskSync.j0 k nm true room l) (0, [], 1) := by
    refine Ev.step (f := fun _ => some (0, [], 1)) (fun k => ?_) (Ev.now _)
    simp only [impl_DiskSync.j0, ↓reduceIte]
  cases h : diskOk room l
  · simp only [Bool.false_eq_true, ↓reduceIte, Bool.false_and]; exact hj
  · simp only [↓reduceIte, Bool.true_and, isFile_eq, Option.bind_some]
    cases h2 : inr nm 0 7
    · simp only [Bool.not_false, Bool.false_eq_true, ↓reduceIte]; exact hj
    · simp only [Bool.not_true, ↓reduceIte]
      refine Ev.step (fun k => by simp only [impl_DiskSync.j0, Bool.false_eq_true, ↓reduceIte, copyDisk_eq room l hl, impl_fileAt.f, Option.bind_some]; rfl) ?_
      by_cases c : idxName l nm 0 < 0
      · simp only [c, ↓reduceIte]; exact Ev.now _
      · have hb := idx_b nm l 0 (by omega)
        have hm := dsize_mem (rdF_mem l (idxName l nm 0) (by omega) (by omega))
        have k1 : 0 ≤ idxName l nm 0 := by omega
        have k2 : idxName l nm 0 < (l.length : Int) := by omega
        have k3 : ((rd_T95 l (idxName l nm 0)).f1).size + ((rd_T95 l (idxName l nm 0)).f2).size ≤ 9223372036854775807 := by omega
        simp only [c, ↓reduceIte, k1, k2, k3]
        exact Ev.now _

theorem diskAppend_size (room : Int) (l : List S95) (nm : Int) (s : ByteArray) (hl : l.length ≤ 140737488355328) : dsize (diskAppend room l nm s).2.1 ≤ 2 * dsize l + s.size := by
  have hn := dsize_nn l
  unfold diskAppend
  split
  · split
    · simp only; omega
    · have h2 := dsize_putG (appF l nm s) l
      have h3 := appF_size l nm s hl
      simp only; omega
  · simp only [dsize]; omega
theorem journalLate_size (room : Int) (l : List S95) (nm : Int) (q : List ByteArray) (hl : l.length ≤ 140737488355328) : dsize (journalLate room l nm q).2.1 ≤ 2 * dsize l + 301300 := by
  have hn := dsize_nn l
  unfold journalLate
  split
  · rename_i h
    have h1 := diskAppend_size room l nm (strOfNums (sealsB q)) hl
    have h2 := sealsB_size q h
    omega
  · simp only [dsize]; omega
def journalAdd (room : Int) (l : List S95) (nm : Int) (q : List ByteArray) : Int × List S95 × Int :=
  if (journalLate room l nm q).2.2 = 0 then diskSync (journalLate room l nm q).1 (journalLate room l nm q).2.1 nm else journalLate room l nm q
theorem journalAdd_len (room : Int) (l : List S95) (nm : Int) (q : List ByteArray) : (journalAdd room l nm q).2.1.length ≤ l.length + 1 := by
  have h1 := journalLate_len room l nm q
  unfold journalAdd
  split
  · have h2 := diskSync_len (journalLate room l nm q).1 (journalLate room l nm q).2.1 nm
    omega
  · exact h1
theorem specJournalAdd_ev (room : Int) (l : List S95) (nm : Int) (q : List ByteArray) (h1 : dsize l ≤ 140737488355328) (hl : l.length ≤ 1759218604439) (hx : ∀ x ∈ q, x.size ≤ 140737488355328) : Ev (fun k => spec_JournalAdd.f k room l nm q) (journalAdd room l nm q) := by
  unfold spec_JournalAdd.f journalAdd
  refine Ev.bind (specJournalLate_ev room l nm q (by omega) (by omega) hx) ?_
  have hs := journalLate_size room l nm q (by omega)
  have hc := journalLate_len room l nm q
  generalize journalLate room l nm q = U at *
  obtain ⟨u0, u1, u2⟩ := U
  simp only at hs hc ⊢
  by_cases h : u2 = 0
  · simp only [h, ↓reduceIte]
    refine Ev.bind (specDiskSync_ev u0 u1 nm (by omega) (by omega)) ?_
    exact Ev.now _
  · simp only [h, ↓reduceIte]; exact Ev.now _
theorem implJournalAdd_ev (room : Int) (l : List S95) (nm : Int) (q : List ByteArray) (h1 : dsize l ≤ 140737488355328) (hl : l.length ≤ 1759218604439) (hq : q.length ≤ 140737488355328) (hx : ∀ x ∈ q, x.size ≤ 140737488355328) : Ev (fun k => impl_JournalAdd.f k room l nm q) (journalAdd room l nm q) := by
  unfold impl_JournalAdd.f journalAdd
  refine Ev.bind (implJournalLate_ev room l nm q (by omega) (by omega) hq hx) ?_
  have hs := journalLate_size room l nm q (by omega)
  have hc := journalLate_len room l nm q
  generalize journalLate room l nm q = U at *
  obtain ⟨u0, u1, u2⟩ := U
  simp only at hs hc ⊢
  by_cases h : u2 = 0
  · simp only [h, ↓reduceIte]
    refine Ev.bind (implDiskSync_ev u0 u1 nm (by omega) (by omega)) ?_
    exact Ev.now _
  · simp only [h, ↓reduceIte]; exact Ev.now _

theorem strS_size (l : List Int) : (strOfNums l).size = l.length := by rw [← data_length, strOfNums_data, List.length_map]
theorem recPack_size (kind term vote pos et ek er en es : Int) (dig : ByteArray) : (recPack kind term vote pos et ek er en es dig).1.size ≤ 1000 := by
  unfold recPack
  split
  · rename_i h
    obtain ⟨k0, k1, k2, k3⟩ := recOk_k h
    have l0 := (putNum_b9 (x := kind) (by omega) (by omega)).2.1
    split
    · rename_i c
      have k1 := k1 c
      have l1 := (putNum_b9 (x := term) (by omega) (by omega)).2.1
      have l2 := (putNum_b9 (x := vote) (by omega) (by omega)).2.1
      simp only
      rw [strS_size, List.length_append, List.length_append]; omega
    · split
      · rename_i c
        have k2 := k2 c
        have l1 := (putNum_b9 (x := pos) (by omega) (by omega)).2.1
        have l2 := (putNum_b9 (x := et) (by omega) (by omega)).2.1
        have l3 := cmdPack_len ek er en es dig
        simp only
        rw [strS_size, List.length_append, List.length_append, List.length_append]; omega
      · have k3 := k3 (by omega)
        have l1 := (putNum_b9 (x := pos) (by omega) (by omega)).2.1
        simp only
        rw [strS_size, List.length_append]; omega
  · have : (⟨#[]⟩ : ByteArray).size = 0 := rfl
    simp only [this]; omega
def rp (x : S131) : ByteArray × Bool := recPack x.f0 x.f1 x.f2 x.f3 x.f4.f0 x.f4.f1.f0 x.f4.f1.f1 x.f4.f1.f2 x.f4.f1.f3 x.f4.f1.f4
def packL : List S131 → Option (List ByteArray)
  | [] => some []
  | x :: t => if (rp x).2 = true then (packL t).map ((rp x).1 :: ·) else none
theorem packL_size : ∀ (l : List S131) (q : List ByteArray), packL l = some q → q.length = l.length ∧ ∀ y ∈ q, y.size ≤ 1000
  | [], q, h => by simp only [packL, Option.some.injEq] at h; subst h; simp
  | x :: t, q, h => by
    simp only [packL] at h
    split at h
    · obtain ⟨p, hp, rfl⟩ := Option.map_eq_some_iff.1 h
      obtain ⟨h1, h2⟩ := packL_size t p hp
      refine ⟨by simp [h1], fun y hy => ?_⟩
      rcases List.mem_cons.1 hy with rfl | hy
      · exact recPack_size ..
      · exact h2 y hy
    · cases h
def packR (acc : List ByteArray) : Option (List ByteArray) → List ByteArray × Bool
  | some q => (acc ++ q, true)
  | none => ([], false)
theorem packR_cons (acc : List ByteArray) (x : S131) (t : List S131) (h : (rp x).2 = true) : packR acc (packL (x :: t)) = packR (acc ++ [(rp x).1]) (packL t) := by
  simp only [packL, h, ↓reduceIte]
  cases packL t <;> simp [packR]
theorem rdRc_mid (P : List S131) (x : S131) (t : List S131) : rd_T131 (P ++ x :: t) (P.length : Int) = x := by
  unfold rd_T131; simp
theorem implPacked_l (F : List S131) (hF : F.length ≤ 1048576) (rest : List S131) : ∀ (P : List S131) (acc : List ByteArray), F = P ++ rest → acc.length ≤ P.length → Ev (fun k => impl_packedRecs.l0 k acc F (F.length : Int) (P.length : Int)) (packR acc (packL rest)) := by
  induction rest with
  | nil =>
    intro P acc hP ha
    refine Ev.step (f := fun _ => some (acc, true)) (fun k => ?_) (by simp only [packL, packR, List.append_nil]; exact Ev.now _)
    simp only [impl_packedRecs.l0]
    rw [if_neg (by rw [hP]; simp)]
  | cons x t ih =>
    intro P acc hP ha
    have hlen : F.length = P.length + t.length + 1 := by rw [hP]; simp; omega
    have hrd : rd_T131 F (P.length : Int) = x := by rw [hP]; exact rdRc_mid P x t
    have hR : Ev (fun k => impl_RecPack.f k x.f0 x.f1 x.f2 x.f3 x.f4.f0 x.f4.f1.f0 x.f4.f1.f1 x.f4.f1.f2 x.f4.f1.f3 x.f4.f1.f4) (rp x) := implRecPack_ev ..
    refine Ev.step (fun k => by simp only [impl_packedRecs.l0]; rw [if_pos (by omega), if_pos (by omega), if_pos (by omega), hrd, w64 (by omega) (by omega)]) ?_
    refine Ev.bind hR ?_
    by_cases c : (rp x).2 = true
    · have h := ih (P ++ [x]) (acc ++ [(rp x).1]) (by rw [hP]; simp) (by simp; omega)
      rw [packR_cons acc x t c]
      simp only [c, ↓reduceIte, show acc.length < 8796093022208 by omega]
      simpa using h
    · simp only [c, ↓reduceIte, packL, packR]
      exact Ev.now _
theorem specTexts_l (F : List S131) (hF : F.length ≤ 1048576) (rest : List S131) : ∀ (P : List S131) (acc : List ByteArray), F = P ++ rest → acc.length ≤ P.length → Ev (fun k => spec_l6Texts.l0 k F acc (P.length : Int)) (packR acc (packL rest)) := by
  induction rest with
  | nil =>
    intro P acc hP ha
    refine Ev.step (f := fun _ => some (acc, true)) (fun k => ?_) (by simp only [packL, packR, List.append_nil]; exact Ev.now _)
    simp only [spec_l6Texts.l0]
    rw [if_neg (by rw [hP]; simp)]
  | cons x t ih =>
    intro P acc hP ha
    have hlen : F.length = P.length + t.length + 1 := by rw [hP]; simp; omega
    have hrd : rd_T131 F (P.length : Int) = x := by rw [hP]; exact rdRc_mid P x t
    have hR : Ev (fun k => spec_RecPack.f k x.f0 x.f1 x.f2 x.f3 x.f4.f0 x.f4.f1.f0 x.f4.f1.f1 x.f4.f1.f2 x.f4.f1.f3 x.f4.f1.f4) (rp x) := specRecPack_ev ..
    refine Ev.step (fun k => by simp only [spec_l6Texts.l0]; rw [if_pos (by omega), if_pos (by omega), hrd, w64 (by omega) (by omega)]) ?_
    refine Ev.bind hR ?_
    by_cases c : (rp x).2 = true
    · have h := ih (P ++ [x]) (acc ++ [(rp x).1]) (by rw [hP]; simp) (by simp; omega)
      rw [packR_cons acc x t c]
      simp only [c, ↓reduceIte, show acc.length < 8796093022208 by omega]
      simpa using h
    · simp only [c, ↓reduceIte, packL, packR]
      exact Ev.now _
def hardSave (room : Int) (l : List S95) (nm : Int) (r : List S131) : Int × List S95 × Int :=
  match packL r with
  | some q => journalAdd room l nm q
  | none => (0, [], 1)
theorem hardSave_len (room : Int) (l : List S95) (nm : Int) (r : List S131) : (hardSave room l nm r).2.1.length ≤ l.length + 1 := by
  unfold hardSave
  split
  · exact journalAdd_len ..
  · simp
theorem implHardSave_ev (room : Int) (l : List S95) (nm : Int) (r : List S131) (h1 : dsize l ≤ 140737488355328) (hl : l.length ≤ 1759218604439) (hr : r.length ≤ 1048576) : Ev (fun k => impl_HardSave.f k room l nm r) (hardSave room l nm r) := by
  unfold impl_HardSave.f impl_packedRecs.f hardSave
  refine Ev.bind (implPacked_l r hr r [] [] rfl (by simp)) ?_
  cases h : packL r with
  | none => simp only [packR, Bool.false_eq_true, ↓reduceIte]; exact Ev.now _
  | some q =>
    obtain ⟨q1, q2⟩ := packL_size r q h
    simp only [packR, ↓reduceIte, List.nil_append]
    refine Ev.bind (implJournalAdd_ev room l nm q h1 hl (by omega) (fun x hx => by have := q2 x hx; omega)) ?_
    exact Ev.now _
theorem specHardSave_ev (room : Int) (l : List S95) (nm : Int) (r : List S131) (h1 : dsize l ≤ 140737488355328) (hl : l.length ≤ 1759218604439) (hr : r.length ≤ 1048576) : Ev (fun k => spec_HardSave.f k room l nm r) (hardSave room l nm r) := by
  unfold spec_HardSave.f spec_l6Texts.f hardSave
  simp only [Option.bind_some]
  by_cases c : (r.length : Int) > 100
  · simp only [c, ↓reduceIte]
    refine Ev.congr (f := fun _ => some (0, [], 1)) (fun k => by simp only [Option.bind_some, Bool.false_eq_true, ↓reduceIte]) ?_
    cases h : packL r with
    | none => exact Ev.now _
    | some q =>
      obtain ⟨q1, q2⟩ := packL_size r q h
      have hj : journalAdd room l nm q = (0, [], 1) := by
        have e : journalLate room l nm q = (0, [], 1) := by
          unfold journalLate
          have : ¬ q.length ≤ 100 := by omega
          simp only [this, decide_false, Bool.false_and, Bool.false_eq_true, ↓reduceIte]
        unfold journalAdd
        rw [e, if_neg (by decide)]
      simp only [hj]; exact Ev.now _
  · simp only [c, ↓reduceIte]
    refine Ev.bind (specTexts_l r hr r [] [] rfl (by simp)) ?_
    cases h : packL r with
    | none => simp only [packR, Bool.false_eq_true, ↓reduceIte]; exact Ev.now _
    | some q =>
      obtain ⟨q1, q2⟩ := packL_size r q h
      simp only [packR, ↓reduceIte, List.nil_append]
      refine Ev.bind (specJournalAdd_ev room l nm q h1 hl (fun x hx => by have := q2 x hx; omega)) ?_
      exact Ev.now _

theorem FnExactHardSave : laws_FnExactHardSave.Pure := by
  intro room l nm q hr hm hz hq _ hqm hqz hx
  have hl : l.length ≤ 3518437208780 := by omega
  have hx' : ∀ x ∈ q, x.f4.f1.f4.size ≤ 140737488355328 := fun x h => by
    have := (hx x h).2.2.2.2.2.2.2.2.2
    omega
  obtain ⟨r, h1, h2⟩ := szDisk_ev room l hq hz 1048576 (by omega) (by omega)
  apply Ev.rounds
  unfold laws_FnExactHardSave.f
  refine Ev.bind h1 ?_
  by_cases h : r < 0
  · simp only [h, ↓reduceIte]; exact Ev.now _
  simp only [h, ↓reduceIte]
  have h2 := h2 (by omega)
  have hn := dsize_nn (l.map toF)
  obtain ⟨r2, h3, h4⟩ := szRecS_ev q r (by omega) (by omega) (by omega) hx'
  refine Ev.bind h3 ?_
  by_cases h' : r2 < 0
  · simp only [h', ↓reduceIte]; exact Ev.now _
  · have h4 := h4 (by omega)
    have hL : (l.map toF).length ≤ 1048576 := by simp; omega
    have hQ : (q.map toR).length ≤ 1048576 := by simp; omega
    have hT := toDisk_ev room l (by omega)
    have hU := toRecS_ev q (by omega)
    have hS := specHardSave_ev room (l.map toF) nm (q.map toR) (by omega) (by omega) hQ
    have hI := implHardSave_ev room (l.map toF) nm (q.map toR) (by omega) (by omega) hQ
    have hG := hardSave_len room (l.map toF) nm (q.map toR)
    generalize l.map toF = L at *
    generalize q.map toR = R at *
    generalize hardSave room L nm R = U at *
    obtain ⟨u0, u1, u2⟩ := U
    simp only at hG
    obtain ⟨M, hM⟩ := markR_ev R (1 + 3 * L.length) (by omega) (by omega) (by omega)
    simp only [h', ↓reduceIte]
    refine Ev.bind hT (Ev.bind hU (Ev.bind hS (Ev.bind hT (Ev.bind hU (Ev.bind hI ?_)))))
    refine Ev.bind (eqDisk_ev u0 u1 (by omega)) ?_
    simp only [↓reduceIte, bne_self_eq_false]
    refine Ev.step (fun k => by simp only [laws_FnExactHardSave.j0, Bool.false_eq_true, ↓reduceIte]; rfl) ?_
    refine Ev.bind hT ?_
    refine Ev.bind (eqDisk_ev room L (by omega)) ?_
    simp only [↓reduceIte]
    refine Ev.bind hU ?_
    refine Ev.bind (eqRecS_ev R (by omega)) ?_
    simp only [↓reduceIte]
    refine Ev.bind (markDisk_ev room L 1 (by omega) (by omega) (by omega)) ?_
    refine Ev.bind hM ?_
    simp only [show ¬ (1 + 3 * (L.length : Int) + 10 * (R.length : Int) < 0) by omega, ↓reduceIte]
    refine Ev.bind (eqDisk_ev u0 u1 (by omega)) ?_
    simp only [↓reduceIte, bne_self_eq_false]
    refine Ev.step (fun k => by simp only [laws_FnExactHardSave.j1, Bool.false_eq_true, ↓reduceIte]; rfl) ?_
    refine Ev.bind (markDisk_ev u0 u1 1 (by omega) (by omega) (by omega)) ?_
    refine Ev.bind (heldDisk_ev u0 u1.length 1 (by omega) (by omega) (by omega)) ?_
    simp only [show ¬ (1 + 3 * (u1.length : Int) < 0) by omega, ↓reduceIte]
    refine Ev.bind hT (Ev.bind hU (Ev.bind hI ?_))
    refine Ev.bind (eqDisk_ev u0 u1 (by omega)) ?_
    simp only [↓reduceIte, bne_self_eq_false]
    refine Ev.step (fun k => by simp only [laws_FnExactHardSave.j2, Bool.false_eq_true, ↓reduceIte]; rfl) ?_
    refine Ev.bind (heldDisk_ev u0 u1.length 1 (by omega) (by omega) (by omega)) ?_
    simp only [show ¬ (1 + 3 * (u1.length : Int) < 0) by omega, ↓reduceIte]
    exact Ev.now _

end Go.Proofs.Ytoojdlobnbakoaa.Pure
