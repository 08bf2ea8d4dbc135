/- DiskCrash of the program and of the reference give the same disk for every disk and list of numbers, in memory of its own, and the program leaves its arguments as they were; no condition. -/
import Derived.Test.YtkfoojknjmgjdaaQFnExactDiskCrashx7
namespace Go.Proofs.Ytkfoojknjmgjdaa.Pure
open Go.RowKit Go.Proofs.Ytkfoojknjmgjdaa.QFnExactDiskCrash Go.Proofs.YtkfoojknjmgjdaaW.PrintWords Go.Proofs.YtkfoojknjmgjdaaW.PrintLast
set_option linter.unusedVariables false
set_option linter.unusedSimpArgs false
theorem w64 {x : Int} (h0 : -9223372036854775808 ≤ x) (h1 : x ≤ 9223372036854775807) : wrap64 x = x := by
  unfold wrap64; omega
def By (l : List Int) : Prop := ∀ x ∈ l, 0 ≤ x ∧ x ≤ 255
theorem by_wf {l : List Int} (h : ∀ x ∈ l, (Lit.int .u8 x).wf = true) : By l := fun x hx => by
  have := h x hx
  simpa [Lit.wf, IntKind.min, IntKind.max, IntKind.bits, IntKind.signed] using this
theorem i64_wf {x : Int} (h : (Lit.int .i64 x).wf = true) : -9223372036854775808 ≤ x ∧ x ≤ 9223372036854775807 := by
  simpa [Lit.wf, IntKind.min, IntKind.max, IntKind.bits, IntKind.signed] using h
theorem rd_nat (l : List Int) (i : Nat) : rd l (i : Int) = l.getD i 0 := by simp [rd]
theorem By.at_ {l : List Int} (h : By l) (i : Int) : 0 ≤ rd l i ∧ rd l i ≤ 255 := by
  unfold rd
  rw [List.getD_eq_getElem?_getD]
  rcases Nat.lt_or_ge i.toNat l.length with hi | hi
  · rw [List.getElem?_eq_getElem hi]; exact h _ (List.getElem_mem hi)
  · rw [List.getElem?_eq_none hi]; simp
theorem wraps_i64 (n : Int) (h₀ : 0 ≤ n) (h₁ : n < 2 ^ 63) : IntKind.i64.wrap n = n := by rw [IntKind.wrap_i64]; omega
theorem and_mask (i : Nat) (hi : i ≤ 63) {x : Int} (h₀ : 0 ≤ x) (h₁ : x ≤ 9223372036854775807) : Go.bits .and .i64 x (2 ^ i - 1) = x % 2 ^ i :=
  bits_mask .i64 63 (by decide) wraps_i64 i hi x h₀ (by omega)
theorem or_join (i : Nat) {x y : Int} (hx₀ : 0 ≤ x) (hx : x % 2 ^ i = 0) (hx₁ : x ≤ 9223372036854775807) (hy₀ : 0 ≤ y) (hy : y < 2 ^ i) (hy₁ : y ≤ 9223372036854775807) : Go.bits .or .i64 x y = x + y :=
  bits_join .i64 63 (by decide) wraps_i64 i x y hx₀ hx (by omega) hy₀ hy (by omega)

def inr (a b c : Int) : Bool := decide (b ≤ a ∧ a ≤ c)
theorem ba_nil : (⟨#[]⟩ : ByteArray).toList = [] := by rw [ByteArray.toList, ByteArray.toList.loop]; rfl
theorem if_eq0 (a c : Int) (x : Bool) : (if a = c then some x else some false) = some (a == c && x) := by
  by_cases h : a = c
  · subst h; simp
  · have b : (a == c) = false := by simpa using h
    simp [h, b]
theorem if_tt (b x : Bool) : (if b = true then some x else some false) = some (b && x) := by cases b <;> rfl

theorem rdF_mid (P : List S81) (x : S81) (t : List S81) : rd_T81 (P ++ x :: t) (P.length : Int) = x := by
  unfold rd_T81; simp
theorem rdF_last (P : List S81) (y : S81) (t : List S81) : rd_T81 (P ++ [y] ++ t) (((P ++ [y]).length : Int) - 1) = y := by
  unfold rd_T81
  have : (((P ++ [y]).length : Int) - 1).toNat = P.length := by simp
  rw [this]; simp
def dsize : List S81 → Int
  | [] => 0
  | x :: t => x.f1.size + x.f2.size + dsize t
theorem dsize_nn : ∀ l : List S81, 0 ≤ dsize l
  | [] => by simp [dsize]
  | x :: t => by have := dsize_nn t; simp only [dsize]; omega
theorem dsize_mem {l : List S81} {x : S81} (h : x ∈ l) : (x.f1.size : Int) + x.f2.size ≤ dsize l := by
  induction l with
  | nil => simp at h
  | cons y t ih =>
    have hn := dsize_nn t
    simp only [dsize]
    rcases List.mem_cons.1 h with rfl | h
    · omega
    · have := ih h; omega
def asc : Int → List S81 → Bool
  | _, [] => true
  | lo, x :: t => decide (lo ≤ x.f0 ∧ x.f0 ≤ 7) && asc (x.f0 + 1) t
theorem asc_len : ∀ (l : List S81) (lo : Int), lo ≤ 8 → asc lo l = true → (l.length : Int) ≤ 8 - lo
  | [], lo, h, _ => by simp; omega
  | x :: t, lo, h, ha => by
    simp only [asc, Bool.and_eq_true, decide_eq_true_eq] at ha
    have := asc_len t (x.f0 + 1) (by omega) ha.2
    simp only [List.length_cons]; omega
def diskOk (room : Int) (l : List S81) : Bool := asc 0 l && (inr room 0 40000 && decide (dsize l ≤ room))

theorem rdG_mid (P : List S167) (x : S167) (t : List S167) : rd_T167 (P ++ x :: t) (P.length : Int) = x := by
  unfold rd_T167; simp
def toF (x : S167) : S81 := ⟨x.f0, x.f1, x.f2⟩
def szF : List S167 → Int → Int
  | [], a => a
  | x :: t, a => if a - x.f1.size < 0 then -1 else if a - x.f1.size - x.f2.size < 0 then -1 else szF t (a - x.f1.size - x.f2.size)
theorem szF_b : ∀ (l : List S167) (a : Int), 0 ≤ a → (szF l a = -1 ∨ 0 ≤ szF l a ∧ szF l a + dsize (l.map toF) = a)
  | [], a, h => by simp [szF, dsize, h]
  | x :: t, a, h => by
    have ht : dsize ((x :: t).map toF) = x.f1.size + x.f2.size + dsize (t.map toF) := rfl
    rw [ht]
    simp only [szF]
    split
    · exact .inl rfl
    · split
      · exact .inl rfl
      · have := szF_b t (a - x.f1.size - x.f2.size) (by omega)
        rcases this with h1 | h1
        · exact .inl h1
        · refine .inr ⟨h1.1, ?_⟩; omega
theorem szFile_eq (x : S167) (a : Int) (h0 : 0 ≤ a) (h1 : a ≤ 140737488355328) (hx : x.f1.size ≤ 140737488355328 ∧ x.f2.size ≤ 140737488355328) : laws_szFile.f x.f0 x.f1 x.f2 a = some (if a - x.f1.size < 0 then -1 else if a - x.f1.size - x.f2.size < 0 then -1 else a - x.f1.size - x.f2.size) := by
  unfold laws_szFile.f
  rw [w64 (x := a - x.f1.size) (by omega) (by omega), w64 (by omega) (by omega)]
  split
  · rfl
  · split <;> rfl
theorem szFileS_l (rest : List S167) : ∀ (P : List S167) (a : Int), 0 ≤ a → a ≤ 140737488355328 → P.length + rest.length ≤ 140737488355328 → (∀ x ∈ rest, x.f1.size ≤ 140737488355328 ∧ x.f2.size ≤ 140737488355328) → Ev (fun k => laws_szFileS.l0 k (P ++ rest) a (P.length : Int)) (szF rest a) := by
  induction rest with
  | nil =>
    intro P a h0 h1 hl hx
    refine Ev.step (f := fun _ => some a) (fun k => ?_) (Ev.now _)
    simp only [laws_szFileS.l0]
    rw [if_neg (by simp)]
  | cons x t ih =>
    intro P a h0 h1 hl hx
    simp only [List.length_cons] at hl
    have hx0 := hx x (by simp)
    have e := szFile_eq x a h0 h1 hx0
    have el : ((P ++ x :: t).length : Int) = P.length + t.length + 1 := by simp; omega
    by_cases c1 : a - x.f1.size < 0
    · refine Ev.step (f := fun _ => some (-1)) (fun k => ?_) ?_
      · simp only [laws_szFileS.l0]
        rw [if_pos (by omega), if_pos (by omega), rdG_mid, e, if_pos c1]
        rfl
      · simp only [szF, c1, ↓reduceIte]; exact Ev.now _
    · by_cases c2 : a - x.f1.size - x.f2.size < 0
      · refine Ev.step (f := fun _ => some (-1)) (fun k => ?_) ?_
        · simp only [laws_szFileS.l0]
          rw [if_pos (by omega), if_pos (by omega), rdG_mid, e, if_neg c1, if_pos c2]
          rfl
        · simp only [szF, c1, c2, ↓reduceIte]; exact Ev.now _
      · have h := ih (P ++ [x]) (a - x.f1.size - x.f2.size) (by omega) (by omega) (by simp; omega) (fun y hy => hx y (by simp [hy]))
        refine Ev.step (f := fun k => laws_szFileS.l0 k ((P ++ [x]) ++ t) (a - x.f1.size - x.f2.size) ((P ++ [x]).length : Int)) (fun k => ?_) ?_
        · simp only [laws_szFileS.l0]
          rw [if_pos (by omega), if_pos (by omega), rdG_mid, e, if_neg c1, if_neg c2]
          simp only [Option.bind_some]
          rw [if_neg c2, w64 (by omega) (by omega)]
          simp
        · simp only [szF, c1, c2, ↓reduceIte]; exact h
theorem szFileS_ev (l : List S167) (a : Int) (h0 : 0 ≤ a) (h1 : a ≤ 140737488355328) (hl : l.length ≤ 140737488355328) (hx : ∀ x ∈ l, x.f1.size ≤ 140737488355328 ∧ x.f2.size ≤ 140737488355328) :
    ∃ r, Ev (fun k => laws_szFileS.f k l a) r ∧ (0 ≤ r → r + l.length + dsize (l.map toF) = a) := by
  unfold laws_szFileS.f
  rw [w64 (x := a - l.length) (by omega) (by omega)]
  by_cases h : a - l.length < 0
  · refine ⟨-1, ?_, by omega⟩
    simp only [h, ↓reduceIte]; exact Ev.now _
  · refine ⟨szF l (a - l.length), ?_, ?_⟩
    · simp only [h, ↓reduceIte]
      exact szFileS_l l [] (a - l.length) (by omega) (by omega) (by simp; omega) hx
    · have := szF_b l (a - l.length) (by omega)
      omega
theorem set_fillF (l : List S167) (i d : Nat) (hi : i + (d + 1) = l.length) : ((l.take i).map toF ++ List.replicate (d + 1) z81).set i (toF (rd_T167 l (i : Int))) = (l.take (i + 1)).map toF ++ List.replicate d z81 := by
  have hlt : i < l.length := by omega
  have h1 : ((l.take i).map toF).length = i := by rw [List.length_map, List.length_take]; omega
  rw [List.set_append_right _ _ (by omega), h1, Nat.sub_self, List.replicate_succ, List.set_cons_zero, List.take_succ_eq_append_getElem hlt, List.map_append, List.append_assoc]
  unfold rd_T167
  simp [List.getD_eq_getElem?_getD, hlt]
theorem toFileS_l (l : List S167) (hl : l.length ≤ 7036874417766) (d : Nat) : ∀ i : Nat, i + d = l.length → Ev (fun k => laws_toFileS.l0 k l ((l.take i).map toF ++ List.replicate d z81) (i : Int)) (l.map toF) := by
  induction d with
  | zero =>
    intro i hi
    refine Ev.step (f := fun _ => some (l.map toF)) (fun k => ?_) (Ev.now _)
    simp only [laws_toFileS.l0]
    rw [if_neg (by omega)]
    have : l.take i = l := List.take_of_length_le (by omega)
    simp [this]
  | succ d ih =>
    intro i hi
    refine Ev.step (f := fun k => laws_toFileS.l0 k l ((l.take (i + 1)).map toF ++ List.replicate d z81) ((i + 1 : Nat) : Int)) (fun k => ?_) (ih (i + 1) (by omega))
    simp only [laws_toFileS.l0, laws_toFile.f, Option.bind_some]
    rw [if_pos (by omega), if_pos (by omega), if_pos (by simp; omega), w64 (by omega) (by omega), Int.toNat_natCast]
    rw [show (⟨(rd_T167 l (i : Int)).f0, (rd_T167 l (i : Int)).f1, (rd_T167 l (i : Int)).f2⟩ : S81) = toF (rd_T167 l (i : Int)) from rfl, set_fillF l i d hi]
    rfl
theorem toFileS_ev (l : List S167) (hl : l.length ≤ 7036874417766) : Ev (fun k => laws_toFileS.f k l) (l.map toF) := by
  refine Ev.congr (fun k => ?_) (toFileS_l l hl l.length 0 (by omega))
  unfold laws_toFileS.f
  rw [if_pos (by omega), if_pos (by simp; omega)]
  simp
theorem eqFileS_l (l : List S81) (hl : l.length ≤ 140737488355328) (d : Nat) : ∀ i : Nat, i + d = l.length → Ev (fun k => laws_eqFileS.l0 k l l (i : Int)) true := by
  induction d with
  | zero =>
    intro i hi
    refine Ev.step (f := fun _ => some true) (fun k => ?_) (Ev.now _)
    simp only [laws_eqFileS.l0]
    rw [if_neg (by omega)]
  | succ d ih =>
    intro i hi
    refine Ev.step (f := fun k => laws_eqFileS.l0 k l l ((i + 1 : Nat) : Int)) (fun k => ?_) (ih (i + 1) (by omega))
    simp only [laws_eqFileS.l0, laws_eqFile.f, ↓reduceIte, Option.bind_some]
    rw [if_pos (by omega), if_pos (by omega), if_pos (by omega), w64 (by omega) (by omega)]
    rfl
theorem eqFileS_ev (l : List S81) (hl : l.length ≤ 140737488355328) : Ev (fun k => laws_eqFileS.f k l l) true := by
  refine Ev.congr (fun k => ?_) (eqFileS_l l hl l.length 0 (by omega))
  unfold laws_eqFileS.f
  rw [if_pos rfl]; rfl

theorem szDisk_ev (room : Int) (l : List S167) (h : ∀ x ∈ l, Q167 x) (hl : l.length * 40 ≤ 140737488351232) (a : Int) (h0 : 0 ≤ a) (h1 : a ≤ 140737488355328) :
    ∃ r, Ev (fun k => laws_szDisk.f k room l a) r ∧ (0 ≤ r → r + l.length + dsize (l.map toF) = a) := by
  obtain ⟨r, hr, hb⟩ := szFileS_ev l a h0 h1 (by omega) (fun x hx => by have := h x hx; unfold Q167 at this; omega)
  by_cases c : r < 0
  · refine ⟨-1, ?_, by omega⟩
    unfold laws_szDisk.f
    refine Ev.bind hr ?_
    simp only [c, ↓reduceIte]; exact Ev.now _
  · refine ⟨r, ?_, hb⟩
    unfold laws_szDisk.f
    refine Ev.bind hr ?_
    simp only [c, ↓reduceIte]; exact Ev.now _
theorem toDisk_ev (room : Int) (l : List S167) (hl : l.length ≤ 7036874417766) : Ev (fun k => laws_toDisk.f k room l) (room, l.map toF) := by
  unfold laws_toDisk.f
  refine Ev.bind (toFileS_ev l hl) ?_
  exact Ev.now _
theorem eqDisk_ev (room : Int) (l : List S81) (hl : l.length ≤ 140737488355328) : Ev (fun k => laws_eqDisk.f k room l room l) true := by
  unfold laws_eqDisk.f
  simp only [↓reduceIte]
  refine Ev.bind (eqFileS_ev l hl) ?_
  simp only [↓reduceIte]; exact Ev.now _

def mtGo (x : Int) (a : ByteArray) : ByteArray := if h : x > 0 then mtGo (x / 10) (strOfNums [(48 + x % 10) % 256] ++ a) else (⟨#[109]⟩ : ByteArray) ++ a
termination_by x.toNat
decreasing_by omega
def mt (x : Int) : ByteArray := if x ≤ 0 then (⟨#[109, 48]⟩ : ByteArray) else mtGo x (⟨#[]⟩ : ByteArray)
theorem strOf1_size (c : Int) : (strOfNums [c]).size = 1 := rfl
theorem markText_l (m : Nat) : ∀ (x : Int) (a : ByteArray), x < 10 ^ m → a.size + m ≤ 1000000 → x ≤ 9223372036854775807 → 0 ≤ x → Ev (fun k => laws_markText.l0 k x a) (mtGo x a) := by
  induction m with
  | zero =>
    intro x a h0 h1 h2 h3
    have h0 : x < 1 := by simpa using h0
    refine Ev.step (f := fun _ => some (mtGo x a)) (fun k => ?_) (Ev.now _)
    simp only [laws_markText.l0]
    rw [if_neg (by omega), if_pos (by omega)]
    rw [mtGo, dif_neg (by omega)]
  | succ m ih =>
    intro x a h0 h1 h2 h3
    by_cases c : x > 0
    · have e : mtGo x a = mtGo (x / 10) (strOfNums [(48 + x % 10) % 256] ++ a) := by rw [mtGo]; simp [c]
      have es : (strOfNums [(48 + x % 10) % 256] ++ a).size = 1 + a.size := by rw [ByteArray.size_append, strOf1_size]
      rw [Int.pow_succ] at h0
      have h := ih (x / 10) (strOfNums [(48 + x % 10) % 256] ++ a) (by omega) (by omega) (by omega) (by omega)
      rw [e]
      refine Ev.step (fun k => ?_) h
      simp only [laws_markText.l0]
      rw [if_pos c, Int.tmod_eq_emod_of_nonneg h3, Int.tdiv_eq_ediv_of_nonneg h3, w64 (x := 48 + x % 10) (by omega) (by omega), w64 (x := x / 10) (by omega) (by omega)]
      simp only [Option.bind_some]
      rw [strOf1_size, if_pos (by omega)]
    · refine Ev.step (f := fun _ => some (mtGo x a)) (fun k => ?_) (Ev.now _)
      simp only [laws_markText.l0]
      rw [if_neg c, if_pos (by omega)]
      rw [mtGo, dif_neg c]
theorem markText_ev (x : Int) (h : x ≤ 9223372036854775807) : Ev (fun k => laws_markText.f k x) (mt x) := by
  unfold laws_markText.f mt
  by_cases c : x ≤ 0
  · simp only [c, ↓reduceIte]; exact Ev.now _
  · simp only [c, ↓reduceIte]
    exact markText_l 19 x _ (by omega) (by decide) h (by omega)

def marksF : Nat → Int → List S81
  | 0, _ => []
  | n + 1, q => ⟨q, mt (q + 1), mt (q + 2)⟩ :: marksF n (q + 3)
theorem marksF_length : ∀ (n : Nat) (q : Int), (marksF n q).length = n
  | 0, _ => rfl
  | n + 1, q => by rw [marksF, List.length_cons, marksF_length n]
theorem setF_mid (P : List S81) (x y : S81) (t : List S81) : (P ++ x :: t).set (P.length : Int).toNat y = P ++ y :: t := by simp
theorem markF_l (rest : List S81) : ∀ (P : List S81) (q : Int), P.length + rest.length ≤ 140737488355328 → 0 ≤ q → q + 3 * rest.length ≤ 2814749767106560 →
    Ev (fun k => laws_markFileS.l0 k (P ++ rest) q (P.length : Int)) (q + 3 * rest.length, P ++ marksF rest.length q) := by
  induction rest with
  | nil =>
    intro P q hl h0 h1
    refine Ev.step (f := fun _ => some (q, P)) (fun k => ?_) ?_
    · simp only [laws_markFileS.l0]
      rw [if_neg (by simp)]; simp
    · simp [marksF]; exact Ev.now _
  | cons x t ih =>
    intro P q hl h0 h1
    simp only [List.length_cons] at hl h1
    have el : ((P ++ x :: t).length : Int) = P.length + t.length + 1 := by simp; omega
    have h := ih (P ++ [⟨q, mt (q + 1), mt (q + 2)⟩]) (q + 3) (by simp; omega) (by omega) (by omega)
    refine Ev.step (fun k => by
      simp only [laws_markFileS.l0]
      rw [if_pos (by omega), if_pos (by omega), rdF_mid, setF_mid, w64 (x := q + 1) (by omega) (by omega)]) ?_
    simp only [Option.bind_some]
    refine Ev.bind (markText_ev (q + 1) (by omega)) ?_
    rw [w64 (x := q + 1 + 1) (by omega) (by omega), rdF_mid, setF_mid]
    simp only [Option.bind_some]
    refine Ev.bind (markText_ev (q + 1 + 1) (by omega)) ?_
    rw [rdF_mid, setF_mid, w64 (x := q + 1 + 1 + 1) (by omega) (by omega), w64 (x := (P.length : Int) + 1) (by omega) (by omega)]
    have e1 : q + 1 + 1 = q + 2 := by omega
    have e2 : q + 1 + 1 + 1 = q + 3 := by omega
    have e3 : (q + 3 + 3 * (t.length : Int), P ++ [(⟨q, mt (q + 1), mt (q + 2)⟩ : S81)] ++ marksF t.length (q + 3)) = (q + 3 * ((x :: t).length : Int), P ++ marksF (x :: t).length q) := by
      simp [marksF]; omega
    rw [← e3]
    rw [e2, e1]
    refine Ev.congr (fun k => ?_) h
    simp
theorem markF_ev (l : List S81) (q : Int) (hl : l.length ≤ 140737488355328) (h0 : 0 ≤ q) (h1 : q ≤ 140737488355328) : Ev (fun k => laws_markFileS.f k l q) (q + 3 * l.length, marksF l.length q) := by
  have h := markF_l l [] q (by simpa using hl) h0 (by omega)
  simpa [laws_markFileS.f] using h

theorem markDisk_ev (room : Int) (l : List S81) (q : Int) (hl : l.length ≤ 140737488355328) (h0 : 0 ≤ q) (h1 : q ≤ 140737488355328) : Ev (fun k => laws_markDisk.f k room l q) (q + 3 * l.length, marksF l.length q) := by
  unfold laws_markDisk.f
  refine Ev.bind (markF_ev l q hl h0 h1) ?_
  exact Ev.now _

theorem heldF_l (n : Nat) : ∀ (P : List S81) (q : Int), P.length + n ≤ 140737488355328 → 0 ≤ q → q + 3 * n ≤ 2814749767106560 →
    Ev (fun k => laws_heldFileS.l0 k (P ++ marksF n q) q (P.length : Int)) (q + 3 * n) := by
  induction n with
  | zero =>
    intro P q hl h0 h1
    refine Ev.step (f := fun _ => some q) (fun k => ?_) ?_
    · simp only [laws_heldFileS.l0]
      rw [if_neg (by simp [marksF])]
    · simp; exact Ev.now _
  | succ n ih =>
    intro P q hl h0 h1
    have h := ih (P ++ [⟨q, mt (q + 1), mt (q + 2)⟩]) (q + 3) (by simp; omega) (by omega) (by omega)
    have e : P ++ marksF (n + 1) q = P ++ [(⟨q, mt (q + 1), mt (q + 2)⟩ : S81)] ++ marksF n (q + 3) := by simp [marksF]
    have el : ((P ++ marksF (n + 1) q).length : Int) = P.length + n + 1 := by rw [List.length_append, marksF_length]; omega
    have er : rd_T81 (P ++ marksF (n + 1) q) (P.length : Int) = ⟨q, mt (q + 1), mt (q + 2)⟩ := rdF_mid P _ _
    refine Ev.step (fun k => by
      simp only [laws_heldFileS.l0]
      rw [if_pos (by omega), if_pos (by omega), er, w64 (x := q + 1) (by omega) (by omega)]) ?_
    simp only [↓reduceIte]
    refine Ev.bind (markText_ev (q + 1) (by omega)) ?_
    simp only [↓reduceIte]
    rw [w64 (x := q + 1 + 1) (by omega) (by omega), show q + 1 + 1 = q + 2 by omega]
    refine Ev.bind (markText_ev (q + 2) (by omega)) ?_
    simp only [↓reduceIte]
    rw [w64 (x := q + 2 + 1) (by omega) (by omega), w64 (x := (P.length : Int) + 1) (by omega) (by omega), show q + 2 + 1 = q + 3 by omega]
    have e2 : (q + 3 + 3 * (n : Int)) = q + 3 * ((n + 1 : Nat) : Int) := by omega
    rw [← e2, e]
    refine Ev.congr (fun k => ?_) h
    simp
theorem heldF_ev (n : Nat) (q : Int) (hl : n ≤ 140737488355328) (h0 : 0 ≤ q) (h1 : q ≤ 140737488355328) : Ev (fun k => laws_heldFileS.f k (marksF n q) q) (q + 3 * n) := by
  have h := heldF_l n [] q (by simpa using hl) h0 (by omega)
  simpa [laws_heldFileS.f] using h

theorem heldDisk_ev (room : Int) (n : Nat) (q : Int) (hl : n ≤ 140737488355328) (h0 : 0 ≤ q) (h1 : q ≤ 140737488355328) : Ev (fun k => laws_heldDisk.f k room (marksF n q) q) (q + 3 * n) := by
  unfold laws_heldDisk.f
  refine Ev.bind (heldF_ev n q hl h0 h1) ?_
  simp only [show ¬ q + 3 * (n : Int) < 0 by omega, ↓reduceIte]
  exact Ev.now _

theorem set_fillI (l : List Int) (i d : Nat) (hi : i + (d + 1) = l.length) : (l.take i ++ List.replicate (d + 1) 0).set i (l.getD i 0) = l.take (i + 1) ++ List.replicate d 0 := by
  have hlt : i < l.length := by omega
  have h1 : (l.take i).length = i := by rw [List.length_take]; omega
  rw [List.set_append_right _ _ (by omega), h1, Nat.sub_self, List.replicate_succ, List.set_cons_zero, List.take_succ_eq_append_getElem hlt, List.append_assoc]
  simp [List.getD_eq_getElem?_getD, hlt]
theorem toIntS_l (l : List Int) (hl : l.length ≤ 35184372088832) (d : Nat) : ∀ i : Nat, i + d = l.length → Ev (fun k => laws_toIntS.l0 k l (l.take i ++ List.replicate d 0) (i : Int)) l := by
  induction d with
  | zero =>
    intro i hi
    refine Ev.step (f := fun _ => some l) (fun k => ?_) (Ev.now _)
    simp only [laws_toIntS.l0]
    rw [if_neg (by omega)]
    have : l.take i = l := List.take_of_length_le (by omega)
    simp [this]
  | succ d ih =>
    intro i hi
    refine Ev.step (f := fun k => laws_toIntS.l0 k l (l.take (i + 1) ++ List.replicate d 0) ((i + 1 : Nat) : Int)) (fun k => ?_) (ih (i + 1) (by omega))
    simp only [laws_toIntS.l0]
    rw [if_pos (by omega), if_pos (by omega), if_pos (by simp; omega), w64 (by omega) (by omega), rd_nat, Int.toNat_natCast, set_fillI l i d hi]
    rfl
theorem toIntS_ev (l : List Int) (hl : l.length ≤ 35184372088832) : Ev (fun k => laws_toIntS.f k l) l := by
  refine Ev.congr (fun k => ?_) (toIntS_l l hl l.length 0 (by omega))
  unfold laws_toIntS.f
  rw [if_pos (by omega), if_pos (by simp; omega)]
  simp

theorem eqIntS_l (l : List Int) (hl : l.length ≤ 140737488355328) (d : Nat) : ∀ i : Nat, i + d = l.length → Ev (fun k => laws_eqIntS.l0 k l l (i : Int)) true := by
  induction d with
  | zero =>
    intro i hi
    refine Ev.step (f := fun _ => some true) (fun k => ?_) (Ev.now _)
    simp only [laws_eqIntS.l0]
    rw [if_neg (by omega)]
  | succ d ih =>
    intro i hi
    refine Ev.step (f := fun k => laws_eqIntS.l0 k l l ((i + 1 : Nat) : Int)) (fun k => ?_) (ih (i + 1) (by omega))
    simp only [laws_eqIntS.l0]
    rw [if_pos (by omega), if_pos (by omega), if_pos (by omega), if_pos trivial, w64 (by omega) (by omega)]
    rfl
theorem eqIntS_ev (l : List Int) (hl : l.length ≤ 140737488355328) : Ev (fun k => laws_eqIntS.f k l l) true := by
  refine Ev.congr (fun k => ?_) (eqIntS_l l hl l.length 0 (by omega))
  unfold laws_eqIntS.f
  rw [if_pos rfl]; rfl

def marksI : Nat → Int → List Int
  | 0, _ => []
  | n + 1, q => q :: marksI n (q + 1)
theorem markI_l (rest : List Int) : ∀ (P : List Int) (q : Int), P.length + rest.length ≤ 140737488355328 → 0 ≤ q → q + rest.length ≤ 281474976710656 →
    Ev (fun k => laws_markIntS.l0 k (P ++ rest) q (P.length : Int)) (q + rest.length, P ++ marksI rest.length q) := by
  induction rest with
  | nil =>
    intro P q hl h0 h1
    refine Ev.step (f := fun _ => some (q, P)) (fun k => ?_) ?_
    · simp only [laws_markIntS.l0]
      rw [if_neg (by simp)]; simp
    · simp [marksI]; exact Ev.now _
  | cons a rest ih =>
    intro P q hl h0 h1
    simp only [List.length_cons] at hl h1
    have h := ih (P ++ [q]) (q + 1) (by simp; omega) (by omega) (by omega)
    refine Ev.step (f := fun k => laws_markIntS.l0 k ((P ++ [q]) ++ rest) (q + 1) ((P ++ [q]).length : Int)) (fun k => ?_) ?_
    · simp only [laws_markIntS.l0]
      rw [if_pos (by simp; omega), if_pos (by omega), w64 (by omega) (by omega), w64 (by omega) (by omega), Int.toNat_natCast, List.set_append_right _ _ (Nat.le_refl _), Nat.sub_self, List.set_cons_zero]
      simp
    · have e : (q + 1 + (rest.length : Int), P ++ [q] ++ marksI rest.length (q + 1)) = (q + ((a :: rest).length : Int), P ++ marksI (a :: rest).length q) := by
        simp [marksI]; omega
      rw [← e]; exact h
theorem markI_ev (l : List Int) (q : Int) (hl : l.length ≤ 140737488355328) (h0 : 0 ≤ q) (h1 : q ≤ 140737488355328) : Ev (fun k => laws_markIntS.f k l q) (q + l.length, marksI l.length q) := by
  have h := markI_l l [] q (by simpa using hl) h0 (by omega)
  simpa [laws_markIntS.f] using h

theorem l3Size_l (rest : List S81) : ∀ (P : List S81) (n room : Int), 0 ≤ n → n + dsize rest ≤ 1152921504606846976 → P.length + rest.length ≤ 140737488355328 → Ev (fun k => spec_l3Size.l0 k n (P.length : Int) room (P ++ rest)) (n + dsize rest) := by
  induction rest with
  | nil =>
    intro P n room h0 h1 hl
    refine Ev.step (f := fun _ => some n) (fun k => ?_) ?_
    · simp only [spec_l3Size.l0]
      rw [if_neg (by simp)]
    · simp only [dsize, Int.add_zero]; exact Ev.now _
  | cons x t ih =>
    intro P n room h0 h1 hl
    simp only [List.length_cons] at hl
    have hn := dsize_nn t
    simp only [dsize] at h1
    have h := ih (P ++ [x]) (n + x.f1.size + x.f2.size) room (by omega) (by omega) (by simp; omega)
    have e : n + dsize (x :: t) = n + x.f1.size + x.f2.size + dsize t := by simp only [dsize]; omega
    rw [e]
    refine Ev.step (fun k => ?_) h
    simp only [spec_l3Size.l0]
    rw [if_pos (by simp; omega), if_pos (by omega), rdF_mid, w64 (x := n + x.f1.size) (by omega) (by omega), w64 (by omega) (by omega), w64 (by omega) (by omega)]
    simp
theorem l3Size_ev (room : Int) (l : List S81) (h1 : dsize l ≤ 1152921504606846976) (hl : l.length ≤ 140737488355328) : Ev (fun k => spec_l3Size.f k room l) (dsize l) := by
  have h := l3Size_l l [] 0 room (by omega) (by omega) (by simpa using hl)
  simpa [spec_l3Size.f] using h

theorem l1In_eq (a b c : Int) : spec_l1In.f a b c = some (inr a b c) := by
  unfold spec_l1In.f inr
  by_cases h : a ≥ b
  · rw [if_pos h]; congr 1; by_cases h2 : a ≤ c <;> simp [h, h2]
  · rw [if_neg h]; congr 1; simp; omega

theorem l3Name_eq (a : Int) : spec_l3Name.f a = some (inr a 0 7) := by unfold spec_l3Name.f; rw [l1In_eq]; rfl
theorem specDiskOk_l (rest : List S81) : ∀ (P : List S81) (lo room : Int), 0 ≤ lo → (P = [] ∧ lo = 0 ∨ ∃ P' y, P = P' ++ [y] ∧ lo = y.f0 + 1) → P.length + rest.length ≤ 140737488355328 → Ev (fun k => spec_DiskOk.l0 k (P.length : Int) room (P ++ rest)) (asc lo rest) := by
  induction rest with
  | nil =>
    intro P lo room h0 hP hl
    refine Ev.step (f := fun _ => some true) (fun k => ?_) (Ev.now _)
    simp only [spec_DiskOk.l0]
    rw [if_neg (by simp)]
  | cons x t ih =>
    intro P lo room h0 hP hl
    simp only [List.length_cons] at hl
    have el : ((P ++ x :: t).length : Int) = P.length + t.length + 1 := by simp; omega
    have hw1 : wrap64 ((P.length : Int) + 1) = ((P ++ [x]).length : Int) := by rw [w64 (by omega) (by omega)]; simp
    by_cases c1 : 0 ≤ x.f0 ∧ x.f0 ≤ 7
    · have i1 : inr x.f0 0 7 = true := decide_eq_true c1
      by_cases c2 : lo ≤ x.f0
      · have h := ih (P ++ [x]) (x.f0 + 1) room (by omega) (.inr ⟨P, x, rfl, rfl⟩) (by simp; omega)
        refine Ev.step (f := fun k => spec_DiskOk.l0 k ((P ++ [x]).length : Int) room ((P ++ [x]) ++ t)) (fun k => ?_) ?_
        · simp only [spec_DiskOk.l0, l3Name_eq, Option.bind_some]
          rw [if_pos (by omega), if_pos (by omega), rdF_mid, i1, if_pos rfl]
          have ea : P ++ x :: t = P ++ [x] ++ t := by simp
          rcases hP with ⟨rfl, rfl⟩ | ⟨P', y, rfl, rfl⟩
          · rw [if_neg (by simp), hw1, ea]
          · have ep : ((P' ++ [y]).length : Int) = P'.length + 1 := by simp
            rw [if_pos (by omega), w64 (x := ((P' ++ [y]).length : Int) - 1) (by omega) (by omega), if_pos (by omega), if_pos (by omega), show P' ++ [y] ++ x :: t = P' ++ [y] ++ (x :: t) from rfl, rdF_last, if_neg (by omega), hw1, ea]
        · simp only [asc, show lo ≤ x.f0 ∧ x.f0 ≤ 7 from ⟨c2, c1.2⟩, decide_true, Bool.true_and]; exact h
      · refine Ev.step (f := fun _ => some false) (fun k => ?_) ?_
        · simp only [spec_DiskOk.l0, l3Name_eq, Option.bind_some]
          rw [if_pos (by omega), if_pos (by omega), rdF_mid, i1, if_pos rfl]
          rcases hP with ⟨rfl, rfl⟩ | ⟨P', y, rfl, rfl⟩
          · omega
          · have ep : ((P' ++ [y]).length : Int) = P'.length + 1 := by simp
            rw [if_pos (by omega), w64 (x := ((P' ++ [y]).length : Int) - 1) (by omega) (by omega), if_pos (by omega), if_pos (by omega), rdF_last, if_pos (by omega)]
        · have : asc lo (x :: t) = false := by simp [asc, c2]
          rw [this]; exact Ev.now _
    · have i1 : inr x.f0 0 7 = false := decide_eq_false c1
      refine Ev.step (f := fun _ => some false) (fun k => ?_) ?_
      · simp only [spec_DiskOk.l0, l3Name_eq, Option.bind_some]
        rw [if_pos (by omega), if_pos (by omega), rdF_mid, i1, if_neg (by simp)]
      · have : asc lo (x :: t) = false := by
          have : ¬ (lo ≤ x.f0 ∧ x.f0 ≤ 7) := by omega
          simp only [asc, this, decide_false, Bool.false_and]
        rw [this]; exact Ev.now _
theorem specDiskOk_ev (room : Int) (l : List S81) (h1 : dsize l ≤ 1152921504606846976) (hl : l.length ≤ 140737488355328) : Ev (fun k => spec_DiskOk.f k room l) (diskOk room l) := by
  unfold spec_DiskOk.f diskOk
  simp only [l1In_eq, Option.bind_some]
  have hj : Ev (fun k => spec_DiskOk.j0 k true room l) false := by
    refine Ev.step (f := fun _ => some false) (fun k => ?_) (Ev.now _)
    simp only [spec_DiskOk.j0, ↓reduceIte]
  cases h : inr room 0 40000
  · simp only [Bool.false_eq_true, ↓reduceIte, Bool.false_and, Bool.and_false]; exact hj
  · simp only [↓reduceIte, Bool.true_and]
    by_cases h8 : (l.length : Int) > 8
    · have : asc 0 l = false := by
        cases ha : asc 0 l
        · rfl
        · have := asc_len l 0 (by omega) ha; omega
      simp only [h8, ↓reduceIte, this, Bool.false_and]; exact hj
    · simp only [h8, ↓reduceIte]
      refine Ev.bind (l3Size_ev room l h1 hl) ?_
      by_cases hd : dsize l > room
      · simp only [hd, decide_true, show ¬ dsize l ≤ room by omega, decide_false, Bool.and_false]; exact hj
      · simp only [hd, decide_false, show dsize l ≤ room by omega, decide_true, Bool.and_true]
        refine Ev.step (f := fun k => spec_DiskOk.l0 k 0 room l) (fun k => ?_) ?_
        · simp only [spec_DiskOk.j0]; rfl
        · exact specDiskOk_l l [] 0 room (by omega) (.inl ⟨rfl, rfl⟩) (by simpa using hl)

theorem sizeOf_l (rest : List S81) : ∀ (P : List S81) (n m : Int), m = P.length + rest.length → 0 ≤ n → n + dsize rest ≤ 1152921504606846976 → P.length + rest.length ≤ 140737488355328 → Ev (fun k => impl_sizeOf.l0 k n (P ++ rest) m (P.length : Int)) (n + dsize rest) := by
  induction rest with
  | nil =>
    intro P n m hm h0 h1 hl
    refine Ev.step (f := fun _ => some n) (fun k => ?_) ?_
    · simp only [impl_sizeOf.l0]
      rw [if_neg (by simp at hm; omega)]
    · simp only [dsize, Int.add_zero]; exact Ev.now _
  | cons x t ih =>
    intro P n m hm h0 h1 hl
    simp only [List.length_cons] at hl hm
    have hn := dsize_nn t
    simp only [dsize] at h1
    have h := ih (P ++ [x]) (n + x.f1.size + x.f2.size) m (by simp; omega) (by omega) (by omega) (by simp; omega)
    have e : n + dsize (x :: t) = n + x.f1.size + x.f2.size + dsize t := by simp only [dsize]; omega
    rw [e]
    refine Ev.step (fun k => ?_) h
    simp only [impl_sizeOf.l0]
    rw [if_pos (by omega), if_pos (by omega), if_pos (by simp; omega), rdF_mid, w64 (x := (x.f1.size : Int) + x.f2.size) (by omega) (by omega), w64 (by omega) (by omega), w64 (by omega) (by omega)]
    simp [Int.add_assoc]
theorem sizeOf_ev (room : Int) (l : List S81) (h1 : dsize l ≤ 1152921504606846976) (hl : l.length ≤ 140737488355328) : Ev (fun k => impl_sizeOf.f k room l) (dsize l) := by
  have h := sizeOf_l l [] 0 l.length (by simp) (by omega) (by omega) (by simpa using hl)
  simpa [impl_sizeOf.f] using h

theorem within_eq (a b c : Int) : impl_within.f a b c = some (inr a b c) := by
  unfold impl_within.f inr
  by_cases h : a ≥ b
  · rw [if_pos h]; congr 1; by_cases h2 : a ≤ c <;> simp [h, h2]
  · rw [if_neg h]; congr 1; simp; omega

theorem isFile_eq (a : Int) : impl_isFile.f a = some (inr a 0 7) := by unfold impl_isFile.f; rw [within_eq]; rfl
theorem implDiskOk_l (F : List S81) (hd : dsize F ≤ 1152921504606846976) (hF : F.length ≤ 140737488355328) (rest : List S81) : ∀ (P : List S81) (lo room : Int), F = P ++ rest → 0 ≤ lo → (P = [] ∧ lo = 0 ∨ ∃ P' y, P = P' ++ [y] ∧ lo = y.f0 + 1) → Ev (fun k => impl_DiskOk.l0 k F (F.length : Int) (P.length : Int) room F) (asc lo rest && (inr room 0 40000 && decide (dsize F ≤ room))) := by
  induction rest with
  | nil =>
    intro P lo room hPF h0 hP
    refine Ev.step (f := fun k => (impl_within.f room 0 40000).bind fun t => if t = true then (impl_sizeOf.f k room F).bind fun t2 => some (decide (t2 ≤ room)) else some false) (fun k => ?_) ?_
    · simp only [impl_DiskOk.l0]
      rw [if_neg (by rw [hPF]; simp)]
    · simp only [within_eq, Option.bind_some, asc, Bool.true_and]
      cases inr room 0 40000
      · simp only [Bool.false_eq_true, ↓reduceIte, Bool.false_and]; exact Ev.now _
      · simp only [↓reduceIte, Bool.true_and]
        refine Ev.bind (sizeOf_ev room F hd hF) ?_
        exact Ev.now _
  | cons x t ih =>
    intro P lo room hPF h0 hP
    have el : (F.length : Int) = P.length + t.length + 1 := by rw [hPF]; simp; omega
    have hr : rd_T81 F (P.length : Int) = x := by rw [hPF]; exact rdF_mid P x t
    have hw1 : wrap64 ((P.length : Int) + 1) = ((P ++ [x]).length : Int) := by rw [w64 (by omega) (by omega)]; simp
    by_cases c1 : 0 ≤ x.f0 ∧ x.f0 ≤ 7
    · have i1 : inr x.f0 0 7 = true := decide_eq_true c1
      by_cases c2 : lo ≤ x.f0
      · have h := ih (P ++ [x]) (x.f0 + 1) room (by rw [hPF]; simp) (by omega) (.inr ⟨P, x, rfl, rfl⟩)
        refine Ev.step (f := fun k => impl_DiskOk.l0 k F (F.length : Int) ((P ++ [x]).length : Int) room F) (fun k => ?_) ?_
        · simp only [impl_DiskOk.l0, isFile_eq, Option.bind_some]
          rw [if_pos (by omega), if_pos (by omega), if_pos (by omega), hr, i1, if_pos rfl]
          rcases hP with ⟨rfl, rfl⟩ | ⟨P', y, rfl, rfl⟩
          · rw [if_neg (by simp), hw1]
          · have hy : rd_T81 F (((P' ++ [y]).length : Int) - 1) = y := by rw [hPF]; exact rdF_last P' y (x :: t)
            have ep : ((P' ++ [y]).length : Int) = P'.length + 1 := by simp
            rw [if_pos (by omega), w64 (x := ((P' ++ [y]).length : Int) - 1) (by omega) (by omega), if_pos (by omega), if_pos (by omega), hy, if_neg (by omega), hw1]
        · simp only [asc, show lo ≤ x.f0 ∧ x.f0 ≤ 7 from ⟨c2, c1.2⟩, decide_true, Bool.true_and]; exact h
      · refine Ev.step (f := fun _ => some false) (fun k => ?_) ?_
        · simp only [impl_DiskOk.l0, isFile_eq, Option.bind_some]
          rw [if_pos (by omega), if_pos (by omega), if_pos (by omega), hr, i1, if_pos rfl]
          rcases hP with ⟨rfl, rfl⟩ | ⟨P', y, rfl, rfl⟩
          · omega
          · have hy : rd_T81 F (((P' ++ [y]).length : Int) - 1) = y := by rw [hPF]; exact rdF_last P' y (x :: t)
            have ep : ((P' ++ [y]).length : Int) = P'.length + 1 := by simp
            rw [if_pos (by omega), w64 (x := ((P' ++ [y]).length : Int) - 1) (by omega) (by omega), if_pos (by omega), if_pos (by omega), hy, if_pos (by omega)]
        · have : asc lo (x :: t) = false := by simp [asc, c2]
          rw [this]; exact Ev.now _
    · have i1 : inr x.f0 0 7 = false := decide_eq_false c1
      refine Ev.step (f := fun _ => some false) (fun k => ?_) ?_
      · simp only [impl_DiskOk.l0, isFile_eq, Option.bind_some]
        rw [if_pos (by omega), if_pos (by omega), if_pos (by omega), hr, i1, if_neg (by simp)]
      · have : asc lo (x :: t) = false := by
          have : ¬ (lo ≤ x.f0 ∧ x.f0 ≤ 7) := by omega
          simp only [asc, this, decide_false, Bool.false_and]
        rw [this]; exact Ev.now _
theorem implDiskOk_ev (room : Int) (l : List S81) (h1 : dsize l ≤ 1152921504606846976) (hl : l.length ≤ 140737488355328) : Ev (fun k => impl_DiskOk.f k room l) (diskOk room l) :=
  implDiskOk_l l h1 hl l [] 0 room rfl (by omega) (.inl ⟨rfl, rfl⟩)

theorem copyDisk_eq (room : Int) (l : List S81) (hl : l.length ≤ 3518437208878) : impl_copyDisk.f room l = some (room, l) := by
  unfold impl_copyDisk.f
  simp only [Option.bind_some, List.length_nil, List.nil_append]
  rw [if_pos (by omega)]
theorem l1Min_eq (a b : Int) : spec_l1Min.f a b = some (mn a b) := by
  unfold spec_l1Min.f mn
  by_cases h : a < b
  · rw [if_pos h, if_neg (by omega)]
  · rw [if_neg h]
    by_cases h2 : b < a
    · rw [if_pos h2]
    · rw [if_neg h2]; exact congrArg some (by omega)
theorem l1Max_eq (a b : Int) : spec_l1Max.f a b = some (mx a b) := by
  unfold spec_l1Max.f mx
  by_cases h : a > b
  · rw [if_pos h, if_neg (by omega)]
  · rw [if_neg h]
    by_cases h2 : a < b
    · rw [if_pos h2]
    · rw [if_neg h2]; exact congrArg some (by omega)
theorem mnmx_b (a b : Int) (h : 0 ≤ b) : 0 ≤ mn (mx a 0) b ∧ mn (mx a 0) b ≤ b := by
  unfold mn mx; split <;> split <;> omega
def crashK (ks : List Int) (i : Int) (x : S81) : Nat := if i < (ks.length : Int) then (mn (mx (rd ks i) 0) (x.f2.size : Int)).toNat else 0
def crashF (ks : List Int) (i : Int) (x : S81) : S81 := ⟨x.f0, x.f1 ++ x.f2.extract 0 (crashK ks i x), (⟨#[]⟩ : ByteArray)⟩
def crash (ks : List Int) : List S81 → Int → List S81
  | [], _ => []
  | x :: t, i => crashF ks i x :: crash ks t (i + 1)
theorem crash_length (ks : List Int) : ∀ (l : List S81) (i : Int), (crash ks l i).length = l.length
  | [], _ => rfl
  | x :: t, i => by rw [crash, List.length_cons, List.length_cons, crash_length ks t]
theorem ext_le (s : ByteArray) (n : Nat) : (s.extract 0 n).size ≤ s.size := by rw [ByteArray.size_extract]; omega
theorem specCrash_l (ks : List Int) (room rm : Int) (rest : List S81) : ∀ (P out : List S81), (∀ x ∈ rest, (x.f1.size : Int) + x.f2.size ≤ 1152921504606846976) → P.length + rest.length ≤ 140737488355328 → out.length + rest.length ≤ 3518437208878 → Ev (fun k => spec_DiskCrash.l0 k ks (P.length : Int) room (P ++ rest) rm out) (rm, out ++ crash ks rest (P.length : Int)) := by
  induction rest with
  | nil =>
    intro P out hx hl ho
    refine Ev.step (f := fun _ => some (rm, out)) (fun k => ?_) ?_
    · simp only [spec_DiskCrash.l0]
      rw [if_neg (by simp)]
    · simp [crash]; exact Ev.now _
  | cons x t ih =>
    intro P out hx hl ho
    simp only [List.length_cons] at hl ho
    have hs := hx x (by simp)
    have el : ((P ++ x :: t).length : Int) = P.length + t.length + 1 := by simp; omega
    have hw1 : wrap64 ((P.length : Int) + 1) = ((P ++ [x]).length : Int) := by rw [w64 (by omega) (by omega)]; simp
    have ea : P ++ x :: t = P ++ [x] ++ t := by simp
    have h := ih (P ++ [x]) (out ++ [crashF ks (P.length : Int) x]) (fun y hy => hx y (by simp [hy])) (by simp; omega) (by simp; omega)
    have ep : ((P ++ [x]).length : Int) = P.length + 1 := by simp
    have er : out ++ crash ks (x :: t) (P.length : Int) = out ++ [crashF ks (P.length : Int) x] ++ crash ks t ((P ++ [x]).length : Int) := by rw [ep]; simp [crash]
    rw [er]
    refine Ev.step (fun k => ?_) h
    simp only [spec_DiskCrash.l0]
    rw [if_pos (by omega), if_pos (by omega), rdF_mid]
    by_cases c : (P.length : Int) < (ks.length : Int)
    · have hm := mnmx_b (rd ks (P.length : Int)) (x.f2.size : Int) (by omega)
      have he := ext_le x.f2 (mn (mx (rd ks (P.length : Int)) 0) (x.f2.size : Int)).toNat
      have ef : crashF ks (P.length : Int) x = ⟨x.f0, x.f1 ++ x.f2.extract 0 (mn (mx (rd ks (P.length : Int)) 0) (x.f2.size : Int)).toNat, (⟨#[]⟩ : ByteArray)⟩ := by unfold crashF crashK; rw [if_pos c]
      rw [if_pos c, l1Max_eq]
      simp only [Option.bind_some, l1Min_eq]
      rw [if_pos hm.1, if_pos hm.2, if_pos (by omega), if_pos (by omega), hw1, ea, ef]
    · have he := ext_le x.f2 0
      have ef : crashF ks (P.length : Int) x = ⟨x.f0, x.f1, (⟨#[]⟩ : ByteArray)⟩ := by unfold crashF crashK; rw [if_neg c]; simp
      rw [if_neg c, if_pos (by omega), if_pos (by omega), if_pos (by omega), if_pos (by omega), hw1, ea, ef]
theorem implCrash_l (ks : List Int) (F : List S81) (hF : F.length ≤ 140737488355328) (rm : Int) (rest : List S81) : ∀ (P acc : List S81), F = P ++ rest → acc.length = P.length → (∀ x ∈ rest, (x.f1.size : Int) + x.f2.size ≤ 1152921504606846976) → Ev (fun k => impl_DiskCrash.l0 k ks F (F.length : Int) (P.length : Int) rm (acc ++ rest)) (rm, acc ++ crash ks rest (P.length : Int)) := by
  induction rest with
  | nil =>
    intro P acc hPF ha hx
    refine Ev.step (f := fun _ => some (rm, acc)) (fun k => ?_) ?_
    · simp only [impl_DiskCrash.l0]
      rw [if_neg (by rw [hPF]; simp)]; simp
    · simp [crash]; exact Ev.now _
  | cons x t ih =>
    intro P acc hPF ha hx
    have hs := hx x (by simp)
    have el : (F.length : Int) = P.length + t.length + 1 := by rw [hPF]; simp; omega
    have hr : rd_T81 F (P.length : Int) = x := by rw [hPF]; exact rdF_mid P x t
    have hw1 : wrap64 ((P.length : Int) + 1) = ((P ++ [x]).length : Int) := by rw [w64 (by omega) (by omega)]; simp
    have ep : ((P ++ [x]).length : Int) = P.length + 1 := by simp
    have h := ih (P ++ [x]) (acc ++ [crashF ks (P.length : Int) x]) (by rw [hPF]; simp) (by simp [ha]) (fun y hy => hx y (by simp [hy]))
    have er : acc ++ crash ks (x :: t) (P.length : Int) = acc ++ [crashF ks (P.length : Int) x] ++ crash ks t ((P ++ [x]).length : Int) := by rw [ep]; simp [crash]
    have es : ∀ y : S81, (acc ++ x :: t).set (P.length : Int).toNat y = acc ++ [y] ++ t := fun y => by rw [Int.toNat_natCast, ← ha]; simp
    have hla : (P.length : Int) < ((acc ++ x :: t).length : Int) := by simp; omega
    rw [er]
    refine Ev.step (fun k => ?_) h
    simp only [impl_DiskCrash.l0]
    rw [if_pos (by omega), if_pos (by omega), if_pos (by omega), hr]
    by_cases c : (P.length : Int) < (ks.length : Int)
    · have hm := mnmx_b (rd ks (P.length : Int)) (x.f2.size : Int) (by omega)
      have he := ext_le x.f2 (mn (mx (rd ks (P.length : Int)) 0) (x.f2.size : Int)).toNat
      have ef : crashF ks (P.length : Int) x = ⟨x.f0, x.f1 ++ x.f2.extract 0 (mn (mx (rd ks (P.length : Int)) 0) (x.f2.size : Int)).toNat, (⟨#[]⟩ : ByteArray)⟩ := by unfold crashF crashK; rw [if_pos c]
      rw [if_pos c, if_pos hm.1, if_pos hm.2, if_pos (by omega), if_pos hla, hw1, es, ef]
    · have he := ext_le x.f2 0
      have ef : crashF ks (P.length : Int) x = ⟨x.f0, x.f1, (⟨#[]⟩ : ByteArray)⟩ := by unfold crashF crashK; rw [if_neg c]; simp
      rw [if_neg c, if_pos (by omega), if_pos (by omega), if_pos (by omega), if_pos hla, hw1, es, ef]
def diskCrash (room : Int) (l : List S81) (ks : List Int) : Int × List S81 := if (diskOk room l && decide (¬ (ks.length : Int) > 8)) = true then (room, crash ks l 0) else (0, [])
theorem diskCrash_len (room : Int) (l : List S81) (ks : List Int) : (diskCrash room l ks).2.length ≤ l.length := by
  unfold diskCrash; split
  · simp only [crash_length]; omega
  · simp
theorem mem_size {l : List S81} (h1 : dsize l ≤ 1152921504606846976) : ∀ x ∈ l, (x.f1.size : Int) + x.f2.size ≤ 1152921504606846976 := fun x hx => by
  have := dsize_mem hx; omega
theorem specDiskCrash_ev (room : Int) (l : List S81) (ks : List Int) (h1 : dsize l ≤ 1152921504606846976) (hl : l.length ≤ 3518437208878) : Ev (fun k => spec_DiskCrash.f k room l ks) (diskCrash room l ks) := by
  unfold spec_DiskCrash.f diskCrash
  refine Ev.bind (specDiskOk_ev room l h1 (by omega)) ?_
  have hj : Ev (fun k => spec_DiskCrash.j0 k ks true room l) (0, []) := by
    refine Ev.step (f := fun _ => some (0, [])) (fun k => ?_) (Ev.now _)
    simp only [spec_DiskCrash.j0, ↓reduceIte]
  cases h : diskOk room l
  · simp only [Bool.false_eq_true, ↓reduceIte, Bool.false_and]; exact hj
  · simp only [↓reduceIte, Bool.true_and]
    by_cases c : (ks.length : Int) > 8
    · simp only [c, decide_true, not_true, decide_false, Bool.false_eq_true, ↓reduceIte]; exact hj
    · simp only [c, decide_false, not_false_eq_true, decide_true, ↓reduceIte]
      refine Ev.step (f := fun k => spec_DiskCrash.l0 k ks 0 room l room []) (fun k => ?_) ?_
      · simp only [spec_DiskCrash.j0]; rfl
      · exact specCrash_l ks room room l [] [] (mem_size h1) (by simp; omega) (by simpa using hl)
theorem implDiskCrash_ev (room : Int) (l : List S81) (ks : List Int) (h1 : dsize l ≤ 1152921504606846976) (hl : l.length ≤ 3518437208878) : Ev (fun k => impl_DiskCrash.f k room l ks) (diskCrash room l ks) := by
  unfold impl_DiskCrash.f diskCrash
  refine Ev.bind (implDiskOk_ev room l h1 (by omega)) ?_
  have hj : Ev (fun k => impl_DiskCrash.j0 k ks true room l) (0, []) := by
    refine Ev.step (f := fun _ => some (0, [])) (fun k => ?_) (Ev.now _)
    simp only [impl_DiskCrash.j0, ↓reduceIte]
  cases h : diskOk room l
  · simp only [Bool.false_eq_true, ↓reduceIte, Bool.false_and]; exact hj
  · simp only [↓reduceIte, Bool.true_and]
    by_cases c : (ks.length : Int) > 8
    · simp only [c, decide_true, not_true, decide_false, Bool.false_eq_true, ↓reduceIte]; exact hj
    · simp only [c, decide_false, not_false_eq_true, decide_true, ↓reduceIte]
      refine Ev.step (f := fun k => impl_DiskCrash.l0 k ks l (l.length : Int) 0 room l) (fun k => ?_) ?_
      · simp only [impl_DiskCrash.j0, copyDisk_eq room l hl, Option.bind_some]; rfl
      · exact implCrash_l ks l (by omega) room l [] [] rfl rfl (mem_size h1)

theorem FnExactDiskCrash : laws_FnExactDiskCrash.Pure := by
  intro room l ks hr hm hz hq hm2 hz2 hw
  apply Ev.rounds
  unfold laws_FnExactDiskCrash.f
  by_cases h0 : (ks.length : Int) > 1048576
  · simp only [h0, ↓reduceIte]; exact Ev.now _
  simp only [h0, ↓reduceIte]
  obtain ⟨r, h1, h2⟩ := szDisk_ev room l hq hz 1048576 (by omega) (by omega)
  refine Ev.step (fun k => by simp only [laws_FnExactDiskCrash.j0]; rfl) ?_
  refine Ev.bind h1 ?_
  by_cases h : r < 0
  · simp only [h, ↓reduceIte]; exact Ev.now _
  · have h2 := h2 (by omega)
    have hn := dsize_nn (l.map toF)
    have hL : (l.map toF).length ≤ 1048576 := by simp; omega
    have hT := toDisk_ev room l (by omega)
    have hK := toIntS_ev ks (by omega)
    have hS := specDiskCrash_ev room (l.map toF) ks (by omega) (by omega)
    have hI := implDiskCrash_ev room (l.map toF) ks (by omega) (by omega)
    have hG := diskCrash_len room (l.map toF) ks
    generalize l.map toF = L at *
    generalize diskCrash room L ks = U at *
    obtain ⟨u0, u1⟩ := U
    simp only at hG
    simp only [h, ↓reduceIte]
    refine Ev.step (fun k => by simp only [laws_FnExactDiskCrash.j1]; rfl) ?_
    refine Ev.bind hT ?_
    refine Ev.bind hK ?_
    refine Ev.bind hS ?_
    refine Ev.bind hT ?_
    refine Ev.bind hK ?_
    refine Ev.bind hI ?_
    refine Ev.bind (eqDisk_ev u0 u1 (by omega)) ?_
    simp only [↓reduceIte]
    refine Ev.step (fun k => by simp only [laws_FnExactDiskCrash.j2]; rfl) ?_
    refine Ev.bind hT ?_
    refine Ev.bind (eqDisk_ev room L (by omega)) ?_
    simp only [↓reduceIte]
    refine Ev.step (fun k => by simp only [laws_FnExactDiskCrash.j3]; rfl) ?_
    refine Ev.bind hK ?_
    refine Ev.bind (eqIntS_ev ks (by omega)) ?_
    simp only [↓reduceIte]
    refine Ev.step (fun k => by simp only [laws_FnExactDiskCrash.j4]; rfl) ?_
    refine Ev.bind (markDisk_ev room L 1 (by omega) (by omega) (by omega)) ?_
    refine Ev.bind (markI_ev ks (1 + 3 * (L.length : Int)) (by omega) (by omega) (by omega)) ?_
    simp only [show ¬ (1 + 3 * (L.length : Int) + (ks.length : Int) < 0) by omega, ↓reduceIte]
    refine Ev.bind (eqDisk_ev u0 u1 (by omega)) ?_
    simp only [Bool.not_true]
    refine Ev.step (fun k => by simp only [laws_FnExactDiskCrash.j5, Bool.false_eq_true, ↓reduceIte]; rfl) ?_
    refine Ev.step (fun k => by simp only [laws_FnExactDiskCrash.j6]; rfl) ?_
    refine Ev.bind (markDisk_ev u0 u1 1 (by omega) (by omega) (by omega)) ?_
    refine Ev.bind (heldDisk_ev u0 u1.length 1 (by omega) (by omega) (by omega)) ?_
    simp only [show ¬ (1 + 3 * (u1.length : Int) < 0) by omega, ↓reduceIte]
    refine Ev.step (fun k => by simp only [laws_FnExactDiskCrash.j7, ↓reduceIte]; rfl) ?_
    refine Ev.step (fun k => by simp only [laws_FnExactDiskCrash.j8]; rfl) ?_
    refine Ev.bind hT ?_
    refine Ev.bind hK ?_
    refine Ev.bind hI ?_
    refine Ev.bind (eqDisk_ev u0 u1 (by omega)) ?_
    simp only [↓reduceIte]
    refine Ev.step (fun k => by simp only [laws_FnExactDiskCrash.j9]; rfl) ?_
    refine Ev.bind (heldDisk_ev u0 u1.length 1 (by omega) (by omega) (by omega)) ?_
    simp only [show ¬ (1 + 3 * (u1.length : Int) < 0) by omega, ↓reduceIte]
    exact Ev.now _

end Go.Proofs.Ytkfoojknjmgjdaa.Pure
