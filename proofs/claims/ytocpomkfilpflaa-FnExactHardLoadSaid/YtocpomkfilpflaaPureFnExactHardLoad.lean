/- HardLoad of the program and of the reference give the same hard state and number for every disk and name, in memory of their own, and the program leaves the disk as it was; no condition. -/
import Derived.Test.YtocpomkfilpflaaQFnExactHardLoadx18
namespace Go.Proofs.Ytocpomkfilpflaa.Pure
open Go.RowKit Go.Proofs.Ytocpomkfilpflaa.QFnExactHardLoad Go.Proofs.YtocpomkfilpflaaW.PrintWords Go.Proofs.YtocpomkfilpflaaW.PrintLast
set_option linter.unusedVariables false
set_option linter.unusedSimpArgs false
theorem w64 {x : Int} (h0 : -9223372036854775808 ≤ x) (h1 : x ≤ 9223372036854775807) : wrap64 x = x := by
  unfold wrap64; omega
def By (l : List Int) : Prop := ∀ x ∈ l, 0 ≤ x ∧ x ≤ 255
theorem rd_nat (l : List Int) (i : Nat) : rd l (i : Int) = l.getD i 0 := by simp [rd]
theorem By.at_ {l : List Int} (h : By l) (i : Int) : 0 ≤ rd l i ∧ rd l i ≤ 255 := by
  unfold rd
  rw [List.getD_eq_getElem?_getD]
  rcases Nat.lt_or_ge i.toNat l.length with hi | hi
  · rw [List.getElem?_eq_getElem hi]; exact h _ (List.getElem_mem hi)
  · rw [List.getElem?_eq_none hi]; simp
theorem wraps_i64 (n : Int) (h₀ : 0 ≤ n) (h₁ : n < 2 ^ 63) : IntKind.i64.wrap n = n := by rw [IntKind.wrap_i64]; omega
theorem and_mask (i : Nat) (hi : i ≤ 63) {x : Int} (h₀ : 0 ≤ x) (h₁ : x ≤ 9223372036854775807) : Go.bits .and .i64 x (2 ^ i - 1) = x % 2 ^ i :=
  bits_mask .i64 63 (by decide) wraps_i64 i hi x h₀ (by omega)
theorem or_join (i : Nat) {x y : Int} (hx₀ : 0 ≤ x) (hx : x % 2 ^ i = 0) (hx₁ : x ≤ 9223372036854775807) (hy₀ : 0 ≤ y) (hy : y < 2 ^ i) (hy₁ : y ≤ 9223372036854775807) : Go.bits .or .i64 x y = x + y :=
  bits_join .i64 63 (by decide) wraps_i64 i x y hx₀ hx (by omega) hy₀ hy (by omega)

def inr (a b c : Int) : Bool := decide (b ≤ a ∧ a ≤ c)
theorem ba_nil : (⟨#[]⟩ : ByteArray).toList = [] := by rw [ByteArray.toList, ByteArray.toList.loop]; rfl
theorem if_eq0 (a c : Int) (x : Bool) : (if a = c then some x else some false) = some (a == c && x) := by
  by_cases h : a = c
  · subst h; simp
  · have b : (a == c) = false := by simpa using h
    simp [h, b]
theorem if_tt (b x : Bool) : (if b = true then some x else some false) = some (b && x) := by cases b <;> rfl

theorem rdF_mid (P : List S112) (x : S112) (t : List S112) : rd_T112 (P ++ x :: t) (P.length : Int) = x := by
  unfold rd_T112; simp
theorem rdF_last (P : List S112) (y : S112) (t : List S112) : rd_T112 (P ++ [y] ++ t) (((P ++ [y]).length : Int) - 1) = y := by
  unfold rd_T112
  have : (((P ++ [y]).length : Int) - 1).toNat = P.length := by simp
  rw [this]; simp
def dsize : List S112 → Int
  | [] => 0
  | x :: t => x.f1.size + x.f2.size + dsize t
theorem dsize_nn : ∀ l : List S112, 0 ≤ dsize l
  | [] => by simp [dsize]
  | x :: t => by have := dsize_nn t; simp only [dsize]; omega
theorem dsize_mem {l : List S112} {x : S112} (h : x ∈ l) : (x.f1.size : Int) + x.f2.size ≤ dsize l := by
  induction l with
  | nil => simp at h
  | cons y t ih =>
    have hn := dsize_nn t
    simp only [dsize]
    rcases List.mem_cons.1 h with rfl | h
    · omega
    · have := ih h; omega
def asc : Int → List S112 → Bool
  | _, [] => true
  | lo, x :: t => decide (lo ≤ x.f0 ∧ x.f0 ≤ 7) && asc (x.f0 + 1) t
theorem asc_len : ∀ (l : List S112) (lo : Int), lo ≤ 8 → asc lo l = true → (l.length : Int) ≤ 8 - lo
  | [], lo, h, _ => by simp; omega
  | x :: t, lo, h, ha => by
    simp only [asc, Bool.and_eq_true, decide_eq_true_eq] at ha
    have := asc_len t (x.f0 + 1) (by omega) ha.2
    simp only [List.length_cons]; omega
def diskOk (room : Int) (l : List S112) : Bool := asc 0 l && (inr room 0 40000 && decide (dsize l ≤ room))

theorem rdG_mid (P : List S108) (x : S108) (t : List S108) : rd_T108 (P ++ x :: t) (P.length : Int) = x := by
  unfold rd_T108; simp
def toF (x : S108) : S112 := ⟨x.f0, x.f1, x.f2⟩
def szF : List S108 → Int → Int
  | [], a => a
  | x :: t, a => if a - x.f1.size < 0 then -1 else if a - x.f1.size - x.f2.size < 0 then -1 else szF t (a - x.f1.size - x.f2.size)
theorem szF_b : ∀ (l : List S108) (a : Int), 0 ≤ a → (szF l a = -1 ∨ 0 ≤ szF l a ∧ szF l a + dsize (l.map toF) = a)
  | [], a, h => by simp [szF, dsize, h]
  | x :: t, a, h => by
    have ht : dsize ((x :: t).map toF) = x.f1.size + x.f2.size + dsize (t.map toF) := rfl
    rw [ht]
    simp only [szF]
    split
    · exact .inl rfl
    · split
      · exact .inl rfl
      · have := szF_b t (a - x.f1.size - x.f2.size) (by omega)
        rcases this with h1 | h1
        · exact .inl h1
        · refine .inr ⟨h1.1, ?_⟩; omega
theorem szFile_eq (x : S108) (a : Int) (h0 : 0 ≤ a) (h1 : a ≤ 140737488355328) (hx : x.f1.size ≤ 140737488355328 ∧ x.f2.size ≤ 140737488355328) : laws_szFile.f x.f0 x.f1 x.f2 a = some (if a - x.f1.size < 0 then -1 else if a - x.f1.size - x.f2.size < 0 then -1 else a - x.f1.size - x.f2.size) := by
  unfold laws_szFile.f
  rw [w64 (x := a - x.f1.size) (by omega) (by omega), w64 (by omega) (by omega)]
  split
  · rfl
  · split <;> rfl
theorem szFileS_l (rest : List S108) : ∀ (P : List S108) (a : Int), 0 ≤ a → a ≤ 140737488355328 → P.length + rest.length ≤ 140737488355328 → (∀ x ∈ rest, x.f1.size ≤ 140737488355328 ∧ x.f2.size ≤ 140737488355328) → Ev (fun k => laws_szFileS.l0 k (P ++ rest) a (P.length : Int)) (szF rest a) := by
  induction rest with
  | nil =>
    intro P a h0 h1 hl hx
    refine Ev.step (f := fun _ => some a) (fun k => ?_) (Ev.now _)
    simp only [laws_szFileS.l0]
    rw [if_neg (by simp)]
  | cons x t ih =>
    intro P a h0 h1 hl hx
    simp only [List.length_cons] at hl
    have hx0 := hx x (by simp)
    have e := szFile_eq x a h0 h1 hx0
    have el : ((P ++ x :: t).length : Int) = P.length + t.length + 1 := by simp; omega
    by_cases c1 : a - x.f1.size < 0
    · refine Ev.step (f := fun _ => some (-1)) (fun k => ?_) ?_
      · simp only [laws_szFileS.l0]
        rw [if_pos (by omega), if_pos (by omega), rdG_mid, e, if_pos c1]
        rfl
      · simp only [szF, c1, ↓reduceIte]; exact Ev.now _
    · by_cases c2 : a - x.f1.size - x.f2.size < 0
      · refine Ev.step (f := fun _ => some (-1)) (fun k => ?_) ?_
        · simp only [laws_szFileS.l0]
          rw [if_pos (by omega), if_pos (by omega), rdG_mid, e, if_neg c1, if_pos c2]
          rfl
        · simp only [szF, c1, c2, ↓reduceIte]; exact Ev.now _
      · have h := ih (P ++ [x]) (a - x.f1.size - x.f2.size) (by omega) (by omega) (by simp; omega) (fun y hy => hx y (by simp [hy]))
        refine Ev.step (f := fun k => laws_szFileS.l0 k ((P ++ [x]) ++ t) (a - x.f1.size - x.f2.size) ((P ++ [x]).length : Int)) (fun k => ?_) ?_
        · simp only [laws_szFileS.l0]
          rw [if_pos (by omega), if_pos (by omega), rdG_mid, e, if_neg c1, if_neg c2]
          simp only [Option.bind_some]
          rw [if_neg c2, w64 (by omega) (by omega)]
          simp
        · simp only [szF, c1, c2, ↓reduceIte]; exact h
theorem szFileS_ev (l : List S108) (a : Int) (h0 : 0 ≤ a) (h1 : a ≤ 140737488355328) (hl : l.length ≤ 140737488355328) (hx : ∀ x ∈ l, x.f1.size ≤ 140737488355328 ∧ x.f2.size ≤ 140737488355328) :
    ∃ r, Ev (fun k => laws_szFileS.f k l a) r ∧ (0 ≤ r → r + l.length + dsize (l.map toF) = a) := by
  unfold laws_szFileS.f
  rw [w64 (x := a - l.length) (by omega) (by omega)]
  by_cases h : a - l.length < 0
  · refine ⟨-1, ?_, by omega⟩
    simp only [h, ↓reduceIte]; exact Ev.now _
  · refine ⟨szF l (a - l.length), ?_, ?_⟩
    · simp only [h, ↓reduceIte]
      exact szFileS_l l [] (a - l.length) (by omega) (by omega) (by simp; omega) hx
    · have := szF_b l (a - l.length) (by omega)
      omega
theorem set_fillF (l : List S108) (i d : Nat) (hi : i + (d + 1) = l.length) : ((l.take i).map toF ++ List.replicate (d + 1) z112).set i (toF (rd_T108 l (i : Int))) = (l.take (i + 1)).map toF ++ List.replicate d z112 := by
  have hlt : i < l.length := by omega
  have h1 : ((l.take i).map toF).length = i := by rw [List.length_map, List.length_take]; omega
  rw [List.set_append_right _ _ (by omega), h1, Nat.sub_self, List.replicate_succ, List.set_cons_zero, List.take_succ_eq_append_getElem hlt, List.map_append, List.append_assoc]
  unfold rd_T108
  simp [List.getD_eq_getElem?_getD, hlt]
theorem toFileS_l (l : List S108) (hl : l.length ≤ 7036874417766) (d : Nat) : ∀ i : Nat, i + d = l.length → Ev (fun k => laws_toFileS.l0 k l ((l.take i).map toF ++ List.replicate d z112) (i : Int)) (l.map toF) := by
  induction d with
  | zero =>
    intro i hi
    refine Ev.step (f := fun _ => some (l.map toF)) (fun k => ?_) (Ev.now _)
    simp only [laws_toFileS.l0]
    rw [if_neg (by omega)]
    have : l.take i = l := List.take_of_length_le (by omega)
    simp [this]
  | succ d ih =>
    intro i hi
    refine Ev.step (f := fun k => laws_toFileS.l0 k l ((l.take (i + 1)).map toF ++ List.replicate d z112) ((i + 1 : Nat) : Int)) (fun k => ?_) (ih (i + 1) (by omega))
    simp only [laws_toFileS.l0, laws_toFile.f, Option.bind_some]
    rw [if_pos (by omega), if_pos (by omega), if_pos (by simp; omega), w64 (by omega) (by omega), Int.toNat_natCast]
    rw [show (⟨(rd_T108 l (i : Int)).f0, (rd_T108 l (i : Int)).f1, (rd_T108 l (i : Int)).f2⟩ : S112) = toF (rd_T108 l (i : Int)) from rfl, set_fillF l i d hi]
    rfl
theorem toFileS_ev (l : List S108) (hl : l.length ≤ 7036874417766) : Ev (fun k => laws_toFileS.f k l) (l.map toF) := by
  refine Ev.congr (fun k => ?_) (toFileS_l l hl l.length 0 (by omega))
  unfold laws_toFileS.f
  rw [if_pos (by omega), if_pos (by simp; omega)]
  simp
theorem eqFileS_l (l : List S112) (hl : l.length ≤ 140737488355328) (d : Nat) : ∀ i : Nat, i + d = l.length → Ev (fun k => laws_eqFileS.l0 k l l (i : Int)) true := by
  induction d with
  | zero =>
    intro i hi
    refine Ev.step (f := fun _ => some true) (fun k => ?_) (Ev.now _)
    simp only [laws_eqFileS.l0]
    rw [if_neg (by omega)]
  | succ d ih =>
    intro i hi
    refine Ev.step (f := fun k => laws_eqFileS.l0 k l l ((i + 1 : Nat) : Int)) (fun k => ?_) (ih (i + 1) (by omega))
    simp only [laws_eqFileS.l0, laws_eqFile.f, ↓reduceIte, Option.bind_some]
    rw [if_pos (by omega), if_pos (by omega), if_pos (by omega), w64 (by omega) (by omega)]
    rfl
theorem eqFileS_ev (l : List S112) (hl : l.length ≤ 140737488355328) : Ev (fun k => laws_eqFileS.f k l l) true := by
  refine Ev.congr (fun k => ?_) (eqFileS_l l hl l.length 0 (by omega))
  unfold laws_eqFileS.f
  rw [if_pos rfl]; rfl

theorem szDisk_ev (room : Int) (l : List S108) (h : ∀ x ∈ l, Q108 x) (hl : l.length * 40 ≤ 140737488351232) (a : Int) (h0 : 0 ≤ a) (h1 : a ≤ 140737488355328) :
    ∃ r, Ev (fun k => laws_szDisk.f k room l a) r ∧ (0 ≤ r → r + l.length + dsize (l.map toF) = a) := by
  obtain ⟨r, hr, hb⟩ := szFileS_ev l a h0 h1 (by omega) (fun x hx => by have := h x hx; unfold Q108 at this; omega)
  by_cases c : r < 0
  · refine ⟨-1, ?_, by omega⟩
    unfold laws_szDisk.f
    refine Ev.bind hr ?_
    simp only [c, ↓reduceIte]; exact Ev.now _
  · refine ⟨r, ?_, hb⟩
    unfold laws_szDisk.f
    refine Ev.bind hr ?_
    simp only [c, ↓reduceIte]; exact Ev.now _
theorem toDisk_ev (room : Int) (l : List S108) (hl : l.length ≤ 7036874417766) : Ev (fun k => laws_toDisk.f k room l) (room, l.map toF) := by
  unfold laws_toDisk.f
  refine Ev.bind (toFileS_ev l hl) ?_
  exact Ev.now _
theorem eqDisk_ev (room : Int) (l : List S112) (hl : l.length ≤ 140737488355328) : Ev (fun k => laws_eqDisk.f k room l room l) true := by
  unfold laws_eqDisk.f
  simp only [↓reduceIte]
  refine Ev.bind (eqFileS_ev l hl) ?_
  simp only [↓reduceIte]; exact Ev.now _

def mtGo (x : Int) (a : ByteArray) : ByteArray := if h : x > 0 then mtGo (x / 10) (strOfNums [(48 + x % 10) % 256] ++ a) else (⟨#[109]⟩ : ByteArray) ++ a
termination_by x.toNat
decreasing_by omega
def mt (x : Int) : ByteArray := if x ≤ 0 then (⟨#[109, 48]⟩ : ByteArray) else mtGo x (⟨#[]⟩ : ByteArray)
theorem strOf1_size (c : Int) : (strOfNums [c]).size = 1 := rfl
theorem markText_l (m : Nat) : ∀ (x : Int) (a : ByteArray), x < 10 ^ m → a.size + m ≤ 1000000 → x ≤ 9223372036854775807 → 0 ≤ x → Ev (fun k => laws_markText.l0 k x a) (mtGo x a) := by
  induction m with
  | zero =>
    intro x a h0 h1 h2 h3
    have h0 : x < 1 := by simpa using h0
    refine Ev.step (f := fun _ => some (mtGo x a)) (fun k => ?_) (Ev.now _)
    simp only [laws_markText.l0]
    rw [if_neg (by omega), if_pos (by omega)]
    rw [mtGo, dif_neg (by omega)]
  | succ m ih =>
    intro x a h0 h1 h2 h3
    by_cases c : x > 0
    · have e : mtGo x a = mtGo (x / 10) (strOfNums [(48 + x % 10) % 256] ++ a) := by rw [mtGo]; simp [c]
      have es : (strOfNums [(48 + x % 10) % 256] ++ a).size = 1 + a.size := by rw [ByteArray.size_append, strOf1_size]
      rw [Int.pow_succ] at h0
      have h := ih (x / 10) (strOfNums [(48 + x % 10) % 256] ++ a) (by omega) (by omega) (by omega) (by omega)
      rw [e]
      refine Ev.step (fun k => ?_) h
      simp only [laws_markText.l0]
      rw [if_pos c, Int.tmod_eq_emod_of_nonneg h3, Int.tdiv_eq_ediv_of_nonneg h3, w64 (x := 48 + x % 10) (by omega) (by omega), w64 (x := x / 10) (by omega) (by omega)]
      simp only [Option.bind_some]
      rw [strOf1_size, if_pos (by omega)]
    · refine Ev.step (f := fun _ => some (mtGo x a)) (fun k => ?_) (Ev.now _)
      simp only [laws_markText.l0]
      rw [if_neg c, if_pos (by omega)]
      rw [mtGo, dif_neg c]
theorem markText_ev (x : Int) (h : x ≤ 9223372036854775807) : Ev (fun k => laws_markText.f k x) (mt x) := by
  unfold laws_markText.f mt
  by_cases c : x ≤ 0
  · simp only [c, ↓reduceIte]; exact Ev.now _
  · simp only [c, ↓reduceIte]
    exact markText_l 19 x _ (by omega) (by decide) h (by omega)

def marksF : Nat → Int → List S112
  | 0, _ => []
  | n + 1, q => ⟨q, mt (q + 1), mt (q + 2)⟩ :: marksF n (q + 3)
theorem setF_mid (P : List S112) (x y : S112) (t : List S112) : (P ++ x :: t).set (P.length : Int).toNat y = P ++ y :: t := by simp
theorem markF_l (rest : List S112) : ∀ (P : List S112) (q : Int), P.length + rest.length ≤ 140737488355328 → 0 ≤ q → q + 3 * rest.length ≤ 2814749767106560 →
    Ev (fun k => laws_markFileS.l0 k (P ++ rest) q (P.length : Int)) (q + 3 * rest.length, P ++ marksF rest.length q) := by
  induction rest with
  | nil =>
    intro P q hl h0 h1
    refine Ev.step (f := fun _ => some (q, P)) (fun k => ?_) ?_
    · simp only [laws_markFileS.l0]
      rw [if_neg (by simp)]; simp
    · simp [marksF]; exact Ev.now _
  | cons x t ih =>
    intro P q hl h0 h1
    simp only [List.length_cons] at hl h1
    have el : ((P ++ x :: t).length : Int) = P.length + t.length + 1 := by simp; omega
    have h := ih (P ++ [⟨q, mt (q + 1), mt (q + 2)⟩]) (q + 3) (by simp; omega) (by omega) (by omega)
    refine Ev.step (fun k => by
      simp only [laws_markFileS.l0]
      rw [if_pos (by omega), if_pos (by omega), rdF_mid, setF_mid, w64 (x := q + 1) (by omega) (by omega)]) ?_
    simp only [Option.bind_some]
    refine Ev.bind (markText_ev (q + 1) (by omega)) ?_
    rw [w64 (x := q + 1 + 1) (by omega) (by omega), rdF_mid, setF_mid]
    simp only [Option.bind_some]
    refine Ev.bind (markText_ev (q + 1 + 1) (by omega)) ?_
    rw [rdF_mid, setF_mid, w64 (x := q + 1 + 1 + 1) (by omega) (by omega), w64 (x := (P.length : Int) + 1) (by omega) (by omega)]
    have e1 : q + 1 + 1 = q + 2 := by omega
    have e2 : q + 1 + 1 + 1 = q + 3 := by omega
    have e3 : (q + 3 + 3 * (t.length : Int), P ++ [(⟨q, mt (q + 1), mt (q + 2)⟩ : S112)] ++ marksF t.length (q + 3)) = (q + 3 * ((x :: t).length : Int), P ++ marksF (x :: t).length q) := by
      simp [marksF]; omega
    rw [← e3]
    rw [e2, e1]
    refine Ev.congr (fun k => ?_) h
    simp
theorem markF_ev (l : List S112) (q : Int) (hl : l.length ≤ 140737488355328) (h0 : 0 ≤ q) (h1 : q ≤ 140737488355328) : Ev (fun k => laws_markFileS.f k l q) (q + 3 * l.length, marksF l.length q) := by
  have h := markF_l l [] q (by simpa using hl) h0 (by omega)
  simpa [laws_markFileS.f] using h

theorem markDisk_ev (room : Int) (l : List S112) (q : Int) (hl : l.length ≤ 140737488355328) (h0 : 0 ≤ q) (h1 : q ≤ 140737488355328) : Ev (fun k => laws_markDisk.f k room l q) (q + 3 * l.length, marksF l.length q) := by
  unfold laws_markDisk.f
  refine Ev.bind (markF_ev l q hl h0 h1) ?_
  exact Ev.now _

def cmdOk (kind rel node size : Int) (dig : ByteArray) : Bool :=
  if kind = 1 then (rel == 0 && (node == 0 && (size == 0 && (dig.toList == ([] : List UInt8)))))
  else if kind = 2 then (inr rel 1 1000 && (inr size 0 1000 && (decide ((dig.size : Int) = 32) && (node == 0))))
  else if kind = 3 then (inr rel 1 1000 && (inr node 0 4 && (size == 0 && (dig.toList == ([] : List UInt8)))))
  else if kind = 4 ∨ kind = 5 then (inr rel 1 1000 && (node == 0 && (size == 0 && (dig.toList == ([] : List UInt8)))))
  else false

theorem rdE_mid (P : List S36) (x : S36) (t : List S36) : rd_T36 (P ++ x :: t) (P.length : Int) = x := by
  unfold rd_T36; simp
theorem rdE_last (P : List S36) (y : S36) (t : List S36) : rd_T36 (P ++ [y] ++ t) (((P ++ [y]).length : Int) - 1) = y := by
  unfold rd_T36
  have : (((P ++ [y]).length : Int) - 1).toNat = P.length := by simp
  rw [this]; simp
def cmdOkE (x : S36) : Bool := cmdOk x.f1.f0 x.f1.f1 x.f1.f2 x.f1.f3 x.f1.f4
def logOk : Int → Int → List S36 → Bool
  | _, _, [] => true
  | lo, h, x :: t => (decide (lo ≤ x.f0 ∧ x.f0 ≤ h) && cmdOkE x) && logOk x.f0 h t
def hardOk (term vote : Int) (l : List S36) : Bool := inr term 0 1000000000 && (inr vote 0 5 && (decide ((l.length : Int) ≤ 80) && logOk 1 term l))

theorem eqEntryS_l (l : List S36) (hl : l.length ≤ 140737488355328) (d : Nat) : ∀ i : Nat, i + d = l.length → Ev (fun k => laws_eqEntryS.l0 k l l (i : Int)) true := by
  induction d with
  | zero =>
    intro i hi
    refine Ev.step (f := fun _ => some true) (fun k => ?_) (Ev.now _)
    simp only [laws_eqEntryS.l0]
    rw [if_neg (by omega)]
  | succ d ih =>
    intro i hi
    refine Ev.step (f := fun k => laws_eqEntryS.l0 k l l ((i + 1 : Nat) : Int)) (fun k => ?_) (ih (i + 1) (by omega))
    simp only [laws_eqEntryS.l0, laws_eqEntry.f, laws_eqCmd.f, ↓reduceIte, Option.bind_some]
    rw [if_pos (by omega), if_pos (by omega), if_pos (by omega), w64 (by omega) (by omega)]
    rfl
theorem eqEntryS_ev (l : List S36) (hl : l.length ≤ 140737488355328) : Ev (fun k => laws_eqEntryS.f k l l) true := by
  refine Ev.congr (fun k => ?_) (eqEntryS_l l hl l.length 0 (by omega))
  unfold laws_eqEntryS.f
  rw [if_pos rfl]; rfl

theorem eqHard_ev (t v : Int) (l : List S36) (hl : l.length ≤ 140737488355328) : Ev (fun k => laws_eqHard.f k t v l t v l) true := by
  unfold laws_eqHard.f
  simp only [↓reduceIte]
  refine Ev.bind (eqEntryS_ev l hl) ?_
  simp only [↓reduceIte]; exact Ev.now _

def mkE (q : Int) : S36 := ⟨q, ⟨q + 1, q + 2, q + 3, q + 4, mt (q + 5)⟩⟩
def marksE : Nat → Int → List S36
  | 0, _ => []
  | n + 1, q => mkE q :: marksE n (q + 6)
theorem marksE_length : ∀ (n : Nat) (q : Int), (marksE n q).length = n
  | 0, _ => rfl
  | n + 1, q => by rw [marksE, List.length_cons, marksE_length n]
theorem setE_mid (P : List S36) (x y : S36) (t : List S36) : (P ++ x :: t).set (P.length : Int).toNat y = P ++ y :: t := by simp
theorem rdE_set (l : List S36) (i : Int) (v : S36) (h : i < (l.length : Int)) (h0 : 0 ≤ i) : rd_T36 (l.set i.toNat v) i = v := by
  unfold rd_T36
  have : i.toNat < l.length := by omega
  simp [List.getD_eq_getElem?_getD, this]
theorem markE_step (k : Nat) (l : List S36) (q i : Int) (h : i < (l.length : Int)) (h0 : 0 ≤ i) (w1 : wrap64 (q + 1) = q + 1) (w2 : wrap64 (q + 1 + 1) = q + 2) (w3 : wrap64 (q + 2 + 1) = q + 3) (w4 : wrap64 (q + 3 + 1) = q + 4) (w5 : wrap64 (q + 4 + 1) = q + 5) (w6 : wrap64 (q + 5 + 1) = q + 6) :
    laws_markEntryS.l0 (k + 1) l q i = (laws_markText.f k (q + 5)).bind fun s => laws_markEntryS.l0 k (l.set i.toNat ⟨q, ⟨q + 1, q + 2, q + 3, q + 4, s⟩⟩) (q + 6) (wrap64 (i + 1)) := by
  rw [laws_markEntryS.l0, if_pos h, if_pos h0, w1, w2, w3, w4, w5, w6]
  generalize rd_T36 l i = z
  rw [Option.bind_some, rdE_set l i _ h h0, List.set_set]
  dsimp only
  rw [Option.bind_some, rdE_set l i _ h h0, List.set_set]
  dsimp only
  rw [Option.bind_some, rdE_set l i _ h h0, List.set_set]
  dsimp only
  rw [Option.bind_some, rdE_set l i _ h h0, List.set_set]
  dsimp only
  rw [Option.bind_some, rdE_set l i _ h h0]
  dsimp only
  congr 1
  funext s
  rw [List.set_set]
theorem markE_end (k : Nat) (l : List S36) (q i : Int) (h : ¬ i < (l.length : Int)) : laws_markEntryS.l0 (k + 1) l q i = some (q, l) := by
  rw [laws_markEntryS.l0, if_neg h]
theorem markE_l (rest : List S36) : ∀ (P : List S36) (q : Int), P.length + rest.length ≤ 140737488355328 → 0 ≤ q → q + 6 * rest.length ≤ 2814749767106560 →
    Ev (fun k => laws_markEntryS.l0 k (P ++ rest) q (P.length : Int)) (q + 6 * rest.length, P ++ marksE rest.length q) := by
  induction rest with
  | nil =>
    intro P q hl h0 h1
    rw [List.append_nil]
    refine Ev.step (fun k => markE_end k P q (P.length : Int) (by omega)) ?_
    simp [marksE]; exact Ev.now _
  | cons x t ih =>
    intro P q hl h0 h1
    simp only [List.length_cons] at hl h1
    have el : ((P ++ x :: t).length : Int) = P.length + t.length + 1 := by simp; omega
    have h := ih (P ++ [mkE q]) (q + 6) (by simp; omega) (by omega) (by omega)
    have e3 : (q + 6 + 6 * (t.length : Int), P ++ [mkE q] ++ marksE t.length (q + 6)) = (q + 6 * ((x :: t).length : Int), P ++ marksE (x :: t).length q) := by
      simp [marksE]; omega
    have g1 : (P.length : Int) < ((P ++ x :: t).length : Int) := by omega
    have g2 : 0 ≤ (P.length : Int) := by omega
    have g3 := markText_ev (q + 5) (by omega)
    have w1 : wrap64 (q + 1) = q + 1 := w64 (by omega) (by omega)
    have w2 : wrap64 (q + 1 + 1) = q + 2 := by rw [w64 (by omega) (by omega)]; omega
    have w3 : wrap64 (q + 2 + 1) = q + 3 := by rw [w64 (by omega) (by omega)]; omega
    have w4 : wrap64 (q + 3 + 1) = q + 4 := by rw [w64 (by omega) (by omega)]; omega
    have w5 : wrap64 (q + 4 + 1) = q + 5 := by rw [w64 (by omega) (by omega)]; omega
    have w6 : wrap64 (q + 5 + 1) = q + 6 := by rw [w64 (by omega) (by omega)]; omega
    have w7 : wrap64 ((P.length : Int) + 1) = P.length + 1 := w64 (by omega) (by omega)
    refine Ev.step (fun k => markE_step k (P ++ x :: t) q (P.length : Int) g1 g2 w1 w2 w3 w4 w5 w6) ?_
    refine Ev.bind g3 ?_
    rw [← e3, setE_mid, w7]
    refine Ev.congr (fun k => ?_) h
    simp [mkE]
theorem markE_ev (l : List S36) (q : Int) (hl : l.length ≤ 140737488355328) (h0 : 0 ≤ q) (h1 : q ≤ 140737488355328) : Ev (fun k => laws_markEntryS.f k l q) (q + 6 * l.length, marksE l.length q) := by
  have h := markE_l l [] q (by simpa using hl) h0 (by omega)
  simpa [laws_markEntryS.f] using h
theorem heldE_step (k : Nat) (l : List S36) (q i : Int) (h : i < (l.length : Int)) (h0 : 0 ≤ i) (hr : rd_T36 l i = mkE q) (w1 : wrap64 (q + 1) = q + 1) (w2 : wrap64 (q + 1 + 1) = q + 2) (w3 : wrap64 (q + 2 + 1) = q + 3) (w4 : wrap64 (q + 3 + 1) = q + 4) (w5 : wrap64 (q + 4 + 1) = q + 5) (w6 : wrap64 (q + 5 + 1) = q + 6) :
    laws_heldEntryS.l0 (k + 1) l q i = (laws_markText.f k (q + 5)).bind fun s => if (mt (q + 5)).toList = s.toList then laws_heldEntryS.l0 k l (q + 6) (wrap64 (i + 1)) else some (-1) := by
  rw [laws_heldEntryS.l0, if_pos h, if_pos h0, hr, w1, w2, w3, w4, w5, w6]
  simp only [mkE, if_true]
  rfl
theorem heldE_l (n : Nat) : ∀ (P : List S36) (q : Int), P.length + n ≤ 140737488355328 → 0 ≤ q → q + 6 * n ≤ 2814749767106560 →
    Ev (fun k => laws_heldEntryS.l0 k (P ++ marksE n q) q (P.length : Int)) (q + 6 * n) := by
  induction n with
  | zero =>
    intro P q hl h0 h1
    refine Ev.step (f := fun _ => some q) (fun k => ?_) ?_
    · simp only [laws_heldEntryS.l0]
      rw [if_neg (by simp [marksE])]
    · simp; exact Ev.now _
  | succ n ih =>
    intro P q hl h0 h1
    have h := ih (P ++ [mkE q]) (q + 6) (by simp; omega) (by omega) (by omega)
    have e : P ++ marksE (n + 1) q = P ++ [mkE q] ++ marksE n (q + 6) := by simp [marksE]
    have el : ((P ++ marksE (n + 1) q).length : Int) = P.length + n + 1 := by rw [List.length_append, marksE_length]; omega
    have er : rd_T36 (P ++ marksE (n + 1) q) (P.length : Int) = mkE q := rdE_mid P _ _
    have g1 : (P.length : Int) < ((P ++ marksE (n + 1) q).length : Int) := by omega
    have g2 : 0 ≤ (P.length : Int) := by omega
    have g3 := markText_ev (q + 5) (by omega)
    have e2 : (q + 6 + 6 * (n : Int)) = q + 6 * ((n + 1 : Nat) : Int) := by omega
    have w1 : wrap64 (q + 1) = q + 1 := w64 (by omega) (by omega)
    have w2 : wrap64 (q + 1 + 1) = q + 2 := by rw [w64 (by omega) (by omega)]; omega
    have w3 : wrap64 (q + 2 + 1) = q + 3 := by rw [w64 (by omega) (by omega)]; omega
    have w4 : wrap64 (q + 3 + 1) = q + 4 := by rw [w64 (by omega) (by omega)]; omega
    have w5 : wrap64 (q + 4 + 1) = q + 5 := by rw [w64 (by omega) (by omega)]; omega
    have w6 : wrap64 (q + 5 + 1) = q + 6 := by rw [w64 (by omega) (by omega)]; omega
    have w7 : wrap64 ((P.length : Int) + 1) = P.length + 1 := w64 (by omega) (by omega)
    refine Ev.step (fun k => heldE_step k _ q (P.length : Int) g1 g2 er w1 w2 w3 w4 w5 w6) ?_
    refine Ev.bind g3 ?_
    simp only [↓reduceIte]
    rw [w7, ← e2, e]
    refine Ev.congr (fun k => ?_) h
    simp
theorem heldE_ev (n : Nat) (q : Int) (hl : n ≤ 140737488355328) (h0 : 0 ≤ q) (h1 : q ≤ 140737488355328) : Ev (fun k => laws_heldEntryS.f k (marksE n q) q) (q + 6 * n) := by
  have h := heldE_l n [] q (by simpa using hl) h0 (by omega)
  simpa [laws_heldEntryS.f] using h
theorem markHard_ev (t v : Int) (l : List S36) (q : Int) (hl : l.length ≤ 140737488355328) (h0 : 0 ≤ q) (h1 : q ≤ 140737488355328) : Ev (fun k => laws_markHard.f k t v l q) (q + 6 * l.length, marksE l.length q) := by
  unfold laws_markHard.f
  refine Ev.bind (markE_ev l q hl h0 h1) ?_
  exact Ev.now _
theorem heldHard_ev (t v : Int) (n : Nat) (q : Int) (hl : n ≤ 140737488355328) (h0 : 0 ≤ q) (h1 : q ≤ 140737488355328) : Ev (fun k => laws_heldHard.f k t v (marksE n q) q) (q + 6 * n) := by
  unfold laws_heldHard.f
  refine Ev.bind (heldE_ev n q hl h0 h1) ?_
  simp only [show ¬ q + 6 * (n : Int) < 0 by omega, ↓reduceIte]
  exact Ev.now _

theorem idx_b (nm : Int) : ∀ (l : List S112) (i : Int), 0 ≤ i → (idxName l nm i = -1 ∨ i ≤ idxName l nm i ∧ idxName l nm i < i + l.length)
  | [], i, h => by simp [idxName]
  | x :: t, i, h => by
    simp only [idxName, List.length_cons]
    split
    · exact .inr ⟨by omega, by omega⟩
    · have := idx_b nm t (i + 1) (by omega)
      omega
theorem rdF_mem (l : List S112) (i : Int) (h0 : 0 ≤ i) (h1 : i < l.length) : rd_T112 l i ∈ l := by
  unfold rd_T112
  have : i.toNat < l.length := by omega
  simp [List.getD_eq_getElem?_getD, this]
def diskRead (room : Int) (l : List S112) (nm : Int) : ByteArray × Bool := if diskOk room l = true then (if idxName l nm 0 < 0 then ((⟨#[]⟩ : ByteArray), false) else (((rd_T112 l (idxName l nm 0)).f1) ++ ((rd_T112 l (idxName l nm 0)).f2), true)) else ((⟨#[]⟩ : ByteArray), false)
theorem diskRead_tail (room : Int) (l : List S112) (nm : Int) (h1 : dsize l ≤ 1152921504606846976) : (if diskOk room l = true then (if idxName l nm 0 < 0 then (some ((⟨#[]⟩ : ByteArray), false)) else (if 0 ≤ idxName l nm 0 then (if idxName l nm 0 < (l.length : Int) then (if ((rd_T112 l (idxName l nm 0)).f1).size + ((rd_T112 l (idxName l nm 0)).f2).size ≤ 9223372036854775807 then (some (((rd_T112 l (idxName l nm 0)).f1) ++ ((rd_T112 l (idxName l nm 0)).f2), true)) else (none)) else (none)) else (none))) else (some ((⟨#[]⟩ : ByteArray), false))) = some (diskRead room l nm) := by
  unfold diskRead
  split
  · split
    · rfl
    · rename_i h
      have hb := idx_b nm l 0 (by omega)
      have hm := dsize_mem (rdF_mem l (idxName l nm 0) (by omega) (by omega))
      rw [if_pos (by omega), if_pos (by omega), if_pos (by omega)]
  · rfl

theorem l3Size_l (rest : List S112) : ∀ (P : List S112) (n room : Int), 0 ≤ n → n + dsize rest ≤ 1152921504606846976 → P.length + rest.length ≤ 140737488355328 → Ev (fun k => spec_l3Size.l0 k n (P.length : Int) room (P ++ rest)) (n + dsize rest) := by
  induction rest with
  | nil =>
    intro P n room h0 h1 hl
    refine Ev.step (f := fun _ => some n) (fun k => ?_) ?_
    · simp only [spec_l3Size.l0]
      rw [if_neg (by simp)]
    · simp only [dsize, Int.add_zero]; exact Ev.now _
  | cons x t ih =>
    intro P n room h0 h1 hl
    simp only [List.length_cons] at hl
    have hn := dsize_nn t
    simp only [dsize] at h1
    have h := ih (P ++ [x]) (n + x.f1.size + x.f2.size) room (by omega) (by omega) (by simp; omega)
    have e : n + dsize (x :: t) = n + x.f1.size + x.f2.size + dsize t := by simp only [dsize]; omega
    rw [e]
    refine Ev.step (fun k => ?_) h
    simp only [spec_l3Size.l0]
    rw [if_pos (by simp; omega), if_pos (by omega), rdF_mid, w64 (x := n + x.f1.size) (by omega) (by omega), w64 (by omega) (by omega), w64 (by omega) (by omega)]
    simp
theorem l3Size_ev (room : Int) (l : List S112) (h1 : dsize l ≤ 1152921504606846976) (hl : l.length ≤ 140737488355328) : Ev (fun k => spec_l3Size.f k room l) (dsize l) := by
  have h := l3Size_l l [] 0 room (by omega) (by omega) (by simpa using hl)
  simpa [spec_l3Size.f] using h

theorem l1In_eq (a b c : Int) : spec_l1In.f a b c = some (inr a b c) := by
  unfold spec_l1In.f inr
  by_cases h : a ≥ b
  · rw [if_pos h]; congr 1; by_cases h2 : a ≤ c <;> simp [h, h2]
  · rw [if_neg h]; congr 1; simp; omega

theorem l3Name_eq (a : Int) : spec_l3Name.f a = some (inr a 0 7) := by unfold spec_l3Name.f; rw [l1In_eq]; rfl
theorem specDiskOk_l (rest : List S112) : ∀ (P : List S112) (lo room : Int), 0 ≤ lo → (P = [] ∧ lo = 0 ∨ ∃ P' y, P = P' ++ [y] ∧ lo = y.f0 + 1) → P.length + rest.length ≤ 140737488355328 → Ev (fun k => spec_DiskOk.l0 k (P.length : Int) room (P ++ rest)) (asc lo rest) := by
  induction rest with
  | nil =>
    intro P lo room h0 hP hl
    refine Ev.step (f := fun _ => some true) (fun k => ?_) (Ev.now _)
    simp only [spec_DiskOk.l0]
    rw [if_neg (by simp)]
  | cons x t ih =>
    intro P lo room h0 hP hl
    simp only [List.length_cons] at hl
    have el : ((P ++ x :: t).length : Int) = P.length + t.length + 1 := by simp; omega
    have hw1 : wrap64 ((P.length : Int) + 1) = ((P ++ [x]).length : Int) := by rw [w64 (by omega) (by omega)]; simp
    by_cases c1 : 0 ≤ x.f0 ∧ x.f0 ≤ 7
    · have i1 : inr x.f0 0 7 = true := decide_eq_true c1
      by_cases c2 : lo ≤ x.f0
      · have h := ih (P ++ [x]) (x.f0 + 1) room (by omega) (.inr ⟨P, x, rfl, rfl⟩) (by simp; omega)
        refine Ev.step (f := fun k => spec_DiskOk.l0 k ((P ++ [x]).length : Int) room ((P ++ [x]) ++ t)) (fun k => ?_) ?_
        · simp only [spec_DiskOk.l0, l3Name_eq, Option.bind_some]
          rw [if_pos (by omega), if_pos (by omega), rdF_mid, i1, if_pos rfl]
          have ea : P ++ x :: t = P ++ [x] ++ t := by simp
          rcases hP with ⟨rfl, rfl⟩ | ⟨P', y, rfl, rfl⟩
          · rw [if_neg (by simp), hw1, ea]
          · have ep : ((P' ++ [y]).length : Int) = P'.length + 1 := by simp
            rw [if_pos (by omega), w64 (x := ((P' ++ [y]).length : Int) - 1) (by omega) (by omega), if_pos (by omega), if_pos (by omega), show P' ++ [y] ++ x :: t = P' ++ [y] ++ (x :: t) from rfl, rdF_last, if_neg (by omega), hw1, ea]
        · simp only [asc, show lo ≤ x.f0 ∧ x.f0 ≤ 7 from ⟨c2, c1.2⟩, decide_true, Bool.true_and]; exact h
      · refine Ev.step (f := fun _ => some false) (fun k => ?_) ?_
        · simp only [spec_DiskOk.l0, l3Name_eq, Option.bind_some]
          rw [if_pos (by omega), if_pos (by omega), rdF_mid, i1, if_pos rfl]
          rcases hP with ⟨rfl, rfl⟩ | ⟨P', y, rfl, rfl⟩
          · omega
          · have ep : ((P' ++ [y]).length : Int) = P'.length + 1 := by simp
            rw [if_pos (by omega), w64 (x := ((P' ++ [y]).length : Int) - 1) (by omega) (by omega), if_pos (by omega), if_pos (by omega), rdF_last, if_pos (by omega)]
        · have : asc lo (x :: t) = false := by simp [asc, c2]
          rw [this]; exact Ev.now _
    · have i1 : inr x.f0 0 7 = false := decide_eq_false c1
      refine Ev.step (f := fun _ => some false) (fun k => ?_) ?_
      · simp only [spec_DiskOk.l0, l3Name_eq, Option.bind_some]
        rw [if_pos (by omega), if_pos (by omega), rdF_mid, i1, if_neg (by simp)]
      · have : asc lo (x :: t) = false := by
          have : ¬ (lo ≤ x.f0 ∧ x.f0 ≤ 7) := by omega
          simp only [asc, this, decide_false, Bool.false_and]
        rw [this]; exact Ev.now _
theorem specDiskOk_ev (room : Int) (l : List S112) (h1 : dsize l ≤ 1152921504606846976) (hl : l.length ≤ 140737488355328) : Ev (fun k => spec_DiskOk.f k room l) (diskOk room l) := by
  unfold spec_DiskOk.f diskOk
  simp only [l1In_eq, Option.bind_some]
  have hj : Ev (fun k => spec_DiskOk.j0 k true room l) false := by
    refine Ev.step (f := fun _ => some false) (fun k => ?_) (Ev.now _)
    simp only [spec_DiskOk.j0, ↓reduceIte]
  cases h : inr room 0 40000
  · simp only [Bool.false_eq_true, ↓reduceIte, Bool.false_and, Bool.and_false]; exact hj
  · simp only [↓reduceIte, Bool.true_and]
    by_cases h8 : (l.length : Int) > 8
    · have : asc 0 l = false := by
        cases ha : asc 0 l
        · rfl
        · have := asc_len l 0 (by omega) ha; omega
      simp only [h8, ↓reduceIte, this, Bool.false_and]; exact hj
    · simp only [h8, ↓reduceIte]
      refine Ev.bind (l3Size_ev room l h1 hl) ?_
      by_cases hd : dsize l > room
      · simp only [hd, decide_true, show ¬ dsize l ≤ room by omega, decide_false, Bool.and_false]; exact hj
      · simp only [hd, decide_false, show dsize l ≤ room by omega, decide_true, Bool.and_true]
        refine Ev.step (f := fun k => spec_DiskOk.l0 k 0 room l) (fun k => ?_) ?_
        · simp only [spec_DiskOk.j0]; rfl
        · exact specDiskOk_l l [] 0 room (by omega) (.inl ⟨rfl, rfl⟩) (by simpa using hl)

theorem findS_l (nm : Int) (rest : List S112) : ∀ (P : List S112) (room : Int), P.length + rest.length ≤ 140737488355328 → Ev (fun k => spec_l3Find.l0 k nm (P.length : Int) room (P ++ rest)) (idxName rest nm (P.length : Int)) := by
  induction rest with
  | nil =>
    intro P room hl
    refine Ev.step (f := fun _ => some (-1)) (fun k => ?_) (Ev.now _)
    simp only [spec_l3Find.l0]
    rw [if_neg (by simp)]
  | cons x t ih =>
    intro P room hl
    simp only [List.length_cons] at hl
    have el : ((P ++ x :: t).length : Int) = P.length + t.length + 1 := by simp; omega
    by_cases c : x.f0 = nm
    · refine Ev.step (f := fun _ => some (P.length : Int)) (fun k => ?_) ?_
      · simp only [spec_l3Find.l0]
        rw [if_pos (by omega), if_pos (by omega), rdF_mid, if_pos c]
      · simp only [idxName, c, ↓reduceIte]; exact Ev.now _
    · have h := ih (P ++ [x]) room (by simp; omega)
      have hw1 : wrap64 ((P.length : Int) + 1) = ((P ++ [x]).length : Int) := by rw [w64 (by omega) (by omega)]; simp
      have hi : idxName (x :: t) nm (P.length : Int) = idxName t nm ((P ++ [x]).length : Int) := by simp only [idxName, c, ↓reduceIte]; simp
      rw [hi]
      refine Ev.step (fun k => ?_) h
      simp only [spec_l3Find.l0]
      rw [if_pos (by omega), if_pos (by omega), rdF_mid, if_neg c, hw1]
      simp
theorem findS_ev (room : Int) (l : List S112) (nm : Int) (hl : l.length ≤ 140737488355328) : Ev (fun k => spec_l3Find.f k room l nm) (idxName l nm 0) := by
  have h := findS_l nm l [] room (by simpa using hl)
  simpa [spec_l3Find.f] using h

theorem specDiskRead_ev (room : Int) (l : List S112) (nm : Int) (h1 : dsize l ≤ 1152921504606846976) (hl : l.length ≤ 140737488355328) : Ev (fun k => spec_DiskRead.f k room l nm) (diskRead room l nm) := by
  unfold spec_DiskRead.f
  refine Ev.bind (findS_ev room l nm hl) ?_
  refine Ev.bind (specDiskOk_ev room l h1 hl) ?_
  rw [diskRead_tail room l nm h1]
  exact Ev.now _

theorem sizeOf_l (rest : List S112) : ∀ (P : List S112) (n m : Int), m = P.length + rest.length → 0 ≤ n → n + dsize rest ≤ 1152921504606846976 → P.length + rest.length ≤ 140737488355328 → Ev (fun k => impl_sizeOf.l0 k n (P ++ rest) m (P.length : Int)) (n + dsize rest) := by
  induction rest with
  | nil =>
    intro P n m hm h0 h1 hl
    refine Ev.step (f := fun _ => some n) (fun k => ?_) ?_
    · simp only [impl_sizeOf.l0]
      rw [if_neg (by simp at hm; omega)]
    · simp only [dsize, Int.add_zero]; exact Ev.now _
  | cons x t ih =>
    intro P n m hm h0 h1 hl
    simp only [List.length_cons] at hl hm
    have hn := dsize_nn t
    simp only [dsize] at h1
    have h := ih (P ++ [x]) (n + x.f1.size + x.f2.size) m (by simp; omega) (by omega) (by omega) (by simp; omega)
    have e : n + dsize (x :: t) = n + x.f1.size + x.f2.size + dsize t := by simp only [dsize]; omega
    rw [e]
    refine Ev.step (fun k => ?_) h
    simp only [impl_sizeOf.l0]
    rw [if_pos (by omega), if_pos (by omega), if_pos (by simp; omega), rdF_mid, w64 (x := (x.f1.size : Int) + x.f2.size) (by omega) (by omega), w64 (by omega) (by omega), w64 (by omega) (by omega)]
    simp [Int.add_assoc]
theorem sizeOf_ev (room : Int) (l : List S112) (h1 : dsize l ≤ 1152921504606846976) (hl : l.length ≤ 140737488355328) : Ev (fun k => impl_sizeOf.f k room l) (dsize l) := by
  have h := sizeOf_l l [] 0 l.length (by simp) (by omega) (by omega) (by simpa using hl)
  simpa [impl_sizeOf.f] using h

theorem within_eq (a b c : Int) : impl_within.f a b c = some (inr a b c) := by
  unfold impl_within.f inr
  by_cases h : a ≥ b
  · rw [if_pos h]; congr 1; by_cases h2 : a ≤ c <;> simp [h, h2]
  · rw [if_neg h]; congr 1; simp; omega

theorem isFile_eq (a : Int) : impl_isFile.f a = some (inr a 0 7) := by unfold impl_isFile.f; rw [within_eq]; rfl
theorem implDiskOk_l (F : List S112) (hd : dsize F ≤ 1152921504606846976) (hF : F.length ≤ 140737488355328) (rest : List S112) : ∀ (P : List S112) (lo room : Int), F = P ++ rest → 0 ≤ lo → (P = [] ∧ lo = 0 ∨ ∃ P' y, P = P' ++ [y] ∧ lo = y.f0 + 1) → Ev (fun k => impl_DiskOk.l0 k F (F.length : Int) (P.length : Int) room F) (asc lo rest && (inr room 0 40000 && decide (dsize F ≤ room))) := by
  induction rest with
  | nil =>
    intro P lo room hPF h0 hP
    refine Ev.step (f := fun k => (impl_within.f room 0 40000).bind fun t => if t = true then (impl_sizeOf.f k room F).bind fun t2 => some (decide (t2 ≤ room)) else some false) (fun k => ?_) ?_
    · simp only [impl_DiskOk.l0]
      rw [if_neg (by rw [hPF]; simp)]
    · simp only [within_eq, Option.bind_some, asc, Bool.true_and]
      cases inr room 0 40000
      · simp only [Bool.false_eq_true, ↓reduceIte, Bool.false_and]; exact Ev.now _
      · simp only [↓reduceIte, Bool.true_and]
        refine Ev.bind (sizeOf_ev room F hd hF) ?_
        exact Ev.now _
  | cons x t ih =>
    intro P lo room hPF h0 hP
    have el : (F.length : Int) = P.length + t.length + 1 := by rw [hPF]; simp; omega
    have hr : rd_T112 F (P.length : Int) = x := by rw [hPF]; exact rdF_mid P x t
    have hw1 : wrap64 ((P.length : Int) + 1) = ((P ++ [x]).length : Int) := by rw [w64 (by omega) (by omega)]; simp
    by_cases c1 : 0 ≤ x.f0 ∧ x.f0 ≤ 7
    · have i1 : inr x.f0 0 7 = true := decide_eq_true c1
      by_cases c2 : lo ≤ x.f0
      · have h := ih (P ++ [x]) (x.f0 + 1) room (by rw [hPF]; simp) (by omega) (.inr ⟨P, x, rfl, rfl⟩)
        refine Ev.step (f := fun k => impl_DiskOk.l0 k F (F.length : Int) ((P ++ [x]).length : Int) room F) (fun k => ?_) ?_
        · simp only [impl_DiskOk.l0, isFile_eq, Option.bind_some]
          rw [if_pos (by omega), if_pos (by omega), if_pos (by omega), hr, i1, if_pos rfl]
          rcases hP with ⟨rfl, rfl⟩ | ⟨P', y, rfl, rfl⟩
          · rw [if_neg (by simp), hw1]
          · have hy : rd_T112 F (((P' ++ [y]).length : Int) - 1) = y := by rw [hPF]; exact rdF_last P' y (x :: t)
            have ep : ((P' ++ [y]).length : Int) = P'.length + 1 := by simp
            rw [if_pos (by omega), w64 (x := ((P' ++ [y]).length : Int) - 1) (by omega) (by omega), if_pos (by omega), if_pos (by omega), hy, if_neg (by omega), hw1]
        · simp only [asc, show lo ≤ x.f0 ∧ x.f0 ≤ 7 from ⟨c2, c1.2⟩, decide_true, Bool.true_and]; exact h
      · refine Ev.step (f := fun _ => some false) (fun k => ?_) ?_
        · simp only [impl_DiskOk.l0, isFile_eq, Option.bind_some]
          rw [if_pos (by omega), if_pos (by omega), if_pos (by omega), hr, i1, if_pos rfl]
          rcases hP with ⟨rfl, rfl⟩ | ⟨P', y, rfl, rfl⟩
          · omega
          · have hy : rd_T112 F (((P' ++ [y]).length : Int) - 1) = y := by rw [hPF]; exact rdF_last P' y (x :: t)
            have ep : ((P' ++ [y]).length : Int) = P'.length + 1 := by simp
            rw [if_pos (by omega), w64 (x := ((P' ++ [y]).length : Int) - 1) (by omega) (by omega), if_pos (by omega), if_pos (by omega), hy, if_pos (by omega)]
        · have : asc lo (x :: t) = false := by simp [asc, c2]
          rw [this]; exact Ev.now _
    · have i1 : inr x.f0 0 7 = false := decide_eq_false c1
      refine Ev.step (f := fun _ => some false) (fun k => ?_) ?_
      · simp only [impl_DiskOk.l0, isFile_eq, Option.bind_some]
        rw [if_pos (by omega), if_pos (by omega), if_pos (by omega), hr, i1, if_neg (by simp)]
      · have : asc lo (x :: t) = false := by
          have : ¬ (lo ≤ x.f0 ∧ x.f0 ≤ 7) := by omega
          simp only [asc, this, decide_false, Bool.false_and]
        rw [this]; exact Ev.now _
theorem implDiskOk_ev (room : Int) (l : List S112) (h1 : dsize l ≤ 1152921504606846976) (hl : l.length ≤ 140737488355328) : Ev (fun k => impl_DiskOk.f k room l) (diskOk room l) :=
  implDiskOk_l l h1 hl l [] 0 room rfl (by omega) (.inl ⟨rfl, rfl⟩)

theorem implDiskRead_ev (room : Int) (l : List S112) (nm : Int) (h1 : dsize l ≤ 1152921504606846976) (hl : l.length ≤ 140737488355328) : Ev (fun k => impl_DiskRead.f k room l nm) (diskRead room l nm) := by
  unfold impl_DiskRead.f impl_fileAt.f
  simp only [Option.bind_some]
  refine Ev.bind (implDiskOk_ev room l h1 hl) ?_
  rw [diskRead_tail room l nm h1]
  exact Ev.now _


def sumGo : List Int → Int → Int → Int
  | [], x, y => 65536 * y + x
  | c :: t, x, y => sumGo t ((x + c) % 65521) ((y + (x + c) % 65521) % 65521)
theorem sumGo_b (l : List Int) : ∀ x y : Int, 0 ≤ x → x < 65521 → 0 ≤ y → y < 65521 → 0 ≤ sumGo l x y ∧ sumGo l x y < 4294967296 := by
  induction l with
  | nil => intro x y h0 h1 h2 h3; simp only [sumGo]; omega
  | cons c t ih =>
    intro x y h0 h1 h2 h3
    exact ih _ _ (by omega) (by omega) (by omega) (by omega)
def sumOf (l : List Int) : Int := sumGo l 1 0
theorem sumOf_b (l : List Int) : 0 ≤ sumOf l ∧ sumOf l < 4294967296 := sumGo_b l 1 0 (by omega) (by omega) (by omega) (by omega)
theorem rd_mid (P : List Int) (c : Int) (t : List Int) : rd (P ++ c :: t) (P.length : Int) = c := by rw [rd_nat]; simp

def sum4 (l : List Int) : List Int := [sumOf l % 256, sumOf l / 256 % 256, sumOf l / 65536 % 256, sumOf l / 16777216 % 256]
def p7 (k : Nat) : Int := 128 ^ k
def gn : Nat → List Int → Int → Nat → Int → Int × Int × Bool
  | 0, _, _, _, _ => (0, 0, false)
  | d + 1, l, at_, k, x => if at_ + k < l.length then (if rd l (at_ + k) < 128 then (if rd l (at_ + k) = 0 ∧ 0 < k then (0, 0, false) else (x + rd l (at_ + k) % 128 * p7 k, at_ + k + 1, true)) else gn d l at_ (k + 1) (x + rd l (at_ + k) % 128 * p7 k)) else (0, 0, false)
def getNum (l : List Int) (at_ : Int) : Int × Int × Bool := if at_ < 0 then (0, 0, false) else gn 9 l at_ 0 0
theorem p7_succ (k : Nat) : p7 (k + 1) = p7 k * 128 := Int.pow_succ 128 k
theorem p7_b (k : Nat) (hk : k ≤ 8) : 1 ≤ p7 k ∧ p7 k ≤ 72057594037927936 := by
  have : k = 0 ∨ k = 1 ∨ k = 2 ∨ k = 3 ∨ k = 4 ∨ k = 5 ∨ k = 6 ∨ k = 7 ∨ k = 8 := by omega
  rcases this with rfl | rfl | rfl | rfl | rfl | rfl | rfl | rfl | rfl <;> decide
theorem p128 (k : Nat) (hk : k ≤ 8) (x c : Int) (hx0 : 0 ≤ x) (hx : x < p7 k) (hc0 : 0 ≤ c) (hc : c < 128) : 0 ≤ c * p7 k ∧ c * p7 k ≤ 9223372036854775807 ∧ 0 ≤ x + c * p7 k ∧ x + c * p7 k ≤ 9223372036854775807 ∧ x + c * p7 k < p7 (k + 1) := by
  have h := p7_b k hk
  rw [p7_succ]
  generalize p7 k = u at *
  have h1 : 0 ≤ c * u := Int.mul_nonneg hc0 (by omega)
  have h2 : c * u ≤ 127 * u := Int.mul_le_mul_of_nonneg_right (by omega) (by omega)
  refine ⟨h1, by omega, by omega, by omega, by omega⟩

theorem gn_b : ∀ (d : Nat) (k : Nat) (l : List Int) (a x : Int), By l → 0 ≤ a → d + k ≤ 9 → 0 ≤ x → x < p7 k → 0 ≤ (gn d l a k x).1 ∧ (gn d l a k x).1 ≤ 9223372036854775807 ∧ 0 ≤ (gn d l a k x).2.1 ∧ (gn d l a k x).2.1 ≤ l.length
  | 0, k, l, a, x, hb, ha, hk, h0, h1 => by simp [gn]
  | d + 1, k, l, a, x, hb, ha, hk, h0, h1 => by
    have hz : (0 : Int) ≤ 0 ∧ (0 : Int) ≤ 9223372036854775807 ∧ (0 : Int) ≤ 0 ∧ (0 : Int) ≤ l.length := ⟨by omega, by omega, by omega, by omega⟩
    have hr := hb.at_ (a + k)
    have hp := p128 k (by omega) x (rd l (a + k) % 128) h0 h1 (by omega) (by omega)
    simp only [gn]
    split
    · split
      · split
        · exact hz
        · exact ⟨hp.2.2.1, hp.2.2.2.1, by simp only; omega, by simp only; omega⟩
      · exact gn_b d (k + 1) l a _ hb ha (by omega) hp.2.2.1 hp.2.2.2.2
    · exact hz
theorem getNum_b (l : List Int) (a : Int) (hb : By l) : 0 ≤ (getNum l a).1 ∧ (getNum l a).1 ≤ 9223372036854775807 ∧ 0 ≤ (getNum l a).2.1 ∧ (getNum l a).2.1 ≤ l.length := by
  unfold getNum
  split
  · exact ⟨by simp, by simp, by simp, by simp⟩
  · exact gn_b 9 0 l a 0 hb (by omega) (by omega) (by omega) (by decide)

def seg (l : List Int) (a b : Int) : List Int := (l.take b.toNat).drop a.toNat
theorem seg_len (l : List Int) (a b : Int) (h0 : 0 ≤ a) (h1 : a ≤ b) (h2 : b ≤ l.length) : ((seg l a b).length : Int) = b - a := by
  unfold seg; rw [List.length_drop, List.length_take]; omega
theorem seg_by (l : List Int) (a b : Int) (hb : By l) : By (seg l a b) := fun x hx => hb x (List.mem_of_mem_take (List.mem_of_mem_drop hx))
def unsealOf (l : List Int) (a : Int) : List Int × Int × Int :=
  if (getNum l a).2.2 = true ∧ (getNum l a).1 ≤ 3000 then
    (if (l.length : Int) - (getNum l a).2.1 < (getNum l a).1 + 4 then ([], 0, 2)
     else if seg l ((getNum l a).2.1 + (getNum l a).1) ((getNum l a).2.1 + (getNum l a).1 + 4) = sum4 (seg l (getNum l a).2.1 ((getNum l a).2.1 + (getNum l a).1)) then (seg l (getNum l a).2.1 ((getNum l a).2.1 + (getNum l a).1), (getNum l a).2.1 + (getNum l a).1 + 4, 0)
     else ([], 0, 3))
  else ([], 0, 1)
theorem unseal_len (l : List Int) (a : Int) : (unsealOf l a).1.length ≤ l.length := by
  unfold unsealOf
  split
  · split
    · simp
    · split
      · simp only [seg, List.length_drop, List.length_take]; omega
      · simp
  · simp
theorem sum4_by (l : List Int) : By (sum4 l) := by
  intro x hx
  simp only [sum4, List.mem_cons, List.not_mem_nil, or_false] at hx
  omega

theorem u_next {k0 : Nat} {u : Int} (h8 : k0 + 1 ≤ 8) (hu : u = p7 k0) : wrap64 (u * 128) = p7 (k0 + 1) := by
  have hp2 := p7_b (k0 + 1) h8
  rw [p7_succ] at hp2 ⊢
  rw [hu]
  exact w64 (by omega) (by omega)
theorem gnStep {k0 : Nat} {c x u : Int} (k8 : k0 ≤ 8) (hc : 0 ≤ c ∧ c ≤ 255) (hx0 : 0 ≤ x) (hx : x < p7 k0) (hu : u = p7 k0) : wrap64 c = c ∧ wrap64 (x + wrap64 (Int.tmod c 128 * u)) = x + c % 128 * p7 k0 ∧ 0 ≤ x + c % 128 * p7 k0 ∧ x + c % 128 * p7 k0 < p7 (k0 + 1) := by
  have hp := p128 k0 k8 x (c % 128) hx0 hx (by omega) (by omega)
  refine ⟨w64 (by omega) (by omega), ?_, hp.2.2.1, hp.2.2.2.2⟩
  rw [Int.tmod_eq_emod_of_nonneg hc.1, hu, w64 (x := c % 128 * p7 k0) (Int.le_trans (by decide) hp.1) hp.2.1, w64 (Int.le_trans (by decide) hp.2.2.1) hp.2.2.2.1]
theorem specGetNum_l (d : Nat) : ∀ (l : List Int) (at_ : Int) (k0 : Nat) (x u : Int), By l → l.length ≤ 140737488355328 → 0 ≤ at_ → at_ ≤ 140737488355328 → k0 + d = 9 → 0 ≤ x → x < p7 k0 → (k0 ≤ 8 → u = p7 k0) → Ev (fun k => spec_GetNum.l0 k l at_ x u (k0 : Int)) (gn d l at_ k0 x) := by
  induction d with
  | zero =>
    intro l at_ k0 x u hb hl h0 h1 hk hx0 hx hu
    refine Ev.step (f := fun k => spec_GetNum.j2 k l at_ x u (k0 : Int) false) (fun k => ?_) ?_
    · simp only [spec_GetNum.l0]; rw [if_neg (by omega)]
    · refine Ev.step (f := fun _ => some (0, 0, false)) (fun k => ?_) (Ev.now _)
      simp only [spec_GetNum.j2]; rfl
  | succ d ih =>
    intro l at_ k0 x u hb hl h0 h1 hk hx0 hx hu
    have k8 : k0 ≤ 8 := by omega
    have z0 : 0 ≤ at_ + (k0 : Int) := by omega
    have k9 : (k0 : Int) < 9 := by omega
    have e1 : wrap64 (at_ + (k0 : Int)) = at_ + k0 := w64 (by omega) (by omega)
    have e4 : wrap64 (at_ + (k0 : Int) + 1) = at_ + k0 + 1 := w64 (by omega) (by omega)
    have e6 : wrap64 ((k0 : Int) + 1) = ((k0 + 1 : Nat) : Int) := w64 (by omega) (by omega)
    have hk' : k0 + 1 + d = 9 := by omega
    have hu := hu k8
    obtain ⟨e2, e3, x0, x1⟩ := gnStep k8 (hb.at_ (at_ + k0)) hx0 hx hu
    by_cases h : at_ + k0 < l.length
    · refine Ev.step (f := fun k => spec_GetNum.j2 k l at_ x u (k0 : Int) true) (fun k => ?_) ?_
      · simp only [spec_GetNum.l0, k9, e1, h, decide_true, ↓reduceIte]
      simp only [gn, h, ↓reduceIte]
      by_cases c1 : rd l (at_ + k0) < 128
      · by_cases c2 : rd l (at_ + k0) = 0
        · by_cases c3 : 0 < k0
          · refine Ev.step (f := fun _ => some (0, 0, false)) (fun k => ?_) ?_
            · have c3' : (k0 : Int) > 0 := by omega
              simp only [spec_GetNum.j2, e1, z0, h, ↓reduceIte]
              rw [e2, if_pos c1, if_pos c2, if_pos c3']
            · rw [if_pos c1, if_pos ⟨c2, c3⟩]; exact Ev.now _
          · refine Ev.step (f := fun _ => some (x + rd l (at_ + k0) % 128 * p7 k0, at_ + k0 + 1, true)) (fun k => ?_) ?_
            · have c3' : ¬ (k0 : Int) > 0 := by omega
              simp only [spec_GetNum.j2, e1, z0, h, ↓reduceIte]
              rw [e2, if_pos c1, if_pos c2, if_neg c3', e3, e4]
            · rw [if_pos c1, if_neg (fun hh => c3 hh.2)]; exact Ev.now _
        · refine Ev.step (f := fun _ => some (x + rd l (at_ + k0) % 128 * p7 k0, at_ + k0 + 1, true)) (fun k => ?_) ?_
          · simp only [spec_GetNum.j2, e1, z0, h, ↓reduceIte]
            rw [e2, if_pos c1, if_neg c2, e3, e4]
          · rw [if_pos c1, if_neg (fun hh => c2 hh.1)]; exact Ev.now _
      · refine Ev.step (f := fun k => spec_GetNum.l0 k l at_ (x + rd l (at_ + k0) % 128 * p7 k0) (wrap64 (u * 128)) ((k0 + 1 : Nat) : Int)) (fun k => ?_) ?_
        · simp only [spec_GetNum.j2, e1, z0, h, ↓reduceIte]
          rw [e2, if_neg c1, e3, e6]
        · rw [if_neg c1]; exact ih l at_ (k0 + 1) _ _ hb hl h0 h1 hk' x0 x1 (fun h8 => u_next h8 hu)
    · refine Ev.step (f := fun k => spec_GetNum.j2 k l at_ x u (k0 : Int) false) (fun k => ?_) ?_
      · simp only [spec_GetNum.l0, k9, e1, h, decide_false, ↓reduceIte]
      · simp only [gn, h, ↓reduceIte]
        refine Ev.step (f := fun _ => some (0, 0, false)) (fun k => ?_) (Ev.now _)
        simp only [spec_GetNum.j2]; rfl
theorem specGetNum_ev (l : List Int) (at_ : Int) (hb : By l) (hl : l.length ≤ 140737488355328) : Ev (fun k => spec_GetNum.f k l at_) (getNum l at_) := by
  unfold spec_GetNum.f getNum
  by_cases h : at_ < 0
  · simp only [h, ↓reduceIte]
    refine Ev.step (f := fun _ => some (0, 0, false)) (fun k => ?_) (Ev.now _)
    simp only [spec_GetNum.j0, ↓reduceIte]
  · by_cases h2 : at_ ≥ (l.length : Int)
    · simp only [h, h2, ↓reduceIte, decide_true]
      refine Ev.step (f := fun _ => some (0, 0, false)) (fun k => ?_) ?_
      · simp only [spec_GetNum.j0, ↓reduceIte]
      · simp only [gn]; rw [if_neg (by omega)]; exact Ev.now _
    · simp only [h, h2, ↓reduceIte, decide_false]
      refine Ev.step (f := fun k => spec_GetNum.l0 k l at_ 0 1 0) (fun k => ?_) ?_
      · simp only [spec_GetNum.j0]; rfl
      · exact specGetNum_l 9 l at_ 0 0 1 hb hl (by omega) (by omega) (by omega) (by omega) (by decide) (fun _ => rfl)

theorem specSum_l (rest : List Int) : ∀ (P : List Int) (x y : Int), By rest → P.length + rest.length ≤ 140737488355328 → 0 ≤ x → x < 65521 → 0 ≤ y → y < 65521 → Ev (fun k => spec_Sum.l0 k (P ++ rest) x y (P.length : Int)) (sumGo rest x y) := by
  induction rest with
  | nil =>
    intro P x y hb hl h0 h1 h2 h3
    refine Ev.step (f := fun _ => some (65536 * y + x)) (fun k => ?_) (Ev.now _)
    simp only [spec_Sum.l0]
    rw [if_neg (by simp), w64 (x := 65536 * y) (by omega) (by omega), w64 (by omega) (by omega)]
  | cons c t ih =>
    intro P x y hb hl h0 h1 h2 h3
    have hc := hb c (by simp)
    simp only [List.length_cons] at hl
    have h := ih (P ++ [c]) ((x + c) % 65521) ((y + (x + c) % 65521) % 65521) (fun z hz => hb z (by simp [hz])) (by simp; omega) (by omega) (by omega) (by omega) (by omega)
    refine Ev.step (fun k => ?_) h
    simp only [spec_Sum.l0]
    rw [if_pos (by simp; omega), if_pos (by omega), rd_mid, w64 (x := c) (by omega) (by omega), w64 (x := x + c) (by omega) (by omega), Int.tmod_eq_emod_of_nonneg (by omega), w64 (x := y + _) (by omega) (by omega), Int.tmod_eq_emod_of_nonneg (by omega), w64 (by omega) (by omega)]
    simp
theorem specSum_ev (l : List Int) (hb : By l) (hl : l.length ≤ 140737488355328) : Ev (fun k => spec_Sum.f k l) (sumOf l) := by
  have h := specSum_l l [] 1 0 hb (by simpa using hl) (by omega) (by omega) (by omega) (by omega)
  simpa [spec_Sum.f, sumOf] using h

theorem sum_word (c : List Int) (s : Int) (hc : By c) (hl : c.length = 4) (h0 : 0 ≤ s) (h1 : s < 4294967296) :
    s = (wrap64 ((wrap64 ((wrap64 ((wrap64 (rd c 0)) + (wrap64 ((wrap64 (rd c 1)) * 256)))) + (wrap64 ((wrap64 (rd c 2)) * 65536)))) + (wrap64 ((wrap64 (rd c 3)) * 16777216)))) ↔ c = [s % 256, s / 256 % 256, s / 65536 % 256, s / 16777216 % 256] := by
  match c, hl with
  | [x0, x1, x2, x3], _ =>
    have b0 := hc x0 (by simp)
    have b1 := hc x1 (by simp)
    have b2 := hc x2 (by simp)
    have b3 := hc x3 (by simp)
    have e0 : rd [x0, x1, x2, x3] 0 = x0 := rfl
    have e1 : rd [x0, x1, x2, x3] 1 = x1 := rfl
    have e2 : rd [x0, x1, x2, x3] 2 = x2 := rfl
    have e3 : rd [x0, x1, x2, x3] 3 = x3 := rfl
    rw [e0, e1, e2, e3, w64 (x := x0) (by omega) (by omega), w64 (x := x1) (by omega) (by omega), w64 (x := x2) (by omega) (by omega), w64 (x := x3) (by omega) (by omega), w64 (x := x1 * 256) (by omega) (by omega), w64 (x := x2 * 65536) (by omega) (by omega), w64 (x := x3 * 16777216) (by omega) (by omega), w64 (x := x0 + x1 * 256) (by omega) (by omega), w64 (x := x0 + x1 * 256 + x2 * 65536) (by omega) (by omega), w64 (by omega) (by omega)]
    simp only [List.cons.injEq, and_true]
    constructor
    · intro h; refine ⟨?_, ?_, ?_, ?_⟩ <;> omega
    · intro h; omega
theorem specUnseal_ev (l : List Int) (a : Int) (hb : By l) (hl : l.length ≤ 1048576) (h0 : -9223372036854775808 ≤ a) (h1 : a ≤ 9223372036854775807) : Ev (fun k => spec_Unseal.f k l a) (unsealOf l a) := by
  have hg := getNum_b l a hb
  unfold spec_Unseal.f
  refine Ev.bind (specGetNum_ev l a hb (by omega)) ?_
  generalize hG : getNum l a = G at *
  obtain ⟨n, p, ok⟩ := G
  simp only at hg ⊢
  cases ok
  · simp only [Bool.false_eq_true, ↓reduceIte]
    refine Ev.step (f := fun _ => some ([], 0, 1)) (fun k => by simp only [spec_Unseal.j0, ↓reduceIte]) ?_
    unfold unsealOf; rw [hG]; simp only [Bool.false_eq_true, false_and, ↓reduceIte]; exact Ev.now _
  · simp only [↓reduceIte]
    by_cases c1 : n > 3000
    · refine Ev.step (f := fun _ => some ([], 0, 1)) (fun k => by simp only [spec_Unseal.j0, c1, decide_true, ↓reduceIte]) ?_
      unfold unsealOf; rw [hG]; simp only [show ¬ n ≤ 3000 by omega, and_false, ↓reduceIte]; exact Ev.now _
    · by_cases c2 : (l.length : Int) - p < n + 4
      · refine Ev.step (f := fun _ => some ([], 0, 2)) (fun k => ?_) ?_
        · simp only [spec_Unseal.j0, c1, decide_false, Bool.false_eq_true, ↓reduceIte]
          rw [w64 (x := (l.length : Int) - p) (by omega) (by omega), w64 (x := n + 4) (by omega) (by omega), if_pos c2]
        · unfold unsealOf; rw [hG]; simp only [show n ≤ 3000 by omega, c2, and_self, ↓reduceIte]; exact Ev.now _
      · have hw1 : wrap64 (p + n) = p + n := w64 (by omega) (by omega)
        have hw2 : wrap64 (p + n + 4) = p + n + 4 := w64 (by omega) (by omega)
        have L1 := seg_len l p (p + n) (by omega) (by omega) (by omega)
        have L2 := seg_len l (p + n) (p + n + 4) (by omega) (by omega) (by omega)
        have hs := sumOf_b (seg l p (p + n))
        refine Ev.step (f := fun k => (spec_Sum.f k (seg l p (p + n))).bind fun t => if t = (wrap64 ((wrap64 ((wrap64 ((wrap64 (rd (seg l (p + n) (p + n + 4)) 0)) + (wrap64 ((wrap64 (rd (seg l (p + n) (p + n + 4)) 1)) * 256)))) + (wrap64 ((wrap64 (rd (seg l (p + n) (p + n + 4)) 2)) * 65536)))) + (wrap64 ((wrap64 (rd (seg l (p + n) (p + n + 4)) 3)) * 16777216)))) then some (seg l p (p + n), p + n + 4, 0) else some ([], 0, 3)) (fun k => ?_) ?_
        · simp only [spec_Unseal.j0, c1, decide_false, Bool.false_eq_true, ↓reduceIte, Option.bind_some, List.nil_append, List.length_nil]
          rw [w64 (x := (l.length : Int) - p) (by omega) (by omega), w64 (x := n + 4) (by omega) (by omega), if_neg c2, hw1, hw2]
          change (if 0 ≤ p then (if p ≤ p + n then (if p + n ≤ (l.length : Int) then (if 0 + (seg l p (p + n)).length < 140737488355328 then _ else none) else none) else none) else none) = _
          rw [if_pos (by omega), if_pos (by omega), if_pos (by omega), if_pos (by omega), if_pos (by omega), if_pos (by omega), if_pos (by omega)]
          refine congrArg _ (funext fun t => ?_)
          change (if 0 < ((seg l (p + n) (p + n + 4)).length : Int) then (if 1 < ((seg l (p + n) (p + n + 4)).length : Int) then (if 2 < ((seg l (p + n) (p + n + 4)).length : Int) then (if 3 < ((seg l (p + n) (p + n + 4)).length : Int) then _ else none) else none) else none) else none) = _
          rw [if_pos (by omega), if_pos (by omega), if_pos (by omega), if_pos (by omega)]
          rfl
        · refine Ev.bind (specSum_ev _ (seg_by l _ _ hb) (by omega)) ?_
          have hi := sum_word (seg l (p + n) (p + n + 4)) (sumOf (seg l p (p + n))) (seg_by l _ _ hb) (by omega) hs.1 hs.2
          have e : unsealOf l a = if seg l (p + n) (p + n + 4) = sum4 (seg l p (p + n)) then (seg l p (p + n), p + n + 4, 0) else ([], 0, 3) := by
            unfold unsealOf; rw [hG]; simp only [show n ≤ 3000 by omega, c2, and_self, ↓reduceIte]
          rw [e]
          by_cases c3 : seg l (p + n) (p + n + 4) = sum4 (seg l p (p + n))
          · rw [if_pos (hi.2 c3), if_pos c3]; exact Ev.now _
          · rw [if_neg (fun h => c3 (hi.1 h)), if_neg c3]; exact Ev.now _

theorem shl7 (k0 : Nat) (hk : k0 ≤ 8) (x c : Int) (hx0 : 0 ≤ x) (hx : x < p7 k0) (hc0 : 0 ≤ c) (hc : c < 128) : Go.bits .or .i64 x (shl .i64 c (wrap64 (7 * (k0 : Int)))) = x + c * p7 k0 := by
  have e0 : wrap64 (7 * (k0 : Int)) = ((7 * k0 : Nat) : Int) := by rw [w64 (by omega) (by omega)]; omega
  have e1 : (2 : Int) ^ (7 * k0) = p7 k0 := by rw [Int.pow_mul]; unfold p7; rfl
  have h7 : min (7 * k0) 64 = 7 * k0 := by omega
  have h63 : 7 * k0 ≤ 63 := by omega
  obtain ⟨h1, h2, h3, h4, h5⟩ := p128 k0 hk x c hx0 hx hc0 hc
  have e2 : shl .i64 c (wrap64 (7 * (k0 : Int))) = c * p7 k0 := by
    rw [e0]
    unfold shl
    rw [show IntKind.i64.bits = 64 from rfl, Int.toNat_natCast, h7, e1]
    exact wraps_i64 _ h1 (Int.lt_of_le_of_lt h2 (by decide))
  have e3 : Go.bits .or .i64 x (c * p7 k0) = Go.bits .or .i64 (c * p7 k0) x := by unfold Go.bits; simp only [BitVec.or_comm]
  have e4 : c * p7 k0 % 2 ^ (7 * k0) = 0 := by rw [e1]; exact Int.mul_emod_left _ _
  rw [e2, e3, or_join (7 * k0) h1 e4 h2 hx0 (by rw [e1]; exact hx) (Int.le_trans (Int.le_of_lt hx) (Int.le_trans (p7_b k0 hk).2 (by decide))), Int.add_comm]
theorem giStep {k0 : Nat} {c x : Int} (k8 : k0 ≤ 8) (hc : 0 ≤ c ∧ c ≤ 255) (hx0 : 0 ≤ x) (hx : x < p7 k0) : wrap64 c = c ∧ Go.bits .or .i64 x (shl .i64 (Go.bits .and .i64 c 127) (wrap64 (7 * (k0 : Int)))) = x + c % 128 * p7 k0 ∧ 0 ≤ x + c % 128 * p7 k0 ∧ x + c % 128 * p7 k0 < p7 (k0 + 1) := by
  have hp := p128 k0 k8 x (c % 128) hx0 hx (by omega) (by omega)
  refine ⟨w64 (by omega) (by omega), ?_, hp.2.2.1, hp.2.2.2.2⟩
  rw [show Go.bits .and .i64 c 127 = c % 128 from and_mask 7 (by decide) hc.1 (by omega)]
  exact shl7 k0 k8 x _ hx0 hx (by omega) (by omega)
theorem implGetNum_l (d : Nat) : ∀ (l : List Int) (at_ : Int) (k0 : Nat) (x : Int), By l → l.length ≤ 140737488355328 → 0 ≤ at_ → at_ ≤ 9223372036854775807 → k0 + d = 9 → 0 ≤ x → x < p7 k0 → Ev (fun k => impl_GetNum.l0 k l at_ x (k0 : Int)) (gn d l at_ k0 x) := by
  induction d with
  | zero =>
    intro l at_ k0 x hb hl h0 h1 hk hx0 hx
    refine Ev.step (f := fun k => impl_GetNum.j1 k l at_ x (k0 : Int) false) (fun k => ?_) ?_
    · simp only [impl_GetNum.l0]; rw [if_neg (by omega)]
    · refine Ev.step (f := fun _ => some (0, 0, false)) (fun k => ?_) (Ev.now _)
      simp only [impl_GetNum.j1]; rfl
  | succ d ih =>
    intro l at_ k0 x hb hl h0 h1 hk hx0 hx
    have k8 : k0 ≤ 8 := by omega
    have z0 : 0 ≤ at_ + (k0 : Int) := by omega
    have k9 : (k0 : Int) < 9 := by omega
    have e0 : wrap64 ((l.length : Int) - at_) = l.length - at_ := w64 (by omega) (by omega)
    have e6 : wrap64 ((k0 : Int) + 1) = ((k0 + 1 : Nat) : Int) := w64 (by omega) (by omega)
    have e7 : 0 ≤ wrap64 (7 * (k0 : Int)) := by rw [w64 (by omega) (by omega)]; omega
    have hk' : k0 + 1 + d = 9 := by omega
    have e14 : at_ + k0 < l.length → wrap64 (at_ + (k0 : Int)) = at_ + k0 ∧ wrap64 (at_ + (k0 : Int) + 1) = at_ + k0 + 1 ∧ (k0 : Int) < l.length - at_ := fun h => ⟨w64 (by omega) (by omega), w64 (by omega) (by omega), by omega⟩
    have e15 : ¬ at_ + k0 < l.length → ¬ (k0 : Int) < l.length - at_ := fun h => by omega
    obtain ⟨e2, e3, x0, x1⟩ := giStep k8 (hb.at_ (at_ + k0)) hx0 hx
    by_cases h : at_ + k0 < l.length
    · obtain ⟨e1, e4, h'⟩ := e14 h
      clear e14 e15
      refine Ev.step (f := fun k => impl_GetNum.j1 k l at_ x (k0 : Int) true) (fun k => ?_) ?_
      · simp only [impl_GetNum.l0, k9, e0, h', decide_true, ↓reduceIte]
      simp only [gn, h, ↓reduceIte]
      by_cases c1 : rd l (at_ + k0) < 128
      · have c1' : ¬ rd l (at_ + k0) > 127 := fun hh => absurd (Int.add_one_le_of_lt hh) (Int.not_le.2 c1)
        by_cases c2 : rd l (at_ + k0) = 0
        · by_cases c3 : 0 < k0
          · refine Ev.step (f := fun _ => some (0, 0, false)) (fun k => ?_) ?_
            · have c3' : (k0 : Int) > 0 := by omega
              simp only [impl_GetNum.j1, e1, z0, h, e7, ↓reduceIte]
              rw [e2, if_neg c1', if_pos c3', if_pos c2]
            · rw [if_pos c1, if_pos ⟨c2, c3⟩]; exact Ev.now _
          · refine Ev.step (f := fun _ => some (x + rd l (at_ + k0) % 128 * p7 k0, at_ + k0 + 1, true)) (fun k => ?_) ?_
            · have c3' : ¬ (k0 : Int) > 0 := by omega
              simp only [impl_GetNum.j1, e1, z0, h, e7, ↓reduceIte]
              rw [e2, if_neg c1', if_neg c3', e3, e4]
            · rw [if_pos c1, if_neg (fun hh => c3 hh.2)]; exact Ev.now _
        · refine Ev.step (f := fun _ => some (x + rd l (at_ + k0) % 128 * p7 k0, at_ + k0 + 1, true)) (fun k => ?_) ?_
          · simp only [impl_GetNum.j1, e1, z0, h, e7, ↓reduceIte]
            rw [e2, if_neg c1']
            by_cases c3 : (k0 : Int) > 0
            · rw [if_pos c3, if_neg c2, e3, e4]
            · rw [if_neg c3, e3, e4]
          · rw [if_pos c1, if_neg (fun hh => c2 hh.1)]; exact Ev.now _
      · have c1' : rd l (at_ + k0) > 127 := Int.lt_of_lt_of_le (by decide) (Int.not_lt.1 c1)
        refine Ev.step (f := fun k => impl_GetNum.l0 k l at_ (x + rd l (at_ + k0) % 128 * p7 k0) ((k0 + 1 : Nat) : Int)) (fun k => ?_) ?_
        · simp only [impl_GetNum.j1, e1, z0, h, e7, ↓reduceIte]
          rw [e2, if_pos c1', e3, e6]
        · rw [if_neg c1]; exact ih l at_ (k0 + 1) _ hb hl h0 h1 hk' x0 x1
    · have h' := e15 h
      clear e14 e15
      refine Ev.step (f := fun k => impl_GetNum.j1 k l at_ x (k0 : Int) false) (fun k => ?_) ?_
      · simp only [impl_GetNum.l0, k9, e0, h', decide_false, ↓reduceIte]
      · simp only [gn, h, ↓reduceIte]
        refine Ev.step (f := fun _ => some (0, 0, false)) (fun k => ?_) (Ev.now _)
        simp only [impl_GetNum.j1]; rfl
theorem implGetNum_ev (l : List Int) (at_ : Int) (hb : By l) (hl : l.length ≤ 140737488355328) (ha : at_ ≤ 9223372036854775807) : Ev (fun k => impl_GetNum.f k l at_) (getNum l at_) := by
  unfold impl_GetNum.f getNum
  by_cases h : at_ < 0
  · simp only [h, ↓reduceIte]; exact Ev.now _
  · simp only [h, ↓reduceIte]
    exact implGetNum_l 9 l at_ 0 0 hb hl (by omega) ha (by omega) (by omega) (by decide)

theorem implSum_l (rest : List Int) : ∀ (P : List Int) (x y n : Int), n = P.length + rest.length → By rest → P.length + rest.length ≤ 140737488355328 → 0 ≤ x → x < 65521 → 0 ≤ y → y < 65521 → Ev (fun k => impl_Sum.l0 k x y (P ++ rest) n (P.length : Int)) (sumGo rest x y) := by
  induction rest with
  | nil =>
    intro P x y n hn hb hl h0 h1 h2 h3
    refine Ev.step (f := fun _ => some (65536 * y + x)) (fun k => ?_) (Ev.now _)
    simp only [impl_Sum.l0]
    rw [if_neg (by simp at hn; omega), w64 (x := 65536 * y) (by omega) (by omega), w64 (by omega) (by omega)]
  | cons c t ih =>
    intro P x y n hn hb hl h0 h1 h2 h3
    have hc := hb c (by simp)
    simp only [List.length_cons] at hl hn
    have h := ih (P ++ [c]) ((x + c) % 65521) ((y + (x + c) % 65521) % 65521) n (by simp; omega) (fun z hz => hb z (by simp [hz])) (by simp; omega) (by omega) (by omega) (by omega) (by omega)
    refine Ev.step (fun k => ?_) h
    simp only [impl_Sum.l0]
    rw [if_pos (by omega), if_pos (by omega), if_pos (by simp; omega), rd_mid, w64 (x := c) (by omega) (by omega), w64 (x := x + c) (by omega) (by omega), Int.tmod_eq_emod_of_nonneg (by omega), w64 (x := y + _) (by omega) (by omega), Int.tmod_eq_emod_of_nonneg (by omega), w64 (by omega) (by omega)]
    simp
theorem implSum_ev (l : List Int) (hb : By l) (hl : l.length ≤ 140737488355328) : Ev (fun k => impl_Sum.f k l) (sumOf l) := by
  have h := implSum_l l [] 1 0 l.length (by simp) hb (by simpa using hl) (by omega) (by omega) (by omega) (by omega)
  simpa [impl_Sum.f, sumOf] using h

theorem mask255 {x : Int} (h0 : 0 ≤ x) (h1 : x ≤ 9223372036854775807) : Go.bits .and .i64 x 255 % 256 = x % 256 := by
  have e : Go.bits .and .i64 x 255 = x % 256 := and_mask 8 (by decide) h0 h1
  rw [e]; omega
theorem sumBytes_ev (l : List Int) (hb : By l) (hl : l.length ≤ 140737488355328) : Ev (fun k => impl_sumBytes.f k l) (sum4 l) := by
  unfold impl_sumBytes.f
  have h := sumOf_b l
  refine Ev.bind (implSum_ev l hb hl) ?_
  rw [mask255 (x := sumOf l) (by omega) (by omega), mask255 (x := sumOf l / 256) (by omega) (by omega), mask255 (x := sumOf l / 65536) (by omega) (by omega), mask255 (x := sumOf l / 16777216) (by omega) (by omega)]
  exact Ev.now _

theorem strOf_inj {a b : List Int} (ha : By a) (hb : By b) (h : strOfNums a = strOfNums b) : a = b := by
  have h2 : (a.map fun n => UInt8.ofNat n.toNat) = (b.map fun n => UInt8.ofNat n.toNat) := by
    have := congrArg (fun s : ByteArray => s.data.toList) h
    simpa [strOfNums_data] using this
  clear h
  induction a generalizing b with
  | nil => cases b with
    | nil => rfl
    | cons y t => simp at h2
  | cons x s ih => cases b with
    | nil => simp at h2
    | cons y t =>
      simp only [List.map_cons, List.cons.injEq] at h2
      have hx := ha x (by simp)
      have hy := hb y (by simp)
      have e := congrArg UInt8.toNat h2.1
      simp only [UInt8.toNat_ofNat'] at e
      have : x = y := by omega
      rw [this, ih (fun z hz => ha z (by simp [hz])) (fun z hz => hb z (by simp [hz])) h2.2]
theorem toList_inj {a b : ByteArray} (h : a.toList = b.toList) : a = b := by
  rw [ByteArray.toList_eq, ByteArray.toList_eq] at h
  exact ByteArray.ext (Array.toList_inj.1 h)
theorem strOf_iff {a b : List Int} (ha : By a) (hb : By b) : (strOfNums a).toList = (strOfNums b).toList ↔ a = b :=
  ⟨fun h => strOf_inj ha hb (toList_inj h), fun h => by rw [h]⟩

theorem implUnseal_ev (l : List Int) (a : Int) (hb : By l) (hl : l.length ≤ 1048576) (h0 : -9223372036854775808 ≤ a) (h1 : a ≤ 9223372036854775807) : Ev (fun k => impl_Unseal.f k l a) (unsealOf l a) := by
  have hg := getNum_b l a hb
  unfold impl_Unseal.f
  refine Ev.bind (implGetNum_ev l a hb (by omega) h1) ?_
  generalize hG : getNum l a = G at *
  obtain ⟨n, p, ok⟩ := G
  simp only at hg ⊢
  cases ok
  · simp only [Bool.false_eq_true, ↓reduceIte]
    refine Ev.step (f := fun _ => some ([], 0, 1)) (fun k => by simp only [impl_Unseal.j0, ↓reduceIte]) ?_
    unfold unsealOf; rw [hG]; simp only [Bool.false_eq_true, false_and, ↓reduceIte]; exact Ev.now _
  · simp only [↓reduceIte]
    by_cases c1 : n > 3000
    · refine Ev.step (f := fun _ => some ([], 0, 1)) (fun k => by simp only [impl_Unseal.j0, c1, decide_true, ↓reduceIte]) ?_
      unfold unsealOf; rw [hG]; simp only [show ¬ n ≤ 3000 by omega, and_false, ↓reduceIte]; exact Ev.now _
    · by_cases c2 : (l.length : Int) - p < n + 4
      · refine Ev.step (f := fun _ => some ([], 0, 2)) (fun k => ?_) ?_
        · simp only [impl_Unseal.j0, c1, decide_false, Bool.false_eq_true, ↓reduceIte]
          rw [w64 (x := (l.length : Int) - p) (by omega) (by omega), w64 (x := n + 4) (by omega) (by omega), if_pos (by omega)]
        · unfold unsealOf; rw [hG]; simp only [show n ≤ 3000 by omega, c2, and_self, ↓reduceIte]; exact Ev.now _
      · have hw1 : wrap64 (p + n) = p + n := w64 (by omega) (by omega)
        have hw2 : wrap64 (p + n + 4) = p + n + 4 := w64 (by omega) (by omega)
        have L1 := seg_len l p (p + n) (by omega) (by omega) (by omega)
        refine Ev.step (f := fun k => (impl_sumBytes.f k (seg l p (p + n))).bind fun t => if (strOfNums (seg l (p + n) (p + n + 4))).toList = (strOfNums t).toList then some (seg l p (p + n), p + n + 4, 0) else some ([], 0, 3)) (fun k => ?_) ?_
        · simp only [impl_Unseal.j0, c1, decide_false, Bool.false_eq_true, ↓reduceIte, Option.bind_some, List.nil_append, List.length_nil]
          rw [w64 (x := (l.length : Int) - p) (by omega) (by omega), w64 (x := n + 4) (by omega) (by omega), if_neg (by omega), hw1, hw2]
          change (if 0 ≤ p then (if p ≤ p + n then (if p + n ≤ (l.length : Int) then (if 0 + (seg l p (p + n)).length < 140737488355328 then _ else none) else none) else none) else none) = _
          rw [if_pos (by omega), if_pos (by omega), if_pos (by omega), if_pos (by omega), if_pos (by omega), if_pos (by omega), if_pos (by omega)]
          rfl
        · refine Ev.bind (sumBytes_ev _ (seg_by l _ _ hb) (by omega)) ?_
          have hi := strOf_iff (seg_by l (p + n) (p + n + 4) hb) (sum4_by (seg l p (p + n)))
          have e : unsealOf l a = if seg l (p + n) (p + n + 4) = sum4 (seg l p (p + n)) then (seg l p (p + n), p + n + 4, 0) else ([], 0, 3) := by
            unfold unsealOf; rw [hG]; simp only [show n ≤ 3000 by omega, c2, and_self, ↓reduceIte]
          rw [e]
          by_cases c3 : seg l (p + n) (p + n + 4) = sum4 (seg l p (p + n))
          · rw [if_pos (hi.2 c3), if_pos c3]; exact Ev.now _
          · rw [if_neg (fun h => c3 (hi.1 h)), if_neg c3]; exact Ev.now _

theorem bytesOf_by (s : ByteArray) : By (bytesOf s) := by
  intro x hx
  unfold bytesOf at hx
  obtain ⟨b, _, rfl⟩ := List.mem_map.1 hx
  have := b.toNat_lt
  omega

theorem unseal_b (l : List Int) (a : Int) (hb : By l) : 0 ≤ (unsealOf l a).2.1 ∧ (unsealOf l a).2.1 ≤ l.length := by
  have hg := getNum_b l a hb
  unfold unsealOf
  split
  · split
    · exact ⟨by simp, by simp⟩
    · split
      · exact ⟨by simp only; omega, by simp only; omega⟩
      · exact ⟨by simp, by simp⟩
  · exact ⟨by simp, by simp⟩
theorem unseal_end (l : List Int) (a : Int) (h : (l.length : Int) ≤ a) : (unsealOf l a).2.2 = 1 := by
  have : getNum l a = (0, 0, false) := by
    unfold getNum
    rw [if_neg (by omega)]
    simp only [gn]
    rw [if_neg (by omega)]
  unfold unsealOf
  rw [this]; simp
def jr : Nat → List Int → List ByteArray → Int → List ByteArray × Int
  | 0, _, acc, a => (acc, a)
  | d + 1, b, acc, a => if (unsealOf b a).2.2 = 0 then jr d b (acc ++ [strOfNums (unsealOf b a).1]) (unsealOf b a).2.1 else (acc, a)
theorem jr_len : ∀ (d : Nat) (b : List Int) (acc : List ByteArray) (a : Int), acc.length + d ≤ 2000 → (jr d b acc a).1.length ≤ 2000
  | 0, b, acc, a, h => by simpa [jr] using h
  | d + 1, b, acc, a, h => by
    simp only [jr]
    split
    · exact jr_len d b _ _ (by simp; omega)
    · simp only; omega
set_option maxRecDepth 100000 in
theorem specJr_l (b : List Int) (hb : By b) (hl : b.length ≤ 1048576) (d : Nat) : ∀ (acc : List ByteArray) (a : Int), acc.length + d = 2000 → 0 ≤ a → a ≤ b.length → Ev (fun k => spec_JournalRead.l0 k acc b a) (jr d b acc a) := by
  induction d with
  | zero =>
    intro acc a hd h0 h1
    have hj : Ev (fun k => spec_JournalRead.j1 k acc b a false) (acc, a) := by
      refine Ev.step (f := fun _ => some (acc, a)) (fun k => ?_) (Ev.now _)
      simp only [spec_JournalRead.j1, Bool.false_eq_true, ↓reduceIte]
    refine Ev.step (fun k => ?_) hj
    have e : decide ((acc.length : Int) < 2000) = false := decide_eq_false (by omega)
    simp only [spec_JournalRead.l0, e]
    split <;> rfl
  | succ d ih =>
    intro acc a hd h0 h1
    have hj : Ev (fun k => spec_JournalRead.j1 k acc b a false) (acc, a) := by
      refine Ev.step (f := fun _ => some (acc, a)) (fun k => ?_) (Ev.now _)
      simp only [spec_JournalRead.j1, Bool.false_eq_true, ↓reduceIte]
    have e : decide ((acc.length : Int) < 2000) = true := decide_eq_true (by omega)
    by_cases c : a < (b.length : Int)
    · refine Ev.step (f := fun k => spec_JournalRead.j1 k acc b a true) (fun k => by simp only [spec_JournalRead.l0, e]; rw [if_pos c]) ?_
      refine Ev.step (fun k => by simp only [spec_JournalRead.j1, ↓reduceIte]; rfl) ?_
      refine Ev.bind (specUnseal_ev b a hb hl (by omega) (by omega)) ?_
      have hu := unseal_b b a hb
      simp only [jr]
      by_cases c2 : (unsealOf b a).2.2 = 0
      · have k1 : acc.length < 8796093022208 := by omega
        simp only [c2, ↓reduceIte, k1]
        exact ih _ _ (by simp; omega) hu.1 hu.2
      · simp only [c2, ↓reduceIte]; exact Ev.now _
    · have hu := unseal_end b a (by omega)
      simp only [jr]
      rw [hu]
      simp only [show ¬ (1 : Int) = 0 by omega, ↓reduceIte]
      refine Ev.step (fun k => ?_) hj
      simp only [spec_JournalRead.l0]
      rw [if_neg c]
set_option maxRecDepth 100000 in
theorem implJr_l (b : List Int) (hb : By b) (hl : b.length ≤ 1048576) (d : Nat) : ∀ (acc : List ByteArray) (a : Int), acc.length + d = 2000 → 0 ≤ a → a ≤ b.length → Ev (fun k => impl_JournalRead.l0 k acc b a) (jr d b acc a) := by
  induction d with
  | zero =>
    intro acc a hd h0 h1
    refine Ev.step (f := fun _ => some (acc, a)) (fun k => ?_) (Ev.now _)
    simp only [impl_JournalRead.l0_s]
    rw [if_neg (by omega)]
  | succ d ih =>
    intro acc a hd h0 h1
    refine Ev.step (fun k => by simp only [impl_JournalRead.l0_s]; rw [if_pos (by omega)]) ?_
    refine Ev.bind (implUnseal_ev b a hb hl (by omega) (by omega)) ?_
    have hu := unseal_b b a hb
    simp only [jr]
    by_cases c2 : (unsealOf b a).2.2 = 0
    · have k1 : acc.length < 8796093022208 := by omega
      simp only [c2, ↓reduceIte, k1]
      exact ih _ _ (by simp; omega) hu.1 hu.2
    · simp only [c2, ↓reduceIte]; exact Ev.now _
theorem diskRead_size (room : Int) (l : List S112) (nm : Int) : ((diskRead room l nm).1.size : Int) ≤ dsize l := by
  have hn := dsize_nn l
  have hz : ((⟨#[]⟩ : ByteArray).size : Int) ≤ dsize l := by
    have : (⟨#[]⟩ : ByteArray).size = 0 := rfl
    omega
  unfold diskRead
  split
  · split
    · exact hz
    · have hb := idx_b nm l 0 (by omega)
      have hm := dsize_mem (rdF_mem l (idxName l nm 0) (by omega) (by omega))
      simp only [ByteArray.size_append]; omega
  · exact hz
def journalRead (room : Int) (l : List S112) (nm : Int) : List ByteArray × Int := if (diskRead room l nm).2 = true then jr 2000 (bytesOf (diskRead room l nm).1) [] 0 else ([], 0)
theorem journalRead_len (room : Int) (l : List S112) (nm : Int) : (journalRead room l nm).1.length ≤ 2000 := by
  unfold journalRead
  split
  · exact jr_len 2000 _ _ _ (by simp)
  · simp
theorem specJournalRead_ev (room : Int) (l : List S112) (nm : Int) (h1 : dsize l ≤ 1048576) (hl : l.length ≤ 1048576) : Ev (fun k => spec_JournalRead.f k room l nm) (journalRead room l nm) := by
  unfold spec_JournalRead.f journalRead
  simp only [Option.bind_some]
  refine Ev.bind (specDiskRead_ev room l nm (by omega) (by omega)) ?_
  have hs := diskRead_size room l nm
  cases h : (diskRead room l nm).2
  · simp only [Bool.false_eq_true, ↓reduceIte]; exact Ev.now _
  · have k1 : (diskRead room l nm).1.size ≤ 9223372036854775807 := by omega
    simp only [↓reduceIte, k1]
    exact specJr_l _ (bytesOf_by _) (by rw [bytesOf_length]; omega) 2000 [] 0 rfl (by omega) (by omega)
theorem implJournalRead_ev (room : Int) (l : List S112) (nm : Int) (h1 : dsize l ≤ 1048576) (hl : l.length ≤ 1048576) : Ev (fun k => impl_JournalRead.f k room l nm) (journalRead room l nm) := by
  unfold impl_JournalRead.f journalRead
  simp only [Option.bind_some]
  refine Ev.bind (implDiskRead_ev room l nm (by omega) (by omega)) ?_
  have hs := diskRead_size room l nm
  cases h : (diskRead room l nm).2
  · simp only [Bool.false_eq_true, ↓reduceIte]; exact Ev.now _
  · have k1 : (diskRead room l nm).1.size ≤ 9223372036854775807 := by omega
    simp only [↓reduceIte, k1]
    exact implJr_l _ (bytesOf_by _) (by rw [bytesOf_length]; omega) 2000 [] 0 rfl (by omega) (by omega)

def zC : Int × Int × Int × Int × ByteArray × Int × Bool := (0, 0, 0, 0, (⟨#[]⟩ : ByteArray), 0, false)
def cmFin (x1 x2 x3 x4 : Int) (d : ByteArray) (p : Int) : Int × Int × Int × Int × ByteArray × Int × Bool := if cmdOk x1 x2 x3 x4 d = true then (x1, x2, x3, x4, d, p, true) else zC
def seg32 (l : List Int) (p : Int) : ByteArray := strOfNums ((l.take (p + 32).toNat).drop p.toNat)
def cm3 (x2 : Int) (g : Int × Int × Bool) : Int × Int × Int × Int × ByteArray × Int × Bool := if g.2.2 = true then cmFin 3 x2 g.1 0 (⟨#[]⟩ : ByteArray) g.2.1 else zC
def cm2 (l : List Int) (x2 : Int) (g : Int × Int × Bool) : Int × Int × Int × Int × ByteArray × Int × Bool :=
  if g.2.2 = true then (if 32 ≤ (l.length : Int) - g.2.1 then cmFin 2 x2 0 g.1 (seg32 l g.2.1) (g.2.1 + 32) else zC) else zC
def cmB (l : List Int) (x1 : Int) (g : Int × Int × Bool) : Int × Int × Int × Int × ByteArray × Int × Bool :=
  if g.2.2 = true then (if x1 = 3 then cm3 g.1 (getNum l g.2.1) else if x1 = 2 then cm2 l g.1 (getNum l g.2.1) else cmFin x1 g.1 0 0 (⟨#[]⟩ : ByteArray) g.2.1) else zC
def cmA (l : List Int) (g : Int × Int × Bool) : Int × Int × Int × Int × ByteArray × Int × Bool :=
  if g.2.2 = true ∧ 1 ≤ g.1 ∧ g.1 ≤ 5 then (if g.1 = 1 then (1, 0, 0, 0, (⟨#[]⟩ : ByteArray), g.2.1, true) else cmB l g.1 (getNum l g.2.1)) else zC
def cmdRead (l : List Int) (a : Int) : Int × Int × Int × Int × ByteArray × Int × Bool := cmA l (getNum l a)
theorem cmdOk_short2 (x2 x4 : Int) : cmdOk 2 x2 0 x4 (⟨#[]⟩ : ByteArray) = false := by
  have h : ((⟨#[]⟩ : ByteArray).size : Int) = 0 := rfl
  unfold cmdOk
  rw [if_neg (by decide), if_pos rfl, h]
  simp
theorem cmdOk_out (x1 x2 x3 x4 : Int) (d : ByteArray) (h : ¬ (1 ≤ x1 ∧ x1 ≤ 5)) : cmdOk x1 x2 x3 x4 d = false := by
  unfold cmdOk
  rw [if_neg (by omega), if_neg (by omega), if_neg (by omega), if_neg (by omega)]
theorem cmdOk_one : cmdOk 1 0 0 0 (⟨#[]⟩ : ByteArray) = true := by
  have h : (⟨#[]⟩ : ByteArray).toList = [] := by rw [ByteArray.toList_eq]
  unfold cmdOk
  rw [h]
  simp

def entryOk (term ek er en es : Int) (dig : ByteArray) : Bool := inr term 1 1000000000 && cmdOk ek er en es dig
def zero6 (et ek er en es : Int) (dig : ByteArray) : Bool := et == 0 && ((ek == 0 && (er == 0 && (en == 0 && (es == 0 && (dig.toList == ([] : List UInt8)))))))
def recOk (kind term vote pos et ek er en es : Int) (dig : ByteArray) : Bool :=
  if kind = 1 then (inr term 0 1000000000 && (inr vote 0 5 && (pos == 0 && zero6 et ek er en es dig)))
  else if kind = 2 then (inr pos 1 80 && (entryOk et ek er en es dig && (term == 0 && vote == 0)))
  else if kind = 3 then (inr pos 0 80 && (term == 0 && (vote == 0 && zero6 et ek er en es dig)))
  else false

def zR : Int × Int × Int × Int × Int × Int × Int × Int × Int × ByteArray × Bool := (0, 0, 0, 0, 0, 0, 0, 0, 0, (⟨#[]⟩ : ByteArray), false)
def recFin (l : List Int) (x0 x1 x2 x3 x4 x5 x6 x7 x8 : Int) (x9 : ByteArray) (p : Int) : Int × Int × Int × Int × Int × Int × Int × Int × Int × ByteArray × Bool :=
  if p = (l.length : Int) then (if recOk x0 x1 x2 x3 x4 x5 x6 x7 x8 x9 = true then (x0, x1, x2, x3, x4, x5, x6, x7, x8, x9, true) else zR) else zR
def rr1b (l : List Int) (x : Int) (g : Int × Int × Bool) := if g.2.2 = true then recFin l 1 x g.1 0 0 0 0 0 0 (⟨#[]⟩ : ByteArray) g.2.1 else zR
def rr1 (l : List Int) (g : Int × Int × Bool) := if g.2.2 = true then rr1b l g.1 (getNum l g.2.1) else zR
def rr2c (l : List Int) (x y : Int) (d : Int × Int × Int × Int × ByteArray × Int × Bool) := if d.2.2.2.2.2.2 = true then recFin l 2 0 0 x y d.1 d.2.1 d.2.2.1 d.2.2.2.1 d.2.2.2.2.1 d.2.2.2.2.2.1 else zR
def rr2b (l : List Int) (x : Int) (g : Int × Int × Bool) := if g.2.2 = true then rr2c l x g.1 (cmdRead l g.2.1) else zR
def rr2 (l : List Int) (g : Int × Int × Bool) := if g.2.2 = true then rr2b l g.1 (getNum l g.2.1) else zR
def rr3 (l : List Int) (g : Int × Int × Bool) := if g.2.2 = true then recFin l 3 0 0 g.1 0 0 0 0 0 (⟨#[]⟩ : ByteArray) g.2.1 else zR
def rrA (l : List Int) (g : Int × Int × Bool) := if g.1 = 1 then rr1 l (getNum l g.2.1) else if g.1 = 2 then rr2 l (getNum l g.2.1) else if g.1 = 3 then rr3 l (getNum l g.2.1) else zR
def recRead (l : List Int) := rrA l (getNum l 0)
theorem recOk_out (x0 x1 x2 x3 x4 x5 x6 x7 x8 : Int) (x9 : ByteArray) (h1 : ¬ x0 = 1) (h2 : ¬ x0 = 2) (h3 : ¬ x0 = 3) : recOk x0 x1 x2 x3 x4 x5 x6 x7 x8 x9 = false := by
  unfold recOk; rw [if_neg h1, if_neg h2, if_neg h3]
theorem gn_near : ∀ (d k : Nat) (l : List Int) (a x : Int), 0 ≤ a → ((gn d l a k x).2.2 = true → (gn d l a k x).2.1 ≤ a + k + d) ∧ ((gn d l a k x).2.2 = false → gn d l a k x = (0, 0, false))
  | 0, k, l, a, x, ha => by simp [gn]
  | d + 1, k, l, a, x, ha => by
    simp only [gn]
    split
    · split
      · split
        · simp
        · simp only; exact ⟨fun _ => by omega, fun h => by simp at h⟩
      · have := gn_near d (k + 1) l a (x + rd l (a + k) % 128 * p7 k) ha
        exact ⟨fun h => by have := this.1 h; omega, this.2⟩
    · simp
theorem getNum_near (l : List Int) (a : Int) (h : (getNum l a).2.2 = true) : 0 ≤ a ∧ (getNum l a).2.1 ≤ a + 9 := by
  unfold getNum at *
  split at h
  · simp at h
  · rename_i c
    rw [if_neg c]
    exact ⟨by omega, by have := (gn_near 9 0 l a 0 (by omega)).1 h; omega⟩
theorem getNum_no (l : List Int) (a : Int) (h : (getNum l a).2.2 = false) : getNum l a = (0, 0, false) := by
  unfold getNum at *
  split
  · rfl
  · rename_i c
    rw [if_neg c] at h
    exact (gn_near 9 0 l a 0 (by omega)).2 h
theorem cmdRead_near (l : List Int) (a : Int) (h : (cmdRead l a).2.2.2.2.2.2 = true) : (cmdRead l a).2.2.2.2.2.1 ≤ a + 59 := by
  have hz : zC.2.2.2.2.2.2 = true → zC.2.2.2.2.2.1 ≤ a + 59 := fun h => by simp [zC] at h
  have hf : ∀ x1 x2 x3 x4 d p, p ≤ a + 59 → (cmFin x1 x2 x3 x4 d p).2.2.2.2.2.2 = true → (cmFin x1 x2 x3 x4 d p).2.2.2.2.2.1 ≤ a + 59 := fun x1 x2 x3 x4 d p hp => by
    unfold cmFin
    split
    · intro _; exact hp
    · exact hz
  revert h
  unfold cmdRead cmA
  split
  · rename_i h1
    have n1 := getNum_near l a h1.1
    split
    · intro _; simp only; omega
    · unfold cmB
      split
      · rename_i h2
        have n2 := getNum_near l _ h2
        split
        · unfold cm3
          split
          · rename_i h3
            have n3 := getNum_near l _ h3
            exact hf _ _ _ _ _ _ (by omega)
          · exact hz
        · split
          · unfold cm2
            split
            · rename_i h3
              have n3 := getNum_near l _ h3
              split
              · exact hf _ _ _ _ _ _ (by omega)
              · exact hz
            · exact hz
          · exact hf _ _ _ _ _ _ (by omega)
      · exact hz
  · exact hz
theorem recFin_far (l : List Int) (x0 x1 x2 x3 x4 x5 x6 x7 x8 : Int) (x9 : ByteArray) (p : Int) (h : p < l.length) : recFin l x0 x1 x2 x3 x4 x5 x6 x7 x8 x9 p = zR := by
  unfold recFin; rw [if_neg (by omega)]
theorem recRead_long (l : List Int) (hl : 3000 < (l.length : Int)) : recRead l = zR := by
  unfold recRead rrA
  by_cases h1 : (getNum l 0).2.2 = true
  · have n1 := getNum_near l 0 h1
    split
    · unfold rr1; split
      · rename_i h2
        have n2 := getNum_near l _ h2
        unfold rr1b; split
        · rename_i h3
          have n3 := getNum_near l _ h3
          exact recFin_far _ _ _ _ _ _ _ _ _ _ _ _ (by omega)
        · rfl
      · rfl
    · split
      · unfold rr2; split
        · rename_i h2
          have n2 := getNum_near l _ h2
          unfold rr2b; split
          · rename_i h3
            have n3 := getNum_near l _ h3
            unfold rr2c; split
            · rename_i h4
              have n4 := cmdRead_near l _ h4
              exact recFin_far _ _ _ _ _ _ _ _ _ _ _ _ (by omega)
            · rfl
          · rfl
        · rfl
      · split
        · unfold rr3; split
          · rename_i h2
            have n2 := getNum_near l _ h2
            exact recFin_far _ _ _ _ _ _ _ _ _ _ _ _ (by omega)
          · rfl
        · rfl
  · rw [getNum_no l 0 (by simpa using h1)]
    simp

theorem specCmdOk_ev (kind rel node size : Int) (dig : ByteArray) : Ev (fun k => spec_CmdOk.f k kind rel node size dig) (cmdOk kind rel node size dig) := by
  unfold spec_CmdOk.f
  simp only [l1In_eq, Option.bind_some]
  by_cases h1 : kind = 1
  · simp only [cmdOk, h1, ↓reduceIte]; exact Ev.now _
  · simp only [h1, ↓reduceIte]
    by_cases h2 : 2 ≤ kind ∧ kind ≤ 5
    · have e : inr kind 2 5 = true := decide_eq_true h2
      simp only [e, ↓reduceIte]
      refine Ev.step (f := fun _ => some (cmdOk kind rel node size dig)) (fun k => ?_) (Ev.now _)
      simp only [spec_CmdOk.j0, l1In_eq, Option.bind_some, ba_nil, cmdOk]
      have h3 : kind = 2 ∨ kind = 3 ∨ kind = 4 ∨ kind = 5 := by omega
      cases inr rel 1 1000 <;> rcases h3 with rfl | rfl | rfl | rfl <;> cases inr size 0 1000 <;> cases inr node 0 4 <;> by_cases hd : (dig.size : Int) = 32 <;> simp [hd]
    · have e : inr kind 2 5 = false := decide_eq_false h2
      simp only [e, Bool.false_eq_true, ↓reduceIte]
      refine Ev.step (f := fun _ => some false) (fun k => ?_) ?_
      · simp only [spec_CmdOk.j0, ↓reduceIte]
      · have : cmdOk kind rel node size dig = false := by
          unfold cmdOk
          rw [if_neg h1, if_neg (by omega), if_neg (by omega), if_neg (by omega)]
        rw [this]; exact Ev.now _

theorem l1Whole_eq (a : Int) : spec_l1Whole.f a = some (inr a 0 1000000000) := by unfold spec_l1Whole.f; rw [l1In_eq]; rfl
theorem l6EntryF_ev (term ek er en es : Int) (dig : ByteArray) : Ev (fun k => spec_l6Entry.f k term ek er en es dig) (entryOk term ek er en es dig) := by
  unfold spec_l6Entry.f entryOk
  simp only [l1In_eq, Option.bind_some]
  cases inr term 1 1000000000
  · simp only [Bool.false_eq_true, ↓reduceIte, Bool.false_and]; exact Ev.now _
  · simp only [↓reduceIte, Bool.true_and]
    refine Ev.bind (specCmdOk_ev ek er en es dig) ?_
    exact Ev.now _
theorem specRecOk_ev (kind term vote pos et ek er en es : Int) (dig : ByteArray) : Ev (fun k => spec_RecOk.f k kind term vote pos et ek er en es dig) (recOk kind term vote pos et ek er en es dig) := by
  unfold spec_RecOk.f recOk
  simp only [l1In_eq, l1Whole_eq, Option.bind_some]
  by_cases h1 : kind = 1
  · simp only [h1, ↓reduceIte]
    cases inr term 0 1000000000 <;> cases inr vote 0 5 <;> simp only [Bool.false_eq_true, ↓reduceIte, Bool.false_and, Bool.true_and] <;> exact Ev.now _
  · by_cases h2 : kind = 2
    · simp only [h2, ↓reduceIte, show ¬ (2 : Int) = 1 by omega]
      cases inr pos 1 80
      · simp only [Bool.false_eq_true, ↓reduceIte, Bool.false_and]; exact Ev.now _
      · simp only [↓reduceIte, Bool.true_and]
        refine Ev.bind (l6EntryF_ev et ek er en es dig) ?_
        cases entryOk et ek er en es dig <;> simp only [Bool.false_eq_true, ↓reduceIte, Bool.false_and, Bool.true_and] <;> exact Ev.now _
    · by_cases h3 : kind = 3
      · simp only [h3, ↓reduceIte, show ¬ (3 : Int) = 1 by omega, show ¬ (3 : Int) = 2 by omega]
        cases inr pos 0 80 <;> simp only [Bool.false_eq_true, ↓reduceIte, Bool.false_and, Bool.true_and] <;> exact Ev.now _
      · simp only [h1, h2, h3, ↓reduceIte]; exact Ev.now _

theorem crFin_ev (x1 x2 x3 x4 : Int) (d : ByteArray) (p : Int) : Ev (fun k => crFin k x1 x2 x3 x4 d p true) (cmFin x1 x2 x3 x4 d p) := by
  unfold crFin cmFin
  simp only [↓reduceIte]
  refine Ev.bind (specCmdOk_ev x1 x2 x3 x4 d) ?_
  cases cmdOk x1 x2 x3 x4 d
  · simp only [Bool.false_eq_true, ↓reduceIte]; exact Ev.now _
  · simp only [↓reduceIte]; exact Ev.now _
theorem specCmdRead_ev (l : List Int) (a : Int) (hb : By l) (hl : l.length ≤ 1048576) : Ev (fun k => spec_CmdRead.f k l a) (cmdRead l a) := by
  have h1 := getNum_b l a hb
  unfold spec_CmdRead.f cmdRead
  refine Ev.bind (specGetNum_ev l a hb (by omega)) ?_
  generalize getNum l a = G1 at *
  obtain ⟨x1, p1, ok1⟩ := G1
  simp only at h1 ⊢
  unfold cmA
  cases ok1
  · simp only [Bool.false_eq_true, ↓reduceIte, false_and]; exact Ev.now _
  simp only [↓reduceIte, true_and, l1In_eq, Option.bind_some]
  by_cases hin : 1 ≤ x1 ∧ x1 ≤ 5
  · rw [show inr x1 1 5 = true from decide_eq_true hin]
    simp only [hin, and_self, ↓reduceIte]
    by_cases e1 : x1 = 1
    · simp only [e1, ↓reduceIte]; exact Ev.now _
    simp only [e1, ↓reduceIte]
    have h2 := getNum_b l p1 hb
    unfold cmB
    refine Ev.bind (specGetNum_ev l p1 hb (by omega)) ?_
    generalize getNum l p1 = G2 at *
    obtain ⟨x2, p2, ok2⟩ := G2
    simp only at h2 ⊢
    cases ok2
    · simp only [Bool.false_eq_true, ↓reduceIte]; exact Ev.now _
    simp only [↓reduceIte]
    by_cases e3 : x1 = 3
    · simp only [e3, ↓reduceIte]
      refine Ev.bind (specGetNum_ev l p2 hb (by omega)) ?_
      generalize getNum l p2 = G3 at *
      obtain ⟨x3, p3, ok3⟩ := G3
      unfold cm3
      cases ok3
      · simp only [Bool.false_eq_true, ↓reduceIte]; exact Ev.now _
      · simp only [↓reduceIte]; exact crFin_ev _ _ _ _ _ _
    simp only [e3, ↓reduceIte]
    by_cases e2 : x1 = 2
    · simp only [e2, ↓reduceIte]
      have h3 := getNum_b l p2 hb
      refine Ev.bind (specGetNum_ev l p2 hb (by omega)) ?_
      generalize getNum l p2 = G3 at *
      obtain ⟨x3, p3, ok3⟩ := G3
      simp only at h3 ⊢
      unfold cm2
      cases ok3
      · simp only [Bool.false_eq_true, ↓reduceIte]; exact Ev.now _
      have hw : wrap64 ((l.length : Int) - p3) = (l.length : Int) - p3 := w64 (by omega) (by omega)
      simp only [↓reduceIte, hw]
      by_cases c : 32 ≤ (l.length : Int) - p3
      · simp only [show (l.length : Int) - p3 ≥ 32 from c, show 0 ≤ p3 ∧ p3 + 32 ≤ (l.length : Int) from ⟨by omega, by omega⟩, c, and_self, ↓reduceIte]
        exact crFin_ev _ _ _ _ _ _
      · simp only [show ¬ (l.length : Int) - p3 ≥ 32 from c, c, ↓reduceIte]
        have := crFin_ev 2 x2 0 x3 (⟨#[]⟩ : ByteArray) p3
        unfold cmFin at this
        rw [cmdOk_short2] at this
        exact this
    · simp only [e2, ↓reduceIte]; exact crFin_ev _ _ _ _ _ _
  · rw [show inr x1 1 5 = false from decide_eq_false hin]
    simp only [hin, Bool.false_eq_true, ↓reduceIte]; exact Ev.now _

theorem srEnd_ev (l : List Int) (x0 x1 x2 x3 x4 x5 x6 x7 x8 : Int) (x9 : ByteArray) (p : Int) : Ev (fun k => srEnd k l x0 x1 x2 x3 x4 x5 x6 x7 x8 x9 p true true) (recFin l x0 x1 x2 x3 x4 x5 x6 x7 x8 x9 p) := by
  unfold srEnd recFin
  simp only [↓reduceIte]
  by_cases h : p = (l.length : Int)
  · simp only [h, ↓reduceIte]
    refine Ev.bind (specRecOk_ev x0 x1 x2 x3 x4 x5 x6 x7 x8 x9) ?_
    cases recOk x0 x1 x2 x3 x4 x5 x6 x7 x8 x9
    · simp only [Bool.false_eq_true, ↓reduceIte]; exact Ev.now _
    · simp only [↓reduceIte]; exact Ev.now _
  · simp only [h, ↓reduceIte]; exact Ev.now _
theorem srEnd_no (k : Nat) (l : List Int) (x0 x1 x2 x3 x4 x5 x6 x7 x8 : Int) (x9 : ByteArray) (p : Int) (f : Bool) : srEnd k l x0 x1 x2 x3 x4 x5 x6 x7 x8 x9 p false f = some zR := rfl
theorem srEnd_nf (k : Nat) (l : List Int) (x0 x1 x2 x3 x4 x5 x6 x7 x8 : Int) (x9 : ByteArray) (p : Int) : srEnd k l x0 x1 x2 x3 x4 x5 x6 x7 x8 x9 p true false = some zR := rfl
theorem recFin_out (l : List Int) (x0 x1 x2 x3 x4 x5 x6 x7 x8 : Int) (x9 : ByteArray) (p : Int) (h1 : ¬ x0 = 1) (h2 : ¬ x0 = 2) (h3 : ¬ x0 = 3) : recFin l x0 x1 x2 x3 x4 x5 x6 x7 x8 x9 p = zR := by
  unfold recFin; rw [recOk_out _ _ _ _ _ _ _ _ _ _ h1 h2 h3]; simp
theorem srAt_ev (l : List Int) (hb : By l) (hl : l.length ≤ 3000) : Ev (fun k => srAt k l) (recRead l) := by
  unfold srAt recRead
  refine Ev.bind (specGetNum_ev l 0 hb (by omega)) ?_
  generalize getNum l 0 = G1
  obtain ⟨x1, p1, o1⟩ := G1
  unfold rrA
  simp only
  have n2 := specGetNum_ev l p1 hb (by omega)
  by_cases e1 : x1 = 1
  · simp only [e1, ↓reduceIte]
    refine Ev.bind n2 ?_
    generalize getNum l p1 = G2
    obtain ⟨x2, p2, o2⟩ := G2
    unfold rr1
    cases o2
    · simp only [Bool.false_eq_true, ↓reduceIte]; exact Ev.now _
    simp only [↓reduceIte]
    refine Ev.bind (specGetNum_ev l p2 hb (by omega)) ?_
    generalize getNum l p2 = G3
    obtain ⟨x3, p3, o3⟩ := G3
    unfold rr1b
    cases o3
    · simp only [srEnd_no, Bool.false_eq_true, ↓reduceIte]; exact Ev.now _
    · simp only [↓reduceIte]; exact srEnd_ev _ _ _ _ _ _ _ _ _ _ _ _
  simp only [e1, ↓reduceIte]
  by_cases e2 : x1 = 2
  · simp only [e2, ↓reduceIte]
    refine Ev.bind n2 ?_
    generalize getNum l p1 = G2
    obtain ⟨x2, p2, o2⟩ := G2
    unfold rr2
    cases o2
    · simp only [Bool.false_eq_true, ↓reduceIte]; exact Ev.now _
    simp only [↓reduceIte]
    refine Ev.bind (specGetNum_ev l p2 hb (by omega)) ?_
    generalize getNum l p2 = G3
    obtain ⟨x3, p3, o3⟩ := G3
    unfold rr2b
    cases o3
    · simp only [Bool.false_eq_true, ↓reduceIte]; exact Ev.now _
    simp only [↓reduceIte]
    refine Ev.bind (specCmdRead_ev l p3 hb (by omega)) ?_
    generalize cmdRead l p3 = D
    obtain ⟨d1, d2, d3, d4, d5, d6, d7⟩ := D
    unfold rr2c
    cases d7
    · simp only [srEnd_nf, Bool.false_eq_true, ↓reduceIte]; exact Ev.now _
    · simp only [↓reduceIte]; exact srEnd_ev _ _ _ _ _ _ _ _ _ _ _ _
  simp only [e2, ↓reduceIte]
  by_cases e3 : x1 = 3
  · simp only [e3, ↓reduceIte]
    refine Ev.bind n2 ?_
    generalize getNum l p1 = G2
    obtain ⟨x2, p2, o2⟩ := G2
    unfold rr3
    cases o2
    · simp only [srEnd_no, Bool.false_eq_true, ↓reduceIte]; exact Ev.now _
    · simp only [↓reduceIte]; exact srEnd_ev _ _ _ _ _ _ _ _ _ _ _ _
  simp only [e3, ↓reduceIte]
  cases o1
  · simp only [srEnd_no]; exact Ev.now _
  · have := srEnd_ev l x1 0 0 0 0 0 0 0 0 (⟨#[]⟩ : ByteArray) p1
    rw [recFin_out _ _ _ _ _ _ _ _ _ _ _ _ e1 e2 e3] at this
    exact this
theorem specRecRead_ev (s : ByteArray) (hs : s.size ≤ 1048576) : Ev (fun k => spec_RecRead.f k s) (recRead (bytesOf s)) := by
  have hl := bytesOf_length s
  unfold spec_RecRead.f
  simp only [show s.size ≤ 9223372036854775807 by omega, ↓reduceIte]
  by_cases h : ((bytesOf s).length : Int) > 3000
  · simp only [h, ↓reduceIte]
    rw [recRead_long _ (by omega)]
    exact Ev.now _
  · simp only [h, ↓reduceIte]
    exact srAt_ev _ (bytesOf_by s) (by omega)

theorem isRelease_eq (a : Int) : impl_isRelease.f a = some (inr a 1 1000) := by unfold impl_isRelease.f; rw [within_eq]; rfl
theorem isSize_eq (a : Int) : impl_isSize.f a = some (inr a 0 1000) := by unfold impl_isSize.f; rw [within_eq]; rfl
theorem isNode_eq (a : Int) : impl_isNode.f a = some (inr a 0 4) := by unfold impl_isNode.f; rw [within_eq]; rfl
theorem implCmdOk_j2 (k : Nat) (x : Bool) (a b c d : Int) (s : ByteArray) : impl_CmdOk.j2 (k + 1) x a b c d s = some (x && (a == 0 && (b == 0 && (c == 0 && (d == 0 && (s.toList == ([] : List UInt8))))))) := by
  simp only [impl_CmdOk.j2]; cases x <;> simp
theorem implCmdOk_ev (kind rel node size : Int) (dig : ByteArray) : Ev (fun k => impl_CmdOk.f k kind rel node size dig) (cmdOk kind rel node size dig) := by
  refine ⟨3, fun k hk => ?_⟩
  obtain ⟨k, rfl⟩ : ∃ m, k = m + 3 := ⟨k - 3, by omega⟩
  unfold impl_CmdOk.f
  simp only [isRelease_eq, isSize_eq, isNode_eq, Option.bind_some, cmdOk]
  by_cases h1 : kind = 1
  · simp only [h1, ↓reduceIte]; rw [implCmdOk_j2]; simp
  · by_cases h2 : kind = 2
    · simp only [h2, ↓reduceIte]
      cases inr rel 1 1000 <;> cases inr size 0 1000 <;> by_cases hd : (dig.size : Int) = 32 <;> simp [impl_CmdOk.j0, implCmdOk_j2, ba_nil, hd]
    · by_cases h3 : kind = 3
      · simp only [h3, ↓reduceIte]
        cases inr rel 1 1000 <;> cases inr node 0 4 <;> simp [impl_CmdOk.j1, implCmdOk_j2]
      · by_cases h4 : kind = 4
        · simp only [h4, ↓reduceIte]
          cases inr rel 1 1000 <;> simp [impl_CmdOk.j1, implCmdOk_j2]
        · by_cases h5 : kind = 5
          · simp only [h5, ↓reduceIte]
            cases inr rel 1 1000 <;> simp [impl_CmdOk.j1, implCmdOk_j2]
          · simp [h1, h2, h3, h4, h5, impl_CmdOk.j1]

theorem isWhole_eq (a : Int) : impl_isWhole.f a = some (inr a 0 1000000000) := by unfold impl_isWhole.f; rw [within_eq]; rfl
theorem entryOk_ev (term ek er en es : Int) (dig : ByteArray) : Ev (fun k => impl_entryOk.f k term ek er en es dig) (entryOk term ek er en es dig) := by
  unfold impl_entryOk.f entryOk
  simp only [within_eq, Option.bind_some]
  cases inr term 1 1000000000
  · simp only [Bool.false_eq_true, ↓reduceIte, Bool.false_and]; exact Ev.now _
  · simp only [↓reduceIte, Bool.true_and]
    refine Ev.bind (implCmdOk_ev ek er en es dig) ?_
    exact Ev.now _
theorem implRecOk_ev (kind term vote pos et ek er en es : Int) (dig : ByteArray) : Ev (fun k => impl_RecOk.f k kind term vote pos et ek er en es dig) (recOk kind term vote pos et ek er en es dig) := by
  unfold impl_RecOk.f recOk
  simp only [within_eq, isWhole_eq, Option.bind_some]
  by_cases h1 : kind = 1
  · simp only [h1, ↓reduceIte, if_eq0, if_tt]
    exact Ev.now _
  · by_cases h2 : kind = 2
    · simp only [h2, ↓reduceIte, show ¬ (2 : Int) = 1 by omega, if_eq0]
      cases inr pos 1 80
      · simp only [Bool.false_eq_true, ↓reduceIte, Bool.false_and]; exact Ev.now _
      · simp only [↓reduceIte, Bool.true_and]
        refine Ev.bind (entryOk_ev et ek er en es dig) ?_
        simp only [if_tt]
        exact Ev.now _
    · by_cases h3 : kind = 3
      · simp only [h3, ↓reduceIte, show ¬ (3 : Int) = 1 by omega, show ¬ (3 : Int) = 2 by omega, if_eq0, if_tt]
        exact Ev.now _
      · simp only [h1, h2, h3, ↓reduceIte]; exact Ev.now _

theorem rdNum_ev (l : List Int) (a : Int) (bad : Bool) (hb : By l) (hl : l.length ≤ 140737488355328) (ha : a ≤ 9223372036854775807) :
    Ev (fun k => rdNum k l a bad) (if bad = true then (0, a, true) else if (getNum l a).2.2 = true then ((getNum l a).1, (getNum l a).2.1, false) else (0, a, true)) := by
  unfold rdNum
  refine Ev.bind (implGetNum_ev l a hb hl ha) ?_
  exact Ev.now _
theorem rdBytes_bad (l : List Int) (a n : Int) : rdBytes l a true n = some (ByteArray.empty, a, true) := rfl
theorem rdBytes_no (l : List Int) (a n : Int) (h0 : 0 ≤ a) (h1 : a ≤ l.length) (hl : l.length ≤ 140737488355328) (h : n > (l.length : Int) - a) : rdBytes l a false n = some (ByteArray.empty, a, true) := by
  unfold rdBytes
  rw [if_neg (by simp), if_pos (by rw [w64 (by omega) (by omega)]; exact h)]
theorem rdBytes_ok (l : List Int) (a n : Int) (h0 : 0 ≤ a) (h1 : a ≤ l.length) (hl : l.length ≤ 140737488355328) (hn : 0 ≤ n) (h : ¬ n > (l.length : Int) - a) : rdBytes l a false n = some (strOfNums ((l.take (a + n).toNat).drop a.toNat), a + n, false) := by
  unfold rdBytes
  rw [if_neg (by simp), if_neg (by rw [w64 (by omega) (by omega)]; exact h), if_pos ⟨h0, hn, by omega⟩]

def numV (l : List Int) (a : Int) (bad : Bool) : Int × Int × Bool := if bad = true then (0, a, true) else if (getNum l a).2.2 = true then ((getNum l a).1, (getNum l a).2.1, false) else (0, a, true)
def rcV (x1 x2 x3 x4 : Int) (d : ByteArray) (p : Int) (bad : Bool) : Int × Int × Int × Int × ByteArray × Int × Bool :=
  if bad = true then (0, 0, 0, 0, (⟨#[]⟩ : ByteArray), p, true) else if cmdOk x1 x2 x3 x4 d = true then (x1, x2, x3, x4, d, p, false) else (0, 0, 0, 0, (⟨#[]⟩ : ByteArray), p, true)
def bytesV (l : List Int) (p : Int) (bad : Bool) : ByteArray × Int × Bool := if bad = true then (ByteArray.empty, p, true) else if 32 > (l.length : Int) - p then (ByteArray.empty, p, true) else (seg32 l p, p + 32, false)
def rdCmdV (l : List Int) (a : Int) (bad : Bool) : Int × Int × Int × Int × ByteArray × Int × Bool :=
  if (numV l a bad).1 = 1 then rcV 1 0 0 0 (⟨#[]⟩ : ByteArray) (numV l a bad).2.1 (numV l a bad).2.2
  else if (numV l a bad).1 = 3 then (fun B : Int × Int × Bool => rcV 3 B.1 (numV l B.2.1 B.2.2).1 0 (⟨#[]⟩ : ByteArray) (numV l B.2.1 B.2.2).2.1 (numV l B.2.1 B.2.2).2.2) (numV l (numV l a bad).2.1 (numV l a bad).2.2)
  else if (numV l a bad).1 = 2 then (fun B : Int × Int × Bool => (fun D : Int × Int × Bool => rcV 2 B.1 0 D.1 (bytesV l D.2.1 D.2.2).1 (bytesV l D.2.1 D.2.2).2.1 (bytesV l D.2.1 D.2.2).2.2) (numV l B.2.1 B.2.2)) (numV l (numV l a bad).2.1 (numV l a bad).2.2)
  else rcV (numV l a bad).1 (numV l (numV l a bad).2.1 (numV l a bad).2.2).1 0 0 (⟨#[]⟩ : ByteArray) (numV l (numV l a bad).2.1 (numV l a bad).2.2).2.1 (numV l (numV l a bad).2.1 (numV l a bad).2.2).2.2
theorem numV_b (l : List Int) (a : Int) (bad : Bool) (hb : By l) (ha : a ≤ 9223372036854775807) (hl : l.length ≤ 140737488355328) : (numV l a bad).2.1 ≤ 9223372036854775807 ∧ ((numV l a bad).2.2 = false → 0 ≤ (numV l a bad).2.1 ∧ (numV l a bad).2.1 ≤ l.length) := by
  have h := getNum_b l a hb
  unfold numV
  cases bad
  · cases hk : (getNum l a).2.2
    · simp only [Bool.false_eq_true, ↓reduceIte]; exact ⟨ha, fun h => by simp at h⟩
    · simp only [Bool.false_eq_true, ↓reduceIte]; exact ⟨by omega, fun _ => by omega⟩
  · simp only [↓reduceIte]; exact ⟨ha, fun h => by simp at h⟩
theorem rdNum_ev' (l : List Int) (a : Int) (bad : Bool) (hb : By l) (hl : l.length ≤ 140737488355328) (ha : a ≤ 9223372036854775807) : Ev (fun k => rdNum k l a bad) (numV l a bad) := rdNum_ev l a bad hb hl ha
theorem rcFin_ev (x1 x2 x3 x4 : Int) (d : ByteArray) (p : Int) (bad : Bool) : Ev (fun k => rcFin k x1 x2 x3 x4 d p bad) (rcV x1 x2 x3 x4 d p bad) := by
  unfold rcFin rcV
  cases bad
  · simp only [Bool.false_eq_true, ↓reduceIte]
    refine Ev.bind (implCmdOk_ev x1 x2 x3 x4 d) ?_
    cases cmdOk x1 x2 x3 x4 d
    · simp only [Bool.false_eq_true, ↓reduceIte]; exact Ev.now _
    · simp only [↓reduceIte]; exact Ev.now _
  · simp only [↓reduceIte]; exact Ev.now _
theorem rdBytes_V (l : List Int) (p : Int) (bad : Bool) (hl : l.length ≤ 140737488355328) (h : bad = false → 0 ≤ p ∧ p ≤ l.length) : rdBytes l p bad 32 = some (bytesV l p bad) := by
  unfold bytesV
  cases bad
  · obtain ⟨h0, h1⟩ := h rfl
    by_cases c : 32 > (l.length : Int) - p
    · rw [rdBytes_no l p 32 h0 h1 hl c]; simp only [Bool.false_eq_true, ↓reduceIte, c]
    · rw [rdBytes_ok l p 32 h0 h1 hl (by omega) c]; simp only [Bool.false_eq_true, ↓reduceIte, c]; rfl
  · rw [rdBytes_bad]; simp only [↓reduceIte]
theorem rdCmd_ev (l : List Int) (a : Int) (bad : Bool) (hb : By l) (hl : l.length ≤ 140737488355328) (ha : a ≤ 9223372036854775807) : Ev (fun k => rdCmd k l a bad) (rdCmdV l a bad) := by
  have b1 := numV_b l a bad hb ha hl
  unfold rdCmd rdCmdV
  refine Ev.bind (rdNum_ev' l a bad hb hl ha) ?_
  generalize numV l a bad = A at *
  obtain ⟨x1, p1, o1⟩ := A
  simp only at b1 ⊢
  have b2 := numV_b l p1 o1 hb b1.1 hl
  have n2 := rdNum_ev' l p1 o1 hb hl b1.1
  by_cases e1 : x1 = 1
  · simp only [e1, ↓reduceIte]; exact rcFin_ev _ _ _ _ _ _ _
  simp only [e1, ↓reduceIte]
  refine Ev.bind n2 ?_
  generalize numV l p1 o1 = B at *
  obtain ⟨x2, p2, o2⟩ := B
  simp only at b2 ⊢
  have b3 := numV_b l p2 o2 hb b2.1 hl
  have n3 := rdNum_ev' l p2 o2 hb hl b2.1
  by_cases e3 : x1 = 3
  · simp only [e3, ↓reduceIte]
    refine Ev.bind n3 ?_
    exact rcFin_ev _ _ _ _ _ _ _
  simp only [e3, ↓reduceIte]
  by_cases e2 : x1 = 2
  · simp only [e2, ↓reduceIte]
    refine Ev.bind n3 ?_
    rw [rdBytes_V l _ _ hl b3.2]
    simp only [Option.bind_some]
    exact rcFin_ev _ _ _ _ _ _ _
  · simp only [e2, ↓reduceIte]
    exact rcFin_ev _ _ _ _ _ _ _
theorem rcV_true (x1 x2 x3 x4 : Int) (d : ByteArray) (p : Int) : rcV x1 x2 x3 x4 d p true = (0, 0, 0, 0, (⟨#[]⟩ : ByteArray), p, true) := rfl
theorem numV_true (l : List Int) (a : Int) : numV l a true = (0, a, true) := rfl
theorem bytesV_true (l : List Int) (p : Int) : bytesV l p true = (ByteArray.empty, p, true) := rfl
theorem rdCmdV_bad (l : List Int) (a : Int) : (rdCmdV l a true).2.2.2.2.2.2 = true := by
  unfold rdCmdV
  simp only [numV_true, show ¬ ((0 : Int) = 1) by decide, show ¬ ((0 : Int) = 3) by decide, show ¬ ((0 : Int) = 2) by decide, ↓reduceIte, rcV_true]
/-- What the reader's command comes to, against the reference's. -/
def outC (v : Int × Int × Int × Int × ByteArray × Int × Bool) : Int × Int × Int × Int × ByteArray × Int × Bool := if v.2.2.2.2.2.2 = true then zC else (v.1, v.2.1, v.2.2.1, v.2.2.2.1, v.2.2.2.2.1, v.2.2.2.2.2.1, true)
theorem outC_rcV (x1 x2 x3 x4 : Int) (d : ByteArray) (p : Int) : outC (rcV x1 x2 x3 x4 d p false) = cmFin x1 x2 x3 x4 d p := by
  unfold outC rcV cmFin
  cases cmdOk x1 x2 x3 x4 d <;> simp
theorem outC_bad (x1 x2 x3 x4 : Int) (d : ByteArray) (p : Int) : outC (rcV x1 x2 x3 x4 d p true) = zC := rfl
theorem rdCmdV_out (l : List Int) (a : Int) : outC (rdCmdV l a false) = cmdRead l a := by
  unfold rdCmdV cmdRead cmA
  cases hk : (getNum l a).2.2
  · have hn : numV l a false = (0, a, true) := by unfold numV; simp [hk]
    simp only [hn, numV_true, show ¬ ((0 : Int) = 1) by decide, show ¬ ((0 : Int) = 3) by decide, show ¬ ((0 : Int) = 2) by decide, Bool.false_eq_true, false_and, ↓reduceIte, outC_bad]
  have hn : numV l a false = ((getNum l a).1, (getNum l a).2.1, false) := by unfold numV; simp [hk]
  simp only [hn, true_and]
  generalize getNum l a = G at *
  obtain ⟨x1, p1, o1⟩ := G
  simp only at hk hn ⊢
  by_cases e1 : x1 = 1
  · subst e1
    simp only [↓reduceIte, outC_rcV, cmFin, cmdOk_one, Int.le_refl, show (1 : Int) ≤ 5 by decide, and_self]
  simp only [e1, ↓reduceIte]
  unfold cmB
  cases hk2 : (getNum l p1).2.2
  · have hn2 : numV l p1 false = (0, p1, true) := by unfold numV; simp [hk2]
    simp only [hn2, numV_true, bytesV_true, outC_bad, Bool.false_eq_true, ↓reduceIte, ite_self]
    split
    · rfl
    · split <;> rfl
  have hn2 : numV l p1 false = ((getNum l p1).1, (getNum l p1).2.1, false) := by unfold numV; simp [hk2]
  simp only [hn2, ↓reduceIte]
  generalize getNum l p1 = G2 at *
  obtain ⟨x2, p2, o2⟩ := G2
  simp only at hk2 hn2 ⊢
  by_cases e3 : x1 = 3
  · subst e3
    simp only [↓reduceIte, show (1 : Int) ≤ 3 ∧ (3 : Int) ≤ 5 from ⟨by decide, by decide⟩, and_self]
    unfold cm3
    cases hk3 : (getNum l p2).2.2
    · have hn3 : numV l p2 false = (0, p2, true) := by unfold numV; simp [hk3]
      simp only [hn3, outC_bad, Bool.false_eq_true, ↓reduceIte]
    · have hn3 : numV l p2 false = ((getNum l p2).1, (getNum l p2).2.1, false) := by unfold numV; simp [hk3]
      simp only [hn3, outC_rcV, ↓reduceIte]
  by_cases e2 : x1 = 2
  · subst e2
    simp only [show ¬ ((2 : Int) = 3) by decide, ↓reduceIte, show (1 : Int) ≤ 2 ∧ (2 : Int) ≤ 5 from ⟨by decide, by decide⟩, and_self]
    unfold cm2
    cases hk3 : (getNum l p2).2.2
    · have hn3 : numV l p2 false = (0, p2, true) := by unfold numV; simp [hk3]
      simp only [hn3, bytesV_true, outC_bad, Bool.false_eq_true, ↓reduceIte]
    · have hn3 : numV l p2 false = ((getNum l p2).1, (getNum l p2).2.1, false) := by unfold numV; simp [hk3]
      simp only [hn3, ↓reduceIte]
      unfold bytesV
      by_cases c : 32 ≤ (l.length : Int) - (getNum l p2).2.1
      · rw [if_neg (show ¬ (false = true) by decide), if_neg (show ¬ 32 > (l.length : Int) - (getNum l p2).2.1 by omega), if_pos c]
        exact outC_rcV _ _ _ _ _ _
      · rw [if_neg (show ¬ (false = true) by decide), if_pos (show 32 > (l.length : Int) - (getNum l p2).2.1 by omega), if_neg c]
        rfl
  simp only [e3, e2, ↓reduceIte, outC_rcV]
  by_cases hin : 1 ≤ x1 ∧ x1 ≤ 5
  · rw [if_pos hin]
  · rw [if_neg hin]
    unfold cmFin
    rw [cmdOk_out _ _ _ _ _ hin]
    rfl

theorem rrEnd_ev (l : List Int) (x0 x1 x2 x3 x4 x5 x6 x7 x8 : Int) (x9 : ByteArray) (p : Int) : Ev (fun k => rrEnd k l x0 x1 x2 x3 x4 x5 x6 x7 x8 x9 p false) (recFin l x0 x1 x2 x3 x4 x5 x6 x7 x8 x9 p) := by
  unfold rrEnd recFin
  simp only [Bool.false_eq_true, ↓reduceIte]
  by_cases h : p = (l.length : Int)
  · simp only [h, decide_true, ↓reduceIte]
    refine Ev.bind (implRecOk_ev x0 x1 x2 x3 x4 x5 x6 x7 x8 x9) ?_
    cases recOk x0 x1 x2 x3 x4 x5 x6 x7 x8 x9
    · simp only [Bool.false_eq_true, ↓reduceIte]; exact Ev.now _
    · simp only [↓reduceIte]; exact Ev.now _
  · simp only [h, decide_false, Bool.false_eq_true, ↓reduceIte]; exact Ev.now _
theorem rrEnd_bad (k : Nat) (l : List Int) (x0 x1 x2 x3 x4 x5 x6 x7 x8 : Int) (x9 : ByteArray) (p : Int) : rrEnd k l x0 x1 x2 x3 x4 x5 x6 x7 x8 x9 p true = some zR := rfl
theorem numV_ok (l : List Int) (a : Int) (h : (getNum l a).2.2 = true) : numV l a false = ((getNum l a).1, (getNum l a).2.1, false) := by unfold numV; simp [h]
theorem numV_no (l : List Int) (a : Int) (h : (getNum l a).2.2 = false) : numV l a false = (0, a, true) := by unfold numV; simp [h]
theorem rrAt_ev (l : List Int) (hb : By l) (hl : l.length ≤ 140737488355328) : Ev (fun k => rrAt k l) (recRead l) := by
  have b1 := getNum_b l 0 hb
  unfold rrAt recRead rrA
  cases hk : (getNum l 0).2.2
  · have n1 := rdNum_ev' l 0 false hb hl (by omega)
    rw [numV_no l 0 hk] at n1
    refine Ev.bind n1 ?_
    rw [getNum_no l 0 hk]
    simp only [show ¬ ((0 : Int) = 1) by decide, show ¬ ((0 : Int) = 3) by decide, show ¬ ((0 : Int) = 2) by decide, ↓reduceIte, rrEnd_bad]
    exact Ev.now _
  have n1 := rdNum_ev' l 0 false hb hl (by omega)
  rw [numV_ok l 0 hk] at n1
  refine Ev.bind n1 ?_
  clear n1 hk
  generalize getNum l 0 = G1 at *
  obtain ⟨x1, p1, o1⟩ := G1
  simp only at b1 ⊢
  have b2 := getNum_b l p1 hb
  have n2 := rdNum_ev' l p1 false hb hl (by omega)
  by_cases e1 : x1 = 1
  · simp only [e1, ↓reduceIte]
    unfold rr1
    cases hk : (getNum l p1).2.2
    · rw [numV_no l p1 hk] at n2
      refine Ev.bind n2 ?_
      refine Ev.bind (rdNum_ev' l p1 true hb hl (by omega)) ?_
      simp only [numV_true, rrEnd_bad, Bool.false_eq_true, ↓reduceIte]
      exact Ev.now _
    rw [numV_ok l p1 hk] at n2
    refine Ev.bind n2 ?_
    simp only [↓reduceIte]
    generalize getNum l p1 = G2 at *
    obtain ⟨x2, p2, o2⟩ := G2
    simp only at b2 ⊢
    have n3 := rdNum_ev' l p2 false hb hl (by omega)
    unfold rr1b
    cases hk3 : (getNum l p2).2.2
    · rw [numV_no l p2 hk3] at n3
      refine Ev.bind n3 ?_
      simp only [rrEnd_bad, Bool.false_eq_true, ↓reduceIte]
      exact Ev.now _
    · rw [numV_ok l p2 hk3] at n3
      refine Ev.bind n3 ?_
      simp only [↓reduceIte]
      exact rrEnd_ev _ _ _ _ _ _ _ _ _ _ _ _
  simp only [e1, ↓reduceIte]
  by_cases e2 : x1 = 2
  · simp only [e2, ↓reduceIte]
    unfold rr2
    cases hk : (getNum l p1).2.2
    · rw [numV_no l p1 hk] at n2
      refine Ev.bind n2 ?_
      refine Ev.bind (rdNum_ev' l p1 true hb hl (by omega)) ?_
      simp only [numV_true]
      refine Ev.bind (rdCmd_ev l p1 true hb hl (by omega)) ?_
      rw [rdCmdV_bad]
      simp only [rrEnd_bad, Bool.false_eq_true, ↓reduceIte]
      exact Ev.now _
    rw [numV_ok l p1 hk] at n2
    refine Ev.bind n2 ?_
    simp only [↓reduceIte]
    generalize getNum l p1 = G2 at *
    obtain ⟨x2, p2, o2⟩ := G2
    simp only at b2 ⊢
    have b3 := getNum_b l p2 hb
    have n3 := rdNum_ev' l p2 false hb hl (by omega)
    unfold rr2b
    cases hk3 : (getNum l p2).2.2
    · rw [numV_no l p2 hk3] at n3
      refine Ev.bind n3 ?_
      refine Ev.bind (rdCmd_ev l p2 true hb hl (by omega)) ?_
      rw [rdCmdV_bad]
      simp only [rrEnd_bad, Bool.false_eq_true, ↓reduceIte]
      exact Ev.now _
    rw [numV_ok l p2 hk3] at n3
    refine Ev.bind n3 ?_
    simp only [↓reduceIte]
    generalize getNum l p2 = G3 at *
    obtain ⟨x3, p3, o3⟩ := G3
    simp only at b3 ⊢
    refine Ev.bind (rdCmd_ev l p3 false hb hl (by omega)) ?_
    rw [← rdCmdV_out l p3]
    generalize rdCmdV l p3 false = D
    obtain ⟨d1, d2, d3, d4, d5, d6, d7⟩ := D
    unfold rr2c outC
    cases d7
    · simp only [Bool.false_eq_true, ↓reduceIte]
      exact rrEnd_ev _ _ _ _ _ _ _ _ _ _ _ _
    · simp only [rrEnd_bad, ↓reduceIte, zC, Bool.false_eq_true]
      exact Ev.now _
  simp only [e2, ↓reduceIte]
  by_cases e3 : x1 = 3
  · simp only [e3, ↓reduceIte]
    unfold rr3
    cases hk : (getNum l p1).2.2
    · rw [numV_no l p1 hk] at n2
      refine Ev.bind n2 ?_
      simp only [rrEnd_bad, Bool.false_eq_true, ↓reduceIte]
      exact Ev.now _
    · rw [numV_ok l p1 hk] at n2
      refine Ev.bind n2 ?_
      simp only [↓reduceIte]
      exact rrEnd_ev _ _ _ _ _ _ _ _ _ _ _ _
  simp only [e3, ↓reduceIte]
  have := rrEnd_ev l x1 0 0 0 0 0 0 0 0 (⟨#[]⟩ : ByteArray) p1
  unfold recFin at this
  rw [recOk_out _ _ _ _ _ _ _ _ _ _ e1 e2 e3] at this
  simpa using this
theorem implRecRead_ev (s : ByteArray) (hs : s.size ≤ 140737488351232) : Ev (fun k => impl_RecRead.f k s) (recRead (bytesOf s)) := by
  have hl := bytesOf_length s
  unfold impl_RecRead.f
  simp only [show s.size ≤ 9223372036854775807 by omega, ↓reduceIte]
  exact rrAt_ev _ (bytesOf_by s) (by omega)

theorem l6Entry_ev (x : S36) : Ev (fun k => spec_l6Entry.f k x.f0 x.f1.f0 x.f1.f1 x.f1.f2 x.f1.f3 x.f1.f4) (inr x.f0 1 1000000000 && cmdOkE x) := by
  unfold spec_l6Entry.f
  simp only [l1In_eq, Option.bind_some]
  cases inr x.f0 1 1000000000
  · simp only [Bool.false_eq_true, ↓reduceIte, Bool.false_and]; exact Ev.now _
  · simp only [↓reduceIte, Bool.true_and]
    refine Ev.bind (specCmdOk_ev _ _ _ _ _) ?_
    exact Ev.now _
theorem specHardOk_l (term vote : Int) (ht : term ≤ 1000000000) (rest : List S36) : ∀ (P : List S36) (lo : Int), 1 ≤ lo → (P = [] ∧ lo = 1 ∨ ∃ P' y, P = P' ++ [y] ∧ lo = y.f0) → P.length + rest.length ≤ 140737488355328 → Ev (fun k => spec_HardOk.l0 k (P.length : Int) term vote (P ++ rest)) (logOk lo term rest) := by
  induction rest with
  | nil =>
    intro P lo h0 hP hl
    refine Ev.step (f := fun _ => some true) (fun k => ?_) (Ev.now _)
    simp only [spec_HardOk.l0]
    rw [if_neg (by simp)]
  | cons x t ih =>
    intro P lo h0 hP hl
    simp only [List.length_cons] at hl
    have el : ((P ++ x :: t).length : Int) = P.length + t.length + 1 := by simp; omega
    have ea : P ++ x :: t = P ++ [x] ++ t := by simp
    have hw1 : wrap64 ((P.length : Int) + 1) = ((P ++ [x]).length : Int) := by rw [w64 (by omega) (by omega)]; simp
    refine Ev.step (fun k => by simp only [spec_HardOk.l0]; rw [if_pos (by omega), if_pos (by omega), rdE_mid]) ?_
    refine Ev.bind (l6Entry_ev x) ?_
    cases hb : (inr x.f0 1 1000000000 && cmdOkE x)
    · simp only [Bool.false_eq_true, ↓reduceIte]
      have : logOk lo term (x :: t) = false := by
        rw [Bool.and_eq_false_iff] at hb
        rcases hb with hb | hb
        · have hb := of_decide_eq_false hb
          have : ¬ (lo ≤ x.f0 ∧ x.f0 ≤ term) := by omega
          simp [logOk, this]
        · simp [logOk, hb]
      rw [this]; exact Ev.now _
    · rw [Bool.and_eq_true] at hb
      have hb1 := of_decide_eq_true hb.1
      simp only [↓reduceIte]
      by_cases c1 : x.f0 > term
      · have : logOk lo term (x :: t) = false := by
          have : ¬ (lo ≤ x.f0 ∧ x.f0 ≤ term) := by omega
          simp [logOk, this]
        simp only [c1, ↓reduceIte]
        rw [this]; exact Ev.now _
      · simp only [c1, ↓reduceIte]
        have hi := ih (P ++ [x]) x.f0 (by omega) (.inr ⟨P, x, rfl, rfl⟩) (by simp; omega)
        have hlog : lo ≤ x.f0 → logOk lo term (x :: t) = logOk x.f0 term t := by
          intro h
          have : lo ≤ x.f0 ∧ x.f0 ≤ term := by omega
          simp [logOk, this, hb.2]
        rcases hP with ⟨rfl, rfl⟩ | ⟨P', y, rfl, rfl⟩
        · rw [hlog (by omega)]
          refine Ev.congr (fun k => ?_) hi
          rw [if_neg (by simp), hw1, ea]
        · have ep : ((P' ++ [y]).length : Int) = P'.length + 1 := by simp
          by_cases c2 : x.f0 < y.f0
          · have : logOk y.f0 term (x :: t) = false := by
              have : ¬ (y.f0 ≤ x.f0 ∧ x.f0 ≤ term) := by omega
              simp [logOk, this]
            rw [this]
            refine Ev.congr (fun k => ?_) (Ev.now false)
            rw [if_pos (by omega), w64 (x := ((P' ++ [y]).length : Int) - 1) (by omega) (by omega), if_pos (by omega), if_pos (by omega), show P' ++ [y] ++ x :: t = P' ++ [y] ++ (x :: t) from rfl, rdE_last, if_pos c2]
          · rw [hlog (by omega)]
            refine Ev.congr (fun k => ?_) hi
            rw [if_pos (by omega), w64 (x := ((P' ++ [y]).length : Int) - 1) (by omega) (by omega), if_pos (by omega), if_pos (by omega), show P' ++ [y] ++ x :: t = P' ++ [y] ++ (x :: t) from rfl, rdE_last, if_neg c2, hw1, ea]
theorem specHardOk_ev (term vote : Int) (l : List S36) (hl : l.length ≤ 140737488355328) : Ev (fun k => spec_HardOk.f k term vote l) (hardOk term vote l) := by
  unfold spec_HardOk.f hardOk
  simp only [l1Whole_eq, l1In_eq, Option.bind_some]
  have hj : Ev (fun k => spec_HardOk.j0 k true term vote l) false := by
    refine Ev.step (f := fun _ => some false) (fun k => ?_) (Ev.now _)
    simp only [spec_HardOk.j0, ↓reduceIte]
  cases h : inr term 0 1000000000
  · simp only [Bool.false_eq_true, ↓reduceIte, Bool.false_and]; exact hj
  · have ht := of_decide_eq_true h
    simp only [↓reduceIte, Bool.true_and]
    cases h2 : inr vote 0 5
    · simp only [Bool.false_eq_true, ↓reduceIte, Bool.false_and]; exact hj
    · simp only [↓reduceIte, Bool.true_and]
      by_cases h80 : (l.length : Int) > 80
      · simp only [h80, decide_true, show ¬ (l.length : Int) ≤ 80 by omega, decide_false, Bool.false_and]; exact hj
      · simp only [h80, decide_false, show (l.length : Int) ≤ 80 by omega, decide_true, Bool.true_and]
        refine Ev.step (f := fun k => spec_HardOk.l0 k 0 term vote l) (fun k => ?_) ?_
        · simp only [spec_HardOk.j0]; rfl
        · exact specHardOk_l term vote ht.2 l [] 1 (by omega) (.inl ⟨rfl, rfl⟩) (by simpa using hl)

def lastT (P : List S36) : Int := match P.getLast? with | none => 0 | some y => y.f0
theorem lastTerm_eq (P : List S36) (hl : P.length ≤ 140737488355328) : impl_lastTerm.f P = some (lastT P) := by
  unfold impl_lastTerm.f
  rcases List.eq_nil_or_concat P with rfl | ⟨P', y, rfl⟩
  · rfl
  · rw [List.concat_eq_append] at hl ⊢
    have ep : ((P' ++ [y]).length : Int) = P'.length + 1 := by simp
    rw [if_neg (by omega), w64 (x := ((P' ++ [y]).length : Int) - 1) (by omega) (by omega), if_pos (by omega), if_pos (by omega)]
    have := rdE_last P' y []
    rw [List.append_nil] at this
    rw [this]
    simp [lastT]
theorem implHardOk_l (term vote : Int) (F : List S36) (hF : F.length ≤ 140737488355328) (rest : List S36) : ∀ (P : List S36) (lo : Int), F = P ++ rest → mx 1 (lastT P) = lo → Ev (fun k => impl_HardOk.l0 k F (F.length : Int) (P.length : Int) term vote F) (logOk lo term rest && (inr term 0 1000000000 && (inr vote 0 5 && decide ((F.length : Int) ≤ 80)))) := by
  induction rest with
  | nil =>
    intro P lo hPF hlo
    refine Ev.step (f := fun _ => some (inr term 0 1000000000 && (inr vote 0 5 && decide ((F.length : Int) ≤ 80)))) (fun k => ?_) ?_
    · simp only [impl_HardOk.l0]
      rw [if_neg (by rw [hPF]; simp)]
      simp only [isWhole_eq, within_eq, Option.bind_some]
      cases inr term 0 1000000000 <;> cases inr vote 0 5 <;> rfl
    · simp only [logOk, Bool.true_and]; exact Ev.now _
  | cons x t ih =>
    intro P lo hPF hlo
    have el : (F.length : Int) = P.length + t.length + 1 := by rw [hPF]; simp; omega
    have hr : rd_T36 F (P.length : Int) = x := by rw [hPF]; exact rdE_mid P x t
    have hw1 : wrap64 ((P.length : Int) + 1) = ((P ++ [x]).length : Int) := by rw [w64 (by omega) (by omega)]; simp
    have htk : F.take (P.length : Int).toNat = P := by rw [hPF]; simp
    refine Ev.step (fun k => by simp only [impl_HardOk.l0]; rw [if_pos (by omega), if_pos (by omega), if_pos (by omega), hr]) ?_
    refine Ev.bind (implCmdOk_ev _ _ _ _ _) ?_
    change Ev (fun k => if cmdOkE x = true then _ else _) _
    cases hc : cmdOkE x
    · simp only [Bool.false_eq_true, ↓reduceIte]
      have : logOk lo term (x :: t) = false := by simp [logOk, hc]
      rw [this]; exact Ev.now _
    · simp only [↓reduceIte]
      rw [htk, lastTerm_eq P (by omega)]
      simp only [show (P.length : Int) ≤ (F.length : Int) by omega, ↓reduceIte, Option.bind_some, within_eq, hlo]
      by_cases c : lo ≤ x.f0 ∧ x.f0 ≤ term
      · have e : inr x.f0 lo term = true := decide_eq_true c
        have hlog : logOk lo term (x :: t) = logOk x.f0 term t := by simp [logOk, c, hc]
        rw [e, hlog, hw1]
        simp only [↓reduceIte]
        have hlo1 : 1 ≤ lo := by rw [← hlo]; unfold mx; split <;> omega
        exact ih (P ++ [x]) x.f0 (by rw [hPF]; simp) (by simp only [lastT, List.getLast?_append, List.getLast?_singleton, Option.some_or]; unfold mx; split <;> omega)
      · have e : inr x.f0 lo term = false := decide_eq_false c
        have hlog : logOk lo term (x :: t) = false := by simp only [logOk, c, decide_false, Bool.false_and]
        rw [e, hlog]
        simp only [Bool.false_eq_true, ↓reduceIte]; exact Ev.now _
theorem implHardOk_ev (term vote : Int) (l : List S36) (hl : l.length ≤ 140737488355328) : Ev (fun k => impl_HardOk.f k term vote l) (hardOk term vote l) := by
  have h := implHardOk_l term vote l hl l [] 1 rfl rfl
  have e : hardOk term vote l = (logOk 1 term l && (inr term 0 1000000000 && (inr vote 0 5 && decide ((l.length : Int) ≤ 80)))) := by
    unfold hardOk
    cases logOk 1 term l <;> cases inr term 0 1000000000 <;> cases inr vote 0 5 <;> simp
  rw [e]; exact h

theorem copyHard_eq (t v : Int) (l : List S36) (hl : l.length ≤ 140737488355) : impl_copyHard.f t v l = some (t, v, l) := by
  unfold impl_copyHard.f impl_copyLog.f
  simp only [Option.bind_some, List.length_nil, List.nil_append]
  rw [if_pos (by omega)]
  rfl
theorem l6Copy_eq (t v : Int) (l : List S36) (hl : l.length ≤ 140737488355) : spec_l6Copy.f t v l = some (t, v, l) := by
  unfold spec_l6Copy.f
  simp only [Option.bind_some, List.length_nil, List.nil_append]
  rw [if_pos (by omega)]
def mayR (t v : Int) (n : Nat) (k tm vt pos : Int) : Bool :=
  if k = 1 then decide (tm > t) || (tm == t && (v == 0 || v == vt)) else if k = 2 then pos == (n : Int) + 1 else if k = 3 then inr pos 0 n else false
def candR (t v : Int) (l : List S36) (k tm vt pos : Int) (e : S36) : Int × Int × List S36 :=
  if k = 1 then (tm, vt, l) else if k = 2 then (t, v, l ++ [e]) else if k = 3 then (t, v, l.take pos.toNat) else (t, v, l)
def hardApply (t v : Int) (l : List S36) (k tm vt pos : Int) (e : S36) : Int × Int × List S36 × Bool :=
  if hardOk t v l = true then
    (if (mayR t v l.length k tm vt pos && (recOk k tm vt pos e.f0 e.f1.f0 e.f1.f1 e.f1.f2 e.f1.f3 e.f1.f4 && hardOk (candR t v l k tm vt pos e).1 (candR t v l k tm vt pos e).2.1 (candR t v l k tm vt pos e).2.2)) = true
      then ((candR t v l k tm vt pos e).1, (candR t v l k tm vt pos e).2.1, (candR t v l k tm vt pos e).2.2, true) else (t, v, l, false))
  else (0, 0, [], false)
theorem candR_len (t v : Int) (l : List S36) (k tm vt pos : Int) (e : S36) : (candR t v l k tm vt pos e).2.2.length ≤ l.length + 1 := by
  unfold candR
  split
  · simp
  · split
    · simp
    · split
      · simp only [List.length_take]; omega
      · simp
theorem hardApply_len (t v : Int) (l : List S36) (k tm vt pos : Int) (e : S36) : (hardApply t v l k tm vt pos e).2.2.1.length ≤ l.length + 1 := by
  have := candR_len t v l k tm vt pos e
  unfold hardApply
  split
  · split
    · exact this
    · simp
  · simp
theorem hardOk_len {t v : Int} {l : List S36} (h : hardOk t v l = true) : l.length ≤ 80 := by
  unfold hardOk at h
  simp only [Bool.and_eq_true, decide_eq_true_eq] at h
  omega
theorem implHA_j0 (may : Bool) (t v : Int) (l : List S36) (k tm vt pos : Int) (e : S36) (c0 c1 : Int) (c2 : List S36) (hl : l.length ≤ 140737488355) (hc : c2.length ≤ 140737488355) :
    Ev (fun r => impl_HardApply.j0 r may t v l k tm vt pos e.f0 e.f1.f0 e.f1.f1 e.f1.f2 e.f1.f3 e.f1.f4 c0 c1 c2) (if (may && (recOk k tm vt pos e.f0 e.f1.f0 e.f1.f1 e.f1.f2 e.f1.f3 e.f1.f4 && hardOk c0 c1 c2)) = true then (c0, c1, c2, true) else (t, v, l, false)) := by
  refine Ev.step (fun r => by simp only [impl_HardApply.j0]; rfl) ?_
  cases may
  · simp only [Bool.false_eq_true, ↓reduceIte, copyHard_eq t v l hl, Option.bind_some, Bool.false_and]
    exact Ev.now _
  · simp only [↓reduceIte, Bool.true_and]
    refine Ev.bind (implRecOk_ev k tm vt pos e.f0 e.f1.f0 e.f1.f1 e.f1.f2 e.f1.f3 e.f1.f4) ?_
    cases recOk k tm vt pos e.f0 e.f1.f0 e.f1.f1 e.f1.f2 e.f1.f3 e.f1.f4
    · simp only [Bool.false_eq_true, ↓reduceIte, copyHard_eq t v l hl, Option.bind_some, Bool.false_and]
      exact Ev.now _
    · simp only [↓reduceIte, Bool.true_and]
      refine Ev.bind (implHardOk_ev c0 c1 c2 (by omega)) ?_
      cases hardOk c0 c1 c2
      · simp only [Bool.false_eq_true, ↓reduceIte, copyHard_eq t v l hl, Option.bind_some]
        exact Ev.now _
      · simp only [↓reduceIte]
        exact Ev.now _
theorem specHA_j0 (may : Bool) (t v : Int) (l : List S36) (c0 c1 : Int) (c2 : List S36) (hl : l.length ≤ 140737488355) (hc : c2.length ≤ 140737488355) :
    Ev (fun r => spec_HardApply.j0 r may t v l c0 c1 c2) (if (may && hardOk c0 c1 c2) = true then (c0, c1, c2, true) else (t, v, l, false)) := by
  refine Ev.step (fun r => by simp only [spec_HardApply.j0]; rfl) ?_
  cases may
  · simp only [Bool.false_eq_true, ↓reduceIte, l6Copy_eq t v l hl, Option.bind_some, Bool.false_and]
    exact Ev.now _
  · simp only [↓reduceIte, Bool.true_and]
    refine Ev.bind (specHardOk_ev c0 c1 c2 (by omega)) ?_
    cases hardOk c0 c1 c2
    · simp only [Bool.false_eq_true, ↓reduceIte, l6Copy_eq t v l hl, Option.bind_some]
      exact Ev.now _
    · simp only [↓reduceIte]
      exact Ev.now _
theorem recOk_other {k tm vt pos et ek er en es : Int} {dig : ByteArray} (h1 : k ≠ 1) (h2 : k ≠ 2) (h3 : k ≠ 3) : recOk k tm vt pos et ek er en es dig = false := by
  unfold recOk
  rw [if_neg h1, if_neg h2, if_neg h3]
theorem recOk_cut {tm vt pos et ek er en es : Int} {dig : ByteArray} (h : recOk 3 tm vt pos et ek er en es dig = true) : 0 ≤ pos := by
  unfold recOk at h
  rw [if_neg (by omega), if_neg (by omega), if_pos rfl] at h
  simp only [Bool.and_eq_true, inr, decide_eq_true_eq] at h
  omega
theorem implHardApply_ev (t v : Int) (l : List S36) (k tm vt pos : Int) (e : S36) (hl : l.length ≤ 1048576) :
    Ev (fun r => impl_HardApply.f r t v l k tm vt pos e.f0 e.f1.f0 e.f1.f1 e.f1.f2 e.f1.f3 e.f1.f4) (hardApply t v l k tm vt pos e) := by
  unfold impl_HardApply.f hardApply
  refine Ev.bind (implHardOk_ev t v l (by omega)) ?_
  cases ho : hardOk t v l
  · simp only [Bool.false_eq_true, ↓reduceIte]; exact Ev.now _
  · have h80 := hardOk_len ho
    simp only [↓reduceIte, copyHard_eq t v l (by omega), Option.bind_some]
    unfold candR mayR
    by_cases k1 : k = 1
    · subst k1
      simp only [↓reduceIte]
      have J := fun b => implHA_j0 b t v l 1 tm vt pos e tm vt l (by omega) (by omega)
      by_cases a : tm > t
      · simp only [a, ↓reduceIte, decide_true, Bool.true_or]; exact J true
      · simp only [a, ↓reduceIte, decide_false, Bool.false_or]
        by_cases b : tm = t
        · by_cases c : v = 0
          · simp only [b, c, ↓reduceIte, beq_self_eq_true, Bool.true_or, Bool.true_and]
            have := J true
            simp only [b, c] at this
            exact this
          · have hb : (tm == t) = true := beq_iff_eq.2 b
            have hc : (v == 0) = false := beq_eq_false_iff_ne.2 c
            simp only [if_pos b, if_neg c, hb, hc]
            simp only [Bool.true_and, Bool.false_or]
            exact J (v == vt)
        · have hb : (tm == t) = false := beq_eq_false_iff_ne.2 b
          simp only [if_neg b, hb]
          exact J false
    · simp only [k1, ↓reduceIte]
      by_cases k2 : k = 2
      · subst k2
        simp only [↓reduceIte, show l.length < 2513169434916 by omega]
        rw [w64 (by omega) (by omega)]
        exact implHA_j0 _ t v l 2 tm vt pos e t v (l ++ [e]) (by omega) (by simp; omega)
      · simp only [k2, ↓reduceIte]
        by_cases k3 : k = 3
        · subst k3
          simp only [↓reduceIte, within_eq, Option.bind_some]
          have m0 : 0 ≤ mn (mx pos 0) (l.length : Int) := by unfold mn mx; split <;> split <;> omega
          have m1 : mn (mx pos 0) (l.length : Int) ≤ (l.length : Int) := by unfold mn mx; split <;> split <;> omega
          simp only [m0, m1, ↓reduceIte]
          have J := implHA_j0 (inr pos 0 l.length) t v l 3 tm vt pos e t v (l.take (mn (mx pos 0) (l.length : Int)).toNat) (by omega) (by rw [List.length_take]; omega)
          cases hi : inr pos 0 l.length
          · rw [hi] at J
            simpa using J
          · have hm : mn (mx pos 0) (l.length : Int) = pos := by
              simp only [inr, decide_eq_true_eq] at hi
              unfold mn mx; split <;> split <;> omega
            rw [hi, hm] at J
            rw [hm]
            exact J
        · simp only [k3, ↓reduceIte]
          exact implHA_j0 false t v l k tm vt pos e t v l (by omega) (by omega)
theorem specHardApply_ev (t v : Int) (l : List S36) (k tm vt pos : Int) (e : S36) (hl : l.length ≤ 1048576) :
    Ev (fun r => spec_HardApply.f r t v l k tm vt pos e.f0 e.f1.f0 e.f1.f1 e.f1.f2 e.f1.f3 e.f1.f4) (hardApply t v l k tm vt pos e) := by
  unfold spec_HardApply.f hardApply
  refine Ev.bind (specHardOk_ev t v l (by omega)) ?_
  cases ho : hardOk t v l
  · simp only [Bool.false_eq_true, ↓reduceIte]; exact Ev.now _
  · have h80 := hardOk_len ho
    simp only [↓reduceIte, l6Copy_eq t v l (by omega), Option.bind_some]
    refine Ev.bind (specRecOk_ev k tm vt pos e.f0 e.f1.f0 e.f1.f1 e.f1.f2 e.f1.f3 e.f1.f4) ?_
    unfold candR mayR
    have F : ∀ c0 c1 c2, c2.length ≤ 1048577 → Ev (fun r => spec_HardApply.j0 r false t v l c0 c1 c2) (t, v, l, false) := fun c0 c1 c2 hc => by
      have := specHA_j0 false t v l c0 c1 c2 (by omega) (by omega)
      simpa using this
    by_cases k1 : k = 1
    · subst k1
      simp only [↓reduceIte]
      cases hr : recOk 1 tm vt pos e.f0 e.f1.f0 e.f1.f1 e.f1.f2 e.f1.f3 e.f1.f4
      · simp only [Bool.false_eq_true, ↓reduceIte, Bool.false_and, Bool.and_false]
        exact F _ _ _ (by omega)
      · simp only [↓reduceIte, Bool.true_and]
        have J := fun b => specHA_j0 b t v l tm vt l (by omega) (by omega)
        by_cases a : tm > t
        · simp only [a, ↓reduceIte, decide_true, Bool.true_or]; exact J true
        · simp only [a, ↓reduceIte, decide_false, Bool.false_or]
          by_cases b : tm = t
          · by_cases c : v = 0
            · simp only [b, c, ↓reduceIte, beq_self_eq_true, Bool.true_or, Bool.true_and]
              have := J true
              simp only [b, c] at this
              exact this
            · have hb : (tm == t) = true := beq_iff_eq.2 b
              have hc : (v == 0) = false := beq_eq_false_iff_ne.2 c
              simp only [if_pos b, if_neg c, hb, hc]
              simp only [Bool.true_and, Bool.false_or]
              exact J (v == vt)
          · have hb : (tm == t) = false := beq_eq_false_iff_ne.2 b
            simp only [if_neg b, hb]
            exact J false
    · simp only [k1, ↓reduceIte]
      by_cases k2 : k = 2
      · subst k2
        simp only [↓reduceIte, show l.length < 2513169434916 by omega]
        cases hr : recOk 2 tm vt pos e.f0 e.f1.f0 e.f1.f1 e.f1.f2 e.f1.f3 e.f1.f4
        · simp only [Bool.false_eq_true, ↓reduceIte, Bool.false_and, Bool.and_false]
          exact F _ _ _ (by simp; omega)
        · simp only [↓reduceIte, Bool.true_and]
          rw [w64 (by omega) (by omega)]
          exact specHA_j0 _ t v l t v (l ++ [e]) (by omega) (by simp; omega)
      · simp only [k2, ↓reduceIte]
        by_cases k3 : k = 3
        · subst k3
          simp only [↓reduceIte]
          cases hr : recOk 3 tm vt pos e.f0 e.f1.f0 e.f1.f1 e.f1.f2 e.f1.f3 e.f1.f4
          · simp only [Bool.false_eq_true, ↓reduceIte, Bool.false_and, Bool.and_false]
            exact F _ _ _ (by omega)
          · have h0 := recOk_cut hr
            simp only [↓reduceIte, Bool.true_and]
            by_cases c : pos ≤ (l.length : Int)
            · have hi : inr pos 0 l.length = true := decide_eq_true ⟨h0, c⟩
              simp only [c, h0, ↓reduceIte, decide_true, hi]
              exact specHA_j0 true t v l t v (l.take pos.toNat) (by omega) (by rw [List.length_take]; omega)
            · have hi : inr pos 0 l.length = false := decide_eq_false (by omega)
              simp only [c, ↓reduceIte, decide_false, hi, Bool.false_and, Bool.false_eq_true]
              exact F _ _ _ (by omega)
        · simp only [k3, ↓reduceIte]
          rw [recOk_other k1 k2 k3]
          simp only [Bool.false_and, Bool.false_eq_true, ↓reduceIte]
          exact F _ _ _ (by omega)

theorem rdR_mid (P : List S38) (x : S38) (t : List S38) : rd_T38 (P ++ x :: t) (P.length : Int) = x := by
  unfold rd_T38; simp
def hoG : List S38 → Int → Int → Int → List S36 → Int × Int × List S36 × Int
  | [], i, t, v, l => (t, v, l, i)
  | x :: r, i, t, v, l => if (hardApply t v l x.f0 x.f1 x.f2 x.f3 x.f4).2.2.2 = true then hoG r (i + 1) (hardApply t v l x.f0 x.f1 x.f2 x.f3 x.f4).1 (hardApply t v l x.f0 x.f1 x.f2 x.f3 x.f4).2.1 (hardApply t v l x.f0 x.f1 x.f2 x.f3 x.f4).2.2.1 else (t, v, l, i)
theorem hoG_len : ∀ (r : List S38) (i t v : Int) (l : List S36), (hoG r i t v l).2.2.1.length ≤ l.length + r.length
  | [], i, t, v, l => by simp [hoG]
  | x :: r, i, t, v, l => by
    have h1 := hardApply_len t v l x.f0 x.f1 x.f2 x.f3 x.f4
    have h2 := hoG_len r (i + 1) (hardApply t v l x.f0 x.f1 x.f2 x.f3 x.f4).1 (hardApply t v l x.f0 x.f1 x.f2 x.f3 x.f4).2.1 (hardApply t v l x.f0 x.f1 x.f2 x.f3 x.f4).2.2.1
    simp only [hoG]
    split
    · simp only [List.length_cons]; omega
    · simp
theorem specHO_l (rest : List S38) : ∀ (P : List S38) (t v : Int) (l : List S36), P.length + rest.length ≤ 2000 → l.length ≤ P.length → Ev (fun k => spec_HardOf.l0 k (P ++ rest) (P.length : Int) t v l) (hoG rest P.length t v l) := by
  induction rest with
  | nil =>
    intro P t v l hl ho
    refine Ev.step (f := fun _ => some (t, v, l, ((P ++ []).length : Int))) (fun k => ?_) ?_
    · simp only [spec_HardOf.l0]
      rw [if_neg (by simp)]
    · simp [hoG]; exact Ev.now _
  | cons x r ih =>
    intro P t v l hl ho
    simp only [List.length_cons] at hl
    have el : ((P ++ x :: r).length : Int) = P.length + r.length + 1 := by simp; omega
    have hw : wrap64 ((P.length : Int) + 1) = ((P ++ [x]).length : Int) := by rw [w64 (by omega) (by omega)]; simp
    have hA := specHardApply_ev t v l x.f0 x.f1 x.f2 x.f3 x.f4 (by omega)
    have hn := hardApply_len t v l x.f0 x.f1 x.f2 x.f3 x.f4
    refine Ev.step (fun k => by simp only [spec_HardOf.l0]; rw [if_pos (by omega)]) ?_
    refine Ev.step (fun k => by simp only [spec_HardOf.j2]; rw [if_pos (by omega), if_pos (by omega), rdR_mid]) ?_
    simp only [hoG]
    refine Ev.bind hA ?_
    generalize hardApply t v l x.f0 x.f1 x.f2 x.f3 x.f4 = U at *
    obtain ⟨u0, u1, u2, u3⟩ := U
    simp only at hn ⊢
    cases u3
    · simp only [Bool.false_eq_true, ↓reduceIte]; exact Ev.now _
    · simp only [↓reduceIte]
      refine Ev.step (fun k => by simp only [spec_HardOf.j3]; rw [hw]) ?_
      have h := ih (P ++ [x]) u0 u1 u2 (by simp; omega) (by simp; omega)
      simpa using h
theorem implHO_l (rest : List S38) : ∀ (P : List S38) (t v : Int) (l : List S36), P.length + rest.length ≤ 2000 → l.length ≤ P.length → Ev (fun k => impl_HardOf.l0 k (P ++ rest) (P ++ rest) ((P ++ rest).length : Int) (P.length : Int) t v l) (hoG rest P.length t v l) := by
  induction rest with
  | nil =>
    intro P t v l hl ho
    refine Ev.step (f := fun _ => some (t, v, l, ((P ++ []).length : Int))) (fun k => ?_) ?_
    · simp only [impl_HardOf.l0]
      rw [if_neg (by simp)]
    · simp [hoG]; exact Ev.now _
  | cons x r ih =>
    intro P t v l hl ho
    simp only [List.length_cons] at hl
    have el : ((P ++ x :: r).length : Int) = P.length + r.length + 1 := by simp; omega
    have hw : wrap64 ((P.length : Int) + 1) = ((P ++ [x]).length : Int) := by rw [w64 (by omega) (by omega)]; simp
    have hA := implHardApply_ev t v l x.f0 x.f1 x.f2 x.f3 x.f4 (by omega)
    have hn := hardApply_len t v l x.f0 x.f1 x.f2 x.f3 x.f4
    refine Ev.step (fun k => by simp only [impl_HardOf.l0]; rw [if_pos (by omega)]) ?_
    refine Ev.step (fun k => by simp only [impl_HardOf.j2]; rw [if_pos (by omega), if_pos (by omega), rdR_mid]) ?_
    simp only [hoG]
    refine Ev.bind hA ?_
    generalize hardApply t v l x.f0 x.f1 x.f2 x.f3 x.f4 = U at *
    obtain ⟨u0, u1, u2, u3⟩ := U
    simp only at hn ⊢
    cases u3
    · simp only [Bool.false_eq_true, ↓reduceIte]; exact Ev.now _
    · simp only [↓reduceIte]
      refine Ev.step (fun k => by simp only [impl_HardOf.j3]; rw [hw]) ?_
      have h := ih (P ++ [x]) u0 u1 u2 (by simp; omega) (by simp; omega)
      simpa using h
def hardOf (r : List S38) : Int × Int × List S36 × Int := if r.length > 2000 then (0, 0, [], 0) else hoG r 0 0 0 []
theorem hardOf_len (r : List S38) : (hardOf r).2.2.1.length ≤ 2000 := by
  unfold hardOf
  split
  · simp
  · have := hoG_len r 0 0 0 []
    simp only [List.length_nil] at this
    omega
theorem specHardOf_ev (r : List S38) (hl : r.length ≤ 140737488355328) : Ev (fun k => spec_HardOf.f k r) (hardOf r) := by
  unfold spec_HardOf.f hardOf
  by_cases c : r.length > 2000
  · simp only [show (r.length : Int) > 2000 by omega, c, ↓reduceIte]; exact Ev.now _
  · simp only [show ¬ (r.length : Int) > 2000 by omega, c, ↓reduceIte]
    refine Ev.step (fun k => by simp only [spec_HardOf.j0]; rfl) ?_
    have h := specHO_l r [] 0 0 [] (by simp; omega) (by simp)
    simpa using h
theorem implHardOf_ev (r : List S38) (hl : r.length ≤ 140737488355328) : Ev (fun k => impl_HardOf.f k r) (hardOf r) := by
  unfold impl_HardOf.f hardOf
  by_cases c : r.length > 2000
  · simp only [show (r.length : Int) > 2000 by omega, c, ↓reduceIte]; exact Ev.now _
  · simp only [show ¬ (r.length : Int) > 2000 by omega, c, ↓reduceIte]
    refine Ev.step (fun k => by simp only [impl_HardOf.j0]; rfl) ?_
    have h := implHO_l r [] 0 0 [] (by simp; omega) (by simp)
    simpa using h

theorem rdB_mid (P : List ByteArray) (x : ByteArray) (t : List ByteArray) : rdOf ByteArray.empty (P ++ x :: t) (P.length : Int) = x := by
  unfold rdOf; simp
theorem jr_size : ∀ (d : Nat) (b : List Int) (acc : List ByteArray) (a : Int), (∀ x ∈ acc, x.size ≤ b.length) → ∀ x ∈ (jr d b acc a).1, x.size ≤ b.length
  | 0, _, _, _, h => by simpa [jr] using h
  | d + 1, b, acc, a, h => by
    simp only [jr]
    split
    · refine jr_size d b _ _ (fun x hx => ?_)
      rcases List.mem_append.1 hx with hx | hx
      · exact h x hx
      · have hx := List.mem_singleton.1 hx
        subst hx
        have e : (strOfNums (unsealOf b a).1).size = (unsealOf b a).1.length := by rw [← data_length, strOfNums_data, List.length_map]
        have := unseal_len b a
        omega
    · exact h
theorem journalRead_size (room : Int) (l : List S112) (nm : Int) : ∀ x ∈ (journalRead room l nm).1, (x.size : Int) ≤ dsize l := by
  intro x hx
  have hs := diskRead_size room l nm
  have hn := dsize_nn l
  unfold journalRead at hx
  split at hx
  · have := jr_size 2000 (bytesOf (diskRead room l nm).1) [] 0 (by simp) x hx
    rw [bytesOf_length] at this
    omega
  · simp at hx
def toRec (u : Int × Int × Int × Int × Int × Int × Int × Int × Int × ByteArray × Bool) : S38 := ⟨u.1, u.2.1, u.2.2.1, u.2.2.2.1, ⟨u.2.2.2.2.1, ⟨u.2.2.2.2.2.1, u.2.2.2.2.2.2.1, u.2.2.2.2.2.2.2.1, u.2.2.2.2.2.2.2.2.1, u.2.2.2.2.2.2.2.2.2.1⟩⟩⟩
def hlG : List ByteArray → List S38 → Int × Int × List S36 × Int
  | [], acc => hardOf acc
  | s :: t, acc => if (recRead (bytesOf s)).2.2.2.2.2.2.2.2.2.2 = true then hlG t (acc ++ [toRec (recRead (bytesOf s))]) else hardOf acc
theorem hlG_len : ∀ (t : List ByteArray) (acc : List S38), (hlG t acc).2.2.1.length ≤ 2000
  | [], acc => hardOf_len acc
  | s :: t, acc => by
    simp only [hlG]
    split
    · exact hlG_len t _
    · exact hardOf_len acc
theorem specHl_l (rest : List ByteArray) : ∀ (P : List ByteArray) (acc : List S38), P.length + rest.length ≤ 2000 → acc.length ≤ P.length → (∀ x ∈ rest, x.size ≤ 1048576) → Ev (fun k => spec_HardLoad.l0 k (P ++ rest) acc (P.length : Int)) (hlG rest acc) := by
  induction rest with
  | nil =>
    intro P acc hl ha hx
    refine Ev.step (fun k => by simp only [spec_HardLoad.l0]; rw [if_neg (by simp)]) ?_
    refine Ev.bind (specHardOf_ev acc (by omega)) ?_
    simp only [hlG]
    exact Ev.now _
  | cons x t ih =>
    intro P acc hl ha hx
    simp only [List.length_cons] at hl
    have hx0 := hx x (by simp)
    have el : ((P ++ x :: t).length : Int) = P.length + t.length + 1 := by simp; omega
    refine Ev.step (fun k => by simp only [spec_HardLoad.l0]; rw [if_pos (by omega), if_pos (by omega), rdB_mid]) ?_
    refine Ev.bind (specRecRead_ev x hx0) ?_
    simp only [hlG]
    cases c : (recRead (bytesOf x)).2.2.2.2.2.2.2.2.2.2
    · simp only [Bool.false_eq_true, ↓reduceIte]
      refine Ev.bind (specHardOf_ev acc (by omega)) ?_
      exact Ev.now _
    · have k1 : acc.length < 1599289640401 := by omega
      simp only [↓reduceIte, k1]
      rw [w64 (by omega) (by omega)]
      have h := ih (P ++ [x]) (acc ++ [toRec (recRead (bytesOf x))]) (by simp; omega) (by simp; omega) (fun y hy => hx y (by simp [hy]))
      simpa [toRec] using h
theorem implHl_l (rest : List ByteArray) : ∀ (P : List ByteArray) (acc : List S38), P.length + rest.length ≤ 2000 → acc.length ≤ P.length → (∀ x ∈ rest, x.size ≤ 1048576) → Ev (fun k => impl_HardLoad.l0 k acc (P ++ rest) ((P ++ rest).length : Int) (P.length : Int)) (hlG rest acc) := by
  induction rest with
  | nil =>
    intro P acc hl ha hx
    refine Ev.step (fun k => by simp only [impl_HardLoad.l0]; rw [if_neg (by simp)]) ?_
    refine Ev.bind (implHardOf_ev acc (by omega)) ?_
    simp only [hlG]
    exact Ev.now _
  | cons x t ih =>
    intro P acc hl ha hx
    simp only [List.length_cons] at hl
    have hx0 := hx x (by simp)
    have el : ((P ++ x :: t).length : Int) = P.length + t.length + 1 := by simp; omega
    refine Ev.step (fun k => by simp only [impl_HardLoad.l0]; rw [if_pos (by omega), if_pos (by omega), if_pos (by omega), rdB_mid]) ?_
    refine Ev.bind (implRecRead_ev x (by omega)) ?_
    simp only [hlG]
    cases c : (recRead (bytesOf x)).2.2.2.2.2.2.2.2.2.2
    · simp only [Bool.false_eq_true, ↓reduceIte]
      refine Ev.bind (implHardOf_ev acc (by omega)) ?_
      exact Ev.now _
    · have k1 : acc.length < 1599289640401 := by omega
      simp only [↓reduceIte, k1]
      rw [w64 (by omega) (by omega)]
      have h := ih (P ++ [x]) (acc ++ [toRec (recRead (bytesOf x))]) (by simp; omega) (by simp; omega) (fun y hy => hx y (by simp [hy]))
      simpa [toRec] using h
def hardLoad (room : Int) (l : List S112) (nm : Int) := hlG (journalRead room l nm).1 []
theorem specHardLoad_ev (room : Int) (l : List S112) (nm : Int) (h1 : dsize l ≤ 1048576) (hl : l.length ≤ 1048576) : Ev (fun k => spec_HardLoad.f k room l nm) (hardLoad room l nm) := by
  unfold spec_HardLoad.f hardLoad
  refine Ev.bind (specJournalRead_ev room l nm h1 hl) ?_
  have h := journalRead_len room l nm
  have hz := journalRead_size room l nm
  exact specHl_l (journalRead room l nm).1 [] [] (by simpa using h) (by simp) (fun x hx => by have := hz x hx; omega)
theorem implHardLoad_ev (room : Int) (l : List S112) (nm : Int) (h1 : dsize l ≤ 1048576) (hl : l.length ≤ 1048576) : Ev (fun k => impl_HardLoad.f k room l nm) (hardLoad room l nm) := by
  unfold impl_HardLoad.f hardLoad
  refine Ev.bind (implJournalRead_ev room l nm h1 hl) ?_
  have h := journalRead_len room l nm
  have hz := journalRead_size room l nm
  exact implHl_l (journalRead room l nm).1 [] [] (by simpa using h) (by simp) (fun x hx => by have := hz x hx; omega)

theorem FnExactHardLoad : laws_FnExactHardLoad.Pure := by
  intro room l nm hr hm hz hq _
  obtain ⟨r, h1, h2⟩ := szDisk_ev room l hq hz 1048576 (by omega) (by omega)
  apply Ev.rounds
  unfold laws_FnExactHardLoad.f
  refine Ev.bind h1 ?_
  by_cases h : r < 0
  · simp only [h, ↓reduceIte]; exact Ev.now _
  · have h2 := h2 (by omega)
    have hn := dsize_nn (l.map toF)
    have hL : (l.map toF).length ≤ 1048576 := by simp; omega
    have hT := toDisk_ev room l (by omega)
    have hS := specHardLoad_ev room (l.map toF) nm (by omega) (by omega)
    have hI := implHardLoad_ev room (l.map toF) nm (by omega) (by omega)
    have hG : (hardLoad room (l.map toF) nm).2.2.1.length ≤ 2000 := hlG_len _ _
    generalize l.map toF = L at *
    generalize hardLoad room L nm = U at *
    obtain ⟨u0, u1, u2, u3⟩ := U
    simp only at hG
    simp only [h, ↓reduceIte]
    refine Ev.bind hT (Ev.bind hS (Ev.bind hT (Ev.bind hI ?_)))
    refine Ev.bind (eqHard_ev u0 u1 u2 (by omega)) ?_
    simp only [↓reduceIte, bne_self_eq_false]
    refine Ev.step (fun k => by simp only [laws_FnExactHardLoad.j0, Bool.false_eq_true, ↓reduceIte]; rfl) ?_
    refine Ev.bind hT ?_
    refine Ev.bind (eqDisk_ev room L (by omega)) ?_
    simp only [↓reduceIte]
    refine Ev.bind (markDisk_ev room L 1 (by omega) (by omega) (by omega)) ?_
    simp only [show ¬ (1 + 3 * (L.length : Int) < 0) by omega, ↓reduceIte]
    refine Ev.bind (eqHard_ev u0 u1 u2 (by omega)) ?_
    simp only [↓reduceIte, bne_self_eq_false]
    refine Ev.step (fun k => by simp only [laws_FnExactHardLoad.j1, Bool.false_eq_true, ↓reduceIte]; rfl) ?_
    refine Ev.bind (markHard_ev u0 u1 u2 1 (by omega) (by omega) (by omega)) ?_
    refine Ev.bind (heldHard_ev u0 u1 u2.length 1 (by omega) (by omega) (by omega)) ?_
    simp only [show ¬ (1 + 6 * (u2.length : Int) < 0) by omega, ↓reduceIte]
    refine Ev.bind hT (Ev.bind hI ?_)
    refine Ev.bind (eqHard_ev u0 u1 u2 (by omega)) ?_
    simp only [↓reduceIte, bne_self_eq_false]
    refine Ev.step (fun k => by simp only [laws_FnExactHardLoad.j2, Bool.false_eq_true, ↓reduceIte]; rfl) ?_
    refine Ev.bind (heldHard_ev u0 u1 u2.length 1 (by omega) (by omega) (by omega)) ?_
    simp only [show ¬ (1 + 6 * (u2.length : Int) < 0) by omega, ↓reduceIte]
    exact Ev.now _

end Go.Proofs.Ytocpomkfilpflaa.Pure
