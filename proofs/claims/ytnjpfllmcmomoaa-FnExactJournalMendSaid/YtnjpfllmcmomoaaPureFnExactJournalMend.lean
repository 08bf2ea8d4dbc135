/- JournalMend of the program and of the reference give the same disk and word for every disk and name, in memory of their own, and the program leaves its argument as it was; no condition. -/
import Derived.Test.YtnjpfllmcmomoaaQFnExactJournalMendx12
namespace Go.Proofs.Ytnjpfllmcmomoaa.Pure
open Go.RowKit Go.Proofs.Ytnjpfllmcmomoaa.QFnExactJournalMend Go.Proofs.YtnjpfllmcmomoaaW.PrintWords Go.Proofs.YtnjpfllmcmomoaaW.PrintLast
set_option linter.unusedVariables false
set_option linter.unusedSimpArgs false
theorem w64 {x : Int} (h0 : -9223372036854775808 ≤ x) (h1 : x ≤ 9223372036854775807) : wrap64 x = x := by
  unfold wrap64; omega
def By (l : List Int) : Prop := ∀ x ∈ l, 0 ≤ x ∧ x ≤ 255
theorem by_wf {l : List Int} (h : ∀ x ∈ l, (Lit.int .u8 x).wf = true) : By l := fun x hx => by
  have := h x hx
  simpa [Lit.wf, IntKind.min, IntKind.max, IntKind.bits, IntKind.signed] using this
theorem i64_wf {x : Int} (h : (Lit.int .i64 x).wf = true) : -9223372036854775808 ≤ x ∧ x ≤ 9223372036854775807 := by
  simpa [Lit.wf, IntKind.min, IntKind.max, IntKind.bits, IntKind.signed] using h
theorem rd_nat (l : List Int) (i : Nat) : rd l (i : Int) = l.getD i 0 := by simp [rd]
theorem By.at_ {l : List Int} (h : By l) (i : Int) : 0 ≤ rd l i ∧ rd l i ≤ 255 := by
  unfold rd
  rw [List.getD_eq_getElem?_getD]
  rcases Nat.lt_or_ge i.toNat l.length with hi | hi
  · rw [List.getElem?_eq_getElem hi]; exact h _ (List.getElem_mem hi)
  · rw [List.getElem?_eq_none hi]; simp
theorem wraps_i64 (n : Int) (h₀ : 0 ≤ n) (h₁ : n < 2 ^ 63) : IntKind.i64.wrap n = n := by rw [IntKind.wrap_i64]; omega
theorem and_mask (i : Nat) (hi : i ≤ 63) {x : Int} (h₀ : 0 ≤ x) (h₁ : x ≤ 9223372036854775807) : Go.bits .and .i64 x (2 ^ i - 1) = x % 2 ^ i :=
  bits_mask .i64 63 (by decide) wraps_i64 i hi x h₀ (by omega)
theorem or_join (i : Nat) {x y : Int} (hx₀ : 0 ≤ x) (hx : x % 2 ^ i = 0) (hx₁ : x ≤ 9223372036854775807) (hy₀ : 0 ≤ y) (hy : y < 2 ^ i) (hy₁ : y ≤ 9223372036854775807) : Go.bits .or .i64 x y = x + y :=
  bits_join .i64 63 (by decide) wraps_i64 i x y hx₀ hx (by omega) hy₀ hy (by omega)

def inr (a b c : Int) : Bool := decide (b ≤ a ∧ a ≤ c)
theorem ba_nil : (⟨#[]⟩ : ByteArray).toList = [] := by rw [ByteArray.toList, ByteArray.toList.loop]; rfl
theorem if_eq0 (a c : Int) (x : Bool) : (if a = c then some x else some false) = some (a == c && x) := by
  by_cases h : a = c
  · subst h; simp
  · have b : (a == c) = false := by simpa using h
    simp [h, b]
theorem if_tt (b x : Bool) : (if b = true then some x else some false) = some (b && x) := by cases b <;> rfl

theorem rdF_mid (P : List S134) (x : S134) (t : List S134) : rd_T134 (P ++ x :: t) (P.length : Int) = x := by
  unfold rd_T134; simp
theorem rdF_last (P : List S134) (y : S134) (t : List S134) : rd_T134 (P ++ [y] ++ t) (((P ++ [y]).length : Int) - 1) = y := by
  unfold rd_T134
  have : (((P ++ [y]).length : Int) - 1).toNat = P.length := by simp
  rw [this]; simp
def dsize : List S134 → Int
  | [] => 0
  | x :: t => x.f1.size + x.f2.size + dsize t
theorem dsize_nn : ∀ l : List S134, 0 ≤ dsize l
  | [] => by simp [dsize]
  | x :: t => by have := dsize_nn t; simp only [dsize]; omega
theorem dsize_mem {l : List S134} {x : S134} (h : x ∈ l) : (x.f1.size : Int) + x.f2.size ≤ dsize l := by
  induction l with
  | nil => simp at h
  | cons y t ih =>
    have hn := dsize_nn t
    simp only [dsize]
    rcases List.mem_cons.1 h with rfl | h
    · omega
    · have := ih h; omega
def asc : Int → List S134 → Bool
  | _, [] => true
  | lo, x :: t => decide (lo ≤ x.f0 ∧ x.f0 ≤ 7) && asc (x.f0 + 1) t
theorem asc_len : ∀ (l : List S134) (lo : Int), lo ≤ 8 → asc lo l = true → (l.length : Int) ≤ 8 - lo
  | [], lo, h, _ => by simp; omega
  | x :: t, lo, h, ha => by
    simp only [asc, Bool.and_eq_true, decide_eq_true_eq] at ha
    have := asc_len t (x.f0 + 1) (by omega) ha.2
    simp only [List.length_cons]; omega
def diskOk (room : Int) (l : List S134) : Bool := asc 0 l && (inr room 0 40000 && decide (dsize l ≤ room))

theorem rdG_mid (P : List S164) (x : S164) (t : List S164) : rd_T164 (P ++ x :: t) (P.length : Int) = x := by
  unfold rd_T164; simp
def toF (x : S164) : S134 := ⟨x.f0, x.f1, x.f2⟩
def szF : List S164 → Int → Int
  | [], a => a
  | x :: t, a => if a - x.f1.size < 0 then -1 else if a - x.f1.size - x.f2.size < 0 then -1 else szF t (a - x.f1.size - x.f2.size)
theorem szF_b : ∀ (l : List S164) (a : Int), 0 ≤ a → (szF l a = -1 ∨ 0 ≤ szF l a ∧ szF l a + dsize (l.map toF) = a)
  | [], a, h => by simp [szF, dsize, h]
  | x :: t, a, h => by
    have ht : dsize ((x :: t).map toF) = x.f1.size + x.f2.size + dsize (t.map toF) := rfl
    rw [ht]
    simp only [szF]
    split
    · exact .inl rfl
    · split
      · exact .inl rfl
      · have := szF_b t (a - x.f1.size - x.f2.size) (by omega)
        rcases this with h1 | h1
        · exact .inl h1
        · refine .inr ⟨h1.1, ?_⟩; omega
theorem szFile_eq (x : S164) (a : Int) (h0 : 0 ≤ a) (h1 : a ≤ 140737488355328) (hx : x.f1.size ≤ 140737488355328 ∧ x.f2.size ≤ 140737488355328) : laws_szFile.f x.f0 x.f1 x.f2 a = some (if a - x.f1.size < 0 then -1 else if a - x.f1.size - x.f2.size < 0 then -1 else a - x.f1.size - x.f2.size) := by
  unfold laws_szFile.f
  rw [w64 (x := a - x.f1.size) (by omega) (by omega), w64 (by omega) (by omega)]
  split
  · rfl
  · split <;> rfl
theorem szFileS_l (rest : List S164) : ∀ (P : List S164) (a : Int), 0 ≤ a → a ≤ 140737488355328 → P.length + rest.length ≤ 140737488355328 → (∀ x ∈ rest, x.f1.size ≤ 140737488355328 ∧ x.f2.size ≤ 140737488355328) → Ev (fun k => laws_szFileS.l0 k (P ++ rest) a (P.length : Int)) (szF rest a) := by
  induction rest with
  | nil =>
    intro P a h0 h1 hl hx
    refine Ev.step (f := fun _ => some a) (fun k => ?_) (Ev.now _)
    simp only [laws_szFileS.l0]
    rw [if_neg (by simp)]
  | cons x t ih =>
    intro P a h0 h1 hl hx
    simp only [List.length_cons] at hl
    have hx0 := hx x (by simp)
    have e := szFile_eq x a h0 h1 hx0
    have el : ((P ++ x :: t).length : Int) = P.length + t.length + 1 := by simp; omega
    by_cases c1 : a - x.f1.size < 0
    · refine Ev.step (f := fun _ => some (-1)) (fun k => ?_) ?_
      · simp only [laws_szFileS.l0]
        rw [if_pos (by omega), if_pos (by omega), rdG_mid, e, if_pos c1]
        rfl
      · simp only [szF, c1, ↓reduceIte]; exact Ev.now _
    · by_cases c2 : a - x.f1.size - x.f2.size < 0
      · refine Ev.step (f := fun _ => some (-1)) (fun k => ?_) ?_
        · simp only [laws_szFileS.l0]
          rw [if_pos (by omega), if_pos (by omega), rdG_mid, e, if_neg c1, if_pos c2]
          rfl
        · simp only [szF, c1, c2, ↓reduceIte]; exact Ev.now _
      · have h := ih (P ++ [x]) (a - x.f1.size - x.f2.size) (by omega) (by omega) (by simp; omega) (fun y hy => hx y (by simp [hy]))
        refine Ev.step (f := fun k => laws_szFileS.l0 k ((P ++ [x]) ++ t) (a - x.f1.size - x.f2.size) ((P ++ [x]).length : Int)) (fun k => ?_) ?_
        · simp only [laws_szFileS.l0]
          rw [if_pos (by omega), if_pos (by omega), rdG_mid, e, if_neg c1, if_neg c2]
          simp only [Option.bind_some]
          rw [if_neg c2, w64 (by omega) (by omega)]
          simp
        · simp only [szF, c1, c2, ↓reduceIte]; exact h
theorem szFileS_ev (l : List S164) (a : Int) (h0 : 0 ≤ a) (h1 : a ≤ 140737488355328) (hl : l.length ≤ 140737488355328) (hx : ∀ x ∈ l, x.f1.size ≤ 140737488355328 ∧ x.f2.size ≤ 140737488355328) :
    ∃ r, Ev (fun k => laws_szFileS.f k l a) r ∧ (0 ≤ r → r + l.length + dsize (l.map toF) = a) := by
  unfold laws_szFileS.f
  rw [w64 (x := a - l.length) (by omega) (by omega)]
  by_cases h : a - l.length < 0
  · refine ⟨-1, ?_, by omega⟩
    simp only [h, ↓reduceIte]; exact Ev.now _
  · refine ⟨szF l (a - l.length), ?_, ?_⟩
    · simp only [h, ↓reduceIte]
      exact szFileS_l l [] (a - l.length) (by omega) (by omega) (by simp; omega) hx
    · have := szF_b l (a - l.length) (by omega)
      omega
theorem set_fillF (l : List S164) (i d : Nat) (hi : i + (d + 1) = l.length) : ((l.take i).map toF ++ List.replicate (d + 1) z134).set i (toF (rd_T164 l (i : Int))) = (l.take (i + 1)).map toF ++ List.replicate d z134 := by
  have hlt : i < l.length := by omega
  have h1 : ((l.take i).map toF).length = i := by rw [List.length_map, List.length_take]; omega
  rw [List.set_append_right _ _ (by omega), h1, Nat.sub_self, List.replicate_succ, List.set_cons_zero, List.take_succ_eq_append_getElem hlt, List.map_append, List.append_assoc]
  unfold rd_T164
  simp [List.getD_eq_getElem?_getD, hlt]
theorem toFileS_l (l : List S164) (hl : l.length ≤ 7036874417766) (d : Nat) : ∀ i : Nat, i + d = l.length → Ev (fun k => laws_toFileS.l0 k l ((l.take i).map toF ++ List.replicate d z134) (i : Int)) (l.map toF) := by
  induction d with
  | zero =>
    intro i hi
    refine Ev.step (f := fun _ => some (l.map toF)) (fun k => ?_) (Ev.now _)
    simp only [laws_toFileS.l0]
    rw [if_neg (by omega)]
    have : l.take i = l := List.take_of_length_le (by omega)
    simp [this]
  | succ d ih =>
    intro i hi
    refine Ev.step (f := fun k => laws_toFileS.l0 k l ((l.take (i + 1)).map toF ++ List.replicate d z134) ((i + 1 : Nat) : Int)) (fun k => ?_) (ih (i + 1) (by omega))
    simp only [laws_toFileS.l0, laws_toFile.f, Option.bind_some]
    rw [if_pos (by omega), if_pos (by omega), if_pos (by simp; omega), w64 (by omega) (by omega), Int.toNat_natCast]
    rw [show (⟨(rd_T164 l (i : Int)).f0, (rd_T164 l (i : Int)).f1, (rd_T164 l (i : Int)).f2⟩ : S134) = toF (rd_T164 l (i : Int)) from rfl, set_fillF l i d hi]
    rfl
theorem toFileS_ev (l : List S164) (hl : l.length ≤ 7036874417766) : Ev (fun k => laws_toFileS.f k l) (l.map toF) := by
  refine Ev.congr (fun k => ?_) (toFileS_l l hl l.length 0 (by omega))
  unfold laws_toFileS.f
  rw [if_pos (by omega), if_pos (by simp; omega)]
  simp
theorem eqFileS_l (l : List S134) (hl : l.length ≤ 140737488355328) (d : Nat) : ∀ i : Nat, i + d = l.length → Ev (fun k => laws_eqFileS.l0 k l l (i : Int)) true := by
  induction d with
  | zero =>
    intro i hi
    refine Ev.step (f := fun _ => some true) (fun k => ?_) (Ev.now _)
    simp only [laws_eqFileS.l0]
    rw [if_neg (by omega)]
  | succ d ih =>
    intro i hi
    refine Ev.step (f := fun k => laws_eqFileS.l0 k l l ((i + 1 : Nat) : Int)) (fun k => ?_) (ih (i + 1) (by omega))
    simp only [laws_eqFileS.l0, laws_eqFile.f, ↓reduceIte, Option.bind_some]
    rw [if_pos (by omega), if_pos (by omega), if_pos (by omega), w64 (by omega) (by omega)]
    rfl
theorem eqFileS_ev (l : List S134) (hl : l.length ≤ 140737488355328) : Ev (fun k => laws_eqFileS.f k l l) true := by
  refine Ev.congr (fun k => ?_) (eqFileS_l l hl l.length 0 (by omega))
  unfold laws_eqFileS.f
  rw [if_pos rfl]; rfl

theorem szDisk_ev (room : Int) (l : List S164) (h : ∀ x ∈ l, Q164 x) (hl : l.length * 40 ≤ 140737488351232) (a : Int) (h0 : 0 ≤ a) (h1 : a ≤ 140737488355328) :
    ∃ r, Ev (fun k => laws_szDisk.f k room l a) r ∧ (0 ≤ r → r + l.length + dsize (l.map toF) = a) := by
  obtain ⟨r, hr, hb⟩ := szFileS_ev l a h0 h1 (by omega) (fun x hx => by have := h x hx; unfold Q164 at this; omega)
  by_cases c : r < 0
  · refine ⟨-1, ?_, by omega⟩
    unfold laws_szDisk.f
    refine Ev.bind hr ?_
    simp only [c, ↓reduceIte]; exact Ev.now _
  · refine ⟨r, ?_, hb⟩
    unfold laws_szDisk.f
    refine Ev.bind hr ?_
    simp only [c, ↓reduceIte]; exact Ev.now _
theorem toDisk_ev (room : Int) (l : List S164) (hl : l.length ≤ 7036874417766) : Ev (fun k => laws_toDisk.f k room l) (room, l.map toF) := by
  unfold laws_toDisk.f
  refine Ev.bind (toFileS_ev l hl) ?_
  exact Ev.now _
theorem eqDisk_ev (room : Int) (l : List S134) (hl : l.length ≤ 140737488355328) : Ev (fun k => laws_eqDisk.f k room l room l) true := by
  unfold laws_eqDisk.f
  simp only [↓reduceIte]
  refine Ev.bind (eqFileS_ev l hl) ?_
  simp only [↓reduceIte]; exact Ev.now _

def mtGo (x : Int) (a : ByteArray) : ByteArray := if h : x > 0 then mtGo (x / 10) (strOfNums [(48 + x % 10) % 256] ++ a) else (⟨#[109]⟩ : ByteArray) ++ a
termination_by x.toNat
decreasing_by omega
def mt (x : Int) : ByteArray := if x ≤ 0 then (⟨#[109, 48]⟩ : ByteArray) else mtGo x (⟨#[]⟩ : ByteArray)
theorem strOf1_size (c : Int) : (strOfNums [c]).size = 1 := rfl
theorem markText_l (m : Nat) : ∀ (x : Int) (a : ByteArray), x < 10 ^ m → a.size + m ≤ 1000000 → x ≤ 9223372036854775807 → 0 ≤ x → Ev (fun k => laws_markText.l0 k x a) (mtGo x a) := by
  induction m with
  | zero =>
    intro x a h0 h1 h2 h3
    have h0 : x < 1 := by simpa using h0
    refine Ev.step (f := fun _ => some (mtGo x a)) (fun k => ?_) (Ev.now _)
    simp only [laws_markText.l0]
    rw [if_neg (by omega), if_pos (by omega)]
    rw [mtGo, dif_neg (by omega)]
  | succ m ih =>
    intro x a h0 h1 h2 h3
    by_cases c : x > 0
    · have e : mtGo x a = mtGo (x / 10) (strOfNums [(48 + x % 10) % 256] ++ a) := by rw [mtGo]; simp [c]
      have es : (strOfNums [(48 + x % 10) % 256] ++ a).size = 1 + a.size := by rw [ByteArray.size_append, strOf1_size]
      rw [Int.pow_succ] at h0
      have h := ih (x / 10) (strOfNums [(48 + x % 10) % 256] ++ a) (by omega) (by omega) (by omega) (by omega)
      rw [e]
      refine Ev.step (fun k => ?_) h
      simp only [laws_markText.l0]
      rw [if_pos c, Int.tmod_eq_emod_of_nonneg h3, Int.tdiv_eq_ediv_of_nonneg h3, w64 (x := 48 + x % 10) (by omega) (by omega), w64 (x := x / 10) (by omega) (by omega)]
      simp only [Option.bind_some]
      rw [strOf1_size, if_pos (by omega)]
    · refine Ev.step (f := fun _ => some (mtGo x a)) (fun k => ?_) (Ev.now _)
      simp only [laws_markText.l0]
      rw [if_neg c, if_pos (by omega)]
      rw [mtGo, dif_neg c]
theorem markText_ev (x : Int) (h : x ≤ 9223372036854775807) : Ev (fun k => laws_markText.f k x) (mt x) := by
  unfold laws_markText.f mt
  by_cases c : x ≤ 0
  · simp only [c, ↓reduceIte]; exact Ev.now _
  · simp only [c, ↓reduceIte]
    exact markText_l 19 x _ (by omega) (by decide) h (by omega)

def marksF : Nat → Int → List S134
  | 0, _ => []
  | n + 1, q => ⟨q, mt (q + 1), mt (q + 2)⟩ :: marksF n (q + 3)
theorem marksF_length : ∀ (n : Nat) (q : Int), (marksF n q).length = n
  | 0, _ => rfl
  | n + 1, q => by rw [marksF, List.length_cons, marksF_length n]
theorem setF_mid (P : List S134) (x y : S134) (t : List S134) : (P ++ x :: t).set (P.length : Int).toNat y = P ++ y :: t := by simp
theorem markF_l (rest : List S134) : ∀ (P : List S134) (q : Int), P.length + rest.length ≤ 140737488355328 → 0 ≤ q → q + 3 * rest.length ≤ 2814749767106560 →
    Ev (fun k => laws_markFileS.l0 k (P ++ rest) q (P.length : Int)) (q + 3 * rest.length, P ++ marksF rest.length q) := by
  induction rest with
  | nil =>
    intro P q hl h0 h1
    refine Ev.step (f := fun _ => some (q, P)) (fun k => ?_) ?_
    · simp only [laws_markFileS.l0]
      rw [if_neg (by simp)]; simp
    · simp [marksF]; exact Ev.now _
  | cons x t ih =>
    intro P q hl h0 h1
    simp only [List.length_cons] at hl h1
    have el : ((P ++ x :: t).length : Int) = P.length + t.length + 1 := by simp; omega
    have h := ih (P ++ [⟨q, mt (q + 1), mt (q + 2)⟩]) (q + 3) (by simp; omega) (by omega) (by omega)
    refine Ev.step (fun k => by
      simp only [laws_markFileS.l0]
      rw [if_pos (by omega), if_pos (by omega), rdF_mid, setF_mid, w64 (x := q + 1) (by omega) (by omega)]) ?_
    simp only [Option.bind_some]
    refine Ev.bind (markText_ev (q + 1) (by omega)) ?_
    rw [w64 (x := q + 1 + 1) (by omega) (by omega), rdF_mid, setF_mid]
    simp only [Option.bind_some]
    refine Ev.bind (markText_ev (q + 1 + 1) (by omega)) ?_
    rw [rdF_mid, setF_mid, w64 (x := q + 1 + 1 + 1) (by omega) (by omega), w64 (x := (P.length : Int) + 1) (by omega) (by omega)]
    have e1 : q + 1 + 1 = q + 2 := by omega
    have e2 : q + 1 + 1 + 1 = q + 3 := by omega
    have e3 : (q + 3 + 3 * (t.length : Int), P ++ [(⟨q, mt (q + 1), mt (q + 2)⟩ : S134)] ++ marksF t.length (q + 3)) = (q + 3 * ((x :: t).length : Int), P ++ marksF (x :: t).length q) := by
      simp [marksF]; omega
    rw [← e3]
    rw [e2, e1]
    refine Ev.congr (fun k => ?_) h
    simp
theorem markF_ev (l : List S134) (q : Int) (hl : l.length ≤ 140737488355328) (h0 : 0 ≤ q) (h1 : q ≤ 140737488355328) : Ev (fun k => laws_markFileS.f k l q) (q + 3 * l.length, marksF l.length q) := by
  have h := markF_l l [] q (by simpa using hl) h0 (by omega)
  simpa [laws_markFileS.f] using h

theorem markDisk_ev (room : Int) (l : List S134) (q : Int) (hl : l.length ≤ 140737488355328) (h0 : 0 ≤ q) (h1 : q ≤ 140737488355328) : Ev (fun k => laws_markDisk.f k room l q) (q + 3 * l.length, marksF l.length q) := by
  unfold laws_markDisk.f
  refine Ev.bind (markF_ev l q hl h0 h1) ?_
  exact Ev.now _

theorem heldF_l (n : Nat) : ∀ (P : List S134) (q : Int), P.length + n ≤ 140737488355328 → 0 ≤ q → q + 3 * n ≤ 2814749767106560 →
    Ev (fun k => laws_heldFileS.l0 k (P ++ marksF n q) q (P.length : Int)) (q + 3 * n) := by
  induction n with
  | zero =>
    intro P q hl h0 h1
    refine Ev.step (f := fun _ => some q) (fun k => ?_) ?_
    · simp only [laws_heldFileS.l0]
      rw [if_neg (by simp [marksF])]
    · simp; exact Ev.now _
  | succ n ih =>
    intro P q hl h0 h1
    have h := ih (P ++ [⟨q, mt (q + 1), mt (q + 2)⟩]) (q + 3) (by simp; omega) (by omega) (by omega)
    have e : P ++ marksF (n + 1) q = P ++ [(⟨q, mt (q + 1), mt (q + 2)⟩ : S134)] ++ marksF n (q + 3) := by simp [marksF]
    have el : ((P ++ marksF (n + 1) q).length : Int) = P.length + n + 1 := by rw [List.length_append, marksF_length]; omega
    have er : rd_T134 (P ++ marksF (n + 1) q) (P.length : Int) = ⟨q, mt (q + 1), mt (q + 2)⟩ := rdF_mid P _ _
    refine Ev.step (fun k => by
      simp only [laws_heldFileS.l0]
      rw [if_pos (by omega), if_pos (by omega), er, w64 (x := q + 1) (by omega) (by omega)]) ?_
    simp only [↓reduceIte]
    refine Ev.bind (markText_ev (q + 1) (by omega)) ?_
    simp only [↓reduceIte]
    rw [w64 (x := q + 1 + 1) (by omega) (by omega), show q + 1 + 1 = q + 2 by omega]
    refine Ev.bind (markText_ev (q + 2) (by omega)) ?_
    simp only [↓reduceIte]
    rw [w64 (x := q + 2 + 1) (by omega) (by omega), w64 (x := (P.length : Int) + 1) (by omega) (by omega), show q + 2 + 1 = q + 3 by omega]
    have e2 : (q + 3 + 3 * (n : Int)) = q + 3 * ((n + 1 : Nat) : Int) := by omega
    rw [← e2, e]
    refine Ev.congr (fun k => ?_) h
    simp
theorem heldF_ev (n : Nat) (q : Int) (hl : n ≤ 140737488355328) (h0 : 0 ≤ q) (h1 : q ≤ 140737488355328) : Ev (fun k => laws_heldFileS.f k (marksF n q) q) (q + 3 * n) := by
  have h := heldF_l n [] q (by simpa using hl) h0 (by omega)
  simpa [laws_heldFileS.f] using h

theorem heldDisk_ev (room : Int) (n : Nat) (q : Int) (hl : n ≤ 140737488355328) (h0 : 0 ≤ q) (h1 : q ≤ 140737488355328) : Ev (fun k => laws_heldDisk.f k room (marksF n q) q) (q + 3 * n) := by
  unfold laws_heldDisk.f
  refine Ev.bind (heldF_ev n q hl h0 h1) ?_
  simp only [show ¬ q + 3 * (n : Int) < 0 by omega, ↓reduceIte]
  exact Ev.now _

theorem l3Size_l (rest : List S134) : ∀ (P : List S134) (n room : Int), 0 ≤ n → n + dsize rest ≤ 1152921504606846976 → P.length + rest.length ≤ 140737488355328 → Ev (fun k => spec_l3Size.l0 k n (P.length : Int) room (P ++ rest)) (n + dsize rest) := by
  induction rest with
  | nil =>
    intro P n room h0 h1 hl
    refine Ev.step (f := fun _ => some n) (fun k => ?_) ?_
    · simp only [spec_l3Size.l0]
      rw [if_neg (by simp)]
    · simp only [dsize, Int.add_zero]; exact Ev.now _
  | cons x t ih =>
    intro P n room h0 h1 hl
    simp only [List.length_cons] at hl
    have hn := dsize_nn t
    simp only [dsize] at h1
    have h := ih (P ++ [x]) (n + x.f1.size + x.f2.size) room (by omega) (by omega) (by simp; omega)
    have e : n + dsize (x :: t) = n + x.f1.size + x.f2.size + dsize t := by simp only [dsize]; omega
    rw [e]
    refine Ev.step (fun k => ?_) h
    simp only [spec_l3Size.l0]
    rw [if_pos (by simp; omega), if_pos (by omega), rdF_mid, w64 (x := n + x.f1.size) (by omega) (by omega), w64 (by omega) (by omega), w64 (by omega) (by omega)]
    simp
theorem l3Size_ev (room : Int) (l : List S134) (h1 : dsize l ≤ 1152921504606846976) (hl : l.length ≤ 140737488355328) : Ev (fun k => spec_l3Size.f k room l) (dsize l) := by
  have h := l3Size_l l [] 0 room (by omega) (by omega) (by simpa using hl)
  simpa [spec_l3Size.f] using h

theorem l1In_eq (a b c : Int) : spec_l1In.f a b c = some (inr a b c) := by
  unfold spec_l1In.f inr
  by_cases h : a ≥ b
  · rw [if_pos h]; congr 1; by_cases h2 : a ≤ c <;> simp [h, h2]
  · rw [if_neg h]; congr 1; simp; omega

theorem l3Name_eq (a : Int) : spec_l3Name.f a = some (inr a 0 7) := by unfold spec_l3Name.f; rw [l1In_eq]; rfl
theorem specDiskOk_l (rest : List S134) : ∀ (P : List S134) (lo room : Int), 0 ≤ lo → (P = [] ∧ lo = 0 ∨ ∃ P' y, P = P' ++ [y] ∧ lo = y.f0 + 1) → P.length + rest.length ≤ 140737488355328 → Ev (fun k => spec_DiskOk.l0 k (P.length : Int) room (P ++ rest)) (asc lo rest) := by
  induction rest with
  | nil =>
    intro P lo room h0 hP hl
    refine Ev.step (f := fun _ => some true) (fun k => ?_) (Ev.now _)
    simp only [spec_DiskOk.l0]
    rw [if_neg (by simp)]
  | cons x t ih =>
    intro P lo room h0 hP hl
    simp only [List.length_cons] at hl
    have el : ((P ++ x :: t).length : Int) = P.length + t.length + 1 := by simp; omega
    have hw1 : wrap64 ((P.length : Int) + 1) = ((P ++ [x]).length : Int) := by rw [w64 (by omega) (by omega)]; simp
    by_cases c1 : 0 ≤ x.f0 ∧ x.f0 ≤ 7
    · have i1 : inr x.f0 0 7 = true := decide_eq_true c1
      by_cases c2 : lo ≤ x.f0
      · have h := ih (P ++ [x]) (x.f0 + 1) room (by omega) (.inr ⟨P, x, rfl, rfl⟩) (by simp; omega)
        refine Ev.step (f := fun k => spec_DiskOk.l0 k ((P ++ [x]).length : Int) room ((P ++ [x]) ++ t)) (fun k => ?_) ?_
        · simp only [spec_DiskOk.l0, l3Name_eq, Option.bind_some]
          rw [if_pos (by omega), if_pos (by omega), rdF_mid, i1, if_pos rfl]
          have ea : P ++ x :: t = P ++ [x] ++ t := by simp
          rcases hP with ⟨rfl, rfl⟩ | ⟨P', y, rfl, rfl⟩
          · rw [if_neg (by simp), hw1, ea]
          · have ep : ((P' ++ [y]).length : Int) = P'.length + 1 := by simp
            rw [if_pos (by omega), w64 (x := ((P' ++ [y]).length : Int) - 1) (by omega) (by omega), if_pos (by omega), if_pos (by omega), show P' ++ [y] ++ x :: t = P' ++ [y] ++ (x :: t) from rfl, rdF_last, if_neg (by omega), hw1, ea]
        · simp only [asc, show lo ≤ x.f0 ∧ x.f0 ≤ 7 from ⟨c2, c1.2⟩, decide_true, Bool.true_and]; exact h
      · refine Ev.step (f := fun _ => some false) (fun k => ?_) ?_
        · simp only [spec_DiskOk.l0, l3Name_eq, Option.bind_some]
          rw [if_pos (by omega), if_pos (by omega), rdF_mid, i1, if_pos rfl]
          rcases hP with ⟨rfl, rfl⟩ | ⟨P', y, rfl, rfl⟩
          · omega
          · have ep : ((P' ++ [y]).length : Int) = P'.length + 1 := by simp
            rw [if_pos (by omega), w64 (x := ((P' ++ [y]).length : Int) - 1) (by omega) (by omega), if_pos (by omega), if_pos (by omega), rdF_last, if_pos (by omega)]
        · have : asc lo (x :: t) = false := by simp [asc, c2]
          rw [this]; exact Ev.now _
    · have i1 : inr x.f0 0 7 = false := decide_eq_false c1
      refine Ev.step (f := fun _ => some false) (fun k => ?_) ?_
      · simp only [spec_DiskOk.l0, l3Name_eq, Option.bind_some]
        rw [if_pos (by omega), if_pos (by omega), rdF_mid, i1, if_neg (by simp)]
      · have : asc lo (x :: t) = false := by
          have : ¬ (lo ≤ x.f0 ∧ x.f0 ≤ 7) := by omega
          simp only [asc, this, decide_false, Bool.false_and]
        rw [this]; exact Ev.now _
theorem specDiskOk_ev (room : Int) (l : List S134) (h1 : dsize l ≤ 1152921504606846976) (hl : l.length ≤ 140737488355328) : Ev (fun k => spec_DiskOk.f k room l) (diskOk room l) := by
  unfold spec_DiskOk.f diskOk
  simp only [l1In_eq, Option.bind_some]
  have hj : Ev (fun k => spec_DiskOk.j0 k true room l) false := by
    refine Ev.step (f := fun _ => some false) (fun k => ?_) (Ev.now _)
    simp only [spec_DiskOk.j0, ↓reduceIte]
  cases h : inr room 0 40000
  · simp only [Bool.false_eq_true, ↓reduceIte, Bool.false_and, Bool.and_false]; exact hj
  · simp only [↓reduceIte, Bool.true_and]
    by_cases h8 : (l.length : Int) > 8
    · have : asc 0 l = false := by
        cases ha : asc 0 l
        · rfl
        · have := asc_len l 0 (by omega) ha; omega
      simp only [h8, ↓reduceIte, this, Bool.false_and]; exact hj
    · simp only [h8, ↓reduceIte]
      refine Ev.bind (l3Size_ev room l h1 hl) ?_
      by_cases hd : dsize l > room
      · simp only [hd, decide_true, show ¬ dsize l ≤ room by omega, decide_false, Bool.and_false]; exact hj
      · simp only [hd, decide_false, show dsize l ≤ room by omega, decide_true, Bool.and_true]
        refine Ev.step (f := fun k => spec_DiskOk.l0 k 0 room l) (fun k => ?_) ?_
        · simp only [spec_DiskOk.j0]; rfl
        · exact specDiskOk_l l [] 0 room (by omega) (.inl ⟨rfl, rfl⟩) (by simpa using hl)

theorem sizeOf_l (rest : List S134) : ∀ (P : List S134) (n m : Int), m = P.length + rest.length → 0 ≤ n → n + dsize rest ≤ 1152921504606846976 → P.length + rest.length ≤ 140737488355328 → Ev (fun k => impl_sizeOf.l0 k n (P ++ rest) m (P.length : Int)) (n + dsize rest) := by
  induction rest with
  | nil =>
    intro P n m hm h0 h1 hl
    refine Ev.step (f := fun _ => some n) (fun k => ?_) ?_
    · simp only [impl_sizeOf.l0]
      rw [if_neg (by simp at hm; omega)]
    · simp only [dsize, Int.add_zero]; exact Ev.now _
  | cons x t ih =>
    intro P n m hm h0 h1 hl
    simp only [List.length_cons] at hl hm
    have hn := dsize_nn t
    simp only [dsize] at h1
    have h := ih (P ++ [x]) (n + x.f1.size + x.f2.size) m (by simp; omega) (by omega) (by omega) (by simp; omega)
    have e : n + dsize (x :: t) = n + x.f1.size + x.f2.size + dsize t := by simp only [dsize]; omega
    rw [e]
    refine Ev.step (fun k => ?_) h
    simp only [impl_sizeOf.l0]
    rw [if_pos (by omega), if_pos (by omega), if_pos (by simp; omega), rdF_mid, w64 (x := (x.f1.size : Int) + x.f2.size) (by omega) (by omega), w64 (by omega) (by omega), w64 (by omega) (by omega)]
    simp [Int.add_assoc]
theorem sizeOf_ev (room : Int) (l : List S134) (h1 : dsize l ≤ 1152921504606846976) (hl : l.length ≤ 140737488355328) : Ev (fun k => impl_sizeOf.f k room l) (dsize l) := by
  have h := sizeOf_l l [] 0 l.length (by simp) (by omega) (by omega) (by simpa using hl)
  simpa [impl_sizeOf.f] using h

theorem within_eq (a b c : Int) : impl_within.f a b c = some (inr a b c) := by
  unfold impl_within.f inr
  by_cases h : a ≥ b
  · rw [if_pos h]; congr 1; by_cases h2 : a ≤ c <;> simp [h, h2]
  · rw [if_neg h]; congr 1; simp; omega

theorem isFile_eq (a : Int) : impl_isFile.f a = some (inr a 0 7) := by unfold impl_isFile.f; rw [within_eq]; rfl
theorem implDiskOk_l (F : List S134) (hd : dsize F ≤ 1152921504606846976) (hF : F.length ≤ 140737488355328) (rest : List S134) : ∀ (P : List S134) (lo room : Int), F = P ++ rest → 0 ≤ lo → (P = [] ∧ lo = 0 ∨ ∃ P' y, P = P' ++ [y] ∧ lo = y.f0 + 1) → Ev (fun k => impl_DiskOk.l0 k F (F.length : Int) (P.length : Int) room F) (asc lo rest && (inr room 0 40000 && decide (dsize F ≤ room))) := by
  induction rest with
  | nil =>
    intro P lo room hPF h0 hP
    refine Ev.step (f := fun k => (impl_within.f room 0 40000).bind fun t => if t = true then (impl_sizeOf.f k room F).bind fun t2 => some (decide (t2 ≤ room)) else some false) (fun k => ?_) ?_
    · simp only [impl_DiskOk.l0]
      rw [if_neg (by rw [hPF]; simp)]
    · simp only [within_eq, Option.bind_some, asc, Bool.true_and]
      cases inr room 0 40000
      · simp only [Bool.false_eq_true, ↓reduceIte, Bool.false_and]; exact Ev.now _
      · simp only [↓reduceIte, Bool.true_and]
        refine Ev.bind (sizeOf_ev room F hd hF) ?_
        exact Ev.now _
  | cons x t ih =>
    intro P lo room hPF h0 hP
    have el : (F.length : Int) = P.length + t.length + 1 := by rw [hPF]; simp; omega
    have hr : rd_T134 F (P.length : Int) = x := by rw [hPF]; exact rdF_mid P x t
    have hw1 : wrap64 ((P.length : Int) + 1) = ((P ++ [x]).length : Int) := by rw [w64 (by omega) (by omega)]; simp
    by_cases c1 : 0 ≤ x.f0 ∧ x.f0 ≤ 7
    · have i1 : inr x.f0 0 7 = true := decide_eq_true c1
      by_cases c2 : lo ≤ x.f0
      · have h := ih (P ++ [x]) (x.f0 + 1) room (by rw [hPF]; simp) (by omega) (.inr ⟨P, x, rfl, rfl⟩)
        refine Ev.step (f := fun k => impl_DiskOk.l0 k F (F.length : Int) ((P ++ [x]).length : Int) room F) (fun k => ?_) ?_
        · simp only [impl_DiskOk.l0, isFile_eq, Option.bind_some]
          rw [if_pos (by omega), if_pos (by omega), if_pos (by omega), hr, i1, if_pos rfl]
          rcases hP with ⟨rfl, rfl⟩ | ⟨P', y, rfl, rfl⟩
          · rw [if_neg (by simp), hw1]
          · have hy : rd_T134 F (((P' ++ [y]).length : Int) - 1) = y := by rw [hPF]; exact rdF_last P' y (x :: t)
            have ep : ((P' ++ [y]).length : Int) = P'.length + 1 := by simp
            rw [if_pos (by omega), w64 (x := ((P' ++ [y]).length : Int) - 1) (by omega) (by omega), if_pos (by omega), if_pos (by omega), hy, if_neg (by omega), hw1]
        · simp only [asc, show lo ≤ x.f0 ∧ x.f0 ≤ 7 from ⟨c2, c1.2⟩, decide_true, Bool.true_and]; exact h
      · refine Ev.step (f := fun _ => some false) (fun k => ?_) ?_
        · simp only [impl_DiskOk.l0, isFile_eq, Option.bind_some]
          rw [if_pos (by omega), if_pos (by omega), if_pos (by omega), hr, i1, if_pos rfl]
          rcases hP with ⟨rfl, rfl⟩ | ⟨P', y, rfl, rfl⟩
          · omega
          · have hy : rd_T134 F (((P' ++ [y]).length : Int) - 1) = y := by rw [hPF]; exact rdF_last P' y (x :: t)
            have ep : ((P' ++ [y]).length : Int) = P'.length + 1 := by simp
            rw [if_pos (by omega), w64 (x := ((P' ++ [y]).length : Int) - 1) (by omega) (by omega), if_pos (by omega), if_pos (by omega), hy, if_pos (by omega)]
        · have : asc lo (x :: t) = false := by simp [asc, c2]
          rw [this]; exact Ev.now _
    · have i1 : inr x.f0 0 7 = false := decide_eq_false c1
      refine Ev.step (f := fun _ => some false) (fun k => ?_) ?_
      · simp only [impl_DiskOk.l0, isFile_eq, Option.bind_some]
        rw [if_pos (by omega), if_pos (by omega), if_pos (by omega), hr, i1, if_neg (by simp)]
      · have : asc lo (x :: t) = false := by
          have : ¬ (lo ≤ x.f0 ∧ x.f0 ≤ 7) := by omega
          simp only [asc, this, decide_false, Bool.false_and]
        rw [this]; exact Ev.now _
theorem implDiskOk_ev (room : Int) (l : List S134) (h1 : dsize l ≤ 1152921504606846976) (hl : l.length ≤ 140737488355328) : Ev (fun k => impl_DiskOk.f k room l) (diskOk room l) :=
  implDiskOk_l l h1 hl l [] 0 room rfl (by omega) (.inl ⟨rfl, rfl⟩)

theorem findS_l (nm : Int) (rest : List S134) : ∀ (P : List S134) (room : Int), P.length + rest.length ≤ 140737488355328 → Ev (fun k => spec_l3Find.l0 k nm (P.length : Int) room (P ++ rest)) (idxName rest nm (P.length : Int)) := by
  induction rest with
  | nil =>
    intro P room hl
    refine Ev.step (f := fun _ => some (-1)) (fun k => ?_) (Ev.now _)
    simp only [spec_l3Find.l0]
    rw [if_neg (by simp)]
  | cons x t ih =>
    intro P room hl
    simp only [List.length_cons] at hl
    have el : ((P ++ x :: t).length : Int) = P.length + t.length + 1 := by simp; omega
    by_cases c : x.f0 = nm
    · refine Ev.step (f := fun _ => some (P.length : Int)) (fun k => ?_) ?_
      · simp only [spec_l3Find.l0]
        rw [if_pos (by omega), if_pos (by omega), rdF_mid, if_pos c]
      · simp only [idxName, c, ↓reduceIte]; exact Ev.now _
    · have h := ih (P ++ [x]) room (by simp; omega)
      have hw1 : wrap64 ((P.length : Int) + 1) = ((P ++ [x]).length : Int) := by rw [w64 (by omega) (by omega)]; simp
      have hi : idxName (x :: t) nm (P.length : Int) = idxName t nm ((P ++ [x]).length : Int) := by simp only [idxName, c, ↓reduceIte]; simp
      rw [hi]
      refine Ev.step (fun k => ?_) h
      simp only [spec_l3Find.l0]
      rw [if_pos (by omega), if_pos (by omega), rdF_mid, if_neg c, hw1]
      simp
theorem findS_ev (room : Int) (l : List S134) (nm : Int) (hl : l.length ≤ 140737488355328) : Ev (fun k => spec_l3Find.f k room l nm) (idxName l nm 0) := by
  have h := findS_l nm l [] room (by simpa using hl)
  simpa [spec_l3Find.f] using h

theorem idx_b (nm : Int) : ∀ (l : List S134) (i : Int), 0 ≤ i → (idxName l nm i = -1 ∨ i ≤ idxName l nm i ∧ idxName l nm i < i + l.length)
  | [], i, h => by simp [idxName]
  | x :: t, i, h => by
    simp only [idxName, List.length_cons]
    split
    · exact .inr ⟨by omega, by omega⟩
    · have := idx_b nm t (i + 1) (by omega)
      omega
theorem rdF_mem (l : List S134) (i : Int) (h0 : 0 ≤ i) (h1 : i < l.length) : rd_T134 l i ∈ l := by
  unfold rd_T134
  have : i.toNat < l.length := by omega
  simp [List.getD_eq_getElem?_getD, this]
theorem idx_mem (nm : Int) : ∀ (l : List S134) (i : Int), 0 ≤ i → 0 ≤ idxName l nm i → ∃ y ∈ l, y.f0 = nm
  | [], i, h, h1 => by simp [idxName] at h1
  | x :: t, i, h, h1 => by
    simp only [idxName] at h1
    by_cases c : x.f0 = nm
    · exact ⟨x, by simp, c⟩
    · simp only [c, ↓reduceIte] at h1
      obtain ⟨y, hy, e⟩ := idx_mem nm t (i + 1) (by omega) h1
      exact ⟨y, by simp [hy], e⟩

def diskRead (room : Int) (l : List S134) (nm : Int) : ByteArray × Bool := if diskOk room l = true then (if idxName l nm 0 < 0 then ((⟨#[]⟩ : ByteArray), false) else (((rd_T134 l (idxName l nm 0)).f1) ++ ((rd_T134 l (idxName l nm 0)).f2), true)) else ((⟨#[]⟩ : ByteArray), false)
theorem diskRead_tail (room : Int) (l : List S134) (nm : Int) (h1 : dsize l ≤ 1152921504606846976) : (if diskOk room l = true then (if idxName l nm 0 < 0 then (some ((⟨#[]⟩ : ByteArray), false)) else (if 0 ≤ idxName l nm 0 then (if idxName l nm 0 < (l.length : Int) then (if ((rd_T134 l (idxName l nm 0)).f1).size + ((rd_T134 l (idxName l nm 0)).f2).size ≤ 9223372036854775807 then (some (((rd_T134 l (idxName l nm 0)).f1) ++ ((rd_T134 l (idxName l nm 0)).f2), true)) else (none)) else (none)) else (none))) else (some ((⟨#[]⟩ : ByteArray), false))) = some (diskRead room l nm) := by
  unfold diskRead
  split
  · split
    · rfl
    · rename_i h
      have hb := idx_b nm l 0 (by omega)
      have hm := dsize_mem (rdF_mem l (idxName l nm 0) (by omega) (by omega))
      rw [if_pos (by omega), if_pos (by omega), if_pos (by omega)]
  · rfl
theorem specDiskRead_ev (room : Int) (l : List S134) (nm : Int) (h1 : dsize l ≤ 1152921504606846976) (hl : l.length ≤ 140737488355328) : Ev (fun k => spec_DiskRead.f k room l nm) (diskRead room l nm) := by
  unfold spec_DiskRead.f
  refine Ev.bind (findS_ev room l nm hl) ?_
  refine Ev.bind (specDiskOk_ev room l h1 hl) ?_
  rw [diskRead_tail room l nm h1]
  exact Ev.now _
theorem implDiskRead_ev (room : Int) (l : List S134) (nm : Int) (h1 : dsize l ≤ 1152921504606846976) (hl : l.length ≤ 140737488355328) : Ev (fun k => impl_DiskRead.f k room l nm) (diskRead room l nm) := by
  unfold impl_DiskRead.f impl_fileAt.f
  simp only [Option.bind_some]
  refine Ev.bind (implDiskOk_ev room l h1 hl) ?_
  rw [diskRead_tail room l nm h1]
  exact Ev.now _

def sumGo : List Int → Int → Int → Int
  | [], x, y => 65536 * y + x
  | c :: t, x, y => sumGo t ((x + c) % 65521) ((y + (x + c) % 65521) % 65521)
theorem sumGo_b (l : List Int) : ∀ x y : Int, 0 ≤ x → x < 65521 → 0 ≤ y → y < 65521 → 0 ≤ sumGo l x y ∧ sumGo l x y < 4294967296 := by
  induction l with
  | nil => intro x y h0 h1 h2 h3; simp only [sumGo]; omega
  | cons c t ih =>
    intro x y h0 h1 h2 h3
    exact ih _ _ (by omega) (by omega) (by omega) (by omega)
def sumOf (l : List Int) : Int := sumGo l 1 0
theorem sumOf_b (l : List Int) : 0 ≤ sumOf l ∧ sumOf l < 4294967296 := sumGo_b l 1 0 (by omega) (by omega) (by omega) (by omega)
theorem rd_mid (P : List Int) (c : Int) (t : List Int) : rd (P ++ c :: t) (P.length : Int) = c := by rw [rd_nat]; simp

def putNum (x : Int) : List Int := if h : x > 127 then (x % 128 + 128) :: putNum (x / 128) else [x]
termination_by x.toNat
decreasing_by omega
theorem putNum_big {x : Int} (h : x > 127) : putNum x = (x % 128 + 128) :: putNum (x / 128) := by rw [putNum]; simp [h]
theorem putNum_small {x : Int} (h : ¬ x > 127) : putNum x = [x] := by rw [putNum]; simp [h]
theorem putNum_by (m : Nat) : ∀ x : Int, 0 ≤ x → x < 128 ^ (m + 1) → By (putNum x) ∧ (putNum x).length ≤ m + 1 ∧ 1 ≤ (putNum x).length := by
  induction m with
  | zero =>
    intro x h0 h1
    have h1 : x < 128 := by simpa using h1
    rw [putNum_small (by omega)]
    refine ⟨fun y hy => ?_, by simp, by simp⟩
    simp at hy; omega
  | succ m ih =>
    intro x h0 h1
    by_cases h : x > 127
    · rw [putNum_big h]
      obtain ⟨h2, h3, h4⟩ := ih (x / 128) (by omega) (by rw [Int.pow_succ] at h1; omega)
      refine ⟨fun y hy => ?_, by simp; omega, by simp⟩
      rcases List.mem_cons.1 hy with rfl | hy
      · omega
      · exact h2 y hy
    · rw [putNum_small h]
      refine ⟨fun y hy => ?_, by simp, by simp⟩
      simp at hy; omega
theorem putNum_b9 {x : Int} (h0 : 0 ≤ x) (h1 : x ≤ 9223372036854775807) : By (putNum x) ∧ (putNum x).length ≤ 9 ∧ 1 ≤ (putNum x).length := putNum_by 8 x h0 (by omega)

def sum4 (l : List Int) : List Int := [sumOf l % 256, sumOf l / 256 % 256, sumOf l / 65536 % 256, sumOf l / 16777216 % 256]
def sealed (l : List Int) : List Int := putNum l.length ++ l ++ sum4 l
def sealOf (l : List Int) : List Int × Bool := if l.length > 3000 then ([], false) else (sealed l, true)
theorem sealOf_len (l : List Int) : (sealOf l).1.length ≤ 3013 := by
  unfold sealOf
  split
  · simp
  · have := (putNum_b9 (x := l.length) (by omega) (by omega)).2.1
    simp [sealed, sum4]; omega

def p7 (k : Nat) : Int := 128 ^ k
def gn : Nat → List Int → Int → Nat → Int → Int × Int × Bool
  | 0, _, _, _, _ => (0, 0, false)
  | d + 1, l, at_, k, x => if at_ + k < l.length then (if rd l (at_ + k) < 128 then (if rd l (at_ + k) = 0 ∧ 0 < k then (0, 0, false) else (x + rd l (at_ + k) % 128 * p7 k, at_ + k + 1, true)) else gn d l at_ (k + 1) (x + rd l (at_ + k) % 128 * p7 k)) else (0, 0, false)
def getNum (l : List Int) (at_ : Int) : Int × Int × Bool := if at_ < 0 then (0, 0, false) else gn 9 l at_ 0 0
theorem p7_0 : p7 0 = 1 := rfl
theorem p7_succ (k : Nat) : p7 (k + 1) = p7 k * 128 := Int.pow_succ 128 k
theorem p7_b (k : Nat) (hk : k ≤ 8) : 1 ≤ p7 k ∧ p7 k ≤ 72057594037927936 := by
  have : k = 0 ∨ k = 1 ∨ k = 2 ∨ k = 3 ∨ k = 4 ∨ k = 5 ∨ k = 6 ∨ k = 7 ∨ k = 8 := by omega
  rcases this with rfl | rfl | rfl | rfl | rfl | rfl | rfl | rfl | rfl <;> decide
theorem p128 (k : Nat) (hk : k ≤ 8) (x c : Int) (hx0 : 0 ≤ x) (hx : x < p7 k) (hc0 : 0 ≤ c) (hc : c < 128) : 0 ≤ c * p7 k ∧ c * p7 k ≤ 9223372036854775807 ∧ 0 ≤ x + c * p7 k ∧ x + c * p7 k ≤ 9223372036854775807 ∧ x + c * p7 k < p7 (k + 1) := by
  have h := p7_b k hk
  rw [p7_succ]
  generalize p7 k = u at *
  have h1 : 0 ≤ c * u := Int.mul_nonneg hc0 (by omega)
  have h2 : c * u ≤ 127 * u := Int.mul_le_mul_of_nonneg_right (by omega) (by omega)
  refine ⟨h1, by omega, by omega, by omega, by omega⟩

theorem gn_b : ∀ (d : Nat) (k : Nat) (l : List Int) (a x : Int), By l → 0 ≤ a → d + k ≤ 9 → 0 ≤ x → x < p7 k → 0 ≤ (gn d l a k x).1 ∧ (gn d l a k x).1 ≤ 9223372036854775807 ∧ 0 ≤ (gn d l a k x).2.1 ∧ (gn d l a k x).2.1 ≤ l.length
  | 0, k, l, a, x, hb, ha, hk, h0, h1 => by simp [gn]
  | d + 1, k, l, a, x, hb, ha, hk, h0, h1 => by
    have hz : (0 : Int) ≤ 0 ∧ (0 : Int) ≤ 9223372036854775807 ∧ (0 : Int) ≤ 0 ∧ (0 : Int) ≤ l.length := ⟨by omega, by omega, by omega, by omega⟩
    have hr := hb.at_ (a + k)
    have hp := p128 k (by omega) x (rd l (a + k) % 128) h0 h1 (by omega) (by omega)
    simp only [gn]
    split
    · split
      · split
        · exact hz
        · exact ⟨hp.2.2.1, hp.2.2.2.1, by simp only; omega, by simp only; omega⟩
      · exact gn_b d (k + 1) l a _ hb ha (by omega) hp.2.2.1 hp.2.2.2.2
    · exact hz
theorem getNum_b (l : List Int) (a : Int) (hb : By l) : 0 ≤ (getNum l a).1 ∧ (getNum l a).1 ≤ 9223372036854775807 ∧ 0 ≤ (getNum l a).2.1 ∧ (getNum l a).2.1 ≤ l.length := by
  unfold getNum
  split
  · exact ⟨by simp, by simp, by simp, by simp⟩
  · exact gn_b 9 0 l a 0 hb (by omega) (by omega) (by omega) (by decide)

def seg (l : List Int) (a b : Int) : List Int := (l.take b.toNat).drop a.toNat
theorem seg_len (l : List Int) (a b : Int) (h0 : 0 ≤ a) (h1 : a ≤ b) (h2 : b ≤ l.length) : ((seg l a b).length : Int) = b - a := by
  unfold seg; rw [List.length_drop, List.length_take]; omega
theorem seg_by (l : List Int) (a b : Int) (hb : By l) : By (seg l a b) := fun x hx => hb x (List.mem_of_mem_take (List.mem_of_mem_drop hx))
def unsealOf (l : List Int) (a : Int) : List Int × Int × Int :=
  if (getNum l a).2.2 = true ∧ (getNum l a).1 ≤ 3000 then
    (if (l.length : Int) - (getNum l a).2.1 < (getNum l a).1 + 4 then ([], 0, 2)
     else if seg l ((getNum l a).2.1 + (getNum l a).1) ((getNum l a).2.1 + (getNum l a).1 + 4) = sum4 (seg l (getNum l a).2.1 ((getNum l a).2.1 + (getNum l a).1)) then (seg l (getNum l a).2.1 ((getNum l a).2.1 + (getNum l a).1), (getNum l a).2.1 + (getNum l a).1 + 4, 0)
     else ([], 0, 3))
  else ([], 0, 1)
theorem unseal_len (l : List Int) (a : Int) : (unsealOf l a).1.length ≤ l.length := by
  unfold unsealOf
  split
  · split
    · simp
    · split
      · simp only [seg, List.length_drop, List.length_take]; omega
      · simp
  · simp
theorem sum4_by (l : List Int) : By (sum4 l) := by
  intro x hx
  simp only [sum4, List.mem_cons, List.not_mem_nil, or_false] at hx
  omega

theorem u_next {k0 : Nat} {u : Int} (h8 : k0 + 1 ≤ 8) (hu : u = p7 k0) : wrap64 (u * 128) = p7 (k0 + 1) := by
  have hp2 := p7_b (k0 + 1) h8
  rw [p7_succ] at hp2 ⊢
  rw [hu]
  exact w64 (by omega) (by omega)
theorem gnStep {k0 : Nat} {c x u : Int} (k8 : k0 ≤ 8) (hc : 0 ≤ c ∧ c ≤ 255) (hx0 : 0 ≤ x) (hx : x < p7 k0) (hu : u = p7 k0) : wrap64 c = c ∧ wrap64 (x + wrap64 (Int.tmod c 128 * u)) = x + c % 128 * p7 k0 ∧ 0 ≤ x + c % 128 * p7 k0 ∧ x + c % 128 * p7 k0 < p7 (k0 + 1) := by
  have hp := p128 k0 k8 x (c % 128) hx0 hx (by omega) (by omega)
  refine ⟨w64 (by omega) (by omega), ?_, hp.2.2.1, hp.2.2.2.2⟩
  rw [Int.tmod_eq_emod_of_nonneg hc.1, hu, w64 (x := c % 128 * p7 k0) (Int.le_trans (by decide) hp.1) hp.2.1, w64 (Int.le_trans (by decide) hp.2.2.1) hp.2.2.2.1]
theorem specGetNum_l (d : Nat) : ∀ (l : List Int) (at_ : Int) (k0 : Nat) (x u : Int), By l → l.length ≤ 140737488355328 → 0 ≤ at_ → at_ ≤ 140737488355328 → k0 + d = 9 → 0 ≤ x → x < p7 k0 → (k0 ≤ 8 → u = p7 k0) → Ev (fun k => spec_GetNum.l0 k l at_ x u (k0 : Int)) (gn d l at_ k0 x) := by
  induction d with
  | zero =>
    intro l at_ k0 x u hb hl h0 h1 hk hx0 hx hu
    refine Ev.step (f := fun k => spec_GetNum.j2 k l at_ x u (k0 : Int) false) (fun k => ?_) ?_
    · simp only [spec_GetNum.l0]; rw [if_neg (by omega)]
    · refine Ev.step (f := fun _ => some (0, 0, false)) (fun k => ?_) (Ev.now _)
      simp only [spec_GetNum.j2]; rfl
  | succ d ih =>
    intro l at_ k0 x u hb hl h0 h1 hk hx0 hx hu
    have k8 : k0 ≤ 8 := by omega
    have z0 : 0 ≤ at_ + (k0 : Int) := by omega
    have k9 : (k0 : Int) < 9 := by omega
    have e1 : wrap64 (at_ + (k0 : Int)) = at_ + k0 := w64 (by omega) (by omega)
    have e4 : wrap64 (at_ + (k0 : Int) + 1) = at_ + k0 + 1 := w64 (by omega) (by omega)
    have e6 : wrap64 ((k0 : Int) + 1) = ((k0 + 1 : Nat) : Int) := w64 (by omega) (by omega)
    have hk' : k0 + 1 + d = 9 := by omega
    have hu := hu k8
    obtain ⟨e2, e3, x0, x1⟩ := gnStep k8 (hb.at_ (at_ + k0)) hx0 hx hu
    by_cases h : at_ + k0 < l.length
    · refine Ev.step (f := fun k => spec_GetNum.j2 k l at_ x u (k0 : Int) true) (fun k => ?_) ?_
      · simp only [spec_GetNum.l0, k9, e1, h, decide_true, ↓reduceIte]
      simp only [gn, h, ↓reduceIte]
      by_cases c1 : rd l (at_ + k0) < 128
      · by_cases c2 : rd l (at_ + k0) = 0
        · by_cases c3 : 0 < k0
          · refine Ev.step (f := fun _ => some (0, 0, false)) (fun k => ?_) ?_
            · have c3' : (k0 : Int) > 0 := by omega
              simp only [spec_GetNum.j2, e1, z0, h, ↓reduceIte]
              rw [e2, if_pos c1, if_pos c2, if_pos c3']
            · rw [if_pos c1, if_pos ⟨c2, c3⟩]; exact Ev.now _
          · refine Ev.step (f := fun _ => some (x + rd l (at_ + k0) % 128 * p7 k0, at_ + k0 + 1, true)) (fun k => ?_) ?_
            · have c3' : ¬ (k0 : Int) > 0 := by omega
              simp only [spec_GetNum.j2, e1, z0, h, ↓reduceIte]
              rw [e2, if_pos c1, if_pos c2, if_neg c3', e3, e4]
            · rw [if_pos c1, if_neg (fun hh => c3 hh.2)]; exact Ev.now _
        · refine Ev.step (f := fun _ => some (x + rd l (at_ + k0) % 128 * p7 k0, at_ + k0 + 1, true)) (fun k => ?_) ?_
          · simp only [spec_GetNum.j2, e1, z0, h, ↓reduceIte]
            rw [e2, if_pos c1, if_neg c2, e3, e4]
          · rw [if_pos c1, if_neg (fun hh => c2 hh.1)]; exact Ev.now _
      · refine Ev.step (f := fun k => spec_GetNum.l0 k l at_ (x + rd l (at_ + k0) % 128 * p7 k0) (wrap64 (u * 128)) ((k0 + 1 : Nat) : Int)) (fun k => ?_) ?_
        · simp only [spec_GetNum.j2, e1, z0, h, ↓reduceIte]
          rw [e2, if_neg c1, e3, e6]
        · rw [if_neg c1]; exact ih l at_ (k0 + 1) _ _ hb hl h0 h1 hk' x0 x1 (fun h8 => u_next h8 hu)
    · refine Ev.step (f := fun k => spec_GetNum.j2 k l at_ x u (k0 : Int) false) (fun k => ?_) ?_
      · simp only [spec_GetNum.l0, k9, e1, h, decide_false, ↓reduceIte]
      · simp only [gn, h, ↓reduceIte]
        refine Ev.step (f := fun _ => some (0, 0, false)) (fun k => ?_) (Ev.now _)
        simp only [spec_GetNum.j2]; rfl
theorem specGetNum_ev (l : List Int) (at_ : Int) (hb : By l) (hl : l.length ≤ 140737488355328) : Ev (fun k => spec_GetNum.f k l at_) (getNum l at_) := by
  unfold spec_GetNum.f getNum
  by_cases h : at_ < 0
  · simp only [h, ↓reduceIte]
    refine Ev.step (f := fun _ => some (0, 0, false)) (fun k => ?_) (Ev.now _)
    simp only [spec_GetNum.j0, ↓reduceIte]
  · by_cases h2 : at_ ≥ (l.length : Int)
    · simp only [h, h2, ↓reduceIte, decide_true]
      refine Ev.step (f := fun _ => some (0, 0, false)) (fun k => ?_) ?_
      · simp only [spec_GetNum.j0, ↓reduceIte]
      · simp only [gn]; rw [if_neg (by omega)]; exact Ev.now _
    · simp only [h, h2, ↓reduceIte, decide_false]
      refine Ev.step (f := fun k => spec_GetNum.l0 k l at_ 0 1 0) (fun k => ?_) ?_
      · simp only [spec_GetNum.j0]; rfl
      · exact specGetNum_l 9 l at_ 0 0 1 hb hl (by omega) (by omega) (by omega) (by omega) (by decide) (fun _ => rfl)

theorem specSum_l (rest : List Int) : ∀ (P : List Int) (x y : Int), By rest → P.length + rest.length ≤ 140737488355328 → 0 ≤ x → x < 65521 → 0 ≤ y → y < 65521 → Ev (fun k => spec_Sum.l0 k (P ++ rest) x y (P.length : Int)) (sumGo rest x y) := by
  induction rest with
  | nil =>
    intro P x y hb hl h0 h1 h2 h3
    refine Ev.step (f := fun _ => some (65536 * y + x)) (fun k => ?_) (Ev.now _)
    simp only [spec_Sum.l0]
    rw [if_neg (by simp), w64 (x := 65536 * y) (by omega) (by omega), w64 (by omega) (by omega)]
  | cons c t ih =>
    intro P x y hb hl h0 h1 h2 h3
    have hc := hb c (by simp)
    simp only [List.length_cons] at hl
    have h := ih (P ++ [c]) ((x + c) % 65521) ((y + (x + c) % 65521) % 65521) (fun z hz => hb z (by simp [hz])) (by simp; omega) (by omega) (by omega) (by omega) (by omega)
    refine Ev.step (fun k => ?_) h
    simp only [spec_Sum.l0]
    rw [if_pos (by simp; omega), if_pos (by omega), rd_mid, w64 (x := c) (by omega) (by omega), w64 (x := x + c) (by omega) (by omega), Int.tmod_eq_emod_of_nonneg (by omega), w64 (x := y + _) (by omega) (by omega), Int.tmod_eq_emod_of_nonneg (by omega), w64 (by omega) (by omega)]
    simp
theorem specSum_ev (l : List Int) (hb : By l) (hl : l.length ≤ 140737488355328) : Ev (fun k => spec_Sum.f k l) (sumOf l) := by
  have h := specSum_l l [] 1 0 hb (by simpa using hl) (by omega) (by omega) (by omega) (by omega)
  simpa [spec_Sum.f, sumOf] using h

theorem sum_word (c : List Int) (s : Int) (hc : By c) (hl : c.length = 4) (h0 : 0 ≤ s) (h1 : s < 4294967296) :
    s = (wrap64 ((wrap64 ((wrap64 ((wrap64 (rd c 0)) + (wrap64 ((wrap64 (rd c 1)) * 256)))) + (wrap64 ((wrap64 (rd c 2)) * 65536)))) + (wrap64 ((wrap64 (rd c 3)) * 16777216)))) ↔ c = [s % 256, s / 256 % 256, s / 65536 % 256, s / 16777216 % 256] := by
  match c, hl with
  | [x0, x1, x2, x3], _ =>
    have b0 := hc x0 (by simp)
    have b1 := hc x1 (by simp)
    have b2 := hc x2 (by simp)
    have b3 := hc x3 (by simp)
    have e0 : rd [x0, x1, x2, x3] 0 = x0 := rfl
    have e1 : rd [x0, x1, x2, x3] 1 = x1 := rfl
    have e2 : rd [x0, x1, x2, x3] 2 = x2 := rfl
    have e3 : rd [x0, x1, x2, x3] 3 = x3 := rfl
    rw [e0, e1, e2, e3, w64 (x := x0) (by omega) (by omega), w64 (x := x1) (by omega) (by omega), w64 (x := x2) (by omega) (by omega), w64 (x := x3) (by omega) (by omega), w64 (x := x1 * 256) (by omega) (by omega), w64 (x := x2 * 65536) (by omega) (by omega), w64 (x := x3 * 16777216) (by omega) (by omega), w64 (x := x0 + x1 * 256) (by omega) (by omega), w64 (x := x0 + x1 * 256 + x2 * 65536) (by omega) (by omega), w64 (by omega) (by omega)]
    simp only [List.cons.injEq, and_true]
    constructor
    · intro h; refine ⟨?_, ?_, ?_, ?_⟩ <;> omega
    · intro h; omega
theorem specUnseal_ev (l : List Int) (a : Int) (hb : By l) (hl : l.length ≤ 1048576) (h0 : -9223372036854775808 ≤ a) (h1 : a ≤ 9223372036854775807) : Ev (fun k => spec_Unseal.f k l a) (unsealOf l a) := by
  have hg := getNum_b l a hb
  unfold spec_Unseal.f
  refine Ev.bind (specGetNum_ev l a hb (by omega)) ?_
  generalize hG : getNum l a = G at *
  obtain ⟨n, p, ok⟩ := G
  simp only at hg ⊢
  cases ok
  · simp only [Bool.false_eq_true, ↓reduceIte]
    refine Ev.step (f := fun _ => some ([], 0, 1)) (fun k => by simp only [spec_Unseal.j0, ↓reduceIte]) ?_
    unfold unsealOf; rw [hG]; simp only [Bool.false_eq_true, false_and, ↓reduceIte]; exact Ev.now _
  · simp only [↓reduceIte]
    by_cases c1 : n > 3000
    · refine Ev.step (f := fun _ => some ([], 0, 1)) (fun k => by simp only [spec_Unseal.j0, c1, decide_true, ↓reduceIte]) ?_
      unfold unsealOf; rw [hG]; simp only [show ¬ n ≤ 3000 by omega, and_false, ↓reduceIte]; exact Ev.now _
    · by_cases c2 : (l.length : Int) - p < n + 4
      · refine Ev.step (f := fun _ => some ([], 0, 2)) (fun k => ?_) ?_
        · simp only [spec_Unseal.j0, c1, decide_false, Bool.false_eq_true, ↓reduceIte]
          rw [w64 (x := (l.length : Int) - p) (by omega) (by omega), w64 (x := n + 4) (by omega) (by omega), if_pos c2]
        · unfold unsealOf; rw [hG]; simp only [show n ≤ 3000 by omega, c2, and_self, ↓reduceIte]; exact Ev.now _
      · have hw1 : wrap64 (p + n) = p + n := w64 (by omega) (by omega)
        have hw2 : wrap64 (p + n + 4) = p + n + 4 := w64 (by omega) (by omega)
        have L1 := seg_len l p (p + n) (by omega) (by omega) (by omega)
        have L2 := seg_len l (p + n) (p + n + 4) (by omega) (by omega) (by omega)
        have hs := sumOf_b (seg l p (p + n))
        refine Ev.step (f := fun k => (spec_Sum.f k (seg l p (p + n))).bind fun t => if t = (wrap64 ((wrap64 ((wrap64 ((wrap64 (rd (seg l (p + n) (p + n + 4)) 0)) + (wrap64 ((wrap64 (rd (seg l (p + n) (p + n + 4)) 1)) * 256)))) + (wrap64 ((wrap64 (rd (seg l (p + n) (p + n + 4)) 2)) * 65536)))) + (wrap64 ((wrap64 (rd (seg l (p + n) (p + n + 4)) 3)) * 16777216)))) then some (seg l p (p + n), p + n + 4, 0) else some ([], 0, 3)) (fun k => ?_) ?_
        · simp only [spec_Unseal.j0, c1, decide_false, Bool.false_eq_true, ↓reduceIte, Option.bind_some, List.nil_append, List.length_nil]
          rw [w64 (x := (l.length : Int) - p) (by omega) (by omega), w64 (x := n + 4) (by omega) (by omega), if_neg c2, hw1, hw2]
          change (if 0 ≤ p then (if p ≤ p + n then (if p + n ≤ (l.length : Int) then (if 0 + (seg l p (p + n)).length < 140737488355328 then _ else none) else none) else none) else none) = _
          rw [if_pos (by omega), if_pos (by omega), if_pos (by omega), if_pos (by omega), if_pos (by omega), if_pos (by omega), if_pos (by omega)]
          refine congrArg _ (funext fun t => ?_)
          change (if 0 < ((seg l (p + n) (p + n + 4)).length : Int) then (if 1 < ((seg l (p + n) (p + n + 4)).length : Int) then (if 2 < ((seg l (p + n) (p + n + 4)).length : Int) then (if 3 < ((seg l (p + n) (p + n + 4)).length : Int) then _ else none) else none) else none) else none) = _
          rw [if_pos (by omega), if_pos (by omega), if_pos (by omega), if_pos (by omega)]
          rfl
        · refine Ev.bind (specSum_ev _ (seg_by l _ _ hb) (by omega)) ?_
          have hi := sum_word (seg l (p + n) (p + n + 4)) (sumOf (seg l p (p + n))) (seg_by l _ _ hb) (by omega) hs.1 hs.2
          have e : unsealOf l a = if seg l (p + n) (p + n + 4) = sum4 (seg l p (p + n)) then (seg l p (p + n), p + n + 4, 0) else ([], 0, 3) := by
            unfold unsealOf; rw [hG]; simp only [show n ≤ 3000 by omega, c2, and_self, ↓reduceIte]
          rw [e]
          by_cases c3 : seg l (p + n) (p + n + 4) = sum4 (seg l p (p + n))
          · rw [if_pos (hi.2 c3), if_pos c3]; exact Ev.now _
          · rw [if_neg (fun h => c3 (hi.1 h)), if_neg c3]; exact Ev.now _

theorem shl7 (k0 : Nat) (hk : k0 ≤ 8) (x c : Int) (hx0 : 0 ≤ x) (hx : x < p7 k0) (hc0 : 0 ≤ c) (hc : c < 128) : Go.bits .or .i64 x (shl .i64 c (wrap64 (7 * (k0 : Int)))) = x + c * p7 k0 := by
  have e0 : wrap64 (7 * (k0 : Int)) = ((7 * k0 : Nat) : Int) := by rw [w64 (by omega) (by omega)]; omega
  have e1 : (2 : Int) ^ (7 * k0) = p7 k0 := by rw [Int.pow_mul]; unfold p7; rfl
  have h7 : min (7 * k0) 64 = 7 * k0 := by omega
  have h63 : 7 * k0 ≤ 63 := by omega
  obtain ⟨h1, h2, h3, h4, h5⟩ := p128 k0 hk x c hx0 hx hc0 hc
  have e2 : shl .i64 c (wrap64 (7 * (k0 : Int))) = c * p7 k0 := by
    rw [e0]
    unfold shl
    rw [show IntKind.i64.bits = 64 from rfl, Int.toNat_natCast, h7, e1]
    exact wraps_i64 _ h1 (Int.lt_of_le_of_lt h2 (by decide))
  have e3 : Go.bits .or .i64 x (c * p7 k0) = Go.bits .or .i64 (c * p7 k0) x := by unfold Go.bits; simp only [BitVec.or_comm]
  have e4 : c * p7 k0 % 2 ^ (7 * k0) = 0 := by rw [e1]; exact Int.mul_emod_left _ _
  rw [e2, e3, or_join (7 * k0) h1 e4 h2 hx0 (by rw [e1]; exact hx) (Int.le_trans (Int.le_of_lt hx) (Int.le_trans (p7_b k0 hk).2 (by decide))), Int.add_comm]
theorem giStep {k0 : Nat} {c x : Int} (k8 : k0 ≤ 8) (hc : 0 ≤ c ∧ c ≤ 255) (hx0 : 0 ≤ x) (hx : x < p7 k0) : wrap64 c = c ∧ Go.bits .or .i64 x (shl .i64 (Go.bits .and .i64 c 127) (wrap64 (7 * (k0 : Int)))) = x + c % 128 * p7 k0 ∧ 0 ≤ x + c % 128 * p7 k0 ∧ x + c % 128 * p7 k0 < p7 (k0 + 1) := by
  have hp := p128 k0 k8 x (c % 128) hx0 hx (by omega) (by omega)
  refine ⟨w64 (by omega) (by omega), ?_, hp.2.2.1, hp.2.2.2.2⟩
  rw [show Go.bits .and .i64 c 127 = c % 128 from and_mask 7 (by decide) hc.1 (by omega)]
  exact shl7 k0 k8 x _ hx0 hx (by omega) (by omega)
theorem implGetNum_l (d : Nat) : ∀ (l : List Int) (at_ : Int) (k0 : Nat) (x : Int), By l → l.length ≤ 140737488355328 → 0 ≤ at_ → at_ ≤ 9223372036854775807 → k0 + d = 9 → 0 ≤ x → x < p7 k0 → Ev (fun k => impl_GetNum.l0 k l at_ x (k0 : Int)) (gn d l at_ k0 x) := by
  induction d with
  | zero =>
    intro l at_ k0 x hb hl h0 h1 hk hx0 hx
    refine Ev.step (f := fun k => impl_GetNum.j1 k l at_ x (k0 : Int) false) (fun k => ?_) ?_
    · simp only [impl_GetNum.l0]; rw [if_neg (by omega)]
    · refine Ev.step (f := fun _ => some (0, 0, false)) (fun k => ?_) (Ev.now _)
      simp only [impl_GetNum.j1]; rfl
  | succ d ih =>
    intro l at_ k0 x hb hl h0 h1 hk hx0 hx
    have k8 : k0 ≤ 8 := by omega
    have z0 : 0 ≤ at_ + (k0 : Int) := by omega
    have k9 : (k0 : Int) < 9 := by omega
    have e0 : wrap64 ((l.length : Int) - at_) = l.length - at_ := w64 (by omega) (by omega)
    have e6 : wrap64 ((k0 : Int) + 1) = ((k0 + 1 : Nat) : Int) := w64 (by omega) (by omega)
    have e7 : 0 ≤ wrap64 (7 * (k0 : Int)) := by rw [w64 (by omega) (by omega)]; omega
    have hk' : k0 + 1 + d = 9 := by omega
    have e14 : at_ + k0 < l.length → wrap64 (at_ + (k0 : Int)) = at_ + k0 ∧ wrap64 (at_ + (k0 : Int) + 1) = at_ + k0 + 1 ∧ (k0 : Int) < l.length - at_ := fun h => ⟨w64 (by omega) (by omega), w64 (by omega) (by omega), by omega⟩
    have e15 : ¬ at_ + k0 < l.length → ¬ (k0 : Int) < l.length - at_ := fun h => by omega
    obtain ⟨e2, e3, x0, x1⟩ := giStep k8 (hb.at_ (at_ + k0)) hx0 hx
    by_cases h : at_ + k0 < l.length
    · obtain ⟨e1, e4, h'⟩ := e14 h
      clear e14 e15
      refine Ev.step (f := fun k => impl_GetNum.j1 k l at_ x (k0 : Int) true) (fun k => ?_) ?_
      · simp only [impl_GetNum.l0, k9, e0, h', decide_true, ↓reduceIte]
      simp only [gn, h, ↓reduceIte]
      by_cases c1 : rd l (at_ + k0) < 128
      · have c1' : ¬ rd l (at_ + k0) > 127 := fun hh => absurd (Int.add_one_le_of_lt hh) (Int.not_le.2 c1)
        by_cases c2 : rd l (at_ + k0) = 0
        · by_cases c3 : 0 < k0
          · refine Ev.step (f := fun _ => some (0, 0, false)) (fun k => ?_) ?_
            · have c3' : (k0 : Int) > 0 := by omega
              simp only [impl_GetNum.j1, e1, z0, h, e7, ↓reduceIte]
              rw [e2, if_neg c1', if_pos c3', if_pos c2]
            · rw [if_pos c1, if_pos ⟨c2, c3⟩]; exact Ev.now _
          · refine Ev.step (f := fun _ => some (x + rd l (at_ + k0) % 128 * p7 k0, at_ + k0 + 1, true)) (fun k => ?_) ?_
            · have c3' : ¬ (k0 : Int) > 0 := by omega
              simp only [impl_GetNum.j1, e1, z0, h, e7, ↓reduceIte]
              rw [e2, if_neg c1', if_neg c3', e3, e4]
            · rw [if_pos c1, if_neg (fun hh => c3 hh.2)]; exact Ev.now _
        · refine Ev.step (f := fun _ => some (x + rd l (at_ + k0) % 128 * p7 k0, at_ + k0 + 1, true)) (fun k => ?_) ?_
          · simp only [impl_GetNum.j1, e1, z0, h, e7, ↓reduceIte]
            rw [e2, if_neg c1']
            by_cases c3 : (k0 : Int) > 0
            · rw [if_pos c3, if_neg c2, e3, e4]
            · rw [if_neg c3, e3, e4]
          · rw [if_pos c1, if_neg (fun hh => c2 hh.1)]; exact Ev.now _
      · have c1' : rd l (at_ + k0) > 127 := Int.lt_of_lt_of_le (by decide) (Int.not_lt.1 c1)
        refine Ev.step (f := fun k => impl_GetNum.l0 k l at_ (x + rd l (at_ + k0) % 128 * p7 k0) ((k0 + 1 : Nat) : Int)) (fun k => ?_) ?_
        · simp only [impl_GetNum.j1, e1, z0, h, e7, ↓reduceIte]
          rw [e2, if_pos c1', e3, e6]
        · rw [if_neg c1]; exact ih l at_ (k0 + 1) _ hb hl h0 h1 hk' x0 x1
    · have h' := e15 h
      clear e14 e15
      refine Ev.step (f := fun k => impl_GetNum.j1 k l at_ x (k0 : Int) false) (fun k => ?_) ?_
      · simp only [impl_GetNum.l0, k9, e0, h', decide_false, ↓reduceIte]
      · simp only [gn, h, ↓reduceIte]
        refine Ev.step (f := fun _ => some (0, 0, false)) (fun k => ?_) (Ev.now _)
        simp only [impl_GetNum.j1]; rfl
theorem implGetNum_ev (l : List Int) (at_ : Int) (hb : By l) (hl : l.length ≤ 140737488355328) (ha : at_ ≤ 9223372036854775807) : Ev (fun k => impl_GetNum.f k l at_) (getNum l at_) := by
  unfold impl_GetNum.f getNum
  by_cases h : at_ < 0
  · simp only [h, ↓reduceIte]; exact Ev.now _
  · simp only [h, ↓reduceIte]
    exact implGetNum_l 9 l at_ 0 0 hb hl (by omega) ha (by omega) (by omega) (by decide)

theorem implSum_l (rest : List Int) : ∀ (P : List Int) (x y n : Int), n = P.length + rest.length → By rest → P.length + rest.length ≤ 140737488355328 → 0 ≤ x → x < 65521 → 0 ≤ y → y < 65521 → Ev (fun k => impl_Sum.l0 k x y (P ++ rest) n (P.length : Int)) (sumGo rest x y) := by
  induction rest with
  | nil =>
    intro P x y n hn hb hl h0 h1 h2 h3
    refine Ev.step (f := fun _ => some (65536 * y + x)) (fun k => ?_) (Ev.now _)
    simp only [impl_Sum.l0]
    rw [if_neg (by simp at hn; omega), w64 (x := 65536 * y) (by omega) (by omega), w64 (by omega) (by omega)]
  | cons c t ih =>
    intro P x y n hn hb hl h0 h1 h2 h3
    have hc := hb c (by simp)
    simp only [List.length_cons] at hl hn
    have h := ih (P ++ [c]) ((x + c) % 65521) ((y + (x + c) % 65521) % 65521) n (by simp; omega) (fun z hz => hb z (by simp [hz])) (by simp; omega) (by omega) (by omega) (by omega) (by omega)
    refine Ev.step (fun k => ?_) h
    simp only [impl_Sum.l0]
    rw [if_pos (by omega), if_pos (by omega), if_pos (by simp; omega), rd_mid, w64 (x := c) (by omega) (by omega), w64 (x := x + c) (by omega) (by omega), Int.tmod_eq_emod_of_nonneg (by omega), w64 (x := y + _) (by omega) (by omega), Int.tmod_eq_emod_of_nonneg (by omega), w64 (by omega) (by omega)]
    simp
theorem implSum_ev (l : List Int) (hb : By l) (hl : l.length ≤ 140737488355328) : Ev (fun k => impl_Sum.f k l) (sumOf l) := by
  have h := implSum_l l [] 1 0 l.length (by simp) hb (by simpa using hl) (by omega) (by omega) (by omega) (by omega)
  simpa [impl_Sum.f, sumOf] using h

theorem mask255 {x : Int} (h0 : 0 ≤ x) (h1 : x ≤ 9223372036854775807) : Go.bits .and .i64 x 255 % 256 = x % 256 := by
  have e : Go.bits .and .i64 x 255 = x % 256 := and_mask 8 (by decide) h0 h1
  rw [e]; omega
theorem sumBytes_ev (l : List Int) (hb : By l) (hl : l.length ≤ 140737488355328) : Ev (fun k => impl_sumBytes.f k l) (sum4 l) := by
  unfold impl_sumBytes.f
  have h := sumOf_b l
  refine Ev.bind (implSum_ev l hb hl) ?_
  rw [mask255 (x := sumOf l) (by omega) (by omega), mask255 (x := sumOf l / 256) (by omega) (by omega), mask255 (x := sumOf l / 65536) (by omega) (by omega), mask255 (x := sumOf l / 16777216) (by omega) (by omega)]
  exact Ev.now _

theorem strOf_inj {a b : List Int} (ha : By a) (hb : By b) (h : strOfNums a = strOfNums b) : a = b := by
  have h2 : (a.map fun n => UInt8.ofNat n.toNat) = (b.map fun n => UInt8.ofNat n.toNat) := by
    have := congrArg (fun s : ByteArray => s.data.toList) h
    simpa [strOfNums_data] using this
  clear h
  induction a generalizing b with
  | nil => cases b with
    | nil => rfl
    | cons y t => simp at h2
  | cons x s ih => cases b with
    | nil => simp at h2
    | cons y t =>
      simp only [List.map_cons, List.cons.injEq] at h2
      have hx := ha x (by simp)
      have hy := hb y (by simp)
      have e := congrArg UInt8.toNat h2.1
      simp only [UInt8.toNat_ofNat'] at e
      have : x = y := by omega
      rw [this, ih (fun z hz => ha z (by simp [hz])) (fun z hz => hb z (by simp [hz])) h2.2]
theorem toList_inj {a b : ByteArray} (h : a.toList = b.toList) : a = b := by
  rw [ByteArray.toList_eq, ByteArray.toList_eq] at h
  exact ByteArray.ext (Array.toList_inj.1 h)
theorem strOf_iff {a b : List Int} (ha : By a) (hb : By b) : (strOfNums a).toList = (strOfNums b).toList ↔ a = b :=
  ⟨fun h => strOf_inj ha hb (toList_inj h), fun h => by rw [h]⟩

theorem implUnseal_ev (l : List Int) (a : Int) (hb : By l) (hl : l.length ≤ 1048576) (h0 : -9223372036854775808 ≤ a) (h1 : a ≤ 9223372036854775807) : Ev (fun k => impl_Unseal.f k l a) (unsealOf l a) := by
  have hg := getNum_b l a hb
  unfold impl_Unseal.f
  refine Ev.bind (implGetNum_ev l a hb (by omega) h1) ?_
  generalize hG : getNum l a = G at *
  obtain ⟨n, p, ok⟩ := G
  simp only at hg ⊢
  cases ok
  · simp only [Bool.false_eq_true, ↓reduceIte]
    refine Ev.step (f := fun _ => some ([], 0, 1)) (fun k => by simp only [impl_Unseal.j0, ↓reduceIte]) ?_
    unfold unsealOf; rw [hG]; simp only [Bool.false_eq_true, false_and, ↓reduceIte]; exact Ev.now _
  · simp only [↓reduceIte]
    by_cases c1 : n > 3000
    · refine Ev.step (f := fun _ => some ([], 0, 1)) (fun k => by simp only [impl_Unseal.j0, c1, decide_true, ↓reduceIte]) ?_
      unfold unsealOf; rw [hG]; simp only [show ¬ n ≤ 3000 by omega, and_false, ↓reduceIte]; exact Ev.now _
    · by_cases c2 : (l.length : Int) - p < n + 4
      · refine Ev.step (f := fun _ => some ([], 0, 2)) (fun k => ?_) ?_
        · simp only [impl_Unseal.j0, c1, decide_false, Bool.false_eq_true, ↓reduceIte]
          rw [w64 (x := (l.length : Int) - p) (by omega) (by omega), w64 (x := n + 4) (by omega) (by omega), if_pos (by omega)]
        · unfold unsealOf; rw [hG]; simp only [show n ≤ 3000 by omega, c2, and_self, ↓reduceIte]; exact Ev.now _
      · have hw1 : wrap64 (p + n) = p + n := w64 (by omega) (by omega)
        have hw2 : wrap64 (p + n + 4) = p + n + 4 := w64 (by omega) (by omega)
        have L1 := seg_len l p (p + n) (by omega) (by omega) (by omega)
        refine Ev.step (f := fun k => (impl_sumBytes.f k (seg l p (p + n))).bind fun t => if (strOfNums (seg l (p + n) (p + n + 4))).toList = (strOfNums t).toList then some (seg l p (p + n), p + n + 4, 0) else some ([], 0, 3)) (fun k => ?_) ?_
        · simp only [impl_Unseal.j0, c1, decide_false, Bool.false_eq_true, ↓reduceIte, Option.bind_some, List.nil_append, List.length_nil]
          rw [w64 (x := (l.length : Int) - p) (by omega) (by omega), w64 (x := n + 4) (by omega) (by omega), if_neg (by omega), hw1, hw2]
          change (if 0 ≤ p then (if p ≤ p + n then (if p + n ≤ (l.length : Int) then (if 0 + (seg l p (p + n)).length < 140737488355328 then _ else none) else none) else none) else none) = _
          rw [if_pos (by omega), if_pos (by omega), if_pos (by omega), if_pos (by omega), if_pos (by omega), if_pos (by omega), if_pos (by omega)]
          rfl
        · refine Ev.bind (sumBytes_ev _ (seg_by l _ _ hb) (by omega)) ?_
          have hi := strOf_iff (seg_by l (p + n) (p + n + 4) hb) (sum4_by (seg l p (p + n)))
          have e : unsealOf l a = if seg l (p + n) (p + n + 4) = sum4 (seg l p (p + n)) then (seg l p (p + n), p + n + 4, 0) else ([], 0, 3) := by
            unfold unsealOf; rw [hG]; simp only [show n ≤ 3000 by omega, c2, and_self, ↓reduceIte]
          rw [e]
          by_cases c3 : seg l (p + n) (p + n + 4) = sum4 (seg l p (p + n))
          · rw [if_pos (hi.2 c3), if_pos c3]; exact Ev.now _
          · rw [if_neg (fun h => c3 (hi.1 h)), if_neg c3]; exact Ev.now _

theorem bytesOf_by (s : ByteArray) : By (bytesOf s) := by
  intro x hx
  unfold bytesOf at hx
  obtain ⟨b, _, rfl⟩ := List.mem_map.1 hx
  have := b.toNat_lt
  omega

theorem unseal_b (l : List Int) (a : Int) (hb : By l) : 0 ≤ (unsealOf l a).2.1 ∧ (unsealOf l a).2.1 ≤ l.length := by
  have hg := getNum_b l a hb
  unfold unsealOf
  split
  · split
    · exact ⟨by simp, by simp⟩
    · split
      · exact ⟨by simp only; omega, by simp only; omega⟩
      · exact ⟨by simp, by simp⟩
  · exact ⟨by simp, by simp⟩
theorem unseal_end (l : List Int) (a : Int) (h : (l.length : Int) ≤ a) : (unsealOf l a).2.2 = 1 := by
  have : getNum l a = (0, 0, false) := by
    unfold getNum
    rw [if_neg (by omega)]
    simp only [gn]
    rw [if_neg (by omega)]
  unfold unsealOf
  rw [this]; simp
def jr : Nat → List Int → List ByteArray → Int → List ByteArray × Int
  | 0, _, acc, a => (acc, a)
  | d + 1, b, acc, a => if (unsealOf b a).2.2 = 0 then jr d b (acc ++ [strOfNums (unsealOf b a).1]) (unsealOf b a).2.1 else (acc, a)
theorem jr_len : ∀ (d : Nat) (b : List Int) (acc : List ByteArray) (a : Int), acc.length + d ≤ 2000 → (jr d b acc a).1.length ≤ 2000
  | 0, b, acc, a, h => by simpa [jr] using h
  | d + 1, b, acc, a, h => by
    simp only [jr]
    split
    · exact jr_len d b _ _ (by simp; omega)
    · simp only; omega
set_option maxRecDepth 100000 in
theorem specJr_l (b : List Int) (hb : By b) (hl : b.length ≤ 1048576) (d : Nat) : ∀ (acc : List ByteArray) (a : Int), acc.length + d = 2000 → 0 ≤ a → a ≤ b.length → Ev (fun k => spec_JournalRead.l0 k acc b a) (jr d b acc a) := by
  induction d with
  | zero =>
    intro acc a hd h0 h1
    have hj : Ev (fun k => spec_JournalRead.j1 k acc b a false) (acc, a) := by
      refine Ev.step (f := fun _ => some (acc, a)) (fun k => ?_) (Ev.now _)
      simp only [spec_JournalRead.j1, Bool.false_eq_true, ↓reduceIte]
    refine Ev.step (fun k => ?_) hj
    have e : decide ((acc.length : Int) < 2000) = false := decide_eq_false (by omega)
    simp only [spec_JournalRead.l0, e]
    split <;> rfl
  | succ d ih =>
    intro acc a hd h0 h1
    have hj : Ev (fun k => spec_JournalRead.j1 k acc b a false) (acc, a) := by
      refine Ev.step (f := fun _ => some (acc, a)) (fun k => ?_) (Ev.now _)
      simp only [spec_JournalRead.j1, Bool.false_eq_true, ↓reduceIte]
    have e : decide ((acc.length : Int) < 2000) = true := decide_eq_true (by omega)
    by_cases c : a < (b.length : Int)
    · refine Ev.step (f := fun k => spec_JournalRead.j1 k acc b a true) (fun k => by simp only [spec_JournalRead.l0, e]; rw [if_pos c]) ?_
      refine Ev.step (fun k => by simp only [spec_JournalRead.j1, ↓reduceIte]; rfl) ?_
      refine Ev.bind (specUnseal_ev b a hb hl (by omega) (by omega)) ?_
      have hu := unseal_b b a hb
      simp only [jr]
      by_cases c2 : (unsealOf b a).2.2 = 0
      · have k1 : acc.length < 8796093022208 := by omega
        simp only [c2, ↓reduceIte, k1]
        exact ih _ _ (by simp; omega) hu.1 hu.2
      · simp only [c2, ↓reduceIte]; exact Ev.now _
    · have hu := unseal_end b a (by omega)
      simp only [jr]
      rw [hu]
      simp only [show ¬ (1 : Int) = 0 by omega, ↓reduceIte]
      refine Ev.step (fun k => ?_) hj
      simp only [spec_JournalRead.l0]
      rw [if_neg c]
set_option maxRecDepth 100000 in
theorem implJr_l (b : List Int) (hb : By b) (hl : b.length ≤ 1048576) (d : Nat) : ∀ (acc : List ByteArray) (a : Int), acc.length + d = 2000 → 0 ≤ a → a ≤ b.length → Ev (fun k => impl_JournalRead.l0 k acc b a) (jr d b acc a) := by
  induction d with
  | zero =>
    intro acc a hd h0 h1
    refine Ev.step (f := fun _ => some (acc, a)) (fun k => ?_) (Ev.now _)
    simp only [impl_JournalRead.l0_s]
    rw [if_neg (by omega)]
  | succ d ih =>
    intro acc a hd h0 h1
    refine Ev.step (fun k => by simp only [impl_JournalRead.l0_s]; rw [if_pos (by omega)]) ?_
    refine Ev.bind (implUnseal_ev b a hb hl (by omega) (by omega)) ?_
    have hu := unseal_b b a hb
    simp only [jr]
    by_cases c2 : (unsealOf b a).2.2 = 0
    · have k1 : acc.length < 8796093022208 := by omega
      simp only [c2, ↓reduceIte, k1]
      exact ih _ _ (by simp; omega) hu.1 hu.2
    · simp only [c2, ↓reduceIte]; exact Ev.now _
theorem diskRead_size (room : Int) (l : List S134) (nm : Int) : ((diskRead room l nm).1.size : Int) ≤ dsize l := by
  have hn := dsize_nn l
  have hz : ((⟨#[]⟩ : ByteArray).size : Int) ≤ dsize l := by
    have : (⟨#[]⟩ : ByteArray).size = 0 := rfl
    omega
  unfold diskRead
  split
  · split
    · exact hz
    · have hb := idx_b nm l 0 (by omega)
      have hm := dsize_mem (rdF_mem l (idxName l nm 0) (by omega) (by omega))
      simp only [ByteArray.size_append]; omega
  · exact hz
def journalRead (room : Int) (l : List S134) (nm : Int) : List ByteArray × Int := if (diskRead room l nm).2 = true then jr 2000 (bytesOf (diskRead room l nm).1) [] 0 else ([], 0)
theorem journalRead_len (room : Int) (l : List S134) (nm : Int) : (journalRead room l nm).1.length ≤ 2000 := by
  unfold journalRead
  split
  · exact jr_len 2000 _ _ _ (by simp)
  · simp
theorem specJournalRead_ev (room : Int) (l : List S134) (nm : Int) (h1 : dsize l ≤ 1048576) (hl : l.length ≤ 1048576) : Ev (fun k => spec_JournalRead.f k room l nm) (journalRead room l nm) := by
  unfold spec_JournalRead.f journalRead
  simp only [Option.bind_some]
  refine Ev.bind (specDiskRead_ev room l nm (by omega) (by omega)) ?_
  have hs := diskRead_size room l nm
  cases h : (diskRead room l nm).2
  · simp only [Bool.false_eq_true, ↓reduceIte]; exact Ev.now _
  · have k1 : (diskRead room l nm).1.size ≤ 9223372036854775807 := by omega
    simp only [↓reduceIte, k1]
    exact specJr_l _ (bytesOf_by _) (by rw [bytesOf_length]; omega) 2000 [] 0 rfl (by omega) (by omega)
theorem implJournalRead_ev (room : Int) (l : List S134) (nm : Int) (h1 : dsize l ≤ 1048576) (hl : l.length ≤ 1048576) : Ev (fun k => impl_JournalRead.f k room l nm) (journalRead room l nm) := by
  unfold impl_JournalRead.f journalRead
  simp only [Option.bind_some]
  refine Ev.bind (implDiskRead_ev room l nm (by omega) (by omega)) ?_
  have hs := diskRead_size room l nm
  cases h : (diskRead room l nm).2
  · simp only [Bool.false_eq_true, ↓reduceIte]; exact Ev.now _
  · have k1 : (diskRead room l nm).1.size ≤ 9223372036854775807 := by omega
    simp only [↓reduceIte, k1]
    exact implJr_l _ (bytesOf_by _) (by rw [bytesOf_length]; omega) 2000 [] 0 rfl (by omega) (by omega)

theorem l3Copy_eq (room : Int) (l : List S134) (hl : l.length ≤ 3518437208878) : spec_l3Copy.f room l = some (room, l) := by
  unfold spec_l3Copy.f
  simp only [Option.bind_some, List.length_nil, List.nil_append]
  rw [if_pos (by omega)]
theorem copyDisk_eq (room : Int) (l : List S134) (hl : l.length ≤ 3518437208878) : impl_copyDisk.f room l = some (room, l) := by
  unfold impl_copyDisk.f
  simp only [Option.bind_some, List.length_nil, List.nil_append]
  rw [if_pos (by omega)]
theorem diskOk_asc {room : Int} {l : List S134} (h : diskOk room l = true) : asc 0 l = true := by
  unfold diskOk at h; rw [Bool.and_eq_true] at h; exact h.1

def oth (nm : Int) (l : List S134) : List S134 := l.filter fun x => decide (x.f0 ≠ nm)
def putG (f : S134) : List S134 → List S134
  | [] => [f]
  | x :: t => if x.f0 ≥ f.f0 then f :: oth f.f0 (x :: t) else x :: putG f t
theorem oth_cons_eq {nm : Int} {x : S134} {t : List S134} (h : x.f0 = nm) : oth nm (x :: t) = oth nm t := by simp [oth, h]
theorem oth_cons_ne {nm : Int} {x : S134} {t : List S134} (h : x.f0 ≠ nm) : oth nm (x :: t) = x :: oth nm t := by simp [oth, h]
theorem putT_l (room : Int) (f : S134) (rm : Int) (rest : List S134) : ∀ (P out : List S134), P.length + rest.length ≤ 140737488355328 → out.length + rest.length ≤ 3518437208880 → Ev (fun k => spec_l3Put.l0 k true (P.length : Int) room (P ++ rest) f.f0 f.f1 f.f2 rm out) (rm, out ++ oth f.f0 rest) := by
  induction rest with
  | nil =>
    intro P out hl ho
    refine Ev.step (f := fun _ => some (rm, out)) (fun k => ?_) ?_
    · simp only [spec_l3Put.l0]
      rw [if_neg (by simp), if_pos trivial]
    · simp [oth]; exact Ev.now _
  | cons x t ih =>
    intro P out hl ho
    simp only [List.length_cons] at hl ho
    have el : ((P ++ x :: t).length : Int) = P.length + t.length + 1 := by simp; omega
    have hw1 : wrap64 ((P.length : Int) + 1) = ((P ++ [x]).length : Int) := by rw [w64 (by omega) (by omega)]; simp
    have ea : P ++ x :: t = P ++ [x] ++ t := by simp
    refine Ev.step (fun k => by simp only [spec_l3Put.l0]; rw [if_pos (by omega), if_pos trivial]) ?_
    by_cases c : x.f0 = f.f0
    · have h := ih (P ++ [x]) out (by simp; omega) (by omega)
      rw [oth_cons_eq c]
      refine Ev.step (fun k => ?_) h
      simp only [spec_l3Put.j1]
      rw [if_neg (by simp), if_pos (by omega), if_pos (by omega), rdF_mid, if_pos c, hw1, ea]
    · have h := ih (P ++ [x]) (out ++ [x]) (by simp; omega) (by simp; omega)
      rw [oth_cons_ne c]
      have e3 : out ++ x :: oth f.f0 t = (out ++ [x]) ++ oth f.f0 t := by simp
      rw [e3]
      refine Ev.step (fun k => ?_) h
      simp only [spec_l3Put.j1]
      rw [if_neg (by simp), if_pos (by omega), if_pos (by omega), rdF_mid, if_neg c, if_pos (by omega), hw1, ea]
theorem putF_l (room : Int) (f : S134) (rm : Int) (rest : List S134) : ∀ (P out : List S134), P.length + rest.length ≤ 140737488355328 → out.length + rest.length ≤ 3518437208878 → Ev (fun k => spec_l3Put.l0 k false (P.length : Int) room (P ++ rest) f.f0 f.f1 f.f2 rm out) (rm, out ++ putG f rest) := by
  induction rest with
  | nil =>
    intro P out hl ho
    refine Ev.step (f := fun _ => some (rm, out ++ [f])) (fun k => ?_) ?_
    · simp only [spec_l3Put.l0]
      rw [if_neg (by simp), if_neg (by simp), if_pos (by omega)]
    · simp [putG]; exact Ev.now _
  | cons x t ih =>
    intro P out hl ho
    simp only [List.length_cons] at hl ho
    have el : ((P ++ x :: t).length : Int) = P.length + t.length + 1 := by simp; omega
    have hw1 : wrap64 ((P.length : Int) + 1) = ((P ++ [x]).length : Int) := by rw [w64 (by omega) (by omega)]; simp
    have ea : P ++ x :: t = P ++ [x] ++ t := by simp
    refine Ev.step (fun k => by simp only [spec_l3Put.l0]; rw [if_pos (by omega), if_neg (by simp), if_pos (by omega), rdF_mid]) ?_
    by_cases c : x.f0 ≥ f.f0
    · simp only [c, decide_true, putG, ↓reduceIte]
      by_cases c2 : x.f0 = f.f0
      · have h := putT_l room f rm t (P ++ [x]) (out ++ [f]) (by simp; omega) (by simp; omega)
        rw [oth_cons_eq c2]
        have e3 : out ++ f :: oth f.f0 t = (out ++ [f]) ++ oth f.f0 t := by simp
        rw [e3]
        refine Ev.step (fun k => ?_) h
        simp only [spec_l3Put.j1]
        rw [if_pos trivial, if_pos (by omega)]
        simp only [Option.bind_some]
        rw [if_pos (by omega), if_pos (by omega), rdF_mid, if_pos c2, hw1, ea]
      · have h := putT_l room f rm t (P ++ [x]) (out ++ [f] ++ [x]) (by simp; omega) (by simp; omega)
        rw [oth_cons_ne c2]
        have e3 : out ++ f :: x :: oth f.f0 t = (out ++ [f] ++ [x]) ++ oth f.f0 t := by simp
        rw [e3]
        refine Ev.step (fun k => ?_) h
        simp only [spec_l3Put.j1]
        rw [if_pos trivial, if_pos (by omega)]
        simp only [Option.bind_some]
        rw [if_pos (by omega), if_pos (by omega), rdF_mid, if_neg c2, if_pos (by simp; omega), hw1, ea]
    · simp only [c, decide_false, putG, ↓reduceIte]
      have c2 : ¬ x.f0 = f.f0 := by omega
      have h := ih (P ++ [x]) (out ++ [x]) (by simp; omega) (by simp; omega)
      have e3 : out ++ x :: putG f t = (out ++ [x]) ++ putG f t := by simp
      rw [e3]
      refine Ev.step (fun k => ?_) h
      simp only [spec_l3Put.j1]
      rw [if_neg (by simp), if_pos (by omega), if_pos (by omega), rdF_mid, if_neg c2, if_pos (by omega), hw1, ea]
theorem l3Put_ev (room : Int) (l : List S134) (f : S134) (hl : l.length ≤ 3518437208878) : Ev (fun k => spec_l3Put.f k room l f.f0 f.f1 f.f2) (room, putG f l) := by
  have h := putF_l room f room l [] [] (by simp; omega) (by simpa using hl)
  simpa [spec_l3Put.f] using h
theorem asc_gt : ∀ (l : List S134) (lo : Int) (x : S134), asc lo l = true → x ∈ l → lo ≤ x.f0
  | y :: t, lo, x, h, hx => by
    simp only [asc, Bool.and_eq_true, decide_eq_true_eq] at h
    rcases List.mem_cons.1 hx with rfl | hx
    · exact h.1.1
    · have := asc_gt t (y.f0 + 1) x h.2 hx; omega
theorem oth_asc (l : List S134) (lo nm : Int) (h : asc lo l = true) (hn : nm < lo) : oth nm l = l := by
  unfold oth
  rw [List.filter_eq_self]
  intro x hx
  have := asc_gt l lo x h hx
  simp; omega
theorem putG_set (f : S134) : ∀ (l : List S134) (lo i : Int), asc lo l = true → 0 ≤ i → 0 ≤ idxName l f.f0 i → putG f l = l.set (idxName l f.f0 i - i).toNat f
  | [], lo, i, h, h0, h1 => by simp [idxName] at h1
  | x :: t, lo, i, h, h0, h1 => by
    simp only [asc, Bool.and_eq_true, decide_eq_true_eq] at h
    simp only [idxName] at h1 ⊢
    by_cases c : x.f0 = f.f0
    · simp only [c, ↓reduceIte, putG]
      rw [if_pos (by omega), oth_cons_eq c, oth_asc t (x.f0 + 1) f.f0 h.2 (by omega)]
      simp
    · simp only [c, ↓reduceIte] at h1 ⊢
      have hb := idx_b f.f0 t (i + 1) (by omega)
      have hm : ∃ y ∈ t, y.f0 = f.f0 := idx_mem f.f0 t (i + 1) (by omega) h1
      obtain ⟨y, hy, e⟩ := hm
      have hg := asc_gt t (x.f0 + 1) y h.2 hy
      have ih := putG_set f t (x.f0 + 1) (i + 1) h.2 (by omega) h1
      simp only [putG]
      rw [if_neg (by omega), ih]
      have e2 : (idxName t f.f0 (i + 1) - i).toNat = (idxName t f.f0 (i + 1) - (i + 1)).toNat + 1 := by omega
      rw [e2, List.set_cons_succ]

def cutF (l : List S134) (nm n : Int) : S134 :=
  ⟨nm, (rd_T134 l (idxName l nm 0)).f1.extract 0 (mn n ((rd_T134 l (idxName l nm 0)).f1.size : Int)).toNat, (rd_T134 l (idxName l nm 0)).f2.extract 0 (n - mn n ((rd_T134 l (idxName l nm 0)).f1.size : Int)).toNat⟩
def diskCut (room : Int) (l : List S134) (nm n : Int) : Int × List S134 × Int :=
  if (diskOk room l && inr nm 0 7) = true then (if idxName l nm 0 < 0 then (room, l, 2) else if inr n 0 (((rd_T134 l (idxName l nm 0)).f1.size : Int) + ((rd_T134 l (idxName l nm 0)).f2.size : Int)) = true then (room, l.set (idxName l nm 0).toNat (cutF l nm n), 0) else (room, l, 2)) else (0, [], 1)
theorem diskCut_len (room : Int) (l : List S134) (nm n : Int) : (diskCut room l nm n).2.1.length ≤ l.length := by
  unfold diskCut
  split
  · split
    · simp
    · split <;> simp
  · simp
theorem l1Min_eq (a b : Int) : spec_l1Min.f a b = some (mn a b) := by
  unfold spec_l1Min.f mn
  by_cases h : a < b
  · rw [if_pos h, if_neg (by omega)]
  · rw [if_neg h]
    by_cases h2 : b < a
    · rw [if_pos h2]
    · rw [if_neg h2]; exact congrArg some (by omega)
theorem mn_b (a b : Int) (h0 : 0 ≤ a) (h1 : 0 ≤ b) (c : Int) (hc : 0 ≤ c) (h : a ≤ b + c) : 0 ≤ mn a b ∧ mn a b ≤ b ∧ 0 ≤ a - mn a b ∧ a - mn a b ≤ c := by
  unfold mn; split <;> omega
theorem specDiskCut_ev (room : Int) (l : List S134) (nm n : Int) (h1 : dsize l ≤ 1152921504606846976) (hl : l.length ≤ 3518437208878) : Ev (fun k => spec_DiskCut.f k room l nm n) (diskCut room l nm n) := by
  unfold spec_DiskCut.f diskCut
  refine Ev.bind (specDiskOk_ev room l h1 (by omega)) ?_
  have hj : Ev (fun k => spec_DiskCut.j0 k nm n true room l) (0, [], 1) := by
    refine Ev.step (f := fun _ => some (0, [], 1)) (fun k => ?_) (Ev.now _)
    simp only [spec_DiskCut.j0, ↓reduceIte]
  have hj1 : ∀ i, Ev (fun k => spec_DiskCut.j1 k nm n i true room l) (room, l, 2) := fun i => by
    refine Ev.step (f := fun _ => some (room, l, 2)) (fun k => ?_) (Ev.now _)
    simp only [spec_DiskCut.j1, ↓reduceIte, l3Copy_eq room l hl, Option.bind_some]
  cases h : diskOk room l
  · simp only [Bool.false_eq_true, ↓reduceIte, Bool.false_and]; exact hj
  · simp only [↓reduceIte, Bool.true_and, l3Name_eq, Option.bind_some]
    cases h2 : inr nm 0 7
    · simp only [Bool.not_false, Bool.false_eq_true, ↓reduceIte]; exact hj
    · simp only [Bool.not_true, ↓reduceIte]
      refine Ev.step (fun k => by simp only [spec_DiskCut.j0, Bool.false_eq_true, ↓reduceIte]; rfl) ?_
      refine Ev.bind (findS_ev room l nm (by omega)) ?_
      by_cases c : idxName l nm 0 < 0
      · simp only [c, ↓reduceIte]; exact hj1 _
      · have hb := idx_b nm l 0 (by omega)
        have hm := dsize_mem (rdF_mem l (idxName l nm 0) (by omega) (by omega))
        have k1 : 0 ≤ idxName l nm 0 := by omega
        have k2 : idxName l nm 0 < (l.length : Int) := by omega
        have hw : wrap64 (((rd_T134 l (idxName l nm 0)).f1.size : Int) + ((rd_T134 l (idxName l nm 0)).f2.size : Int)) = ((rd_T134 l (idxName l nm 0)).f1.size : Int) + ((rd_T134 l (idxName l nm 0)).f2.size : Int) := w64 (by omega) (by omega)
        simp only [c, ↓reduceIte, k1, k2, hw, l1In_eq, Option.bind_some]
        cases h3 : inr n 0 (((rd_T134 l (idxName l nm 0)).f1.size : Int) + ((rd_T134 l (idxName l nm 0)).f2.size : Int))
        · simp only [Bool.not_false, Bool.false_eq_true, ↓reduceIte]; exact hj1 _
        · have hr := of_decide_eq_true h3
          obtain ⟨m1, m2, m3, m4⟩ := mn_b n ((rd_T134 l (idxName l nm 0)).f1.size : Int) hr.1 (by omega) ((rd_T134 l (idxName l nm 0)).f2.size : Int) (by omega) hr.2
          have hw2 : wrap64 (n - mn n ((rd_T134 l (idxName l nm 0)).f1.size : Int)) = n - mn n ((rd_T134 l (idxName l nm 0)).f1.size : Int) := w64 (by omega) (by omega)
          simp only [Bool.not_true, ↓reduceIte]
          refine Ev.step (fun k => by simp only [spec_DiskCut.j1, Bool.false_eq_true, ↓reduceIte, k1, k2, l1Min_eq, Option.bind_some, m1, m2, hw2, m3, m4]; rfl) ?_
          refine Ev.bind (l3Put_ev room l (cutF l nm n) hl) ?_
          have e := putG_set (cutF l nm n) l 0 0 (diskOk_asc h) (by omega) k1
          rw [show (cutF l nm n).f0 = nm from rfl, Int.sub_zero] at e
          rw [e]
          exact Ev.now _
theorem implDiskCut_ev (room : Int) (l : List S134) (nm n : Int) (h1 : dsize l ≤ 1152921504606846976) (hl : l.length ≤ 3518437208878) : Ev (fun k => impl_DiskCut.f k room l nm n) (diskCut room l nm n) := by
  unfold impl_DiskCut.f diskCut
  refine Ev.bind (implDiskOk_ev room l h1 (by omega)) ?_
  have hj : Ev (fun k => impl_DiskCut.j0 k nm n true room l) (0, [], 1) := by
    refine Ev.step (f := fun _ => some (0, [], 1)) (fun k => ?_) (Ev.now _)
    simp only [impl_DiskCut.j0, ↓reduceIte]
  cases h : diskOk room l
  · simp only [Bool.false_eq_true, ↓reduceIte, Bool.false_and]; exact hj
  · simp only [↓reduceIte, Bool.true_and, isFile_eq, Option.bind_some]
    cases h2 : inr nm 0 7
    · simp only [Bool.not_false, Bool.false_eq_true, ↓reduceIte]; exact hj
    · simp only [Bool.not_true, ↓reduceIte]
      refine Ev.step (fun k => by simp only [impl_DiskCut.j0, Bool.false_eq_true, ↓reduceIte, copyDisk_eq room l hl, impl_fileAt.f, Option.bind_some]; rfl) ?_
      by_cases c : idxName l nm 0 < 0
      · simp only [c, ↓reduceIte]; exact Ev.now _
      · have hb := idx_b nm l 0 (by omega)
        have hm := dsize_mem (rdF_mem l (idxName l nm 0) (by omega) (by omega))
        have k1 : 0 ≤ idxName l nm 0 := by omega
        have k2 : idxName l nm 0 < (l.length : Int) := by omega
        have hw : wrap64 (((rd_T134 l (idxName l nm 0)).f1.size : Int) + ((rd_T134 l (idxName l nm 0)).f2.size : Int)) = ((rd_T134 l (idxName l nm 0)).f1.size : Int) + ((rd_T134 l (idxName l nm 0)).f2.size : Int) := w64 (by omega) (by omega)
        simp only [c, ↓reduceIte, k1, k2, hw, within_eq, Option.bind_some]
        cases h3 : inr n 0 (((rd_T134 l (idxName l nm 0)).f1.size : Int) + ((rd_T134 l (idxName l nm 0)).f2.size : Int))
        · simp only [Bool.false_eq_true, ↓reduceIte]; exact Ev.now _
        · have hr := of_decide_eq_true h3
          obtain ⟨m1, m2, m3, m4⟩ := mn_b n ((rd_T134 l (idxName l nm 0)).f1.size : Int) hr.1 (by omega) ((rd_T134 l (idxName l nm 0)).f2.size : Int) (by omega) hr.2
          have hw2 : wrap64 (n - mn n ((rd_T134 l (idxName l nm 0)).f1.size : Int)) = n - mn n ((rd_T134 l (idxName l nm 0)).f1.size : Int) := w64 (by omega) (by omega)
          simp only [↓reduceIte, m1, m2, hw2, m3, m4]
          exact Ev.now _

def syncF (l : List S134) (nm : Int) : S134 := ⟨nm, (rd_T134 l (idxName l nm 0)).f1 ++ (rd_T134 l (idxName l nm 0)).f2, (⟨#[]⟩ : ByteArray)⟩
def diskSync (room : Int) (l : List S134) (nm : Int) : Int × List S134 × Int :=
  if (diskOk room l && inr nm 0 7) = true then (if idxName l nm 0 < 0 then (room, l, 2) else (room, l.set (idxName l nm 0).toNat (syncF l nm), 0)) else (0, [], 1)
theorem diskSync_len (room : Int) (l : List S134) (nm : Int) : (diskSync room l nm).2.1.length ≤ l.length := by
  unfold diskSync
  split
  · split <;> simp
  · simp
theorem specDiskSync_ev (room : Int) (l : List S134) (nm : Int) (h1 : dsize l ≤ 1152921504606846976) (hl : l.length ≤ 3518437208878) : Ev (fun k => spec_DiskSync.f k room l nm) (diskSync room l nm) := by
  unfold spec_DiskSync.f diskSync
  refine Ev.bind (specDiskOk_ev room l h1 (by omega)) ?_
  have hj : Ev (fun k => spec_DiskSync.j0 k nm true room l) (0, [], 1) := by
    refine Ev.step (f := fun _ => some (0, [], 1)) (fun k => ?_) (Ev.now _)
    simp only [spec_DiskSync.j0, ↓reduceIte]
  cases h : diskOk room l
  · simp only [Bool.false_eq_true, ↓reduceIte, Bool.false_and]; exact hj
  · simp only [↓reduceIte, Bool.true_and, l3Name_eq, Option.bind_some]
    cases h2 : inr nm 0 7
    · simp only [Bool.not_false, Bool.false_eq_true, ↓reduceIte]; exact hj
    · simp only [Bool.not_true, ↓reduceIte]
      refine Ev.step (fun k => by simp only [spec_DiskSync.j0, Bool.false_eq_true, ↓reduceIte]; rfl) ?_
      refine Ev.bind (findS_ev room l nm (by omega)) ?_
      by_cases c : idxName l nm 0 < 0
      · simp only [c, ↓reduceIte, l3Copy_eq room l hl, Option.bind_some]; exact Ev.now _
      · have hb := idx_b nm l 0 (by omega)
        have hm := dsize_mem (rdF_mem l (idxName l nm 0) (by omega) (by omega))
        have k1 : 0 ≤ idxName l nm 0 := by omega
        have k2 : idxName l nm 0 < (l.length : Int) := by omega
        have k3 : ((rd_T134 l (idxName l nm 0)).f1).size + ((rd_T134 l (idxName l nm 0)).f2).size ≤ 9223372036854775807 := by omega
        simp only [c, ↓reduceIte, k1, k2, k3]
        refine Ev.bind (l3Put_ev room l (syncF l nm) hl) ?_
        have e := putG_set (syncF l nm) l 0 0 (diskOk_asc h) (by omega) k1
        rw [show (syncF l nm).f0 = nm from rfl, Int.sub_zero] at e
        rw [e]
        exact Ev.now _
theorem implDiskSync_ev (room : Int) (l : List S134) (nm : Int) (h1 : dsize l ≤ 1152921504606846976) (hl : l.length ≤ 3518437208878) : Ev (fun k => impl_DiskSync.f k room l nm) (diskSync room l nm) := by
  unfold impl_DiskSync.f diskSync
  refine Ev.bind (implDiskOk_ev room l h1 (by omega)) ?_
  have hj : Ev (fun k => impl_DiskSync.j0 k nm true room l) (0, [], 1) := by
    refine Ev.step (f := fun _ => some (0, [], 1)) (fun k => ?_) (Ev.now _)
    simp only [impl_DiskSync.j0, ↓reduceIte]
  cases h : diskOk room l
  · simp only [Bool.false_eq_true, ↓reduceIte, Bool.false_and]; exact hj
  · simp only [↓reduceIte, Bool.true_and, isFile_eq, Option.bind_some]
    cases h2 : inr nm 0 7
    · simp only [Bool.not_false, Bool.false_eq_true, ↓reduceIte]; exact hj
    · simp only [Bool.not_true, ↓reduceIte]
      refine Ev.step (fun k => by simp only [impl_DiskSync.j0, Bool.false_eq_true, ↓reduceIte, copyDisk_eq room l hl, impl_fileAt.f, Option.bind_some]; rfl) ?_
      by_cases c : idxName l nm 0 < 0
      · simp only [c, ↓reduceIte]; exact Ev.now _
      · have hb := idx_b nm l 0 (by omega)
        have hm := dsize_mem (rdF_mem l (idxName l nm 0) (by omega) (by omega))
        have k1 : 0 ≤ idxName l nm 0 := by omega
        have k2 : idxName l nm 0 < (l.length : Int) := by omega
        have k3 : ((rd_T134 l (idxName l nm 0)).f1).size + ((rd_T134 l (idxName l nm 0)).f2).size ≤ 9223372036854775807 := by omega
        simp only [c, ↓reduceIte, k1, k2, k3]
        exact Ev.now _

theorem dsize_set : ∀ (l : List S134) (i : Nat) (f : S134), dsize (l.set i f) ≤ dsize l + f.f1.size + f.f2.size
  | [], i, f => by simp [dsize]; omega
  | x :: t, 0, f => by have := dsize_nn t; simp only [List.set_cons_zero, dsize]; omega
  | x :: t, i + 1, f => by have := dsize_set t i f; simp only [List.set_cons_succ, dsize]; omega
theorem extract_le (s : ByteArray) (b : Nat) : (s.extract 0 b).size ≤ s.size := by rw [ByteArray.size_extract]; omega
theorem diskCut_size (room : Int) (l : List S134) (nm n : Int) : dsize (diskCut room l nm n).2.1 ≤ 2 * dsize l := by
  have hn := dsize_nn l
  unfold diskCut
  split
  · split
    · simp only; omega
    · split
      · rename_i h1 h2 h3
        have hb := idx_b nm l 0 (by omega)
        have hm := dsize_mem (rdF_mem l (idxName l nm 0) (by omega) (by omega))
        have hs := dsize_set l (idxName l nm 0).toNat (cutF l nm n)
        have e1 := extract_le (rd_T134 l (idxName l nm 0)).f1 (mn n ((rd_T134 l (idxName l nm 0)).f1.size : Int)).toNat
        have e2 := extract_le (rd_T134 l (idxName l nm 0)).f2 (n - mn n ((rd_T134 l (idxName l nm 0)).f1.size : Int)).toNat
        simp only [cutF] at hs ⊢
        omega
      · simp only; omega
  · simp only [dsize]; omega
def journalMend (room : Int) (l : List S134) (nm : Int) : Int × List S134 × Int :=
  if (diskCut room l nm (journalRead room l nm).2).2.2 = 0 then diskSync (diskCut room l nm (journalRead room l nm).2).1 (diskCut room l nm (journalRead room l nm).2).2.1 nm else diskCut room l nm (journalRead room l nm).2
theorem journalMend_len (room : Int) (l : List S134) (nm : Int) : (journalMend room l nm).2.1.length ≤ l.length := by
  have h1 := diskCut_len room l nm (journalRead room l nm).2
  unfold journalMend
  split
  · have h2 := diskSync_len (diskCut room l nm (journalRead room l nm).2).1 (diskCut room l nm (journalRead room l nm).2).2.1 nm
    omega
  · exact h1
theorem specJournalMend_ev (room : Int) (l : List S134) (nm : Int) (h1 : dsize l ≤ 1048576) (hl : l.length ≤ 1048576) : Ev (fun k => spec_JournalMend.f k room l nm) (journalMend room l nm) := by
  unfold spec_JournalMend.f journalMend
  refine Ev.bind (specJournalRead_ev room l nm h1 hl) ?_
  generalize (journalRead room l nm).2 = n
  refine Ev.bind (specDiskCut_ev room l nm n (by omega) (by omega)) ?_
  have hs := diskCut_size room l nm n
  have hc := diskCut_len room l nm n
  generalize diskCut room l nm n = U at *
  obtain ⟨u0, u1, u2⟩ := U
  simp only at hs hc ⊢
  by_cases h : u2 = 0
  · simp only [h, ↓reduceIte]
    refine Ev.bind (specDiskSync_ev u0 u1 nm (by omega) (by omega)) ?_
    exact Ev.now _
  · simp only [h, ↓reduceIte]; exact Ev.now _
theorem implJournalMend_ev (room : Int) (l : List S134) (nm : Int) (h1 : dsize l ≤ 1048576) (hl : l.length ≤ 1048576) : Ev (fun k => impl_JournalMend.f k room l nm) (journalMend room l nm) := by
  unfold impl_JournalMend.f journalMend
  refine Ev.bind (implJournalRead_ev room l nm h1 hl) ?_
  generalize (journalRead room l nm).2 = n
  refine Ev.bind (implDiskCut_ev room l nm n (by omega) (by omega)) ?_
  have hs := diskCut_size room l nm n
  have hc := diskCut_len room l nm n
  generalize diskCut room l nm n = U at *
  obtain ⟨u0, u1, u2⟩ := U
  simp only at hs hc ⊢
  by_cases h : u2 = 0
  · simp only [h, ↓reduceIte]
    refine Ev.bind (implDiskSync_ev u0 u1 nm (by omega) (by omega)) ?_
    exact Ev.now _
  · simp only [h, ↓reduceIte]; exact Ev.now _

theorem FnExactJournalMend : laws_FnExactJournalMend.Pure := by
  intro room l nm hr hm hz hq _
  have hl : l.length ≤ 3518437208780 := by omega
  obtain ⟨r, h1, h2⟩ := szDisk_ev room l hq hz 1048576 (by omega) (by omega)
  apply Ev.rounds
  unfold laws_FnExactJournalMend.f
  refine Ev.bind h1 ?_
  by_cases h : r < 0
  · simp only [h, ↓reduceIte]; exact Ev.now _
  · have h2 := h2 (by omega)
    have hn := dsize_nn (l.map toF)
    have hL : (l.map toF).length ≤ 1048576 := by simp; omega
    have hT := toDisk_ev room l (by omega)
    have hS := specJournalMend_ev room (l.map toF) nm (by omega) (by omega)
    have hI := implJournalMend_ev room (l.map toF) nm (by omega) (by omega)
    have hG := journalMend_len room (l.map toF) nm
    generalize l.map toF = L at *
    generalize journalMend room L nm = U at *
    obtain ⟨u0, u1, u2⟩ := U
    simp only at hG
    simp only [h, ↓reduceIte]
    refine Ev.bind hT ?_
    refine Ev.bind hS ?_
    refine Ev.bind hT ?_
    refine Ev.bind hI ?_
    refine Ev.bind (eqDisk_ev u0 u1 (by omega)) ?_
    simp only [↓reduceIte, bne_self_eq_false]
    refine Ev.step (fun k => by simp only [laws_FnExactJournalMend.j0, Bool.false_eq_true, ↓reduceIte]; rfl) ?_
    refine Ev.bind hT ?_
    refine Ev.bind (eqDisk_ev room L (by omega)) ?_
    simp only [↓reduceIte]
    refine Ev.bind (markDisk_ev room L 1 (by omega) (by omega) (by omega)) ?_
    simp only [show ¬ (1 + 3 * (L.length : Int) < 0) by omega, ↓reduceIte]
    refine Ev.bind (eqDisk_ev u0 u1 (by omega)) ?_
    simp only [↓reduceIte, bne_self_eq_false]
    refine Ev.step (fun k => by simp only [laws_FnExactJournalMend.j1, Bool.false_eq_true, ↓reduceIte]; rfl) ?_
    refine Ev.bind (markDisk_ev u0 u1 1 (by omega) (by omega) (by omega)) ?_
    refine Ev.bind (heldDisk_ev u0 u1.length 1 (by omega) (by omega) (by omega)) ?_
    simp only [show ¬ (1 + 3 * (u1.length : Int) < 0) by omega, ↓reduceIte]
    refine Ev.bind hT ?_
    refine Ev.bind hI ?_
    refine Ev.bind (eqDisk_ev u0 u1 (by omega)) ?_
    simp only [↓reduceIte, bne_self_eq_false]
    refine Ev.step (fun k => by simp only [laws_FnExactJournalMend.j2, Bool.false_eq_true, ↓reduceIte]; rfl) ?_
    refine Ev.bind (heldDisk_ev u0 u1.length 1 (by omega) (by omega) (by omega)) ?_
    simp only [show ¬ (1 + 3 * (u1.length : Int) < 0) by omega, ↓reduceIte]
    exact Ev.now _

end Go.Proofs.Ytnjpfllmcmomoaa.Pure
