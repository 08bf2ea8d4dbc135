/- HardOf of the program and of the reference give the same hard state and number for every row of records, in memory of their own, and the program leaves its argument as it was; no condition. -/
import Derived.Test.YtnjpfllmcmomoaaQFnExactHardOfx12
namespace Go.Proofs.Ytnjpfllmcmomoaa.Pure
open Go.RowKit Go.Proofs.Ytnjpfllmcmomoaa.QFnExactHardOf Go.Proofs.YtnjpfllmcmomoaaW.PrintWords Go.Proofs.YtnjpfllmcmomoaaW.PrintLast
set_option linter.unusedVariables false
set_option linter.unusedSimpArgs false
theorem w64 {x : Int} (h0 : -9223372036854775808 ≤ x) (h1 : x ≤ 9223372036854775807) : wrap64 x = x := by
  unfold wrap64; omega
def inr (a b c : Int) : Bool := decide (b ≤ a ∧ a ≤ c)
theorem ba_nil : (⟨#[]⟩ : ByteArray).toList = [] := by rw [ByteArray.toList, ByteArray.toList.loop]; rfl
theorem if_eq0 (a c : Int) (x : Bool) : (if a = c then some x else some false) = some (a == c && x) := by
  by_cases h : a = c
  · subst h; simp
  · have b : (a == c) = false := by simpa using h
    simp [h, b]
theorem if_tt (b x : Bool) : (if b = true then some x else some false) = some (b && x) := by cases b <;> rfl

def cmdOk (kind rel node size : Int) (dig : ByteArray) : Bool :=
  if kind = 1 then (rel == 0 && (node == 0 && (size == 0 && (dig.toList == ([] : List UInt8)))))
  else if kind = 2 then (inr rel 1 1000 && (inr size 0 1000 && (decide ((dig.size : Int) = 32) && (node == 0))))
  else if kind = 3 then (inr rel 1 1000 && (inr node 0 4 && (size == 0 && (dig.toList == ([] : List UInt8)))))
  else if kind = 4 ∨ kind = 5 then (inr rel 1 1000 && (node == 0 && (size == 0 && (dig.toList == ([] : List UInt8)))))
  else false

theorem rdE_mid (P : List S36) (x : S36) (t : List S36) : rd_T36 (P ++ x :: t) (P.length : Int) = x := by
  unfold rd_T36; simp
theorem rdE_last (P : List S36) (y : S36) (t : List S36) : rd_T36 (P ++ [y] ++ t) (((P ++ [y]).length : Int) - 1) = y := by
  unfold rd_T36
  have : (((P ++ [y]).length : Int) - 1).toNat = P.length := by simp
  rw [this]; simp
def cmdOkE (x : S36) : Bool := cmdOk x.f1.f0 x.f1.f1 x.f1.f2 x.f1.f3 x.f1.f4
def logOk : Int → Int → List S36 → Bool
  | _, _, [] => true
  | lo, h, x :: t => (decide (lo ≤ x.f0 ∧ x.f0 ≤ h) && cmdOkE x) && logOk x.f0 h t
def hardOk (term vote : Int) (l : List S36) : Bool := inr term 0 1000000000 && (inr vote 0 5 && (decide ((l.length : Int) ≤ 80) && logOk 1 term l))

def toC (x : S52) : S34 := ⟨x.f0, x.f1, x.f2, x.f3, x.f4⟩
def toE (x : S54) : S36 := ⟨x.f0, toC x.f1⟩
theorem szEntry_eq (x : S54) (a : Int) (h0 : 0 ≤ a) (h1 : a ≤ 140737488355328) (hx : x.f1.f4.size ≤ 140737488355328) : laws_szEntry.f x.f0 x.f1.f0 x.f1.f1 x.f1.f2 x.f1.f3 x.f1.f4 a = some (if a - x.f1.f4.size < 0 then -1 else a - x.f1.f4.size) := by
  unfold laws_szEntry.f laws_szCmd.f
  rw [w64 (x := a - x.f1.f4.size) (by omega) (by omega)]
  split
  · rfl
  · rename_i h; simp only [Option.bind_some, h, ↓reduceIte]
theorem eqEntryS_l (l : List S36) (hl : l.length ≤ 140737488355328) (d : Nat) : ∀ i : Nat, i + d = l.length → Ev (fun k => laws_eqEntryS.l0 k l l (i : Int)) true := by
  induction d with
  | zero =>
    intro i hi
    refine Ev.step (f := fun _ => some true) (fun k => ?_) (Ev.now _)
    simp only [laws_eqEntryS.l0]
    rw [if_neg (by omega)]
  | succ d ih =>
    intro i hi
    refine Ev.step (f := fun k => laws_eqEntryS.l0 k l l ((i + 1 : Nat) : Int)) (fun k => ?_) (ih (i + 1) (by omega))
    simp only [laws_eqEntryS.l0, laws_eqEntry.f, laws_eqCmd.f, ↓reduceIte, Option.bind_some]
    rw [if_pos (by omega), if_pos (by omega), if_pos (by omega), w64 (by omega) (by omega)]
    rfl
theorem eqEntryS_ev (l : List S36) (hl : l.length ≤ 140737488355328) : Ev (fun k => laws_eqEntryS.f k l l) true := by
  refine Ev.congr (fun k => ?_) (eqEntryS_l l hl l.length 0 (by omega))
  unfold laws_eqEntryS.f
  rw [if_pos rfl]; rfl

theorem eqHard_ev (t v : Int) (l : List S36) (hl : l.length ≤ 140737488355328) : Ev (fun k => laws_eqHard.f k t v l t v l) true := by
  unfold laws_eqHard.f
  simp only [↓reduceIte]
  refine Ev.bind (eqEntryS_ev l hl) ?_
  simp only [↓reduceIte]; exact Ev.now _

def mtGo (x : Int) (a : ByteArray) : ByteArray := if h : x > 0 then mtGo (x / 10) (strOfNums [(48 + x % 10) % 256] ++ a) else (⟨#[109]⟩ : ByteArray) ++ a
termination_by x.toNat
decreasing_by omega
def mt (x : Int) : ByteArray := if x ≤ 0 then (⟨#[109, 48]⟩ : ByteArray) else mtGo x (⟨#[]⟩ : ByteArray)
theorem strOf1_size (c : Int) : (strOfNums [c]).size = 1 := rfl
theorem markText_l (m : Nat) : ∀ (x : Int) (a : ByteArray), x < 10 ^ m → a.size + m ≤ 1000000 → x ≤ 9223372036854775807 → 0 ≤ x → Ev (fun k => laws_markText.l0 k x a) (mtGo x a) := by
  induction m with
  | zero =>
    intro x a h0 h1 h2 h3
    have h0 : x < 1 := by simpa using h0
    refine Ev.step (f := fun _ => some (mtGo x a)) (fun k => ?_) (Ev.now _)
    simp only [laws_markText.l0]
    rw [if_neg (by omega), if_pos (by omega)]
    rw [mtGo, dif_neg (by omega)]
  | succ m ih =>
    intro x a h0 h1 h2 h3
    by_cases c : x > 0
    · have e : mtGo x a = mtGo (x / 10) (strOfNums [(48 + x % 10) % 256] ++ a) := by rw [mtGo]; simp [c]
      have es : (strOfNums [(48 + x % 10) % 256] ++ a).size = 1 + a.size := by rw [ByteArray.size_append, strOf1_size]
      rw [Int.pow_succ] at h0
      have h := ih (x / 10) (strOfNums [(48 + x % 10) % 256] ++ a) (by omega) (by omega) (by omega) (by omega)
      rw [e]
      refine Ev.step (fun k => ?_) h
      simp only [laws_markText.l0]
      rw [if_pos c, Int.tmod_eq_emod_of_nonneg h3, Int.tdiv_eq_ediv_of_nonneg h3, w64 (x := 48 + x % 10) (by omega) (by omega), w64 (x := x / 10) (by omega) (by omega)]
      simp only [Option.bind_some]
      rw [strOf1_size, if_pos (by omega)]
    · refine Ev.step (f := fun _ => some (mtGo x a)) (fun k => ?_) (Ev.now _)
      simp only [laws_markText.l0]
      rw [if_neg c, if_pos (by omega)]
      rw [mtGo, dif_neg c]
theorem markText_ev (x : Int) (h : x ≤ 9223372036854775807) : Ev (fun k => laws_markText.f k x) (mt x) := by
  unfold laws_markText.f mt
  by_cases c : x ≤ 0
  · simp only [c, ↓reduceIte]; exact Ev.now _
  · simp only [c, ↓reduceIte]
    exact markText_l 19 x _ (by omega) (by decide) h (by omega)

def mkE (q : Int) : S36 := ⟨q, ⟨q + 1, q + 2, q + 3, q + 4, mt (q + 5)⟩⟩
def marksE : Nat → Int → List S36
  | 0, _ => []
  | n + 1, q => mkE q :: marksE n (q + 6)
theorem marksE_length : ∀ (n : Nat) (q : Int), (marksE n q).length = n
  | 0, _ => rfl
  | n + 1, q => by rw [marksE, List.length_cons, marksE_length n]
theorem setE_mid (P : List S36) (x y : S36) (t : List S36) : (P ++ x :: t).set (P.length : Int).toNat y = P ++ y :: t := by simp
theorem rdE_set (l : List S36) (i : Int) (v : S36) (h : i < (l.length : Int)) (h0 : 0 ≤ i) : rd_T36 (l.set i.toNat v) i = v := by
  unfold rd_T36
  have : i.toNat < l.length := by omega
  simp [List.getD_eq_getElem?_getD, this]
theorem markE_step (k : Nat) (l : List S36) (q i : Int) (h : i < (l.length : Int)) (h0 : 0 ≤ i) (w1 : wrap64 (q + 1) = q + 1) (w2 : wrap64 (q + 1 + 1) = q + 2) (w3 : wrap64 (q + 2 + 1) = q + 3) (w4 : wrap64 (q + 3 + 1) = q + 4) (w5 : wrap64 (q + 4 + 1) = q + 5) (w6 : wrap64 (q + 5 + 1) = q + 6) :
    laws_markEntryS.l0 (k + 1) l q i = (laws_markText.f k (q + 5)).bind fun s => laws_markEntryS.l0 k (l.set i.toNat ⟨q, ⟨q + 1, q + 2, q + 3, q + 4, s⟩⟩) (q + 6) (wrap64 (i + 1)) := by
  rw [laws_markEntryS.l0, if_pos h, if_pos h0, w1, w2, w3, w4, w5, w6]
  generalize rd_T36 l i = z
  rw [Option.bind_some, rdE_set l i _ h h0, List.set_set]
  dsimp only
  rw [Option.bind_some, rdE_set l i _ h h0, List.set_set]
  dsimp only
  rw [Option.bind_some, rdE_set l i _ h h0, List.set_set]
  dsimp only
  rw [Option.bind_some, rdE_set l i _ h h0, List.set_set]
  dsimp only
  rw [Option.bind_some, rdE_set l i _ h h0]
  dsimp only
  congr 1
  funext s
  rw [List.set_set]
theorem markE_end (k : Nat) (l : List S36) (q i : Int) (h : ¬ i < (l.length : Int)) : laws_markEntryS.l0 (k + 1) l q i = some (q, l) := by
  rw [laws_markEntryS.l0, if_neg h]
theorem markE_l (rest : List S36) : ∀ (P : List S36) (q : Int), P.length + rest.length ≤ 140737488355328 → 0 ≤ q → q + 6 * rest.length ≤ 2814749767106560 →
    Ev (fun k => laws_markEntryS.l0 k (P ++ rest) q (P.length : Int)) (q + 6 * rest.length, P ++ marksE rest.length q) := by
  induction rest with
  | nil =>
    intro P q hl h0 h1
    rw [List.append_nil]
    refine Ev.step (fun k => markE_end k P q (P.length : Int) (by omega)) ?_
    simp [marksE]; exact Ev.now _
  | cons x t ih =>
    intro P q hl h0 h1
    simp only [List.length_cons] at hl h1
    have el : ((P ++ x :: t).length : Int) = P.length + t.length + 1 := by simp; omega
    have h := ih (P ++ [mkE q]) (q + 6) (by simp; omega) (by omega) (by omega)
    have e3 : (q + 6 + 6 * (t.length : Int), P ++ [mkE q] ++ marksE t.length (q + 6)) = (q + 6 * ((x :: t).length : Int), P ++ marksE (x :: t).length q) := by
      simp [marksE]; omega
    have g1 : (P.length : Int) < ((P ++ x :: t).length : Int) := by omega
    have g2 : 0 ≤ (P.length : Int) := by omega
    have g3 := markText_ev (q + 5) (by omega)
    have w1 : wrap64 (q + 1) = q + 1 := w64 (by omega) (by omega)
    have w2 : wrap64 (q + 1 + 1) = q + 2 := by rw [w64 (by omega) (by omega)]; omega
    have w3 : wrap64 (q + 2 + 1) = q + 3 := by rw [w64 (by omega) (by omega)]; omega
    have w4 : wrap64 (q + 3 + 1) = q + 4 := by rw [w64 (by omega) (by omega)]; omega
    have w5 : wrap64 (q + 4 + 1) = q + 5 := by rw [w64 (by omega) (by omega)]; omega
    have w6 : wrap64 (q + 5 + 1) = q + 6 := by rw [w64 (by omega) (by omega)]; omega
    have w7 : wrap64 ((P.length : Int) + 1) = P.length + 1 := w64 (by omega) (by omega)
    refine Ev.step (fun k => markE_step k (P ++ x :: t) q (P.length : Int) g1 g2 w1 w2 w3 w4 w5 w6) ?_
    refine Ev.bind g3 ?_
    rw [← e3, setE_mid, w7]
    refine Ev.congr (fun k => ?_) h
    simp [mkE]
theorem markE_ev (l : List S36) (q : Int) (hl : l.length ≤ 140737488355328) (h0 : 0 ≤ q) (h1 : q ≤ 140737488355328) : Ev (fun k => laws_markEntryS.f k l q) (q + 6 * l.length, marksE l.length q) := by
  have h := markE_l l [] q (by simpa using hl) h0 (by omega)
  simpa [laws_markEntryS.f] using h
theorem heldE_step (k : Nat) (l : List S36) (q i : Int) (h : i < (l.length : Int)) (h0 : 0 ≤ i) (hr : rd_T36 l i = mkE q) (w1 : wrap64 (q + 1) = q + 1) (w2 : wrap64 (q + 1 + 1) = q + 2) (w3 : wrap64 (q + 2 + 1) = q + 3) (w4 : wrap64 (q + 3 + 1) = q + 4) (w5 : wrap64 (q + 4 + 1) = q + 5) (w6 : wrap64 (q + 5 + 1) = q + 6) :
    laws_heldEntryS.l0 (k + 1) l q i = (laws_markText.f k (q + 5)).bind fun s => if (mt (q + 5)).toList = s.toList then laws_heldEntryS.l0 k l (q + 6) (wrap64 (i + 1)) else some (-1) := by
  rw [laws_heldEntryS.l0, if_pos h, if_pos h0, hr, w1, w2, w3, w4, w5, w6]
  simp only [mkE, if_true]
  rfl
theorem heldE_l (n : Nat) : ∀ (P : List S36) (q : Int), P.length + n ≤ 140737488355328 → 0 ≤ q → q + 6 * n ≤ 2814749767106560 →
    Ev (fun k => laws_heldEntryS.l0 k (P ++ marksE n q) q (P.length : Int)) (q + 6 * n) := by
  induction n with
  | zero =>
    intro P q hl h0 h1
    refine Ev.step (f := fun _ => some q) (fun k => ?_) ?_
    · simp only [laws_heldEntryS.l0]
      rw [if_neg (by simp [marksE])]
    · simp; exact Ev.now _
  | succ n ih =>
    intro P q hl h0 h1
    have h := ih (P ++ [mkE q]) (q + 6) (by simp; omega) (by omega) (by omega)
    have e : P ++ marksE (n + 1) q = P ++ [mkE q] ++ marksE n (q + 6) := by simp [marksE]
    have el : ((P ++ marksE (n + 1) q).length : Int) = P.length + n + 1 := by rw [List.length_append, marksE_length]; omega
    have er : rd_T36 (P ++ marksE (n + 1) q) (P.length : Int) = mkE q := rdE_mid P _ _
    have g1 : (P.length : Int) < ((P ++ marksE (n + 1) q).length : Int) := by omega
    have g2 : 0 ≤ (P.length : Int) := by omega
    have g3 := markText_ev (q + 5) (by omega)
    have e2 : (q + 6 + 6 * (n : Int)) = q + 6 * ((n + 1 : Nat) : Int) := by omega
    have w1 : wrap64 (q + 1) = q + 1 := w64 (by omega) (by omega)
    have w2 : wrap64 (q + 1 + 1) = q + 2 := by rw [w64 (by omega) (by omega)]; omega
    have w3 : wrap64 (q + 2 + 1) = q + 3 := by rw [w64 (by omega) (by omega)]; omega
    have w4 : wrap64 (q + 3 + 1) = q + 4 := by rw [w64 (by omega) (by omega)]; omega
    have w5 : wrap64 (q + 4 + 1) = q + 5 := by rw [w64 (by omega) (by omega)]; omega
    have w6 : wrap64 (q + 5 + 1) = q + 6 := by rw [w64 (by omega) (by omega)]; omega
    have w7 : wrap64 ((P.length : Int) + 1) = P.length + 1 := w64 (by omega) (by omega)
    refine Ev.step (fun k => heldE_step k _ q (P.length : Int) g1 g2 er w1 w2 w3 w4 w5 w6) ?_
    refine Ev.bind g3 ?_
    simp only [↓reduceIte]
    rw [w7, ← e2, e]
    refine Ev.congr (fun k => ?_) h
    simp
theorem heldE_ev (n : Nat) (q : Int) (hl : n ≤ 140737488355328) (h0 : 0 ≤ q) (h1 : q ≤ 140737488355328) : Ev (fun k => laws_heldEntryS.f k (marksE n q) q) (q + 6 * n) := by
  have h := heldE_l n [] q (by simpa using hl) h0 (by omega)
  simpa [laws_heldEntryS.f] using h
theorem markHard_ev (t v : Int) (l : List S36) (q : Int) (hl : l.length ≤ 140737488355328) (h0 : 0 ≤ q) (h1 : q ≤ 140737488355328) : Ev (fun k => laws_markHard.f k t v l q) (q + 6 * l.length, marksE l.length q) := by
  unfold laws_markHard.f
  refine Ev.bind (markE_ev l q hl h0 h1) ?_
  exact Ev.now _
theorem heldHard_ev (t v : Int) (n : Nat) (q : Int) (hl : n ≤ 140737488355328) (h0 : 0 ≤ q) (h1 : q ≤ 140737488355328) : Ev (fun k => laws_heldHard.f k t v (marksE n q) q) (q + 6 * n) := by
  unfold laws_heldHard.f
  refine Ev.bind (heldE_ev n q hl h0 h1) ?_
  simp only [show ¬ q + 6 * (n : Int) < 0 by omega, ↓reduceIte]
  exact Ev.now _

theorem rdQ_mid (P : List S56) (x : S56) (t : List S56) : rd_T56 (P ++ x :: t) (P.length : Int) = x := by
  unfold rd_T56; simp
theorem rdR_mid (P : List S38) (x : S38) (t : List S38) : rd_T38 (P ++ x :: t) (P.length : Int) = x := by
  unfold rd_T38; simp
def toR (x : S56) : S38 := ⟨x.f0, x.f1, x.f2, x.f3, toE x.f4⟩
def szR : List S56 → Int → Int
  | [], a => a
  | x :: t, a => if a - x.f4.f1.f4.size < 0 then -1 else szR t (a - x.f4.f1.f4.size)
theorem szRec_eq (x : S56) (a : Int) (h0 : 0 ≤ a) (h1 : a ≤ 140737488355328) (hx : x.f4.f1.f4.size ≤ 140737488355328) : laws_szRec.f x.f0 x.f1 x.f2 x.f3 x.f4.f0 x.f4.f1.f0 x.f4.f1.f1 x.f4.f1.f2 x.f4.f1.f3 x.f4.f1.f4 a = some (if a - x.f4.f1.f4.size < 0 then -1 else a - x.f4.f1.f4.size) := by
  unfold laws_szRec.f
  rw [szEntry_eq x.f4 a h0 h1 hx]
  by_cases h : a - x.f4.f1.f4.size < 0
  · rw [if_pos h]; rfl
  · rw [if_neg h]; simp only [Option.bind_some, h, ↓reduceIte]
theorem szRecS_l (rest : List S56) : ∀ (P : List S56) (a : Int), 0 ≤ a → a ≤ 140737488355328 → P.length + rest.length ≤ 140737488355328 → (∀ x ∈ rest, x.f4.f1.f4.size ≤ 140737488355328) → Ev (fun k => laws_szRecS.l0 k (P ++ rest) a (P.length : Int)) (szR rest a) := by
  induction rest with
  | nil =>
    intro P a h0 h1 hl hx
    refine Ev.step (f := fun _ => some a) (fun k => ?_) (Ev.now _)
    simp only [laws_szRecS.l0]
    rw [if_neg (by simp)]
  | cons x t ih =>
    intro P a h0 h1 hl hx
    simp only [List.length_cons] at hl
    have hx0 := hx x (by simp)
    have e := szRec_eq x a h0 h1 hx0
    have el : ((P ++ x :: t).length : Int) = P.length + t.length + 1 := by simp; omega
    by_cases c1 : a - x.f4.f1.f4.size < 0
    · refine Ev.step (f := fun _ => some (-1)) (fun k => ?_) ?_
      · simp only [laws_szRecS.l0]
        rw [if_pos (by omega), if_pos (by omega), rdQ_mid, e, if_pos c1]
        rfl
      · simp only [szR, c1, ↓reduceIte]; exact Ev.now _
    · have h := ih (P ++ [x]) (a - x.f4.f1.f4.size) (by omega) (by omega) (by simp; omega) (fun y hy => hx y (by simp [hy]))
      refine Ev.step (f := fun k => laws_szRecS.l0 k ((P ++ [x]) ++ t) (a - x.f4.f1.f4.size) ((P ++ [x]).length : Int)) (fun k => ?_) ?_
      · simp only [laws_szRecS.l0]
        rw [if_pos (by omega), if_pos (by omega), rdQ_mid, e, if_neg c1]
        simp only [Option.bind_some]
        rw [if_neg c1, w64 (by omega) (by omega)]
        simp
      · simp only [szR, c1, ↓reduceIte]; exact h
theorem szRecS_ev (l : List S56) (a : Int) (h0 : 0 ≤ a) (h1 : a ≤ 140737488355328) (hl : l.length ≤ 140737488355328) (hx : ∀ x ∈ l, x.f4.f1.f4.size ≤ 140737488355328) : ∃ r, Ev (fun k => laws_szRecS.f k l a) r ∧ (0 ≤ r → (l.length : Int) ≤ a) := by
  unfold laws_szRecS.f
  rw [w64 (x := a - l.length) (by omega) (by omega)]
  by_cases h : a - (l.length : Int) < 0
  · refine ⟨-1, ?_, by omega⟩
    simp only [h, ↓reduceIte]; exact Ev.now _
  · refine ⟨szR l (a - l.length), ?_, by omega⟩
    simp only [h, ↓reduceIte]
    exact szRecS_l l [] (a - l.length) (by omega) (by omega) (by simp; omega) hx
theorem set_fillR (l : List S56) (i d : Nat) (hi : i + (d + 1) = l.length) : ((l.take i).map toR ++ List.replicate (d + 1) z38).set i (toR (rd_T56 l (i : Int))) = (l.take (i + 1)).map toR ++ List.replicate d z38 := by
  have hlt : i < l.length := by omega
  have h1 : ((l.take i).map toR).length = i := by rw [List.length_map, List.length_take]; omega
  rw [List.set_append_right _ _ (by omega), h1, Nat.sub_self, List.replicate_succ, List.set_cons_zero, List.take_succ_eq_append_getElem hlt, List.map_append, List.append_assoc]
  unfold rd_T56
  simp [List.getD_eq_getElem?_getD, hlt]
theorem toRecS_l (l : List S56) (hl : l.length ≤ 3198579280802) (d : Nat) : ∀ i : Nat, i + d = l.length → Ev (fun k => laws_toRecS.l0 k l ((l.take i).map toR ++ List.replicate d z38) (i : Int)) (l.map toR) := by
  induction d with
  | zero =>
    intro i hi
    refine Ev.step (f := fun _ => some (l.map toR)) (fun k => ?_) (Ev.now _)
    simp only [laws_toRecS.l0]
    rw [if_neg (by omega)]
    have : l.take i = l := List.take_of_length_le (by omega)
    simp [this]
  | succ d ih =>
    intro i hi
    refine Ev.step (f := fun k => laws_toRecS.l0 k l ((l.take (i + 1)).map toR ++ List.replicate d z38) ((i + 1 : Nat) : Int)) (fun k => ?_) (ih (i + 1) (by omega))
    have s := set_fillR l i d hi
    generalize hz : rd_T56 l (i : Int) = z at s
    simp only [laws_toRecS.l0, laws_toRec.f, laws_toEntry.f, laws_toCmd.f, Option.bind_some]
    rw [if_pos (by omega), if_pos (by omega), if_pos (by simp; omega), w64 (by omega) (by omega), Int.toNat_natCast, hz]
    rw [← s]
    rfl
theorem toRecS_ev (l : List S56) (hl : l.length ≤ 3198579280802) : Ev (fun k => laws_toRecS.f k l) (l.map toR) := by
  refine Ev.congr (fun k => ?_) (toRecS_l l hl l.length 0 (by omega))
  unfold laws_toRecS.f
  rw [if_pos (by omega), if_pos (by simp; omega)]
  simp
theorem eqRecS_l (l : List S38) (hl : l.length ≤ 140737488355328) (d : Nat) : ∀ i : Nat, i + d = l.length → Ev (fun k => laws_eqRecS.l0 k l l (i : Int)) true := by
  induction d with
  | zero =>
    intro i hi
    refine Ev.step (f := fun _ => some true) (fun k => ?_) (Ev.now _)
    simp only [laws_eqRecS.l0]
    rw [if_neg (by omega)]
  | succ d ih =>
    intro i hi
    refine Ev.step (f := fun k => laws_eqRecS.l0 k l l ((i + 1 : Nat) : Int)) (fun k => ?_) (ih (i + 1) (by omega))
    simp only [laws_eqRecS.l0, laws_eqRec.f, laws_eqEntry.f, laws_eqCmd.f, ↓reduceIte, Option.bind_some]
    rw [if_pos (by omega), if_pos (by omega), if_pos (by omega), w64 (by omega) (by omega)]
    rfl
theorem eqRecS_ev (l : List S38) (hl : l.length ≤ 140737488355328) : Ev (fun k => laws_eqRecS.f k l l) true := by
  refine Ev.congr (fun k => ?_) (eqRecS_l l hl l.length 0 (by omega))
  unfold laws_eqRecS.f
  rw [if_pos rfl]; rfl

theorem rdR_set (l : List S38) (i : Int) (v : S38) (h : i < (l.length : Int)) (h0 : 0 ≤ i) : rd_T38 (l.set i.toNat v) i = v := by
  unfold rd_T38
  have : i.toNat < l.length := by omega
  simp [List.getD_eq_getElem?_getD, this]
theorem markR_step (k : Nat) (l : List S38) (q i : Int) (h : i < (l.length : Int)) (h0 : 0 ≤ i) (w1 : wrap64 (q + 1) = q + 1) (w2 : wrap64 (q + 1 + 1) = q + 2) (w3 : wrap64 (q + 2 + 1) = q + 3) (w4 : wrap64 (q + 3 + 1) = q + 4) (w5 : wrap64 (q + 4 + 1) = q + 5) (w6 : wrap64 (q + 5 + 1) = q + 6) (w7 : wrap64 (q + 6 + 1) = q + 7) (w8 : wrap64 (q + 7 + 1) = q + 8) (w9 : wrap64 (q + 8 + 1) = q + 9) (w10 : wrap64 (q + 9 + 1) = q + 10) :
    laws_markRecS.l0 (k + 1) l q i = (laws_markText.f k (q + 9)).bind fun s => laws_markRecS.l0 k (l.set i.toNat ⟨q, q + 1, q + 2, q + 3, ⟨q + 4, ⟨q + 5, q + 6, q + 7, q + 8, s⟩⟩⟩) (q + 10) (wrap64 (i + 1)) := by
  rw [laws_markRecS.l0, if_pos h, if_pos h0, w1, w2, w3, w4, w5, w6, w7, w8, w9, w10]
  generalize rd_T38 l i = z
  iterate 8
    rw [Option.bind_some, rdR_set l i _ h h0, List.set_set]
    dsimp only
  rw [Option.bind_some, rdR_set l i _ h h0]
  dsimp only
  congr 1
  funext s
  rw [List.set_set]
theorem markR_end (k : Nat) (l : List S38) (q i : Int) (h : ¬ i < (l.length : Int)) : laws_markRecS.l0 (k + 1) l q i = some (q, l) := by
  rw [laws_markRecS.l0, if_neg h]
theorem markR_l (d : Nat) : ∀ (l : List S38) (q i : Int), (l.length : Int) - i = d → 0 ≤ i → 0 ≤ q → q + 10 * d ≤ 2814749767106560 → l.length ≤ 140737488355328 →
    ∃ L, Ev (fun k => laws_markRecS.l0 k l q i) (q + 10 * d, L) := by
  induction d with
  | zero =>
    intro l q i hd hi h0 h1 hl
    refine ⟨l, ?_⟩
    refine Ev.step (fun k => markR_end k l q i (by omega)) ?_
    simp; exact Ev.now _
  | succ d ih =>
    intro l q i hd hi h0 h1 hl
    have g1 : i < (l.length : Int) := by omega
    have g3 := markText_ev (q + 9) (by omega)
    obtain ⟨L, h⟩ := ih (l.set i.toNat ⟨q, q + 1, q + 2, q + 3, ⟨q + 4, ⟨q + 5, q + 6, q + 7, q + 8, mt (q + 9)⟩⟩⟩) (q + 10) (i + 1) (by rw [List.length_set]; omega) (by omega) (by omega) (by omega) (by rw [List.length_set]; exact hl)
    have e3 : q + 10 + 10 * (d : Int) = q + 10 * ((d + 1 : Nat) : Int) := by omega
    have w1 : wrap64 (q + 1) = q + 1 := w64 (by omega) (by omega)
    have w2 : wrap64 (q + 1 + 1) = q + 2 := by rw [w64 (by omega) (by omega)]; omega
    have w3 : wrap64 (q + 2 + 1) = q + 3 := by rw [w64 (by omega) (by omega)]; omega
    have w4 : wrap64 (q + 3 + 1) = q + 4 := by rw [w64 (by omega) (by omega)]; omega
    have w5 : wrap64 (q + 4 + 1) = q + 5 := by rw [w64 (by omega) (by omega)]; omega
    have w6 : wrap64 (q + 5 + 1) = q + 6 := by rw [w64 (by omega) (by omega)]; omega
    have w7 : wrap64 (q + 6 + 1) = q + 7 := by rw [w64 (by omega) (by omega)]; omega
    have w8 : wrap64 (q + 7 + 1) = q + 8 := by rw [w64 (by omega) (by omega)]; omega
    have w9 : wrap64 (q + 8 + 1) = q + 9 := by rw [w64 (by omega) (by omega)]; omega
    have w10 : wrap64 (q + 9 + 1) = q + 10 := by rw [w64 (by omega) (by omega)]; omega
    have wi : wrap64 (i + 1) = i + 1 := w64 (by omega) (by omega)
    rw [e3] at h
    refine ⟨L, ?_⟩
    refine Ev.step (fun k => markR_step k l q i g1 hi w1 w2 w3 w4 w5 w6 w7 w8 w9 w10) ?_
    refine Ev.bind g3 ?_
    rw [wi]
    exact h
theorem markR_ev (l : List S38) (q : Int) (hl : l.length ≤ 140737488355) (h0 : 0 ≤ q) (h1 : q ≤ 140737488355) : ∃ L, Ev (fun k => laws_markRecS.f k l q) (q + 10 * l.length, L) := by
  obtain ⟨L, h⟩ := markR_l l.length l q 0 (by omega) (by omega) h0 (by omega) (by omega)
  exact ⟨L, by simpa [laws_markRecS.f] using h⟩

theorem l1In_eq (a b c : Int) : spec_l1In.f a b c = some (inr a b c) := by
  unfold spec_l1In.f inr
  by_cases h : a ≥ b
  · rw [if_pos h]; congr 1; by_cases h2 : a ≤ c <;> simp [h, h2]
  · rw [if_neg h]; congr 1; simp; omega

theorem specCmdOk_ev (kind rel node size : Int) (dig : ByteArray) : Ev (fun k => spec_CmdOk.f k kind rel node size dig) (cmdOk kind rel node size dig) := by
  unfold spec_CmdOk.f
  simp only [l1In_eq, Option.bind_some]
  by_cases h1 : kind = 1
  · simp only [cmdOk, h1, ↓reduceIte]; exact Ev.now _
  · simp only [h1, ↓reduceIte]
    by_cases h2 : 2 ≤ kind ∧ kind ≤ 5
    · have e : inr kind 2 5 = true := decide_eq_true h2
      simp only [e, ↓reduceIte]
      refine Ev.step (f := fun _ => some (cmdOk kind rel node size dig)) (fun k => ?_) (Ev.now _)
      simp only [spec_CmdOk.j0, l1In_eq, Option.bind_some, ba_nil, cmdOk]
      have h3 : kind = 2 ∨ kind = 3 ∨ kind = 4 ∨ kind = 5 := by omega
      cases inr rel 1 1000 <;> rcases h3 with rfl | rfl | rfl | rfl <;> cases inr size 0 1000 <;> cases inr node 0 4 <;> by_cases hd : (dig.size : Int) = 32 <;> simp [hd]
    · have e : inr kind 2 5 = false := decide_eq_false h2
      simp only [e, Bool.false_eq_true, ↓reduceIte]
      refine Ev.step (f := fun _ => some false) (fun k => ?_) ?_
      · simp only [spec_CmdOk.j0, ↓reduceIte]
      · have : cmdOk kind rel node size dig = false := by
          unfold cmdOk
          rw [if_neg h1, if_neg (by omega), if_neg (by omega), if_neg (by omega)]
        rw [this]; exact Ev.now _

theorem l1Whole_eq (a : Int) : spec_l1Whole.f a = some (inr a 0 1000000000) := by unfold spec_l1Whole.f; rw [l1In_eq]; rfl
theorem l6Entry_ev (x : S36) : Ev (fun k => spec_l6Entry.f k x.f0 x.f1.f0 x.f1.f1 x.f1.f2 x.f1.f3 x.f1.f4) (inr x.f0 1 1000000000 && cmdOkE x) := by
  unfold spec_l6Entry.f
  simp only [l1In_eq, Option.bind_some]
  cases inr x.f0 1 1000000000
  · simp only [Bool.false_eq_true, ↓reduceIte, Bool.false_and]; exact Ev.now _
  · simp only [↓reduceIte, Bool.true_and]
    refine Ev.bind (specCmdOk_ev _ _ _ _ _) ?_
    exact Ev.now _
theorem specHardOk_l (term vote : Int) (ht : term ≤ 1000000000) (rest : List S36) : ∀ (P : List S36) (lo : Int), 1 ≤ lo → (P = [] ∧ lo = 1 ∨ ∃ P' y, P = P' ++ [y] ∧ lo = y.f0) → P.length + rest.length ≤ 140737488355328 → Ev (fun k => spec_HardOk.l0 k (P.length : Int) term vote (P ++ rest)) (logOk lo term rest) := by
  induction rest with
  | nil =>
    intro P lo h0 hP hl
    refine Ev.step (f := fun _ => some true) (fun k => ?_) (Ev.now _)
    simp only [spec_HardOk.l0]
    rw [if_neg (by simp)]
  | cons x t ih =>
    intro P lo h0 hP hl
    simp only [List.length_cons] at hl
    have el : ((P ++ x :: t).length : Int) = P.length + t.length + 1 := by simp; omega
    have ea : P ++ x :: t = P ++ [x] ++ t := by simp
    have hw1 : wrap64 ((P.length : Int) + 1) = ((P ++ [x]).length : Int) := by rw [w64 (by omega) (by omega)]; simp
    refine Ev.step (fun k => by simp only [spec_HardOk.l0]; rw [if_pos (by omega), if_pos (by omega), rdE_mid]) ?_
    refine Ev.bind (l6Entry_ev x) ?_
    cases hb : (inr x.f0 1 1000000000 && cmdOkE x)
    · simp only [Bool.false_eq_true, ↓reduceIte]
      have : logOk lo term (x :: t) = false := by
        rw [Bool.and_eq_false_iff] at hb
        rcases hb with hb | hb
        · have hb := of_decide_eq_false hb
          have : ¬ (lo ≤ x.f0 ∧ x.f0 ≤ term) := by omega
          simp [logOk, this]
        · simp [logOk, hb]
      rw [this]; exact Ev.now _
    · rw [Bool.and_eq_true] at hb
      have hb1 := of_decide_eq_true hb.1
      simp only [↓reduceIte]
      by_cases c1 : x.f0 > term
      · have : logOk lo term (x :: t) = false := by
          have : ¬ (lo ≤ x.f0 ∧ x.f0 ≤ term) := by omega
          simp [logOk, this]
        simp only [c1, ↓reduceIte]
        rw [this]; exact Ev.now _
      · simp only [c1, ↓reduceIte]
        have hi := ih (P ++ [x]) x.f0 (by omega) (.inr ⟨P, x, rfl, rfl⟩) (by simp; omega)
        have hlog : lo ≤ x.f0 → logOk lo term (x :: t) = logOk x.f0 term t := by
          intro h
          have : lo ≤ x.f0 ∧ x.f0 ≤ term := by omega
          simp [logOk, this, hb.2]
        rcases hP with ⟨rfl, rfl⟩ | ⟨P', y, rfl, rfl⟩
        · rw [hlog (by omega)]
          refine Ev.congr (fun k => ?_) hi
          rw [if_neg (by simp), hw1, ea]
        · have ep : ((P' ++ [y]).length : Int) = P'.length + 1 := by simp
          by_cases c2 : x.f0 < y.f0
          · have : logOk y.f0 term (x :: t) = false := by
              have : ¬ (y.f0 ≤ x.f0 ∧ x.f0 ≤ term) := by omega
              simp [logOk, this]
            rw [this]
            refine Ev.congr (fun k => ?_) (Ev.now false)
            rw [if_pos (by omega), w64 (x := ((P' ++ [y]).length : Int) - 1) (by omega) (by omega), if_pos (by omega), if_pos (by omega), show P' ++ [y] ++ x :: t = P' ++ [y] ++ (x :: t) from rfl, rdE_last, if_pos c2]
          · rw [hlog (by omega)]
            refine Ev.congr (fun k => ?_) hi
            rw [if_pos (by omega), w64 (x := ((P' ++ [y]).length : Int) - 1) (by omega) (by omega), if_pos (by omega), if_pos (by omega), show P' ++ [y] ++ x :: t = P' ++ [y] ++ (x :: t) from rfl, rdE_last, if_neg c2, hw1, ea]
theorem specHardOk_ev (term vote : Int) (l : List S36) (hl : l.length ≤ 140737488355328) : Ev (fun k => spec_HardOk.f k term vote l) (hardOk term vote l) := by
  unfold spec_HardOk.f hardOk
  simp only [l1Whole_eq, l1In_eq, Option.bind_some]
  have hj : Ev (fun k => spec_HardOk.j0 k true term vote l) false := by
    refine Ev.step (f := fun _ => some false) (fun k => ?_) (Ev.now _)
    simp only [spec_HardOk.j0, ↓reduceIte]
  cases h : inr term 0 1000000000
  · simp only [Bool.false_eq_true, ↓reduceIte, Bool.false_and]; exact hj
  · have ht := of_decide_eq_true h
    simp only [↓reduceIte, Bool.true_and]
    cases h2 : inr vote 0 5
    · simp only [Bool.false_eq_true, ↓reduceIte, Bool.false_and]; exact hj
    · simp only [↓reduceIte, Bool.true_and]
      by_cases h80 : (l.length : Int) > 80
      · simp only [h80, decide_true, show ¬ (l.length : Int) ≤ 80 by omega, decide_false, Bool.false_and]; exact hj
      · simp only [h80, decide_false, show (l.length : Int) ≤ 80 by omega, decide_true, Bool.true_and]
        refine Ev.step (f := fun k => spec_HardOk.l0 k 0 term vote l) (fun k => ?_) ?_
        · simp only [spec_HardOk.j0]; rfl
        · exact specHardOk_l term vote ht.2 l [] 1 (by omega) (.inl ⟨rfl, rfl⟩) (by simpa using hl)

theorem within_eq (a b c : Int) : impl_within.f a b c = some (inr a b c) := by
  unfold impl_within.f inr
  by_cases h : a ≥ b
  · rw [if_pos h]; congr 1; by_cases h2 : a ≤ c <;> simp [h, h2]
  · rw [if_neg h]; congr 1; simp; omega

theorem isRelease_eq (a : Int) : impl_isRelease.f a = some (inr a 1 1000) := by unfold impl_isRelease.f; rw [within_eq]; rfl
theorem isSize_eq (a : Int) : impl_isSize.f a = some (inr a 0 1000) := by unfold impl_isSize.f; rw [within_eq]; rfl
theorem isNode_eq (a : Int) : impl_isNode.f a = some (inr a 0 4) := by unfold impl_isNode.f; rw [within_eq]; rfl
theorem implCmdOk_j2 (k : Nat) (x : Bool) (a b c d : Int) (s : ByteArray) : impl_CmdOk.j2 (k + 1) x a b c d s = some (x && (a == 0 && (b == 0 && (c == 0 && (d == 0 && (s.toList == ([] : List UInt8))))))) := by
  simp only [impl_CmdOk.j2]; cases x <;> simp
theorem implCmdOk_ev (kind rel node size : Int) (dig : ByteArray) : Ev (fun k => impl_CmdOk.f k kind rel node size dig) (cmdOk kind rel node size dig) := by
  refine ⟨3, fun k hk => ?_⟩
  obtain ⟨k, rfl⟩ : ∃ m, k = m + 3 := ⟨k - 3, by omega⟩
  unfold impl_CmdOk.f
  simp only [isRelease_eq, isSize_eq, isNode_eq, Option.bind_some, cmdOk]
  by_cases h1 : kind = 1
  · simp only [h1, ↓reduceIte]; rw [implCmdOk_j2]; simp
  · by_cases h2 : kind = 2
    · simp only [h2, ↓reduceIte]
      cases inr rel 1 1000 <;> cases inr size 0 1000 <;> by_cases hd : (dig.size : Int) = 32 <;> simp [impl_CmdOk.j0, implCmdOk_j2, ba_nil, hd]
    · by_cases h3 : kind = 3
      · simp only [h3, ↓reduceIte]
        cases inr rel 1 1000 <;> cases inr node 0 4 <;> simp [impl_CmdOk.j1, implCmdOk_j2]
      · by_cases h4 : kind = 4
        · simp only [h4, ↓reduceIte]
          cases inr rel 1 1000 <;> simp [impl_CmdOk.j1, implCmdOk_j2]
        · by_cases h5 : kind = 5
          · simp only [h5, ↓reduceIte]
            cases inr rel 1 1000 <;> simp [impl_CmdOk.j1, implCmdOk_j2]
          · simp [h1, h2, h3, h4, h5, impl_CmdOk.j1]

theorem isWhole_eq (a : Int) : impl_isWhole.f a = some (inr a 0 1000000000) := by unfold impl_isWhole.f; rw [within_eq]; rfl
def lastT (P : List S36) : Int := match P.getLast? with | none => 0 | some y => y.f0
theorem lastTerm_eq (P : List S36) (hl : P.length ≤ 140737488355328) : impl_lastTerm.f P = some (lastT P) := by
  unfold impl_lastTerm.f
  rcases List.eq_nil_or_concat P with rfl | ⟨P', y, rfl⟩
  · rfl
  · rw [List.concat_eq_append] at hl ⊢
    have ep : ((P' ++ [y]).length : Int) = P'.length + 1 := by simp
    rw [if_neg (by omega), w64 (x := ((P' ++ [y]).length : Int) - 1) (by omega) (by omega), if_pos (by omega), if_pos (by omega)]
    have := rdE_last P' y []
    rw [List.append_nil] at this
    rw [this]
    simp [lastT]
theorem implHardOk_l (term vote : Int) (F : List S36) (hF : F.length ≤ 140737488355328) (rest : List S36) : ∀ (P : List S36) (lo : Int), F = P ++ rest → mx 1 (lastT P) = lo → Ev (fun k => impl_HardOk.l0 k F (F.length : Int) (P.length : Int) term vote F) (logOk lo term rest && (inr term 0 1000000000 && (inr vote 0 5 && decide ((F.length : Int) ≤ 80)))) := by
  induction rest with
  | nil =>
    intro P lo hPF hlo
    refine Ev.step (f := fun _ => some (inr term 0 1000000000 && (inr vote 0 5 && decide ((F.length : Int) ≤ 80)))) (fun k => ?_) ?_
    · simp only [impl_HardOk.l0]
      rw [if_neg (by rw [hPF]; simp)]
      simp only [isWhole_eq, within_eq, Option.bind_some]
      cases inr term 0 1000000000 <;> cases inr vote 0 5 <;> rfl
    · simp only [logOk, Bool.true_and]; exact Ev.now _
  | cons x t ih =>
    intro P lo hPF hlo
    have el : (F.length : Int) = P.length + t.length + 1 := by rw [hPF]; simp; omega
    have hr : rd_T36 F (P.length : Int) = x := by rw [hPF]; exact rdE_mid P x t
    have hw1 : wrap64 ((P.length : Int) + 1) = ((P ++ [x]).length : Int) := by rw [w64 (by omega) (by omega)]; simp
    have htk : F.take (P.length : Int).toNat = P := by rw [hPF]; simp
    refine Ev.step (fun k => by simp only [impl_HardOk.l0]; rw [if_pos (by omega), if_pos (by omega), if_pos (by omega), hr]) ?_
    refine Ev.bind (implCmdOk_ev _ _ _ _ _) ?_
    change Ev (fun k => if cmdOkE x = true then _ else _) _
    cases hc : cmdOkE x
    · simp only [Bool.false_eq_true, ↓reduceIte]
      have : logOk lo term (x :: t) = false := by simp [logOk, hc]
      rw [this]; exact Ev.now _
    · simp only [↓reduceIte]
      rw [htk, lastTerm_eq P (by omega)]
      simp only [show (P.length : Int) ≤ (F.length : Int) by omega, ↓reduceIte, Option.bind_some, within_eq, hlo]
      by_cases c : lo ≤ x.f0 ∧ x.f0 ≤ term
      · have e : inr x.f0 lo term = true := decide_eq_true c
        have hlog : logOk lo term (x :: t) = logOk x.f0 term t := by simp [logOk, c, hc]
        rw [e, hlog, hw1]
        simp only [↓reduceIte]
        have hlo1 : 1 ≤ lo := by rw [← hlo]; unfold mx; split <;> omega
        exact ih (P ++ [x]) x.f0 (by rw [hPF]; simp) (by simp only [lastT, List.getLast?_append, List.getLast?_singleton, Option.some_or]; unfold mx; split <;> omega)
      · have e : inr x.f0 lo term = false := decide_eq_false c
        have hlog : logOk lo term (x :: t) = false := by simp only [logOk, c, decide_false, Bool.false_and]
        rw [e, hlog]
        simp only [Bool.false_eq_true, ↓reduceIte]; exact Ev.now _
theorem implHardOk_ev (term vote : Int) (l : List S36) (hl : l.length ≤ 140737488355328) : Ev (fun k => impl_HardOk.f k term vote l) (hardOk term vote l) := by
  have h := implHardOk_l term vote l hl l [] 1 rfl rfl
  have e : hardOk term vote l = (logOk 1 term l && (inr term 0 1000000000 && (inr vote 0 5 && decide ((l.length : Int) ≤ 80)))) := by
    unfold hardOk
    cases logOk 1 term l <;> cases inr term 0 1000000000 <;> cases inr vote 0 5 <;> simp
  rw [e]; exact h

def entryOk (term ek er en es : Int) (dig : ByteArray) : Bool := inr term 1 1000000000 && cmdOk ek er en es dig
def zero6 (et ek er en es : Int) (dig : ByteArray) : Bool := et == 0 && ((ek == 0 && (er == 0 && (en == 0 && (es == 0 && (dig.toList == ([] : List UInt8)))))))
def recOk (kind term vote pos et ek er en es : Int) (dig : ByteArray) : Bool :=
  if kind = 1 then (inr term 0 1000000000 && (inr vote 0 5 && (pos == 0 && zero6 et ek er en es dig)))
  else if kind = 2 then (inr pos 1 80 && (entryOk et ek er en es dig && (term == 0 && vote == 0)))
  else if kind = 3 then (inr pos 0 80 && (term == 0 && (vote == 0 && zero6 et ek er en es dig)))
  else false

theorem l6EntryF_ev (term ek er en es : Int) (dig : ByteArray) : Ev (fun k => spec_l6Entry.f k term ek er en es dig) (entryOk term ek er en es dig) := by
  unfold spec_l6Entry.f entryOk
  simp only [l1In_eq, Option.bind_some]
  cases inr term 1 1000000000
  · simp only [Bool.false_eq_true, ↓reduceIte, Bool.false_and]; exact Ev.now _
  · simp only [↓reduceIte, Bool.true_and]
    refine Ev.bind (specCmdOk_ev ek er en es dig) ?_
    exact Ev.now _
theorem specRecOk_ev (kind term vote pos et ek er en es : Int) (dig : ByteArray) : Ev (fun k => spec_RecOk.f k kind term vote pos et ek er en es dig) (recOk kind term vote pos et ek er en es dig) := by
  unfold spec_RecOk.f recOk
  simp only [l1In_eq, l1Whole_eq, Option.bind_some]
  by_cases h1 : kind = 1
  · simp only [h1, ↓reduceIte]
    cases inr term 0 1000000000 <;> cases inr vote 0 5 <;> simp only [Bool.false_eq_true, ↓reduceIte, Bool.false_and, Bool.true_and] <;> exact Ev.now _
  · by_cases h2 : kind = 2
    · simp only [h2, ↓reduceIte, show ¬ (2 : Int) = 1 by omega]
      cases inr pos 1 80
      · simp only [Bool.false_eq_true, ↓reduceIte, Bool.false_and]; exact Ev.now _
      · simp only [↓reduceIte, Bool.true_and]
        refine Ev.bind (l6EntryF_ev et ek er en es dig) ?_
        cases entryOk et ek er en es dig <;> simp only [Bool.false_eq_true, ↓reduceIte, Bool.false_and, Bool.true_and] <;> exact Ev.now _
    · by_cases h3 : kind = 3
      · simp only [h3, ↓reduceIte, show ¬ (3 : Int) = 1 by omega, show ¬ (3 : Int) = 2 by omega]
        cases inr pos 0 80 <;> simp only [Bool.false_eq_true, ↓reduceIte, Bool.false_and, Bool.true_and] <;> exact Ev.now _
      · simp only [h1, h2, h3, ↓reduceIte]; exact Ev.now _

theorem entryOk_ev (term ek er en es : Int) (dig : ByteArray) : Ev (fun k => impl_entryOk.f k term ek er en es dig) (entryOk term ek er en es dig) := by
  unfold impl_entryOk.f entryOk
  simp only [within_eq, Option.bind_some]
  cases inr term 1 1000000000
  · simp only [Bool.false_eq_true, ↓reduceIte, Bool.false_and]; exact Ev.now _
  · simp only [↓reduceIte, Bool.true_and]
    refine Ev.bind (implCmdOk_ev ek er en es dig) ?_
    exact Ev.now _
theorem implRecOk_ev (kind term vote pos et ek er en es : Int) (dig : ByteArray) : Ev (fun k => impl_RecOk.f k kind term vote pos et ek er en es dig) (recOk kind term vote pos et ek er en es dig) := by
  unfold impl_RecOk.f recOk
  simp only [within_eq, isWhole_eq, Option.bind_some]
  by_cases h1 : kind = 1
  · simp only [h1, ↓reduceIte, if_eq0, if_tt]
    exact Ev.now _
  · by_cases h2 : kind = 2
    · simp only [h2, ↓reduceIte, show ¬ (2 : Int) = 1 by omega, if_eq0]
      cases inr pos 1 80
      · simp only [Bool.false_eq_true, ↓reduceIte, Bool.false_and]; exact Ev.now _
      · simp only [↓reduceIte, Bool.true_and]
        refine Ev.bind (entryOk_ev et ek er en es dig) ?_
        simp only [if_tt]
        exact Ev.now _
    · by_cases h3 : kind = 3
      · simp only [h3, ↓reduceIte, show ¬ (3 : Int) = 1 by omega, show ¬ (3 : Int) = 2 by omega, if_eq0, if_tt]
        exact Ev.now _
      · simp only [h1, h2, h3, ↓reduceIte]; exact Ev.now _

theorem copyHard_eq (t v : Int) (l : List S36) (hl : l.length ≤ 140737488355) : impl_copyHard.f t v l = some (t, v, l) := by
  unfold impl_copyHard.f impl_copyLog.f
  simp only [Option.bind_some, List.length_nil, List.nil_append]
  rw [if_pos (by omega)]
  rfl
theorem l6Copy_eq (t v : Int) (l : List S36) (hl : l.length ≤ 140737488355) : spec_l6Copy.f t v l = some (t, v, l) := by
  unfold spec_l6Copy.f
  simp only [Option.bind_some, List.length_nil, List.nil_append]
  rw [if_pos (by omega)]
def mayR (t v : Int) (n : Nat) (k tm vt pos : Int) : Bool :=
  if k = 1 then decide (tm > t) || (tm == t && (v == 0 || v == vt)) else if k = 2 then pos == (n : Int) + 1 else if k = 3 then inr pos 0 n else false
def candR (t v : Int) (l : List S36) (k tm vt pos : Int) (e : S36) : Int × Int × List S36 :=
  if k = 1 then (tm, vt, l) else if k = 2 then (t, v, l ++ [e]) else if k = 3 then (t, v, l.take pos.toNat) else (t, v, l)
def hardApply (t v : Int) (l : List S36) (k tm vt pos : Int) (e : S36) : Int × Int × List S36 × Bool :=
  if hardOk t v l = true then
    (if (mayR t v l.length k tm vt pos && (recOk k tm vt pos e.f0 e.f1.f0 e.f1.f1 e.f1.f2 e.f1.f3 e.f1.f4 && hardOk (candR t v l k tm vt pos e).1 (candR t v l k tm vt pos e).2.1 (candR t v l k tm vt pos e).2.2)) = true
      then ((candR t v l k tm vt pos e).1, (candR t v l k tm vt pos e).2.1, (candR t v l k tm vt pos e).2.2, true) else (t, v, l, false))
  else (0, 0, [], false)
theorem candR_len (t v : Int) (l : List S36) (k tm vt pos : Int) (e : S36) : (candR t v l k tm vt pos e).2.2.length ≤ l.length + 1 := by
  unfold candR
  split
  · simp
  · split
    · simp
    · split
      · simp only [List.length_take]; omega
      · simp
theorem hardApply_len (t v : Int) (l : List S36) (k tm vt pos : Int) (e : S36) : (hardApply t v l k tm vt pos e).2.2.1.length ≤ l.length + 1 := by
  have := candR_len t v l k tm vt pos e
  unfold hardApply
  split
  · split
    · exact this
    · simp
  · simp
theorem hardOk_len {t v : Int} {l : List S36} (h : hardOk t v l = true) : l.length ≤ 80 := by
  unfold hardOk at h
  simp only [Bool.and_eq_true, decide_eq_true_eq] at h
  omega
theorem implHA_j0 (may : Bool) (t v : Int) (l : List S36) (k tm vt pos : Int) (e : S36) (c0 c1 : Int) (c2 : List S36) (hl : l.length ≤ 140737488355) (hc : c2.length ≤ 140737488355) :
    Ev (fun r => impl_HardApply.j0 r may t v l k tm vt pos e.f0 e.f1.f0 e.f1.f1 e.f1.f2 e.f1.f3 e.f1.f4 c0 c1 c2) (if (may && (recOk k tm vt pos e.f0 e.f1.f0 e.f1.f1 e.f1.f2 e.f1.f3 e.f1.f4 && hardOk c0 c1 c2)) = true then (c0, c1, c2, true) else (t, v, l, false)) := by
  refine Ev.step (fun r => by simp only [impl_HardApply.j0]; rfl) ?_
  cases may
  · simp only [Bool.false_eq_true, ↓reduceIte, copyHard_eq t v l hl, Option.bind_some, Bool.false_and]
    exact Ev.now _
  · simp only [↓reduceIte, Bool.true_and]
    refine Ev.bind (implRecOk_ev k tm vt pos e.f0 e.f1.f0 e.f1.f1 e.f1.f2 e.f1.f3 e.f1.f4) ?_
    cases recOk k tm vt pos e.f0 e.f1.f0 e.f1.f1 e.f1.f2 e.f1.f3 e.f1.f4
    · simp only [Bool.false_eq_true, ↓reduceIte, copyHard_eq t v l hl, Option.bind_some, Bool.false_and]
      exact Ev.now _
    · simp only [↓reduceIte, Bool.true_and]
      refine Ev.bind (implHardOk_ev c0 c1 c2 (by omega)) ?_
      cases hardOk c0 c1 c2
      · simp only [Bool.false_eq_true, ↓reduceIte, copyHard_eq t v l hl, Option.bind_some]
        exact Ev.now _
      · simp only [↓reduceIte]
        exact Ev.now _
theorem specHA_j0 (may : Bool) (t v : Int) (l : List S36) (c0 c1 : Int) (c2 : List S36) (hl : l.length ≤ 140737488355) (hc : c2.length ≤ 140737488355) :
    Ev (fun r => spec_HardApply.j0 r may t v l c0 c1 c2) (if (may && hardOk c0 c1 c2) = true then (c0, c1, c2, true) else (t, v, l, false)) := by
  refine Ev.step (fun r => by simp only [spec_HardApply.j0]; rfl) ?_
  cases may
  · simp only [Bool.false_eq_true, ↓reduceIte, l6Copy_eq t v l hl, Option.bind_some, Bool.false_and]
    exact Ev.now _
  · simp only [↓reduceIte, Bool.true_and]
    refine Ev.bind (specHardOk_ev c0 c1 c2 (by omega)) ?_
    cases hardOk c0 c1 c2
    · simp only [Bool.false_eq_true, ↓reduceIte, l6Copy_eq t v l hl, Option.bind_some]
      exact Ev.now _
    · simp only [↓reduceIte]
      exact Ev.now _
theorem recOk_other {k tm vt pos et ek er en es : Int} {dig : ByteArray} (h1 : k ≠ 1) (h2 : k ≠ 2) (h3 : k ≠ 3) : recOk k tm vt pos et ek er en es dig = false := by
  unfold recOk
  rw [if_neg h1, if_neg h2, if_neg h3]
theorem recOk_cut {tm vt pos et ek er en es : Int} {dig : ByteArray} (h : recOk 3 tm vt pos et ek er en es dig = true) : 0 ≤ pos := by
  unfold recOk at h
  rw [if_neg (by omega), if_neg (by omega), if_pos rfl] at h
  simp only [Bool.and_eq_true, inr, decide_eq_true_eq] at h
  omega
theorem implHardApply_ev (t v : Int) (l : List S36) (k tm vt pos : Int) (e : S36) (hl : l.length ≤ 1048576) :
    Ev (fun r => impl_HardApply.f r t v l k tm vt pos e.f0 e.f1.f0 e.f1.f1 e.f1.f2 e.f1.f3 e.f1.f4) (hardApply t v l k tm vt pos e) := by
  unfold impl_HardApply.f hardApply
  refine Ev.bind (implHardOk_ev t v l (by omega)) ?_
  cases ho : hardOk t v l
  · simp only [Bool.false_eq_true, ↓reduceIte]; exact Ev.now _
  · have h80 := hardOk_len ho
    simp only [↓reduceIte, copyHard_eq t v l (by omega), Option.bind_some]
    unfold candR mayR
    by_cases k1 : k = 1
    · subst k1
      simp only [↓reduceIte]
      have J := fun b => implHA_j0 b t v l 1 tm vt pos e tm vt l (by omega) (by omega)
      by_cases a : tm > t
      · simp only [a, ↓reduceIte, decide_true, Bool.true_or]; exact J true
      · simp only [a, ↓reduceIte, decide_false, Bool.false_or]
        by_cases b : tm = t
        · by_cases c : v = 0
          · simp only [b, c, ↓reduceIte, beq_self_eq_true, Bool.true_or, Bool.true_and]
            have := J true
            simp only [b, c] at this
            exact this
          · have hb : (tm == t) = true := beq_iff_eq.2 b
            have hc : (v == 0) = false := beq_eq_false_iff_ne.2 c
            simp only [if_pos b, if_neg c, hb, hc]
            simp only [Bool.true_and, Bool.false_or]
            exact J (v == vt)
        · have hb : (tm == t) = false := beq_eq_false_iff_ne.2 b
          simp only [if_neg b, hb]
          exact J false
    · simp only [k1, ↓reduceIte]
      by_cases k2 : k = 2
      · subst k2
        simp only [↓reduceIte, show l.length < 2513169434916 by omega]
        rw [w64 (by omega) (by omega)]
        exact implHA_j0 _ t v l 2 tm vt pos e t v (l ++ [e]) (by omega) (by simp; omega)
      · simp only [k2, ↓reduceIte]
        by_cases k3 : k = 3
        · subst k3
          simp only [↓reduceIte, within_eq, Option.bind_some]
          have m0 : 0 ≤ mn (mx pos 0) (l.length : Int) := by unfold mn mx; split <;> split <;> omega
          have m1 : mn (mx pos 0) (l.length : Int) ≤ (l.length : Int) := by unfold mn mx; split <;> split <;> omega
          simp only [m0, m1, ↓reduceIte]
          have J := implHA_j0 (inr pos 0 l.length) t v l 3 tm vt pos e t v (l.take (mn (mx pos 0) (l.length : Int)).toNat) (by omega) (by rw [List.length_take]; omega)
          cases hi : inr pos 0 l.length
          · rw [hi] at J
            simpa using J
          · have hm : mn (mx pos 0) (l.length : Int) = pos := by
              simp only [inr, decide_eq_true_eq] at hi
              unfold mn mx; split <;> split <;> omega
            rw [hi, hm] at J
            rw [hm]
            exact J
        · simp only [k3, ↓reduceIte]
          exact implHA_j0 false t v l k tm vt pos e t v l (by omega) (by omega)
theorem specHardApply_ev (t v : Int) (l : List S36) (k tm vt pos : Int) (e : S36) (hl : l.length ≤ 1048576) :
    Ev (fun r => spec_HardApply.f r t v l k tm vt pos e.f0 e.f1.f0 e.f1.f1 e.f1.f2 e.f1.f3 e.f1.f4) (hardApply t v l k tm vt pos e) := by
  unfold spec_HardApply.f hardApply
  refine Ev.bind (specHardOk_ev t v l (by omega)) ?_
  cases ho : hardOk t v l
  · simp only [Bool.false_eq_true, ↓reduceIte]; exact Ev.now _
  · have h80 := hardOk_len ho
    simp only [↓reduceIte, l6Copy_eq t v l (by omega), Option.bind_some]
    refine Ev.bind (specRecOk_ev k tm vt pos e.f0 e.f1.f0 e.f1.f1 e.f1.f2 e.f1.f3 e.f1.f4) ?_
    unfold candR mayR
    have F : ∀ c0 c1 c2, c2.length ≤ 1048577 → Ev (fun r => spec_HardApply.j0 r false t v l c0 c1 c2) (t, v, l, false) := fun c0 c1 c2 hc => by
      have := specHA_j0 false t v l c0 c1 c2 (by omega) (by omega)
      simpa using this
    by_cases k1 : k = 1
    · subst k1
      simp only [↓reduceIte]
      cases hr : recOk 1 tm vt pos e.f0 e.f1.f0 e.f1.f1 e.f1.f2 e.f1.f3 e.f1.f4
      · simp only [Bool.false_eq_true, ↓reduceIte, Bool.false_and, Bool.and_false]
        exact F _ _ _ (by omega)
      · simp only [↓reduceIte, Bool.true_and]
        have J := fun b => specHA_j0 b t v l tm vt l (by omega) (by omega)
        by_cases a : tm > t
        · simp only [a, ↓reduceIte, decide_true, Bool.true_or]; exact J true
        · simp only [a, ↓reduceIte, decide_false, Bool.false_or]
          by_cases b : tm = t
          · by_cases c : v = 0
            · simp only [b, c, ↓reduceIte, beq_self_eq_true, Bool.true_or, Bool.true_and]
              have := J true
              simp only [b, c] at this
              exact this
            · have hb : (tm == t) = true := beq_iff_eq.2 b
              have hc : (v == 0) = false := beq_eq_false_iff_ne.2 c
              simp only [if_pos b, if_neg c, hb, hc]
              simp only [Bool.true_and, Bool.false_or]
              exact J (v == vt)
          · have hb : (tm == t) = false := beq_eq_false_iff_ne.2 b
            simp only [if_neg b, hb]
            exact J false
    · simp only [k1, ↓reduceIte]
      by_cases k2 : k = 2
      · subst k2
        simp only [↓reduceIte, show l.length < 2513169434916 by omega]
        cases hr : recOk 2 tm vt pos e.f0 e.f1.f0 e.f1.f1 e.f1.f2 e.f1.f3 e.f1.f4
        · simp only [Bool.false_eq_true, ↓reduceIte, Bool.false_and, Bool.and_false]
          exact F _ _ _ (by simp; omega)
        · simp only [↓reduceIte, Bool.true_and]
          rw [w64 (by omega) (by omega)]
          exact specHA_j0 _ t v l t v (l ++ [e]) (by omega) (by simp; omega)
      · simp only [k2, ↓reduceIte]
        by_cases k3 : k = 3
        · subst k3
          simp only [↓reduceIte]
          cases hr : recOk 3 tm vt pos e.f0 e.f1.f0 e.f1.f1 e.f1.f2 e.f1.f3 e.f1.f4
          · simp only [Bool.false_eq_true, ↓reduceIte, Bool.false_and, Bool.and_false]
            exact F _ _ _ (by omega)
          · have h0 := recOk_cut hr
            simp only [↓reduceIte, Bool.true_and]
            by_cases c : pos ≤ (l.length : Int)
            · have hi : inr pos 0 l.length = true := decide_eq_true ⟨h0, c⟩
              simp only [c, h0, ↓reduceIte, decide_true, hi]
              exact specHA_j0 true t v l t v (l.take pos.toNat) (by omega) (by rw [List.length_take]; omega)
            · have hi : inr pos 0 l.length = false := decide_eq_false (by omega)
              simp only [c, ↓reduceIte, decide_false, hi, Bool.false_and, Bool.false_eq_true]
              exact F _ _ _ (by omega)
        · simp only [k3, ↓reduceIte]
          rw [recOk_other k1 k2 k3]
          simp only [Bool.false_and, Bool.false_eq_true, ↓reduceIte]
          exact F _ _ _ (by omega)

def hoG : List S38 → Int → Int → Int → List S36 → Int × Int × List S36 × Int
  | [], i, t, v, l => (t, v, l, i)
  | x :: r, i, t, v, l => if (hardApply t v l x.f0 x.f1 x.f2 x.f3 x.f4).2.2.2 = true then hoG r (i + 1) (hardApply t v l x.f0 x.f1 x.f2 x.f3 x.f4).1 (hardApply t v l x.f0 x.f1 x.f2 x.f3 x.f4).2.1 (hardApply t v l x.f0 x.f1 x.f2 x.f3 x.f4).2.2.1 else (t, v, l, i)
theorem hoG_len : ∀ (r : List S38) (i t v : Int) (l : List S36), (hoG r i t v l).2.2.1.length ≤ l.length + r.length
  | [], i, t, v, l => by simp [hoG]
  | x :: r, i, t, v, l => by
    have h1 := hardApply_len t v l x.f0 x.f1 x.f2 x.f3 x.f4
    have h2 := hoG_len r (i + 1) (hardApply t v l x.f0 x.f1 x.f2 x.f3 x.f4).1 (hardApply t v l x.f0 x.f1 x.f2 x.f3 x.f4).2.1 (hardApply t v l x.f0 x.f1 x.f2 x.f3 x.f4).2.2.1
    simp only [hoG]
    split
    · simp only [List.length_cons]; omega
    · simp
theorem specHO_l (rest : List S38) : ∀ (P : List S38) (t v : Int) (l : List S36), P.length + rest.length ≤ 2000 → l.length ≤ P.length → Ev (fun k => spec_HardOf.l0 k (P ++ rest) (P.length : Int) t v l) (hoG rest P.length t v l) := by
  induction rest with
  | nil =>
    intro P t v l hl ho
    refine Ev.step (f := fun _ => some (t, v, l, ((P ++ []).length : Int))) (fun k => ?_) ?_
    · simp only [spec_HardOf.l0]
      rw [if_neg (by simp)]
    · simp [hoG]; exact Ev.now _
  | cons x r ih =>
    intro P t v l hl ho
    simp only [List.length_cons] at hl
    have el : ((P ++ x :: r).length : Int) = P.length + r.length + 1 := by simp; omega
    have hw : wrap64 ((P.length : Int) + 1) = ((P ++ [x]).length : Int) := by rw [w64 (by omega) (by omega)]; simp
    have hA := specHardApply_ev t v l x.f0 x.f1 x.f2 x.f3 x.f4 (by omega)
    have hn := hardApply_len t v l x.f0 x.f1 x.f2 x.f3 x.f4
    refine Ev.step (fun k => by simp only [spec_HardOf.l0]; rw [if_pos (by omega)]) ?_
    refine Ev.step (fun k => by simp only [spec_HardOf.j2]; rw [if_pos (by omega), if_pos (by omega), rdR_mid]) ?_
    simp only [hoG]
    refine Ev.bind hA ?_
    generalize hardApply t v l x.f0 x.f1 x.f2 x.f3 x.f4 = U at *
    obtain ⟨u0, u1, u2, u3⟩ := U
    simp only at hn ⊢
    cases u3
    · simp only [Bool.false_eq_true, ↓reduceIte]; exact Ev.now _
    · simp only [↓reduceIte]
      refine Ev.step (fun k => by simp only [spec_HardOf.j3]; rw [hw]) ?_
      have h := ih (P ++ [x]) u0 u1 u2 (by simp; omega) (by simp; omega)
      simpa using h
theorem implHO_l (rest : List S38) : ∀ (P : List S38) (t v : Int) (l : List S36), P.length + rest.length ≤ 2000 → l.length ≤ P.length → Ev (fun k => impl_HardOf.l0 k (P ++ rest) (P ++ rest) ((P ++ rest).length : Int) (P.length : Int) t v l) (hoG rest P.length t v l) := by
  induction rest with
  | nil =>
    intro P t v l hl ho
    refine Ev.step (f := fun _ => some (t, v, l, ((P ++ []).length : Int))) (fun k => ?_) ?_
    · simp only [impl_HardOf.l0]
      rw [if_neg (by simp)]
    · simp [hoG]; exact Ev.now _
  | cons x r ih =>
    intro P t v l hl ho
    simp only [List.length_cons] at hl
    have el : ((P ++ x :: r).length : Int) = P.length + r.length + 1 := by simp; omega
    have hw : wrap64 ((P.length : Int) + 1) = ((P ++ [x]).length : Int) := by rw [w64 (by omega) (by omega)]; simp
    have hA := implHardApply_ev t v l x.f0 x.f1 x.f2 x.f3 x.f4 (by omega)
    have hn := hardApply_len t v l x.f0 x.f1 x.f2 x.f3 x.f4
    refine Ev.step (fun k => by simp only [impl_HardOf.l0]; rw [if_pos (by omega)]) ?_
    refine Ev.step (fun k => by simp only [impl_HardOf.j2]; rw [if_pos (by omega), if_pos (by omega), rdR_mid]) ?_
    simp only [hoG]
    refine Ev.bind hA ?_
    generalize hardApply t v l x.f0 x.f1 x.f2 x.f3 x.f4 = U at *
    obtain ⟨u0, u1, u2, u3⟩ := U
    simp only at hn ⊢
    cases u3
    · simp only [Bool.false_eq_true, ↓reduceIte]; exact Ev.now _
    · simp only [↓reduceIte]
      refine Ev.step (fun k => by simp only [impl_HardOf.j3]; rw [hw]) ?_
      have h := ih (P ++ [x]) u0 u1 u2 (by simp; omega) (by simp; omega)
      simpa using h
def hardOf (r : List S38) : Int × Int × List S36 × Int := if r.length > 2000 then (0, 0, [], 0) else hoG r 0 0 0 []
theorem hardOf_len (r : List S38) : (hardOf r).2.2.1.length ≤ 2000 := by
  unfold hardOf
  split
  · simp
  · have := hoG_len r 0 0 0 []
    simp only [List.length_nil] at this
    omega
theorem specHardOf_ev (r : List S38) (hl : r.length ≤ 140737488355328) : Ev (fun k => spec_HardOf.f k r) (hardOf r) := by
  unfold spec_HardOf.f hardOf
  by_cases c : r.length > 2000
  · simp only [show (r.length : Int) > 2000 by omega, c, ↓reduceIte]; exact Ev.now _
  · simp only [show ¬ (r.length : Int) > 2000 by omega, c, ↓reduceIte]
    refine Ev.step (fun k => by simp only [spec_HardOf.j0]; rfl) ?_
    have h := specHO_l r [] 0 0 [] (by simp; omega) (by simp)
    simpa using h
theorem implHardOf_ev (r : List S38) (hl : r.length ≤ 140737488355328) : Ev (fun k => impl_HardOf.f k r) (hardOf r) := by
  unfold impl_HardOf.f hardOf
  by_cases c : r.length > 2000
  · simp only [show (r.length : Int) > 2000 by omega, c, ↓reduceIte]; exact Ev.now _
  · simp only [show ¬ (r.length : Int) > 2000 by omega, c, ↓reduceIte]
    refine Ev.step (fun k => by simp only [impl_HardOf.j0]; rfl) ?_
    have h := implHO_l r [] 0 0 [] (by simp; omega) (by simp)
    simpa using h

theorem FnExactHardOf : laws_FnExactHardOf.Pure := by
  intro l hm hz hq
  have hx : ∀ x ∈ l, x.f4.f1.f4.size ≤ 140737488355328 := fun x h => by
    have := (hq x h).2.2.2.2.2.2.2.2.2
    omega
  obtain ⟨r, h1, h2⟩ := szRecS_ev l 1048576 (by omega) (by omega) (by omega) hx
  apply Ev.rounds
  unfold laws_FnExactHardOf.f
  refine Ev.bind h1 ?_
  by_cases h : r < 0
  · simp only [h, ↓reduceIte]; exact Ev.now _
  · have h2 := h2 (by omega)
    have hL : (l.map toR).length ≤ 1048576 := by simp; omega
    have hT := toRecS_ev l (by omega)
    have hS := specHardOf_ev (l.map toR) (by omega)
    have hI := implHardOf_ev (l.map toR) (by omega)
    have hG := hardOf_len (l.map toR)
    generalize l.map toR = L at *
    generalize hardOf L = U at *
    obtain ⟨u0, u1, u2, u3⟩ := U
    simp only at hG
    obtain ⟨M, hM⟩ := markR_ev L 1 (by omega) (by omega) (by omega)
    simp only [h, ↓reduceIte]
    refine Ev.bind hT (Ev.bind hS (Ev.bind hT (Ev.bind hI ?_)))
    refine Ev.bind (eqHard_ev u0 u1 u2 (by omega)) ?_
    simp only [↓reduceIte, bne_self_eq_false]
    refine Ev.step (fun k => by simp only [laws_FnExactHardOf.j0, Bool.false_eq_true, ↓reduceIte]; rfl) ?_
    refine Ev.bind hT ?_
    refine Ev.bind (eqRecS_ev L (by omega)) ?_
    simp only [↓reduceIte]
    refine Ev.bind hM ?_
    simp only [show ¬ (1 + 10 * (L.length : Int) < 0) by omega, ↓reduceIte]
    refine Ev.bind (eqHard_ev u0 u1 u2 (by omega)) ?_
    simp only [↓reduceIte, bne_self_eq_false]
    refine Ev.step (fun k => by simp only [laws_FnExactHardOf.j1, Bool.false_eq_true, ↓reduceIte]; rfl) ?_
    refine Ev.bind (markHard_ev u0 u1 u2 1 (by omega) (by omega) (by omega)) ?_
    refine Ev.bind (heldHard_ev u0 u1 u2.length 1 (by omega) (by omega) (by omega)) ?_
    simp only [show ¬ (1 + 6 * (u2.length : Int) < 0) by omega, ↓reduceIte]
    refine Ev.bind hT (Ev.bind hI ?_)
    refine Ev.bind (eqHard_ev u0 u1 u2 (by omega)) ?_
    simp only [↓reduceIte, bne_self_eq_false]
    refine Ev.step (fun k => by simp only [laws_FnExactHardOf.j2, Bool.false_eq_true, ↓reduceIte]; rfl) ?_
    refine Ev.bind (heldHard_ev u0 u1 u2.length 1 (by omega) (by omega) (by omega)) ?_
    simp only [show ¬ (1 + 6 * (u2.length : Int) < 0) by omega, ↓reduceIte]
    exact Ev.now _

end Go.Proofs.Ytnjpfllmcmomoaa.Pure
