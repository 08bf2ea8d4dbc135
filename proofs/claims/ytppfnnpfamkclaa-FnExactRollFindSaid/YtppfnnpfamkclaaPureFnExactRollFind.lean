/- RollFind of the program and of the reference answer alike for every roll and number, the program leaves its argument as it was, and what it returns shares no memory; no condition. -/
import Derived.Test.YtppfnnpfamkclaaQFnExactRollFindx8
namespace Go.Proofs.Ytppfnnpfamkclaa.Pure
open Go.RowKit Go.Proofs.Ytppfnnpfamkclaa.QFnExactRollFind Go.Proofs.YtppfnnpfamkclaaW.PrintWords Go.Proofs.YtppfnnpfamkclaaW.PrintLast
set_option linter.unusedVariables false
set_option linter.unusedSimpArgs false
theorem w64 {x : Int} (h0 : -9223372036854775808 ≤ x) (h1 : x ≤ 9223372036854775807) : wrap64 x = x := by
  unfold wrap64; omega
theorem rd_nat (l : List Int) (i : Nat) : rd l (i : Int) = l.getD i 0 := by simp [rd]
theorem set_fillI (l : List Int) (i d : Nat) (hi : i + (d + 1) = l.length) : (l.take i ++ List.replicate (d + 1) 0).set i (l.getD i 0) = l.take (i + 1) ++ List.replicate d 0 := by
  have hlt : i < l.length := by omega
  have h1 : (l.take i).length = i := by rw [List.length_take]; omega
  rw [List.set_append_right _ _ (by omega), h1, Nat.sub_self, List.replicate_succ, List.set_cons_zero, List.take_succ_eq_append_getElem hlt, List.append_assoc]
  simp [List.getD_eq_getElem?_getD, hlt]
theorem toIntS_l (l : List Int) (hl : l.length ≤ 35184372088832) (d : Nat) : ∀ i : Nat, i + d = l.length → Ev (fun k => laws_toIntS.l0 k l (l.take i ++ List.replicate d 0) (i : Int)) l := by
  induction d with
  | zero =>
    intro i hi
    refine Ev.step (f := fun _ => some l) (fun k => ?_) (Ev.now _)
    simp only [laws_toIntS.l0]
    rw [if_neg (by omega)]
    have : l.take i = l := List.take_of_length_le (by omega)
    simp [this]
  | succ d ih =>
    intro i hi
    refine Ev.step (f := fun k => laws_toIntS.l0 k l (l.take (i + 1) ++ List.replicate d 0) ((i + 1 : Nat) : Int)) (fun k => ?_) (ih (i + 1) (by omega))
    simp only [laws_toIntS.l0]
    rw [if_pos (by omega), if_pos (by omega), if_pos (by simp; omega), w64 (by omega) (by omega), rd_nat, Int.toNat_natCast, set_fillI l i d hi]
    rfl
theorem toIntS_ev (l : List Int) (hl : l.length ≤ 35184372088832) : Ev (fun k => laws_toIntS.f k l) l := by
  refine Ev.congr (fun k => ?_) (toIntS_l l hl l.length 0 (by omega))
  unfold laws_toIntS.f
  rw [if_pos (by omega), if_pos (by simp; omega)]
  simp

theorem eqIntS_l (l : List Int) (hl : l.length ≤ 140737488355328) (d : Nat) : ∀ i : Nat, i + d = l.length → Ev (fun k => laws_eqIntS.l0 k l l (i : Int)) true := by
  induction d with
  | zero =>
    intro i hi
    refine Ev.step (f := fun _ => some true) (fun k => ?_) (Ev.now _)
    simp only [laws_eqIntS.l0]
    rw [if_neg (by omega)]
  | succ d ih =>
    intro i hi
    refine Ev.step (f := fun k => laws_eqIntS.l0 k l l ((i + 1 : Nat) : Int)) (fun k => ?_) (ih (i + 1) (by omega))
    simp only [laws_eqIntS.l0]
    rw [if_pos (by omega), if_pos (by omega), if_pos (by omega), if_pos trivial, w64 (by omega) (by omega)]
    rfl
theorem eqIntS_ev (l : List Int) (hl : l.length ≤ 140737488355328) : Ev (fun k => laws_eqIntS.f k l l) true := by
  refine Ev.congr (fun k => ?_) (eqIntS_l l hl l.length 0 (by omega))
  unfold laws_eqIntS.f
  rw [if_pos rfl]; rfl

theorem rdL_mid (P : List S53) (x : S53) (t : List S53) : rd_T53 (P ++ x :: t) (P.length : Int) = x := by
  unfold rd_T53; simp
theorem rdM_mid (P : List S38) (x : S38) (t : List S38) : rd_T38 (P ++ x :: t) (P.length : Int) = x := by
  unfold rd_T38; simp
def toL (x : S53) : S38 := ⟨x.f0, x.f1, x.f2, x.f3, x.f4⟩
theorem szIntS_eq (l : List Int) (a : Int) (h0 : 0 ≤ a) (h1 : a ≤ 140737488355328) (hl : l.length ≤ 140737488355328) : laws_szIntS.f l a = some (if a - l.length < 0 then -1 else a - l.length) := by
  unfold laws_szIntS.f
  rw [w64 (x := a - l.length) (by omega) (by omega)]
  split <;> rfl
def szL1 (x : S53) (a : Int) : Int := if a - x.f2.size < 0 then -1 else (if a - x.f2.size - x.f3.length < 0 then -1 else a - x.f2.size - x.f3.length)
def SmL (x : S53) : Prop := x.f2.size ≤ 140737488355328 ∧ x.f3.length ≤ 17592186043904
theorem szRel_eq (x : S53) (a : Int) (h0 : 0 ≤ a) (h1 : a ≤ 140737488355328) (hx : SmL x) : laws_szRel.f x.f0 x.f1 x.f2 x.f3 x.f4 a = some (szL1 x a) := by
  have hx1 := hx.1
  have hx2 := hx.2
  unfold laws_szRel.f szL1
  rw [w64 (x := a - x.f2.size) (by omega) (by omega)]
  by_cases h : a - x.f2.size < 0
  · simp only [h, ↓reduceIte]
  · simp only [h, ↓reduceIte]
    rw [szIntS_eq x.f3 _ (by omega) (by omega) (by omega)]
    by_cases h2 : a - x.f2.size - x.f3.length < 0
    · simp only [h2, ↓reduceIte, Option.bind_some, show ((-1 : Int) < 0) by omega]
    · simp only [h2, ↓reduceIte, Option.bind_some]
def szL : List S53 → Int → Int
  | [], a => a
  | x :: t, a => if szL1 x a < 0 then -1 else szL t (szL1 x a)
theorem szL1_le (x : S53) (a : Int) (h : 0 ≤ a) : szL1 x a ≤ a := by
  unfold szL1
  split
  · omega
  · split <;> omega
theorem szL_le : ∀ (l : List S53) (a : Int), 0 ≤ a → szL l a ≤ a
  | [], a, _ => by simp [szL]
  | x :: t, a, h => by
    have h1 := szL1_le x a h
    simp only [szL]
    split
    · omega
    · have := szL_le t (szL1 x a) (by omega); omega
theorem szRelS_l (rest : List S53) : ∀ (P : List S53) (a : Int), 0 ≤ a → a ≤ 140737488355328 → P.length + rest.length ≤ 140737488355328 → (∀ x ∈ rest, SmL x) → Ev (fun k => laws_szRelS.l0 k (P ++ rest) a (P.length : Int)) (szL rest a) := by
  induction rest with
  | nil =>
    intro P a h0 h1 hl hx
    refine Ev.step (f := fun _ => some a) (fun k => ?_) (Ev.now _)
    simp only [laws_szRelS.l0]
    rw [if_neg (by simp)]
  | cons x t ih =>
    intro P a h0 h1 hl hx
    simp only [List.length_cons] at hl
    have hx0 := hx x (by simp)
    have e := szRel_eq x a h0 h1 hx0
    have hle := szL1_le x a h0
    have el : ((P ++ x :: t).length : Int) = P.length + t.length + 1 := by simp; omega
    by_cases c1 : szL1 x a < 0
    · refine Ev.step (f := fun _ => some (-1)) (fun k => ?_) ?_
      · simp only [laws_szRelS.l0]
        rw [if_pos (by omega), if_pos (by omega), rdL_mid, e]
        simp only [Option.bind_some, c1, ↓reduceIte]
      · simp only [szL, c1, ↓reduceIte]; exact Ev.now _
    · have h := ih (P ++ [x]) (szL1 x a) (by omega) (by omega) (by simp; omega) (fun y hy => hx y (by simp [hy]))
      refine Ev.step (f := fun k => laws_szRelS.l0 k ((P ++ [x]) ++ t) (szL1 x a) ((P ++ [x]).length : Int)) (fun k => ?_) ?_
      · simp only [laws_szRelS.l0]
        rw [if_pos (by omega), if_pos (by omega), rdL_mid, e]
        simp only [Option.bind_some]
        rw [if_neg c1, w64 (by omega) (by omega)]
        simp
      · simp only [szL, c1, ↓reduceIte]; exact h
theorem toRel_ev (x : S53) (hx : SmL x) : Ev (fun k => laws_toRel.f k x.f0 x.f1 x.f2 x.f3 x.f4) (x.f0, x.f1, x.f2, x.f3, x.f4) := by
  unfold laws_toRel.f
  exact Ev.bind (toIntS_ev x.f3 (by have := hx.2; omega)) (Ev.now _)
theorem set_fillL (l : List S53) (i d : Nat) (hi : i + (d + 1) = l.length) : ((l.take i).map toL ++ List.replicate (d + 1) z38).set i (toL (rd_T53 l (i : Int))) = (l.take (i + 1)).map toL ++ List.replicate d z38 := by
  have hlt : i < l.length := by omega
  have h1 : ((l.take i).map toL).length = i := by rw [List.length_map, List.length_take]; omega
  rw [List.set_append_right _ _ (by omega), h1, Nat.sub_self, List.replicate_succ, List.set_cons_zero, List.take_succ_eq_append_getElem hlt, List.map_append, List.append_assoc]
  unfold rd_T53
  simp [List.getD_eq_getElem?_getD, hlt]
theorem toRelS_l (l : List S53) (hl : l.length ≤ 4398046511104) (hx : ∀ x ∈ l, SmL x) (d : Nat) : ∀ i : Nat, i + d = l.length → Ev (fun k => laws_toRelS.l0 k l ((l.take i).map toL ++ List.replicate d z38) (i : Int)) (l.map toL) := by
  induction d with
  | zero =>
    intro i hi
    refine Ev.step (f := fun _ => some (l.map toL)) (fun k => ?_) (Ev.now _)
    simp only [laws_toRelS.l0]
    rw [if_neg (by omega)]
    have : l.take i = l := List.take_of_length_le (by omega)
    simp [this]
  | succ d ih =>
    intro i hi
    have s := set_fillL l i d hi
    have hlt : i < l.length := by omega
    have hm : rd_T53 l (i : Int) ∈ l := by unfold rd_T53; simp [List.getD_eq_getElem?_getD, hlt]
    have hR := toRel_ev _ (hx _ hm)
    have hI := ih (i + 1) (by omega)
    generalize hz : rd_T53 l (i : Int) = z at s hR hm
    refine Ev.step (f := fun k => (laws_toRel.f k z.f0 z.f1 z.f2 z.f3 z.f4).bind fun bt => laws_toRelS.l0 k l (((l.take i).map toL ++ List.replicate (d + 1) z38).set i ⟨bt.1, bt.2.1, bt.2.2.1, bt.2.2.2.1, bt.2.2.2.2⟩) ((i + 1 : Nat) : Int)) (fun k => ?_) ?_
    · simp only [laws_toRelS.l0]
      rw [if_pos (by omega), if_pos (by omega), w64 (by omega) (by omega), Int.toNat_natCast, hz]
      congr 1
      funext bt
      rw [if_pos (by simp; omega)]
      rfl
    · refine Ev.bind hR ?_
      simp only
      rw [show (⟨z.f0, z.f1, z.f2, z.f3, z.f4⟩ : S38) = toL z from rfl, s]
      exact hI
theorem toRelS_ev (l : List S53) (hl : l.length ≤ 4398046511104) (hx : ∀ x ∈ l, SmL x) : Ev (fun k => laws_toRelS.f k l) (l.map toL) := by
  refine Ev.congr (fun k => ?_) (toRelS_l l hl hx l.length 0 (by omega))
  unfold laws_toRelS.f
  rw [if_pos (by omega), if_pos (by simp; omega)]
  simp
theorem toRoll_ev (of : Int) (l : List S53) (a : Int) (o : List Int) (hl : l.length ≤ 4398046511104) (hx : ∀ x ∈ l, SmL x) (ho : o.length ≤ 35184372088832) : Ev (fun k => laws_toRoll.f k of l a o) (of, l.map toL, a, o) := by
  unfold laws_toRoll.f
  refine Ev.bind (toRelS_ev l hl hx) ?_
  exact Ev.bind (toIntS_ev o ho) (Ev.now _)
def SmM (x : S38) : Prop := x.f3.length ≤ 17592186043904
theorem eqRelS_l (l : List S38) (hl : l.length ≤ 140737488355328) (hx : ∀ x ∈ l, SmM x) (d : Nat) : ∀ i : Nat, i + d = l.length → Ev (fun k => laws_eqRelS.l0 k l l (i : Int)) true := by
  induction d with
  | zero =>
    intro i hi
    refine Ev.step (f := fun _ => some true) (fun k => ?_) (Ev.now _)
    simp only [laws_eqRelS.l0]
    rw [if_neg (by omega)]
  | succ d ih =>
    intro i hi
    have hlt : i < l.length := by omega
    have hm : rd_T38 l (i : Int) ∈ l := by unfold rd_T38; simp [List.getD_eq_getElem?_getD, hlt]
    have hq := hx _ hm
    have hI := ih (i + 1) (by omega)
    refine Ev.step (fun k => by simp only [laws_eqRelS.l0]; rw [if_pos (by omega), if_pos (by omega), if_pos (by omega), w64 (by omega) (by omega)]) ?_
    generalize rd_T38 l (i : Int) = z at hq
    have hE : Ev (fun k => laws_eqRel.f k z.f0 z.f1 z.f2 z.f3 z.f4 z.f0 z.f1 z.f2 z.f3 z.f4) true := by
      unfold laws_eqRel.f
      simp only [↓reduceIte]
      refine Ev.bind (eqIntS_ev z.f3 (by have := hq; unfold SmM at this; omega)) ?_
      simp only [↓reduceIte]
      exact Ev.now _
    refine Ev.bind hE ?_
    simp only [↓reduceIte]
    exact hI
theorem eqRoll_ev (of : Int) (l : List S38) (a : Int) (o : List Int) (hl : l.length ≤ 140737488355328) (hx : ∀ x ∈ l, SmM x) (ho : o.length ≤ 140737488355328) : Ev (fun k => laws_eqRoll.f k of l a o of l a o) true := by
  unfold laws_eqRoll.f laws_eqRelS.f
  simp only [↓reduceIte]
  refine Ev.bind (eqRelS_l l hl hx l.length 0 (by omega)) ?_
  simp only [↓reduceIte]
  refine Ev.bind (eqIntS_ev o ho) ?_
  simp only [↓reduceIte]
  exact Ev.now _

def inr (a b c : Int) : Bool := decide (b ≤ a ∧ a ≤ c)
theorem within_eq (a b c : Int) : impl_within.f a b c = some (inr a b c) := by
  unfold impl_within.f inr
  by_cases h : a ≥ b
  · rw [if_pos h]; congr 1; by_cases h2 : a ≤ c <;> simp [h, h2]
  · rw [if_neg h]; congr 1; simp; omega

theorem l1In_eq (a b c : Int) : spec_l1In.f a b c = some (inr a b c) := by
  unfold spec_l1In.f inr
  by_cases h : a ≥ b
  · rw [if_pos h]; congr 1; by_cases h2 : a ≤ c <;> simp [h, h2]
  · rw [if_neg h]; congr 1; simp; omega

def nA (hi : Int) : Int → List Int → Bool
  | _, [] => true
  | lo, x :: t => inr x 0 hi && (decide (lo < x) && nA hi x t)
theorem nA_len (hi : Int) : ∀ (l : List Int) (lo : Int), lo ≤ hi → nA hi lo l = true → (l.length : Int) ≤ hi - lo
  | [], lo, h, _ => by simp; omega
  | x :: t, lo, h, hn => by
    simp only [nA, Bool.and_eq_true, inr, decide_eq_true_eq] at hn
    have := nA_len hi t x hn.1.2 hn.2.2
    simp only [List.length_cons]; omega
theorem rd_at (P : List Int) (x : Int) (t : List Int) : rd (P ++ x :: t) (P.length : Int) = x := by rw [rd_nat]; simp
theorem rd_pr (P : List Int) (y : Int) (t : List Int) : rd ((P ++ [y]) ++ t) (((P ++ [y]).length : Int) - 1) = y := by
  rw [show (((P ++ [y]).length : Int) - 1) = (P.length : Int) by simp, List.append_assoc]
  exact rd_at P y t
theorem specNodes_l (of : Int) (rest : List Int) : ∀ (P : List Int) (lo : Int), (P = [] ∧ lo = -1 ∨ ∃ P', P = P' ++ [lo]) → P.length + rest.length ≤ 140737488355328 → Ev (fun k => spec_l7Nodes.l0 k (P ++ rest) of (P.length : Int)) (nA (wrap64 (of - 1)) lo rest) := by
  induction rest with
  | nil =>
    intro P lo hP hl
    refine Ev.step (f := fun _ => some true) (fun k => ?_) (Ev.now _)
    simp only [spec_l7Nodes.l0]
    rw [if_neg (by simp)]
  | cons x t ih =>
    intro P lo hP hl
    simp only [List.length_cons] at hl
    have el : ((P ++ x :: t).length : Int) = P.length + t.length + 1 := by simp; omega
    have h := ih (P ++ [x]) x (.inr ⟨P, rfl⟩) (by simp; omega)
    have e2 : (P ++ [x]) ++ t = P ++ x :: t := by simp
    have e3 : ((P ++ [x]).length : Int) = (P.length : Int) + 1 := by simp
    rw [e2, e3] at h
    by_cases c1 : inr x 0 (wrap64 (of - 1)) = true
    · have hx0 : 0 ≤ x := by simp only [inr, decide_eq_true_eq] at c1; exact c1.1
      by_cases c2 : lo < x
      · have e4 : nA (wrap64 (of - 1)) lo (x :: t) = nA (wrap64 (of - 1)) x t := by simp only [nA, c1, c2, decide_true, Bool.true_and]
        rw [e4]
        refine Ev.step (fun k => ?_) h
        simp only [spec_l7Nodes.l0]
        rw [if_pos (by omega), if_pos (by omega), rd_at, l1In_eq, c1]
        simp only [Option.bind_some, ↓reduceIte]
        rw [w64 (x := (P.length : Int) + 1) (by omega) (by omega)]
        rcases hP with ⟨rfl, _⟩ | ⟨P', rfl⟩
        · simp
        · have ep : (((P' ++ [lo]).length : Int)) = (P'.length : Int) + 1 := by simp
          rw [if_pos (by omega), w64 (x := ((P' ++ [lo]).length : Int) - 1) (by omega) (by omega), if_pos (by omega), if_pos (by omega), rd_pr, if_neg (by omega)]
      · have e4 : nA (wrap64 (of - 1)) lo (x :: t) = false := by simp only [nA, c2, decide_false, Bool.false_and, Bool.and_false]
        rw [e4]
        refine Ev.step (f := fun _ => some false) (fun k => ?_) (Ev.now _)
        simp only [spec_l7Nodes.l0]
        rw [if_pos (by omega), if_pos (by omega), rd_at, l1In_eq, c1]
        simp only [Option.bind_some, ↓reduceIte]
        rcases hP with ⟨rfl, rfl⟩ | ⟨P', rfl⟩
        · omega
        · have ep : (((P' ++ [lo]).length : Int)) = (P'.length : Int) + 1 := by simp
          rw [if_pos (by omega), w64 (x := ((P' ++ [lo]).length : Int) - 1) (by omega) (by omega), if_pos (by omega), if_pos (by omega), rd_pr, if_pos (by omega)]
    · have c1' : inr x 0 (wrap64 (of - 1)) = false := by simpa using c1
      have e4 : nA (wrap64 (of - 1)) lo (x :: t) = false := by simp only [nA, c1', Bool.false_and]
      rw [e4]
      refine Ev.step (f := fun _ => some false) (fun k => ?_) (Ev.now _)
      simp only [spec_l7Nodes.l0]
      rw [if_pos (by omega), if_pos (by omega), rd_at, l1In_eq, c1']
      simp only [Option.bind_some, Bool.false_eq_true, ↓reduceIte]
theorem specNodes_ev (of : Int) (l : List Int) (hl : l.length ≤ 140737488355328) : Ev (fun k => spec_l7Nodes.f k l of) (nA (wrap64 (of - 1)) (-1) l) := specNodes_l of l [] (-1) (.inl ⟨rfl, rfl⟩) (by simpa using hl)
theorem implNodes_l (of : Int) (F : List Int) (rest : List Int) : ∀ (P : List Int) (lo : Int), F = P ++ rest → (P = [] ∧ lo = -1 ∨ ∃ P', P = P' ++ [lo]) → F.length ≤ 140737488355328 → Ev (fun k => impl_nodesAscend.l0 k F of F (F.length : Int) (P.length : Int)) (nA (wrap64 (of - 1)) lo rest) := by
  induction rest with
  | nil =>
    intro P lo hF hP hl
    subst hF
    refine Ev.step (f := fun _ => some true) (fun k => ?_) (Ev.now _)
    simp only [impl_nodesAscend.l0]
    rw [if_neg (by simp)]
  | cons x t ih =>
    intro P lo hF hP hl
    have h := ih (P ++ [x]) x (by rw [hF]; simp) (.inr ⟨P, rfl⟩) hl
    subst hF
    have el : ((P ++ x :: t).length : Int) = P.length + t.length + 1 := by simp; omega
    have e3 : ((P ++ [x]).length : Int) = (P.length : Int) + 1 := by simp
    rw [e3] at h
    by_cases c1 : inr x 0 (wrap64 (of - 1)) = true
    · have hx0 : 0 ≤ x := by simp only [inr, decide_eq_true_eq] at c1; exact c1.1
      by_cases c2 : lo < x
      · have e4 : nA (wrap64 (of - 1)) lo (x :: t) = nA (wrap64 (of - 1)) x t := by simp only [nA, c1, c2, decide_true, Bool.true_and]
        rw [e4]
        refine Ev.step (fun k => ?_) h
        simp only [impl_nodesAscend.l0]
        rw [if_pos (by omega), if_pos (by omega), if_pos (by omega), rd_at, within_eq, c1]
        simp only [Option.bind_some, ↓reduceIte]
        rw [w64 (x := (P.length : Int) + 1) (by omega) (by omega)]
        rcases hP with ⟨rfl, _⟩ | ⟨P', rfl⟩
        · simp
        · have ep : (((P' ++ [lo]).length : Int)) = (P'.length : Int) + 1 := by simp
          rw [if_pos (by omega), w64 (x := ((P' ++ [lo]).length : Int) - 1) (by omega) (by omega), if_pos (by omega), if_pos (by omega), rd_pr, if_neg (by omega)]
      · have e4 : nA (wrap64 (of - 1)) lo (x :: t) = false := by simp only [nA, c2, decide_false, Bool.false_and, Bool.and_false]
        rw [e4]
        refine Ev.step (f := fun _ => some false) (fun k => ?_) (Ev.now _)
        simp only [impl_nodesAscend.l0]
        rw [if_pos (by omega), if_pos (by omega), if_pos (by omega), rd_at, within_eq, c1]
        simp only [Option.bind_some, ↓reduceIte]
        rcases hP with ⟨rfl, rfl⟩ | ⟨P', rfl⟩
        · omega
        · have ep : (((P' ++ [lo]).length : Int)) = (P'.length : Int) + 1 := by simp
          rw [if_pos (by omega), w64 (x := ((P' ++ [lo]).length : Int) - 1) (by omega) (by omega), if_pos (by omega), if_pos (by omega), rd_pr, if_pos (by omega)]
    · have c1' : inr x 0 (wrap64 (of - 1)) = false := by simpa using c1
      have e4 : nA (wrap64 (of - 1)) lo (x :: t) = false := by simp only [nA, c1', Bool.false_and]
      rw [e4]
      refine Ev.step (f := fun _ => some false) (fun k => ?_) (Ev.now _)
      simp only [impl_nodesAscend.l0]
      rw [if_pos (by omega), if_pos (by omega), if_pos (by omega), rd_at, within_eq, c1']
      simp only [Option.bind_some, Bool.false_eq_true, ↓reduceIte]
theorem implNodes_ev (of : Int) (l : List Int) (hl : l.length ≤ 140737488355328) : Ev (fun k => impl_nodesAscend.f k l of) (nA (wrap64 (of - 1)) (-1) l) := implNodes_l of l l [] (-1) rfl (.inl ⟨rfl, rfl⟩) hl
def lastI (l : List Int) : Int := l.getLast?.getD 0
theorem equalI_l (l o : List Int) (he : l.length = o.length) (hl : l.length ≤ 140737488355328) (d : Nat) : ∀ i : Nat, i + d = l.length → l.take i = o.take i → Ev (fun k => slices_Equal_int_int.l0 k l o (l.length : Int) (i : Int)) (decide (l = o)) := by
  induction d with
  | zero =>
    intro i hi hp
    have e : l = o := by rw [List.take_of_length_le (by omega), List.take_of_length_le (by omega)] at hp; exact hp
    refine Ev.step (f := fun _ => some (decide (l = o))) (fun k => ?_) (Ev.now _)
    simp only [slices_Equal_int_int.l0]
    rw [if_neg (by omega)]
    simp [e]
  | succ d ih =>
    intro i hi hp
    have h1 : i < l.length := by omega
    have h2 : i < o.length := by omega
    have r1 : rd l (i : Int) = l[i] := by rw [rd_nat]; simp [List.getD_eq_getElem?_getD, h1]
    have r2 : rd o (i : Int) = o[i] := by rw [rd_nat]; simp [List.getD_eq_getElem?_getD, h2]
    by_cases c : l[i] = o[i]
    · have h := ih (i + 1) (by omega) (by rw [List.take_succ_eq_append_getElem h1, List.take_succ_eq_append_getElem h2, hp, c])
      refine Ev.step (fun k => ?_) h
      simp only [slices_Equal_int_int.l0]
      rw [if_pos (by omega), if_pos (by omega), if_pos (by omega), if_pos (by omega), r1, r2, if_pos c, w64 (by omega) (by omega)]
      rfl
    · have hne : l ≠ o := fun e => c (by simp [e])
      refine Ev.step (f := fun _ => some (decide (l = o))) (fun k => ?_) (Ev.now _)
      simp only [slices_Equal_int_int.l0]
      rw [if_pos (by omega), if_pos (by omega), if_pos (by omega), if_pos (by omega), r1, r2, if_neg c]
      simp [hne]
theorem equalI_ev (l o : List Int) (hl : l.length ≤ 140737488355328) : Ev (fun k => slices_Equal_int_int.f k l o) (decide (l = o)) := by
  unfold slices_Equal_int_int.f
  by_cases c : l.length = o.length
  · have c' : (l.length : Int) = (o.length : Int) := by omega
    simp only [if_pos c']
    exact equalI_l l o c hl l.length 0 (by omega) (by simp)
  · have hne : l ≠ o := fun e => c (by rw [e])
    have c' : ¬ (l.length : Int) = (o.length : Int) := by omega
    simp only [if_neg c', hne, decide_false]
    exact Ev.now _
theorem lastI_take (o : List Int) (i : Nat) (h : i < o.length) : lastI (o.take (i + 1)) = rd o (i : Int) := by
  unfold lastI
  rw [List.take_succ_eq_append_getElem h, List.getLast?_concat, rd_nat]
  simp [List.getD_eq_getElem?_getD, h]
theorem lastI_rd (l : List Int) (h : 0 < l.length) : rd l ((l.length : Int) - 1) = lastI l := by
  have := lastI_take l (l.length - 1) (by omega)
  rw [show l.length - 1 + 1 = l.length by omega, List.take_length] at this
  rw [this]
  congr 1
  omega
theorem specL1_l (acc o : List Int) (of a : Int) (r : List S38) (ho : o.length ≤ 140737488355328) (he : acc.length = o.length) (d : Nat) : ∀ i : Nat, i + d = o.length → acc.take i = o.take i → Ev (fun k => spec_RollOk.l1 k acc (lastI (o.take i)) (i : Int) of r a o) (decide (acc = o) && (a == lastI o)) := by
  induction d with
  | zero =>
    intro i hi hp
    have e : acc = o := by rw [List.take_of_length_le (by omega), List.take_of_length_le (by omega)] at hp; exact hp
    refine Ev.step (f := fun _ => some (a == lastI o)) (fun k => ?_) (by rw [e]; simp only [decide_true, Bool.true_and]; exact Ev.now _)
    simp only [spec_RollOk.l1]
    rw [if_neg (by omega), if_pos (by omega), List.take_of_length_le (by omega)]
  | succ d ih =>
    intro i hi hp
    have h1 : i < acc.length := by omega
    have h2 : i < o.length := by omega
    have r1 : rd acc (i : Int) = acc[i] := by rw [rd_nat]; simp [List.getD_eq_getElem?_getD, h1]
    have r2 : rd o (i : Int) = o[i] := by rw [rd_nat]; simp [List.getD_eq_getElem?_getD, h2]
    by_cases c : acc[i] = o[i]
    · have h := ih (i + 1) (by omega) (by rw [List.take_succ_eq_append_getElem h1, List.take_succ_eq_append_getElem h2, hp, c])
      refine Ev.step (fun k => ?_) h
      simp only [spec_RollOk.l1]
      rw [if_pos (by omega), if_pos (by omega), if_pos (by omega), if_pos (by omega), r1, r2, if_pos c, w64 (by omega) (by omega), lastI_take o i h2, r2]
      rfl
    · have hne : acc ≠ o := fun e => c (by simp [e])
      refine Ev.step (f := fun _ => some false) (fun k => ?_) (by simp only [hne, decide_false, Bool.false_and]; exact Ev.now _)
      simp only [spec_RollOk.l1]
      rw [if_pos (by omega), if_pos (by omega), if_pos (by omega), if_pos (by omega), r1, r2, if_neg c]
theorem specL1_ev (acc o : List Int) (of a : Int) (r : List S38) (ho : o.length ≤ 140737488355328) : Ev (fun k => spec_RollOk.l1 k acc 0 0 of r a o) (decide (acc = o) && (a == lastI o)) := by
  by_cases c : acc.length = o.length
  · exact specL1_l acc o of a r ho c o.length 0 (by omega) (by simp)
  · have hne : acc ≠ o := fun e => c (by rw [e])
    refine Ev.step (f := fun _ => some false) (fun k => ?_) (by simp only [hne, decide_false, Bool.false_and]; exact Ev.now _)
    simp only [spec_RollOk.l1]
    by_cases c2 : (0 : Int) < (o.length : Int)
    · rw [if_pos c2, if_neg (by omega)]
    · rw [if_neg c2, if_neg (by omega)]
def relA (of : Int) (x : S38) : Bool := inr x.f1 0 1000 && (decide ((x.f2.size : Int) = 32) && (nA (wrap64 (of - 1)) (-1) x.f3 && (inr x.f4 1 3 && (decide (¬ x.f4 = 2) || decide ((x.f3.length : Int) = of)))))
def rA (of : Int) : Int → List S38 → Bool
  | _, [] => true
  | p, x :: t => inr x.f0 1 1000 && (decide (p < x.f0) && (relA of x && rA of x.f0 t))
def act : List S38 → List Int
  | [] => []
  | x :: t => if x.f4 = 2 then x.f0 :: act t else act t
theorem act_len : ∀ l : List S38, (act l).length ≤ l.length
  | [] => by simp [act]
  | x :: t => by
    have := act_len t
    simp only [act]
    split <;> simp <;> omega
theorem rdM_pr (P : List S38) (y : S38) (t : List S38) : rd_T38 ((P ++ [y]) ++ t) (((P ++ [y]).length : Int) - 1) = y := by
  rw [show (((P ++ [y]).length : Int) - 1) = (P.length : Int) by simp, List.append_assoc]
  exact rdM_mid P y t
theorem specJ2_bad (acc : List Int) (i of : Int) (r : List S38) (a : Int) (o : List Int) (x : S38) : Ev (fun k => spec_RollOk.j2 k acc i true of r a o x.f0 x.f1 x.f2 x.f3 x.f4) false :=
  Ev.step (f := fun _ => some false) (fun k => by simp only [spec_RollOk.j2, ↓reduceIte]) (Ev.now _)
def nxt (acc : List Int) (x : S38) : List Int := if x.f4 = 2 then acc ++ [x.f0] else acc
theorem specJ2_good (acc : List Int) (i : Int) (of : Int) (r : List S38) (a : Int) (o : List Int) (x : S38) (hi : 0 ≤ i ∧ i ≤ 140737488355328) (ha : acc.length ≤ 17592186044415) (b : Bool) (h : Ev (fun k => spec_RollOk.l0 k (nxt acc x) (i + 1) of r a o) b) :
    Ev (fun k => spec_RollOk.j2 k acc i false of r a o x.f0 x.f1 x.f2 x.f3 x.f4) ((decide (¬ x.f4 = 2) || decide ((x.f3.length : Int) = of)) && b) := by
  unfold nxt at h
  by_cases c : x.f4 = 2
  · rw [if_pos c] at h
    by_cases c2 : (x.f3.length : Int) = of
    · simp only [c, c2, not_true_eq_false, decide_false, decide_true, Bool.or_true, Bool.true_and]
      refine Ev.step (fun k => ?_) h
      simp only [spec_RollOk.j2, Bool.false_eq_true, ↓reduceIte, c2, show acc.length < 17592186044416 by omega]
      rw [w64 (by omega) (by omega)]
    · simp only [c, c2, not_true_eq_false, decide_false, Bool.or_self, Bool.false_and]
      refine Ev.step (f := fun _ => some false) (fun k => ?_) (Ev.now _)
      simp only [spec_RollOk.j2, Bool.false_eq_true, ↓reduceIte, c2, show acc.length < 17592186044416 by omega]
  · rw [if_neg c] at h
    simp only [c, not_false_eq_true, decide_true, Bool.true_or, Bool.true_and]
    refine Ev.step (fun k => ?_) h
    simp only [spec_RollOk.j2, Bool.false_eq_true, ↓reduceIte, c]
    rw [w64 (by omega) (by omega)]
/-- What stands behind the test of the number. -/
def specR (k : Nat) (acc : List Int) (i of : Int) (r : List S38) (a : Int) (o : List Int) (x : S38) : Option Bool :=
  (spec_l1In.f (x.f1) 0 1000).bind fun t133 => (if t133 = true then (if ((x.f2).size : Int) = 32 then (if ((x.f3).length : Int) > of then (spec_RollOk.j2 k acc i true of r a o (x.f0) (x.f1) (x.f2) (x.f3) (x.f4)) else ((spec_l7Nodes.f k (x.f3) of).bind fun t134 => (if t134 = true then ((spec_l1In.f (x.f4) 1 3).bind fun t135 => (spec_RollOk.j2 k acc i (!t135) of r a o (x.f0) (x.f1) (x.f2) (x.f3) (x.f4))) else (spec_RollOk.j2 k acc i true of r a o (x.f0) (x.f1) (x.f2) (x.f3) (x.f4))))) else (spec_RollOk.j2 k acc i true of r a o (x.f0) (x.f1) (x.f2) (x.f3) (x.f4))) else (spec_RollOk.j2 k acc i true of r a o (x.f0) (x.f1) (x.f2) (x.f3) (x.f4)))
theorem specR_ev (acc : List Int) (i : Int) (of : Int) (r : List S38) (a : Int) (o : List Int) (x : S38) (hi : 0 ≤ i ∧ i ≤ 140737488355328) (ha : acc.length ≤ 17592186044415) (hof : 1 ≤ of ∧ of ≤ 5) (hx : SmM x) (b : Bool) (h : Ev (fun k => spec_RollOk.l0 k (nxt acc x) (i + 1) of r a o) b) :
    Ev (fun k => specR k acc i of r a o x) (relA of x && b) := by
  have bad := specJ2_bad acc i of r a o x
  have good := specJ2_good acc i of r a o x hi ha b h
  have hq : x.f3.length ≤ 17592186043904 := hx
  unfold specR relA
  simp only [l1In_eq, Option.bind_some]
  cases c1 : inr x.f1 0 1000
  · simp only [Bool.false_eq_true, ↓reduceIte, Bool.false_and]; exact bad
  simp only [↓reduceIte, Bool.true_and]
  by_cases c2 : (x.f2.size : Int) = 32
  · simp only [c2, ↓reduceIte, decide_true, Bool.true_and]
    have hw : wrap64 (of - 1) = of - 1 := w64 (by omega) (by omega)
    by_cases c3 : (x.f3.length : Int) > of
    · have c4 : nA (wrap64 (of - 1)) (-1) x.f3 = false := by
        cases q : nA (wrap64 (of - 1)) (-1) x.f3
        · rfl
        · rw [hw] at q
          have := nA_len (of - 1) x.f3 (-1) (by omega) q
          omega
      simp only [c3, ↓reduceIte, c4, Bool.false_and]; exact bad
    · simp only [c3, ↓reduceIte]
      refine Ev.bind (specNodes_ev of x.f3 (by omega)) ?_
      cases c4 : nA (wrap64 (of - 1)) (-1) x.f3
      · simp only [Bool.false_eq_true, ↓reduceIte, Bool.false_and]; exact bad
      simp only [↓reduceIte, Bool.true_and]
      cases c5 : inr x.f4 1 3
      · simp only [Bool.not_false, Bool.false_and]; exact bad
      · simp only [Bool.not_true, Bool.true_and]; exact good
  · simp only [c2, ↓reduceIte, decide_false, Bool.false_and]; exact bad
theorem nxt_act (acc : List Int) (x : S38) (t : List S38) : nxt acc x ++ act t = acc ++ act (x :: t) := by
  unfold nxt
  simp only [act]
  split <;> simp
theorem specRoll_l (of : Int) (hof : 1 ≤ of ∧ of ≤ 5) (F : List S38) (a : Int) (o : List Int) (ho : o.length ≤ 140737488355328) (hF : F.length ≤ 1000) (hx : ∀ x ∈ F, SmM x) (rest : List S38) : ∀ (P : List S38) (p : Int) (acc : List Int), F = P ++ rest → (P = [] ∧ p = 0 ∨ ∃ P' y, P = P' ++ [y] ∧ p = y.f0) → acc.length ≤ P.length →
    Ev (fun k => spec_RollOk.l0 k acc (P.length : Int) of F a o) (rA of p rest && (decide (acc ++ act rest = o) && (a == lastI o))) := by
  induction rest with
  | nil =>
    intro P p acc hP hp ha
    simp only [rA, act, List.append_nil, Bool.true_and]
    refine Ev.step (fun k => ?_) (specL1_ev acc o of a F ho)
    simp only [spec_RollOk.l0]
    rw [if_neg (by rw [hP]; simp)]
  | cons x t ih =>
    intro P p acc hP hp ha
    have hlen : F.length = P.length + t.length + 1 := by rw [hP]; simp; omega
    have hn : (nxt acc x).length ≤ (P ++ [x]).length := by unfold nxt; split <;> simp <;> omega
    have h := ih (P ++ [x]) x.f0 (nxt acc x) (by rw [hP]; simp) (.inr ⟨P, x, rfl, rfl⟩) hn
    rw [nxt_act, show ((P ++ [x]).length : Int) = (P.length : Int) + 1 by simp] at h
    have hxx := hx x (by rw [hP]; simp)
    have hR := specR_ev acc (P.length : Int) of F a o x (by omega) (by omega) hof hxx _ h
    have bad := specJ2_bad acc (P.length : Int) of F a o x
    have hrd : rd_T38 F (P.length : Int) = x := by rw [hP]; exact rdM_mid P x t
    have e : rA of p (x :: t) = (inr x.f0 1 1000 && (decide (p < x.f0) && (relA of x && rA of x.f0 t))) := rfl
    rw [e]
    cases c1 : inr x.f0 1 1000
    · simp only [Bool.false_and]
      refine Ev.step (fun k => ?_) bad
      simp only [spec_RollOk.l0]
      rw [if_pos (by omega), if_pos (by omega), hrd, l1In_eq, c1]
      simp only [Option.bind_some, Bool.false_eq_true, ↓reduceIte]
    · have hx0 : 1 ≤ x.f0 := by simp only [inr, decide_eq_true_eq] at c1; exact c1.1
      simp only [Bool.true_and]
      rcases hp with ⟨rfl, rfl⟩ | ⟨P', y, rfl, rfl⟩
      · simp only [show (0 : Int) < x.f0 by omega, decide_true, Bool.true_and, Bool.and_assoc]
        refine Ev.step (fun k => ?_) hR
        simp only [spec_RollOk.l0]
        rw [if_pos (by omega), if_pos (by omega), hrd, l1In_eq, c1]
        simp only [Option.bind_some, ↓reduceIte, List.length_nil, Int.ofNat_eq_natCast, Int.natCast_zero, Int.lt_irrefl, gt_iff_lt]
        rfl
      · have ep : (((P' ++ [y]).length : Int)) = (P'.length : Int) + 1 := by simp
        have hpr : rd_T38 F (((P' ++ [y]).length : Int) - 1) = y := by rw [hP]; exact rdM_pr P' y _
        by_cases c2 : y.f0 < x.f0
        · simp only [c2, decide_true, Bool.true_and, Bool.and_assoc]
          refine Ev.step (fun k => ?_) hR
          simp only [spec_RollOk.l0]
          rw [if_pos (by omega), if_pos (by omega), hrd, l1In_eq, c1]
          simp only [Option.bind_some, ↓reduceIte]
          rw [if_pos (by omega), w64 (x := ((P' ++ [y]).length : Int) - 1) (by omega) (by omega), if_pos (by omega), if_pos (by omega), hpr, if_neg (by omega)]
          rfl
        · simp only [c2, decide_false, Bool.false_and]
          refine Ev.step (fun k => ?_) bad
          simp only [spec_RollOk.l0]
          rw [if_pos (by omega), if_pos (by omega), hrd, l1In_eq, c1]
          simp only [Option.bind_some, ↓reduceIte]
          rw [if_pos (by omega), w64 (x := ((P' ++ [y]).length : Int) - 1) (by omega) (by omega), if_pos (by omega), if_pos (by omega), hpr, if_pos (by omega)]
def ofB (of : Int) : Bool := decide (of = 1) || (decide (of = 3) || decide (of = 5))
theorem l7Of_eq (of : Int) : spec_l7Of.f of = some (ofB of) := by
  unfold spec_l7Of.f ofB
  by_cases c1 : of = 1
  · simp [c1]
  · by_cases c3 : of = 3
    · simp [c3]
    · by_cases c5 : of = 5 <;> simp [c1, c3, c5]
theorem isOf_eq (of : Int) : impl_isOf.f of = some (ofB of) := l7Of_eq of
def rollOk (of : Int) (l : List S38) (a : Int) (o : List Int) : Bool := ofB of && (decide (l.length ≤ 30) && (rA of 0 l && (decide (act l = o) && (a == lastI o))))
theorem specRollOk_ev (of : Int) (l : List S38) (a : Int) (o : List Int) (hl : l.length ≤ 140737488355328) (ho : o.length ≤ 140737488355328) (hx : ∀ x ∈ l, SmM x) : Ev (fun k => spec_RollOk.f k of l a o) (rollOk of l a o) := by
  have hbad : Ev (fun k => spec_RollOk.j0 k true of l a o) false := Ev.step (f := fun _ => some false) (fun k => by simp only [spec_RollOk.j0, ↓reduceIte]) (Ev.now _)
  unfold spec_RollOk.f rollOk
  simp only [l7Of_eq, Option.bind_some]
  cases c1 : ofB of
  · simp only [Bool.false_eq_true, ↓reduceIte, Bool.false_and]; exact hbad
  simp only [↓reduceIte, Bool.true_and]
  have hof : 1 ≤ of ∧ of ≤ 5 := by
    unfold ofB at c1
    simp only [Bool.or_eq_true, decide_eq_true_eq] at c1
    omega
  by_cases c2 : (l.length : Int) > 30
  · have c2' : ¬ l.length ≤ 30 := by omega
    simp only [c2, ↓reduceIte, c2', decide_false, Bool.false_and]; exact hbad
  · have c2' : l.length ≤ 30 := by omega
    simp only [c2, ↓reduceIte, c2', decide_true, Bool.true_and]
    by_cases c3 : (o.length : Int) > 30
    · have hne : act l ≠ o := fun e => by have := act_len l; rw [e] at this; omega
      simp only [c3, decide_true, hne, decide_false, Bool.false_and, Bool.and_false]; exact hbad
    · simp only [c3, decide_false]
      refine Ev.step (fun k => by simp only [spec_RollOk.j0, Bool.false_eq_true, ↓reduceIte]; rfl) ?_
      exact specRoll_l of hof l a o ho (by omega) hx l [] 0 [] rfl (.inl ⟨rfl, rfl⟩) (by simp)
theorem implJ2_bad (acc : List Int) (F : List S38) (n i of : Int) (r : List S38) (a : Int) (o : List Int) (x : S38) : Ev (fun k => impl_RollOk.j2 k acc F n i true of r a o x.f0 x.f1 x.f2 x.f3 x.f4) false :=
  Ev.step (f := fun _ => some false) (fun k => by simp only [impl_RollOk.j2, ↓reduceIte]) (Ev.now _)
theorem implJ1_bad (acc : List Int) (F : List S38) (n i of : Int) (r : List S38) (a : Int) (o : List Int) (x : S38) : Ev (fun k => impl_RollOk.j1 k acc F n i true of r a o x.f0 x.f1 x.f2 x.f3 x.f4) false :=
  Ev.step (f := fun _ => some false) (fun k => by simp only [impl_RollOk.j1, ↓reduceIte]) (Ev.now _)
theorem implJ2_good (acc : List Int) (F : List S38) (n i of : Int) (r : List S38) (a : Int) (o : List Int) (x : S38) (hi : 0 ≤ i ∧ i ≤ 140737488355328) (ha : acc.length ≤ 17592186044415) (b : Bool) (h : Ev (fun k => impl_RollOk.l0 k (nxt acc x) F n (i + 1) of r a o) b) :
    Ev (fun k => impl_RollOk.j2 k acc F n i false of r a o x.f0 x.f1 x.f2 x.f3 x.f4) b := by
  unfold nxt at h
  by_cases c : x.f4 = 2
  · rw [if_pos c] at h
    refine Ev.step (fun k => ?_) h
    simp only [impl_RollOk.j2, Bool.false_eq_true, ↓reduceIte, c, show acc.length < 17592186044416 by omega]
    rw [w64 (by omega) (by omega)]
  · rw [if_neg c] at h
    refine Ev.step (fun k => ?_) h
    simp only [impl_RollOk.j2, Bool.false_eq_true, ↓reduceIte, c]
    rw [w64 (by omega) (by omega)]
def implR (k : Nat) (acc : List Int) (F : List S38) (n i of : Int) (r : List S38) (a : Int) (o : List Int) (x : S38) : Option Bool :=
  (impl_isSize.f (x.f1)).bind fun t192 => (if t192 = true then (impl_RollOk.j1 k acc F n i (((x.f2).size : Int) != 32) of r a o (x.f0) (x.f1) (x.f2) (x.f3) (x.f4)) else (impl_RollOk.j1 k acc F n i true of r a o (x.f0) (x.f1) (x.f2) (x.f3) (x.f4)))
theorem implR_ev (acc : List Int) (F : List S38) (n i of : Int) (r : List S38) (a : Int) (o : List Int) (x : S38) (hi : 0 ≤ i ∧ i ≤ 140737488355328) (ha : acc.length ≤ 17592186044415) (hx : SmM x) (b : Bool) (h : Ev (fun k => impl_RollOk.l0 k (nxt acc x) F n (i + 1) of r a o) b) :
    Ev (fun k => implR k acc F n i of r a o x) (relA of x && b) := by
  have bad := implJ1_bad acc F n i of r a o x
  have bad2 := implJ2_bad acc F n i of r a o x
  have good := implJ2_good acc F n i of r a o x hi ha b h
  have hq : x.f3.length ≤ 17592186043904 := hx
  unfold implR relA impl_isSize.f
  simp only [within_eq, Option.bind_some]
  cases c1 : inr x.f1 0 1000
  · simp only [Bool.false_eq_true, ↓reduceIte, Bool.false_and]; exact bad
  simp only [↓reduceIte, Bool.true_and]
  by_cases c2 : (x.f2.size : Int) = 32
  · simp only [c2, decide_true, Bool.true_and, bne_self_eq_false]
    refine Ev.step (fun k => by simp only [impl_RollOk.j1, Bool.false_eq_true, ↓reduceIte]; rfl) ?_
    refine Ev.bind (implNodes_ev of x.f3 (by omega)) ?_
    cases c4 : nA (wrap64 (of - 1)) (-1) x.f3
    · simp only [Bool.false_eq_true, ↓reduceIte, Bool.false_and]; exact bad2
    simp only [↓reduceIte, Bool.true_and, within_eq, Option.bind_some]
    cases c5 : inr x.f4 1 3
    · simp only [Bool.false_eq_true, ↓reduceIte, Bool.false_and]; exact bad2
    simp only [↓reduceIte, Bool.true_and]
    by_cases c6 : x.f4 = 2
    · by_cases c7 : (x.f3.length : Int) = of
      · have c8 : ((x.f3.length : Int) != of) = false := by simp [c7]
        simp only [c6, ↓reduceIte, c7, bne_self_eq_false, decide_true, Bool.or_true, Bool.true_and]
        rw [c6] at good; exact good
      · have c8 : ((x.f3.length : Int) != of) = true := by simp [c7]
        simp only [c6, ↓reduceIte, c8, c7, not_true_eq_false, decide_false, Bool.or_self, Bool.false_and]
        rw [c6] at bad2; exact bad2
    · simp only [c6, ↓reduceIte, not_false_eq_true, decide_true, Bool.true_or, Bool.true_and]; exact good
  · have c3 : ((x.f2.size : Int) != 32) = true := by simpa using c2
    simp only [c2, c3, decide_false, Bool.false_and]; exact bad
theorem implFin_ev (acc : List Int) (F : List S38) (i of : Int) (a : Int) (o : List Int) (hi : ¬ i < (F.length : Int)) (ha : acc.length ≤ 17592186044415) :
    Ev (fun k => impl_RollOk.l0 k acc F (F.length : Int) i of F a o) (ofB of && (decide (F.length ≤ 30) && (decide (acc = o) && (a == lastI o)))) := by
  have hE := equalI_ev acc o (by omega)
  have key : ∀ z : Int, z = lastI acc → Ev (fun k => (impl_isOf.f of).bind fun t200 => (if t200 = true then (if (F.length : Int) ≤ 30 then ((slices_Equal_int_int.f k acc o).bind fun t201 => (if t201 = true then (some (a == z)) else (some false))) else (some false)) else (some false))) (ofB of && (decide (F.length ≤ 30) && (decide (acc = o) && (a == lastI o)))) := by
    intro z hz
    simp only [isOf_eq, Option.bind_some]
    cases c1 : ofB of
    · simp only [Bool.false_eq_true, ↓reduceIte, Bool.false_and]; exact Ev.now _
    simp only [↓reduceIte, Bool.true_and]
    by_cases c2 : F.length ≤ 30
    · simp only [show (F.length : Int) ≤ 30 by omega, c2, ↓reduceIte, decide_true, Bool.true_and]
      refine Ev.bind hE ?_
      by_cases c3 : acc = o
      · simp only [c3, decide_true, ↓reduceIte, Bool.true_and]
        rw [hz, c3]; exact Ev.now _
      · simp only [c3, decide_false, Bool.false_eq_true, ↓reduceIte, Bool.false_and]; exact Ev.now _
    · simp only [show ¬ (F.length : Int) ≤ 30 by omega, c2, ↓reduceIte, decide_false, Bool.false_and]; exact Ev.now _
  by_cases c : (acc.length : Int) > 0
  · have hw : wrap64 ((acc.length : Int) - 1) = (acc.length : Int) - 1 := w64 (by omega) (by omega)
    refine Ev.step (fun k => ?_) (key (rd acc ((acc.length : Int) - 1)) (lastI_rd acc (by omega)))
    simp only [impl_RollOk.l0, hw]
    rw [if_neg hi, if_pos c, if_pos (by clear hw; omega), if_pos (by clear hw; omega)]
  · have hz : acc = [] := List.eq_nil_of_length_eq_zero (by omega)
    refine Ev.step (fun k => ?_) (key 0 (by rw [hz]; rfl))
    simp only [impl_RollOk.l0]
    rw [if_neg hi, if_neg c]
theorem implRoll_l (of : Int) (F : List S38) (a : Int) (o : List Int) (hF : F.length ≤ 100000000) (hx : ∀ x ∈ F, SmM x) (rest : List S38) : ∀ (P : List S38) (p : Int) (acc : List Int), F = P ++ rest → (P = [] ∧ p = 0 ∨ ∃ P' y, P = P' ++ [y] ∧ p = y.f0) → acc.length ≤ P.length →
    Ev (fun k => impl_RollOk.l0 k acc F (F.length : Int) (P.length : Int) of F a o) (rA of p rest && (ofB of && (decide (F.length ≤ 30) && (decide (acc ++ act rest = o) && (a == lastI o))))) := by
  induction rest with
  | nil =>
    intro P p acc hP hp ha
    simp only [rA, act, List.append_nil, Bool.true_and]
    exact implFin_ev acc F _ of a o (by rw [hP]; simp) (by have : P.length ≤ F.length := by rw [hP]; simp
                                                           omega)
  | cons x t ih =>
    intro P p acc hP hp ha
    have hlen : F.length = P.length + t.length + 1 := by rw [hP]; simp; omega
    have hn : (nxt acc x).length ≤ (P ++ [x]).length := by unfold nxt; split <;> simp <;> omega
    have h := ih (P ++ [x]) x.f0 (nxt acc x) (by rw [hP]; simp) (.inr ⟨P, x, rfl, rfl⟩) hn
    rw [nxt_act, show ((P ++ [x]).length : Int) = (P.length : Int) + 1 by simp] at h
    have hxx := hx x (by rw [hP]; simp)
    have hR := implR_ev acc F (F.length : Int) (P.length : Int) of F a o x (by omega) (by omega) hxx _ h
    have bad := implJ1_bad acc F (F.length : Int) (P.length : Int) of F a o x
    have hrd : rd_T38 F (P.length : Int) = x := by rw [hP]; exact rdM_mid P x t
    have e : rA of p (x :: t) = (inr x.f0 1 1000 && (decide (p < x.f0) && (relA of x && rA of x.f0 t))) := rfl
    rw [e]
    cases c1 : inr x.f0 1 1000
    · simp only [Bool.false_and]
      refine Ev.step (fun k => ?_) bad
      simp only [impl_RollOk.l0, impl_isRelease.f]
      rw [if_pos (by omega), if_pos (by omega), if_pos (by omega), hrd, within_eq, c1]
      simp only [Option.bind_some, Bool.false_eq_true, ↓reduceIte]
    · have hx0 : 1 ≤ x.f0 := by simp only [inr, decide_eq_true_eq] at c1; exact c1.1
      simp only [Bool.true_and]
      rcases hp with ⟨rfl, rfl⟩ | ⟨P', y, rfl, rfl⟩
      · simp only [show (0 : Int) < x.f0 by omega, decide_true, Bool.true_and, Bool.and_assoc]
        refine Ev.step (fun k => ?_) hR
        simp only [impl_RollOk.l0, impl_isRelease.f]
        rw [if_pos (by omega), if_pos (by omega), if_pos (by omega), hrd, within_eq, c1]
        simp only [Option.bind_some, ↓reduceIte, List.length_nil, Int.ofNat_eq_natCast, Int.natCast_zero, Int.lt_irrefl, gt_iff_lt]
        rfl
      · have ep : (((P' ++ [y]).length : Int)) = (P'.length : Int) + 1 := by simp
        have hpr : rd_T38 F (((P' ++ [y]).length : Int) - 1) = y := by rw [hP]; exact rdM_pr P' y _
        by_cases c2 : y.f0 < x.f0
        · simp only [c2, decide_true, Bool.true_and, Bool.and_assoc]
          refine Ev.step (fun k => ?_) hR
          simp only [impl_RollOk.l0, impl_isRelease.f]
          rw [if_pos (by omega), if_pos (by omega), if_pos (by omega), hrd, within_eq, c1]
          simp only [Option.bind_some, ↓reduceIte]
          rw [if_pos (by omega), w64 (x := ((P' ++ [y]).length : Int) - 1) (by omega) (by omega), if_pos (by omega), if_pos (by omega), hpr, if_neg (by omega)]
          rfl
        · simp only [c2, decide_false, Bool.false_and]
          refine Ev.step (fun k => ?_) bad
          simp only [impl_RollOk.l0, impl_isRelease.f]
          rw [if_pos (by omega), if_pos (by omega), if_pos (by omega), hrd, within_eq, c1]
          simp only [Option.bind_some, ↓reduceIte]
          rw [if_pos (by omega), w64 (x := ((P' ++ [y]).length : Int) - 1) (by omega) (by omega), if_pos (by omega), if_pos (by omega), hpr, if_pos (by omega)]
theorem implRollOk_ev (of : Int) (l : List S38) (a : Int) (o : List Int) (hl : l.length ≤ 100000000) (hx : ∀ x ∈ l, SmM x) : Ev (fun k => impl_RollOk.f k of l a o) (rollOk of l a o) := by
  have h := implRoll_l of l a o hl hx l [] 0 [] rfl (.inl ⟨rfl, rfl⟩) (by simp)
  unfold impl_RollOk.f
  have e : rollOk of l a o = (rA of 0 l && (ofB of && (decide (l.length ≤ 30) && (decide ([] ++ act l = o) && (a == lastI o))))) := by
    unfold rollOk
    rw [List.nil_append]
    generalize rA of 0 l = u
    generalize ofB of = v
    generalize decide (l.length ≤ 30) = q
    cases u <;> cases v <;> cases q <;> rfl
  rw [e]
  exact h

def mtGo (x : Int) (a : ByteArray) : ByteArray := if h : x > 0 then mtGo (x / 10) (strOfNums [(48 + x % 10) % 256] ++ a) else (⟨#[109]⟩ : ByteArray) ++ a
termination_by x.toNat
decreasing_by omega
def mt (x : Int) : ByteArray := if x ≤ 0 then (⟨#[109, 48]⟩ : ByteArray) else mtGo x (⟨#[]⟩ : ByteArray)
theorem strOf1_size (c : Int) : (strOfNums [c]).size = 1 := rfl
theorem markText_l (m : Nat) : ∀ (x : Int) (a : ByteArray), x < 10 ^ m → a.size + m ≤ 1000000 → x ≤ 9223372036854775807 → 0 ≤ x → Ev (fun k => laws_markText.l0 k x a) (mtGo x a) := by
  induction m with
  | zero =>
    intro x a h0 h1 h2 h3
    have h0 : x < 1 := by simpa using h0
    refine Ev.step (f := fun _ => some (mtGo x a)) (fun k => ?_) (Ev.now _)
    simp only [laws_markText.l0]
    rw [if_neg (by omega), if_pos (by omega)]
    rw [mtGo, dif_neg (by omega)]
  | succ m ih =>
    intro x a h0 h1 h2 h3
    by_cases c : x > 0
    · have e : mtGo x a = mtGo (x / 10) (strOfNums [(48 + x % 10) % 256] ++ a) := by rw [mtGo]; simp [c]
      have es : (strOfNums [(48 + x % 10) % 256] ++ a).size = 1 + a.size := by rw [ByteArray.size_append, strOf1_size]
      rw [Int.pow_succ] at h0
      have h := ih (x / 10) (strOfNums [(48 + x % 10) % 256] ++ a) (by omega) (by omega) (by omega) (by omega)
      rw [e]
      refine Ev.step (fun k => ?_) h
      simp only [laws_markText.l0]
      rw [if_pos c, Int.tmod_eq_emod_of_nonneg h3, Int.tdiv_eq_ediv_of_nonneg h3, w64 (x := 48 + x % 10) (by omega) (by omega), w64 (x := x / 10) (by omega) (by omega)]
      simp only [Option.bind_some]
      rw [strOf1_size, if_pos (by omega)]
    · refine Ev.step (f := fun _ => some (mtGo x a)) (fun k => ?_) (Ev.now _)
      simp only [laws_markText.l0]
      rw [if_neg c, if_pos (by omega)]
      rw [mtGo, dif_neg c]
theorem markText_ev (x : Int) (h : x ≤ 9223372036854775807) : Ev (fun k => laws_markText.f k x) (mt x) := by
  unfold laws_markText.f mt
  by_cases c : x ≤ 0
  · simp only [c, ↓reduceIte]; exact Ev.now _
  · simp only [c, ↓reduceIte]
    exact markText_l 19 x _ (by omega) (by decide) h (by omega)

theorem bumped_eq : ∀ (n : Nat) (a : Int), 0 ≤ a → a + n ≤ 9223372036854775807 → bumped n a = a + n
  | 0, a, _, _ => by simp [bumped]
  | n + 1, a, h0, h1 => by
    simp only [bumped]
    rw [w64 (by omega) (by omega), bumped_eq n (a + 1) (by omega) (by omega)]
    omega
def marksOf : List S38 → Int
  | [] => 0
  | x :: t => 4 + x.f3.length + marksOf t
theorem marksOf_ge : ∀ l : List S38, 0 ≤ marksOf l
  | [] => by simp [marksOf]
  | x :: t => by have := marksOf_ge t; simp only [marksOf]; omega
theorem markRelS_ev : ∀ (l : List S38) (a : Int), 0 ≤ a → a + marksOf l ≤ 9223372036854775807 → Ev (fun k => laws_markRelS.l0 k l a) (a + marksOf l)
  | [], a, _, _ => by simp only [laws_markRelS.l0, marksOf, Int.add_zero]; exact Ev.now _
  | x :: t, a, h0, h1 => by
    have hg := marksOf_ge t
    simp only [marksOf] at h1
    simp only [laws_markRelS.l0]
    rw [w64 (x := a + 1) (by omega) (by omega), w64 (x := a + 1 + 1) (by omega) (by omega), w64 (x := a + 1 + 1 + 1) (by omega) (by omega), bumped_eq x.f3.length (a + 1 + 1 + 1) (by omega) (by omega), w64 (by omega) (by omega)]
    have h := markRelS_ev t (a + 1 + 1 + 1 + x.f3.length + 1) (by omega) (by omega)
    have e : a + 1 + 1 + 1 + (x.f3.length : Int) + 1 + marksOf t = a + marksOf (x :: t) := by simp only [marksOf]; omega
    rw [e] at h
    exact Ev.bind (markText_ev (a + 1 + 1) (by omega)) h
theorem markRoll_ev (of : Int) (l : List S38) (a : Int) (o : List Int) (h : 1 + marksOf l + o.length ≤ 9223372036854775807) : Ev (fun k => laws_markRoll.f k of l a o 1) (1 + marksOf l + o.length) := by
  have hg := marksOf_ge l
  unfold laws_markRoll.f laws_markRelS.f
  refine Ev.bind (markRelS_ev l 1 (by omega) (by omega)) ?_
  rw [bumped_eq _ _ (by omega) (by omega)]
  exact Ev.now _
def sumR : List S53 → Int
  | [] => 0
  | x :: t => x.f3.length + sumR t
theorem marksOf_toL : ∀ l : List S53, marksOf (l.map toL) = 4 * l.length + sumR l
  | [] => by simp [marksOf, sumR]
  | x :: t => by
    have h := marksOf_toL t
    simp only [List.map_cons, marksOf, sumR, toL, List.length_cons] at h ⊢
    omega
theorem szL1_le2 (x : S53) (a : Int) (h : 0 ≤ a) (c : ¬ szL1 x a < 0) : szL1 x a + x.f3.length ≤ a := by
  unfold szL1 at c ⊢
  split at c <;> rename_i h1
  · omega
  · rw [if_neg h1]
    split at c <;> rename_i h2
    · omega
    · rw [if_neg h2]; omega
theorem szL_le2 : ∀ (l : List S53) (a : Int), 0 ≤ a → ¬ szL l a < 0 → szL l a + sumR l ≤ a
  | [], a, _, _ => by simp [szL, sumR]
  | x :: t, a, h, c => by
    simp only [szL] at c ⊢
    by_cases h1 : szL1 x a < 0
    · rw [if_pos h1] at c; omega
    · rw [if_neg h1] at c ⊢
      have h2 := szL1_le2 x a h h1
      have h3 := szL_le2 t (szL1 x a) (by omega) c
      simp only [sumR]; omega
theorem szRoll_ev2 (of : Int) (l : List S53) (a : Int) (o : List Int) (hl : l.length ≤ 140737488355328) (hx : ∀ x ∈ l, SmL x) (ho : o.length ≤ 140737488355328) : ∃ r, Ev (fun k => laws_szRoll.f k of l a o 1048576) r ∧ (0 ≤ r → (l.length : Int) + sumR l + o.length ≤ 1048576) := by
  unfold laws_szRoll.f laws_szRelS.f
  rw [w64 (x := 1048576 - l.length) (by omega) (by omega)]
  by_cases h : (1048576 : Int) - (l.length : Int) < 0
  · refine ⟨-1, ?_, by omega⟩
    simp only [h, ↓reduceIte, Option.bind_some, show ((-1 : Int) < 0) by omega]; exact Ev.now _
  · have hle := szL_le l (1048576 - l.length) (by omega)
    have h1 := szRelS_l l [] (1048576 - l.length) (by omega) (by omega) (by simp; omega) hx
    by_cases c : szL l (1048576 - l.length) < 0
    · refine ⟨-1, ?_, by omega⟩
      simp only [h, ↓reduceIte]
      refine Ev.bind h1 ?_
      simp only [c, ↓reduceIte]; exact Ev.now _
    · have hle2 := szL_le2 l (1048576 - l.length) (by omega) c
      have e := szIntS_eq o _ (by omega : 0 ≤ szL l (1048576 - l.length)) (by omega) ho
      by_cases c2 : szL l (1048576 - l.length) - o.length < 0
      · refine ⟨-1, ?_, by omega⟩
        simp only [h, ↓reduceIte]
        refine Ev.bind h1 ?_
        simp only [c, ↓reduceIte, e, c2, Option.bind_some, show ((-1 : Int) < 0) by omega]; exact Ev.now _
      · refine ⟨szL l (1048576 - l.length) - o.length, ?_, by omega⟩
        simp only [h, ↓reduceIte]
        refine Ev.bind h1 ?_
        simp only [c, ↓reduceIte, e, c2, Option.bind_some]; exact Ev.now _
theorem sumR_ge : ∀ l : List S53, 0 ≤ sumR l
  | [] => by simp [sumR]
  | x :: t => by have := sumR_ge t; simp only [sumR]; omega

def marksI : Nat → Int → List Int
  | 0, _ => []
  | n + 1, q => q :: marksI n (q + 1)
theorem markI_l (rest : List Int) : ∀ (P : List Int) (q : Int), P.length + rest.length ≤ 140737488355328 → 0 ≤ q → q + rest.length ≤ 281474976710656 →
    Ev (fun k => laws_markIntS.l0 k (P ++ rest) q (P.length : Int)) (q + rest.length, P ++ marksI rest.length q) := by
  induction rest with
  | nil =>
    intro P q hl h0 h1
    refine Ev.step (f := fun _ => some (q, P)) (fun k => ?_) ?_
    · simp only [laws_markIntS.l0]
      rw [if_neg (by simp)]; simp
    · simp [marksI]; exact Ev.now _
  | cons a rest ih =>
    intro P q hl h0 h1
    simp only [List.length_cons] at hl h1
    have h := ih (P ++ [q]) (q + 1) (by simp; omega) (by omega) (by omega)
    refine Ev.step (f := fun k => laws_markIntS.l0 k ((P ++ [q]) ++ rest) (q + 1) ((P ++ [q]).length : Int)) (fun k => ?_) ?_
    · simp only [laws_markIntS.l0]
      rw [if_pos (by simp; omega), if_pos (by omega), w64 (by omega) (by omega), w64 (by omega) (by omega), Int.toNat_natCast, List.set_append_right _ _ (Nat.le_refl _), Nat.sub_self, List.set_cons_zero]
      simp
    · have e : (q + 1 + (rest.length : Int), P ++ [q] ++ marksI rest.length (q + 1)) = (q + ((a :: rest).length : Int), P ++ marksI (a :: rest).length q) := by
        simp [marksI]; omega
      rw [← e]; exact h
theorem markI_ev (l : List Int) (q : Int) (hl : l.length ≤ 140737488355328) (h0 : 0 ≤ q) (h1 : q ≤ 140737488355328) : Ev (fun k => laws_markIntS.f k l q) (q + l.length, marksI l.length q) := by
  have h := markI_l l [] q (by simpa using hl) h0 (by omega)
  simpa [laws_markIntS.f] using h

theorem heldI_l (n : Nat) : ∀ (P : List Int) (q : Int), P.length + n ≤ 140737488355328 → 0 ≤ q → q + n ≤ 281474976710656 → Ev (fun k => laws_heldIntS.l0 k (P ++ marksI n q) q (P.length : Int)) (q + n) := by
  induction n with
  | zero =>
    intro P q hl h0 h1
    rw [show P ++ marksI 0 q = P by simp [marksI]]
    refine Ev.step (f := fun _ => some q) (fun k => ?_) ?_
    · simp only [laws_heldIntS.l0]
      rw [if_neg (by omega)]
    · simp only [Int.natCast_zero, Int.add_zero]; exact Ev.now _
  | succ n ih =>
    intro P q hl h0 h1
    have h := ih (P ++ [q]) (q + 1) (by simp; omega) (by omega) (by omega)
    have e : (P ++ [q]) ++ marksI n (q + 1) = P ++ q :: marksI n (q + 1) := by simp
    have e1 : ((P ++ [q]).length : Int) = P.length + 1 := by simp
    rw [e, e1, show q + 1 + (n : Int) = q + (n + 1 : Nat) by omega] at h
    have er : rd (P ++ q :: marksI n (q + 1)) (P.length : Int) = q := by rw [rd_nat]; simp
    have el : ((P ++ q :: marksI n (q + 1)).length : Int) > P.length := by simp; omega
    show Ev (fun k => laws_heldIntS.l0 k (P ++ q :: marksI n (q + 1)) q (P.length : Int)) _
    refine Ev.step (fun k => ?_) h
    simp only [laws_heldIntS.l0]
    rw [if_pos (by omega), if_pos (by omega), er, if_pos rfl, w64 (by omega) (by omega), w64 (by omega) (by omega)]
theorem heldI_ev (n : Nat) (q : Int) (hl : n ≤ 140737488355328) (h0 : 0 ≤ q) (h1 : q ≤ 140737488355328) : Ev (fun k => laws_heldIntS.f k (marksI n q) q) (q + n) := by
  have h := heldI_l n [] q (by simpa using hl) h0 (by omega)
  simpa [laws_heldIntS.f] using h

theorem idxNo_range : ∀ (l : List S38) (nm i : Int), 0 ≤ i → idxNo l nm i = -1 ∨ i ≤ idxNo l nm i ∧ idxNo l nm i < i + l.length
  | [], nm, i, h => by simp [idxNo]
  | x :: t, nm, i, h => by
    have := idxNo_range t nm (i + 1) (by omega)
    simp only [idxNo, List.length_cons]
    split
    · omega
    · omega
theorem l7Find_l (no of a : Int) (o : List Int) (rest : List S38) : ∀ (P : List S38), P.length + rest.length ≤ 1000000000 →
    Ev (fun k => spec_l7Find.l0 k no (P.length : Int) of (P ++ rest) a o) (idxNo rest no (P.length : Int)) := by
  induction rest with
  | nil =>
    intro P hl
    refine Ev.step (f := fun _ => some (-1)) (fun k => ?_) ?_
    · simp only [spec_l7Find.l0]; rw [if_neg (by simp)]
    · simp only [idxNo]; exact Ev.now _
  | cons x t ih =>
    intro P hl
    simp only [List.length_cons] at hl
    have el : ((P ++ x :: t).length : Int) = P.length + t.length + 1 := by simp; omega
    have h := ih (P ++ [x]) (by simp; omega)
    have e : (P ++ [x]) ++ t = P ++ x :: t := by simp
    have e1 : ((P ++ [x]).length : Int) = P.length + 1 := by simp
    rw [e, e1] at h
    by_cases c : x.f0 = no
    · refine Ev.step (f := fun _ => some (P.length : Int)) (fun k => ?_) ?_
      · simp only [spec_l7Find.l0]
        rw [if_pos (by omega), if_pos (by omega), rdM_mid, if_pos c]
      · simp only [idxNo, c, ↓reduceIte]; exact Ev.now _
    · have e4 : idxNo (x :: t) no (P.length : Int) = idxNo t no ((P.length : Int) + 1) := by simp only [idxNo, c, ↓reduceIte]
      rw [e4]
      refine Ev.step (fun k => ?_) h
      simp only [spec_l7Find.l0]
      rw [if_pos (by omega), if_pos (by omega), rdM_mid, if_neg c, w64 (by omega) (by omega)]
theorem l7Find_ev (of : Int) (l : List S38) (a : Int) (o : List Int) (no : Int) (hl : l.length ≤ 1000000000) : Ev (fun k => spec_l7Find.f k of l a o no) (idxNo l no 0) := by
  have h := l7Find_l no of a o l [] (by simpa using hl)
  simpa [spec_l7Find.f] using h
def rollFind (of : Int) (l : List S38) (a : Int) (o : List Int) (no : Int) : Int × Int × ByteArray × List Int × Int × Bool :=
  if idxNo l no 0 < 0 then (0, 0, (⟨#[]⟩ : ByteArray), [], 0, false) else if rollOk of l a o = true then ((rd_T38 l (idxNo l no 0)).f0, (rd_T38 l (idxNo l no 0)).f1, (rd_T38 l (idxNo l no 0)).f2, (rd_T38 l (idxNo l no 0)).f3, (rd_T38 l (idxNo l no 0)).f4, true) else (0, 0, (⟨#[]⟩ : ByteArray), [], 0, false)
theorem rdM_sm (l : List S38) (hx : ∀ x ∈ l, SmM x) (i : Int) (h0 : 0 ≤ i) (h1 : i < l.length) : (rd_T38 l i).f3.length ≤ 17592186043904 := by
  have hlt : i.toNat < l.length := by omega
  have hm : rd_T38 l i ∈ l := by unfold rd_T38; simp [List.getD_eq_getElem?_getD, hlt]
  exact hx _ hm
theorem rollFind_len (of : Int) (l : List S38) (a : Int) (o : List Int) (no : Int) (hx : ∀ x ∈ l, SmM x) : (rollFind of l a o no).2.2.2.1.length ≤ 17592186043904 := by
  have hr := idxNo_range l no 0 (by omega)
  unfold rollFind
  split
  · simp
  · rename_i h
    split
    · exact rdM_sm l hx _ (by omega) (by omega)
    · simp
theorem specRollFind_ev (of : Int) (l : List S38) (a : Int) (o : List Int) (no : Int) (hl : l.length ≤ 100000000) (ho : o.length ≤ 140737488355328) (hx : ∀ x ∈ l, SmM x) : Ev (fun k => spec_RollFind.f k of l a o no) (rollFind of l a o no) := by
  have hr := idxNo_range l no 0 (by omega)
  have hs := rdM_sm l hx (idxNo l no 0)
  unfold spec_RollFind.f rollFind
  refine Ev.bind (l7Find_ev of l a o no (by omega)) ?_
  by_cases c : idxNo l no 0 < 0
  · simp only [c, ↓reduceIte]; exact Ev.now _
  · have hs := hs (by omega) (by omega)
    simp only [c, ↓reduceIte]
    refine Ev.bind (specRollOk_ev of l a o (by omega) ho hx) ?_
    by_cases c2 : rollOk of l a o = true
    · simp only [c2, ↓reduceIte, show 0 ≤ idxNo l no 0 from by omega, show idxNo l no 0 < (l.length : Int) from by omega, Option.bind_some, List.length_nil, Nat.zero_add, List.nil_append, show (rd_T38 l (idxNo l no 0)).f3.length < 17592186044416 from by omega]
      exact Ev.now _
    · simp only [c2, Bool.false_eq_true, ↓reduceIte]; exact Ev.now _
theorem implRollFind_ev (of : Int) (l : List S38) (a : Int) (o : List Int) (no : Int) (hl : l.length ≤ 100000000) (hx : ∀ x ∈ l, SmM x) : Ev (fun k => impl_RollFind.f k of l a o no) (rollFind of l a o no) := by
  have hr := idxNo_range l no 0 (by omega)
  have hs := rdM_sm l hx (idxNo l no 0)
  unfold impl_RollFind.f rollFind impl_relAt.f
  simp only [Option.bind_some]
  by_cases c : idxNo l no 0 < 0
  · simp only [c, ↓reduceIte]; exact Ev.now _
  · have hs := hs (by omega) (by omega)
    simp only [c, ↓reduceIte]
    refine Ev.bind (implRollOk_ev of l a o hl hx) ?_
    by_cases c2 : rollOk of l a o = true
    · simp only [c2, ↓reduceIte, show 0 ≤ idxNo l no 0 from by omega, show idxNo l no 0 < (l.length : Int) from by omega, impl_copyRel.f, impl_copyInts.f, Option.bind_some, List.length_nil, Nat.zero_add, List.nil_append, show (rd_T38 l (idxNo l no 0)).f3.length < 17592186044416 from by omega]
      exact Ev.now _
    · simp only [c2, Bool.false_eq_true, ↓reduceIte]; exact Ev.now _
theorem eqRel_ev (a b : Int) (c : ByteArray) (d : List Int) (e : Int) (hd : d.length ≤ 140737488355328) : Ev (fun k => laws_eqRel.f k a b c d e a b c d e) true := by
  unfold laws_eqRel.f
  simp only [↓reduceIte]
  refine Ev.bind (eqIntS_ev d hd) ?_
  simp only [↓reduceIte]
  exact Ev.now _
theorem markRel_ev (a b : Int) (c : ByteArray) (d : List Int) (e : Int) (hd : d.length ≤ 140737488355328) : Ev (fun k => laws_markRel.f k a b c d e 1) (1 + (d.length : Int), marksI d.length 1) := by
  unfold laws_markRel.f
  exact Ev.bind (markI_ev d 1 hd (by omega) (by omega)) (Ev.now _)
theorem heldRel_ev (a b : Int) (c : ByteArray) (n : Nat) (e : Int) (hd : n ≤ 140737488355328) : Ev (fun k => laws_heldRel.f k a b c (marksI n 1) e 1) (1 + (n : Int)) := by
  unfold laws_heldRel.f
  refine Ev.bind (heldI_ev n 1 hd (by omega) (by omega)) ?_
  have c2 : ¬ ((1 : Int) + (n : Int) < 0) := by omega
  simp only [c2, ↓reduceIte]
  exact Ev.now _

theorem FnExactRollFind : laws_FnExactRollFind.Pure := by
  intro of l a o no _ hm hz hq _ hm2 hz2 _ _
  have hs : ∀ x ∈ l, SmL x := fun x hx => by
    have h := hq x hx
    unfold Q53 at h
    obtain ⟨_, _, h1, ⟨_, h2, _⟩, _⟩ := h
    exact ⟨by omega, by omega⟩
  have hs2 : ∀ x ∈ l.map toL, SmM x := fun x hx => by
    obtain ⟨y, hy, rfl⟩ := List.mem_map.1 hx
    exact (hs y hy).2
  obtain ⟨r, h1, h2⟩ := szRoll_ev2 of l a o (by omega) hs (by omega)
  apply Ev.rounds
  unfold laws_FnExactRollFind.f
  refine Ev.bind h1 ?_
  by_cases h : r < 0
  · simp only [h, ↓reduceIte]; exact Ev.now _
  have h2 := h2 (by omega)
  have hr := sumR_ge l
  have hmk := marksOf_toL l
  have hT := toRoll_ev of l a o (by omega) hs (by omega)
  have hS := specRollFind_ev of (l.map toL) a o no (by simp; omega) (by omega) hs2
  have hI := implRollFind_ev of (l.map toL) a o no (by simp; omega) hs2
  have hE := eqRoll_ev of (l.map toL) a o (by simp; omega) hs2 (by omega)
  have hM := markRoll_ev of (l.map toL) a o (by omega)
  have hn := rollFind_len of (l.map toL) a o no hs2
  generalize hg : rollFind of (l.map toL) a o no = g at hS hI hn
  obtain ⟨g0, g1, g2, g3, g4, g5⟩ := g
  simp only at hn
  have hG := eqRel_ev g0 g1 g2 g3 g4 (by omega)
  have hK := markRel_ev g0 g1 g2 g3 g4 (by omega)
  have hH := heldRel_ev g0 g1 g2 g3.length g4 (by omega)
  simp only [h, ↓reduceIte]
  refine Ev.bind hT ?_
  refine Ev.bind hS ?_
  refine Ev.bind hT ?_
  refine Ev.bind hI ?_
  refine Ev.bind hG ?_
  simp only [↓reduceIte, bne_self_eq_false]
  refine Ev.step (fun k => by simp only [laws_FnExactRollFind.j0, Bool.false_eq_true, ↓reduceIte]; rfl) ?_
  refine Ev.bind hT ?_
  refine Ev.bind hE ?_
  simp only [↓reduceIte]
  refine Ev.bind hM ?_
  have c : ¬ (1 + marksOf (l.map toL) + (o.length : Int) < 0) := by omega
  simp only [c, ↓reduceIte]
  refine Ev.bind hG ?_
  simp only [↓reduceIte, bne_self_eq_false]
  refine Ev.step (fun k => by simp only [laws_FnExactRollFind.j1, Bool.false_eq_true, ↓reduceIte]; rfl) ?_
  refine Ev.bind hK ?_
  refine Ev.bind hH ?_
  have c2 : ¬ ((1 : Int) + (g3.length : Int) < 0) := by omega
  simp only [c2, ↓reduceIte]
  refine Ev.bind hT ?_
  refine Ev.bind hI ?_
  refine Ev.bind hG ?_
  simp only [↓reduceIte, bne_self_eq_false]
  refine Ev.step (fun k => by simp only [laws_FnExactRollFind.j2, Bool.false_eq_true, ↓reduceIte]; rfl) ?_
  refine Ev.bind hH ?_
  simp only [c2, ↓reduceIte]
  exact Ev.now _

end Go.Proofs.Ytppfnnpfamkclaa.Pure
