/- HardOk of the program and of the reference give the same word for every hard state, and the program leaves it as it was; no condition. -/
import Derived.Test.YtpdhfphglahkbaaQFnExactHardOkx8
namespace Go.Proofs.Ytpdhfphglahkbaa.Pure
open Go.RowKit Go.Proofs.Ytpdhfphglahkbaa.QFnExactHardOk Go.Proofs.YtpdhfphglahkbaaW.PrintWords Go.Proofs.YtpdhfphglahkbaaW.PrintLast
set_option linter.unusedVariables false
set_option linter.unusedSimpArgs false
theorem w64 {x : Int} (h0 : -9223372036854775808 ≤ x) (h1 : x ≤ 9223372036854775807) : wrap64 x = x := by
  unfold wrap64; omega
def By (l : List Int) : Prop := ∀ x ∈ l, 0 ≤ x ∧ x ≤ 255
theorem by_wf {l : List Int} (h : ∀ x ∈ l, (Lit.int .u8 x).wf = true) : By l := fun x hx => by
  have := h x hx
  simpa [Lit.wf, IntKind.min, IntKind.max, IntKind.bits, IntKind.signed] using this
theorem i64_wf {x : Int} (h : (Lit.int .i64 x).wf = true) : -9223372036854775808 ≤ x ∧ x ≤ 9223372036854775807 := by
  simpa [Lit.wf, IntKind.min, IntKind.max, IntKind.bits, IntKind.signed] using h
theorem rd_nat (l : List Int) (i : Nat) : rd l (i : Int) = l.getD i 0 := by simp [rd]
theorem By.at_ {l : List Int} (h : By l) (i : Int) : 0 ≤ rd l i ∧ rd l i ≤ 255 := by
  unfold rd
  rw [List.getD_eq_getElem?_getD]
  rcases Nat.lt_or_ge i.toNat l.length with hi | hi
  · rw [List.getElem?_eq_getElem hi]; exact h _ (List.getElem_mem hi)
  · rw [List.getElem?_eq_none hi]; simp
theorem wraps_i64 (n : Int) (h₀ : 0 ≤ n) (h₁ : n < 2 ^ 63) : IntKind.i64.wrap n = n := by rw [IntKind.wrap_i64]; omega
theorem and_mask (i : Nat) (hi : i ≤ 63) {x : Int} (h₀ : 0 ≤ x) (h₁ : x ≤ 9223372036854775807) : Go.bits .and .i64 x (2 ^ i - 1) = x % 2 ^ i :=
  bits_mask .i64 63 (by decide) wraps_i64 i hi x h₀ (by omega)
theorem or_join (i : Nat) {x y : Int} (hx₀ : 0 ≤ x) (hx : x % 2 ^ i = 0) (hx₁ : x ≤ 9223372036854775807) (hy₀ : 0 ≤ y) (hy : y < 2 ^ i) (hy₁ : y ≤ 9223372036854775807) : Go.bits .or .i64 x y = x + y :=
  bits_join .i64 63 (by decide) wraps_i64 i x y hx₀ hx (by omega) hy₀ hy (by omega)

def inr (a b c : Int) : Bool := decide (b ≤ a ∧ a ≤ c)
theorem ba_nil : (⟨#[]⟩ : ByteArray).toList = [] := by rw [ByteArray.toList, ByteArray.toList.loop]; rfl
theorem if_eq0 (a c : Int) (x : Bool) : (if a = c then some x else some false) = some (a == c && x) := by
  by_cases h : a = c
  · subst h; simp
  · have b : (a == c) = false := by simpa using h
    simp [h, b]
theorem if_tt (b x : Bool) : (if b = true then some x else some false) = some (b && x) := by cases b <;> rfl

def cmdOk (kind rel node size : Int) (dig : ByteArray) : Bool :=
  if kind = 1 then (rel == 0 && (node == 0 && (size == 0 && (dig.toList == ([] : List UInt8)))))
  else if kind = 2 then (inr rel 1 1000 && (inr size 0 1000 && (decide ((dig.size : Int) = 32) && (node == 0))))
  else if kind = 3 then (inr rel 1 1000 && (inr node 0 4 && (size == 0 && (dig.toList == ([] : List UInt8)))))
  else if kind = 4 ∨ kind = 5 then (inr rel 1 1000 && (node == 0 && (size == 0 && (dig.toList == ([] : List UInt8)))))
  else false

theorem rdE_mid (P : List S115) (x : S115) (t : List S115) : rd_T115 (P ++ x :: t) (P.length : Int) = x := by
  unfold rd_T115; simp
theorem rdE_last (P : List S115) (y : S115) (t : List S115) : rd_T115 (P ++ [y] ++ t) (((P ++ [y]).length : Int) - 1) = y := by
  unfold rd_T115
  have : (((P ++ [y]).length : Int) - 1).toNat = P.length := by simp
  rw [this]; simp
def cmdOkE (x : S115) : Bool := cmdOk x.f1.f0 x.f1.f1 x.f1.f2 x.f1.f3 x.f1.f4
def logOk : Int → Int → List S115 → Bool
  | _, _, [] => true
  | lo, h, x :: t => (decide (lo ≤ x.f0 ∧ x.f0 ≤ h) && cmdOkE x) && logOk x.f0 h t
def hardOk (term vote : Int) (l : List S115) : Bool := inr term 0 1000000000 && (inr vote 0 5 && (decide ((l.length : Int) ≤ 80) && logOk 1 term l))

theorem rdL_mid (P : List S145) (x : S145) (t : List S145) : rd_T145 (P ++ x :: t) (P.length : Int) = x := by
  unfold rd_T145; simp
def toC (x : S53) : S56 := ⟨x.f0, x.f1, x.f2, x.f3, x.f4⟩
def toE (x : S145) : S115 := ⟨x.f0, toC x.f1⟩
def esize : List S115 → Int
  | [] => 0
  | x :: t => x.f1.f4.size + esize t
theorem esize_nn : ∀ l : List S115, 0 ≤ esize l
  | [] => by simp [esize]
  | x :: t => by have := esize_nn t; simp only [esize]; omega
def szE : List S145 → Int → Int
  | [], a => a
  | x :: t, a => if a - x.f1.f4.size < 0 then -1 else szE t (a - x.f1.f4.size)
theorem szE_b : ∀ (l : List S145) (a : Int), 0 ≤ a → (szE l a = -1 ∨ 0 ≤ szE l a ∧ szE l a + esize (l.map toE) = a)
  | [], a, h => by simp [szE, esize, h]
  | x :: t, a, h => by
    have ht : esize ((x :: t).map toE) = x.f1.f4.size + esize (t.map toE) := rfl
    rw [ht]
    simp only [szE]
    split
    · exact .inl rfl
    · have := szE_b t (a - x.f1.f4.size) (by omega)
      rcases this with h1 | h1
      · exact .inl h1
      · refine .inr ⟨h1.1, ?_⟩; omega
theorem szEntry_eq (x : S145) (a : Int) (h0 : 0 ≤ a) (h1 : a ≤ 140737488355328) (hx : x.f1.f4.size ≤ 140737488355328) : laws_szEntry.f x.f0 x.f1.f0 x.f1.f1 x.f1.f2 x.f1.f3 x.f1.f4 a = some (if a - x.f1.f4.size < 0 then -1 else a - x.f1.f4.size) := by
  unfold laws_szEntry.f laws_szCmd.f
  rw [w64 (x := a - x.f1.f4.size) (by omega) (by omega)]
  split
  · rfl
  · rename_i h; simp only [Option.bind_some, h, ↓reduceIte]
theorem szEntryS_l (rest : List S145) : ∀ (P : List S145) (a : Int), 0 ≤ a → a ≤ 140737488355328 → P.length + rest.length ≤ 140737488355328 → (∀ x ∈ rest, x.f1.f4.size ≤ 140737488355328) → Ev (fun k => laws_szEntryS.l0 k (P ++ rest) a (P.length : Int)) (szE rest a) := by
  induction rest with
  | nil =>
    intro P a h0 h1 hl hx
    refine Ev.step (f := fun _ => some a) (fun k => ?_) (Ev.now _)
    simp only [laws_szEntryS.l0]
    rw [if_neg (by simp)]
  | cons x t ih =>
    intro P a h0 h1 hl hx
    simp only [List.length_cons] at hl
    have hx0 := hx x (by simp)
    have e := szEntry_eq x a h0 h1 hx0
    have el : ((P ++ x :: t).length : Int) = P.length + t.length + 1 := by simp; omega
    by_cases c1 : a - x.f1.f4.size < 0
    · refine Ev.step (f := fun _ => some (-1)) (fun k => ?_) ?_
      · simp only [laws_szEntryS.l0]
        rw [if_pos (by omega), if_pos (by omega), rdL_mid, e, if_pos c1]
        rfl
      · simp only [szE, c1, ↓reduceIte]; exact Ev.now _
    · have h := ih (P ++ [x]) (a - x.f1.f4.size) (by omega) (by omega) (by simp; omega) (fun y hy => hx y (by simp [hy]))
      refine Ev.step (f := fun k => laws_szEntryS.l0 k ((P ++ [x]) ++ t) (a - x.f1.f4.size) ((P ++ [x]).length : Int)) (fun k => ?_) ?_
      · simp only [laws_szEntryS.l0]
        rw [if_pos (by omega), if_pos (by omega), rdL_mid, e, if_neg c1]
        simp only [Option.bind_some]
        rw [if_neg c1, w64 (by omega) (by omega)]
        simp
      · simp only [szE, c1, ↓reduceIte]; exact h
theorem szEntryS_ev (l : List S145) (a : Int) (h0 : 0 ≤ a) (h1 : a ≤ 140737488355328) (hl : l.length ≤ 140737488355328) (hx : ∀ x ∈ l, x.f1.f4.size ≤ 140737488355328) :
    ∃ r, Ev (fun k => laws_szEntryS.f k l a) r ∧ (0 ≤ r → r + l.length + esize (l.map toE) = a) := by
  unfold laws_szEntryS.f
  rw [w64 (x := a - l.length) (by omega) (by omega)]
  by_cases h : a - l.length < 0
  · refine ⟨-1, ?_, by omega⟩
    simp only [h, ↓reduceIte]; exact Ev.now _
  · refine ⟨szE l (a - l.length), ?_, ?_⟩
    · simp only [h, ↓reduceIte]
      exact szEntryS_l l [] (a - l.length) (by omega) (by omega) (by simp; omega) hx
    · have := szE_b l (a - l.length) (by omega)
      omega
theorem set_fillE (l : List S145) (i d : Nat) (hi : i + (d + 1) = l.length) : ((l.take i).map toE ++ List.replicate (d + 1) z115).set i (toE (rd_T145 l (i : Int))) = (l.take (i + 1)).map toE ++ List.replicate d z115 := by
  have hlt : i < l.length := by omega
  have h1 : ((l.take i).map toE).length = i := by rw [List.length_map, List.length_take]; omega
  rw [List.set_append_right _ _ (by omega), h1, Nat.sub_self, List.replicate_succ, List.set_cons_zero, List.take_succ_eq_append_getElem hlt, List.map_append, List.append_assoc]
  unfold rd_T145
  simp [List.getD_eq_getElem?_getD, hlt]
theorem toEntryS_l (l : List S145) (hl : l.length ≤ 5026338869833) (d : Nat) : ∀ i : Nat, i + d = l.length → Ev (fun k => laws_toEntryS.l0 k l ((l.take i).map toE ++ List.replicate d z115) (i : Int)) (l.map toE) := by
  induction d with
  | zero =>
    intro i hi
    refine Ev.step (f := fun _ => some (l.map toE)) (fun k => ?_) (Ev.now _)
    simp only [laws_toEntryS.l0]
    rw [if_neg (by omega)]
    have : l.take i = l := List.take_of_length_le (by omega)
    simp [this]
  | succ d ih =>
    intro i hi
    refine Ev.step (f := fun k => laws_toEntryS.l0 k l ((l.take (i + 1)).map toE ++ List.replicate d z115) ((i + 1 : Nat) : Int)) (fun k => ?_) (ih (i + 1) (by omega))
    simp only [laws_toEntryS.l0, laws_toEntry.f, laws_toCmd.f, Option.bind_some]
    rw [if_pos (by omega), if_pos (by omega), if_pos (by simp; omega), w64 (by omega) (by omega), Int.toNat_natCast]
    rw [show (⟨(rd_T145 l (i : Int)).f0, (⟨(rd_T145 l (i : Int)).f1.f0, (rd_T145 l (i : Int)).f1.f1, (rd_T145 l (i : Int)).f1.f2, (rd_T145 l (i : Int)).f1.f3, (rd_T145 l (i : Int)).f1.f4⟩ : S56)⟩ : S115) = toE (rd_T145 l (i : Int)) from rfl, set_fillE l i d hi]
    rfl
theorem toEntryS_ev (l : List S145) (hl : l.length ≤ 5026338869833) : Ev (fun k => laws_toEntryS.f k l) (l.map toE) := by
  refine Ev.congr (fun k => ?_) (toEntryS_l l hl l.length 0 (by omega))
  unfold laws_toEntryS.f
  rw [if_pos (by omega), if_pos (by simp; omega)]
  simp
theorem eqEntryS_l (l : List S115) (hl : l.length ≤ 140737488355328) (d : Nat) : ∀ i : Nat, i + d = l.length → Ev (fun k => laws_eqEntryS.l0 k l l (i : Int)) true := by
  induction d with
  | zero =>
    intro i hi
    refine Ev.step (f := fun _ => some true) (fun k => ?_) (Ev.now _)
    simp only [laws_eqEntryS.l0]
    rw [if_neg (by omega)]
  | succ d ih =>
    intro i hi
    refine Ev.step (f := fun k => laws_eqEntryS.l0 k l l ((i + 1 : Nat) : Int)) (fun k => ?_) (ih (i + 1) (by omega))
    simp only [laws_eqEntryS.l0, laws_eqEntry.f, laws_eqCmd.f, ↓reduceIte, Option.bind_some]
    rw [if_pos (by omega), if_pos (by omega), if_pos (by omega), w64 (by omega) (by omega)]
    rfl
theorem eqEntryS_ev (l : List S115) (hl : l.length ≤ 140737488355328) : Ev (fun k => laws_eqEntryS.f k l l) true := by
  refine Ev.congr (fun k => ?_) (eqEntryS_l l hl l.length 0 (by omega))
  unfold laws_eqEntryS.f
  rw [if_pos rfl]; rfl

theorem szHard_ev (t v : Int) (l : List S145) (h : ∀ x ∈ l, Q145 x) (hl : l.length * 56 ≤ 140737488351232) (a : Int) (h0 : 0 ≤ a) (h1 : a ≤ 140737488355328) :
    ∃ r, Ev (fun k => laws_szHard.f k t v l a) r ∧ (0 ≤ r → r + l.length + esize (l.map toE) = a) := by
  obtain ⟨r, hr, hb⟩ := szEntryS_ev l a h0 h1 (by omega) (fun x hx => by have := h x hx; unfold Q145 Q53 at this; omega)
  by_cases c : r < 0
  · refine ⟨-1, ?_, by omega⟩
    unfold laws_szHard.f
    refine Ev.bind hr ?_
    simp only [c, ↓reduceIte]; exact Ev.now _
  · refine ⟨r, ?_, hb⟩
    unfold laws_szHard.f
    refine Ev.bind hr ?_
    simp only [c, ↓reduceIte]; exact Ev.now _
theorem toHard_ev (t v : Int) (l : List S145) (hl : l.length ≤ 5026338869833) : Ev (fun k => laws_toHard.f k t v l) (t, v, l.map toE) := by
  unfold laws_toHard.f
  refine Ev.bind (toEntryS_ev l hl) ?_
  exact Ev.now _
theorem eqHard_ev (t v : Int) (l : List S115) (hl : l.length ≤ 140737488355328) : Ev (fun k => laws_eqHard.f k t v l t v l) true := by
  unfold laws_eqHard.f
  simp only [↓reduceIte]
  refine Ev.bind (eqEntryS_ev l hl) ?_
  simp only [↓reduceIte]; exact Ev.now _

theorem l1In_eq (a b c : Int) : spec_l1In.f a b c = some (inr a b c) := by
  unfold spec_l1In.f inr
  by_cases h : a ≥ b
  · rw [if_pos h]; congr 1; by_cases h2 : a ≤ c <;> simp [h, h2]
  · rw [if_neg h]; congr 1; simp; omega

theorem specCmdOk_ev (kind rel node size : Int) (dig : ByteArray) : Ev (fun k => spec_CmdOk.f k kind rel node size dig) (cmdOk kind rel node size dig) := by
  unfold spec_CmdOk.f
  simp only [l1In_eq, Option.bind_some]
  by_cases h1 : kind = 1
  · simp only [cmdOk, h1, ↓reduceIte]; exact Ev.now _
  · simp only [h1, ↓reduceIte]
    by_cases h2 : 2 ≤ kind ∧ kind ≤ 5
    · have e : inr kind 2 5 = true := decide_eq_true h2
      simp only [e, ↓reduceIte]
      refine Ev.step (f := fun _ => some (cmdOk kind rel node size dig)) (fun k => ?_) (Ev.now _)
      simp only [spec_CmdOk.j0, l1In_eq, Option.bind_some, ba_nil, cmdOk]
      have h3 : kind = 2 ∨ kind = 3 ∨ kind = 4 ∨ kind = 5 := by omega
      cases inr rel 1 1000 <;> rcases h3 with rfl | rfl | rfl | rfl <;> cases inr size 0 1000 <;> cases inr node 0 4 <;> by_cases hd : (dig.size : Int) = 32 <;> simp [hd]
    · have e : inr kind 2 5 = false := decide_eq_false h2
      simp only [e, Bool.false_eq_true, ↓reduceIte]
      refine Ev.step (f := fun _ => some false) (fun k => ?_) ?_
      · simp only [spec_CmdOk.j0, ↓reduceIte]
      · have : cmdOk kind rel node size dig = false := by
          unfold cmdOk
          rw [if_neg h1, if_neg (by omega), if_neg (by omega), if_neg (by omega)]
        rw [this]; exact Ev.now _

theorem l1Whole_eq (a : Int) : spec_l1Whole.f a = some (inr a 0 1000000000) := by unfold spec_l1Whole.f; rw [l1In_eq]; rfl
theorem l6Entry_ev (x : S115) : Ev (fun k => spec_l6Entry.f k x.f0 x.f1.f0 x.f1.f1 x.f1.f2 x.f1.f3 x.f1.f4) (inr x.f0 1 1000000000 && cmdOkE x) := by
  unfold spec_l6Entry.f
  simp only [l1In_eq, Option.bind_some]
  cases inr x.f0 1 1000000000
  · simp only [Bool.false_eq_true, ↓reduceIte, Bool.false_and]; exact Ev.now _
  · simp only [↓reduceIte, Bool.true_and]
    refine Ev.bind (specCmdOk_ev _ _ _ _ _) ?_
    exact Ev.now _
theorem specHardOk_l (term vote : Int) (ht : term ≤ 1000000000) (rest : List S115) : ∀ (P : List S115) (lo : Int), 1 ≤ lo → (P = [] ∧ lo = 1 ∨ ∃ P' y, P = P' ++ [y] ∧ lo = y.f0) → P.length + rest.length ≤ 140737488355328 → Ev (fun k => spec_HardOk.l0 k (P.length : Int) term vote (P ++ rest)) (logOk lo term rest) := by
  induction rest with
  | nil =>
    intro P lo h0 hP hl
    refine Ev.step (f := fun _ => some true) (fun k => ?_) (Ev.now _)
    simp only [spec_HardOk.l0]
    rw [if_neg (by simp)]
  | cons x t ih =>
    intro P lo h0 hP hl
    simp only [List.length_cons] at hl
    have el : ((P ++ x :: t).length : Int) = P.length + t.length + 1 := by simp; omega
    have ea : P ++ x :: t = P ++ [x] ++ t := by simp
    have hw1 : wrap64 ((P.length : Int) + 1) = ((P ++ [x]).length : Int) := by rw [w64 (by omega) (by omega)]; simp
    refine Ev.step (fun k => by simp only [spec_HardOk.l0]; rw [if_pos (by omega), if_pos (by omega), rdE_mid]) ?_
    refine Ev.bind (l6Entry_ev x) ?_
    cases hb : (inr x.f0 1 1000000000 && cmdOkE x)
    · simp only [Bool.false_eq_true, ↓reduceIte]
      have : logOk lo term (x :: t) = false := by
        rw [Bool.and_eq_false_iff] at hb
        rcases hb with hb | hb
        · have hb := of_decide_eq_false hb
          have : ¬ (lo ≤ x.f0 ∧ x.f0 ≤ term) := by omega
          simp [logOk, this]
        · simp [logOk, hb]
      rw [this]; exact Ev.now _
    · rw [Bool.and_eq_true] at hb
      have hb1 := of_decide_eq_true hb.1
      simp only [↓reduceIte]
      by_cases c1 : x.f0 > term
      · have : logOk lo term (x :: t) = false := by
          have : ¬ (lo ≤ x.f0 ∧ x.f0 ≤ term) := by omega
          simp [logOk, this]
        simp only [c1, ↓reduceIte]
        rw [this]; exact Ev.now _
      · simp only [c1, ↓reduceIte]
        have hi := ih (P ++ [x]) x.f0 (by omega) (.inr ⟨P, x, rfl, rfl⟩) (by simp; omega)
        have hlog : lo ≤ x.f0 → logOk lo term (x :: t) = logOk x.f0 term t := by
          intro h
          have : lo ≤ x.f0 ∧ x.f0 ≤ term := by omega
          simp [logOk, this, hb.2]
        rcases hP with ⟨rfl, rfl⟩ | ⟨P', y, rfl, rfl⟩
        · rw [hlog (by omega)]
          refine Ev.congr (fun k => ?_) hi
          rw [if_neg (by simp), hw1, ea]
        · have ep : ((P' ++ [y]).length : Int) = P'.length + 1 := by simp
          by_cases c2 : x.f0 < y.f0
          · have : logOk y.f0 term (x :: t) = false := by
              have : ¬ (y.f0 ≤ x.f0 ∧ x.f0 ≤ term) := by omega
              simp [logOk, this]
            rw [this]
            refine Ev.congr (fun k => ?_) (Ev.now false)
            rw [if_pos (by omega), w64 (x := ((P' ++ [y]).length : Int) - 1) (by omega) (by omega), if_pos (by omega), if_pos (by omega), show P' ++ [y] ++ x :: t = P' ++ [y] ++ (x :: t) from rfl, rdE_last, if_pos c2]
          · rw [hlog (by omega)]
            refine Ev.congr (fun k => ?_) hi
            rw [if_pos (by omega), w64 (x := ((P' ++ [y]).length : Int) - 1) (by omega) (by omega), if_pos (by omega), if_pos (by omega), show P' ++ [y] ++ x :: t = P' ++ [y] ++ (x :: t) from rfl, rdE_last, if_neg c2, hw1, ea]
theorem specHardOk_ev (term vote : Int) (l : List S115) (hl : l.length ≤ 140737488355328) : Ev (fun k => spec_HardOk.f k term vote l) (hardOk term vote l) := by
  unfold spec_HardOk.f hardOk
  simp only [l1Whole_eq, l1In_eq, Option.bind_some]
  have hj : Ev (fun k => spec_HardOk.j0 k true term vote l) false := by
    refine Ev.step (f := fun _ => some false) (fun k => ?_) (Ev.now _)
    simp only [spec_HardOk.j0, ↓reduceIte]
  cases h : inr term 0 1000000000
  · simp only [Bool.false_eq_true, ↓reduceIte, Bool.false_and]; exact hj
  · have ht := of_decide_eq_true h
    simp only [↓reduceIte, Bool.true_and]
    cases h2 : inr vote 0 5
    · simp only [Bool.false_eq_true, ↓reduceIte, Bool.false_and]; exact hj
    · simp only [↓reduceIte, Bool.true_and]
      by_cases h80 : (l.length : Int) > 80
      · simp only [h80, decide_true, show ¬ (l.length : Int) ≤ 80 by omega, decide_false, Bool.false_and]; exact hj
      · simp only [h80, decide_false, show (l.length : Int) ≤ 80 by omega, decide_true, Bool.true_and]
        refine Ev.step (f := fun k => spec_HardOk.l0 k 0 term vote l) (fun k => ?_) ?_
        · simp only [spec_HardOk.j0]; rfl
        · exact specHardOk_l term vote ht.2 l [] 1 (by omega) (.inl ⟨rfl, rfl⟩) (by simpa using hl)

theorem within_eq (a b c : Int) : impl_within.f a b c = some (inr a b c) := by
  unfold impl_within.f inr
  by_cases h : a ≥ b
  · rw [if_pos h]; congr 1; by_cases h2 : a ≤ c <;> simp [h, h2]
  · rw [if_neg h]; congr 1; simp; omega

theorem isRelease_eq (a : Int) : impl_isRelease.f a = some (inr a 1 1000) := by unfold impl_isRelease.f; rw [within_eq]; rfl
theorem isSize_eq (a : Int) : impl_isSize.f a = some (inr a 0 1000) := by unfold impl_isSize.f; rw [within_eq]; rfl
theorem isNode_eq (a : Int) : impl_isNode.f a = some (inr a 0 4) := by unfold impl_isNode.f; rw [within_eq]; rfl
theorem implCmdOk_j2 (k : Nat) (x : Bool) (a b c d : Int) (s : ByteArray) : impl_CmdOk.j2 (k + 1) x a b c d s = some (x && (a == 0 && (b == 0 && (c == 0 && (d == 0 && (s.toList == ([] : List UInt8))))))) := by
  simp only [impl_CmdOk.j2]; cases x <;> simp
theorem implCmdOk_ev (kind rel node size : Int) (dig : ByteArray) : Ev (fun k => impl_CmdOk.f k kind rel node size dig) (cmdOk kind rel node size dig) := by
  refine ⟨3, fun k hk => ?_⟩
  obtain ⟨k, rfl⟩ : ∃ m, k = m + 3 := ⟨k - 3, by omega⟩
  unfold impl_CmdOk.f
  simp only [isRelease_eq, isSize_eq, isNode_eq, Option.bind_some, cmdOk]
  by_cases h1 : kind = 1
  · simp only [h1, ↓reduceIte]; rw [implCmdOk_j2]; simp
  · by_cases h2 : kind = 2
    · simp only [h2, ↓reduceIte]
      cases inr rel 1 1000 <;> cases inr size 0 1000 <;> by_cases hd : (dig.size : Int) = 32 <;> simp [impl_CmdOk.j0, implCmdOk_j2, ba_nil, hd]
    · by_cases h3 : kind = 3
      · simp only [h3, ↓reduceIte]
        cases inr rel 1 1000 <;> cases inr node 0 4 <;> simp [impl_CmdOk.j1, implCmdOk_j2]
      · by_cases h4 : kind = 4
        · simp only [h4, ↓reduceIte]
          cases inr rel 1 1000 <;> simp [impl_CmdOk.j1, implCmdOk_j2]
        · by_cases h5 : kind = 5
          · simp only [h5, ↓reduceIte]
            cases inr rel 1 1000 <;> simp [impl_CmdOk.j1, implCmdOk_j2]
          · simp [h1, h2, h3, h4, h5, impl_CmdOk.j1]

theorem isWhole_eq (a : Int) : impl_isWhole.f a = some (inr a 0 1000000000) := by unfold impl_isWhole.f; rw [within_eq]; rfl
def lastT (P : List S115) : Int := match P.getLast? with | none => 0 | some y => y.f0
theorem lastTerm_eq (P : List S115) (hl : P.length ≤ 140737488355328) : impl_lastTerm.f P = some (lastT P) := by
  unfold impl_lastTerm.f
  rcases List.eq_nil_or_concat P with rfl | ⟨P', y, rfl⟩
  · rfl
  · rw [List.concat_eq_append] at hl ⊢
    have ep : ((P' ++ [y]).length : Int) = P'.length + 1 := by simp
    rw [if_neg (by omega), w64 (x := ((P' ++ [y]).length : Int) - 1) (by omega) (by omega), if_pos (by omega), if_pos (by omega)]
    have := rdE_last P' y []
    rw [List.append_nil] at this
    rw [this]
    simp [lastT]
theorem implHardOk_l (term vote : Int) (F : List S115) (hF : F.length ≤ 140737488355328) (rest : List S115) : ∀ (P : List S115) (lo : Int), F = P ++ rest → mx 1 (lastT P) = lo → Ev (fun k => impl_HardOk.l0 k F (F.length : Int) (P.length : Int) term vote F) (logOk lo term rest && (inr term 0 1000000000 && (inr vote 0 5 && decide ((F.length : Int) ≤ 80)))) := by
  induction rest with
  | nil =>
    intro P lo hPF hlo
    refine Ev.step (f := fun _ => some (inr term 0 1000000000 && (inr vote 0 5 && decide ((F.length : Int) ≤ 80)))) (fun k => ?_) ?_
    · simp only [impl_HardOk.l0]
      rw [if_neg (by rw [hPF]; simp)]
      simp only [isWhole_eq, within_eq, Option.bind_some]
      cases inr term 0 1000000000 <;> cases inr vote 0 5 <;> rfl
    · simp only [logOk, Bool.true_and]; exact Ev.now _
  | cons x t ih =>
    intro P lo hPF hlo
    have el : (F.length : Int) = P.length + t.length + 1 := by rw [hPF]; simp; omega
    have hr : rd_T115 F (P.length : Int) = x := by rw [hPF]; exact rdE_mid P x t
    have hw1 : wrap64 ((P.length : Int) + 1) = ((P ++ [x]).length : Int) := by rw [w64 (by omega) (by omega)]; simp
    have htk : F.take (P.length : Int).toNat = P := by rw [hPF]; simp
    refine Ev.step (fun k => by simp only [impl_HardOk.l0]; rw [if_pos (by omega), if_pos (by omega), if_pos (by omega), hr]) ?_
    refine Ev.bind (implCmdOk_ev _ _ _ _ _) ?_
    change Ev (fun k => if cmdOkE x = true then _ else _) _
    cases hc : cmdOkE x
    · simp only [Bool.false_eq_true, ↓reduceIte]
      have : logOk lo term (x :: t) = false := by simp [logOk, hc]
      rw [this]; exact Ev.now _
    · simp only [↓reduceIte]
      rw [htk, lastTerm_eq P (by omega)]
      simp only [show (P.length : Int) ≤ (F.length : Int) by omega, ↓reduceIte, Option.bind_some, within_eq, hlo]
      by_cases c : lo ≤ x.f0 ∧ x.f0 ≤ term
      · have e : inr x.f0 lo term = true := decide_eq_true c
        have hlog : logOk lo term (x :: t) = logOk x.f0 term t := by simp [logOk, c, hc]
        rw [e, hlog, hw1]
        simp only [↓reduceIte]
        have hlo1 : 1 ≤ lo := by rw [← hlo]; unfold mx; split <;> omega
        exact ih (P ++ [x]) x.f0 (by rw [hPF]; simp) (by simp only [lastT, List.getLast?_append, List.getLast?_singleton, Option.some_or]; unfold mx; split <;> omega)
      · have e : inr x.f0 lo term = false := decide_eq_false c
        have hlog : logOk lo term (x :: t) = false := by simp only [logOk, c, decide_false, Bool.false_and]
        rw [e, hlog]
        simp only [Bool.false_eq_true, ↓reduceIte]; exact Ev.now _
theorem implHardOk_ev (term vote : Int) (l : List S115) (hl : l.length ≤ 140737488355328) : Ev (fun k => impl_HardOk.f k term vote l) (hardOk term vote l) := by
  have h := implHardOk_l term vote l hl l [] 1 rfl rfl
  have e : hardOk term vote l = (logOk 1 term l && (inr term 0 1000000000 && (inr vote 0 5 && decide ((l.length : Int) ≤ 80)))) := by
    unfold hardOk
    cases logOk 1 term l <;> cases inr term 0 1000000000 <;> cases inr vote 0 5 <;> simp
  rw [e]; exact h

theorem FnExactHardOk : laws_FnExactHardOk.Pure := by
  intro tm vt l hr hm hm2 hz hq
  have hl : l.length ≤ 5026338869833 := by omega
  obtain ⟨r, h1, h2⟩ := szHard_ev tm vt l hq hz 1048576 (by omega) (by omega)
  apply Ev.rounds
  unfold laws_FnExactHardOk.f
  refine Ev.bind h1 ?_
  by_cases h : r < 0
  · simp only [h, ↓reduceIte]; exact Ev.now _
  · have hml : (l.map toE).length ≤ 140737488355328 := by simp; omega
    simp only [h, ↓reduceIte]
    refine Ev.bind (toHard_ev tm vt l hl) ?_
    refine Ev.bind (specHardOk_ev tm vt (l.map toE) hml) ?_
    refine Ev.bind (toHard_ev tm vt l hl) ?_
    refine Ev.bind (implHardOk_ev tm vt (l.map toE) hml) ?_
    simp only [bne_self_eq_false, Bool.false_eq_true, ↓reduceIte]
    refine Ev.bind (toHard_ev tm vt l hl) ?_
    refine Ev.bind (eqHard_ev tm vt (l.map toE) hml) ?_
    simp only [↓reduceIte]
    exact Ev.now _

end Go.Proofs.Ytpdhfphglahkbaa.Pure
