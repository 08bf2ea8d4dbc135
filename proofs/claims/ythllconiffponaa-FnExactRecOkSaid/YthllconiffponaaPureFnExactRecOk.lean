/- RecOk of the program and of the reference give the same word for every record; no condition. -/
import Derived.Test.YthllconiffponaaQFnExactRecOkx7
namespace Go.Proofs.Ythllconiffponaa.Pure
open Go.RowKit Go.Proofs.Ythllconiffponaa.QFnExactRecOk Go.Proofs.YthllconiffponaaW.PrintWords Go.Proofs.YthllconiffponaaW.PrintLast
set_option linter.unusedVariables false
set_option linter.unusedSimpArgs false
theorem w64 {x : Int} (h0 : -9223372036854775808 ≤ x) (h1 : x ≤ 9223372036854775807) : wrap64 x = x := by
  unfold wrap64; omega
def By (l : List Int) : Prop := ∀ x ∈ l, 0 ≤ x ∧ x ≤ 255
theorem by_wf {l : List Int} (h : ∀ x ∈ l, (Lit.int .u8 x).wf = true) : By l := fun x hx => by
  have := h x hx
  simpa [Lit.wf, IntKind.min, IntKind.max, IntKind.bits, IntKind.signed] using this
theorem i64_wf {x : Int} (h : (Lit.int .i64 x).wf = true) : -9223372036854775808 ≤ x ∧ x ≤ 9223372036854775807 := by
  simpa [Lit.wf, IntKind.min, IntKind.max, IntKind.bits, IntKind.signed] using h
theorem rd_nat (l : List Int) (i : Nat) : rd l (i : Int) = l.getD i 0 := by simp [rd]
theorem By.at_ {l : List Int} (h : By l) (i : Int) : 0 ≤ rd l i ∧ rd l i ≤ 255 := by
  unfold rd
  rw [List.getD_eq_getElem?_getD]
  rcases Nat.lt_or_ge i.toNat l.length with hi | hi
  · rw [List.getElem?_eq_getElem hi]; exact h _ (List.getElem_mem hi)
  · rw [List.getElem?_eq_none hi]; simp
theorem wraps_i64 (n : Int) (h₀ : 0 ≤ n) (h₁ : n < 2 ^ 63) : IntKind.i64.wrap n = n := by rw [IntKind.wrap_i64]; omega
theorem and_mask (i : Nat) (hi : i ≤ 63) {x : Int} (h₀ : 0 ≤ x) (h₁ : x ≤ 9223372036854775807) : Go.bits .and .i64 x (2 ^ i - 1) = x % 2 ^ i :=
  bits_mask .i64 63 (by decide) wraps_i64 i hi x h₀ (by omega)
theorem or_join (i : Nat) {x y : Int} (hx₀ : 0 ≤ x) (hx : x % 2 ^ i = 0) (hx₁ : x ≤ 9223372036854775807) (hy₀ : 0 ≤ y) (hy : y < 2 ^ i) (hy₁ : y ≤ 9223372036854775807) : Go.bits .or .i64 x y = x + y :=
  bits_join .i64 63 (by decide) wraps_i64 i x y hx₀ hx (by omega) hy₀ hy (by omega)

def inr (a b c : Int) : Bool := decide (b ≤ a ∧ a ≤ c)
theorem ba_nil : (⟨#[]⟩ : ByteArray).toList = [] := by rw [ByteArray.toList, ByteArray.toList.loop]; rfl
theorem if_eq0 (a c : Int) (x : Bool) : (if a = c then some x else some false) = some (a == c && x) := by
  by_cases h : a = c
  · subst h; simp
  · have b : (a == c) = false := by simpa using h
    simp [h, b]
theorem if_tt (b x : Bool) : (if b = true then some x else some false) = some (b && x) := by cases b <;> rfl

def cmdOk (kind rel node size : Int) (dig : ByteArray) : Bool :=
  if kind = 1 then (rel == 0 && (node == 0 && (size == 0 && (dig.toList == ([] : List UInt8)))))
  else if kind = 2 then (inr rel 1 1000 && (inr size 0 1000 && (decide ((dig.size : Int) = 32) && (node == 0))))
  else if kind = 3 then (inr rel 1 1000 && (inr node 0 4 && (size == 0 && (dig.toList == ([] : List UInt8)))))
  else if kind = 4 ∨ kind = 5 then (inr rel 1 1000 && (node == 0 && (size == 0 && (dig.toList == ([] : List UInt8)))))
  else false

def entryOk (term ek er en es : Int) (dig : ByteArray) : Bool := inr term 1 1000000000 && cmdOk ek er en es dig
def zero6 (et ek er en es : Int) (dig : ByteArray) : Bool := et == 0 && ((ek == 0 && (er == 0 && (en == 0 && (es == 0 && (dig.toList == ([] : List UInt8)))))))
def recOk (kind term vote pos et ek er en es : Int) (dig : ByteArray) : Bool :=
  if kind = 1 then (inr term 0 1000000000 && (inr vote 0 5 && (pos == 0 && zero6 et ek er en es dig)))
  else if kind = 2 then (inr pos 1 80 && (entryOk et ek er en es dig && (term == 0 && vote == 0)))
  else if kind = 3 then (inr pos 0 80 && (term == 0 && (vote == 0 && zero6 et ek er en es dig)))
  else false

theorem l1In_eq (a b c : Int) : spec_l1In.f a b c = some (inr a b c) := by
  unfold spec_l1In.f inr
  by_cases h : a ≥ b
  · rw [if_pos h]; congr 1; by_cases h2 : a ≤ c <;> simp [h, h2]
  · rw [if_neg h]; congr 1; simp; omega

theorem specCmdOk_ev (kind rel node size : Int) (dig : ByteArray) : Ev (fun k => spec_CmdOk.f k kind rel node size dig) (cmdOk kind rel node size dig) := by
  unfold spec_CmdOk.f
  simp only [l1In_eq, Option.bind_some]
  by_cases h1 : kind = 1
  · simp only [cmdOk, h1, ↓reduceIte]; exact Ev.now _
  · simp only [h1, ↓reduceIte]
    by_cases h2 : 2 ≤ kind ∧ kind ≤ 5
    · have e : inr kind 2 5 = true := decide_eq_true h2
      simp only [e, ↓reduceIte]
      refine Ev.step (f := fun _ => some (cmdOk kind rel node size dig)) (fun k => ?_) (Ev.now _)
      simp only [spec_CmdOk.j0, l1In_eq, Option.bind_some, ba_nil, cmdOk]
      have h3 : kind = 2 ∨ kind = 3 ∨ kind = 4 ∨ kind = 5 := by omega
      cases inr rel 1 1000 <;> rcases h3 with rfl | rfl | rfl | rfl <;> cases inr size 0 1000 <;> cases inr node 0 4 <;> by_cases hd : (dig.size : Int) = 32 <;> simp [hd]
    · have e : inr kind 2 5 = false := decide_eq_false h2
      simp only [e, Bool.false_eq_true, ↓reduceIte]
      refine Ev.step (f := fun _ => some false) (fun k => ?_) ?_
      · simp only [spec_CmdOk.j0, ↓reduceIte]
      · have : cmdOk kind rel node size dig = false := by
          unfold cmdOk
          rw [if_neg h1, if_neg (by omega), if_neg (by omega), if_neg (by omega)]
        rw [this]; exact Ev.now _

theorem l1Whole_eq (a : Int) : spec_l1Whole.f a = some (inr a 0 1000000000) := by unfold spec_l1Whole.f; rw [l1In_eq]; rfl
theorem l6Entry_ev (term ek er en es : Int) (dig : ByteArray) : Ev (fun k => spec_l6Entry.f k term ek er en es dig) (entryOk term ek er en es dig) := by
  unfold spec_l6Entry.f entryOk
  simp only [l1In_eq, Option.bind_some]
  cases inr term 1 1000000000
  · simp only [Bool.false_eq_true, ↓reduceIte, Bool.false_and]; exact Ev.now _
  · simp only [↓reduceIte, Bool.true_and]
    refine Ev.bind (specCmdOk_ev ek er en es dig) ?_
    exact Ev.now _
theorem specRecOk_ev (kind term vote pos et ek er en es : Int) (dig : ByteArray) : Ev (fun k => spec_RecOk.f k kind term vote pos et ek er en es dig) (recOk kind term vote pos et ek er en es dig) := by
  unfold spec_RecOk.f recOk
  simp only [l1In_eq, l1Whole_eq, Option.bind_some]
  by_cases h1 : kind = 1
  · simp only [h1, ↓reduceIte]
    cases inr term 0 1000000000 <;> cases inr vote 0 5 <;> simp only [Bool.false_eq_true, ↓reduceIte, Bool.false_and, Bool.true_and] <;> exact Ev.now _
  · by_cases h2 : kind = 2
    · simp only [h2, ↓reduceIte, show ¬ (2 : Int) = 1 by omega]
      cases inr pos 1 80
      · simp only [Bool.false_eq_true, ↓reduceIte, Bool.false_and]; exact Ev.now _
      · simp only [↓reduceIte, Bool.true_and]
        refine Ev.bind (l6Entry_ev et ek er en es dig) ?_
        cases entryOk et ek er en es dig <;> simp only [Bool.false_eq_true, ↓reduceIte, Bool.false_and, Bool.true_and] <;> exact Ev.now _
    · by_cases h3 : kind = 3
      · simp only [h3, ↓reduceIte, show ¬ (3 : Int) = 1 by omega, show ¬ (3 : Int) = 2 by omega]
        cases inr pos 0 80 <;> simp only [Bool.false_eq_true, ↓reduceIte, Bool.false_and, Bool.true_and] <;> exact Ev.now _
      · simp only [h1, h2, h3, ↓reduceIte]; exact Ev.now _

theorem within_eq (a b c : Int) : impl_within.f a b c = some (inr a b c) := by
  unfold impl_within.f inr
  by_cases h : a ≥ b
  · rw [if_pos h]; congr 1; by_cases h2 : a ≤ c <;> simp [h, h2]
  · rw [if_neg h]; congr 1; simp; omega

theorem isRelease_eq (a : Int) : impl_isRelease.f a = some (inr a 1 1000) := by unfold impl_isRelease.f; rw [within_eq]; rfl
theorem isSize_eq (a : Int) : impl_isSize.f a = some (inr a 0 1000) := by unfold impl_isSize.f; rw [within_eq]; rfl
theorem isNode_eq (a : Int) : impl_isNode.f a = some (inr a 0 4) := by unfold impl_isNode.f; rw [within_eq]; rfl
theorem implCmdOk_j2 (k : Nat) (x : Bool) (a b c d : Int) (s : ByteArray) : impl_CmdOk.j2 (k + 1) x a b c d s = some (x && (a == 0 && (b == 0 && (c == 0 && (d == 0 && (s.toList == ([] : List UInt8))))))) := by
  simp only [impl_CmdOk.j2]; cases x <;> simp
theorem implCmdOk_ev (kind rel node size : Int) (dig : ByteArray) : Ev (fun k => impl_CmdOk.f k kind rel node size dig) (cmdOk kind rel node size dig) := by
  refine ⟨3, fun k hk => ?_⟩
  obtain ⟨k, rfl⟩ : ∃ m, k = m + 3 := ⟨k - 3, by omega⟩
  unfold impl_CmdOk.f
  simp only [isRelease_eq, isSize_eq, isNode_eq, Option.bind_some, cmdOk]
  by_cases h1 : kind = 1
  · simp only [h1, ↓reduceIte]; rw [implCmdOk_j2]; simp
  · by_cases h2 : kind = 2
    · simp only [h2, ↓reduceIte]
      cases inr rel 1 1000 <;> cases inr size 0 1000 <;> by_cases hd : (dig.size : Int) = 32 <;> simp [impl_CmdOk.j0, implCmdOk_j2, ba_nil, hd]
    · by_cases h3 : kind = 3
      · simp only [h3, ↓reduceIte]
        cases inr rel 1 1000 <;> cases inr node 0 4 <;> simp [impl_CmdOk.j1, implCmdOk_j2]
      · by_cases h4 : kind = 4
        · simp only [h4, ↓reduceIte]
          cases inr rel 1 1000 <;> simp [impl_CmdOk.j1, implCmdOk_j2]
        · by_cases h5 : kind = 5
          · simp only [h5, ↓reduceIte]
            cases inr rel 1 1000 <;> simp [impl_CmdOk.j1, implCmdOk_j2]
          · simp [h1, h2, h3, h4, h5, impl_CmdOk.j1]

theorem isWhole_eq (a : Int) : impl_isWhole.f a = some (inr a 0 1000000000) := by unfold impl_isWhole.f; rw [within_eq]; rfl
theorem entryOk_ev (term ek er en es : Int) (dig : ByteArray) : Ev (fun k => impl_entryOk.f k term ek er en es dig) (entryOk term ek er en es dig) := by
  unfold impl_entryOk.f entryOk
  simp only [within_eq, Option.bind_some]
  cases inr term 1 1000000000
  · simp only [Bool.false_eq_true, ↓reduceIte, Bool.false_and]; exact Ev.now _
  · simp only [↓reduceIte, Bool.true_and]
    refine Ev.bind (implCmdOk_ev ek er en es dig) ?_
    exact Ev.now _
theorem implRecOk_ev (kind term vote pos et ek er en es : Int) (dig : ByteArray) : Ev (fun k => impl_RecOk.f k kind term vote pos et ek er en es dig) (recOk kind term vote pos et ek er en es dig) := by
  unfold impl_RecOk.f recOk
  simp only [within_eq, isWhole_eq, Option.bind_some]
  by_cases h1 : kind = 1
  · simp only [h1, ↓reduceIte, if_eq0, if_tt]
    exact Ev.now _
  · by_cases h2 : kind = 2
    · simp only [h2, ↓reduceIte, show ¬ (2 : Int) = 1 by omega, if_eq0]
      cases inr pos 1 80
      · simp only [Bool.false_eq_true, ↓reduceIte, Bool.false_and]; exact Ev.now _
      · simp only [↓reduceIte, Bool.true_and]
        refine Ev.bind (entryOk_ev et ek er en es dig) ?_
        simp only [if_tt]
        exact Ev.now _
    · by_cases h3 : kind = 3
      · simp only [h3, ↓reduceIte, show ¬ (3 : Int) = 1 by omega, show ¬ (3 : Int) = 2 by omega, if_eq0, if_tt]
        exact Ev.now _
      · simp only [h1, h2, h3, ↓reduceIte]; exact Ev.now _

theorem FnExactRecOk : laws_FnExactRecOk.Pure := by
  intro a0 a1 a2 a3 a4 a5 a6 a7 a8 s _ _ _ _ _ _ _ _ _ hs
  apply Ev.rounds
  unfold laws_FnExactRecOk.f laws_szRec.f laws_szEntry.f laws_szCmd.f laws_toRec.f laws_toEntry.f laws_toCmd.f
  simp only [Option.bind_some]
  by_cases h : wrap64 (1048576 - (s.size : Int)) < 0
  · simp only [h, ↓reduceIte, Option.bind_some, show (-1 : Int) < 0 by omega]; exact Ev.now _
  · simp only [h, ↓reduceIte, Option.bind_some]
    refine Ev.bind (specRecOk_ev a0 a1 a2 a3 a4 a5 a6 a7 a8 s) ?_
    refine Ev.bind (implRecOk_ev a0 a1 a2 a3 a4 a5 a6 a7 a8 s) ?_
    simp only [bne_self_eq_false, Bool.false_eq_true, ↓reduceIte]
    exact Ev.now _

end Go.Proofs.Ythllconiffponaa.Pure
