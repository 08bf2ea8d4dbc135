/- RecRead of the program and of the reference give the same record and word for every text; no condition. -/
import Derived.Test.YtkfoojknjmgjdaaQFnExactRecReadx8
namespace Go.Proofs.Ytkfoojknjmgjdaa.Pure
open Go.RowKit Go.Proofs.Ytkfoojknjmgjdaa.QFnExactRecRead Go.Proofs.YtkfoojknjmgjdaaW.PrintWords Go.Proofs.YtkfoojknjmgjdaaW.PrintLast
set_option linter.unusedVariables false
set_option linter.unusedSimpArgs false
theorem w64 {x : Int} (h0 : -9223372036854775808 ≤ x) (h1 : x ≤ 9223372036854775807) : wrap64 x = x := by
  unfold wrap64; omega
def By (l : List Int) : Prop := ∀ x ∈ l, 0 ≤ x ∧ x ≤ 255
theorem by_wf {l : List Int} (h : ∀ x ∈ l, (Lit.int .u8 x).wf = true) : By l := fun x hx => by
  have := h x hx
  simpa [Lit.wf, IntKind.min, IntKind.max, IntKind.bits, IntKind.signed] using this
theorem i64_wf {x : Int} (h : (Lit.int .i64 x).wf = true) : -9223372036854775808 ≤ x ∧ x ≤ 9223372036854775807 := by
  simpa [Lit.wf, IntKind.min, IntKind.max, IntKind.bits, IntKind.signed] using h
theorem rd_nat (l : List Int) (i : Nat) : rd l (i : Int) = l.getD i 0 := by simp [rd]
theorem By.at_ {l : List Int} (h : By l) (i : Int) : 0 ≤ rd l i ∧ rd l i ≤ 255 := by
  unfold rd
  rw [List.getD_eq_getElem?_getD]
  rcases Nat.lt_or_ge i.toNat l.length with hi | hi
  · rw [List.getElem?_eq_getElem hi]; exact h _ (List.getElem_mem hi)
  · rw [List.getElem?_eq_none hi]; simp
theorem wraps_i64 (n : Int) (h₀ : 0 ≤ n) (h₁ : n < 2 ^ 63) : IntKind.i64.wrap n = n := by rw [IntKind.wrap_i64]; omega
theorem and_mask (i : Nat) (hi : i ≤ 63) {x : Int} (h₀ : 0 ≤ x) (h₁ : x ≤ 9223372036854775807) : Go.bits .and .i64 x (2 ^ i - 1) = x % 2 ^ i :=
  bits_mask .i64 63 (by decide) wraps_i64 i hi x h₀ (by omega)
theorem or_join (i : Nat) {x y : Int} (hx₀ : 0 ≤ x) (hx : x % 2 ^ i = 0) (hx₁ : x ≤ 9223372036854775807) (hy₀ : 0 ≤ y) (hy : y < 2 ^ i) (hy₁ : y ≤ 9223372036854775807) : Go.bits .or .i64 x y = x + y :=
  bits_join .i64 63 (by decide) wraps_i64 i x y hx₀ hx (by omega) hy₀ hy (by omega)

def p7 (k : Nat) : Int := 128 ^ k
def gn : Nat → List Int → Int → Nat → Int → Int × Int × Bool
  | 0, _, _, _, _ => (0, 0, false)
  | d + 1, l, at_, k, x => if at_ + k < l.length then (if rd l (at_ + k) < 128 then (if rd l (at_ + k) = 0 ∧ 0 < k then (0, 0, false) else (x + rd l (at_ + k) % 128 * p7 k, at_ + k + 1, true)) else gn d l at_ (k + 1) (x + rd l (at_ + k) % 128 * p7 k)) else (0, 0, false)
def getNum (l : List Int) (at_ : Int) : Int × Int × Bool := if at_ < 0 then (0, 0, false) else gn 9 l at_ 0 0
theorem p7_0 : p7 0 = 1 := rfl
theorem p7_succ (k : Nat) : p7 (k + 1) = p7 k * 128 := Int.pow_succ 128 k
theorem p7_b (k : Nat) (hk : k ≤ 8) : 1 ≤ p7 k ∧ p7 k ≤ 72057594037927936 := by
  have : k = 0 ∨ k = 1 ∨ k = 2 ∨ k = 3 ∨ k = 4 ∨ k = 5 ∨ k = 6 ∨ k = 7 ∨ k = 8 := by omega
  rcases this with rfl | rfl | rfl | rfl | rfl | rfl | rfl | rfl | rfl <;> decide
theorem p128 (k : Nat) (hk : k ≤ 8) (x c : Int) (hx0 : 0 ≤ x) (hx : x < p7 k) (hc0 : 0 ≤ c) (hc : c < 128) : 0 ≤ c * p7 k ∧ c * p7 k ≤ 9223372036854775807 ∧ 0 ≤ x + c * p7 k ∧ x + c * p7 k ≤ 9223372036854775807 ∧ x + c * p7 k < p7 (k + 1) := by
  have h := p7_b k hk
  rw [p7_succ]
  generalize p7 k = u at *
  have h1 : 0 ≤ c * u := Int.mul_nonneg hc0 (by omega)
  have h2 : c * u ≤ 127 * u := Int.mul_le_mul_of_nonneg_right (by omega) (by omega)
  refine ⟨h1, by omega, by omega, by omega, by omega⟩

theorem gn_b : ∀ (d : Nat) (k : Nat) (l : List Int) (a x : Int), By l → 0 ≤ a → d + k ≤ 9 → 0 ≤ x → x < p7 k → 0 ≤ (gn d l a k x).1 ∧ (gn d l a k x).1 ≤ 9223372036854775807 ∧ 0 ≤ (gn d l a k x).2.1 ∧ (gn d l a k x).2.1 ≤ l.length
  | 0, k, l, a, x, hb, ha, hk, h0, h1 => by simp [gn]
  | d + 1, k, l, a, x, hb, ha, hk, h0, h1 => by
    have hz : (0 : Int) ≤ 0 ∧ (0 : Int) ≤ 9223372036854775807 ∧ (0 : Int) ≤ 0 ∧ (0 : Int) ≤ l.length := ⟨by omega, by omega, by omega, by omega⟩
    have hr := hb.at_ (a + k)
    have hp := p128 k (by omega) x (rd l (a + k) % 128) h0 h1 (by omega) (by omega)
    simp only [gn]
    split
    · split
      · split
        · exact hz
        · exact ⟨hp.2.2.1, hp.2.2.2.1, by simp only; omega, by simp only; omega⟩
      · exact gn_b d (k + 1) l a _ hb ha (by omega) hp.2.2.1 hp.2.2.2.2
    · exact hz
theorem getNum_b (l : List Int) (a : Int) (hb : By l) : 0 ≤ (getNum l a).1 ∧ (getNum l a).1 ≤ 9223372036854775807 ∧ 0 ≤ (getNum l a).2.1 ∧ (getNum l a).2.1 ≤ l.length := by
  unfold getNum
  split
  · exact ⟨by simp, by simp, by simp, by simp⟩
  · exact gn_b 9 0 l a 0 hb (by omega) (by omega) (by omega) (by decide)

def inr (a b c : Int) : Bool := decide (b ≤ a ∧ a ≤ c)
theorem ba_nil : (⟨#[]⟩ : ByteArray).toList = [] := by rw [ByteArray.toList, ByteArray.toList.loop]; rfl
theorem if_eq0 (a c : Int) (x : Bool) : (if a = c then some x else some false) = some (a == c && x) := by
  by_cases h : a = c
  · subst h; simp
  · have b : (a == c) = false := by simpa using h
    simp [h, b]
theorem if_tt (b x : Bool) : (if b = true then some x else some false) = some (b && x) := by cases b <;> rfl

def cmdOk (kind rel node size : Int) (dig : ByteArray) : Bool :=
  if kind = 1 then (rel == 0 && (node == 0 && (size == 0 && (dig.toList == ([] : List UInt8)))))
  else if kind = 2 then (inr rel 1 1000 && (inr size 0 1000 && (decide ((dig.size : Int) = 32) && (node == 0))))
  else if kind = 3 then (inr rel 1 1000 && (inr node 0 4 && (size == 0 && (dig.toList == ([] : List UInt8)))))
  else if kind = 4 ∨ kind = 5 then (inr rel 1 1000 && (node == 0 && (size == 0 && (dig.toList == ([] : List UInt8)))))
  else false

def zC : Int × Int × Int × Int × ByteArray × Int × Bool := (0, 0, 0, 0, (⟨#[]⟩ : ByteArray), 0, false)
def cmFin (x1 x2 x3 x4 : Int) (d : ByteArray) (p : Int) : Int × Int × Int × Int × ByteArray × Int × Bool := if cmdOk x1 x2 x3 x4 d = true then (x1, x2, x3, x4, d, p, true) else zC
def seg32 (l : List Int) (p : Int) : ByteArray := strOfNums ((l.take (p + 32).toNat).drop p.toNat)
def cm3 (x2 : Int) (g : Int × Int × Bool) : Int × Int × Int × Int × ByteArray × Int × Bool := if g.2.2 = true then cmFin 3 x2 g.1 0 (⟨#[]⟩ : ByteArray) g.2.1 else zC
def cm2 (l : List Int) (x2 : Int) (g : Int × Int × Bool) : Int × Int × Int × Int × ByteArray × Int × Bool :=
  if g.2.2 = true then (if 32 ≤ (l.length : Int) - g.2.1 then cmFin 2 x2 0 g.1 (seg32 l g.2.1) (g.2.1 + 32) else zC) else zC
def cmB (l : List Int) (x1 : Int) (g : Int × Int × Bool) : Int × Int × Int × Int × ByteArray × Int × Bool :=
  if g.2.2 = true then (if x1 = 3 then cm3 g.1 (getNum l g.2.1) else if x1 = 2 then cm2 l g.1 (getNum l g.2.1) else cmFin x1 g.1 0 0 (⟨#[]⟩ : ByteArray) g.2.1) else zC
def cmA (l : List Int) (g : Int × Int × Bool) : Int × Int × Int × Int × ByteArray × Int × Bool :=
  if g.2.2 = true ∧ 1 ≤ g.1 ∧ g.1 ≤ 5 then (if g.1 = 1 then (1, 0, 0, 0, (⟨#[]⟩ : ByteArray), g.2.1, true) else cmB l g.1 (getNum l g.2.1)) else zC
def cmdRead (l : List Int) (a : Int) : Int × Int × Int × Int × ByteArray × Int × Bool := cmA l (getNum l a)
theorem cmdOk_short2 (x2 x4 : Int) : cmdOk 2 x2 0 x4 (⟨#[]⟩ : ByteArray) = false := by
  have h : ((⟨#[]⟩ : ByteArray).size : Int) = 0 := rfl
  unfold cmdOk
  rw [if_neg (by decide), if_pos rfl, h]
  simp
theorem cmdOk_out (x1 x2 x3 x4 : Int) (d : ByteArray) (h : ¬ (1 ≤ x1 ∧ x1 ≤ 5)) : cmdOk x1 x2 x3 x4 d = false := by
  unfold cmdOk
  rw [if_neg (by omega), if_neg (by omega), if_neg (by omega), if_neg (by omega)]
theorem cmdOk_one : cmdOk 1 0 0 0 (⟨#[]⟩ : ByteArray) = true := by
  have h : (⟨#[]⟩ : ByteArray).toList = [] := by rw [ByteArray.toList_eq]
  unfold cmdOk
  rw [h]
  simp

def entryOk (term ek er en es : Int) (dig : ByteArray) : Bool := inr term 1 1000000000 && cmdOk ek er en es dig
def zero6 (et ek er en es : Int) (dig : ByteArray) : Bool := et == 0 && ((ek == 0 && (er == 0 && (en == 0 && (es == 0 && (dig.toList == ([] : List UInt8)))))))
def recOk (kind term vote pos et ek er en es : Int) (dig : ByteArray) : Bool :=
  if kind = 1 then (inr term 0 1000000000 && (inr vote 0 5 && (pos == 0 && zero6 et ek er en es dig)))
  else if kind = 2 then (inr pos 1 80 && (entryOk et ek er en es dig && (term == 0 && vote == 0)))
  else if kind = 3 then (inr pos 0 80 && (term == 0 && (vote == 0 && zero6 et ek er en es dig)))
  else false

def zR : Int × Int × Int × Int × Int × Int × Int × Int × Int × ByteArray × Bool := (0, 0, 0, 0, 0, 0, 0, 0, 0, (⟨#[]⟩ : ByteArray), false)
def recFin (l : List Int) (x0 x1 x2 x3 x4 x5 x6 x7 x8 : Int) (x9 : ByteArray) (p : Int) : Int × Int × Int × Int × Int × Int × Int × Int × Int × ByteArray × Bool :=
  if p = (l.length : Int) then (if recOk x0 x1 x2 x3 x4 x5 x6 x7 x8 x9 = true then (x0, x1, x2, x3, x4, x5, x6, x7, x8, x9, true) else zR) else zR
def rr1b (l : List Int) (x : Int) (g : Int × Int × Bool) := if g.2.2 = true then recFin l 1 x g.1 0 0 0 0 0 0 (⟨#[]⟩ : ByteArray) g.2.1 else zR
def rr1 (l : List Int) (g : Int × Int × Bool) := if g.2.2 = true then rr1b l g.1 (getNum l g.2.1) else zR
def rr2c (l : List Int) (x y : Int) (d : Int × Int × Int × Int × ByteArray × Int × Bool) := if d.2.2.2.2.2.2 = true then recFin l 2 0 0 x y d.1 d.2.1 d.2.2.1 d.2.2.2.1 d.2.2.2.2.1 d.2.2.2.2.2.1 else zR
def rr2b (l : List Int) (x : Int) (g : Int × Int × Bool) := if g.2.2 = true then rr2c l x g.1 (cmdRead l g.2.1) else zR
def rr2 (l : List Int) (g : Int × Int × Bool) := if g.2.2 = true then rr2b l g.1 (getNum l g.2.1) else zR
def rr3 (l : List Int) (g : Int × Int × Bool) := if g.2.2 = true then recFin l 3 0 0 g.1 0 0 0 0 0 (⟨#[]⟩ : ByteArray) g.2.1 else zR
def rrA (l : List Int) (g : Int × Int × Bool) := if g.1 = 1 then rr1 l (getNum l g.2.1) else if g.1 = 2 then rr2 l (getNum l g.2.1) else if g.1 = 3 then rr3 l (getNum l g.2.1) else zR
def recRead (l : List Int) := rrA l (getNum l 0)
theorem recOk_out (x0 x1 x2 x3 x4 x5 x6 x7 x8 : Int) (x9 : ByteArray) (h1 : ¬ x0 = 1) (h2 : ¬ x0 = 2) (h3 : ¬ x0 = 3) : recOk x0 x1 x2 x3 x4 x5 x6 x7 x8 x9 = false := by
  unfold recOk; rw [if_neg h1, if_neg h2, if_neg h3]
theorem gn_near : ∀ (d k : Nat) (l : List Int) (a x : Int), 0 ≤ a → ((gn d l a k x).2.2 = true → (gn d l a k x).2.1 ≤ a + k + d) ∧ ((gn d l a k x).2.2 = false → gn d l a k x = (0, 0, false))
  | 0, k, l, a, x, ha => by simp [gn]
  | d + 1, k, l, a, x, ha => by
    simp only [gn]
    split
    · split
      · split
        · simp
        · simp only; exact ⟨fun _ => by omega, fun h => by simp at h⟩
      · have := gn_near d (k + 1) l a (x + rd l (a + k) % 128 * p7 k) ha
        exact ⟨fun h => by have := this.1 h; omega, this.2⟩
    · simp
theorem getNum_near (l : List Int) (a : Int) (h : (getNum l a).2.2 = true) : 0 ≤ a ∧ (getNum l a).2.1 ≤ a + 9 := by
  unfold getNum at *
  split at h
  · simp at h
  · rename_i c
    rw [if_neg c]
    exact ⟨by omega, by have := (gn_near 9 0 l a 0 (by omega)).1 h; omega⟩
theorem getNum_no (l : List Int) (a : Int) (h : (getNum l a).2.2 = false) : getNum l a = (0, 0, false) := by
  unfold getNum at *
  split
  · rfl
  · rename_i c
    rw [if_neg c] at h
    exact (gn_near 9 0 l a 0 (by omega)).2 h
theorem cmdRead_near (l : List Int) (a : Int) (h : (cmdRead l a).2.2.2.2.2.2 = true) : (cmdRead l a).2.2.2.2.2.1 ≤ a + 59 := by
  have hz : zC.2.2.2.2.2.2 = true → zC.2.2.2.2.2.1 ≤ a + 59 := fun h => by simp [zC] at h
  have hf : ∀ x1 x2 x3 x4 d p, p ≤ a + 59 → (cmFin x1 x2 x3 x4 d p).2.2.2.2.2.2 = true → (cmFin x1 x2 x3 x4 d p).2.2.2.2.2.1 ≤ a + 59 := fun x1 x2 x3 x4 d p hp => by
    unfold cmFin
    split
    · intro _; exact hp
    · exact hz
  revert h
  unfold cmdRead cmA
  split
  · rename_i h1
    have n1 := getNum_near l a h1.1
    split
    · intro _; simp only; omega
    · unfold cmB
      split
      · rename_i h2
        have n2 := getNum_near l _ h2
        split
        · unfold cm3
          split
          · rename_i h3
            have n3 := getNum_near l _ h3
            exact hf _ _ _ _ _ _ (by omega)
          · exact hz
        · split
          · unfold cm2
            split
            · rename_i h3
              have n3 := getNum_near l _ h3
              split
              · exact hf _ _ _ _ _ _ (by omega)
              · exact hz
            · exact hz
          · exact hf _ _ _ _ _ _ (by omega)
      · exact hz
  · exact hz
theorem recFin_far (l : List Int) (x0 x1 x2 x3 x4 x5 x6 x7 x8 : Int) (x9 : ByteArray) (p : Int) (h : p < l.length) : recFin l x0 x1 x2 x3 x4 x5 x6 x7 x8 x9 p = zR := by
  unfold recFin; rw [if_neg (by omega)]
theorem recRead_long (l : List Int) (hl : 3000 < (l.length : Int)) : recRead l = zR := by
  unfold recRead rrA
  by_cases h1 : (getNum l 0).2.2 = true
  · have n1 := getNum_near l 0 h1
    split
    · unfold rr1; split
      · rename_i h2
        have n2 := getNum_near l _ h2
        unfold rr1b; split
        · rename_i h3
          have n3 := getNum_near l _ h3
          exact recFin_far _ _ _ _ _ _ _ _ _ _ _ _ (by omega)
        · rfl
      · rfl
    · split
      · unfold rr2; split
        · rename_i h2
          have n2 := getNum_near l _ h2
          unfold rr2b; split
          · rename_i h3
            have n3 := getNum_near l _ h3
            unfold rr2c; split
            · rename_i h4
              have n4 := cmdRead_near l _ h4
              exact recFin_far _ _ _ _ _ _ _ _ _ _ _ _ (by omega)
            · rfl
          · rfl
        · rfl
      · split
        · unfold rr3; split
          · rename_i h2
            have n2 := getNum_near l _ h2
            exact recFin_far _ _ _ _ _ _ _ _ _ _ _ _ (by omega)
          · rfl
        · rfl
  · rw [getNum_no l 0 (by simpa using h1)]
    simp

theorem l1In_eq (a b c : Int) : spec_l1In.f a b c = some (inr a b c) := by
  unfold spec_l1In.f inr
  by_cases h : a ≥ b
  · rw [if_pos h]; congr 1; by_cases h2 : a ≤ c <;> simp [h, h2]
  · rw [if_neg h]; congr 1; simp; omega

theorem specCmdOk_ev (kind rel node size : Int) (dig : ByteArray) : Ev (fun k => spec_CmdOk.f k kind rel node size dig) (cmdOk kind rel node size dig) := by
  unfold spec_CmdOk.f
  simp only [l1In_eq, Option.bind_some]
  by_cases h1 : kind = 1
  · simp only [cmdOk, h1, ↓reduceIte]; exact Ev.now _
  · simp only [h1, ↓reduceIte]
    by_cases h2 : 2 ≤ kind ∧ kind ≤ 5
    · have e : inr kind 2 5 = true := decide_eq_true h2
      simp only [e, ↓reduceIte]
      refine Ev.step (f := fun _ => some (cmdOk kind rel node size dig)) (fun k => ?_) (Ev.now _)
      simp only [spec_CmdOk.j0, l1In_eq, Option.bind_some, ba_nil, cmdOk]
      have h3 : kind = 2 ∨ kind = 3 ∨ kind = 4 ∨ kind = 5 := by omega
      cases inr rel 1 1000 <;> rcases h3 with rfl | rfl | rfl | rfl <;> cases inr size 0 1000 <;> cases inr node 0 4 <;> by_cases hd : (dig.size : Int) = 32 <;> simp [hd]
    · have e : inr kind 2 5 = false := decide_eq_false h2
      simp only [e, Bool.false_eq_true, ↓reduceIte]
      refine Ev.step (f := fun _ => some false) (fun k => ?_) ?_
      · simp only [spec_CmdOk.j0, ↓reduceIte]
      · have : cmdOk kind rel node size dig = false := by
          unfold cmdOk
          rw [if_neg h1, if_neg (by omega), if_neg (by omega), if_neg (by omega)]
        rw [this]; exact Ev.now _

theorem l1Whole_eq (a : Int) : spec_l1Whole.f a = some (inr a 0 1000000000) := by unfold spec_l1Whole.f; rw [l1In_eq]; rfl
theorem l6Entry_ev (term ek er en es : Int) (dig : ByteArray) : Ev (fun k => spec_l6Entry.f k term ek er en es dig) (entryOk term ek er en es dig) := by
  unfold spec_l6Entry.f entryOk
  simp only [l1In_eq, Option.bind_some]
  cases inr term 1 1000000000
  · simp only [Bool.false_eq_true, ↓reduceIte, Bool.false_and]; exact Ev.now _
  · simp only [↓reduceIte, Bool.true_and]
    refine Ev.bind (specCmdOk_ev ek er en es dig) ?_
    exact Ev.now _
theorem specRecOk_ev (kind term vote pos et ek er en es : Int) (dig : ByteArray) : Ev (fun k => spec_RecOk.f k kind term vote pos et ek er en es dig) (recOk kind term vote pos et ek er en es dig) := by
  unfold spec_RecOk.f recOk
  simp only [l1In_eq, l1Whole_eq, Option.bind_some]
  by_cases h1 : kind = 1
  · simp only [h1, ↓reduceIte]
    cases inr term 0 1000000000 <;> cases inr vote 0 5 <;> simp only [Bool.false_eq_true, ↓reduceIte, Bool.false_and, Bool.true_and] <;> exact Ev.now _
  · by_cases h2 : kind = 2
    · simp only [h2, ↓reduceIte, show ¬ (2 : Int) = 1 by omega]
      cases inr pos 1 80
      · simp only [Bool.false_eq_true, ↓reduceIte, Bool.false_and]; exact Ev.now _
      · simp only [↓reduceIte, Bool.true_and]
        refine Ev.bind (l6Entry_ev et ek er en es dig) ?_
        cases entryOk et ek er en es dig <;> simp only [Bool.false_eq_true, ↓reduceIte, Bool.false_and, Bool.true_and] <;> exact Ev.now _
    · by_cases h3 : kind = 3
      · simp only [h3, ↓reduceIte, show ¬ (3 : Int) = 1 by omega, show ¬ (3 : Int) = 2 by omega]
        cases inr pos 0 80 <;> simp only [Bool.false_eq_true, ↓reduceIte, Bool.false_and, Bool.true_and] <;> exact Ev.now _
      · simp only [h1, h2, h3, ↓reduceIte]; exact Ev.now _

theorem u_next {k0 : Nat} {u : Int} (h8 : k0 + 1 ≤ 8) (hu : u = p7 k0) : wrap64 (u * 128) = p7 (k0 + 1) := by
  have hp2 := p7_b (k0 + 1) h8
  rw [p7_succ] at hp2 ⊢
  rw [hu]
  exact w64 (by omega) (by omega)
theorem gnStep {k0 : Nat} {c x u : Int} (k8 : k0 ≤ 8) (hc : 0 ≤ c ∧ c ≤ 255) (hx0 : 0 ≤ x) (hx : x < p7 k0) (hu : u = p7 k0) : wrap64 c = c ∧ wrap64 (x + wrap64 (Int.tmod c 128 * u)) = x + c % 128 * p7 k0 ∧ 0 ≤ x + c % 128 * p7 k0 ∧ x + c % 128 * p7 k0 < p7 (k0 + 1) := by
  have hp := p128 k0 k8 x (c % 128) hx0 hx (by omega) (by omega)
  refine ⟨w64 (by omega) (by omega), ?_, hp.2.2.1, hp.2.2.2.2⟩
  rw [Int.tmod_eq_emod_of_nonneg hc.1, hu, w64 (x := c % 128 * p7 k0) (Int.le_trans (by decide) hp.1) hp.2.1, w64 (Int.le_trans (by decide) hp.2.2.1) hp.2.2.2.1]
theorem specGetNum_l (d : Nat) : ∀ (l : List Int) (at_ : Int) (k0 : Nat) (x u : Int), By l → l.length ≤ 140737488355328 → 0 ≤ at_ → at_ ≤ 140737488355328 → k0 + d = 9 → 0 ≤ x → x < p7 k0 → (k0 ≤ 8 → u = p7 k0) → Ev (fun k => spec_GetNum.l0 k l at_ x u (k0 : Int)) (gn d l at_ k0 x) := by
  induction d with
  | zero =>
    intro l at_ k0 x u hb hl h0 h1 hk hx0 hx hu
    refine Ev.step (f := fun k => spec_GetNum.j2 k l at_ x u (k0 : Int) false) (fun k => ?_) ?_
    · simp only [spec_GetNum.l0]; rw [if_neg (by omega)]
    · refine Ev.step (f := fun _ => some (0, 0, false)) (fun k => ?_) (Ev.now _)
      simp only [spec_GetNum.j2]; rfl
  | succ d ih =>
    intro l at_ k0 x u hb hl h0 h1 hk hx0 hx hu
    have k8 : k0 ≤ 8 := by omega
    have z0 : 0 ≤ at_ + (k0 : Int) := by omega
    have k9 : (k0 : Int) < 9 := by omega
    have e1 : wrap64 (at_ + (k0 : Int)) = at_ + k0 := w64 (by omega) (by omega)
    have e4 : wrap64 (at_ + (k0 : Int) + 1) = at_ + k0 + 1 := w64 (by omega) (by omega)
    have e6 : wrap64 ((k0 : Int) + 1) = ((k0 + 1 : Nat) : Int) := w64 (by omega) (by omega)
    have hk' : k0 + 1 + d = 9 := by omega
    have hu := hu k8
    obtain ⟨e2, e3, x0, x1⟩ := gnStep k8 (hb.at_ (at_ + k0)) hx0 hx hu
    by_cases h : at_ + k0 < l.length
    · refine Ev.step (f := fun k => spec_GetNum.j2 k l at_ x u (k0 : Int) true) (fun k => ?_) ?_
      · simp only [spec_GetNum.l0, k9, e1, h, decide_true, ↓reduceIte]
      simp only [gn, h, ↓reduceIte]
      by_cases c1 : rd l (at_ + k0) < 128
      · by_cases c2 : rd l (at_ + k0) = 0
        · by_cases c3 : 0 < k0
          · refine Ev.step (f := fun _ => some (0, 0, false)) (fun k => ?_) ?_
            · have c3' : (k0 : Int) > 0 := by omega
              simp only [spec_GetNum.j2, e1, z0, h, ↓reduceIte]
              rw [e2, if_pos c1, if_pos c2, if_pos c3']
            · rw [if_pos c1, if_pos ⟨c2, c3⟩]; exact Ev.now _
          · refine Ev.step (f := fun _ => some (x + rd l (at_ + k0) % 128 * p7 k0, at_ + k0 + 1, true)) (fun k => ?_) ?_
            · have c3' : ¬ (k0 : Int) > 0 := by omega
              simp only [spec_GetNum.j2, e1, z0, h, ↓reduceIte]
              rw [e2, if_pos c1, if_pos c2, if_neg c3', e3, e4]
            · rw [if_pos c1, if_neg (fun hh => c3 hh.2)]; exact Ev.now _
        · refine Ev.step (f := fun _ => some (x + rd l (at_ + k0) % 128 * p7 k0, at_ + k0 + 1, true)) (fun k => ?_) ?_
          · simp only [spec_GetNum.j2, e1, z0, h, ↓reduceIte]
            rw [e2, if_pos c1, if_neg c2, e3, e4]
          · rw [if_pos c1, if_neg (fun hh => c2 hh.1)]; exact Ev.now _
      · refine Ev.step (f := fun k => spec_GetNum.l0 k l at_ (x + rd l (at_ + k0) % 128 * p7 k0) (wrap64 (u * 128)) ((k0 + 1 : Nat) : Int)) (fun k => ?_) ?_
        · simp only [spec_GetNum.j2, e1, z0, h, ↓reduceIte]
          rw [e2, if_neg c1, e3, e6]
        · rw [if_neg c1]; exact ih l at_ (k0 + 1) _ _ hb hl h0 h1 hk' x0 x1 (fun h8 => u_next h8 hu)
    · refine Ev.step (f := fun k => spec_GetNum.j2 k l at_ x u (k0 : Int) false) (fun k => ?_) ?_
      · simp only [spec_GetNum.l0, k9, e1, h, decide_false, ↓reduceIte]
      · simp only [gn, h, ↓reduceIte]
        refine Ev.step (f := fun _ => some (0, 0, false)) (fun k => ?_) (Ev.now _)
        simp only [spec_GetNum.j2]; rfl
theorem specGetNum_ev (l : List Int) (at_ : Int) (hb : By l) (hl : l.length ≤ 140737488355328) : Ev (fun k => spec_GetNum.f k l at_) (getNum l at_) := by
  unfold spec_GetNum.f getNum
  by_cases h : at_ < 0
  · simp only [h, ↓reduceIte]
    refine Ev.step (f := fun _ => some (0, 0, false)) (fun k => ?_) (Ev.now _)
    simp only [spec_GetNum.j0, ↓reduceIte]
  · by_cases h2 : at_ ≥ (l.length : Int)
    · simp only [h, h2, ↓reduceIte, decide_true]
      refine Ev.step (f := fun _ => some (0, 0, false)) (fun k => ?_) ?_
      · simp only [spec_GetNum.j0, ↓reduceIte]
      · simp only [gn]; rw [if_neg (by omega)]; exact Ev.now _
    · simp only [h, h2, ↓reduceIte, decide_false]
      refine Ev.step (f := fun k => spec_GetNum.l0 k l at_ 0 1 0) (fun k => ?_) ?_
      · simp only [spec_GetNum.j0]; rfl
      · exact specGetNum_l 9 l at_ 0 0 1 hb hl (by omega) (by omega) (by omega) (by omega) (by decide) (fun _ => rfl)

theorem crFin_ev (x1 x2 x3 x4 : Int) (d : ByteArray) (p : Int) : Ev (fun k => crFin k x1 x2 x3 x4 d p true) (cmFin x1 x2 x3 x4 d p) := by
  unfold crFin cmFin
  simp only [↓reduceIte]
  refine Ev.bind (specCmdOk_ev x1 x2 x3 x4 d) ?_
  cases cmdOk x1 x2 x3 x4 d
  · simp only [Bool.false_eq_true, ↓reduceIte]; exact Ev.now _
  · simp only [↓reduceIte]; exact Ev.now _
theorem specCmdRead_ev (l : List Int) (a : Int) (hb : By l) (hl : l.length ≤ 1048576) : Ev (fun k => spec_CmdRead.f k l a) (cmdRead l a) := by
  have h1 := getNum_b l a hb
  unfold spec_CmdRead.f cmdRead
  refine Ev.bind (specGetNum_ev l a hb (by omega)) ?_
  generalize getNum l a = G1 at *
  obtain ⟨x1, p1, ok1⟩ := G1
  simp only at h1 ⊢
  unfold cmA
  cases ok1
  · simp only [Bool.false_eq_true, ↓reduceIte, false_and]; exact Ev.now _
  simp only [↓reduceIte, true_and, l1In_eq, Option.bind_some]
  by_cases hin : 1 ≤ x1 ∧ x1 ≤ 5
  · rw [show inr x1 1 5 = true from decide_eq_true hin]
    simp only [hin, and_self, ↓reduceIte]
    by_cases e1 : x1 = 1
    · simp only [e1, ↓reduceIte]; exact Ev.now _
    simp only [e1, ↓reduceIte]
    have h2 := getNum_b l p1 hb
    unfold cmB
    refine Ev.bind (specGetNum_ev l p1 hb (by omega)) ?_
    generalize getNum l p1 = G2 at *
    obtain ⟨x2, p2, ok2⟩ := G2
    simp only at h2 ⊢
    cases ok2
    · simp only [Bool.false_eq_true, ↓reduceIte]; exact Ev.now _
    simp only [↓reduceIte]
    by_cases e3 : x1 = 3
    · simp only [e3, ↓reduceIte]
      refine Ev.bind (specGetNum_ev l p2 hb (by omega)) ?_
      generalize getNum l p2 = G3 at *
      obtain ⟨x3, p3, ok3⟩ := G3
      unfold cm3
      cases ok3
      · simp only [Bool.false_eq_true, ↓reduceIte]; exact Ev.now _
      · simp only [↓reduceIte]; exact crFin_ev _ _ _ _ _ _
    simp only [e3, ↓reduceIte]
    by_cases e2 : x1 = 2
    · simp only [e2, ↓reduceIte]
      have h3 := getNum_b l p2 hb
      refine Ev.bind (specGetNum_ev l p2 hb (by omega)) ?_
      generalize getNum l p2 = G3 at *
      obtain ⟨x3, p3, ok3⟩ := G3
      simp only at h3 ⊢
      unfold cm2
      cases ok3
      · simp only [Bool.false_eq_true, ↓reduceIte]; exact Ev.now _
      have hw : wrap64 ((l.length : Int) - p3) = (l.length : Int) - p3 := w64 (by omega) (by omega)
      simp only [↓reduceIte, hw]
      by_cases c : 32 ≤ (l.length : Int) - p3
      · simp only [show (l.length : Int) - p3 ≥ 32 from c, show 0 ≤ p3 ∧ p3 + 32 ≤ (l.length : Int) from ⟨by omega, by omega⟩, c, and_self, ↓reduceIte]
        exact crFin_ev _ _ _ _ _ _
      · simp only [show ¬ (l.length : Int) - p3 ≥ 32 from c, c, ↓reduceIte]
        have := crFin_ev 2 x2 0 x3 (⟨#[]⟩ : ByteArray) p3
        unfold cmFin at this
        rw [cmdOk_short2] at this
        exact this
    · simp only [e2, ↓reduceIte]; exact crFin_ev _ _ _ _ _ _
  · rw [show inr x1 1 5 = false from decide_eq_false hin]
    simp only [hin, Bool.false_eq_true, ↓reduceIte]; exact Ev.now _

theorem bytesOf_by (s : ByteArray) : By (bytesOf s) := by
  intro x hx
  unfold bytesOf at hx
  obtain ⟨b, _, rfl⟩ := List.mem_map.1 hx
  have := b.toNat_lt
  omega

theorem srEnd_ev (l : List Int) (x0 x1 x2 x3 x4 x5 x6 x7 x8 : Int) (x9 : ByteArray) (p : Int) : Ev (fun k => srEnd k l x0 x1 x2 x3 x4 x5 x6 x7 x8 x9 p true true) (recFin l x0 x1 x2 x3 x4 x5 x6 x7 x8 x9 p) := by
  unfold srEnd recFin
  simp only [↓reduceIte]
  by_cases h : p = (l.length : Int)
  · simp only [h, ↓reduceIte]
    refine Ev.bind (specRecOk_ev x0 x1 x2 x3 x4 x5 x6 x7 x8 x9) ?_
    cases recOk x0 x1 x2 x3 x4 x5 x6 x7 x8 x9
    · simp only [Bool.false_eq_true, ↓reduceIte]; exact Ev.now _
    · simp only [↓reduceIte]; exact Ev.now _
  · simp only [h, ↓reduceIte]; exact Ev.now _
theorem srEnd_no (k : Nat) (l : List Int) (x0 x1 x2 x3 x4 x5 x6 x7 x8 : Int) (x9 : ByteArray) (p : Int) (f : Bool) : srEnd k l x0 x1 x2 x3 x4 x5 x6 x7 x8 x9 p false f = some zR := rfl
theorem srEnd_nf (k : Nat) (l : List Int) (x0 x1 x2 x3 x4 x5 x6 x7 x8 : Int) (x9 : ByteArray) (p : Int) : srEnd k l x0 x1 x2 x3 x4 x5 x6 x7 x8 x9 p true false = some zR := rfl
theorem recFin_out (l : List Int) (x0 x1 x2 x3 x4 x5 x6 x7 x8 : Int) (x9 : ByteArray) (p : Int) (h1 : ¬ x0 = 1) (h2 : ¬ x0 = 2) (h3 : ¬ x0 = 3) : recFin l x0 x1 x2 x3 x4 x5 x6 x7 x8 x9 p = zR := by
  unfold recFin; rw [recOk_out _ _ _ _ _ _ _ _ _ _ h1 h2 h3]; simp
theorem srAt_ev (l : List Int) (hb : By l) (hl : l.length ≤ 3000) : Ev (fun k => srAt k l) (recRead l) := by
  unfold srAt recRead
  refine Ev.bind (specGetNum_ev l 0 hb (by omega)) ?_
  generalize getNum l 0 = G1
  obtain ⟨x1, p1, o1⟩ := G1
  unfold rrA
  simp only
  have n2 := specGetNum_ev l p1 hb (by omega)
  by_cases e1 : x1 = 1
  · simp only [e1, ↓reduceIte]
    refine Ev.bind n2 ?_
    generalize getNum l p1 = G2
    obtain ⟨x2, p2, o2⟩ := G2
    unfold rr1
    cases o2
    · simp only [Bool.false_eq_true, ↓reduceIte]; exact Ev.now _
    simp only [↓reduceIte]
    refine Ev.bind (specGetNum_ev l p2 hb (by omega)) ?_
    generalize getNum l p2 = G3
    obtain ⟨x3, p3, o3⟩ := G3
    unfold rr1b
    cases o3
    · simp only [srEnd_no, Bool.false_eq_true, ↓reduceIte]; exact Ev.now _
    · simp only [↓reduceIte]; exact srEnd_ev _ _ _ _ _ _ _ _ _ _ _ _
  simp only [e1, ↓reduceIte]
  by_cases e2 : x1 = 2
  · simp only [e2, ↓reduceIte]
    refine Ev.bind n2 ?_
    generalize getNum l p1 = G2
    obtain ⟨x2, p2, o2⟩ := G2
    unfold rr2
    cases o2
    · simp only [Bool.false_eq_true, ↓reduceIte]; exact Ev.now _
    simp only [↓reduceIte]
    refine Ev.bind (specGetNum_ev l p2 hb (by omega)) ?_
    generalize getNum l p2 = G3
    obtain ⟨x3, p3, o3⟩ := G3
    unfold rr2b
    cases o3
    · simp only [Bool.false_eq_true, ↓reduceIte]; exact Ev.now _
    simp only [↓reduceIte]
    refine Ev.bind (specCmdRead_ev l p3 hb (by omega)) ?_
    generalize cmdRead l p3 = D
    obtain ⟨d1, d2, d3, d4, d5, d6, d7⟩ := D
    unfold rr2c
    cases d7
    · simp only [srEnd_nf, Bool.false_eq_true, ↓reduceIte]; exact Ev.now _
    · simp only [↓reduceIte]; exact srEnd_ev _ _ _ _ _ _ _ _ _ _ _ _
  simp only [e2, ↓reduceIte]
  by_cases e3 : x1 = 3
  · simp only [e3, ↓reduceIte]
    refine Ev.bind n2 ?_
    generalize getNum l p1 = G2
    obtain ⟨x2, p2, o2⟩ := G2
    unfold rr3
    cases o2
    · simp only [srEnd_no, Bool.false_eq_true, ↓reduceIte]; exact Ev.now _
    · simp only [↓reduceIte]; exact srEnd_ev _ _ _ _ _ _ _ _ _ _ _ _
  simp only [e3, ↓reduceIte]
  cases o1
  · simp only [srEnd_no]; exact Ev.now _
  · have := srEnd_ev l x1 0 0 0 0 0 0 0 0 (⟨#[]⟩ : ByteArray) p1
    rw [recFin_out _ _ _ _ _ _ _ _ _ _ _ _ e1 e2 e3] at this
    exact this
theorem specRecRead_ev (s : ByteArray) (hs : s.size ≤ 1048576) : Ev (fun k => spec_RecRead.f k s) (recRead (bytesOf s)) := by
  have hl := bytesOf_length s
  unfold spec_RecRead.f
  simp only [show s.size ≤ 9223372036854775807 by omega, ↓reduceIte]
  by_cases h : ((bytesOf s).length : Int) > 3000
  · simp only [h, ↓reduceIte]
    rw [recRead_long _ (by omega)]
    exact Ev.now _
  · simp only [h, ↓reduceIte]
    exact srAt_ev _ (bytesOf_by s) (by omega)

theorem within_eq (a b c : Int) : impl_within.f a b c = some (inr a b c) := by
  unfold impl_within.f inr
  by_cases h : a ≥ b
  · rw [if_pos h]; congr 1; by_cases h2 : a ≤ c <;> simp [h, h2]
  · rw [if_neg h]; congr 1; simp; omega

theorem isRelease_eq (a : Int) : impl_isRelease.f a = some (inr a 1 1000) := by unfold impl_isRelease.f; rw [within_eq]; rfl
theorem isSize_eq (a : Int) : impl_isSize.f a = some (inr a 0 1000) := by unfold impl_isSize.f; rw [within_eq]; rfl
theorem isNode_eq (a : Int) : impl_isNode.f a = some (inr a 0 4) := by unfold impl_isNode.f; rw [within_eq]; rfl
theorem implCmdOk_j2 (k : Nat) (x : Bool) (a b c d : Int) (s : ByteArray) : impl_CmdOk.j2 (k + 1) x a b c d s = some (x && (a == 0 && (b == 0 && (c == 0 && (d == 0 && (s.toList == ([] : List UInt8))))))) := by
  simp only [impl_CmdOk.j2]; cases x <;> simp
theorem implCmdOk_ev (kind rel node size : Int) (dig : ByteArray) : Ev (fun k => impl_CmdOk.f k kind rel node size dig) (cmdOk kind rel node size dig) := by
  refine ⟨3, fun k hk => ?_⟩
  obtain ⟨k, rfl⟩ : ∃ m, k = m + 3 := ⟨k - 3, by omega⟩
  unfold impl_CmdOk.f
  simp only [isRelease_eq, isSize_eq, isNode_eq, Option.bind_some, cmdOk]
  by_cases h1 : kind = 1
  · simp only [h1, ↓reduceIte]; rw [implCmdOk_j2]; simp
  · by_cases h2 : kind = 2
    · simp only [h2, ↓reduceIte]
      cases inr rel 1 1000 <;> cases inr size 0 1000 <;> by_cases hd : (dig.size : Int) = 32 <;> simp [impl_CmdOk.j0, implCmdOk_j2, ba_nil, hd]
    · by_cases h3 : kind = 3
      · simp only [h3, ↓reduceIte]
        cases inr rel 1 1000 <;> cases inr node 0 4 <;> simp [impl_CmdOk.j1, implCmdOk_j2]
      · by_cases h4 : kind = 4
        · simp only [h4, ↓reduceIte]
          cases inr rel 1 1000 <;> simp [impl_CmdOk.j1, implCmdOk_j2]
        · by_cases h5 : kind = 5
          · simp only [h5, ↓reduceIte]
            cases inr rel 1 1000 <;> simp [impl_CmdOk.j1, implCmdOk_j2]
          · simp [h1, h2, h3, h4, h5, impl_CmdOk.j1]

theorem isWhole_eq (a : Int) : impl_isWhole.f a = some (inr a 0 1000000000) := by unfold impl_isWhole.f; rw [within_eq]; rfl
theorem entryOk_ev (term ek er en es : Int) (dig : ByteArray) : Ev (fun k => impl_entryOk.f k term ek er en es dig) (entryOk term ek er en es dig) := by
  unfold impl_entryOk.f entryOk
  simp only [within_eq, Option.bind_some]
  cases inr term 1 1000000000
  · simp only [Bool.false_eq_true, ↓reduceIte, Bool.false_and]; exact Ev.now _
  · simp only [↓reduceIte, Bool.true_and]
    refine Ev.bind (implCmdOk_ev ek er en es dig) ?_
    exact Ev.now _
theorem implRecOk_ev (kind term vote pos et ek er en es : Int) (dig : ByteArray) : Ev (fun k => impl_RecOk.f k kind term vote pos et ek er en es dig) (recOk kind term vote pos et ek er en es dig) := by
  unfold impl_RecOk.f recOk
  simp only [within_eq, isWhole_eq, Option.bind_some]
  by_cases h1 : kind = 1
  · simp only [h1, ↓reduceIte, if_eq0, if_tt]
    exact Ev.now _
  · by_cases h2 : kind = 2
    · simp only [h2, ↓reduceIte, show ¬ (2 : Int) = 1 by omega, if_eq0]
      cases inr pos 1 80
      · simp only [Bool.false_eq_true, ↓reduceIte, Bool.false_and]; exact Ev.now _
      · simp only [↓reduceIte, Bool.true_and]
        refine Ev.bind (entryOk_ev et ek er en es dig) ?_
        simp only [if_tt]
        exact Ev.now _
    · by_cases h3 : kind = 3
      · simp only [h3, ↓reduceIte, show ¬ (3 : Int) = 1 by omega, show ¬ (3 : Int) = 2 by omega, if_eq0, if_tt]
        exact Ev.now _
      · simp only [h1, h2, h3, ↓reduceIte]; exact Ev.now _

theorem shl7 (k0 : Nat) (hk : k0 ≤ 8) (x c : Int) (hx0 : 0 ≤ x) (hx : x < p7 k0) (hc0 : 0 ≤ c) (hc : c < 128) : Go.bits .or .i64 x (shl .i64 c (wrap64 (7 * (k0 : Int)))) = x + c * p7 k0 := by
  have e0 : wrap64 (7 * (k0 : Int)) = ((7 * k0 : Nat) : Int) := by rw [w64 (by omega) (by omega)]; omega
  have e1 : (2 : Int) ^ (7 * k0) = p7 k0 := by rw [Int.pow_mul]; unfold p7; rfl
  have h7 : min (7 * k0) 64 = 7 * k0 := by omega
  have h63 : 7 * k0 ≤ 63 := by omega
  obtain ⟨h1, h2, h3, h4, h5⟩ := p128 k0 hk x c hx0 hx hc0 hc
  have e2 : shl .i64 c (wrap64 (7 * (k0 : Int))) = c * p7 k0 := by
    rw [e0]
    unfold shl
    rw [show IntKind.i64.bits = 64 from rfl, Int.toNat_natCast, h7, e1]
    exact wraps_i64 _ h1 (Int.lt_of_le_of_lt h2 (by decide))
  have e3 : Go.bits .or .i64 x (c * p7 k0) = Go.bits .or .i64 (c * p7 k0) x := by unfold Go.bits; simp only [BitVec.or_comm]
  have e4 : c * p7 k0 % 2 ^ (7 * k0) = 0 := by rw [e1]; exact Int.mul_emod_left _ _
  rw [e2, e3, or_join (7 * k0) h1 e4 h2 hx0 (by rw [e1]; exact hx) (Int.le_trans (Int.le_of_lt hx) (Int.le_trans (p7_b k0 hk).2 (by decide))), Int.add_comm]
theorem giStep {k0 : Nat} {c x : Int} (k8 : k0 ≤ 8) (hc : 0 ≤ c ∧ c ≤ 255) (hx0 : 0 ≤ x) (hx : x < p7 k0) : wrap64 c = c ∧ Go.bits .or .i64 x (shl .i64 (Go.bits .and .i64 c 127) (wrap64 (7 * (k0 : Int)))) = x + c % 128 * p7 k0 ∧ 0 ≤ x + c % 128 * p7 k0 ∧ x + c % 128 * p7 k0 < p7 (k0 + 1) := by
  have hp := p128 k0 k8 x (c % 128) hx0 hx (by omega) (by omega)
  refine ⟨w64 (by omega) (by omega), ?_, hp.2.2.1, hp.2.2.2.2⟩
  rw [show Go.bits .and .i64 c 127 = c % 128 from and_mask 7 (by decide) hc.1 (by omega)]
  exact shl7 k0 k8 x _ hx0 hx (by omega) (by omega)
theorem implGetNum_l (d : Nat) : ∀ (l : List Int) (at_ : Int) (k0 : Nat) (x : Int), By l → l.length ≤ 140737488355328 → 0 ≤ at_ → at_ ≤ 9223372036854775807 → k0 + d = 9 → 0 ≤ x → x < p7 k0 → Ev (fun k => impl_GetNum.l0 k l at_ x (k0 : Int)) (gn d l at_ k0 x) := by
  induction d with
  | zero =>
    intro l at_ k0 x hb hl h0 h1 hk hx0 hx
    refine Ev.step (f := fun k => impl_GetNum.j1 k l at_ x (k0 : Int) false) (fun k => ?_) ?_
    · simp only [impl_GetNum.l0]; rw [if_neg (by omega)]
    · refine Ev.step (f := fun _ => some (0, 0, false)) (fun k => ?_) (Ev.now _)
      simp only [impl_GetNum.j1]; rfl
  | succ d ih =>
    intro l at_ k0 x hb hl h0 h1 hk hx0 hx
    have k8 : k0 ≤ 8 := by omega
    have z0 : 0 ≤ at_ + (k0 : Int) := by omega
    have k9 : (k0 : Int) < 9 := by omega
    have e0 : wrap64 ((l.length : Int) - at_) = l.length - at_ := w64 (by omega) (by omega)
    have e6 : wrap64 ((k0 : Int) + 1) = ((k0 + 1 : Nat) : Int) := w64 (by omega) (by omega)
    have e7 : 0 ≤ wrap64 (7 * (k0 : Int)) := by rw [w64 (by omega) (by omega)]; omega
    have hk' : k0 + 1 + d = 9 := by omega
    have e14 : at_ + k0 < l.length → wrap64 (at_ + (k0 : Int)) = at_ + k0 ∧ wrap64 (at_ + (k0 : Int) + 1) = at_ + k0 + 1 ∧ (k0 : Int) < l.length - at_ := fun h => ⟨w64 (by omega) (by omega), w64 (by omega) (by omega), by omega⟩
    have e15 : ¬ at_ + k0 < l.length → ¬ (k0 : Int) < l.length - at_ := fun h => by omega
    obtain ⟨e2, e3, x0, x1⟩ := giStep k8 (hb.at_ (at_ + k0)) hx0 hx
    by_cases h : at_ + k0 < l.length
    · obtain ⟨e1, e4, h'⟩ := e14 h
      clear e14 e15
      refine Ev.step (f := fun k => impl_GetNum.j1 k l at_ x (k0 : Int) true) (fun k => ?_) ?_
      · simp only [impl_GetNum.l0, k9, e0, h', decide_true, ↓reduceIte]
      simp only [gn, h, ↓reduceIte]
      by_cases c1 : rd l (at_ + k0) < 128
      · have c1' : ¬ rd l (at_ + k0) > 127 := fun hh => absurd (Int.add_one_le_of_lt hh) (Int.not_le.2 c1)
        by_cases c2 : rd l (at_ + k0) = 0
        · by_cases c3 : 0 < k0
          · refine Ev.step (f := fun _ => some (0, 0, false)) (fun k => ?_) ?_
            · have c3' : (k0 : Int) > 0 := by omega
              simp only [impl_GetNum.j1, e1, z0, h, e7, ↓reduceIte]
              rw [e2, if_neg c1', if_pos c3', if_pos c2]
            · rw [if_pos c1, if_pos ⟨c2, c3⟩]; exact Ev.now _
          · refine Ev.step (f := fun _ => some (x + rd l (at_ + k0) % 128 * p7 k0, at_ + k0 + 1, true)) (fun k => ?_) ?_
            · have c3' : ¬ (k0 : Int) > 0 := by omega
              simp only [impl_GetNum.j1, e1, z0, h, e7, ↓reduceIte]
              rw [e2, if_neg c1', if_neg c3', e3, e4]
            · rw [if_pos c1, if_neg (fun hh => c3 hh.2)]; exact Ev.now _
        · refine Ev.step (f := fun _ => some (x + rd l (at_ + k0) % 128 * p7 k0, at_ + k0 + 1, true)) (fun k => ?_) ?_
          · simp only [impl_GetNum.j1, e1, z0, h, e7, ↓reduceIte]
            rw [e2, if_neg c1']
            by_cases c3 : (k0 : Int) > 0
            · rw [if_pos c3, if_neg c2, e3, e4]
            · rw [if_neg c3, e3, e4]
          · rw [if_pos c1, if_neg (fun hh => c2 hh.1)]; exact Ev.now _
      · have c1' : rd l (at_ + k0) > 127 := Int.lt_of_lt_of_le (by decide) (Int.not_lt.1 c1)
        refine Ev.step (f := fun k => impl_GetNum.l0 k l at_ (x + rd l (at_ + k0) % 128 * p7 k0) ((k0 + 1 : Nat) : Int)) (fun k => ?_) ?_
        · simp only [impl_GetNum.j1, e1, z0, h, e7, ↓reduceIte]
          rw [e2, if_pos c1', e3, e6]
        · rw [if_neg c1]; exact ih l at_ (k0 + 1) _ hb hl h0 h1 hk' x0 x1
    · have h' := e15 h
      clear e14 e15
      refine Ev.step (f := fun k => impl_GetNum.j1 k l at_ x (k0 : Int) false) (fun k => ?_) ?_
      · simp only [impl_GetNum.l0, k9, e0, h', decide_false, ↓reduceIte]
      · simp only [gn, h, ↓reduceIte]
        refine Ev.step (f := fun _ => some (0, 0, false)) (fun k => ?_) (Ev.now _)
        simp only [impl_GetNum.j1]; rfl
theorem implGetNum_ev (l : List Int) (at_ : Int) (hb : By l) (hl : l.length ≤ 140737488355328) (ha : at_ ≤ 9223372036854775807) : Ev (fun k => impl_GetNum.f k l at_) (getNum l at_) := by
  unfold impl_GetNum.f getNum
  by_cases h : at_ < 0
  · simp only [h, ↓reduceIte]; exact Ev.now _
  · simp only [h, ↓reduceIte]
    exact implGetNum_l 9 l at_ 0 0 hb hl (by omega) ha (by omega) (by omega) (by decide)

theorem rdNum_ev (l : List Int) (a : Int) (bad : Bool) (hb : By l) (hl : l.length ≤ 140737488355328) (ha : a ≤ 9223372036854775807) :
    Ev (fun k => rdNum k l a bad) (if bad = true then (0, a, true) else if (getNum l a).2.2 = true then ((getNum l a).1, (getNum l a).2.1, false) else (0, a, true)) := by
  unfold rdNum
  refine Ev.bind (implGetNum_ev l a hb hl ha) ?_
  exact Ev.now _
theorem rdNum_bad (l : List Int) (a : Int) (hb : By l) (hl : l.length ≤ 140737488355328) (ha : a ≤ 9223372036854775807) : Ev (fun k => rdNum k l a true) (0, a, true) := by
  have h := rdNum_ev l a true hb hl ha
  simpa using h
theorem rdNum_ok (l : List Int) (a : Int) (hb : By l) (hl : l.length ≤ 140737488355328) (ha : a ≤ 9223372036854775807) (h : (getNum l a).2.2 = true) : Ev (fun k => rdNum k l a false) ((getNum l a).1, (getNum l a).2.1, false) := by
  have h2 := rdNum_ev l a false hb hl ha
  simpa [h] using h2
theorem rdNum_no (l : List Int) (a : Int) (hb : By l) (hl : l.length ≤ 140737488355328) (ha : a ≤ 9223372036854775807) (h : (getNum l a).2.2 = false) : Ev (fun k => rdNum k l a false) (0, a, true) := by
  have h2 := rdNum_ev l a false hb hl ha
  simpa [h] using h2
theorem rdBytes_bad (l : List Int) (a n : Int) : rdBytes l a true n = some (ByteArray.empty, a, true) := rfl
theorem rdBytes_no (l : List Int) (a n : Int) (h0 : 0 ≤ a) (h1 : a ≤ l.length) (hl : l.length ≤ 140737488355328) (h : n > (l.length : Int) - a) : rdBytes l a false n = some (ByteArray.empty, a, true) := by
  unfold rdBytes
  rw [if_neg (by simp), if_pos (by rw [w64 (by omega) (by omega)]; exact h)]
theorem rdBytes_ok (l : List Int) (a n : Int) (h0 : 0 ≤ a) (h1 : a ≤ l.length) (hl : l.length ≤ 140737488355328) (hn : 0 ≤ n) (h : ¬ n > (l.length : Int) - a) : rdBytes l a false n = some (strOfNums ((l.take (a + n).toNat).drop a.toNat), a + n, false) := by
  unfold rdBytes
  rw [if_neg (by simp), if_neg (by rw [w64 (by omega) (by omega)]; exact h), if_pos ⟨h0, hn, by omega⟩]

def numV (l : List Int) (a : Int) (bad : Bool) : Int × Int × Bool := if bad = true then (0, a, true) else if (getNum l a).2.2 = true then ((getNum l a).1, (getNum l a).2.1, false) else (0, a, true)
def rcV (x1 x2 x3 x4 : Int) (d : ByteArray) (p : Int) (bad : Bool) : Int × Int × Int × Int × ByteArray × Int × Bool :=
  if bad = true then (0, 0, 0, 0, (⟨#[]⟩ : ByteArray), p, true) else if cmdOk x1 x2 x3 x4 d = true then (x1, x2, x3, x4, d, p, false) else (0, 0, 0, 0, (⟨#[]⟩ : ByteArray), p, true)
def bytesV (l : List Int) (p : Int) (bad : Bool) : ByteArray × Int × Bool := if bad = true then (ByteArray.empty, p, true) else if 32 > (l.length : Int) - p then (ByteArray.empty, p, true) else (seg32 l p, p + 32, false)
def rdCmdV (l : List Int) (a : Int) (bad : Bool) : Int × Int × Int × Int × ByteArray × Int × Bool :=
  if (numV l a bad).1 = 1 then rcV 1 0 0 0 (⟨#[]⟩ : ByteArray) (numV l a bad).2.1 (numV l a bad).2.2
  else if (numV l a bad).1 = 3 then (fun B : Int × Int × Bool => rcV 3 B.1 (numV l B.2.1 B.2.2).1 0 (⟨#[]⟩ : ByteArray) (numV l B.2.1 B.2.2).2.1 (numV l B.2.1 B.2.2).2.2) (numV l (numV l a bad).2.1 (numV l a bad).2.2)
  else if (numV l a bad).1 = 2 then (fun B : Int × Int × Bool => (fun D : Int × Int × Bool => rcV 2 B.1 0 D.1 (bytesV l D.2.1 D.2.2).1 (bytesV l D.2.1 D.2.2).2.1 (bytesV l D.2.1 D.2.2).2.2) (numV l B.2.1 B.2.2)) (numV l (numV l a bad).2.1 (numV l a bad).2.2)
  else rcV (numV l a bad).1 (numV l (numV l a bad).2.1 (numV l a bad).2.2).1 0 0 (⟨#[]⟩ : ByteArray) (numV l (numV l a bad).2.1 (numV l a bad).2.2).2.1 (numV l (numV l a bad).2.1 (numV l a bad).2.2).2.2
theorem numV_b (l : List Int) (a : Int) (bad : Bool) (hb : By l) (ha : a ≤ 9223372036854775807) (hl : l.length ≤ 140737488355328) : (numV l a bad).2.1 ≤ 9223372036854775807 ∧ ((numV l a bad).2.2 = false → 0 ≤ (numV l a bad).2.1 ∧ (numV l a bad).2.1 ≤ l.length) := by
  have h := getNum_b l a hb
  unfold numV
  cases bad
  · cases hk : (getNum l a).2.2
    · simp only [Bool.false_eq_true, ↓reduceIte]; exact ⟨ha, fun h => by simp at h⟩
    · simp only [Bool.false_eq_true, ↓reduceIte]; exact ⟨by omega, fun _ => by omega⟩
  · simp only [↓reduceIte]; exact ⟨ha, fun h => by simp at h⟩
theorem rdNum_ev' (l : List Int) (a : Int) (bad : Bool) (hb : By l) (hl : l.length ≤ 140737488355328) (ha : a ≤ 9223372036854775807) : Ev (fun k => rdNum k l a bad) (numV l a bad) := rdNum_ev l a bad hb hl ha
theorem rcFin_ev (x1 x2 x3 x4 : Int) (d : ByteArray) (p : Int) (bad : Bool) : Ev (fun k => rcFin k x1 x2 x3 x4 d p bad) (rcV x1 x2 x3 x4 d p bad) := by
  unfold rcFin rcV
  cases bad
  · simp only [Bool.false_eq_true, ↓reduceIte]
    refine Ev.bind (implCmdOk_ev x1 x2 x3 x4 d) ?_
    cases cmdOk x1 x2 x3 x4 d
    · simp only [Bool.false_eq_true, ↓reduceIte]; exact Ev.now _
    · simp only [↓reduceIte]; exact Ev.now _
  · simp only [↓reduceIte]; exact Ev.now _
theorem rdBytes_V (l : List Int) (p : Int) (bad : Bool) (hl : l.length ≤ 140737488355328) (h : bad = false → 0 ≤ p ∧ p ≤ l.length) : rdBytes l p bad 32 = some (bytesV l p bad) := by
  unfold bytesV
  cases bad
  · obtain ⟨h0, h1⟩ := h rfl
    by_cases c : 32 > (l.length : Int) - p
    · rw [rdBytes_no l p 32 h0 h1 hl c]; simp only [Bool.false_eq_true, ↓reduceIte, c]
    · rw [rdBytes_ok l p 32 h0 h1 hl (by omega) c]; simp only [Bool.false_eq_true, ↓reduceIte, c]; rfl
  · rw [rdBytes_bad]; simp only [↓reduceIte]
theorem rdCmd_ev (l : List Int) (a : Int) (bad : Bool) (hb : By l) (hl : l.length ≤ 140737488355328) (ha : a ≤ 9223372036854775807) : Ev (fun k => rdCmd k l a bad) (rdCmdV l a bad) := by
  have b1 := numV_b l a bad hb ha hl
  unfold rdCmd rdCmdV
  refine Ev.bind (rdNum_ev' l a bad hb hl ha) ?_
  generalize numV l a bad = A at *
  obtain ⟨x1, p1, o1⟩ := A
  simp only at b1 ⊢
  have b2 := numV_b l p1 o1 hb b1.1 hl
  have n2 := rdNum_ev' l p1 o1 hb hl b1.1
  by_cases e1 : x1 = 1
  · simp only [e1, ↓reduceIte]; exact rcFin_ev _ _ _ _ _ _ _
  simp only [e1, ↓reduceIte]
  refine Ev.bind n2 ?_
  generalize numV l p1 o1 = B at *
  obtain ⟨x2, p2, o2⟩ := B
  simp only at b2 ⊢
  have b3 := numV_b l p2 o2 hb b2.1 hl
  have n3 := rdNum_ev' l p2 o2 hb hl b2.1
  by_cases e3 : x1 = 3
  · simp only [e3, ↓reduceIte]
    refine Ev.bind n3 ?_
    exact rcFin_ev _ _ _ _ _ _ _
  simp only [e3, ↓reduceIte]
  by_cases e2 : x1 = 2
  · simp only [e2, ↓reduceIte]
    refine Ev.bind n3 ?_
    rw [rdBytes_V l _ _ hl b3.2]
    simp only [Option.bind_some]
    exact rcFin_ev _ _ _ _ _ _ _
  · simp only [e2, ↓reduceIte]
    exact rcFin_ev _ _ _ _ _ _ _
theorem rcV_true (x1 x2 x3 x4 : Int) (d : ByteArray) (p : Int) : rcV x1 x2 x3 x4 d p true = (0, 0, 0, 0, (⟨#[]⟩ : ByteArray), p, true) := rfl
theorem numV_true (l : List Int) (a : Int) : numV l a true = (0, a, true) := rfl
theorem bytesV_true (l : List Int) (p : Int) : bytesV l p true = (ByteArray.empty, p, true) := rfl
theorem rdCmdV_bad (l : List Int) (a : Int) : (rdCmdV l a true).2.2.2.2.2.2 = true := by
  unfold rdCmdV
  simp only [numV_true, show ¬ ((0 : Int) = 1) by decide, show ¬ ((0 : Int) = 3) by decide, show ¬ ((0 : Int) = 2) by decide, ↓reduceIte, rcV_true]
/-- What the reader's command comes to, against the reference's. -/
def outC (v : Int × Int × Int × Int × ByteArray × Int × Bool) : Int × Int × Int × Int × ByteArray × Int × Bool := if v.2.2.2.2.2.2 = true then zC else (v.1, v.2.1, v.2.2.1, v.2.2.2.1, v.2.2.2.2.1, v.2.2.2.2.2.1, true)
theorem outC_rcV (x1 x2 x3 x4 : Int) (d : ByteArray) (p : Int) : outC (rcV x1 x2 x3 x4 d p false) = cmFin x1 x2 x3 x4 d p := by
  unfold outC rcV cmFin
  cases cmdOk x1 x2 x3 x4 d <;> simp
theorem outC_bad (x1 x2 x3 x4 : Int) (d : ByteArray) (p : Int) : outC (rcV x1 x2 x3 x4 d p true) = zC := rfl
theorem rdCmdV_out (l : List Int) (a : Int) : outC (rdCmdV l a false) = cmdRead l a := by
  unfold rdCmdV cmdRead cmA
  cases hk : (getNum l a).2.2
  · have hn : numV l a false = (0, a, true) := by unfold numV; simp [hk]
    simp only [hn, numV_true, show ¬ ((0 : Int) = 1) by decide, show ¬ ((0 : Int) = 3) by decide, show ¬ ((0 : Int) = 2) by decide, Bool.false_eq_true, false_and, ↓reduceIte, outC_bad]
  have hn : numV l a false = ((getNum l a).1, (getNum l a).2.1, false) := by unfold numV; simp [hk]
  simp only [hn, true_and]
  generalize getNum l a = G at *
  obtain ⟨x1, p1, o1⟩ := G
  simp only at hk hn ⊢
  by_cases e1 : x1 = 1
  · subst e1
    simp only [↓reduceIte, outC_rcV, cmFin, cmdOk_one, Int.le_refl, show (1 : Int) ≤ 5 by decide, and_self]
  simp only [e1, ↓reduceIte]
  unfold cmB
  cases hk2 : (getNum l p1).2.2
  · have hn2 : numV l p1 false = (0, p1, true) := by unfold numV; simp [hk2]
    simp only [hn2, numV_true, bytesV_true, outC_bad, Bool.false_eq_true, ↓reduceIte, ite_self]
    split
    · rfl
    · split <;> rfl
  have hn2 : numV l p1 false = ((getNum l p1).1, (getNum l p1).2.1, false) := by unfold numV; simp [hk2]
  simp only [hn2, ↓reduceIte]
  generalize getNum l p1 = G2 at *
  obtain ⟨x2, p2, o2⟩ := G2
  simp only at hk2 hn2 ⊢
  by_cases e3 : x1 = 3
  · subst e3
    simp only [↓reduceIte, show (1 : Int) ≤ 3 ∧ (3 : Int) ≤ 5 from ⟨by decide, by decide⟩, and_self]
    unfold cm3
    cases hk3 : (getNum l p2).2.2
    · have hn3 : numV l p2 false = (0, p2, true) := by unfold numV; simp [hk3]
      simp only [hn3, outC_bad, Bool.false_eq_true, ↓reduceIte]
    · have hn3 : numV l p2 false = ((getNum l p2).1, (getNum l p2).2.1, false) := by unfold numV; simp [hk3]
      simp only [hn3, outC_rcV, ↓reduceIte]
  by_cases e2 : x1 = 2
  · subst e2
    simp only [show ¬ ((2 : Int) = 3) by decide, ↓reduceIte, show (1 : Int) ≤ 2 ∧ (2 : Int) ≤ 5 from ⟨by decide, by decide⟩, and_self]
    unfold cm2
    cases hk3 : (getNum l p2).2.2
    · have hn3 : numV l p2 false = (0, p2, true) := by unfold numV; simp [hk3]
      simp only [hn3, bytesV_true, outC_bad, Bool.false_eq_true, ↓reduceIte]
    · have hn3 : numV l p2 false = ((getNum l p2).1, (getNum l p2).2.1, false) := by unfold numV; simp [hk3]
      simp only [hn3, ↓reduceIte]
      unfold bytesV
      by_cases c : 32 ≤ (l.length : Int) - (getNum l p2).2.1
      · rw [if_neg (show ¬ (false = true) by decide), if_neg (show ¬ 32 > (l.length : Int) - (getNum l p2).2.1 by omega), if_pos c]
        exact outC_rcV _ _ _ _ _ _
      · rw [if_neg (show ¬ (false = true) by decide), if_pos (show 32 > (l.length : Int) - (getNum l p2).2.1 by omega), if_neg c]
        rfl
  simp only [e3, e2, ↓reduceIte, outC_rcV]
  by_cases hin : 1 ≤ x1 ∧ x1 ≤ 5
  · rw [if_pos hin]
  · rw [if_neg hin]
    unfold cmFin
    rw [cmdOk_out _ _ _ _ _ hin]
    rfl

theorem rrEnd_ev (l : List Int) (x0 x1 x2 x3 x4 x5 x6 x7 x8 : Int) (x9 : ByteArray) (p : Int) : Ev (fun k => rrEnd k l x0 x1 x2 x3 x4 x5 x6 x7 x8 x9 p false) (recFin l x0 x1 x2 x3 x4 x5 x6 x7 x8 x9 p) := by
  unfold rrEnd recFin
  simp only [Bool.false_eq_true, ↓reduceIte]
  by_cases h : p = (l.length : Int)
  · simp only [h, decide_true, ↓reduceIte]
    refine Ev.bind (implRecOk_ev x0 x1 x2 x3 x4 x5 x6 x7 x8 x9) ?_
    cases recOk x0 x1 x2 x3 x4 x5 x6 x7 x8 x9
    · simp only [Bool.false_eq_true, ↓reduceIte]; exact Ev.now _
    · simp only [↓reduceIte]; exact Ev.now _
  · simp only [h, decide_false, Bool.false_eq_true, ↓reduceIte]; exact Ev.now _
theorem rrEnd_bad (k : Nat) (l : List Int) (x0 x1 x2 x3 x4 x5 x6 x7 x8 : Int) (x9 : ByteArray) (p : Int) : rrEnd k l x0 x1 x2 x3 x4 x5 x6 x7 x8 x9 p true = some zR := rfl
theorem numV_ok (l : List Int) (a : Int) (h : (getNum l a).2.2 = true) : numV l a false = ((getNum l a).1, (getNum l a).2.1, false) := by unfold numV; simp [h]
theorem numV_no (l : List Int) (a : Int) (h : (getNum l a).2.2 = false) : numV l a false = (0, a, true) := by unfold numV; simp [h]
theorem rrAt_ev (l : List Int) (hb : By l) (hl : l.length ≤ 140737488355328) : Ev (fun k => rrAt k l) (recRead l) := by
  have b1 := getNum_b l 0 hb
  unfold rrAt recRead rrA
  cases hk : (getNum l 0).2.2
  · have n1 := rdNum_ev' l 0 false hb hl (by omega)
    rw [numV_no l 0 hk] at n1
    refine Ev.bind n1 ?_
    rw [getNum_no l 0 hk]
    simp only [show ¬ ((0 : Int) = 1) by decide, show ¬ ((0 : Int) = 3) by decide, show ¬ ((0 : Int) = 2) by decide, ↓reduceIte, rrEnd_bad]
    exact Ev.now _
  have n1 := rdNum_ev' l 0 false hb hl (by omega)
  rw [numV_ok l 0 hk] at n1
  refine Ev.bind n1 ?_
  clear n1 hk
  generalize getNum l 0 = G1 at *
  obtain ⟨x1, p1, o1⟩ := G1
  simp only at b1 ⊢
  have b2 := getNum_b l p1 hb
  have n2 := rdNum_ev' l p1 false hb hl (by omega)
  by_cases e1 : x1 = 1
  · simp only [e1, ↓reduceIte]
    unfold rr1
    cases hk : (getNum l p1).2.2
    · rw [numV_no l p1 hk] at n2
      refine Ev.bind n2 ?_
      refine Ev.bind (rdNum_ev' l p1 true hb hl (by omega)) ?_
      simp only [numV_true, rrEnd_bad, Bool.false_eq_true, ↓reduceIte]
      exact Ev.now _
    rw [numV_ok l p1 hk] at n2
    refine Ev.bind n2 ?_
    simp only [↓reduceIte]
    generalize getNum l p1 = G2 at *
    obtain ⟨x2, p2, o2⟩ := G2
    simp only at b2 ⊢
    have n3 := rdNum_ev' l p2 false hb hl (by omega)
    unfold rr1b
    cases hk3 : (getNum l p2).2.2
    · rw [numV_no l p2 hk3] at n3
      refine Ev.bind n3 ?_
      simp only [rrEnd_bad, Bool.false_eq_true, ↓reduceIte]
      exact Ev.now _
    · rw [numV_ok l p2 hk3] at n3
      refine Ev.bind n3 ?_
      simp only [↓reduceIte]
      exact rrEnd_ev _ _ _ _ _ _ _ _ _ _ _ _
  simp only [e1, ↓reduceIte]
  by_cases e2 : x1 = 2
  · simp only [e2, ↓reduceIte]
    unfold rr2
    cases hk : (getNum l p1).2.2
    · rw [numV_no l p1 hk] at n2
      refine Ev.bind n2 ?_
      refine Ev.bind (rdNum_ev' l p1 true hb hl (by omega)) ?_
      simp only [numV_true]
      refine Ev.bind (rdCmd_ev l p1 true hb hl (by omega)) ?_
      rw [rdCmdV_bad]
      simp only [rrEnd_bad, Bool.false_eq_true, ↓reduceIte]
      exact Ev.now _
    rw [numV_ok l p1 hk] at n2
    refine Ev.bind n2 ?_
    simp only [↓reduceIte]
    generalize getNum l p1 = G2 at *
    obtain ⟨x2, p2, o2⟩ := G2
    simp only at b2 ⊢
    have b3 := getNum_b l p2 hb
    have n3 := rdNum_ev' l p2 false hb hl (by omega)
    unfold rr2b
    cases hk3 : (getNum l p2).2.2
    · rw [numV_no l p2 hk3] at n3
      refine Ev.bind n3 ?_
      refine Ev.bind (rdCmd_ev l p2 true hb hl (by omega)) ?_
      rw [rdCmdV_bad]
      simp only [rrEnd_bad, Bool.false_eq_true, ↓reduceIte]
      exact Ev.now _
    rw [numV_ok l p2 hk3] at n3
    refine Ev.bind n3 ?_
    simp only [↓reduceIte]
    generalize getNum l p2 = G3 at *
    obtain ⟨x3, p3, o3⟩ := G3
    simp only at b3 ⊢
    refine Ev.bind (rdCmd_ev l p3 false hb hl (by omega)) ?_
    rw [← rdCmdV_out l p3]
    generalize rdCmdV l p3 false = D
    obtain ⟨d1, d2, d3, d4, d5, d6, d7⟩ := D
    unfold rr2c outC
    cases d7
    · simp only [Bool.false_eq_true, ↓reduceIte]
      exact rrEnd_ev _ _ _ _ _ _ _ _ _ _ _ _
    · simp only [rrEnd_bad, ↓reduceIte, zC, Bool.false_eq_true]
      exact Ev.now _
  simp only [e2, ↓reduceIte]
  by_cases e3 : x1 = 3
  · simp only [e3, ↓reduceIte]
    unfold rr3
    cases hk : (getNum l p1).2.2
    · rw [numV_no l p1 hk] at n2
      refine Ev.bind n2 ?_
      simp only [rrEnd_bad, Bool.false_eq_true, ↓reduceIte]
      exact Ev.now _
    · rw [numV_ok l p1 hk] at n2
      refine Ev.bind n2 ?_
      simp only [↓reduceIte]
      exact rrEnd_ev _ _ _ _ _ _ _ _ _ _ _ _
  simp only [e3, ↓reduceIte]
  have := rrEnd_ev l x1 0 0 0 0 0 0 0 0 (⟨#[]⟩ : ByteArray) p1
  unfold recFin at this
  rw [recOk_out _ _ _ _ _ _ _ _ _ _ e1 e2 e3] at this
  simpa using this
theorem implRecRead_ev (s : ByteArray) (hs : s.size ≤ 140737488351232) : Ev (fun k => impl_RecRead.f k s) (recRead (bytesOf s)) := by
  have hl := bytesOf_length s
  unfold impl_RecRead.f
  simp only [show s.size ≤ 9223372036854775807 by omega, ↓reduceIte]
  exact rrAt_ev _ (bytesOf_by s) (by omega)

theorem FnExactRecRead : laws_FnExactRecRead.Pure := by
  intro s hs
  apply Ev.rounds
  unfold laws_FnExactRecRead.f
  by_cases h : (s.size : Int) > 1048576
  · simp only [h, ↓reduceIte]; exact Ev.now _
  · simp only [h, ↓reduceIte]
    refine Ev.bind (specRecRead_ev s (by omega)) ?_
    refine Ev.bind (implRecRead_ev s hs) ?_
    generalize recRead (bytesOf s) = U
    obtain ⟨u1, u2, u3, u4, u5, u6, u7, u8, u9, u10, u11⟩ := U
    simp only [laws_eqRec.f, laws_eqEntry.f, laws_eqCmd.f, ↓reduceIte, Option.bind_some, bne_self_eq_false, Bool.false_eq_true]
    exact Ev.now _

end Go.Proofs.Ytkfoojknjmgjdaa.Pure
