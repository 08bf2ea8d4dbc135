/- RecPack of the program and of the reference give the same text and the same word for every record; no condition. -/
import Derived.Test.YtkfoojknjmgjdaaQFnExactRecPackx8
namespace Go.Proofs.Ytkfoojknjmgjdaa.Pure
open Go.RowKit Go.Proofs.Ytkfoojknjmgjdaa.QFnExactRecPack Go.Proofs.YtkfoojknjmgjdaaW.PrintWords Go.Proofs.YtkfoojknjmgjdaaW.PrintLast
set_option linter.unusedVariables false
set_option linter.unusedSimpArgs false
theorem w64 {x : Int} (h0 : -9223372036854775808 ≤ x) (h1 : x ≤ 9223372036854775807) : wrap64 x = x := by
  unfold wrap64; omega
def By (l : List Int) : Prop := ∀ x ∈ l, 0 ≤ x ∧ x ≤ 255
theorem by_wf {l : List Int} (h : ∀ x ∈ l, (Lit.int .u8 x).wf = true) : By l := fun x hx => by
  have := h x hx
  simpa [Lit.wf, IntKind.min, IntKind.max, IntKind.bits, IntKind.signed] using this
theorem i64_wf {x : Int} (h : (Lit.int .i64 x).wf = true) : -9223372036854775808 ≤ x ∧ x ≤ 9223372036854775807 := by
  simpa [Lit.wf, IntKind.min, IntKind.max, IntKind.bits, IntKind.signed] using h
theorem rd_nat (l : List Int) (i : Nat) : rd l (i : Int) = l.getD i 0 := by simp [rd]
theorem By.at_ {l : List Int} (h : By l) (i : Int) : 0 ≤ rd l i ∧ rd l i ≤ 255 := by
  unfold rd
  rw [List.getD_eq_getElem?_getD]
  rcases Nat.lt_or_ge i.toNat l.length with hi | hi
  · rw [List.getElem?_eq_getElem hi]; exact h _ (List.getElem_mem hi)
  · rw [List.getElem?_eq_none hi]; simp
theorem wraps_i64 (n : Int) (h₀ : 0 ≤ n) (h₁ : n < 2 ^ 63) : IntKind.i64.wrap n = n := by rw [IntKind.wrap_i64]; omega
theorem and_mask (i : Nat) (hi : i ≤ 63) {x : Int} (h₀ : 0 ≤ x) (h₁ : x ≤ 9223372036854775807) : Go.bits .and .i64 x (2 ^ i - 1) = x % 2 ^ i :=
  bits_mask .i64 63 (by decide) wraps_i64 i hi x h₀ (by omega)
theorem or_join (i : Nat) {x y : Int} (hx₀ : 0 ≤ x) (hx : x % 2 ^ i = 0) (hx₁ : x ≤ 9223372036854775807) (hy₀ : 0 ≤ y) (hy : y < 2 ^ i) (hy₁ : y ≤ 9223372036854775807) : Go.bits .or .i64 x y = x + y :=
  bits_join .i64 63 (by decide) wraps_i64 i x y hx₀ hx (by omega) hy₀ hy (by omega)

def inr (a b c : Int) : Bool := decide (b ≤ a ∧ a ≤ c)
theorem ba_nil : (⟨#[]⟩ : ByteArray).toList = [] := by rw [ByteArray.toList, ByteArray.toList.loop]; rfl
theorem if_eq0 (a c : Int) (x : Bool) : (if a = c then some x else some false) = some (a == c && x) := by
  by_cases h : a = c
  · subst h; simp
  · have b : (a == c) = false := by simpa using h
    simp [h, b]
theorem if_tt (b x : Bool) : (if b = true then some x else some false) = some (b && x) := by cases b <;> rfl

def cmdOk (kind rel node size : Int) (dig : ByteArray) : Bool :=
  if kind = 1 then (rel == 0 && (node == 0 && (size == 0 && (dig.toList == ([] : List UInt8)))))
  else if kind = 2 then (inr rel 1 1000 && (inr size 0 1000 && (decide ((dig.size : Int) = 32) && (node == 0))))
  else if kind = 3 then (inr rel 1 1000 && (inr node 0 4 && (size == 0 && (dig.toList == ([] : List UInt8)))))
  else if kind = 4 ∨ kind = 5 then (inr rel 1 1000 && (node == 0 && (size == 0 && (dig.toList == ([] : List UInt8)))))
  else false

def entryOk (term ek er en es : Int) (dig : ByteArray) : Bool := inr term 1 1000000000 && cmdOk ek er en es dig
def zero6 (et ek er en es : Int) (dig : ByteArray) : Bool := et == 0 && ((ek == 0 && (er == 0 && (en == 0 && (es == 0 && (dig.toList == ([] : List UInt8)))))))
def recOk (kind term vote pos et ek er en es : Int) (dig : ByteArray) : Bool :=
  if kind = 1 then (inr term 0 1000000000 && (inr vote 0 5 && (pos == 0 && zero6 et ek er en es dig)))
  else if kind = 2 then (inr pos 1 80 && (entryOk et ek er en es dig && (term == 0 && vote == 0)))
  else if kind = 3 then (inr pos 0 80 && (term == 0 && (vote == 0 && zero6 et ek er en es dig)))
  else false

theorem l1In_eq (a b c : Int) : spec_l1In.f a b c = some (inr a b c) := by
  unfold spec_l1In.f inr
  by_cases h : a ≥ b
  · rw [if_pos h]; congr 1; by_cases h2 : a ≤ c <;> simp [h, h2]
  · rw [if_neg h]; congr 1; simp; omega

theorem specCmdOk_ev (kind rel node size : Int) (dig : ByteArray) : Ev (fun k => spec_CmdOk.f k kind rel node size dig) (cmdOk kind rel node size dig) := by
  unfold spec_CmdOk.f
  simp only [l1In_eq, Option.bind_some]
  by_cases h1 : kind = 1
  · simp only [cmdOk, h1, ↓reduceIte]; exact Ev.now _
  · simp only [h1, ↓reduceIte]
    by_cases h2 : 2 ≤ kind ∧ kind ≤ 5
    · have e : inr kind 2 5 = true := decide_eq_true h2
      simp only [e, ↓reduceIte]
      refine Ev.step (f := fun _ => some (cmdOk kind rel node size dig)) (fun k => ?_) (Ev.now _)
      simp only [spec_CmdOk.j0, l1In_eq, Option.bind_some, ba_nil, cmdOk]
      have h3 : kind = 2 ∨ kind = 3 ∨ kind = 4 ∨ kind = 5 := by omega
      cases inr rel 1 1000 <;> rcases h3 with rfl | rfl | rfl | rfl <;> cases inr size 0 1000 <;> cases inr node 0 4 <;> by_cases hd : (dig.size : Int) = 32 <;> simp [hd]
    · have e : inr kind 2 5 = false := decide_eq_false h2
      simp only [e, Bool.false_eq_true, ↓reduceIte]
      refine Ev.step (f := fun _ => some false) (fun k => ?_) ?_
      · simp only [spec_CmdOk.j0, ↓reduceIte]
      · have : cmdOk kind rel node size dig = false := by
          unfold cmdOk
          rw [if_neg h1, if_neg (by omega), if_neg (by omega), if_neg (by omega)]
        rw [this]; exact Ev.now _

theorem l1Whole_eq (a : Int) : spec_l1Whole.f a = some (inr a 0 1000000000) := by unfold spec_l1Whole.f; rw [l1In_eq]; rfl
theorem l6Entry_ev (term ek er en es : Int) (dig : ByteArray) : Ev (fun k => spec_l6Entry.f k term ek er en es dig) (entryOk term ek er en es dig) := by
  unfold spec_l6Entry.f entryOk
  simp only [l1In_eq, Option.bind_some]
  cases inr term 1 1000000000
  · simp only [Bool.false_eq_true, ↓reduceIte, Bool.false_and]; exact Ev.now _
  · simp only [↓reduceIte, Bool.true_and]
    refine Ev.bind (specCmdOk_ev ek er en es dig) ?_
    exact Ev.now _
theorem specRecOk_ev (kind term vote pos et ek er en es : Int) (dig : ByteArray) : Ev (fun k => spec_RecOk.f k kind term vote pos et ek er en es dig) (recOk kind term vote pos et ek er en es dig) := by
  unfold spec_RecOk.f recOk
  simp only [l1In_eq, l1Whole_eq, Option.bind_some]
  by_cases h1 : kind = 1
  · simp only [h1, ↓reduceIte]
    cases inr term 0 1000000000 <;> cases inr vote 0 5 <;> simp only [Bool.false_eq_true, ↓reduceIte, Bool.false_and, Bool.true_and] <;> exact Ev.now _
  · by_cases h2 : kind = 2
    · simp only [h2, ↓reduceIte, show ¬ (2 : Int) = 1 by omega]
      cases inr pos 1 80
      · simp only [Bool.false_eq_true, ↓reduceIte, Bool.false_and]; exact Ev.now _
      · simp only [↓reduceIte, Bool.true_and]
        refine Ev.bind (l6Entry_ev et ek er en es dig) ?_
        cases entryOk et ek er en es dig <;> simp only [Bool.false_eq_true, ↓reduceIte, Bool.false_and, Bool.true_and] <;> exact Ev.now _
    · by_cases h3 : kind = 3
      · simp only [h3, ↓reduceIte, show ¬ (3 : Int) = 1 by omega, show ¬ (3 : Int) = 2 by omega]
        cases inr pos 0 80 <;> simp only [Bool.false_eq_true, ↓reduceIte, Bool.false_and, Bool.true_and] <;> exact Ev.now _
      · simp only [h1, h2, h3, ↓reduceIte]; exact Ev.now _

theorem within_eq (a b c : Int) : impl_within.f a b c = some (inr a b c) := by
  unfold impl_within.f inr
  by_cases h : a ≥ b
  · rw [if_pos h]; congr 1; by_cases h2 : a ≤ c <;> simp [h, h2]
  · rw [if_neg h]; congr 1; simp; omega

theorem isRelease_eq (a : Int) : impl_isRelease.f a = some (inr a 1 1000) := by unfold impl_isRelease.f; rw [within_eq]; rfl
theorem isSize_eq (a : Int) : impl_isSize.f a = some (inr a 0 1000) := by unfold impl_isSize.f; rw [within_eq]; rfl
theorem isNode_eq (a : Int) : impl_isNode.f a = some (inr a 0 4) := by unfold impl_isNode.f; rw [within_eq]; rfl
theorem implCmdOk_j2 (k : Nat) (x : Bool) (a b c d : Int) (s : ByteArray) : impl_CmdOk.j2 (k + 1) x a b c d s = some (x && (a == 0 && (b == 0 && (c == 0 && (d == 0 && (s.toList == ([] : List UInt8))))))) := by
  simp only [impl_CmdOk.j2]; cases x <;> simp
theorem implCmdOk_ev (kind rel node size : Int) (dig : ByteArray) : Ev (fun k => impl_CmdOk.f k kind rel node size dig) (cmdOk kind rel node size dig) := by
  refine ⟨3, fun k hk => ?_⟩
  obtain ⟨k, rfl⟩ : ∃ m, k = m + 3 := ⟨k - 3, by omega⟩
  unfold impl_CmdOk.f
  simp only [isRelease_eq, isSize_eq, isNode_eq, Option.bind_some, cmdOk]
  by_cases h1 : kind = 1
  · simp only [h1, ↓reduceIte]; rw [implCmdOk_j2]; simp
  · by_cases h2 : kind = 2
    · simp only [h2, ↓reduceIte]
      cases inr rel 1 1000 <;> cases inr size 0 1000 <;> by_cases hd : (dig.size : Int) = 32 <;> simp [impl_CmdOk.j0, implCmdOk_j2, ba_nil, hd]
    · by_cases h3 : kind = 3
      · simp only [h3, ↓reduceIte]
        cases inr rel 1 1000 <;> cases inr node 0 4 <;> simp [impl_CmdOk.j1, implCmdOk_j2]
      · by_cases h4 : kind = 4
        · simp only [h4, ↓reduceIte]
          cases inr rel 1 1000 <;> simp [impl_CmdOk.j1, implCmdOk_j2]
        · by_cases h5 : kind = 5
          · simp only [h5, ↓reduceIte]
            cases inr rel 1 1000 <;> simp [impl_CmdOk.j1, implCmdOk_j2]
          · simp [h1, h2, h3, h4, h5, impl_CmdOk.j1]

theorem isWhole_eq (a : Int) : impl_isWhole.f a = some (inr a 0 1000000000) := by unfold impl_isWhole.f; rw [within_eq]; rfl
theorem entryOk_ev (term ek er en es : Int) (dig : ByteArray) : Ev (fun k => impl_entryOk.f k term ek er en es dig) (entryOk term ek er en es dig) := by
  unfold impl_entryOk.f entryOk
  simp only [within_eq, Option.bind_some]
  cases inr term 1 1000000000
  · simp only [Bool.false_eq_true, ↓reduceIte, Bool.false_and]; exact Ev.now _
  · simp only [↓reduceIte, Bool.true_and]
    refine Ev.bind (implCmdOk_ev ek er en es dig) ?_
    exact Ev.now _
theorem implRecOk_ev (kind term vote pos et ek er en es : Int) (dig : ByteArray) : Ev (fun k => impl_RecOk.f k kind term vote pos et ek er en es dig) (recOk kind term vote pos et ek er en es dig) := by
  unfold impl_RecOk.f recOk
  simp only [within_eq, isWhole_eq, Option.bind_some]
  by_cases h1 : kind = 1
  · simp only [h1, ↓reduceIte, if_eq0, if_tt]
    exact Ev.now _
  · by_cases h2 : kind = 2
    · simp only [h2, ↓reduceIte, show ¬ (2 : Int) = 1 by omega, if_eq0]
      cases inr pos 1 80
      · simp only [Bool.false_eq_true, ↓reduceIte, Bool.false_and]; exact Ev.now _
      · simp only [↓reduceIte, Bool.true_and]
        refine Ev.bind (entryOk_ev et ek er en es dig) ?_
        simp only [if_tt]
        exact Ev.now _
    · by_cases h3 : kind = 3
      · simp only [h3, ↓reduceIte, show ¬ (3 : Int) = 1 by omega, show ¬ (3 : Int) = 2 by omega, if_eq0, if_tt]
        exact Ev.now _
      · simp only [h1, h2, h3, ↓reduceIte]; exact Ev.now _

def putNum (x : Int) : List Int := if h : x > 127 then (x % 128 + 128) :: putNum (x / 128) else [x]
termination_by x.toNat
decreasing_by omega
theorem putNum_big {x : Int} (h : x > 127) : putNum x = (x % 128 + 128) :: putNum (x / 128) := by rw [putNum]; simp [h]
theorem putNum_small {x : Int} (h : ¬ x > 127) : putNum x = [x] := by rw [putNum]; simp [h]
theorem putNum_by (m : Nat) : ∀ x : Int, 0 ≤ x → x < 128 ^ (m + 1) → By (putNum x) ∧ (putNum x).length ≤ m + 1 ∧ 1 ≤ (putNum x).length := by
  induction m with
  | zero =>
    intro x h0 h1
    have h1 : x < 128 := by simpa using h1
    rw [putNum_small (by omega)]
    refine ⟨fun y hy => ?_, by simp, by simp⟩
    simp at hy; omega
  | succ m ih =>
    intro x h0 h1
    by_cases h : x > 127
    · rw [putNum_big h]
      obtain ⟨h2, h3, h4⟩ := ih (x / 128) (by omega) (by rw [Int.pow_succ] at h1; omega)
      refine ⟨fun y hy => ?_, by simp; omega, by simp⟩
      rcases List.mem_cons.1 hy with rfl | hy
      · omega
      · exact h2 y hy
    · rw [putNum_small h]
      refine ⟨fun y hy => ?_, by simp, by simp⟩
      simp at hy; omega
theorem putNum_b9 {x : Int} (h0 : 0 ≤ x) (h1 : x ≤ 9223372036854775807) : By (putNum x) ∧ (putNum x).length ≤ 9 ∧ 1 ≤ (putNum x).length := putNum_by 8 x h0 (by omega)

theorem cmdOk_k {kind rel node size : Int} {dig : ByteArray} (h : cmdOk kind rel node size dig = true) : (kind = 1 ∨ kind = 2 ∨ kind = 3 ∨ kind = 4 ∨ kind = 5) ∧ (kind ≠ 1 → 1 ≤ rel ∧ rel ≤ 1000) ∧ (kind = 3 → 0 ≤ node ∧ node ≤ 4) ∧ (kind = 2 → (0 ≤ size ∧ size ≤ 1000) ∧ (dig.size : Int) = 32) := by
  unfold cmdOk at h
  by_cases h1 : kind = 1
  · exact ⟨.inl h1, fun c => absurd h1 c, fun c => by omega, fun c => by omega⟩
  rw [if_neg h1] at h
  by_cases h2 : kind = 2
  · rw [if_pos h2] at h
    simp only [Bool.and_eq_true, inr, decide_eq_true_eq] at h
    exact ⟨by omega, fun _ => h.1, fun c => by omega, fun _ => ⟨h.2.1, h.2.2.1⟩⟩
  rw [if_neg h2] at h
  by_cases h3 : kind = 3
  · rw [if_pos h3] at h
    simp only [Bool.and_eq_true, inr, decide_eq_true_eq] at h
    exact ⟨by omega, fun _ => h.1, fun _ => h.2.1, fun c => by omega⟩
  rw [if_neg h3] at h
  by_cases h4 : kind = 4 ∨ kind = 5
  · rw [if_pos h4] at h
    simp only [Bool.and_eq_true, inr, decide_eq_true_eq] at h
    exact ⟨by omega, fun _ => h.1, fun c => by omega, fun c => by omega⟩
  · rw [if_neg h4] at h; simp at h
def cmdPack (kind rel node size : Int) (dig : ByteArray) : List Int × Bool :=
  if cmdOk kind rel node size dig = true then
    (if kind = 1 then (putNum kind, true) else if kind = 2 then (putNum kind ++ putNum rel ++ putNum size ++ bytesOf dig, true) else if kind = 3 then (putNum kind ++ putNum rel ++ putNum node, true) else (putNum kind ++ putNum rel, true))
  else ([], false)
theorem cmdPack_len (kind rel node size : Int) (dig : ByteArray) : (cmdPack kind rel node size dig).1.length ≤ 60 := by
  unfold cmdPack
  split
  · rename_i h
    obtain ⟨k0, k1, k2, k3⟩ := cmdOk_k h
    have l0 := (putNum_b9 (x := kind) (by omega) (by omega)).2.1
    split
    · simp only; omega
    · rename_i h1
      have k1 := k1 h1
      have l1 := (putNum_b9 (x := rel) (by omega) (by omega)).2.1
      split
      · rename_i h2
        have k3 := k3 h2
        have l2 := (putNum_b9 (x := size) (by omega) (by omega)).2.1
        simp only [List.length_append, bytesOf_length]; omega
      · split
        · rename_i h3
          have k2 := k2 h3
          have l2 := (putNum_b9 (x := node) (by omega) (by omega)).2.1
          simp only [List.length_append]; omega
        · simp only [List.length_append]; omega
  · simp

theorem specPutNum_l (m : Nat) : ∀ (x : Int) (acc : List Int), 0 ≤ x → x ≤ 9223372036854775807 → x < 128 ^ (m + 1) → acc.length + m ≤ 140737488355327 → Ev (fun k => spec_PutNum.l0 k x acc) (acc ++ putNum x) := by
  induction m with
  | zero =>
    intro x acc h0 h9 h1 hl
    have h : ¬ x > 127 := by simp at h1; omega
    refine Ev.step (f := fun _ => some (acc ++ [x])) (fun k => ?_) ?_
    · simp only [spec_PutNum.l0]
      rw [if_neg h, if_pos (by omega)]
      have : x % 256 = x := by omega
      rw [this]
    · rw [putNum_small h]; exact Ev.now _
  | succ m ih =>
    intro x acc h0 h9 h1 hl
    by_cases h : x > 127
    · refine Ev.step (f := fun k => spec_PutNum.l0 k (x / 128) (acc ++ [x % 128 + 128])) (fun k => ?_) ?_
      · simp only [spec_PutNum.l0]
        rw [if_pos h, if_pos (by omega), Int.tdiv_eq_ediv_of_nonneg h0, Int.tmod_eq_emod_of_nonneg h0, w64 (by omega) (by omega), w64 (by omega) (by omega)]
        have : (x % 128 + 128) % 256 = x % 128 + 128 := by omega
        rw [this]
      · have := ih (x / 128) (acc ++ [x % 128 + 128]) (by omega) (by omega) (by rw [Int.pow_succ] at h1; omega) (by simp; omega)
        rw [putNum_big h]; simpa using this
    · refine Ev.step (f := fun _ => some (acc ++ [x])) (fun k => ?_) ?_
      · simp only [spec_PutNum.l0]
        rw [if_neg h, if_pos (by omega)]
        have : x % 256 = x := by omega
        rw [this]
      · rw [putNum_small h]; exact Ev.now _
theorem specPutNum_ev {x : Int} (h0 : 0 ≤ x) (h1 : x ≤ 9223372036854775807) : Ev (fun k => spec_PutNum.f k x) (putNum x) := by
  have h := specPutNum_l 8 x [] h0 h1 (by omega) (by simp)
  refine Ev.congr (fun k => ?_) h
  unfold spec_PutNum.f
  simp only [Option.bind_some]
  rw [if_neg (by omega)]
theorem specPutNum_neg {x : Int} (h0 : x < 0) : Ev (fun k => spec_PutNum.f k x) [] := by
  refine Ev.congr (fun k => ?_) (Ev.now _)
  unfold spec_PutNum.f
  simp only [Option.bind_some]
  rw [if_pos h0]

theorem specCmdPack_ev (kind rel node size : Int) (dig : ByteArray) : Ev (fun k => spec_CmdPack.f k kind rel node size dig) (cmdPack kind rel node size dig) := by
  unfold spec_CmdPack.f cmdPack
  refine Ev.bind (specCmdOk_ev kind rel node size dig) ?_
  cases h : cmdOk kind rel node size dig
  · simp only [Bool.false_eq_true, ↓reduceIte]; exact Ev.now _
  · obtain ⟨k0, k1, k2, k3⟩ := cmdOk_k h
    have l0 := (putNum_b9 (x := kind) (by omega) (by omega)).2.1
    simp only [↓reduceIte]
    refine Ev.bind (specPutNum_ev (x := kind) (by omega) (by omega)) ?_
    by_cases h1 : kind = 1
    · simp only [h1, ↓reduceIte]
      refine Ev.step (f := fun _ => some (putNum 1, true)) (fun k => ?_) (Ev.now _)
      simp only [spec_CmdPack.j0]
      rw [if_neg (by omega), if_neg (by omega)]
    · have k1 := k1 h1
      have l1 := (putNum_b9 (x := rel) (by omega) (by omega)).2.1
      simp only [h1, ↓reduceIte]
      refine Ev.bind (specPutNum_ev (x := rel) (by omega) (by omega)) ?_
      have c1 : (putNum kind).length + (putNum rel).length < 140737488355328 := by omega
      simp only [c1, ↓reduceIte]
      by_cases h2 : kind = 2
      · have k3 := k3 h2
        have l2 := (putNum_b9 (x := size) (by omega) (by omega)).2.1
        have h3 : ¬ kind = 3 := by omega
        simp only [h2, ↓reduceIte]
        refine Ev.step (fun k => by simp only [spec_CmdPack.j0]; rw [if_neg (by omega), if_pos trivial]) ?_
        refine Ev.bind (specPutNum_ev (x := size) (by omega) (by omega)) ?_
        rw [h2] at c1 l0
        have c2 : (putNum 2 ++ putNum rel).length + (putNum size).length < 140737488355328 := by rw [List.length_append]; omega
        have c3 : dig.size ≤ 9223372036854775807 := by omega
        have c4 : (putNum 2 ++ putNum rel ++ putNum size).length + (bytesOf dig).length < 140737488355328 := by rw [List.length_append, List.length_append, bytesOf_length]; omega
        simp only [c2, ↓reduceIte, Option.bind_some, c3, c4]
        exact Ev.now _
      · by_cases h3 : kind = 3
        · have k2 := k2 h3
          have l2 := (putNum_b9 (x := node) (by omega) (by omega)).2.1
          simp only [h2, h3, ↓reduceIte]
          rw [h3] at l0
          refine Ev.step (fun k => by simp only [spec_CmdPack.j0]; rw [if_pos trivial]) ?_
          refine Ev.bind (specPutNum_ev (x := node) (by omega) (by omega)) ?_
          have c2 : (putNum 3 ++ putNum rel).length + (putNum node).length < 140737488355328 := by rw [List.length_append]; omega
          simp only [c2, ↓reduceIte, show ¬ (3 : Int) = 2 by omega]
          exact Ev.now _
        · simp only [h2, h3, ↓reduceIte]
          refine Ev.step (f := fun _ => some (putNum kind ++ putNum rel, true)) (fun k => ?_) (Ev.now _)
          simp only [spec_CmdPack.j0]
          rw [if_neg h3, if_neg h2]

theorem or_and_128 {x : Int} (h0 : 0 ≤ x) (h9 : x ≤ 9223372036854775807) : Go.bits .or .i64 (Go.bits .and .i64 x 127) 128 = x % 128 + 128 := by
  have e1 : Go.bits .and .i64 x 127 = x % 128 := and_mask 7 (by decide) h0 h9
  have e2 : Go.bits .or .i64 (x % 128) 128 = Go.bits .or .i64 128 (x % 128) := by unfold Go.bits; simp only [BitVec.or_comm]
  rw [e1, e2, or_join 7 (by decide) (by decide) (by decide) (by omega) (by omega) (by omega)]
  omega
theorem implPutNum_l (m : Nat) : ∀ (x : Int) (acc : List Int), 0 ≤ x → x ≤ 9223372036854775807 → x < 128 ^ (m + 1) → acc.length + m ≤ 140737488355327 → Ev (fun k => impl_PutNum.l0 k x acc) (acc ++ putNum x) := by
  induction m with
  | zero =>
    intro x acc h0 h9 h1 hl
    have h : ¬ x > 127 := by simp at h1; omega
    refine Ev.step (f := fun _ => some (acc ++ [x])) (fun k => ?_) ?_
    · simp only [impl_PutNum.l0]
      rw [if_neg h, if_pos (by omega)]
      have : x % 256 = x := by omega
      rw [this]
    · rw [putNum_small h]; exact Ev.now _
  | succ m ih =>
    intro x acc h0 h9 h1 hl
    by_cases h : x > 127
    · refine Ev.step (f := fun k => impl_PutNum.l0 k (x / 128) (acc ++ [x % 128 + 128])) (fun k => ?_) ?_
      · simp only [impl_PutNum.l0]
        rw [if_pos h, if_pos (by omega), or_and_128 h0 h9]
        have : (x % 128 + 128) % 256 = x % 128 + 128 := by omega
        rw [this]
      · have := ih (x / 128) (acc ++ [x % 128 + 128]) (by omega) (by omega) (by rw [Int.pow_succ] at h1; omega) (by simp; omega)
        rw [putNum_big h]; simpa using this
    · refine Ev.step (f := fun _ => some (acc ++ [x])) (fun k => ?_) ?_
      · simp only [impl_PutNum.l0]
        rw [if_neg h, if_pos (by omega)]
        have : x % 256 = x := by omega
        rw [this]
      · rw [putNum_small h]; exact Ev.now _
theorem implPutNum_ev {x : Int} (h0 : 0 ≤ x) (h1 : x ≤ 9223372036854775807) : Ev (fun k => impl_PutNum.f k x) (putNum x) := by
  have h := implPutNum_l 8 x [] h0 h1 (by omega) (by simp)
  refine Ev.congr (fun k => ?_) h
  unfold impl_PutNum.f
  rw [if_neg (by omega)]
theorem implPutNum_neg {x : Int} (h0 : x < 0) : Ev (fun k => impl_PutNum.f k x) [] := by
  refine Ev.congr (fun k => ?_) (Ev.now _)
  unfold impl_PutNum.f
  rw [if_pos h0]

def sumGo : List Int → Int → Int → Int
  | [], x, y => 65536 * y + x
  | c :: t, x, y => sumGo t ((x + c) % 65521) ((y + (x + c) % 65521) % 65521)
theorem sumGo_b (l : List Int) : ∀ x y : Int, 0 ≤ x → x < 65521 → 0 ≤ y → y < 65521 → 0 ≤ sumGo l x y ∧ sumGo l x y < 4294967296 := by
  induction l with
  | nil => intro x y h0 h1 h2 h3; simp only [sumGo]; omega
  | cons c t ih =>
    intro x y h0 h1 h2 h3
    exact ih _ _ (by omega) (by omega) (by omega) (by omega)
def sumOf (l : List Int) : Int := sumGo l 1 0
theorem sumOf_b (l : List Int) : 0 ≤ sumOf l ∧ sumOf l < 4294967296 := sumGo_b l 1 0 (by omega) (by omega) (by omega) (by omega)
theorem rd_mid (P : List Int) (c : Int) (t : List Int) : rd (P ++ c :: t) (P.length : Int) = c := by rw [rd_nat]; simp

def putNumsOf : List Int → List Int
  | [] => []
  | x :: t => putNum x ++ putNumsOf t
theorem putNums_l (F : List Int) (rest : List Int) : ∀ (P acc : List Int), F = P ++ rest → (∀ x ∈ rest, 0 ≤ x ∧ x ≤ 9223372036854775807) → F.length ≤ 1000 → acc.length + 10 * rest.length ≤ 100000 → Ev (fun k => impl_putNums.l0 k acc F (F.length : Int) (P.length : Int)) (acc ++ putNumsOf rest) := by
  induction rest with
  | nil =>
    intro P acc hF hx hl ha
    refine Ev.step (f := fun _ => some acc) (fun k => ?_) ?_
    · simp only [impl_putNums.l0]
      rw [if_neg (by rw [hF]; simp)]
    · simp [putNumsOf]; exact Ev.now _
  | cons x t ih =>
    intro P acc hF hx hl ha
    simp only [List.length_cons] at ha
    have hx0 := hx x (by simp)
    have el : (F.length : Int) = P.length + t.length + 1 := by rw [hF]; simp; omega
    have hr : rd F (P.length : Int) = x := by rw [hF]; exact rd_mid P x t
    have l0 := (putNum_b9 (x := x) hx0.1 hx0.2).2.1
    have h := ih (P ++ [x]) (acc ++ putNum x) (by rw [hF]; simp) (fun y hy => hx y (by simp [hy])) hl (by rw [List.length_append]; omega)
    have e3 : acc ++ putNumsOf (x :: t) = (acc ++ putNum x) ++ putNumsOf t := by simp [putNumsOf]
    refine Ev.step (fun k => by simp only [impl_putNums.l0]; rw [if_pos (by omega), if_pos (by omega), if_pos (by omega), hr]) ?_
    refine Ev.bind (implPutNum_ev hx0.1 hx0.2) ?_
    have c1 : acc.length + (putNum x).length < 140737488355328 := by omega
    simp only [c1, ↓reduceIte]
    rw [w64 (x := (P.length : Int) + 1) (by omega) (by omega), e3]
    refine Ev.congr (fun k => ?_) h
    simp
theorem putNums_ev (l : List Int) (hx : ∀ x ∈ l, 0 ≤ x ∧ x ≤ 9223372036854775807) (hl : l.length ≤ 1000) : Ev (fun k => impl_putNums.f k l) (putNumsOf l) := by
  have h := putNums_l l l [] [] rfl hx hl (by simp; omega)
  simpa [impl_putNums.f] using h

theorem implCmdPack_ev (kind rel node size : Int) (dig : ByteArray) : Ev (fun k => impl_CmdPack.f k kind rel node size dig) (cmdPack kind rel node size dig) := by
  unfold impl_CmdPack.f cmdPack
  refine Ev.bind (implCmdOk_ev kind rel node size dig) ?_
  cases h : cmdOk kind rel node size dig
  · simp only [Bool.false_eq_true, ↓reduceIte]; exact Ev.now _
  · obtain ⟨k0, k1, k2, k3⟩ := cmdOk_k h
    have l0 := (putNum_b9 (x := kind) (by omega) (by omega)).2.1
    simp only [↓reduceIte]
    by_cases h1 : kind = 1
    · simp only [h1, ↓reduceIte]
      refine Ev.bind (implPutNum_ev (x := 1) (by omega) (by omega)) ?_
      exact Ev.now _
    · have k1 := k1 h1
      have l1 := (putNum_b9 (x := rel) (by omega) (by omega)).2.1
      simp only [h1, ↓reduceIte]
      by_cases h2 : kind = 2
      · have k3 := k3 h2
        have l2 := (putNum_b9 (x := size) (by omega) (by omega)).2.1
        simp only [h2, ↓reduceIte]
        refine Ev.bind (putNums_ev [2, rel, size] (by intro x hx; simp at hx; omega) (by simp)) ?_
        rw [h2] at l0
        have e : putNumsOf [2, rel, size] = putNum 2 ++ putNum rel ++ putNum size := by simp [putNumsOf]
        rw [e]
        have c4 : (putNum 2 ++ putNum rel ++ putNum size).length + dig.size < 140737488355328 := by rw [List.length_append, List.length_append]; omega
        simp only [c4, ↓reduceIte]
        exact Ev.now _
      · by_cases h3 : kind = 3
        · have k2 := k2 h3
          simp only [h3, show ¬ (3 : Int) = 2 by omega, ↓reduceIte]
          refine Ev.bind (putNums_ev [3, rel, node] (by intro x hx; simp at hx; omega) (by simp)) ?_
          have e : putNumsOf [3, rel, node] = putNum 3 ++ putNum rel ++ putNum node := by simp [putNumsOf]
          rw [e]
          exact Ev.now _
        · simp only [h2, h3, ↓reduceIte]
          refine Ev.bind (putNums_ev [kind, rel] (by intro x hx; simp at hx; omega) (by simp)) ?_
          have e : putNumsOf [kind, rel] = putNum kind ++ putNum rel := by simp [putNumsOf]
          rw [e]
          exact Ev.now _

theorem recOk_k {kind term vote pos et ek er en es : Int} {dig : ByteArray} (h : recOk kind term vote pos et ek er en es dig = true) : (kind = 1 ∨ kind = 2 ∨ kind = 3) ∧ (kind = 1 → (0 ≤ term ∧ term ≤ 1000000000) ∧ (0 ≤ vote ∧ vote ≤ 5)) ∧ (kind = 2 → (1 ≤ pos ∧ pos ≤ 80) ∧ (1 ≤ et ∧ et ≤ 1000000000)) ∧ (kind = 3 → 0 ≤ pos ∧ pos ≤ 80) := by
  unfold recOk at h
  by_cases h1 : kind = 1
  · rw [if_pos h1] at h
    simp only [Bool.and_eq_true, inr, decide_eq_true_eq] at h
    exact ⟨by omega, fun _ => ⟨h.1, h.2.1⟩, fun c => by omega, fun c => by omega⟩
  rw [if_neg h1] at h
  by_cases h2 : kind = 2
  · rw [if_pos h2] at h
    simp only [entryOk, Bool.and_eq_true, inr, decide_eq_true_eq] at h
    exact ⟨by omega, fun c => by omega, fun _ => ⟨h.1, h.2.1.1⟩, fun c => by omega⟩
  rw [if_neg h2] at h
  by_cases h3 : kind = 3
  · rw [if_pos h3] at h
    simp only [Bool.and_eq_true, inr, decide_eq_true_eq] at h
    exact ⟨by omega, fun c => by omega, fun c => by omega, fun _ => h.1⟩
  · rw [if_neg h3] at h; simp at h
def recPack (kind term vote pos et ek er en es : Int) (dig : ByteArray) : ByteArray × Bool :=
  if recOk kind term vote pos et ek er en es dig = true then
    (if kind = 1 then (strOfNums (putNum kind ++ putNum term ++ putNum vote), true) else if kind = 2 then (strOfNums (putNum kind ++ putNum pos ++ putNum et ++ (cmdPack ek er en es dig).1), true) else (strOfNums (putNum kind ++ putNum pos), true))
  else ((⟨#[]⟩ : ByteArray), false)
theorem specRecPack_ev (kind term vote pos et ek er en es : Int) (dig : ByteArray) : Ev (fun k => spec_RecPack.f k kind term vote pos et ek er en es dig) (recPack kind term vote pos et ek er en es dig) := by
  unfold spec_RecPack.f recPack
  refine Ev.bind (specRecOk_ev kind term vote pos et ek er en es dig) ?_
  cases h : recOk kind term vote pos et ek er en es dig
  · simp only [Bool.false_eq_true, ↓reduceIte]; exact Ev.now _
  · obtain ⟨k0, k1, k2, k3⟩ := recOk_k h
    simp only [↓reduceIte]
    have l0 := (putNum_b9 (x := kind) (by omega) (by omega)).2.1
    refine Ev.bind (specPutNum_ev (x := kind) (by omega) (by omega)) ?_
    by_cases h1 : kind = 1
    · have k1 := k1 h1
      rw [h1] at l0
      have l1 := (putNum_b9 (x := term) (by omega) (by omega)).2.1
      have l2 := (putNum_b9 (x := vote) (by omega) (by omega)).2.1
      simp only [h1, ↓reduceIte]
      refine Ev.bind (specPutNum_ev (x := term) (by omega) (by omega)) ?_
      have c1 : (putNum 1).length + (putNum term).length < 140737488355328 := by omega
      simp only [c1, ↓reduceIte, Option.bind_some]
      refine Ev.bind (specPutNum_ev (x := vote) (by omega) (by omega)) ?_
      have c2 : (putNum 1 ++ putNum term).length + (putNum vote).length < 140737488355328 := by rw [List.length_append]; omega
      simp only [c2, ↓reduceIte]
      exact Ev.now _
    · by_cases h2 : kind = 2
      · have k2 := k2 h2
        rw [h2] at l0
        have l1 := (putNum_b9 (x := pos) (by omega) (by omega)).2.1
        have l2 := (putNum_b9 (x := et) (by omega) (by omega)).2.1
        have l3 := cmdPack_len ek er en es dig
        simp only [h2, ↓reduceIte, show ¬ (2 : Int) = 1 by omega]
        refine Ev.bind (specPutNum_ev (x := pos) (by omega) (by omega)) ?_
        have c1 : (putNum 2).length + (putNum pos).length < 140737488355328 := by omega
        simp only [c1, ↓reduceIte, Option.bind_some]
        refine Ev.bind (specPutNum_ev (x := et) (by omega) (by omega)) ?_
        have c2 : (putNum 2 ++ putNum pos).length + (putNum et).length < 140737488355328 := by rw [List.length_append]; omega
        simp only [c2, ↓reduceIte, Option.bind_some]
        refine Ev.bind (specCmdPack_ev ek er en es dig) ?_
        have c3 : (putNum 2 ++ putNum pos ++ putNum et).length + (cmdPack ek er en es dig).1.length < 140737488355328 := by rw [List.length_append, List.length_append]; omega
        simp only [c3, ↓reduceIte]
        exact Ev.now _
      · have h3 : kind = 3 := by omega
        have k3 := k3 h3
        rw [h3] at l0
        have l1 := (putNum_b9 (x := pos) (by omega) (by omega)).2.1
        simp only [h3, ↓reduceIte, show ¬ (3 : Int) = 1 by omega, show ¬ (3 : Int) = 2 by omega]
        refine Ev.bind (specPutNum_ev (x := pos) (by omega) (by omega)) ?_
        have c1 : (putNum 3).length + (putNum pos).length < 140737488355328 := by omega
        simp only [c1, ↓reduceIte]
        exact Ev.now _
theorem implRecPack_ev (kind term vote pos et ek er en es : Int) (dig : ByteArray) : Ev (fun k => impl_RecPack.f k kind term vote pos et ek er en es dig) (recPack kind term vote pos et ek er en es dig) := by
  unfold impl_RecPack.f recPack
  refine Ev.bind (implRecOk_ev kind term vote pos et ek er en es dig) ?_
  cases h : recOk kind term vote pos et ek er en es dig
  · simp only [Bool.false_eq_true, ↓reduceIte]; exact Ev.now _
  · obtain ⟨k0, k1, k2, k3⟩ := recOk_k h
    simp only [↓reduceIte]
    have l0 := (putNum_b9 (x := kind) (by omega) (by omega)).2.1
    by_cases h1 : kind = 1
    · have k1 := k1 h1
      simp only [h1, ↓reduceIte]
      refine Ev.bind (putNums_ev [1, term, vote] (by intro x hx; simp at hx; omega) (by simp)) ?_
      have e : putNumsOf [1, term, vote] = putNum 1 ++ putNum term ++ putNum vote := by simp [putNumsOf]
      rw [e]; exact Ev.now _
    · by_cases h2 : kind = 2
      · have k2 := k2 h2
        rw [h2] at l0
        have l1 := (putNum_b9 (x := pos) (by omega) (by omega)).2.1
        have l2 := (putNum_b9 (x := et) (by omega) (by omega)).2.1
        have l3 := cmdPack_len ek er en es dig
        simp only [h2, ↓reduceIte, show ¬ (2 : Int) = 1 by omega]
        refine Ev.bind (implCmdPack_ev ek er en es dig) ?_
        refine Ev.bind (putNums_ev [2, pos, et] (by intro x hx; simp at hx; omega) (by simp)) ?_
        have e : putNumsOf [2, pos, et] = putNum 2 ++ putNum pos ++ putNum et := by simp [putNumsOf]
        rw [e]
        have c3 : (putNum 2 ++ putNum pos ++ putNum et).length + (cmdPack ek er en es dig).1.length < 140737488355328 := by rw [List.length_append, List.length_append]; omega
        simp only [c3, ↓reduceIte]
        exact Ev.now _
      · have h3 : kind = 3 := by omega
        have k3 := k3 h3
        simp only [h3, ↓reduceIte, show ¬ (3 : Int) = 1 by omega, show ¬ (3 : Int) = 2 by omega]
        refine Ev.bind (putNums_ev [3, pos] (by intro x hx; simp at hx; omega) (by simp)) ?_
        have e : putNumsOf [3, pos] = putNum 3 ++ putNum pos := by simp [putNumsOf]
        rw [e]; exact Ev.now _

theorem FnExactRecPack : laws_FnExactRecPack.Pure := by
  intro a0 a1 a2 a3 a4 a5 a6 a7 a8 s _ _ _ _ _ _ _ _ _ hs
  apply Ev.rounds
  unfold laws_FnExactRecPack.f laws_szRec.f laws_szEntry.f laws_szCmd.f laws_toRec.f laws_toEntry.f laws_toCmd.f
  simp only [Option.bind_some]
  by_cases h : wrap64 (1048576 - (s.size : Int)) < 0
  · simp only [h, ↓reduceIte, Option.bind_some, show (-1 : Int) < 0 by omega]; exact Ev.now _
  · simp only [h, ↓reduceIte, Option.bind_some]
    refine Ev.bind (specRecPack_ev a0 a1 a2 a3 a4 a5 a6 a7 a8 s) ?_
    refine Ev.bind (implRecPack_ev a0 a1 a2 a3 a4 a5 a6 a7 a8 s) ?_
    simp only [bne_self_eq_false, Bool.false_eq_true, ↓reduceIte]
    exact Ev.now _

end Go.Proofs.Ytkfoojknjmgjdaa.Pure
