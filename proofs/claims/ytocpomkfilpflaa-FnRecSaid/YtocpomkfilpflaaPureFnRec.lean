/- for every drawn record RecPack of the program succeeds just where RecOk holds, RecRead gives it back, and what RecRead takes of a drawn text is good and packs to just that text; no condition. -/
import Derived.Test.YtocpomkfilpflaaQFnRecx16
namespace Go.Proofs.Ytocpomkfilpflaa.Pure
open Go.RowKit Go.Proofs.Ytocpomkfilpflaa.QFnRec Go.Proofs.YtocpomkfilpflaaW.PrintWords Go.Proofs.YtocpomkfilpflaaW.PrintLast
set_option linter.unusedVariables false
set_option linter.unusedSimpArgs false
theorem w64 {x : Int} (h0 : -9223372036854775808 ≤ x) (h1 : x ≤ 9223372036854775807) : wrap64 x = x := by
  unfold wrap64; omega
def By (l : List Int) : Prop := ∀ x ∈ l, 0 ≤ x ∧ x ≤ 255
theorem rd_nat (l : List Int) (i : Nat) : rd l (i : Int) = l.getD i 0 := by simp [rd]
theorem By.at_ {l : List Int} (h : By l) (i : Int) : 0 ≤ rd l i ∧ rd l i ≤ 255 := by
  unfold rd
  rw [List.getD_eq_getElem?_getD]
  rcases Nat.lt_or_ge i.toNat l.length with hi | hi
  · rw [List.getElem?_eq_getElem hi]; exact h _ (List.getElem_mem hi)
  · rw [List.getElem?_eq_none hi]; simp
theorem wraps_i64 (n : Int) (h₀ : 0 ≤ n) (h₁ : n < 2 ^ 63) : IntKind.i64.wrap n = n := by rw [IntKind.wrap_i64]; omega
theorem and_mask (i : Nat) (hi : i ≤ 63) {x : Int} (h₀ : 0 ≤ x) (h₁ : x ≤ 9223372036854775807) : Go.bits .and .i64 x (2 ^ i - 1) = x % 2 ^ i :=
  bits_mask .i64 63 (by decide) wraps_i64 i hi x h₀ (by omega)
theorem or_join (i : Nat) {x y : Int} (hx₀ : 0 ≤ x) (hx : x % 2 ^ i = 0) (hx₁ : x ≤ 9223372036854775807) (hy₀ : 0 ≤ y) (hy : y < 2 ^ i) (hy₁ : y ≤ 9223372036854775807) : Go.bits .or .i64 x y = x + y :=
  bits_join .i64 63 (by decide) wraps_i64 i x y hx₀ hx (by omega) hy₀ hy (by omega)

def inr (a b c : Int) : Bool := decide (b ≤ a ∧ a ≤ c)
theorem ba_nil : (⟨#[]⟩ : ByteArray).toList = [] := by rw [ByteArray.toList, ByteArray.toList.loop]; rfl
theorem if_eq0 (a c : Int) (x : Bool) : (if a = c then some x else some false) = some (a == c && x) := by
  by_cases h : a = c
  · subst h; simp
  · have b : (a == c) = false := by simpa using h
    simp [h, b]
theorem if_tt (b x : Bool) : (if b = true then some x else some false) = some (b && x) := by cases b <;> rfl

def cmdOk (kind rel node size : Int) (dig : ByteArray) : Bool :=
  if kind = 1 then (rel == 0 && (node == 0 && (size == 0 && (dig.toList == ([] : List UInt8)))))
  else if kind = 2 then (inr rel 1 1000 && (inr size 0 1000 && (decide ((dig.size : Int) = 32) && (node == 0))))
  else if kind = 3 then (inr rel 1 1000 && (inr node 0 4 && (size == 0 && (dig.toList == ([] : List UInt8)))))
  else if kind = 4 ∨ kind = 5 then (inr rel 1 1000 && (node == 0 && (size == 0 && (dig.toList == ([] : List UInt8)))))
  else false

def entryOk (term ek er en es : Int) (dig : ByteArray) : Bool := inr term 1 1000000000 && cmdOk ek er en es dig
def zero6 (et ek er en es : Int) (dig : ByteArray) : Bool := et == 0 && ((ek == 0 && (er == 0 && (en == 0 && (es == 0 && (dig.toList == ([] : List UInt8)))))))
def recOk (kind term vote pos et ek er en es : Int) (dig : ByteArray) : Bool :=
  if kind = 1 then (inr term 0 1000000000 && (inr vote 0 5 && (pos == 0 && zero6 et ek er en es dig)))
  else if kind = 2 then (inr pos 1 80 && (entryOk et ek er en es dig && (term == 0 && vote == 0)))
  else if kind = 3 then (inr pos 0 80 && (term == 0 && (vote == 0 && zero6 et ek er en es dig)))
  else false

theorem l1In_eq (a b c : Int) : spec_l1In.f a b c = some (inr a b c) := by
  unfold spec_l1In.f inr
  by_cases h : a ≥ b
  · rw [if_pos h]; congr 1; by_cases h2 : a ≤ c <;> simp [h, h2]
  · rw [if_neg h]; congr 1; simp; omega

theorem specCmdOk_ev (kind rel node size : Int) (dig : ByteArray) : Ev (fun k => spec_CmdOk.f k kind rel node size dig) (cmdOk kind rel node size dig) := by
  unfold spec_CmdOk.f
  simp only [l1In_eq, Option.bind_some]
  by_cases h1 : kind = 1
  · simp only [cmdOk, h1, ↓reduceIte]; exact Ev.now _
  · simp only [h1, ↓reduceIte]
    by_cases h2 : 2 ≤ kind ∧ kind ≤ 5
    · have e : inr kind 2 5 = true := decide_eq_true h2
      simp only [e, ↓reduceIte]
      refine Ev.step (f := fun _ => some (cmdOk kind rel node size dig)) (fun k => ?_) (Ev.now _)
      simp only [spec_CmdOk.j0, l1In_eq, Option.bind_some, ba_nil, cmdOk]
      have h3 : kind = 2 ∨ kind = 3 ∨ kind = 4 ∨ kind = 5 := by omega
      cases inr rel 1 1000 <;> rcases h3 with rfl | rfl | rfl | rfl <;> cases inr size 0 1000 <;> cases inr node 0 4 <;> by_cases hd : (dig.size : Int) = 32 <;> simp [hd]
    · have e : inr kind 2 5 = false := decide_eq_false h2
      simp only [e, Bool.false_eq_true, ↓reduceIte]
      refine Ev.step (f := fun _ => some false) (fun k => ?_) ?_
      · simp only [spec_CmdOk.j0, ↓reduceIte]
      · have : cmdOk kind rel node size dig = false := by
          unfold cmdOk
          rw [if_neg h1, if_neg (by omega), if_neg (by omega), if_neg (by omega)]
        rw [this]; exact Ev.now _

theorem l1Whole_eq (a : Int) : spec_l1Whole.f a = some (inr a 0 1000000000) := by unfold spec_l1Whole.f; rw [l1In_eq]; rfl
theorem l6EntryF_ev (term ek er en es : Int) (dig : ByteArray) : Ev (fun k => spec_l6Entry.f k term ek er en es dig) (entryOk term ek er en es dig) := by
  unfold spec_l6Entry.f entryOk
  simp only [l1In_eq, Option.bind_some]
  cases inr term 1 1000000000
  · simp only [Bool.false_eq_true, ↓reduceIte, Bool.false_and]; exact Ev.now _
  · simp only [↓reduceIte, Bool.true_and]
    refine Ev.bind (specCmdOk_ev ek er en es dig) ?_
    exact Ev.now _
theorem specRecOk_ev (kind term vote pos et ek er en es : Int) (dig : ByteArray) : Ev (fun k => spec_RecOk.f k kind term vote pos et ek er en es dig) (recOk kind term vote pos et ek er en es dig) := by
  unfold spec_RecOk.f recOk
  simp only [l1In_eq, l1Whole_eq, Option.bind_some]
  by_cases h1 : kind = 1
  · simp only [h1, ↓reduceIte]
    cases inr term 0 1000000000 <;> cases inr vote 0 5 <;> simp only [Bool.false_eq_true, ↓reduceIte, Bool.false_and, Bool.true_and] <;> exact Ev.now _
  · by_cases h2 : kind = 2
    · simp only [h2, ↓reduceIte, show ¬ (2 : Int) = 1 by omega]
      cases inr pos 1 80
      · simp only [Bool.false_eq_true, ↓reduceIte, Bool.false_and]; exact Ev.now _
      · simp only [↓reduceIte, Bool.true_and]
        refine Ev.bind (l6EntryF_ev et ek er en es dig) ?_
        cases entryOk et ek er en es dig <;> simp only [Bool.false_eq_true, ↓reduceIte, Bool.false_and, Bool.true_and] <;> exact Ev.now _
    · by_cases h3 : kind = 3
      · simp only [h3, ↓reduceIte, show ¬ (3 : Int) = 1 by omega, show ¬ (3 : Int) = 2 by omega]
        cases inr pos 0 80 <;> simp only [Bool.false_eq_true, ↓reduceIte, Bool.false_and, Bool.true_and] <;> exact Ev.now _
      · simp only [h1, h2, h3, ↓reduceIte]; exact Ev.now _

theorem within_eq (a b c : Int) : impl_within.f a b c = some (inr a b c) := by
  unfold impl_within.f inr
  by_cases h : a ≥ b
  · rw [if_pos h]; congr 1; by_cases h2 : a ≤ c <;> simp [h, h2]
  · rw [if_neg h]; congr 1; simp; omega

theorem isRelease_eq (a : Int) : impl_isRelease.f a = some (inr a 1 1000) := by unfold impl_isRelease.f; rw [within_eq]; rfl
theorem isSize_eq (a : Int) : impl_isSize.f a = some (inr a 0 1000) := by unfold impl_isSize.f; rw [within_eq]; rfl
theorem isNode_eq (a : Int) : impl_isNode.f a = some (inr a 0 4) := by unfold impl_isNode.f; rw [within_eq]; rfl
theorem implCmdOk_j2 (k : Nat) (x : Bool) (a b c d : Int) (s : ByteArray) : impl_CmdOk.j2 (k + 1) x a b c d s = some (x && (a == 0 && (b == 0 && (c == 0 && (d == 0 && (s.toList == ([] : List UInt8))))))) := by
  simp only [impl_CmdOk.j2]; cases x <;> simp
theorem implCmdOk_ev (kind rel node size : Int) (dig : ByteArray) : Ev (fun k => impl_CmdOk.f k kind rel node size dig) (cmdOk kind rel node size dig) := by
  refine ⟨3, fun k hk => ?_⟩
  obtain ⟨k, rfl⟩ : ∃ m, k = m + 3 := ⟨k - 3, by omega⟩
  unfold impl_CmdOk.f
  simp only [isRelease_eq, isSize_eq, isNode_eq, Option.bind_some, cmdOk]
  by_cases h1 : kind = 1
  · simp only [h1, ↓reduceIte]; rw [implCmdOk_j2]; simp
  · by_cases h2 : kind = 2
    · simp only [h2, ↓reduceIte]
      cases inr rel 1 1000 <;> cases inr size 0 1000 <;> by_cases hd : (dig.size : Int) = 32 <;> simp [impl_CmdOk.j0, implCmdOk_j2, ba_nil, hd]
    · by_cases h3 : kind = 3
      · simp only [h3, ↓reduceIte]
        cases inr rel 1 1000 <;> cases inr node 0 4 <;> simp [impl_CmdOk.j1, implCmdOk_j2]
      · by_cases h4 : kind = 4
        · simp only [h4, ↓reduceIte]
          cases inr rel 1 1000 <;> simp [impl_CmdOk.j1, implCmdOk_j2]
        · by_cases h5 : kind = 5
          · simp only [h5, ↓reduceIte]
            cases inr rel 1 1000 <;> simp [impl_CmdOk.j1, implCmdOk_j2]
          · simp [h1, h2, h3, h4, h5, impl_CmdOk.j1]

theorem isWhole_eq (a : Int) : impl_isWhole.f a = some (inr a 0 1000000000) := by unfold impl_isWhole.f; rw [within_eq]; rfl
theorem entryOk_ev (term ek er en es : Int) (dig : ByteArray) : Ev (fun k => impl_entryOk.f k term ek er en es dig) (entryOk term ek er en es dig) := by
  unfold impl_entryOk.f entryOk
  simp only [within_eq, Option.bind_some]
  cases inr term 1 1000000000
  · simp only [Bool.false_eq_true, ↓reduceIte, Bool.false_and]; exact Ev.now _
  · simp only [↓reduceIte, Bool.true_and]
    refine Ev.bind (implCmdOk_ev ek er en es dig) ?_
    exact Ev.now _
theorem implRecOk_ev (kind term vote pos et ek er en es : Int) (dig : ByteArray) : Ev (fun k => impl_RecOk.f k kind term vote pos et ek er en es dig) (recOk kind term vote pos et ek er en es dig) := by
  unfold impl_RecOk.f recOk
  simp only [within_eq, isWhole_eq, Option.bind_some]
  by_cases h1 : kind = 1
  · simp only [h1, ↓reduceIte, if_eq0, if_tt]
    exact Ev.now _
  · by_cases h2 : kind = 2
    · simp only [h2, ↓reduceIte, show ¬ (2 : Int) = 1 by omega, if_eq0]
      cases inr pos 1 80
      · simp only [Bool.false_eq_true, ↓reduceIte, Bool.false_and]; exact Ev.now _
      · simp only [↓reduceIte, Bool.true_and]
        refine Ev.bind (entryOk_ev et ek er en es dig) ?_
        simp only [if_tt]
        exact Ev.now _
    · by_cases h3 : kind = 3
      · simp only [h3, ↓reduceIte, show ¬ (3 : Int) = 1 by omega, show ¬ (3 : Int) = 2 by omega, if_eq0, if_tt]
        exact Ev.now _
      · simp only [h1, h2, h3, ↓reduceIte]; exact Ev.now _

def putNum (x : Int) : List Int := if h : x > 127 then (x % 128 + 128) :: putNum (x / 128) else [x]
termination_by x.toNat
decreasing_by omega
theorem putNum_big {x : Int} (h : x > 127) : putNum x = (x % 128 + 128) :: putNum (x / 128) := by rw [putNum]; simp [h]
theorem putNum_small {x : Int} (h : ¬ x > 127) : putNum x = [x] := by rw [putNum]; simp [h]
theorem putNum_by (m : Nat) : ∀ x : Int, 0 ≤ x → x < 128 ^ (m + 1) → By (putNum x) ∧ (putNum x).length ≤ m + 1 ∧ 1 ≤ (putNum x).length := by
  induction m with
  | zero =>
    intro x h0 h1
    have h1 : x < 128 := by simpa using h1
    rw [putNum_small (by omega)]
    refine ⟨fun y hy => ?_, by simp, by simp⟩
    simp at hy; omega
  | succ m ih =>
    intro x h0 h1
    by_cases h : x > 127
    · rw [putNum_big h]
      obtain ⟨h2, h3, h4⟩ := ih (x / 128) (by omega) (by rw [Int.pow_succ] at h1; omega)
      refine ⟨fun y hy => ?_, by simp; omega, by simp⟩
      rcases List.mem_cons.1 hy with rfl | hy
      · omega
      · exact h2 y hy
    · rw [putNum_small h]
      refine ⟨fun y hy => ?_, by simp, by simp⟩
      simp at hy; omega
theorem putNum_b9 {x : Int} (h0 : 0 ≤ x) (h1 : x ≤ 9223372036854775807) : By (putNum x) ∧ (putNum x).length ≤ 9 ∧ 1 ≤ (putNum x).length := putNum_by 8 x h0 (by omega)

theorem cmdOk_k {kind rel node size : Int} {dig : ByteArray} (h : cmdOk kind rel node size dig = true) : (kind = 1 ∨ kind = 2 ∨ kind = 3 ∨ kind = 4 ∨ kind = 5) ∧ (kind ≠ 1 → 1 ≤ rel ∧ rel ≤ 1000) ∧ (kind = 3 → 0 ≤ node ∧ node ≤ 4) ∧ (kind = 2 → (0 ≤ size ∧ size ≤ 1000) ∧ (dig.size : Int) = 32) := by
  unfold cmdOk at h
  by_cases h1 : kind = 1
  · exact ⟨.inl h1, fun c => absurd h1 c, fun c => by omega, fun c => by omega⟩
  rw [if_neg h1] at h
  by_cases h2 : kind = 2
  · rw [if_pos h2] at h
    simp only [Bool.and_eq_true, inr, decide_eq_true_eq] at h
    exact ⟨by omega, fun _ => h.1, fun c => by omega, fun _ => ⟨h.2.1, h.2.2.1⟩⟩
  rw [if_neg h2] at h
  by_cases h3 : kind = 3
  · rw [if_pos h3] at h
    simp only [Bool.and_eq_true, inr, decide_eq_true_eq] at h
    exact ⟨by omega, fun _ => h.1, fun _ => h.2.1, fun c => by omega⟩
  rw [if_neg h3] at h
  by_cases h4 : kind = 4 ∨ kind = 5
  · rw [if_pos h4] at h
    simp only [Bool.and_eq_true, inr, decide_eq_true_eq] at h
    exact ⟨by omega, fun _ => h.1, fun c => by omega, fun c => by omega⟩
  · rw [if_neg h4] at h; simp at h
def cmdPack (kind rel node size : Int) (dig : ByteArray) : List Int × Bool :=
  if cmdOk kind rel node size dig = true then
    (if kind = 1 then (putNum kind, true) else if kind = 2 then (putNum kind ++ putNum rel ++ putNum size ++ bytesOf dig, true) else if kind = 3 then (putNum kind ++ putNum rel ++ putNum node, true) else (putNum kind ++ putNum rel, true))
  else ([], false)
theorem cmdPack_len (kind rel node size : Int) (dig : ByteArray) : (cmdPack kind rel node size dig).1.length ≤ 60 := by
  unfold cmdPack
  split
  · rename_i h
    obtain ⟨k0, k1, k2, k3⟩ := cmdOk_k h
    have l0 := (putNum_b9 (x := kind) (by omega) (by omega)).2.1
    split
    · simp only; omega
    · rename_i h1
      have k1 := k1 h1
      have l1 := (putNum_b9 (x := rel) (by omega) (by omega)).2.1
      split
      · rename_i h2
        have k3 := k3 h2
        have l2 := (putNum_b9 (x := size) (by omega) (by omega)).2.1
        simp only [List.length_append, bytesOf_length]; omega
      · split
        · rename_i h3
          have k2 := k2 h3
          have l2 := (putNum_b9 (x := node) (by omega) (by omega)).2.1
          simp only [List.length_append]; omega
        · simp only [List.length_append]; omega
  · simp

theorem specPutNum_l (m : Nat) : ∀ (x : Int) (acc : List Int), 0 ≤ x → x ≤ 9223372036854775807 → x < 128 ^ (m + 1) → acc.length + m ≤ 140737488355327 → Ev (fun k => spec_PutNum.l0 k x acc) (acc ++ putNum x) := by
  induction m with
  | zero =>
    intro x acc h0 h9 h1 hl
    have h : ¬ x > 127 := by simp at h1; omega
    refine Ev.step (f := fun _ => some (acc ++ [x])) (fun k => ?_) ?_
    · simp only [spec_PutNum.l0]
      rw [if_neg h, if_pos (by omega)]
      have : x % 256 = x := by omega
      rw [this]
    · rw [putNum_small h]; exact Ev.now _
  | succ m ih =>
    intro x acc h0 h9 h1 hl
    by_cases h : x > 127
    · refine Ev.step (f := fun k => spec_PutNum.l0 k (x / 128) (acc ++ [x % 128 + 128])) (fun k => ?_) ?_
      · simp only [spec_PutNum.l0]
        rw [if_pos h, if_pos (by omega), Int.tdiv_eq_ediv_of_nonneg h0, Int.tmod_eq_emod_of_nonneg h0, w64 (by omega) (by omega), w64 (by omega) (by omega)]
        have : (x % 128 + 128) % 256 = x % 128 + 128 := by omega
        rw [this]
      · have := ih (x / 128) (acc ++ [x % 128 + 128]) (by omega) (by omega) (by rw [Int.pow_succ] at h1; omega) (by simp; omega)
        rw [putNum_big h]; simpa using this
    · refine Ev.step (f := fun _ => some (acc ++ [x])) (fun k => ?_) ?_
      · simp only [spec_PutNum.l0]
        rw [if_neg h, if_pos (by omega)]
        have : x % 256 = x := by omega
        rw [this]
      · rw [putNum_small h]; exact Ev.now _
theorem specPutNum_ev {x : Int} (h0 : 0 ≤ x) (h1 : x ≤ 9223372036854775807) : Ev (fun k => spec_PutNum.f k x) (putNum x) := by
  have h := specPutNum_l 8 x [] h0 h1 (by omega) (by simp)
  refine Ev.congr (fun k => ?_) h
  unfold spec_PutNum.f
  simp only [Option.bind_some]
  rw [if_neg (by omega)]
theorem specCmdPack_ev (kind rel node size : Int) (dig : ByteArray) : Ev (fun k => spec_CmdPack.f k kind rel node size dig) (cmdPack kind rel node size dig) := by
  unfold spec_CmdPack.f cmdPack
  refine Ev.bind (specCmdOk_ev kind rel node size dig) ?_
  cases h : cmdOk kind rel node size dig
  · simp only [Bool.false_eq_true, ↓reduceIte]; exact Ev.now _
  · obtain ⟨k0, k1, k2, k3⟩ := cmdOk_k h
    have l0 := (putNum_b9 (x := kind) (by omega) (by omega)).2.1
    simp only [↓reduceIte]
    refine Ev.bind (specPutNum_ev (x := kind) (by omega) (by omega)) ?_
    by_cases h1 : kind = 1
    · simp only [h1, ↓reduceIte]
      refine Ev.step (f := fun _ => some (putNum 1, true)) (fun k => ?_) (Ev.now _)
      simp only [spec_CmdPack.j0]
      rw [if_neg (by omega), if_neg (by omega)]
    · have k1 := k1 h1
      have l1 := (putNum_b9 (x := rel) (by omega) (by omega)).2.1
      simp only [h1, ↓reduceIte]
      refine Ev.bind (specPutNum_ev (x := rel) (by omega) (by omega)) ?_
      have c1 : (putNum kind).length + (putNum rel).length < 140737488355328 := by omega
      simp only [c1, ↓reduceIte]
      by_cases h2 : kind = 2
      · have k3 := k3 h2
        have l2 := (putNum_b9 (x := size) (by omega) (by omega)).2.1
        have h3 : ¬ kind = 3 := by omega
        simp only [h2, ↓reduceIte]
        refine Ev.step (fun k => by simp only [spec_CmdPack.j0]; rw [if_neg (by omega), if_pos trivial]) ?_
        refine Ev.bind (specPutNum_ev (x := size) (by omega) (by omega)) ?_
        rw [h2] at c1 l0
        have c2 : (putNum 2 ++ putNum rel).length + (putNum size).length < 140737488355328 := by rw [List.length_append]; omega
        have c3 : dig.size ≤ 9223372036854775807 := by omega
        have c4 : (putNum 2 ++ putNum rel ++ putNum size).length + (bytesOf dig).length < 140737488355328 := by rw [List.length_append, List.length_append, bytesOf_length]; omega
        simp only [c2, ↓reduceIte, Option.bind_some, c3, c4]
        exact Ev.now _
      · by_cases h3 : kind = 3
        · have k2 := k2 h3
          have l2 := (putNum_b9 (x := node) (by omega) (by omega)).2.1
          simp only [h2, h3, ↓reduceIte]
          rw [h3] at l0
          refine Ev.step (fun k => by simp only [spec_CmdPack.j0]; rw [if_pos trivial]) ?_
          refine Ev.bind (specPutNum_ev (x := node) (by omega) (by omega)) ?_
          have c2 : (putNum 3 ++ putNum rel).length + (putNum node).length < 140737488355328 := by rw [List.length_append]; omega
          simp only [c2, ↓reduceIte, show ¬ (3 : Int) = 2 by omega]
          exact Ev.now _
        · simp only [h2, h3, ↓reduceIte]
          refine Ev.step (f := fun _ => some (putNum kind ++ putNum rel, true)) (fun k => ?_) (Ev.now _)
          simp only [spec_CmdPack.j0]
          rw [if_neg h3, if_neg h2]

theorem or_and_128 {x : Int} (h0 : 0 ≤ x) (h9 : x ≤ 9223372036854775807) : Go.bits .or .i64 (Go.bits .and .i64 x 127) 128 = x % 128 + 128 := by
  have e1 : Go.bits .and .i64 x 127 = x % 128 := and_mask 7 (by decide) h0 h9
  have e2 : Go.bits .or .i64 (x % 128) 128 = Go.bits .or .i64 128 (x % 128) := by unfold Go.bits; simp only [BitVec.or_comm]
  rw [e1, e2, or_join 7 (by decide) (by decide) (by decide) (by omega) (by omega) (by omega)]
  omega
theorem implPutNum_l (m : Nat) : ∀ (x : Int) (acc : List Int), 0 ≤ x → x ≤ 9223372036854775807 → x < 128 ^ (m + 1) → acc.length + m ≤ 140737488355327 → Ev (fun k => impl_PutNum.l0 k x acc) (acc ++ putNum x) := by
  induction m with
  | zero =>
    intro x acc h0 h9 h1 hl
    have h : ¬ x > 127 := by simp at h1; omega
    refine Ev.step (f := fun _ => some (acc ++ [x])) (fun k => ?_) ?_
    · simp only [impl_PutNum.l0]
      rw [if_neg h, if_pos (by omega)]
      have : x % 256 = x := by omega
      rw [this]
    · rw [putNum_small h]; exact Ev.now _
  | succ m ih =>
    intro x acc h0 h9 h1 hl
    by_cases h : x > 127
    · refine Ev.step (f := fun k => impl_PutNum.l0 k (x / 128) (acc ++ [x % 128 + 128])) (fun k => ?_) ?_
      · simp only [impl_PutNum.l0]
        rw [if_pos h, if_pos (by omega), or_and_128 h0 h9]
        have : (x % 128 + 128) % 256 = x % 128 + 128 := by omega
        rw [this]
      · have := ih (x / 128) (acc ++ [x % 128 + 128]) (by omega) (by omega) (by rw [Int.pow_succ] at h1; omega) (by simp; omega)
        rw [putNum_big h]; simpa using this
    · refine Ev.step (f := fun _ => some (acc ++ [x])) (fun k => ?_) ?_
      · simp only [impl_PutNum.l0]
        rw [if_neg h, if_pos (by omega)]
        have : x % 256 = x := by omega
        rw [this]
      · rw [putNum_small h]; exact Ev.now _
theorem implPutNum_ev {x : Int} (h0 : 0 ≤ x) (h1 : x ≤ 9223372036854775807) : Ev (fun k => impl_PutNum.f k x) (putNum x) := by
  have h := implPutNum_l 8 x [] h0 h1 (by omega) (by simp)
  refine Ev.congr (fun k => ?_) h
  unfold impl_PutNum.f
  rw [if_neg (by omega)]
theorem rd_mid (P : List Int) (c : Int) (t : List Int) : rd (P ++ c :: t) (P.length : Int) = c := by rw [rd_nat]; simp

def putNumsOf : List Int → List Int
  | [] => []
  | x :: t => putNum x ++ putNumsOf t
theorem putNums_l (F : List Int) (rest : List Int) : ∀ (P acc : List Int), F = P ++ rest → (∀ x ∈ rest, 0 ≤ x ∧ x ≤ 9223372036854775807) → F.length ≤ 1000 → acc.length + 10 * rest.length ≤ 100000 → Ev (fun k => impl_putNums.l0 k acc F (F.length : Int) (P.length : Int)) (acc ++ putNumsOf rest) := by
  induction rest with
  | nil =>
    intro P acc hF hx hl ha
    refine Ev.step (f := fun _ => some acc) (fun k => ?_) ?_
    · simp only [impl_putNums.l0]
      rw [if_neg (by rw [hF]; simp)]
    · simp [putNumsOf]; exact Ev.now _
  | cons x t ih =>
    intro P acc hF hx hl ha
    simp only [List.length_cons] at ha
    have hx0 := hx x (by simp)
    have el : (F.length : Int) = P.length + t.length + 1 := by rw [hF]; simp; omega
    have hr : rd F (P.length : Int) = x := by rw [hF]; exact rd_mid P x t
    have l0 := (putNum_b9 (x := x) hx0.1 hx0.2).2.1
    have h := ih (P ++ [x]) (acc ++ putNum x) (by rw [hF]; simp) (fun y hy => hx y (by simp [hy])) hl (by rw [List.length_append]; omega)
    have e3 : acc ++ putNumsOf (x :: t) = (acc ++ putNum x) ++ putNumsOf t := by simp [putNumsOf]
    refine Ev.step (fun k => by simp only [impl_putNums.l0]; rw [if_pos (by omega), if_pos (by omega), if_pos (by omega), hr]) ?_
    refine Ev.bind (implPutNum_ev hx0.1 hx0.2) ?_
    have c1 : acc.length + (putNum x).length < 140737488355328 := by omega
    simp only [c1, ↓reduceIte]
    rw [w64 (x := (P.length : Int) + 1) (by omega) (by omega), e3]
    refine Ev.congr (fun k => ?_) h
    simp
theorem putNums_ev (l : List Int) (hx : ∀ x ∈ l, 0 ≤ x ∧ x ≤ 9223372036854775807) (hl : l.length ≤ 1000) : Ev (fun k => impl_putNums.f k l) (putNumsOf l) := by
  have h := putNums_l l l [] [] rfl hx hl (by simp; omega)
  simpa [impl_putNums.f] using h

theorem implCmdPack_ev (kind rel node size : Int) (dig : ByteArray) : Ev (fun k => impl_CmdPack.f k kind rel node size dig) (cmdPack kind rel node size dig) := by
  unfold impl_CmdPack.f cmdPack
  refine Ev.bind (implCmdOk_ev kind rel node size dig) ?_
  cases h : cmdOk kind rel node size dig
  · simp only [Bool.false_eq_true, ↓reduceIte]; exact Ev.now _
  · obtain ⟨k0, k1, k2, k3⟩ := cmdOk_k h
    have l0 := (putNum_b9 (x := kind) (by omega) (by omega)).2.1
    simp only [↓reduceIte]
    by_cases h1 : kind = 1
    · simp only [h1, ↓reduceIte]
      refine Ev.bind (implPutNum_ev (x := 1) (by omega) (by omega)) ?_
      exact Ev.now _
    · have k1 := k1 h1
      have l1 := (putNum_b9 (x := rel) (by omega) (by omega)).2.1
      simp only [h1, ↓reduceIte]
      by_cases h2 : kind = 2
      · have k3 := k3 h2
        have l2 := (putNum_b9 (x := size) (by omega) (by omega)).2.1
        simp only [h2, ↓reduceIte]
        refine Ev.bind (putNums_ev [2, rel, size] (by intro x hx; simp at hx; omega) (by simp)) ?_
        rw [h2] at l0
        have e : putNumsOf [2, rel, size] = putNum 2 ++ putNum rel ++ putNum size := by simp [putNumsOf]
        rw [e]
        have c4 : (putNum 2 ++ putNum rel ++ putNum size).length + dig.size < 140737488355328 := by rw [List.length_append, List.length_append]; omega
        simp only [c4, ↓reduceIte]
        exact Ev.now _
      · by_cases h3 : kind = 3
        · have k2 := k2 h3
          simp only [h3, show ¬ (3 : Int) = 2 by omega, ↓reduceIte]
          refine Ev.bind (putNums_ev [3, rel, node] (by intro x hx; simp at hx; omega) (by simp)) ?_
          have e : putNumsOf [3, rel, node] = putNum 3 ++ putNum rel ++ putNum node := by simp [putNumsOf]
          rw [e]
          exact Ev.now _
        · simp only [h2, h3, ↓reduceIte]
          refine Ev.bind (putNums_ev [kind, rel] (by intro x hx; simp at hx; omega) (by simp)) ?_
          have e : putNumsOf [kind, rel] = putNum kind ++ putNum rel := by simp [putNumsOf]
          rw [e]
          exact Ev.now _

theorem recOk_k {kind term vote pos et ek er en es : Int} {dig : ByteArray} (h : recOk kind term vote pos et ek er en es dig = true) : (kind = 1 ∨ kind = 2 ∨ kind = 3) ∧ (kind = 1 → (0 ≤ term ∧ term ≤ 1000000000) ∧ (0 ≤ vote ∧ vote ≤ 5)) ∧ (kind = 2 → (1 ≤ pos ∧ pos ≤ 80) ∧ (1 ≤ et ∧ et ≤ 1000000000)) ∧ (kind = 3 → 0 ≤ pos ∧ pos ≤ 80) := by
  unfold recOk at h
  by_cases h1 : kind = 1
  · rw [if_pos h1] at h
    simp only [Bool.and_eq_true, inr, decide_eq_true_eq] at h
    exact ⟨by omega, fun _ => ⟨h.1, h.2.1⟩, fun c => by omega, fun c => by omega⟩
  rw [if_neg h1] at h
  by_cases h2 : kind = 2
  · rw [if_pos h2] at h
    simp only [entryOk, Bool.and_eq_true, inr, decide_eq_true_eq] at h
    exact ⟨by omega, fun c => by omega, fun _ => ⟨h.1, h.2.1.1⟩, fun c => by omega⟩
  rw [if_neg h2] at h
  by_cases h3 : kind = 3
  · rw [if_pos h3] at h
    simp only [Bool.and_eq_true, inr, decide_eq_true_eq] at h
    exact ⟨by omega, fun c => by omega, fun c => by omega, fun _ => h.1⟩
  · rw [if_neg h3] at h; simp at h
def recPack (kind term vote pos et ek er en es : Int) (dig : ByteArray) : ByteArray × Bool :=
  if recOk kind term vote pos et ek er en es dig = true then
    (if kind = 1 then (strOfNums (putNum kind ++ putNum term ++ putNum vote), true) else if kind = 2 then (strOfNums (putNum kind ++ putNum pos ++ putNum et ++ (cmdPack ek er en es dig).1), true) else (strOfNums (putNum kind ++ putNum pos), true))
  else ((⟨#[]⟩ : ByteArray), false)
theorem specRecPack_ev (kind term vote pos et ek er en es : Int) (dig : ByteArray) : Ev (fun k => spec_RecPack.f k kind term vote pos et ek er en es dig) (recPack kind term vote pos et ek er en es dig) := by
  unfold spec_RecPack.f recPack
  refine Ev.bind (specRecOk_ev kind term vote pos et ek er en es dig) ?_
  cases h : recOk kind term vote pos et ek er en es dig
  · simp only [Bool.false_eq_true, ↓reduceIte]; exact Ev.now _
  · obtain ⟨k0, k1, k2, k3⟩ := recOk_k h
    simp only [↓reduceIte]
    have l0 := (putNum_b9 (x := kind) (by omega) (by omega)).2.1
    refine Ev.bind (specPutNum_ev (x := kind) (by omega) (by omega)) ?_
    by_cases h1 : kind = 1
    · have k1 := k1 h1
      rw [h1] at l0
      have l1 := (putNum_b9 (x := term) (by omega) (by omega)).2.1
      have l2 := (putNum_b9 (x := vote) (by omega) (by omega)).2.1
      simp only [h1, ↓reduceIte]
      refine Ev.bind (specPutNum_ev (x := term) (by omega) (by omega)) ?_
      have c1 : (putNum 1).length + (putNum term).length < 140737488355328 := by omega
      simp only [c1, ↓reduceIte, Option.bind_some]
      refine Ev.bind (specPutNum_ev (x := vote) (by omega) (by omega)) ?_
      have c2 : (putNum 1 ++ putNum term).length + (putNum vote).length < 140737488355328 := by rw [List.length_append]; omega
      simp only [c2, ↓reduceIte]
      exact Ev.now _
    · by_cases h2 : kind = 2
      · have k2 := k2 h2
        rw [h2] at l0
        have l1 := (putNum_b9 (x := pos) (by omega) (by omega)).2.1
        have l2 := (putNum_b9 (x := et) (by omega) (by omega)).2.1
        have l3 := cmdPack_len ek er en es dig
        simp only [h2, ↓reduceIte, show ¬ (2 : Int) = 1 by omega]
        refine Ev.bind (specPutNum_ev (x := pos) (by omega) (by omega)) ?_
        have c1 : (putNum 2).length + (putNum pos).length < 140737488355328 := by omega
        simp only [c1, ↓reduceIte, Option.bind_some]
        refine Ev.bind (specPutNum_ev (x := et) (by omega) (by omega)) ?_
        have c2 : (putNum 2 ++ putNum pos).length + (putNum et).length < 140737488355328 := by rw [List.length_append]; omega
        simp only [c2, ↓reduceIte, Option.bind_some]
        refine Ev.bind (specCmdPack_ev ek er en es dig) ?_
        have c3 : (putNum 2 ++ putNum pos ++ putNum et).length + (cmdPack ek er en es dig).1.length < 140737488355328 := by rw [List.length_append, List.length_append]; omega
        simp only [c3, ↓reduceIte]
        exact Ev.now _
      · have h3 : kind = 3 := by omega
        have k3 := k3 h3
        rw [h3] at l0
        have l1 := (putNum_b9 (x := pos) (by omega) (by omega)).2.1
        simp only [h3, ↓reduceIte, show ¬ (3 : Int) = 1 by omega, show ¬ (3 : Int) = 2 by omega]
        refine Ev.bind (specPutNum_ev (x := pos) (by omega) (by omega)) ?_
        have c1 : (putNum 3).length + (putNum pos).length < 140737488355328 := by omega
        simp only [c1, ↓reduceIte]
        exact Ev.now _
theorem implRecPack_ev (kind term vote pos et ek er en es : Int) (dig : ByteArray) : Ev (fun k => impl_RecPack.f k kind term vote pos et ek er en es dig) (recPack kind term vote pos et ek er en es dig) := by
  unfold impl_RecPack.f recPack
  refine Ev.bind (implRecOk_ev kind term vote pos et ek er en es dig) ?_
  cases h : recOk kind term vote pos et ek er en es dig
  · simp only [Bool.false_eq_true, ↓reduceIte]; exact Ev.now _
  · obtain ⟨k0, k1, k2, k3⟩ := recOk_k h
    simp only [↓reduceIte]
    have l0 := (putNum_b9 (x := kind) (by omega) (by omega)).2.1
    by_cases h1 : kind = 1
    · have k1 := k1 h1
      simp only [h1, ↓reduceIte]
      refine Ev.bind (putNums_ev [1, term, vote] (by intro x hx; simp at hx; omega) (by simp)) ?_
      have e : putNumsOf [1, term, vote] = putNum 1 ++ putNum term ++ putNum vote := by simp [putNumsOf]
      rw [e]; exact Ev.now _
    · by_cases h2 : kind = 2
      · have k2 := k2 h2
        rw [h2] at l0
        have l1 := (putNum_b9 (x := pos) (by omega) (by omega)).2.1
        have l2 := (putNum_b9 (x := et) (by omega) (by omega)).2.1
        have l3 := cmdPack_len ek er en es dig
        simp only [h2, ↓reduceIte, show ¬ (2 : Int) = 1 by omega]
        refine Ev.bind (implCmdPack_ev ek er en es dig) ?_
        refine Ev.bind (putNums_ev [2, pos, et] (by intro x hx; simp at hx; omega) (by simp)) ?_
        have e : putNumsOf [2, pos, et] = putNum 2 ++ putNum pos ++ putNum et := by simp [putNumsOf]
        rw [e]
        have c3 : (putNum 2 ++ putNum pos ++ putNum et).length + (cmdPack ek er en es dig).1.length < 140737488355328 := by rw [List.length_append, List.length_append]; omega
        simp only [c3, ↓reduceIte]
        exact Ev.now _
      · have h3 : kind = 3 := by omega
        have k3 := k3 h3
        simp only [h3, ↓reduceIte, show ¬ (3 : Int) = 1 by omega, show ¬ (3 : Int) = 2 by omega]
        refine Ev.bind (putNums_ev [3, pos] (by intro x hx; simp at hx; omega) (by simp)) ?_
        have e : putNumsOf [3, pos] = putNum 3 ++ putNum pos := by simp [putNumsOf]
        rw [e]; exact Ev.now _

def p7 (k : Nat) : Int := 128 ^ k
def gn : Nat → List Int → Int → Nat → Int → Int × Int × Bool
  | 0, _, _, _, _ => (0, 0, false)
  | d + 1, l, at_, k, x => if at_ + k < l.length then (if rd l (at_ + k) < 128 then (if rd l (at_ + k) = 0 ∧ 0 < k then (0, 0, false) else (x + rd l (at_ + k) % 128 * p7 k, at_ + k + 1, true)) else gn d l at_ (k + 1) (x + rd l (at_ + k) % 128 * p7 k)) else (0, 0, false)
def getNum (l : List Int) (at_ : Int) : Int × Int × Bool := if at_ < 0 then (0, 0, false) else gn 9 l at_ 0 0
theorem p7_0 : p7 0 = 1 := rfl
theorem p7_succ (k : Nat) : p7 (k + 1) = p7 k * 128 := Int.pow_succ 128 k
theorem p7_b (k : Nat) (hk : k ≤ 8) : 1 ≤ p7 k ∧ p7 k ≤ 72057594037927936 := by
  have : k = 0 ∨ k = 1 ∨ k = 2 ∨ k = 3 ∨ k = 4 ∨ k = 5 ∨ k = 6 ∨ k = 7 ∨ k = 8 := by omega
  rcases this with rfl | rfl | rfl | rfl | rfl | rfl | rfl | rfl | rfl <;> decide
theorem p128 (k : Nat) (hk : k ≤ 8) (x c : Int) (hx0 : 0 ≤ x) (hx : x < p7 k) (hc0 : 0 ≤ c) (hc : c < 128) : 0 ≤ c * p7 k ∧ c * p7 k ≤ 9223372036854775807 ∧ 0 ≤ x + c * p7 k ∧ x + c * p7 k ≤ 9223372036854775807 ∧ x + c * p7 k < p7 (k + 1) := by
  have h := p7_b k hk
  rw [p7_succ]
  generalize p7 k = u at *
  have h1 : 0 ≤ c * u := Int.mul_nonneg hc0 (by omega)
  have h2 : c * u ≤ 127 * u := Int.mul_le_mul_of_nonneg_right (by omega) (by omega)
  refine ⟨h1, by omega, by omega, by omega, by omega⟩

theorem gn_b : ∀ (d : Nat) (k : Nat) (l : List Int) (a x : Int), By l → 0 ≤ a → d + k ≤ 9 → 0 ≤ x → x < p7 k → 0 ≤ (gn d l a k x).1 ∧ (gn d l a k x).1 ≤ 9223372036854775807 ∧ 0 ≤ (gn d l a k x).2.1 ∧ (gn d l a k x).2.1 ≤ l.length
  | 0, k, l, a, x, hb, ha, hk, h0, h1 => by simp [gn]
  | d + 1, k, l, a, x, hb, ha, hk, h0, h1 => by
    have hz : (0 : Int) ≤ 0 ∧ (0 : Int) ≤ 9223372036854775807 ∧ (0 : Int) ≤ 0 ∧ (0 : Int) ≤ l.length := ⟨by omega, by omega, by omega, by omega⟩
    have hr := hb.at_ (a + k)
    have hp := p128 k (by omega) x (rd l (a + k) % 128) h0 h1 (by omega) (by omega)
    simp only [gn]
    split
    · split
      · split
        · exact hz
        · exact ⟨hp.2.2.1, hp.2.2.2.1, by simp only; omega, by simp only; omega⟩
      · exact gn_b d (k + 1) l a _ hb ha (by omega) hp.2.2.1 hp.2.2.2.2
    · exact hz
theorem getNum_b (l : List Int) (a : Int) (hb : By l) : 0 ≤ (getNum l a).1 ∧ (getNum l a).1 ≤ 9223372036854775807 ∧ 0 ≤ (getNum l a).2.1 ∧ (getNum l a).2.1 ≤ l.length := by
  unfold getNum
  split
  · exact ⟨by simp, by simp, by simp, by simp⟩
  · exact gn_b 9 0 l a 0 hb (by omega) (by omega) (by omega) (by decide)

def zC : Int × Int × Int × Int × ByteArray × Int × Bool := (0, 0, 0, 0, (⟨#[]⟩ : ByteArray), 0, false)
def cmFin (x1 x2 x3 x4 : Int) (d : ByteArray) (p : Int) : Int × Int × Int × Int × ByteArray × Int × Bool := if cmdOk x1 x2 x3 x4 d = true then (x1, x2, x3, x4, d, p, true) else zC
def seg32 (l : List Int) (p : Int) : ByteArray := strOfNums ((l.take (p + 32).toNat).drop p.toNat)
def cm3 (x2 : Int) (g : Int × Int × Bool) : Int × Int × Int × Int × ByteArray × Int × Bool := if g.2.2 = true then cmFin 3 x2 g.1 0 (⟨#[]⟩ : ByteArray) g.2.1 else zC
def cm2 (l : List Int) (x2 : Int) (g : Int × Int × Bool) : Int × Int × Int × Int × ByteArray × Int × Bool :=
  if g.2.2 = true then (if 32 ≤ (l.length : Int) - g.2.1 then cmFin 2 x2 0 g.1 (seg32 l g.2.1) (g.2.1 + 32) else zC) else zC
def cmB (l : List Int) (x1 : Int) (g : Int × Int × Bool) : Int × Int × Int × Int × ByteArray × Int × Bool :=
  if g.2.2 = true then (if x1 = 3 then cm3 g.1 (getNum l g.2.1) else if x1 = 2 then cm2 l g.1 (getNum l g.2.1) else cmFin x1 g.1 0 0 (⟨#[]⟩ : ByteArray) g.2.1) else zC
def cmA (l : List Int) (g : Int × Int × Bool) : Int × Int × Int × Int × ByteArray × Int × Bool :=
  if g.2.2 = true ∧ 1 ≤ g.1 ∧ g.1 ≤ 5 then (if g.1 = 1 then (1, 0, 0, 0, (⟨#[]⟩ : ByteArray), g.2.1, true) else cmB l g.1 (getNum l g.2.1)) else zC
def cmdRead (l : List Int) (a : Int) : Int × Int × Int × Int × ByteArray × Int × Bool := cmA l (getNum l a)
theorem cmdOk_short2 (x2 x4 : Int) : cmdOk 2 x2 0 x4 (⟨#[]⟩ : ByteArray) = false := by
  have h : ((⟨#[]⟩ : ByteArray).size : Int) = 0 := rfl
  unfold cmdOk
  rw [if_neg (by decide), if_pos rfl, h]
  simp
theorem cmdOk_out (x1 x2 x3 x4 : Int) (d : ByteArray) (h : ¬ (1 ≤ x1 ∧ x1 ≤ 5)) : cmdOk x1 x2 x3 x4 d = false := by
  unfold cmdOk
  rw [if_neg (by omega), if_neg (by omega), if_neg (by omega), if_neg (by omega)]
theorem cmdOk_one : cmdOk 1 0 0 0 (⟨#[]⟩ : ByteArray) = true := by
  have h : (⟨#[]⟩ : ByteArray).toList = [] := by rw [ByteArray.toList_eq]
  unfold cmdOk
  rw [h]
  simp

def zR : Int × Int × Int × Int × Int × Int × Int × Int × Int × ByteArray × Bool := (0, 0, 0, 0, 0, 0, 0, 0, 0, (⟨#[]⟩ : ByteArray), false)
def recFin (l : List Int) (x0 x1 x2 x3 x4 x5 x6 x7 x8 : Int) (x9 : ByteArray) (p : Int) : Int × Int × Int × Int × Int × Int × Int × Int × Int × ByteArray × Bool :=
  if p = (l.length : Int) then (if recOk x0 x1 x2 x3 x4 x5 x6 x7 x8 x9 = true then (x0, x1, x2, x3, x4, x5, x6, x7, x8, x9, true) else zR) else zR
def rr1b (l : List Int) (x : Int) (g : Int × Int × Bool) := if g.2.2 = true then recFin l 1 x g.1 0 0 0 0 0 0 (⟨#[]⟩ : ByteArray) g.2.1 else zR
def rr1 (l : List Int) (g : Int × Int × Bool) := if g.2.2 = true then rr1b l g.1 (getNum l g.2.1) else zR
def rr2c (l : List Int) (x y : Int) (d : Int × Int × Int × Int × ByteArray × Int × Bool) := if d.2.2.2.2.2.2 = true then recFin l 2 0 0 x y d.1 d.2.1 d.2.2.1 d.2.2.2.1 d.2.2.2.2.1 d.2.2.2.2.2.1 else zR
def rr2b (l : List Int) (x : Int) (g : Int × Int × Bool) := if g.2.2 = true then rr2c l x g.1 (cmdRead l g.2.1) else zR
def rr2 (l : List Int) (g : Int × Int × Bool) := if g.2.2 = true then rr2b l g.1 (getNum l g.2.1) else zR
def rr3 (l : List Int) (g : Int × Int × Bool) := if g.2.2 = true then recFin l 3 0 0 g.1 0 0 0 0 0 (⟨#[]⟩ : ByteArray) g.2.1 else zR
def rrA (l : List Int) (g : Int × Int × Bool) := if g.1 = 1 then rr1 l (getNum l g.2.1) else if g.1 = 2 then rr2 l (getNum l g.2.1) else if g.1 = 3 then rr3 l (getNum l g.2.1) else zR
def recRead (l : List Int) := rrA l (getNum l 0)
theorem recOk_out (x0 x1 x2 x3 x4 x5 x6 x7 x8 : Int) (x9 : ByteArray) (h1 : ¬ x0 = 1) (h2 : ¬ x0 = 2) (h3 : ¬ x0 = 3) : recOk x0 x1 x2 x3 x4 x5 x6 x7 x8 x9 = false := by
  unfold recOk; rw [if_neg h1, if_neg h2, if_neg h3]
theorem gn_near : ∀ (d k : Nat) (l : List Int) (a x : Int), 0 ≤ a → ((gn d l a k x).2.2 = true → (gn d l a k x).2.1 ≤ a + k + d) ∧ ((gn d l a k x).2.2 = false → gn d l a k x = (0, 0, false))
  | 0, k, l, a, x, ha => by simp [gn]
  | d + 1, k, l, a, x, ha => by
    simp only [gn]
    split
    · split
      · split
        · simp
        · simp only; exact ⟨fun _ => by omega, fun h => by simp at h⟩
      · have := gn_near d (k + 1) l a (x + rd l (a + k) % 128 * p7 k) ha
        exact ⟨fun h => by have := this.1 h; omega, this.2⟩
    · simp
theorem getNum_near (l : List Int) (a : Int) (h : (getNum l a).2.2 = true) : 0 ≤ a ∧ (getNum l a).2.1 ≤ a + 9 := by
  unfold getNum at *
  split at h
  · simp at h
  · rename_i c
    rw [if_neg c]
    exact ⟨by omega, by have := (gn_near 9 0 l a 0 (by omega)).1 h; omega⟩
theorem getNum_no (l : List Int) (a : Int) (h : (getNum l a).2.2 = false) : getNum l a = (0, 0, false) := by
  unfold getNum at *
  split
  · rfl
  · rename_i c
    rw [if_neg c] at h
    exact (gn_near 9 0 l a 0 (by omega)).2 h
theorem cmdRead_near (l : List Int) (a : Int) (h : (cmdRead l a).2.2.2.2.2.2 = true) : (cmdRead l a).2.2.2.2.2.1 ≤ a + 59 := by
  have hz : zC.2.2.2.2.2.2 = true → zC.2.2.2.2.2.1 ≤ a + 59 := fun h => by simp [zC] at h
  have hf : ∀ x1 x2 x3 x4 d p, p ≤ a + 59 → (cmFin x1 x2 x3 x4 d p).2.2.2.2.2.2 = true → (cmFin x1 x2 x3 x4 d p).2.2.2.2.2.1 ≤ a + 59 := fun x1 x2 x3 x4 d p hp => by
    unfold cmFin
    split
    · intro _; exact hp
    · exact hz
  revert h
  unfold cmdRead cmA
  split
  · rename_i h1
    have n1 := getNum_near l a h1.1
    split
    · intro _; simp only; omega
    · unfold cmB
      split
      · rename_i h2
        have n2 := getNum_near l _ h2
        split
        · unfold cm3
          split
          · rename_i h3
            have n3 := getNum_near l _ h3
            exact hf _ _ _ _ _ _ (by omega)
          · exact hz
        · split
          · unfold cm2
            split
            · rename_i h3
              have n3 := getNum_near l _ h3
              split
              · exact hf _ _ _ _ _ _ (by omega)
              · exact hz
            · exact hz
          · exact hf _ _ _ _ _ _ (by omega)
      · exact hz
  · exact hz
theorem recFin_far (l : List Int) (x0 x1 x2 x3 x4 x5 x6 x7 x8 : Int) (x9 : ByteArray) (p : Int) (h : p < l.length) : recFin l x0 x1 x2 x3 x4 x5 x6 x7 x8 x9 p = zR := by
  unfold recFin; rw [if_neg (by omega)]
theorem recRead_long (l : List Int) (hl : 3000 < (l.length : Int)) : recRead l = zR := by
  unfold recRead rrA
  by_cases h1 : (getNum l 0).2.2 = true
  · have n1 := getNum_near l 0 h1
    split
    · unfold rr1; split
      · rename_i h2
        have n2 := getNum_near l _ h2
        unfold rr1b; split
        · rename_i h3
          have n3 := getNum_near l _ h3
          exact recFin_far _ _ _ _ _ _ _ _ _ _ _ _ (by omega)
        · rfl
      · rfl
    · split
      · unfold rr2; split
        · rename_i h2
          have n2 := getNum_near l _ h2
          unfold rr2b; split
          · rename_i h3
            have n3 := getNum_near l _ h3
            unfold rr2c; split
            · rename_i h4
              have n4 := cmdRead_near l _ h4
              exact recFin_far _ _ _ _ _ _ _ _ _ _ _ _ (by omega)
            · rfl
          · rfl
        · rfl
      · split
        · unfold rr3; split
          · rename_i h2
            have n2 := getNum_near l _ h2
            exact recFin_far _ _ _ _ _ _ _ _ _ _ _ _ (by omega)
          · rfl
        · rfl
  · rw [getNum_no l 0 (by simpa using h1)]
    simp

theorem rd_app (P Q : List Int) (i : Nat) : rd (P ++ Q) ((P.length + i : Nat) : Int) = rd Q (i : Int) := by
  rw [rd_nat, rd_nat]
  simp [List.getD_eq_getElem?_getD, List.getElem?_append_right]
theorem gn_put : ∀ (d k0 : Nat) (l P R : List Int) (a x n : Int), l = P ++ (putNum n ++ R) → (P.length : Int) = a + k0 → 0 ≤ n → n < p7 (d + 1) → (0 < n ∨ k0 = 0) →
    gn (d + 1) l a k0 x = (x + n * p7 k0, a + k0 + (putNum n).length, true)
  | d, k0, l, P, R, a, x, n, hl, hP, h0, h1, hc => by
    have e0 : ∀ Q : List Int, rd (P ++ Q) (a + k0) = rd Q 0 := fun Q => by have := rd_app P Q 0; rw [← hP]; simpa using this
    by_cases h : n > 127
    · have hd : n / 128 < p7 d := by
        have := p7_succ d
        generalize p7 (d + 1) = u at *
        generalize p7 d = v at *
        omega
      obtain ⟨d', rfl⟩ : ∃ d', d = d' + 1 := by
        cases d with
        | zero => rw [p7_0] at hd; omega
        | succ d' => exact ⟨d', rfl⟩
      have ih := gn_put d' (k0 + 1) l (P ++ [n % 128 + 128]) R a (x + (n % 128 + 128) % 128 * p7 k0) (n / 128) (by rw [hl, putNum_big h]; simp) (by simp; omega) (by omega) hd (.inl (by omega))
      rw [gn, hl, putNum_big h, List.cons_append, e0, show rd ((n % 128 + 128) :: (putNum (n / 128) ++ R)) 0 = n % 128 + 128 from rfl, if_pos (by simp; omega), if_neg (by omega)]
      rw [show P ++ (n % 128 + 128) :: (putNum (n / 128) ++ R) = l by rw [hl, putNum_big h]; simp, ih, p7_succ]
      have e1 : (n % 128 + 128) % 128 = n % 128 := by omega
      have e2 : n % 128 * p7 k0 + n / 128 * (p7 k0 * 128) = n * p7 k0 := by
        have : n / 128 * (p7 k0 * 128) = (128 * (n / 128)) * p7 k0 := by rw [Int.mul_comm (p7 k0) 128, ← Int.mul_assoc, Int.mul_comm (n / 128) 128]
        rw [this, ← Int.add_mul]
        congr 1
        omega
      rw [e1]
      simp only [Prod.mk.injEq, and_true]
      refine ⟨by rw [Int.add_assoc, e2], by simp; omega⟩
    · rw [gn, hl, putNum_small h, List.cons_append, List.nil_append, e0, show rd (n :: R) 0 = n from rfl, if_pos (by simp; omega), if_pos (by omega), if_neg (by omega), show n % 128 = n by omega]
      simp only [Prod.mk.injEq, List.length_singleton, and_true, true_and]
      omega
theorem getNum_putNum (P R : List Int) (n : Int) (h0 : 0 ≤ n) (h1 : n ≤ 9223372036854775807) : getNum (P ++ (putNum n ++ R)) (P.length : Int) = (n, (P.length : Int) + (putNum n).length, true) := by
  unfold getNum
  rw [if_neg (by omega), gn_put 8 0 _ P R _ 0 n rfl (by simp) h0 (by show n < p7 9; have : p7 9 = 9223372036854775808 := by decide
                                                                     omega) (.inr rfl), p7_0]
  simp

/-- What is read from numbers packs to just the bytes that were read. -/
theorem gn_back : ∀ (d k0 : Nat) (l P Q : List Int) (a x : Int), By l → l = P ++ Q → (P.length : Int) = a + k0 → 0 ≤ a → (gn d l a k0 x).2.2 = true →
    ∃ (n : Int) (R : List Int), 0 ≤ n ∧ (0 < k0 → 0 < n) ∧ (gn d l a k0 x).2.1 = a + k0 + (putNum n).length ∧ Q = putNum n ++ R ∧ (gn d l a k0 x).1 = x + n * p7 k0
  | 0, _, _, _, _, _, _, _, _, _, _, h => by simp [gn] at h
  | d + 1, k0, l, P, Q, a, x, hb, hl, hP, ha, h => by
    have e0 : rd l (a + k0) = rd Q 0 := by have := rd_app P Q 0; rw [hl, ← hP]; simpa using this
    have hr := hb.at_ (a + k0)
    have ll : l.length = P.length + Q.length := by rw [hl, List.length_append]
    rw [gn] at h ⊢
    by_cases c0 : a + k0 < l.length
    · rw [if_pos c0] at h ⊢
      obtain ⟨c, Q', rfl⟩ : ∃ c Q', Q = c :: Q' := by
        cases Q with
        | nil => simp at ll; omega
        | cons c Q' => exact ⟨c, Q', rfl⟩
      have e1 : rd l (a + k0) = c := by rw [e0]; rfl
      rw [e1] at h hr ⊢
      by_cases c1 : c < 128
      · rw [if_pos c1] at h ⊢
        by_cases c2 : c = 0 ∧ 0 < k0
        · rw [if_pos c2] at h; simp at h
        · rw [if_neg c2]
          refine ⟨c, Q', hr.1, fun hk => by omega, ?_, ?_, ?_⟩
          · rw [putNum_small (by omega)]; rfl
          · rw [putNum_small (by omega)]; rfl
          · rw [show c % 128 = c by omega]
      · rw [if_neg c1] at h ⊢
        obtain ⟨n, R, n0, n1, q, hq, hx⟩ := gn_back d (k0 + 1) l (P ++ [c]) Q' a _ hb (by rw [hl]; simp) (by simp; omega) ha h
        have n1 := n1 (by omega)
        have e2 : (c % 128 + 128 * n) % 128 + 128 = c := by omega
        have e3 : (c % 128 + 128 * n) / 128 = n := by omega
        have e4 : putNum (c % 128 + 128 * n) = c :: putNum n := by rw [putNum_big (by omega), e2, e3]
        refine ⟨c % 128 + 128 * n, R, by omega, fun _ => by omega, ?_, ?_, ?_⟩
        · rw [q, e4, List.length_cons]; omega
        · rw [e4, hq]; rfl
        · rw [hx, p7_succ, Int.add_mul, Int.add_assoc, Int.mul_comm 128 n, Int.mul_assoc, Int.mul_comm 128 (p7 k0)]
    · rw [if_neg c0] at h; simp at h
theorem getNum_back (l P Q : List Int) (hb : By l) (hl : l = P ++ Q) (h : (getNum l (P.length : Int)).2.2 = true) : ∃ R, 0 ≤ (getNum l (P.length : Int)).1 ∧ Q = putNum (getNum l (P.length : Int)).1 ++ R ∧ (getNum l (P.length : Int)).2.1 = ((P ++ putNum (getNum l (P.length : Int)).1).length : Int) := by
  unfold getNum at h ⊢
  rw [if_neg (by omega)] at h ⊢
  obtain ⟨n, R, n0, _, q, hq, hx⟩ := gn_back 9 0 l P Q _ 0 hb hl (by simp) (by omega) h
  rw [p7_0, Int.mul_one, Int.zero_add] at hx
  rw [hx]
  exact ⟨R, n0, hq, by rw [q, List.length_append]; omega⟩

theorem bytesOf_by (s : ByteArray) : By (bytesOf s) := by
  intro x hx
  unfold bytesOf at hx
  obtain ⟨b, _, rfl⟩ := List.mem_map.1 hx
  have := b.toNat_lt
  omega

theorem strOf_inj {a b : List Int} (ha : By a) (hb : By b) (h : strOfNums a = strOfNums b) : a = b := by
  have h2 : (a.map fun n => UInt8.ofNat n.toNat) = (b.map fun n => UInt8.ofNat n.toNat) := by
    have := congrArg (fun s : ByteArray => s.data.toList) h
    simpa [strOfNums_data] using this
  clear h
  induction a generalizing b with
  | nil => cases b with
    | nil => rfl
    | cons y t => simp at h2
  | cons x s ih => cases b with
    | nil => simp at h2
    | cons y t =>
      simp only [List.map_cons, List.cons.injEq] at h2
      have hx := ha x (by simp)
      have hy := hb y (by simp)
      have e := congrArg UInt8.toNat h2.1
      simp only [UInt8.toNat_ofNat'] at e
      have : x = y := by omega
      rw [this, ih (fun z hz => ha z (by simp [hz])) (fun z hz => hb z (by simp [hz])) h2.2]
theorem toList_inj {a b : ByteArray} (h : a.toList = b.toList) : a = b := by
  rw [ByteArray.toList_eq, ByteArray.toList_eq] at h
  exact ByteArray.ext (Array.toList_inj.1 h)
theorem strOf_bytesOf (s : ByteArray) : strOfNums (bytesOf s) = s := by
  apply ByteArray.ext
  apply Array.toList_inj.1
  have h := strOfNums_data (bytesOf s)
  rw [h]
  unfold bytesOf
  rw [List.map_map]
  have : ((fun n : Int => UInt8.ofNat n.toNat) ∘ fun b : UInt8 => (b.toNat : Int)) = id := by
    funext b
    simp
  rw [this, List.map_id]
theorem bytesOf_strOf' (l : List Int) (hb : By l) : bytesOf (strOfNums l) = l := strOf_inj (bytesOf_by _) hb (strOf_bytesOf _)
theorem getNum_at (P R : List Int) (n : Int) (h0 : 0 ≤ n) (h1 : n ≤ 9223372036854775807) : getNum (P ++ (putNum n ++ R)) (P.length : Int) = (n, ((P ++ putNum n).length : Int), true) := by
  rw [getNum_putNum P R n h0 h1, List.length_append, Int.natCast_add]
theorem ba_empty {s : ByteArray} (h : (s.toList == ([] : List UInt8)) = true) : s = (⟨#[]⟩ : ByteArray) := by
  have e : (⟨#[]⟩ : ByteArray).toList = [] := by rw [ByteArray.toList_eq]
  exact toList_inj (by rw [e]; simpa using h)
theorem seg32_at (P R : List Int) (h : 32 ≤ R.length) : seg32 (P ++ R) (P.length : Int) = strOfNums (R.take 32) := by
  unfold seg32
  rw [show ((P.length : Int) + 32).toNat = P.length + 32 by omega, Int.toNat_natCast, List.take_append, List.drop_append, List.take_of_length_le (show P.length ≤ P.length + 32 by omega), List.drop_length, List.nil_append, Nat.add_sub_cancel_left, Nat.sub_self, List.drop_zero]
theorem cmdRead_pack (P R : List Int) (kd rl nd sz : Int) (dg : ByteArray) (h : cmdOk kd rl nd sz dg = true) : cmdRead (P ++ ((cmdPack kd rl nd sz dg).1 ++ R)) (P.length : Int) = (kd, rl, nd, sz, dg, ((P ++ (cmdPack kd rl nd sz dg).1).length : Int), true) := by
  obtain ⟨k0, k1, k2, k3⟩ := cmdOk_k h
  have hh := h
  unfold cmdOk at hh
  unfold cmdPack
  rw [if_pos h]
  by_cases h1 : kd = 1
  · rw [if_pos h1] at hh
    simp only [Bool.and_eq_true, beq_iff_eq] at hh
    obtain ⟨r0, n0, s0, d0⟩ := hh
    have d0 := ba_empty (by simpa using d0)
    subst h1 r0 n0 s0 d0
    simp only [↓reduceIte]
    unfold cmdRead
    rw [getNum_at P R 1 (by decide) (by decide)]
    rfl
  have k1 := k1 h1
  by_cases h2 : kd = 2
  · have k3 := k3 h2
    rw [if_neg h1, if_pos h2] at hh
    simp only [Bool.and_eq_true, beq_iff_eq] at hh
    have n0 := hh.2.2.2
    subst h2 n0
    simp only [show ¬ ((2 : Int) = 1) by decide, ↓reduceIte]
    have g1 := getNum_at P (putNum rl ++ (putNum sz ++ (bytesOf dg ++ R))) 2 (by decide) (by decide)
    have g2 := getNum_at (P ++ putNum 2) (putNum sz ++ (bytesOf dg ++ R)) rl (by omega) (by omega)
    have g3 := getNum_at (P ++ putNum 2 ++ putNum rl) (bytesOf dg ++ R) sz (by omega) (by omega)
    have g4 := seg32_at (P ++ putNum 2 ++ putNum rl ++ putNum sz) (bytesOf dg ++ R) (by rw [List.length_append, bytesOf_length]; omega)
    have g5 : (bytesOf dg ++ R).take 32 = bytesOf dg := by rw [List.take_append_of_le_length (by rw [bytesOf_length]; omega), List.take_of_length_le (by rw [bytesOf_length]; omega)]
    rw [g5, strOf_bytesOf] at g4
    have e : P ++ (putNum 2 ++ putNum rl ++ putNum sz ++ bytesOf dg ++ R) = P ++ (putNum 2 ++ (putNum rl ++ (putNum sz ++ (bytesOf dg ++ R)))) := by simp only [List.append_assoc]
    rw [e]
    have hl : (P ++ (putNum 2 ++ (putNum rl ++ (putNum sz ++ (bytesOf dg ++ R))))).length = (P ++ putNum 2 ++ putNum rl ++ putNum sz).length + 32 + R.length := by simp only [List.length_append, bytesOf_length]; omega
    simp only [List.append_assoc] at g1 g2 g3 g4 hl ⊢
    generalize P ++ (putNum 2 ++ (putNum rl ++ (putNum sz ++ (bytesOf dg ++ R)))) = l at *
    unfold cmdRead cmA cmB cm2
    rw [g1]
    simp only [g2, g3, ↓reduceIte, show (1 : Int) ≤ 2 ∧ (2 : Int) ≤ 5 from ⟨by decide, by decide⟩, and_self, show ¬ ((2 : Int) = 1) by decide, show ¬ ((2 : Int) = 3) by decide]
    rw [if_pos (by omega), g4]
    unfold cmFin
    rw [if_pos h]
    simp only [Prod.mk.injEq, true_and, and_true, List.length_append, bytesOf_length]
    omega
  by_cases h3 : kd = 3
  · have k2 := k2 h3
    rw [if_neg h1, if_neg h2, if_pos h3] at hh
    simp only [Bool.and_eq_true, beq_iff_eq] at hh
    obtain ⟨_, _, s0, d0⟩ := hh
    have d0 := ba_empty (by simpa using d0)
    subst h3 s0 d0
    simp only [show ¬ ((3 : Int) = 1) by decide, show ¬ ((3 : Int) = 2) by decide, ↓reduceIte]
    have g1 := getNum_at P (putNum rl ++ (putNum nd ++ R)) 3 (by decide) (by decide)
    have g2 := getNum_at (P ++ putNum 3) (putNum nd ++ R) rl (by omega) (by omega)
    have g3 := getNum_at (P ++ putNum 3 ++ putNum rl) R nd (by omega) (by omega)
    have e : P ++ (putNum 3 ++ putNum rl ++ putNum nd ++ R) = P ++ (putNum 3 ++ (putNum rl ++ (putNum nd ++ R))) := by simp only [List.append_assoc]
    rw [e]
    simp only [List.append_assoc] at g1 g2 g3 ⊢
    generalize P ++ (putNum 3 ++ (putNum rl ++ (putNum nd ++ R))) = l at *
    unfold cmdRead cmA cmB cm3
    rw [g1]
    simp only [g2, g3, ↓reduceIte, show (1 : Int) ≤ 3 ∧ (3 : Int) ≤ 5 from ⟨by decide, by decide⟩, and_self, show ¬ ((3 : Int) = 1) by decide]
    unfold cmFin
    rw [if_pos h]
  · rw [if_neg h1, if_neg h2, if_neg h3, if_pos (by omega)] at hh
    simp only [Bool.and_eq_true, beq_iff_eq] at hh
    obtain ⟨_, n0, s0, d0⟩ := hh
    have d0 := ba_empty (by simpa using d0)
    subst n0 s0 d0
    simp only [h1, h2, h3, ↓reduceIte]
    have g1 := getNum_at P (putNum rl ++ R) kd (by omega) (by omega)
    have g2 := getNum_at (P ++ putNum kd) R rl (by omega) (by omega)
    have e : P ++ (putNum kd ++ putNum rl ++ R) = P ++ (putNum kd ++ (putNum rl ++ R)) := by simp only [List.append_assoc]
    rw [e]
    simp only [List.append_assoc] at g1 g2 ⊢
    generalize P ++ (putNum kd ++ (putNum rl ++ R)) = l at *
    have hk : 1 ≤ kd ∧ kd ≤ 5 := by omega
    unfold cmdRead cmA cmB
    rw [g1]
    simp only [g2, ↓reduceIte, hk, and_self, h1, h2, h3]
    unfold cmFin
    rw [if_pos h]

theorem cmFin_ok {x1 x2 x3 x4 : Int} {d : ByteArray} {p : Int} (h : (cmFin x1 x2 x3 x4 d p).2.2.2.2.2.2 = true) : cmdOk x1 x2 x3 x4 d = true := by
  unfold cmFin at h
  split at h
  · assumption
  · simp [zC] at h
/-- Bytes that are read are what the command packs to. -/
theorem cmdRead_fwd (l P Q : List Int) (hb : By l) (hl : l = P ++ Q) (h : (cmdRead l (P.length : Int)).2.2.2.2.2.2 = true) : ∃ (kd rl nd sz : Int) (dg : ByteArray) (R : List Int), cmdOk kd rl nd sz dg = true ∧ Q = (cmdPack kd rl nd sz dg).1 ++ R := by
  have b1 := getNum_back l P Q hb hl
  unfold cmdRead cmA at h
  generalize getNum l (P.length : Int) = G at *
  obtain ⟨x1, a1, o1⟩ := G
  simp only at b1 h
  have c : o1 = true ∧ 1 ≤ x1 ∧ x1 ≤ 5 := Decidable.byContradiction fun c => by rw [if_neg c] at h; simp [zC] at h
  rw [if_pos c] at h
  obtain ⟨R1, n1, q1, p1⟩ := b1 c.1
  by_cases e1 : x1 = 1
  · refine ⟨1, 0, 0, 0, (⟨#[]⟩ : ByteArray), R1, cmdOk_one, ?_⟩
    unfold cmdPack
    rw [if_pos cmdOk_one, q1, e1]
    rfl
  rw [if_neg e1, p1] at h
  have b2 := getNum_back l (P ++ putNum x1) R1 hb (by rw [hl, q1, List.append_assoc])
  unfold cmB at h
  generalize getNum l ((P ++ putNum x1).length : Int) = G at *
  obtain ⟨x2, a2, o2⟩ := G
  simp only at b2 h
  have c2 : o2 = true := Decidable.byContradiction fun c2 => by rw [if_neg c2] at h; simp [zC] at h
  rw [if_pos c2] at h
  obtain ⟨R2, n2, q2, p2⟩ := b2 c2
  rw [p2] at h
  have b3 := getNum_back l (P ++ putNum x1 ++ putNum x2) R2 hb (by rw [hl, q1, q2]; simp only [List.append_assoc])
  by_cases e3 : x1 = 3
  · rw [if_pos e3] at h
    unfold cm3 at h
    generalize getNum l ((P ++ putNum x1 ++ putNum x2).length : Int) = G at *
    obtain ⟨x3, a3, o3⟩ := G
    simp only at b3 h
    have c3 : o3 = true := Decidable.byContradiction fun c3 => by rw [if_neg c3] at h; simp [zC] at h
    rw [if_pos c3] at h
    have ok := cmFin_ok h
    obtain ⟨R3, n3, q3, p3⟩ := b3 c3
    refine ⟨3, x2, x3, 0, _, R3, ok, ?_⟩
    unfold cmdPack
    rw [if_pos ok, q1, q2, q3, e3]
    simp
  rw [if_neg e3] at h
  by_cases e2 : x1 = 2
  · rw [if_pos e2] at h
    unfold cm2 at h
    generalize getNum l ((P ++ putNum x1 ++ putNum x2).length : Int) = G at *
    obtain ⟨x3, a3, o3⟩ := G
    simp only at b3 h
    have c3 : o3 = true := Decidable.byContradiction fun c3 => by rw [if_neg c3] at h; simp [zC] at h
    rw [if_pos c3] at h
    obtain ⟨R3, n3, q3, p3⟩ := b3 c3
    have hl3 : l = (P ++ putNum x1 ++ putNum x2 ++ putNum x3) ++ R3 := by rw [hl, q1, q2, q3]; simp only [List.append_assoc]
    have c4 : 32 ≤ (l.length : Int) - a3 := Decidable.byContradiction fun c4 => by rw [if_neg c4] at h; simp [zC] at h
    rw [if_pos c4] at h
    have ok := cmFin_ok h
    have ll : l.length = (P ++ putNum x1 ++ putNum x2 ++ putNum x3).length + R3.length := by rw [hl3, List.length_append]
    have hs := seg32_at (P ++ putNum x1 ++ putNum x2 ++ putNum x3) R3 (by omega)
    rw [← hl3, ← p3] at hs
    rw [hs] at ok
    have hR : By R3 := fun z hz => hb z (by rw [hl3]; exact List.mem_append_right _ hz)
    refine ⟨2, x2, 0, x3, _, R3.drop 32, ok, ?_⟩
    unfold cmdPack
    rw [if_pos ok, q1, q2, q3, e2, bytesOf_strOf' _ (fun z hz => hR z (List.mem_of_mem_take hz))]
    simp [List.take_append_drop]
  · rw [if_neg e2] at h
    have ok := cmFin_ok h
    refine ⟨x1, x2, 0, 0, _, R2, ok, ?_⟩
    unfold cmdPack
    rw [if_pos ok, if_neg e1, if_neg e2, if_neg e3, q1, q2]
    simp
def low (x : Int) : Int := Go.bits .and .i64 x 4294967295
def trn (x n : Int) : Int := low (Go.bits .or .i64 (shr .i64 x n) (shl .i64 x (32 - n)))
theorem l2Low_eq (x : Int) : spec_l2Low.f x = some (low x) := rfl
theorem l2Turn_eq (x n : Int) (h0 : 0 ≤ n) (h1 : n ≤ 32) : spec_l2Turn.f x n = some (trn x n) := by
  unfold spec_l2Turn.f
  rw [w64 (x := 32 - n) (by omega) (by omega), if_pos h0, if_pos (by omega), l2Low_eq]
  rfl
def wd (b : List Int) (i : Nat) : Int := Go.bits .or .i64 (Go.bits .or .i64 (Go.bits .or .i64 (wrap64 ((wrap64 (rd b ((4 * i : Nat) : Int))) * 16777216)) (wrap64 ((wrap64 (rd b ((4 * i + 1 : Nat) : Int))) * 65536))) (wrap64 ((wrap64 (rd b ((4 * i + 2 : Nat) : Int))) * 256))) (wrap64 (rd b ((4 * i + 3 : Nat) : Int)))
def s0w (x : Int) : Int := Go.bits .xor .i64 (Go.bits .xor .i64 (trn x 7) (trn x 18)) (x / 8)
def s1w (y : Int) : Int := Go.bits .xor .i64 (Go.bits .xor .i64 (trn y 17) (trn y 19)) (y / 1024)
def nextw (ws : List Int) (t : Nat) : Int := low (wrap64 ((wrap64 ((wrap64 (s1w (rd ws ((t - 2 : Nat) : Int)) + rd ws ((t - 7 : Nat) : Int))) + s0w (rd ws ((t - 15 : Nat) : Int)))) + rd ws ((t - 16 : Nat) : Int)))
def expd : Nat → Nat → List Int → List Int
  | 0, _, ws => ws
  | n + 1, t, ws => expd n (t + 1) (ws ++ [nextw ws t])
def keysS : List Int := [1116352408, 1899447441, 3049323471, 3921009573, 961987163, 1508970993, 2453635748, 2870763221, 3624381080, 310598401, 607225278, 1426881987, 1925078388, 2162078206, 2614888103, 3248222580, 3835390401, 4022224774, 264347078, 604807628, 770255983, 1249150122, 1555081692, 1996064986, 2554220882, 2821834349, 2952996808, 3210313671, 3336571891, 3584528711, 113926993, 338241895, 666307205, 773529912, 1294757372, 1396182291, 1695183700, 1986661051, 2177026350, 2456956037, 2730485921, 2820302411, 3259730800, 3345764771, 3516065817, 3600352804, 4094571909, 275423344, 430227734, 506948616, 659060556, 883997877, 958139571, 1322822218, 1537002063, 1747873779, 1955562222, 2024104815, 2227730452, 2361852424, 2428436474, 2756734187, 3204031479, 3329325298]
def t1S (v : List Int) (kk ww : Int) : Int := low (wrap64 ((wrap64 ((wrap64 ((wrap64 ((rd v 7) + (Go.bits .xor .i64 (Go.bits .xor .i64 (trn (rd v 4) 6) (trn (rd v 4) 11)) (trn (rd v 4) 25)))) + (Go.bits .xor .i64 (Go.bits .and .i64 (rd v 4) (rd v 5)) (Go.bits .and .i64 (Go.bits .xor .i64 4294967295 (rd v 4)) (rd v 6))))) + kk)) + ww))
def t2S (v : List Int) : Int := low (wrap64 ((Go.bits .xor .i64 (Go.bits .xor .i64 (trn (rd v 0) 2) (trn (rd v 0) 13)) (trn (rd v 0) 22)) + (Go.bits .xor .i64 (Go.bits .xor .i64 (Go.bits .and .i64 (rd v 0) (rd v 1)) (Go.bits .and .i64 (rd v 0) (rd v 2))) (Go.bits .and .i64 (rd v 1) (rd v 2)))))
def rndS (ws : List Int) (v : List Int) (t : Nat) : List Int :=
  [low (wrap64 (t1S v (rd keysS (t : Int)) (rd ws (t : Int)) + t2S v)), rd v 0, rd v 1, rd v 2, low (wrap64 ((rd v 3) + t1S v (rd keysS (t : Int)) (rd ws (t : Int)))), rd v 4, rd v 5, rd v 6]
def rndsS (ws : List Int) : Nat → Nat → List Int → List Int
  | 0, _, v => v
  | n + 1, t, v => rndsS ws n (t + 1) (rndS ws v t)
def addS (h v : List Int) : List Int := (List.range 8).map fun (i : Nat) => low (wrap64 ((rd h (i : Int)) + (rd v (i : Int))))
def blockS (h b : List Int) : List Int := addS h (rndsS (expd 48 16 ((List.range 16).map (wd b))) 64 0 h)
theorem expd_len : ∀ (n t : Nat) (ws : List Int), (expd n t ws).length = ws.length + n
  | 0, _, ws => rfl
  | n + 1, t, ws => by rw [expd, expd_len n]; simp; omega
theorem block_l0 (h b : List Int) (hb : b.length = 64) (R : List Int) (hR : Ev (fun k => spec_l2Block.l1 k h ((List.range 16).map (wd b)) 16) R) (d : Nat) : ∀ i : Nat, i + d = 16 → Ev (fun k => spec_l2Block.l0 k h b ((List.range i).map (wd b)) (i : Int)) R := by
  induction d with
  | zero =>
    intro i hi
    obtain rfl : i = 16 := by omega
    refine Ev.step (fun k => by simp only [spec_l2Block.l0]; rw [if_neg (by omega)]) ?_
    exact hR
  | succ d ih =>
    intro i hi
    have h0 := ih (i + 1) (by omega)
    have e0 : wrap64 (4 * (i : Int)) = ((4 * i : Nat) : Int) := by rw [w64 (by omega) (by omega)]; omega
    have e1 : wrap64 (((4 * i : Nat) : Int) + 1) = ((4 * i + 1 : Nat) : Int) := by rw [w64 (by omega) (by omega)]; omega
    have e2 : wrap64 (((4 * i : Nat) : Int) + 2) = ((4 * i + 2 : Nat) : Int) := by rw [w64 (by omega) (by omega)]; omega
    have e3 : wrap64 (((4 * i : Nat) : Int) + 3) = ((4 * i + 3 : Nat) : Int) := by rw [w64 (by omega) (by omega)]; omega
    have e4 : wrap64 ((i : Int) + 1) = ((i + 1 : Nat) : Int) := by rw [w64 (by omega) (by omega)]; omega
    refine Ev.step (fun k => ?_) h0
    simp only [spec_l2Block.l0]
    rw [if_pos (by omega), e0, e1, e2, e3, e4, if_pos (by omega), if_pos (by omega), if_pos (by omega), if_pos (by omega), if_pos (by omega), if_pos (by omega), if_pos (by omega), if_pos (by omega), if_pos (by simp; omega)]
    rw [List.range_succ, List.map_append]
    rfl
theorem block_l1 (h : List Int) (hh : h.length = 8) (R : List Int) (d : Nat) : ∀ (t : Nat) (ws : List Int), t + d = 64 → 16 ≤ t → ws.length = t → Ev (fun k => spec_l2Block.l2 k h (expd d t ws) keysS h 0) R → Ev (fun k => spec_l2Block.l1 k h ws (t : Int)) R := by
  induction d with
  | zero =>
    intro t ws ht h16 hl hR
    refine Ev.step (fun k => ?_) hR
    simp only [spec_l2Block.l1]
    rw [if_neg (by omega)]
    simp only [spec_l2Keys.f, Option.bind_some, List.length_nil, List.nil_append]
    rw [if_pos (by omega)]
    rfl
  | succ d ih =>
    intro t ws ht h16 hl hR
    have h0 := ih (t + 1) (ws ++ [nextw ws t]) (by omega) (by omega) (by rw [List.length_append, hl]; rfl) hR
    clear hR ih
    have g0 : (t : Int) < 64 := by omega
    have g15 : ((t - 15 : Nat) : Int) < (ws.length : Int) := by omega
    have g2 : ((t - 2 : Nat) : Int) < (ws.length : Int) := by omega
    have g7 : ((t - 7 : Nat) : Int) < (ws.length : Int) := by omega
    have g16 : ((t - 16 : Nat) : Int) < (ws.length : Int) := by omega
    have gl : ws.length < 17592186044416 := by omega
    have e1 : wrap64 ((t : Int) - 15) = ((t - 15 : Nat) : Int) := by rw [w64 (by omega) (by omega)]; omega
    have e2 : wrap64 ((t : Int) - 2) = ((t - 2 : Nat) : Int) := by rw [w64 (by omega) (by omega)]; omega
    have e3 : wrap64 ((t : Int) - 7) = ((t - 7 : Nat) : Int) := by rw [w64 (by omega) (by omega)]; omega
    have e4 : wrap64 ((t : Int) - 16) = ((t - 16 : Nat) : Int) := by rw [w64 (by omega) (by omega)]; omega
    have e5 : wrap64 ((t : Int) + 1) = ((t + 1 : Nat) : Int) := by rw [w64 (by omega) (by omega)]; omega
    refine Ev.step (fun k => ?_) h0
    simp only [spec_l2Block.l1]
    rw [if_pos g0, e1, e2, e3, e4, e5, if_pos (Int.natCast_nonneg _), if_pos g15]
    simp only [l2Turn_eq _ 7 (by decide) (by decide), l2Turn_eq _ 18 (by decide) (by decide), l2Turn_eq _ 17 (by decide) (by decide), l2Turn_eq _ 19 (by decide) (by decide), l2Low_eq, Option.bind_some]
    rw [if_pos (Int.natCast_nonneg _), if_pos g2, if_pos (Int.natCast_nonneg _), if_pos g7, if_pos (Int.natCast_nonneg _), if_pos g16, if_pos gl]
    unfold nextw s1w s0w
    with_reducible rfl
theorem rndS_len (ws v : List Int) (t : Nat) : (rndS ws v t).length = 8 := rfl
theorem block_l2 (h ws : List Int) (hw : ws.length = 64) (R : List Int) (d : Nat) : ∀ (t : Nat) (v : List Int), t + d = 64 → v.length = 8 → Ev (fun k => spec_l2Block.l3 k h (rndsS ws d t v) [] 0) R → Ev (fun k => spec_l2Block.l2 k h ws keysS v (t : Int)) R := by
  have hk : keysS.length = 64 := rfl
  induction d with
  | zero =>
    intro t v ht hv hR
    refine Ev.step (fun k => ?_) hR
    simp only [spec_l2Block.l2]
    rw [if_neg (by omega)]
    rfl
  | succ d ih =>
    intro t v ht hv hR
    have h0 := ih (t + 1) (rndS ws v t) (by omega) (rndS_len ws v t) hR
    clear hR ih
    have g0 : (t : Int) < 64 := by omega
    have gk : (t : Int) < (keysS.length : Int) := by rw [hk]; exact g0
    have gw : (t : Int) < (ws.length : Int) := by rw [hw]; exact g0
    have g7 : (7 : Int) < (v.length : Int) := by omega
    have g6 : (6 : Int) < (v.length : Int) := by omega
    have g5 : (5 : Int) < (v.length : Int) := by omega
    have g4 : (4 : Int) < (v.length : Int) := by omega
    have g3 : (3 : Int) < (v.length : Int) := by omega
    have g2 : (2 : Int) < (v.length : Int) := by omega
    have g1 : (1 : Int) < (v.length : Int) := by omega
    have gz : (0 : Int) < (v.length : Int) := by omega
    have gt : 0 ≤ (t : Int) := Int.natCast_nonneg _
    have e5 : wrap64 ((t : Int) + 1) = ((t + 1 : Nat) : Int) := by rw [w64 (by omega) (by omega)]; omega
    refine Ev.step (fun k => ?_) h0
    simp only [spec_l2Block.l2]
    simp only [if_pos g0, if_pos gk, if_pos gw, if_pos g7, if_pos g6, if_pos g5, if_pos g4, if_pos g3, if_pos g2, if_pos g1, if_pos gz, if_pos gt, l2Turn_eq _ 6 (by decide) (by decide), l2Turn_eq _ 11 (by decide) (by decide), l2Turn_eq _ 25 (by decide) (by decide), l2Turn_eq _ 2 (by decide) (by decide), l2Turn_eq _ 13 (by decide) (by decide), l2Turn_eq _ 22 (by decide) (by decide), l2Low_eq, Option.bind_some, e5]
    unfold rndS t1S t2S
    with_reducible rfl
theorem block_l3 (h v : List Int) (hh : h.length = 8) (hv : v.length = 8) (d : Nat) : ∀ i : Nat, i + d = 8 → Ev (fun k => spec_l2Block.l3 k h v ((List.range i).map fun (i : Nat) => low (wrap64 ((rd h (i : Int)) + (rd v (i : Int))))) (i : Int)) (addS h v) := by
  induction d with
  | zero =>
    intro i hi
    obtain rfl : i = 8 := by omega
    refine Ev.step (f := fun _ => some (addS h v)) (fun k => ?_) (Ev.now _)
    simp only [spec_l2Block.l3]
    rw [if_neg (by omega)]
    rfl
  | succ d ih =>
    intro i hi
    have h0 := ih (i + 1) (by omega)
    have e4 : wrap64 ((i : Int) + 1) = ((i + 1 : Nat) : Int) := by rw [w64 (by omega) (by omega)]; omega
    refine Ev.step (fun k => ?_) h0
    simp only [spec_l2Block.l3]
    rw [if_pos (by omega), if_pos (by omega), if_pos (by omega), if_pos (by omega)]
    simp only [l2Low_eq, Option.bind_some]
    rw [if_pos (by simp; omega), e4, List.range_succ, List.map_append]
    rfl
theorem rndsS_len (ws : List Int) : ∀ (n t : Nat) (v : List Int), v.length = 8 → (rndsS ws n t v).length = 8
  | 0, _, v, h => h
  | n + 1, t, v, h => by rw [rndsS]; exact rndsS_len ws n _ _ (rndS_len ws v t)
theorem addS_len (h v : List Int) : (addS h v).length = 8 := by simp [addS]
theorem l2Block_ev (h b : List Int) (hh : h.length = 8) (hb : b.length = 64) : Ev (fun k => spec_l2Block.f k h b) (blockS h b) := by
  unfold spec_l2Block.f
  refine block_l0 h b hb _ ?_ 16 0 (by omega)
  refine block_l1 h hh _ 48 16 _ (by omega) (by omega) (by simp) ?_
  have hw : (expd 48 16 ((List.range 16).map (wd b))).length = 64 := by rw [expd_len]; simp
  refine block_l2 h _ hw _ 64 0 h (by omega) hh ?_
  exact block_l3 h _ hh (rndsS_len _ _ _ _ hh) 8 0 (by omega)
def lbS (b : List Int) (j : Nat) : Int := (shr .i64 (wrap64 (8 * (b.length : Int))) ((8 * j : Nat) : Int)) % 256
def padS (b : List Int) : List Int := b ++ [128] ++ List.replicate ((119 - b.length % 64) % 64) 0 ++ (List.range 8).reverse.map (lbS b)
def h0S : List Int := [1779033703, 3144134277, 1013904242, 2773480762, 1359893119, 2600822924, 528734635, 1541459225]
def blksS : Nat → List Int → List Int → List Int
  | 0, _, h => h
  | n + 1, m, h => blksS n (m.drop 64) (blockS h (m.take 64))
def out4 (x : Int) : List Int := [x / 16777216 % 256, x / 65536 % 256, x / 256 % 256, x % 256]
def shaS (b : List Int) : List Int := if (b.length : Int) > 4000 then [] else (List.range 8).flatMap fun (i : Nat) => out4 (rd (blksS ((padS b).length / 64) (padS b) h0S) (i : Int))
theorem padS_len (b : List Int) : (padS b).length % 64 = 0 ∧ (padS b).length ≤ b.length + 80 := by
  unfold padS
  simp only [List.length_append, List.length_replicate, List.length_map, List.length_reverse, List.length_range, List.length_cons, List.length_nil]
  omega
theorem sha_l3 (v : List Int) (hv : v.length = 8) (d : Nat) : ∀ i : Nat, i + d = 8 → Ev (fun k => spec_Sha.l3 k ((List.range i).flatMap fun (i : Nat) => out4 (rd v (i : Int))) v (i : Int)) ((List.range 8).flatMap fun (i : Nat) => out4 (rd v (i : Int))) := by
  have hlen : ∀ i : Nat, ((List.range i).flatMap fun (i : Nat) => out4 (rd v (i : Int))).length = 4 * i := by
    intro i
    induction i with
    | zero => rfl
    | succ i ih => rw [List.range_succ, List.flatMap_append, List.length_append, ih]; simp [out4]; omega
  induction d with
  | zero =>
    intro i hi
    obtain rfl : i = 8 := by omega
    refine Ev.step (f := fun _ => some _) (fun k => ?_) (Ev.now _)
    simp only [spec_Sha.l3]
    rw [if_neg (by omega)]
  | succ d ih =>
    intro i hi
    have h0 := ih (i + 1) (by omega)
    have e4 : wrap64 ((i : Int) + 1) = ((i + 1 : Nat) : Int) := by rw [w64 (by omega) (by omega)]; omega
    have hl := hlen i
    refine Ev.step (fun k => ?_) h0
    simp only [spec_Sha.l3]
    rw [if_pos (by omega), if_pos (by omega), if_pos (by omega)]
    simp only [Option.bind_some]
    rw [if_pos (by rw [hl]; simp; omega), e4, List.range_succ, List.flatMap_append]
    simp [out4]
theorem sha_l2 (out : List Int) (hout : out = []) (m : List Int) (hm : m.length ≤ 1000000) (d : Nat) : ∀ (q : Nat) (h : List Int), 64 * (q + d) = m.length → h.length = 8 → Ev (fun k => spec_Sha.l2 k out m h ((64 * q : Nat) : Int)) ((List.range 8).flatMap fun (i : Nat) => out4 (rd (blksS d (m.drop (64 * q)) h) (i : Int))) := by
  subst hout
  induction d with
  | zero =>
    intro q h hq hh
    refine Ev.step (fun k => by simp only [spec_Sha.l2]; rw [if_neg (by omega)]) ?_
    exact sha_l3 h hh 8 0 (by omega)
  | succ d ih =>
    intro q h hq hh
    have hl : ((m.drop (64 * q)).take 64).length = 64 := by rw [List.length_take, List.length_drop]; omega
    have h0 := ih (q + 1) (blockS h ((m.drop (64 * q)).take 64)) (by omega) (addS_len _ _)
    have e4 : wrap64 (((64 * q : Nat) : Int) + 64) = ((64 * (q + 1) : Nat) : Int) := by rw [w64 (by omega) (by omega)]; omega
    have es : (m.take ((64 * (q + 1) : Nat) : Int).toNat).drop (((64 * q : Nat) : Int)).toNat = (m.drop (64 * q)).take 64 := by
      rw [Int.toNat_natCast, Int.toNat_natCast, List.drop_take]
      congr 1
      omega
    have ed : blksS (d + 1) (m.drop (64 * q)) h = blksS d (m.drop (64 * (q + 1))) (blockS h ((m.drop (64 * q)).take 64)) := by
      rw [blksS, List.drop_drop]
      rfl
    rw [ed]
    refine Ev.step (fun k => by simp only [spec_Sha.l2]; rw [if_pos (by omega), if_pos (by omega), e4, if_pos (by omega), if_pos (by omega), es]) ?_
    exact Ev.bind (l2Block_ev h _ hh hl) h0
theorem sha_l1 (b out : List Int) (R : List Int) (hb : b.length ≤ 4000) (d : Nat) : ∀ (m : List Int), d ≤ 8 → m.length + d ≤ 5000 → Ev (fun k => spec_Sha.l2 k out (m ++ (List.range d).reverse.map (lbS b)) h0S 0) R → Ev (fun k => spec_Sha.l1 k b out m ((d : Int) - 1)) R := by
  induction d with
  | zero =>
    intro m hd hm hR
    refine Ev.step (fun k => ?_) hR
    simp only [spec_Sha.l1]
    rw [if_neg (by omega)]
    simp [h0S]
  | succ d ih =>
    intro m hd hm hR
    have e1 : wrap64 (8 * (((d + 1 : Nat) : Int) - 1)) = ((8 * d : Nat) : Int) := by rw [w64 (by omega) (by omega)]; omega
    have e2 : wrap64 (((d + 1 : Nat) : Int) - 1 - 1) = (d : Int) - 1 := by rw [w64 (by omega) (by omega)]; omega
    have h0 := ih (m ++ [lbS b d]) (by omega) (by simp; omega) (by
      rw [List.range_succ, List.reverse_append, List.reverse_singleton, List.singleton_append, List.map_cons] at hR
      simpa using hR)
    refine Ev.step (fun k => ?_) h0
    simp only [spec_Sha.l1]
    rw [if_pos (by omega), e1, e2, if_pos (by omega), if_pos (by omega)]
    rfl
theorem sha_l0 (b out : List Int) (R : List Int) (d : Nat) : ∀ (m : List Int), d < 64 → (m.length + d) % 64 = 56 → m.length + d ≤ 5000 → Ev (fun k => spec_Sha.l1 k b out (m ++ List.replicate d 0) 7) R → Ev (fun k => spec_Sha.l0 k b out m) R := by
  induction d with
  | zero =>
    intro m hd hm hl hR
    refine Ev.step (fun k => ?_) hR
    simp only [spec_Sha.l0]
    rw [if_pos (by omega)]
    simp
  | succ d ih =>
    intro m hd hm hl hR
    have h0 := ih (m ++ [0]) (by omega) (by simp; omega) (by simp; omega) (by rw [List.replicate_succ] at hR; simpa using hR)
    refine Ev.step (fun k => ?_) h0
    simp only [spec_Sha.l0]
    rw [if_neg (by omega), if_pos (by omega)]
theorem specSha_ev (b : List Int) (hl : b.length ≤ 140737488355328) : Ev (fun k => spec_Sha.f k b) (shaS b) := by
  unfold spec_Sha.f shaS
  simp only [Option.bind_some, List.length_nil, List.nil_append]
  by_cases h : (b.length : Int) > 4000
  · simp only [h, ↓reduceIte]; exact Ev.now _
  · simp only [h, ↓reduceIte]
    have g1 : 0 + b.length < 140737488355328 := by omega
    have g2 : b.length < 140737488355328 := by omega
    simp only [if_pos g1, if_pos g2]
    have hp := padS_len b
    refine sha_l0 b [] _ ((119 - b.length % 64) % 64) (b ++ [128]) (by omega) (by simp; omega) (by simp; omega) ?_
    refine sha_l1 b [] _ (by omega) 8 _ (by omega) (by simp; omega) ?_
    have e : b ++ [128] ++ List.replicate ((119 - b.length % 64) % 64) 0 ++ (List.range 8).reverse.map (lbS b) = padS b := rfl
    rw [e]
    have h2 := sha_l2 [] rfl (padS b) (by omega) ((padS b).length / 64) 0 h0S (by omega) rfl
    simpa using h2
theorem shaS_by (b : List Int) : By (shaS b) ∧ (shaS b).length ≤ 32 := by
  unfold shaS
  split
  · exact ⟨fun x hx => by simp at hx, by simp⟩
  · constructor
    · intro x hx
      obtain ⟨i, _, hx⟩ := List.mem_flatMap.1 hx
      unfold out4 at hx
      simp only [List.mem_cons, List.not_mem_nil, or_false] at hx
      omega
    · simp [out4, List.flatMap, List.range, List.range.loop]

theorem l1Byte_ok (b : List Int) (i h : Int) (hi : 0 ≤ i ∧ i ≤ 9223372036854775807) (hb : b.length ≤ 140737488355328) : ∃ x i' h', spec_l1Byte.f b i h = some (x, i', h') ∧ 0 ≤ i' ∧ i' ≤ 9223372036854775807 := by
  unfold spec_l1Byte.f
  by_cases c : i < (b.length : Int)
  · rw [if_pos c, if_pos hi.1, w64 (x := i + 1) (by omega) (by omega)]
    exact ⟨_, _, _, rfl, by omega, by omega⟩
  · rw [if_neg c]
    exact ⟨_, _, _, rfl, hi.1, hi.2⟩
theorem l1Below_ok (b : List Int) (i h a : Int) (hi : 0 ≤ i ∧ i ≤ 9223372036854775807) (hb : b.length ≤ 140737488355328) : ∃ x i' h', spec_l1Below.f b i h a = some (x, i', h') ∧ (0 ≤ i' ∧ i' ≤ 9223372036854775807) ∧ (a ≤ 0 → x = 0) ∧ (0 < a → -a < x ∧ x < a) := by
  unfold spec_l1Below.f
  by_cases c : a ≤ 0
  · rw [if_pos c]
    exact ⟨_, _, _, rfl, hi, fun _ => rfl, fun h => by omega⟩
  · rw [if_neg c]
    have ht : ∀ x : Int, -a < Int.tmod x a ∧ Int.tmod x a < a := fun x => by
      have h1 := Int.tmod_lt_of_pos x (show 0 < a by omega)
      have h2 := Int.lt_tmod_of_pos x (show 0 < a by omega)
      omega
    by_cases c2 : a ≤ 256
    · rw [if_pos c2]
      obtain ⟨x, i', h', e, p⟩ := l1Byte_ok b i h hi hb
      rw [e]
      simp only [Option.bind_some]
      rw [if_neg (by omega)]
      exact ⟨_, _, _, rfl, p, fun h => by omega, fun _ => ht _⟩
    · rw [if_neg c2]
      obtain ⟨x1, i1, h1, e1, p1⟩ := l1Byte_ok b i h hi hb
      obtain ⟨x2, i2, h2, e2, p2⟩ := l1Byte_ok b i1 h1 p1 hb
      obtain ⟨x3, i3, h3, e3, p3⟩ := l1Byte_ok b i2 h2 p2 hb
      obtain ⟨x4, i4, h4, e4, p4⟩ := l1Byte_ok b i3 h3 p3 hb
      rw [e1]; simp only [Option.bind_some]
      rw [e2]; simp only [Option.bind_some]
      rw [e3]; simp only [Option.bind_some]
      rw [e4]; simp only [Option.bind_some]
      rw [if_neg (by omega)]
      exact ⟨_, _, _, rfl, p4, fun h => by omega, fun _ => ht _⟩
theorem l1New_l (l : List Int) (hl : l.length ≤ 140737488355328) (d : Nat) : ∀ (h i : Int), 0 ≤ i → i + d = 4000 → ∃ h', Ev (fun k => spec_l1New.l0 k l h i) (l, 0, h') := by
  induction d with
  | zero =>
    intro h i h0 hd
    refine ⟨h, ?_⟩
    refine Ev.step (f := fun _ => some (l, 0, h)) (fun k => ?_) (Ev.now _)
    simp only [spec_l1New.l0]
    split
    · rw [if_neg (by omega)]
    · rfl
  | succ d ih =>
    intro h i h0 hd
    by_cases c : i < (l.length : Int)
    · obtain ⟨h', hh⟩ := ih (Go.bits .and .i64 (wrap64 ((wrap64 ((wrap64 (h * 131)) + (wrap64 (rd l i)))) + 7)) 1073741823) (i + 1) (by omega) (by omega)
      refine ⟨h', Ev.step (fun k => ?_) hh⟩
      simp only [spec_l1New.l0]
      rw [if_pos c, if_pos (by omega), if_pos h0, w64 (x := i + 1) (by omega) (by omega)]
    · refine ⟨h, Ev.step (f := fun _ => some (l, 0, h)) (fun k => ?_) (Ev.now _)⟩
      simp only [spec_l1New.l0]
      rw [if_neg c]
theorem l1New_ev (l : List Int) (hl : l.length ≤ 140737488355328) : ∃ h', Ev (fun k => spec_l1New.f k l) (l, 0, h') := by
  unfold spec_l1New.f
  exact l1New_l l hl 4000 _ 0 (by omega) (by omega)
theorem l1Once_ok (b : List Int) (i h a : Int) (hi : 0 ≤ i ∧ i ≤ 9223372036854775807) (hb : b.length ≤ 140737488355328) : ∃ x i' h', spec_l1Once.f b i h a = some (x, i', h') ∧ (0 ≤ i' ∧ i' ≤ 9223372036854775807) := by
  unfold spec_l1Once.f
  obtain ⟨x, i', h', e, p, _⟩ := l1Below_ok b i h a hi hb
  rw [e]
  exact ⟨_, _, _, rfl, p⟩

theorem and_maskZ (i : Nat) (hi : i ≤ 62) (x : Int) : Go.bits .and .i64 x (2 ^ i - 1) = x % 2 ^ i := by
  have hpos : 0 < 2 ^ i := Nat.two_pow_pos i
  have hle : 2 ^ i ≤ 2 ^ 62 := Nat.pow_le_pow_right (by decide) hi
  have hc : ((2 : Int) ^ i - 1) = ((2 ^ i - 1 : Nat) : Int) := by rw [Int.natCast_sub hpos]; simp
  have hb : IntKind.i64.bits = 64 := rfl
  have hd : ((2 : Int) ^ i) ∣ ((2 : Int) ^ 64) := ⟨2 ^ (64 - i), by rw [← Int.pow_add]; congr 1; omega⟩
  have hx : (((x % (2 : Int) ^ 64).toNat : Nat) : Int) = x % (2 : Int) ^ 64 := Int.toNat_of_nonneg (Int.emod_nonneg _ (by decide))
  rw [hc]
  simp only [Go.bits, hb, BitVec.ofInt_natCast, BitVec.toNat_and, BitVec.toNat_ofNat, BitVec.toNat_ofInt]
  rw [Nat.mod_eq_of_lt (show 2 ^ i - 1 < 2 ^ 64 by omega), Nat.and_two_pow_sub_one_eq_mod]
  have e : (((x % ((2 ^ 64 : Nat) : Int)).toNat % 2 ^ i : Nat) : Int) = x % 2 ^ i := by
    rw [Int.natCast_emod]
    have : ((2 ^ 64 : Nat) : Int) = (2 : Int) ^ 64 := by simp
    rw [this, hx]
    have h2 : ((2 ^ i : Nat) : Int) = (2 : Int) ^ i := by simp
    rw [h2, Int.emod_emod_of_dvd _ hd]
  rw [e]
  have h1 := Int.emod_nonneg x (show (2 : Int) ^ i ≠ 0 by exact_mod_cast Nat.ne_of_gt hpos)
  have h2 := Int.emod_lt_of_pos x (show (0 : Int) < 2 ^ i by exact_mod_cast hpos)
  have h3 : (2 : Int) ^ i ≤ 2 ^ 62 := by exact_mod_cast hle
  exact wraps_i64 _ h1 (by omega)
theorem and255 (x : Int) : Go.bits .and .i64 x 255 = x % 256 := and_maskZ 8 (by decide) x

theorem l1Byte_nn (b : List Int) (i h x : Int) (i' h' : Int) (e : spec_l1Byte.f b i h = some (x, i', h')) : 0 ≤ x ∧ x ≤ 255 := by
  unfold spec_l1Byte.f at e
  simp only [and255] at e
  split at e
  · split at e
    · simp only [Option.some.injEq, Prod.mk.injEq] at e; omega
    · simp at e
  · simp only [Option.some.injEq, Prod.mk.injEq] at e; omega
theorem l1Below_nn (b : List Int) (i h a x : Int) (i' h' : Int) (e : spec_l1Below.f b i h a = some (x, i', h')) : 0 ≤ x := by
  unfold spec_l1Below.f at e
  split at e
  · simp only [Option.some.injEq, Prod.mk.injEq] at e; omega
  · split at e
    · obtain ⟨⟨x1, i1, h1⟩, e1, e⟩ := Option.bind_eq_some_iff.1 e
      have := l1Byte_nn _ _ _ _ _ _ e1
      simp only at e
      split at e
      · simp at e
      · simp only [Option.some.injEq, Prod.mk.injEq] at e
        rw [← e.1]; exact Int.tmod_nonneg _ (by omega)
    · obtain ⟨⟨x1, i1, h1⟩, e1, e⟩ := Option.bind_eq_some_iff.1 e
      obtain ⟨⟨x2, i2, h2⟩, e2, e⟩ := Option.bind_eq_some_iff.1 e
      obtain ⟨⟨x3, i3, h3⟩, e3, e⟩ := Option.bind_eq_some_iff.1 e
      obtain ⟨⟨x4, i4, h4⟩, e4, e⟩ := Option.bind_eq_some_iff.1 e
      have b1 := l1Byte_nn _ _ _ _ _ _ e1
      have b2 := l1Byte_nn _ _ _ _ _ _ e2
      have b3 := l1Byte_nn _ _ _ _ _ _ e3
      have b4 := l1Byte_nn _ _ _ _ _ _ e4
      simp only at e
      split at e
      · simp at e
      · simp only [Option.some.injEq, Prod.mk.injEq] at e
        rw [← e.1]
        refine Int.tmod_nonneg _ ?_
        rw [w64 (x := x1 * 16777216) (by omega) (by omega), w64 (x := x2 * 65536) (by omega) (by omega), w64 (x := x3 * 256) (by omega) (by omega), w64 (x := x1 * 16777216 + x2 * 65536) (by omega) (by omega), w64 (x := x1 * 16777216 + x2 * 65536 + x3 * 256) (by omega) (by omega), w64 (by omega) (by omega)]
        omega
theorem rd_mem (l : List Int) (i : Int) (h0 : 0 ≤ i) (h1 : i < l.length) : rd l i ∈ l := by
  unfold rd
  rw [List.getD_eq_getElem?_getD, List.getElem?_eq_getElem (by omega)]
  exact List.getElem_mem _
theorem l1PickInt_ok (b : List Int) (i h : Int) (l : List Int) (hi : 0 ≤ i ∧ i ≤ 9223372036854775807) (hb : b.length ≤ 140737488355328) (hl : 0 < l.length) : ∃ x i' h', spec_l1PickInt.f b i h l = some (x, i', h') ∧ (0 ≤ i' ∧ i' ≤ 9223372036854775807) ∧ x ∈ l := by
  obtain ⟨x, i', h', e, p, _, hx⟩ := l1Below_ok b i h l.length hi hb
  have hn := l1Below_nn _ _ _ _ _ _ _ e
  have hx := hx (by omega)
  refine ⟨rd l x, i', h', ?_, p, rd_mem l x hn hx.2⟩
  unfold spec_l1PickInt.f
  rw [e]
  simp only [Option.bind_some]
  rw [if_pos hn, if_pos hx.2]
theorem strOf_size' (l : List Int) : (strOfNums l).size = l.length := by rw [← data_length, strOfNums_data, List.length_map]
theorem l5DrawDigest_ok (b : List Int) (i h : Int) (hb : b.length ≤ 140737488355328) (hi : 0 ≤ i ∧ i ≤ 9223372036854775807) : ∃ s i' h', Ev (fun k => spec_l5DrawDigest.f k b i h) (s, i', h') ∧ s.size ≤ 32 ∧ (0 ≤ i' ∧ i' ≤ 9223372036854775807) := by
  obtain ⟨x, i1, h1, e1, p1, _⟩ := l1Below_ok b i h 4 hi hb
  refine ⟨strOfNums (shaS [x % 256]), i1, h1, ?_, ?_, p1⟩
  · unfold spec_l5DrawDigest.f
    simp only [e1, Option.bind_some]
    exact Ev.bind (specSha_ev [x % 256] (by simp)) (Ev.now _)
  · rw [strOf_size']; exact (shaS_by _).2
theorem l5DrawRight_ok (b : List Int) (i h : Int) (hb : b.length ≤ 140737488355328) (hi : 0 ≤ i ∧ i ≤ 9223372036854775807) : ∃ kd rl nd sz dg i' h', Ev (fun k => spec_l5DrawRight.f k b i h) (kd, rl, nd, sz, dg, i', h') ∧ dg.size ≤ 32 ∧ (0 ≤ i' ∧ i' ≤ 9223372036854775807) := by
  have j0 : ∀ (kd rl nd sz i h : Int), (0 ≤ i ∧ i ≤ 9223372036854775807) → ∃ kd' rl' nd' sz' dg i' h', Ev (fun k => spec_l5DrawRight.j0 k b i h kd rl nd sz (⟨#[]⟩ : ByteArray)) (kd', rl', nd', sz', dg, i', h') ∧ dg.size ≤ 32 ∧ (0 ≤ i' ∧ i' ≤ 9223372036854775807) := by
    intro kd rl nd sz i h hi
    have z : (⟨#[]⟩ : ByteArray).size ≤ 32 := by decide
    by_cases k3 : kd = 3
    · obtain ⟨x, i1, h1, e1, p1, _⟩ := l1Below_ok b i h 3 hi hb
      refine ⟨kd, rl, x, sz, _, i1, h1, Ev.step (f := fun _ => _) (fun k => ?_) (Ev.now _), z, p1⟩
      simp only [spec_l5DrawRight.j0]
      rw [if_pos k3, e1]
      rfl
    · by_cases k2 : kd = 2
      · obtain ⟨x, i1, h1, e1, p1, _⟩ := l1Below_ok b i h 40 hi hb
        obtain ⟨s, i2, h2, e2, q2, p2⟩ := l5DrawDigest_ok b i1 h1 hb p1
        refine ⟨kd, rl, nd, x, s, i2, h2, Ev.step (fun k => by simp only [spec_l5DrawRight.j0]; rw [if_neg k3, if_pos k2, e1]; rfl) (Ev.bind e2 (Ev.now _)), q2, p2⟩
      · refine ⟨kd, rl, nd, sz, _, i, h, Ev.step (f := fun _ => _) (fun k => ?_) (Ev.now _), z, hi⟩
        simp only [spec_l5DrawRight.j0]
        rw [if_neg k3, if_neg k2]
  obtain ⟨x, i1, h1, e1, p1, _⟩ := l1Below_ok b i h 5 hi hb
  unfold spec_l5DrawRight.f
  simp only [e1, Option.bind_some]
  by_cases c : wrap64 (1 + x) = 1
  · simp only [c, ↓reduceIte]
    exact j0 _ _ _ _ _ _ p1
  · obtain ⟨y, i2, h2, e2, p2, _⟩ := l1Below_ok b i1 h1 4 p1 hb
    simp only [c, ↓reduceIte, e2, Option.bind_some]
    exact j0 _ _ _ _ _ _ p2
theorem l5DrawCmd_ok (b : List Int) (i h : Int) (hb : b.length ≤ 140737488355328) (hi : 0 ≤ i ∧ i ≤ 9223372036854775807) : ∃ kd rl nd sz dg i' h', Ev (fun k => spec_l5DrawCmd.f k b i h) (kd, rl, nd, sz, dg, i', h') := by
  obtain ⟨kd, rl, nd, sz, dg, i1, h1, e1, q1, p1⟩ := l5DrawRight_ok b i h hb hi
  obtain ⟨x, i2, h2, e2, p2, _⟩ := l1Below_ok b i1 h1 25 p1 hb
  unfold spec_l5DrawCmd.f
  by_cases c0 : x = 0
  · obtain ⟨y, i3, h3, e3, p3, _⟩ := l1Below_ok b i2 h2 7 p2 hb
    refine ⟨y, rl, nd, sz, dg, i3, h3, Ev.bind e1 ?_⟩
    simp only [e2, e3, Option.bind_some, c0, ↓reduceIte]
    exact Ev.now _
  by_cases c1 : x = 1
  · obtain ⟨y, i3, h3, e3, p3, _⟩ := l1PickInt_ok b i2 h2 [0, 1000, 1001] p2 hb (by simp)
    refine ⟨kd, y, nd, sz, dg, i3, h3, Ev.bind e1 ?_⟩
    simp only [e2, e3, Option.bind_some, c1, show ¬ ((1 : Int) = 0) by decide, ↓reduceIte]
    exact Ev.now _
  by_cases c2 : x = 2
  · obtain ⟨y, i3, h3, e3, p3, _⟩ := l1PickInt_ok b i2 h2 [(-1), 4, 5] p2 hb (by simp)
    refine ⟨kd, rl, y, sz, dg, i3, h3, Ev.bind e1 ?_⟩
    simp only [e2, e3, Option.bind_some, c2, show ¬ ((2 : Int) = 0) by decide, show ¬ ((2 : Int) = 1) by decide, ↓reduceIte]
    exact Ev.now _
  by_cases c3 : x = 3
  · obtain ⟨y, i3, h3, e3, p3, _⟩ := l1PickInt_ok b i2 h2 [(-1), 1000, 1001] p2 hb (by simp)
    refine ⟨kd, rl, nd, y, dg, i3, h3, Ev.bind e1 ?_⟩
    simp only [e2, e3, Option.bind_some, c3, show ¬ ((3 : Int) = 0) by decide, show ¬ ((3 : Int) = 1) by decide, show ¬ ((3 : Int) = 2) by decide, ↓reduceIte]
    exact Ev.now _
  by_cases c4 : x = 4
  · have hs : dg.size + 1 ≤ 9223372036854775807 := by omega
    refine ⟨kd, rl, nd, sz, dg ++ (⟨#[120]⟩ : ByteArray), i2, h2, Ev.bind e1 ?_⟩
    simp only [e2, Option.bind_some, c4, show ¬ ((4 : Int) = 0) by decide, show ¬ ((4 : Int) = 1) by decide, show ¬ ((4 : Int) = 2) by decide, show ¬ ((4 : Int) = 3) by decide, ↓reduceIte, hs]
    exact Ev.now _
  · refine ⟨kd, rl, nd, sz, dg, i2, h2, Ev.bind e1 ?_⟩
    simp only [e2, Option.bind_some, c0, c1, c2, c3, c4, ↓reduceIte]
    exact Ev.now _
theorem cmdPack_by (kind rel node size : Int) (dig : ByteArray) : By (cmdPack kind rel node size dig).1 ∧ ((cmdPack kind rel node size dig).2 = true → 1 ≤ (cmdPack kind rel node size dig).1.length) := by
  unfold cmdPack
  split
  · rename_i h
    obtain ⟨k0, k1, k2, k3⟩ := cmdOk_k h
    have l0 := putNum_b9 (x := kind) (by omega) (by omega)
    have app : ∀ {a b : List Int}, By a → By b → By (a ++ b) := fun ha hb x hx => (List.mem_append.1 hx).elim (ha x) (hb x)
    split
    · exact ⟨l0.1, fun _ => l0.2.2⟩
    · rename_i h1
      have k1 := k1 h1
      have l1 := putNum_b9 (x := rel) (by omega) (by omega)
      split
      · rename_i h2
        have k3 := k3 h2
        have l2 := putNum_b9 (x := size) (by omega) (by omega)
        exact ⟨app (app (app l0.1 l1.1) l2.1) (bytesOf_by _), fun _ => by simp only [List.length_append]; omega⟩
      · split
        · rename_i h3
          have k2 := k2 h3
          have l2 := putNum_b9 (x := node) (by omega) (by omega)
          exact ⟨app (app l0.1 l1.1) l2.1, fun _ => by simp only [List.length_append]; omega⟩
        · exact ⟨app l0.1 l1.1, fun _ => by simp only [List.length_append]; omega⟩
  · exact ⟨fun x hx => by simp at hx, fun h => by simp at h⟩
theorem zero6_eq {et ek er en es : Int} {dig : ByteArray} (h : zero6 et ek er en es dig = true) : et = 0 ∧ ek = 0 ∧ er = 0 ∧ en = 0 ∧ es = 0 ∧ dig = (⟨#[]⟩ : ByteArray) := by
  unfold zero6 at h
  simp only [Bool.and_eq_true, beq_iff_eq] at h
  obtain ⟨h0, h1, h2, h3, h4, h5⟩ := h
  exact ⟨h0, h1, h2, h3, h4, ba_empty (by simpa using h5)⟩
theorem recFin_cases (l : List Int) (x0 x1 x2 x3 x4 x5 x6 x7 x8 : Int) (x9 : ByteArray) (p : Int) :
    recFin l x0 x1 x2 x3 x4 x5 x6 x7 x8 x9 p = zR ∨ (p = (l.length : Int) ∧ recOk x0 x1 x2 x3 x4 x5 x6 x7 x8 x9 = true ∧ recFin l x0 x1 x2 x3 x4 x5 x6 x7 x8 x9 p = (x0, x1, x2, x3, x4, x5, x6, x7, x8, x9, true)) := by
  unfold recFin
  split
  · rename_i h
    split
    · rename_i h2; exact .inr ⟨h, h2, rfl⟩
    · exact .inl rfl
  · exact .inl rfl
theorem recRead_pack (x0 x1 x2 x3 x4 x5 x6 x7 x8 : Int) (x9 : ByteArray) (h : recOk x0 x1 x2 x3 x4 x5 x6 x7 x8 x9 = true) : recRead (bytesOf (recPack x0 x1 x2 x3 x4 x5 x6 x7 x8 x9).1) = (x0, x1, x2, x3, x4, x5, x6, x7, x8, x9, true) := by
  obtain ⟨k0, k1, k2, k3⟩ := recOk_k h
  have b0 := (putNum_b9 (x := x0) (by omega) (by omega)).1
  have h' := h
  unfold recPack
  rw [if_pos h]
  unfold recOk at h'
  by_cases c1 : x0 = 1
  · have k := k1 c1
    rw [if_pos c1] at h'
    simp only [Bool.and_eq_true, beq_iff_eq] at h'
    obtain ⟨_, _, hp, hz⟩ := h'
    obtain ⟨e0, e1, e2, e3, e4, e5⟩ := zero6_eq hz
    have b1 := (putNum_b9 (x := x1) (by omega) (by omega)).1
    have b2 := (putNum_b9 (x := x2) (by omega) (by omega)).1
    rw [if_pos c1]
    simp only
    rw [bytesOf_strOf' _ (fun z hz => by rcases List.mem_append.1 hz with hz | hz; rcases List.mem_append.1 hz with hz | hz; exact b0 z hz; exact b1 z hz; exact b2 z hz)]
    obtain ⟨l, hl⟩ : ∃ l, l = putNum x0 ++ putNum x1 ++ putNum x2 := ⟨_, rfl⟩
    rw [← hl]
    have g0 := getNum_at [] (putNum x1 ++ putNum x2) x0 (by omega) (by omega)
    have g1 := getNum_at (putNum x0) (putNum x2) x1 (by omega) (by omega)
    have g2 := getNum_at (putNum x0 ++ putNum x1) [] x2 (by omega) (by omega)
    rw [List.nil_append, List.nil_append, ← List.append_assoc, ← hl] at g0
    rw [← List.append_assoc, ← hl] at g1
    rw [List.append_nil, ← hl] at g2
    have g0 : getNum l 0 = (x0, ((putNum x0).length : Int), true) := g0
    unfold recRead rrA
    rw [g0]
    simp only [c1, ↓reduceIte]
    rw [c1] at g1 g2 hl
    unfold rr1
    rw [g1]
    simp only [↓reduceIte]
    unfold rr1b
    rw [g2]
    simp only [↓reduceIte]
    unfold recFin
    subst c1 hp e0 e1 e2 e3 e4 e5
    rw [if_pos (by rw [hl]), if_pos h]
  · rw [if_neg c1] at h'
    by_cases c2 : x0 = 2
    · have k := k2 c2
      rw [if_pos c2] at h'
      simp only [Bool.and_eq_true, beq_iff_eq, entryOk] at h'
      obtain ⟨_, ⟨_, hc⟩, e1, e2⟩ := h'
      have b1 := (putNum_b9 (x := x3) (by omega) (by omega)).1
      have b2 := (putNum_b9 (x := x4) (by omega) (by omega)).1
      have b3 := (cmdPack_by x5 x6 x7 x8 x9).1
      rw [if_neg c1, if_pos c2]
      simp only
      rw [bytesOf_strOf' _ (fun z hz => by rcases List.mem_append.1 hz with hz | hz; rcases List.mem_append.1 hz with hz | hz; rcases List.mem_append.1 hz with hz | hz; exact b0 z hz; exact b1 z hz; exact b2 z hz; exact b3 z hz)]
      have g3 := cmdRead_pack (putNum x0 ++ putNum x3 ++ putNum x4) [] x5 x6 x7 x8 x9 hc
      generalize (cmdPack x5 x6 x7 x8 x9).1 = cp at *
      obtain ⟨l, hl⟩ : ∃ l, l = putNum x0 ++ putNum x3 ++ putNum x4 ++ cp := ⟨_, rfl⟩
      rw [← hl]
      have g0 := getNum_at [] (putNum x3 ++ (putNum x4 ++ cp)) x0 (by omega) (by omega)
      have g1 := getNum_at (putNum x0) (putNum x4 ++ cp) x3 (by omega) (by omega)
      have g2 := getNum_at (putNum x0 ++ putNum x3) cp x4 (by omega) (by omega)
      rw [List.nil_append, List.nil_append, ← List.append_assoc, ← List.append_assoc, ← hl] at g0
      rw [← List.append_assoc, ← List.append_assoc, ← hl] at g1
      rw [← List.append_assoc, ← hl] at g2
      rw [List.append_nil, ← hl] at g3
      have g0 : getNum l 0 = (x0, ((putNum x0).length : Int), true) := g0
      unfold recRead rrA
      rw [g0]
      simp only [c2, show ¬ (2 : Int) = 1 by omega, ↓reduceIte]
      rw [c2] at g1 g2 g3 hl
      unfold rr2
      rw [g1]
      simp only [↓reduceIte]
      unfold rr2b
      rw [g2]
      simp only [↓reduceIte]
      unfold rr2c
      rw [g3]
      simp only [↓reduceIte]
      unfold recFin
      subst c2 e1 e2
      rw [if_pos (by rw [hl]), if_pos h]
    · rw [if_neg c2] at h'
      have c3 : x0 = 3 := by omega
      have k := k3 c3
      rw [if_pos c3] at h'
      simp only [Bool.and_eq_true, beq_iff_eq] at h'
      obtain ⟨_, e1, e2, hz⟩ := h'
      obtain ⟨f0, f1, f2, f3, f4, f5⟩ := zero6_eq hz
      have b1 := (putNum_b9 (x := x3) (by omega) (by omega)).1
      rw [if_neg c1, if_neg c2]
      simp only
      rw [bytesOf_strOf' _ (fun z hz => by rcases List.mem_append.1 hz with hz | hz; exact b0 z hz; exact b1 z hz)]
      obtain ⟨l, hl⟩ : ∃ l, l = putNum x0 ++ putNum x3 := ⟨_, rfl⟩
      rw [← hl]
      have g0 := getNum_at [] (putNum x3) x0 (by omega) (by omega)
      have g1 := getNum_at (putNum x0) [] x3 (by omega) (by omega)
      rw [List.nil_append, List.nil_append, ← hl] at g0
      rw [List.append_nil, ← hl] at g1
      have g0 : getNum l 0 = (x0, ((putNum x0).length : Int), true) := g0
      unfold recRead rrA
      rw [g0]
      simp only [c3, show ¬ (3 : Int) = 1 by omega, show ¬ (3 : Int) = 2 by omega, ↓reduceIte]
      rw [c3] at g1 hl
      unfold rr3
      rw [g1]
      simp only [↓reduceIte]
      unfold recFin
      subst c3 e1 e2 f0 f1 f2 f3 f4 f5
      rw [if_pos (by rw [hl]), if_pos h]
theorem recRead_fwd (l : List Int) (hb : By l) : recRead l = zR ∨ ∃ (x0 x1 x2 x3 x4 x5 x6 x7 x8 : Int) (x9 : ByteArray), recOk x0 x1 x2 x3 x4 x5 x6 x7 x8 x9 = true ∧ recRead l = (x0, x1, x2, x3, x4, x5, x6, x7, x8, x9, true) ∧ strOfNums l = (recPack x0 x1 x2 x3 x4 x5 x6 x7 x8 x9).1 := by
  cases h1 : (getNum l 0).2.2 with
  | false =>
    left
    unfold recRead rrA
    rw [getNum_no l 0 h1]
    simp
  | true =>
  obtain ⟨R1, n0, q1, e1⟩ := getNum_back l [] l hb rfl h1
  have e1 : (getNum l 0).2.1 = ((putNum (getNum l 0).1).length : Int) := e1
  have q1 : l = putNum (getNum l 0).1 ++ R1 := q1
  unfold recRead rrA
  generalize getNum l 0 = G at *
  obtain ⟨a, p, f⟩ := G
  simp only at h1 n0 q1 e1 ⊢
  subst e1
  split
  · rename_i c
    unfold rr1
    cases h2 : (getNum l ((putNum a).length : Int)).2.2 with
    | false => left; simp
    | true =>
    obtain ⟨R2, n1, q2, e2⟩ := getNum_back l (putNum a) R1 hb q1 h2
    generalize getNum l ((putNum a).length : Int) = G at *
    obtain ⟨b, p, f⟩ := G
    simp only at h2 n1 q2 e2 ⊢
    subst e2
    simp only [↓reduceIte]
    unfold rr1b
    have q2' : l = (putNum a ++ putNum b) ++ R2 := by rw [q1, q2, List.append_assoc]
    cases h3 : (getNum l ((putNum a ++ putNum b).length : Int)).2.2 with
    | false => left; simp
    | true =>
    obtain ⟨R3, n2, q3, e3⟩ := getNum_back l (putNum a ++ putNum b) R2 hb q2' h3
    generalize getNum l ((putNum a ++ putNum b).length : Int) = G at *
    obtain ⟨d, p, f⟩ := G
    simp only at h3 n2 q3 e3 ⊢
    subst e3
    simp only [↓reduceIte]
    rcases recFin_cases l 1 b d 0 0 0 0 0 0 (⟨#[]⟩ : ByteArray) ((putNum a ++ putNum b ++ putNum d).length : Int) with h | ⟨hp, ho, hr⟩
    · exact .inl h
    · refine .inr ⟨1, b, d, 0, 0, 0, 0, 0, 0, _, ho, hr, ?_⟩
      have q3' : l = (putNum a ++ putNum b ++ putNum d) ++ R3 := by rw [q2', q3, ← List.append_assoc]
      have : R3 = [] := by
        have := congrArg List.length q3'
        rw [List.length_append] at this
        exact List.length_eq_zero_iff.1 (by omega)
      subst this
      unfold recPack
      rw [if_pos ho, if_pos rfl, q3', List.append_nil, c]
  · split
    · rename_i _ c
      unfold rr2
      cases h2 : (getNum l ((putNum a).length : Int)).2.2 with
      | false => left; simp
      | true =>
      obtain ⟨R2, n1, q2, e2⟩ := getNum_back l (putNum a) R1 hb q1 h2
      generalize getNum l ((putNum a).length : Int) = G at *
      obtain ⟨b, p, f⟩ := G
      simp only at h2 n1 q2 e2 ⊢
      subst e2
      simp only [↓reduceIte]
      unfold rr2b
      have q2' : l = (putNum a ++ putNum b) ++ R2 := by rw [q1, q2, List.append_assoc]
      cases h3 : (getNum l ((putNum a ++ putNum b).length : Int)).2.2 with
      | false => left; simp
      | true =>
      obtain ⟨R3, n2, q3, e3⟩ := getNum_back l (putNum a ++ putNum b) R2 hb q2' h3
      generalize getNum l ((putNum a ++ putNum b).length : Int) = G at *
      obtain ⟨d, p, f⟩ := G
      simp only at h3 n2 q3 e3 ⊢
      subst e3
      simp only [↓reduceIte]
      unfold rr2c
      have q3' : l = (putNum a ++ putNum b ++ putNum d) ++ R3 := by rw [q2', q3, ← List.append_assoc]
      cases h4 : (cmdRead l ((putNum a ++ putNum b ++ putNum d).length : Int)).2.2.2.2.2.2 with
      | false => left; simp
      | true =>
      obtain ⟨kd, rl, nd, sz, dg, R, ok, hQ⟩ := cmdRead_fwd l (putNum a ++ putNum b ++ putNum d) R3 hb q3' h4
      have hr := cmdRead_pack (putNum a ++ putNum b ++ putNum d) R kd rl nd sz dg ok
      rw [← hQ, ← q3'] at hr
      rw [hr]
      simp only [↓reduceIte]
      rcases recFin_cases l 2 0 0 b d kd rl nd sz dg ((putNum a ++ putNum b ++ putNum d ++ (cmdPack kd rl nd sz dg).1).length : Int) with h | ⟨hp, ho, hr2⟩
      · exact .inl h
      · refine .inr ⟨2, 0, 0, b, d, kd, rl, nd, sz, dg, ho, hr2, ?_⟩
        have q4' : l = (putNum a ++ putNum b ++ putNum d ++ (cmdPack kd rl nd sz dg).1) ++ R := by rw [q3', hQ, List.append_assoc (putNum a ++ putNum b ++ putNum d)]
        have : R = [] := by
          have := congrArg List.length q4'
          rw [List.length_append] at this
          exact List.length_eq_zero_iff.1 (by omega)
        subst this
        unfold recPack
        rw [if_pos ho, if_neg (by omega), if_pos rfl, q4', List.append_nil, c]
    · split
      · rename_i _ _ c
        unfold rr3
        cases h2 : (getNum l ((putNum a).length : Int)).2.2 with
        | false => left; simp
        | true =>
        obtain ⟨R2, n1, q2, e2⟩ := getNum_back l (putNum a) R1 hb q1 h2
        generalize getNum l ((putNum a).length : Int) = G at *
        obtain ⟨b, p, f⟩ := G
        simp only at h2 n1 q2 e2 ⊢
        subst e2
        simp only [↓reduceIte]
        have q2' : l = (putNum a ++ putNum b) ++ R2 := by rw [q1, q2, List.append_assoc]
        rcases recFin_cases l 3 0 0 b 0 0 0 0 0 (⟨#[]⟩ : ByteArray) ((putNum a ++ putNum b).length : Int) with h | ⟨hp, ho, hr⟩
        · exact .inl h
        · refine .inr ⟨3, 0, 0, b, 0, 0, 0, 0, 0, _, ho, hr, ?_⟩
          have : R2 = [] := by
            have := congrArg List.length q2'
            rw [List.length_append] at this
            exact List.length_eq_zero_iff.1 (by omega)
          subst this
          unfold recPack
          rw [if_pos ho, if_neg (by omega), if_neg (by omega), q2', List.append_nil, c]
      · exact .inl rfl

theorem shl7 (k0 : Nat) (hk : k0 ≤ 8) (x c : Int) (hx0 : 0 ≤ x) (hx : x < p7 k0) (hc0 : 0 ≤ c) (hc : c < 128) : Go.bits .or .i64 x (shl .i64 c (wrap64 (7 * (k0 : Int)))) = x + c * p7 k0 := by
  have e0 : wrap64 (7 * (k0 : Int)) = ((7 * k0 : Nat) : Int) := by rw [w64 (by omega) (by omega)]; omega
  have e1 : (2 : Int) ^ (7 * k0) = p7 k0 := by rw [Int.pow_mul]; unfold p7; rfl
  have h7 : min (7 * k0) 64 = 7 * k0 := by omega
  have h63 : 7 * k0 ≤ 63 := by omega
  obtain ⟨h1, h2, h3, h4, h5⟩ := p128 k0 hk x c hx0 hx hc0 hc
  have e2 : shl .i64 c (wrap64 (7 * (k0 : Int))) = c * p7 k0 := by
    rw [e0]
    unfold shl
    rw [show IntKind.i64.bits = 64 from rfl, Int.toNat_natCast, h7, e1]
    exact wraps_i64 _ h1 (Int.lt_of_le_of_lt h2 (by decide))
  have e3 : Go.bits .or .i64 x (c * p7 k0) = Go.bits .or .i64 (c * p7 k0) x := by unfold Go.bits; simp only [BitVec.or_comm]
  have e4 : c * p7 k0 % 2 ^ (7 * k0) = 0 := by rw [e1]; exact Int.mul_emod_left _ _
  rw [e2, e3, or_join (7 * k0) h1 e4 h2 hx0 (by rw [e1]; exact hx) (Int.le_trans (Int.le_of_lt hx) (Int.le_trans (p7_b k0 hk).2 (by decide))), Int.add_comm]
theorem giStep {k0 : Nat} {c x : Int} (k8 : k0 ≤ 8) (hc : 0 ≤ c ∧ c ≤ 255) (hx0 : 0 ≤ x) (hx : x < p7 k0) : wrap64 c = c ∧ Go.bits .or .i64 x (shl .i64 (Go.bits .and .i64 c 127) (wrap64 (7 * (k0 : Int)))) = x + c % 128 * p7 k0 ∧ 0 ≤ x + c % 128 * p7 k0 ∧ x + c % 128 * p7 k0 < p7 (k0 + 1) := by
  have hp := p128 k0 k8 x (c % 128) hx0 hx (by omega) (by omega)
  refine ⟨w64 (by omega) (by omega), ?_, hp.2.2.1, hp.2.2.2.2⟩
  rw [show Go.bits .and .i64 c 127 = c % 128 from and_mask 7 (by decide) hc.1 (by omega)]
  exact shl7 k0 k8 x _ hx0 hx (by omega) (by omega)
theorem implGetNum_l (d : Nat) : ∀ (l : List Int) (at_ : Int) (k0 : Nat) (x : Int), By l → l.length ≤ 140737488355328 → 0 ≤ at_ → at_ ≤ 9223372036854775807 → k0 + d = 9 → 0 ≤ x → x < p7 k0 → Ev (fun k => impl_GetNum.l0 k l at_ x (k0 : Int)) (gn d l at_ k0 x) := by
  induction d with
  | zero =>
    intro l at_ k0 x hb hl h0 h1 hk hx0 hx
    refine Ev.step (f := fun k => impl_GetNum.j1 k l at_ x (k0 : Int) false) (fun k => ?_) ?_
    · simp only [impl_GetNum.l0]; rw [if_neg (by omega)]
    · refine Ev.step (f := fun _ => some (0, 0, false)) (fun k => ?_) (Ev.now _)
      simp only [impl_GetNum.j1]; rfl
  | succ d ih =>
    intro l at_ k0 x hb hl h0 h1 hk hx0 hx
    have k8 : k0 ≤ 8 := by omega
    have z0 : 0 ≤ at_ + (k0 : Int) := by omega
    have k9 : (k0 : Int) < 9 := by omega
    have e0 : wrap64 ((l.length : Int) - at_) = l.length - at_ := w64 (by omega) (by omega)
    have e6 : wrap64 ((k0 : Int) + 1) = ((k0 + 1 : Nat) : Int) := w64 (by omega) (by omega)
    have e7 : 0 ≤ wrap64 (7 * (k0 : Int)) := by rw [w64 (by omega) (by omega)]; omega
    have hk' : k0 + 1 + d = 9 := by omega
    have e14 : at_ + k0 < l.length → wrap64 (at_ + (k0 : Int)) = at_ + k0 ∧ wrap64 (at_ + (k0 : Int) + 1) = at_ + k0 + 1 ∧ (k0 : Int) < l.length - at_ := fun h => ⟨w64 (by omega) (by omega), w64 (by omega) (by omega), by omega⟩
    have e15 : ¬ at_ + k0 < l.length → ¬ (k0 : Int) < l.length - at_ := fun h => by omega
    obtain ⟨e2, e3, x0, x1⟩ := giStep k8 (hb.at_ (at_ + k0)) hx0 hx
    by_cases h : at_ + k0 < l.length
    · obtain ⟨e1, e4, h'⟩ := e14 h
      clear e14 e15
      refine Ev.step (f := fun k => impl_GetNum.j1 k l at_ x (k0 : Int) true) (fun k => ?_) ?_
      · simp only [impl_GetNum.l0, k9, e0, h', decide_true, ↓reduceIte]
      simp only [gn, h, ↓reduceIte]
      by_cases c1 : rd l (at_ + k0) < 128
      · have c1' : ¬ rd l (at_ + k0) > 127 := fun hh => absurd (Int.add_one_le_of_lt hh) (Int.not_le.2 c1)
        by_cases c2 : rd l (at_ + k0) = 0
        · by_cases c3 : 0 < k0
          · refine Ev.step (f := fun _ => some (0, 0, false)) (fun k => ?_) ?_
            · have c3' : (k0 : Int) > 0 := by omega
              simp only [impl_GetNum.j1, e1, z0, h, e7, ↓reduceIte]
              rw [e2, if_neg c1', if_pos c3', if_pos c2]
            · rw [if_pos c1, if_pos ⟨c2, c3⟩]; exact Ev.now _
          · refine Ev.step (f := fun _ => some (x + rd l (at_ + k0) % 128 * p7 k0, at_ + k0 + 1, true)) (fun k => ?_) ?_
            · have c3' : ¬ (k0 : Int) > 0 := by omega
              simp only [impl_GetNum.j1, e1, z0, h, e7, ↓reduceIte]
              rw [e2, if_neg c1', if_neg c3', e3, e4]
            · rw [if_pos c1, if_neg (fun hh => c3 hh.2)]; exact Ev.now _
        · refine Ev.step (f := fun _ => some (x + rd l (at_ + k0) % 128 * p7 k0, at_ + k0 + 1, true)) (fun k => ?_) ?_
          · simp only [impl_GetNum.j1, e1, z0, h, e7, ↓reduceIte]
            rw [e2, if_neg c1']
            by_cases c3 : (k0 : Int) > 0
            · rw [if_pos c3, if_neg c2, e3, e4]
            · rw [if_neg c3, e3, e4]
          · rw [if_pos c1, if_neg (fun hh => c2 hh.1)]; exact Ev.now _
      · have c1' : rd l (at_ + k0) > 127 := Int.lt_of_lt_of_le (by decide) (Int.not_lt.1 c1)
        refine Ev.step (f := fun k => impl_GetNum.l0 k l at_ (x + rd l (at_ + k0) % 128 * p7 k0) ((k0 + 1 : Nat) : Int)) (fun k => ?_) ?_
        · simp only [impl_GetNum.j1, e1, z0, h, e7, ↓reduceIte]
          rw [e2, if_pos c1', e3, e6]
        · rw [if_neg c1]; exact ih l at_ (k0 + 1) _ hb hl h0 h1 hk' x0 x1
    · have h' := e15 h
      clear e14 e15
      refine Ev.step (f := fun k => impl_GetNum.j1 k l at_ x (k0 : Int) false) (fun k => ?_) ?_
      · simp only [impl_GetNum.l0, k9, e0, h', decide_false, ↓reduceIte]
      · simp only [gn, h, ↓reduceIte]
        refine Ev.step (f := fun _ => some (0, 0, false)) (fun k => ?_) (Ev.now _)
        simp only [impl_GetNum.j1]; rfl
theorem implGetNum_ev (l : List Int) (at_ : Int) (hb : By l) (hl : l.length ≤ 140737488355328) (ha : at_ ≤ 9223372036854775807) : Ev (fun k => impl_GetNum.f k l at_) (getNum l at_) := by
  unfold impl_GetNum.f getNum
  by_cases h : at_ < 0
  · simp only [h, ↓reduceIte]; exact Ev.now _
  · simp only [h, ↓reduceIte]
    exact implGetNum_l 9 l at_ 0 0 hb hl (by omega) ha (by omega) (by omega) (by decide)

theorem rdNum_ev (l : List Int) (a : Int) (bad : Bool) (hb : By l) (hl : l.length ≤ 140737488355328) (ha : a ≤ 9223372036854775807) :
    Ev (fun k => rdNum k l a bad) (if bad = true then (0, a, true) else if (getNum l a).2.2 = true then ((getNum l a).1, (getNum l a).2.1, false) else (0, a, true)) := by
  unfold rdNum
  refine Ev.bind (implGetNum_ev l a hb hl ha) ?_
  exact Ev.now _
theorem rdBytes_bad (l : List Int) (a n : Int) : rdBytes l a true n = some (ByteArray.empty, a, true) := rfl
theorem rdBytes_no (l : List Int) (a n : Int) (h0 : 0 ≤ a) (h1 : a ≤ l.length) (hl : l.length ≤ 140737488355328) (h : n > (l.length : Int) - a) : rdBytes l a false n = some (ByteArray.empty, a, true) := by
  unfold rdBytes
  rw [if_neg (by simp), if_pos (by rw [w64 (by omega) (by omega)]; exact h)]
theorem rdBytes_ok (l : List Int) (a n : Int) (h0 : 0 ≤ a) (h1 : a ≤ l.length) (hl : l.length ≤ 140737488355328) (hn : 0 ≤ n) (h : ¬ n > (l.length : Int) - a) : rdBytes l a false n = some (strOfNums ((l.take (a + n).toNat).drop a.toNat), a + n, false) := by
  unfold rdBytes
  rw [if_neg (by simp), if_neg (by rw [w64 (by omega) (by omega)]; exact h), if_pos ⟨h0, hn, by omega⟩]

def numV (l : List Int) (a : Int) (bad : Bool) : Int × Int × Bool := if bad = true then (0, a, true) else if (getNum l a).2.2 = true then ((getNum l a).1, (getNum l a).2.1, false) else (0, a, true)
def rcV (x1 x2 x3 x4 : Int) (d : ByteArray) (p : Int) (bad : Bool) : Int × Int × Int × Int × ByteArray × Int × Bool :=
  if bad = true then (0, 0, 0, 0, (⟨#[]⟩ : ByteArray), p, true) else if cmdOk x1 x2 x3 x4 d = true then (x1, x2, x3, x4, d, p, false) else (0, 0, 0, 0, (⟨#[]⟩ : ByteArray), p, true)
def bytesV (l : List Int) (p : Int) (bad : Bool) : ByteArray × Int × Bool := if bad = true then (ByteArray.empty, p, true) else if 32 > (l.length : Int) - p then (ByteArray.empty, p, true) else (seg32 l p, p + 32, false)
def rdCmdV (l : List Int) (a : Int) (bad : Bool) : Int × Int × Int × Int × ByteArray × Int × Bool :=
  if (numV l a bad).1 = 1 then rcV 1 0 0 0 (⟨#[]⟩ : ByteArray) (numV l a bad).2.1 (numV l a bad).2.2
  else if (numV l a bad).1 = 3 then (fun B : Int × Int × Bool => rcV 3 B.1 (numV l B.2.1 B.2.2).1 0 (⟨#[]⟩ : ByteArray) (numV l B.2.1 B.2.2).2.1 (numV l B.2.1 B.2.2).2.2) (numV l (numV l a bad).2.1 (numV l a bad).2.2)
  else if (numV l a bad).1 = 2 then (fun B : Int × Int × Bool => (fun D : Int × Int × Bool => rcV 2 B.1 0 D.1 (bytesV l D.2.1 D.2.2).1 (bytesV l D.2.1 D.2.2).2.1 (bytesV l D.2.1 D.2.2).2.2) (numV l B.2.1 B.2.2)) (numV l (numV l a bad).2.1 (numV l a bad).2.2)
  else rcV (numV l a bad).1 (numV l (numV l a bad).2.1 (numV l a bad).2.2).1 0 0 (⟨#[]⟩ : ByteArray) (numV l (numV l a bad).2.1 (numV l a bad).2.2).2.1 (numV l (numV l a bad).2.1 (numV l a bad).2.2).2.2
theorem numV_b (l : List Int) (a : Int) (bad : Bool) (hb : By l) (ha : a ≤ 9223372036854775807) (hl : l.length ≤ 140737488355328) : (numV l a bad).2.1 ≤ 9223372036854775807 ∧ ((numV l a bad).2.2 = false → 0 ≤ (numV l a bad).2.1 ∧ (numV l a bad).2.1 ≤ l.length) := by
  have h := getNum_b l a hb
  unfold numV
  cases bad
  · cases hk : (getNum l a).2.2
    · simp only [Bool.false_eq_true, ↓reduceIte]; exact ⟨ha, fun h => by simp at h⟩
    · simp only [Bool.false_eq_true, ↓reduceIte]; exact ⟨by omega, fun _ => by omega⟩
  · simp only [↓reduceIte]; exact ⟨ha, fun h => by simp at h⟩
theorem rdNum_ev' (l : List Int) (a : Int) (bad : Bool) (hb : By l) (hl : l.length ≤ 140737488355328) (ha : a ≤ 9223372036854775807) : Ev (fun k => rdNum k l a bad) (numV l a bad) := rdNum_ev l a bad hb hl ha
theorem rcFin_ev (x1 x2 x3 x4 : Int) (d : ByteArray) (p : Int) (bad : Bool) : Ev (fun k => rcFin k x1 x2 x3 x4 d p bad) (rcV x1 x2 x3 x4 d p bad) := by
  unfold rcFin rcV
  cases bad
  · simp only [Bool.false_eq_true, ↓reduceIte]
    refine Ev.bind (implCmdOk_ev x1 x2 x3 x4 d) ?_
    cases cmdOk x1 x2 x3 x4 d
    · simp only [Bool.false_eq_true, ↓reduceIte]; exact Ev.now _
    · simp only [↓reduceIte]; exact Ev.now _
  · simp only [↓reduceIte]; exact Ev.now _
theorem rdBytes_V (l : List Int) (p : Int) (bad : Bool) (hl : l.length ≤ 140737488355328) (h : bad = false → 0 ≤ p ∧ p ≤ l.length) : rdBytes l p bad 32 = some (bytesV l p bad) := by
  unfold bytesV
  cases bad
  · obtain ⟨h0, h1⟩ := h rfl
    by_cases c : 32 > (l.length : Int) - p
    · rw [rdBytes_no l p 32 h0 h1 hl c]; simp only [Bool.false_eq_true, ↓reduceIte, c]
    · rw [rdBytes_ok l p 32 h0 h1 hl (by omega) c]; simp only [Bool.false_eq_true, ↓reduceIte, c]; rfl
  · rw [rdBytes_bad]; simp only [↓reduceIte]
theorem rdCmd_ev (l : List Int) (a : Int) (bad : Bool) (hb : By l) (hl : l.length ≤ 140737488355328) (ha : a ≤ 9223372036854775807) : Ev (fun k => rdCmd k l a bad) (rdCmdV l a bad) := by
  have b1 := numV_b l a bad hb ha hl
  unfold rdCmd rdCmdV
  refine Ev.bind (rdNum_ev' l a bad hb hl ha) ?_
  generalize numV l a bad = A at *
  obtain ⟨x1, p1, o1⟩ := A
  simp only at b1 ⊢
  have b2 := numV_b l p1 o1 hb b1.1 hl
  have n2 := rdNum_ev' l p1 o1 hb hl b1.1
  by_cases e1 : x1 = 1
  · simp only [e1, ↓reduceIte]; exact rcFin_ev _ _ _ _ _ _ _
  simp only [e1, ↓reduceIte]
  refine Ev.bind n2 ?_
  generalize numV l p1 o1 = B at *
  obtain ⟨x2, p2, o2⟩ := B
  simp only at b2 ⊢
  have b3 := numV_b l p2 o2 hb b2.1 hl
  have n3 := rdNum_ev' l p2 o2 hb hl b2.1
  by_cases e3 : x1 = 3
  · simp only [e3, ↓reduceIte]
    refine Ev.bind n3 ?_
    exact rcFin_ev _ _ _ _ _ _ _
  simp only [e3, ↓reduceIte]
  by_cases e2 : x1 = 2
  · simp only [e2, ↓reduceIte]
    refine Ev.bind n3 ?_
    rw [rdBytes_V l _ _ hl b3.2]
    simp only [Option.bind_some]
    exact rcFin_ev _ _ _ _ _ _ _
  · simp only [e2, ↓reduceIte]
    exact rcFin_ev _ _ _ _ _ _ _
theorem rcV_true (x1 x2 x3 x4 : Int) (d : ByteArray) (p : Int) : rcV x1 x2 x3 x4 d p true = (0, 0, 0, 0, (⟨#[]⟩ : ByteArray), p, true) := rfl
theorem numV_true (l : List Int) (a : Int) : numV l a true = (0, a, true) := rfl
theorem bytesV_true (l : List Int) (p : Int) : bytesV l p true = (ByteArray.empty, p, true) := rfl
theorem rdCmdV_bad (l : List Int) (a : Int) : (rdCmdV l a true).2.2.2.2.2.2 = true := by
  unfold rdCmdV
  simp only [numV_true, show ¬ ((0 : Int) = 1) by decide, show ¬ ((0 : Int) = 3) by decide, show ¬ ((0 : Int) = 2) by decide, ↓reduceIte, rcV_true]
/-- What the reader's command comes to, against the reference's. -/
def outC (v : Int × Int × Int × Int × ByteArray × Int × Bool) : Int × Int × Int × Int × ByteArray × Int × Bool := if v.2.2.2.2.2.2 = true then zC else (v.1, v.2.1, v.2.2.1, v.2.2.2.1, v.2.2.2.2.1, v.2.2.2.2.2.1, true)
theorem outC_rcV (x1 x2 x3 x4 : Int) (d : ByteArray) (p : Int) : outC (rcV x1 x2 x3 x4 d p false) = cmFin x1 x2 x3 x4 d p := by
  unfold outC rcV cmFin
  cases cmdOk x1 x2 x3 x4 d <;> simp
theorem outC_bad (x1 x2 x3 x4 : Int) (d : ByteArray) (p : Int) : outC (rcV x1 x2 x3 x4 d p true) = zC := rfl
theorem rdCmdV_out (l : List Int) (a : Int) : outC (rdCmdV l a false) = cmdRead l a := by
  unfold rdCmdV cmdRead cmA
  cases hk : (getNum l a).2.2
  · have hn : numV l a false = (0, a, true) := by unfold numV; simp [hk]
    simp only [hn, numV_true, show ¬ ((0 : Int) = 1) by decide, show ¬ ((0 : Int) = 3) by decide, show ¬ ((0 : Int) = 2) by decide, Bool.false_eq_true, false_and, ↓reduceIte, outC_bad]
  have hn : numV l a false = ((getNum l a).1, (getNum l a).2.1, false) := by unfold numV; simp [hk]
  simp only [hn, true_and]
  generalize getNum l a = G at *
  obtain ⟨x1, p1, o1⟩ := G
  simp only at hk hn ⊢
  by_cases e1 : x1 = 1
  · subst e1
    simp only [↓reduceIte, outC_rcV, cmFin, cmdOk_one, Int.le_refl, show (1 : Int) ≤ 5 by decide, and_self]
  simp only [e1, ↓reduceIte]
  unfold cmB
  cases hk2 : (getNum l p1).2.2
  · have hn2 : numV l p1 false = (0, p1, true) := by unfold numV; simp [hk2]
    simp only [hn2, numV_true, bytesV_true, outC_bad, Bool.false_eq_true, ↓reduceIte, ite_self]
    split
    · rfl
    · split <;> rfl
  have hn2 : numV l p1 false = ((getNum l p1).1, (getNum l p1).2.1, false) := by unfold numV; simp [hk2]
  simp only [hn2, ↓reduceIte]
  generalize getNum l p1 = G2 at *
  obtain ⟨x2, p2, o2⟩ := G2
  simp only at hk2 hn2 ⊢
  by_cases e3 : x1 = 3
  · subst e3
    simp only [↓reduceIte, show (1 : Int) ≤ 3 ∧ (3 : Int) ≤ 5 from ⟨by decide, by decide⟩, and_self]
    unfold cm3
    cases hk3 : (getNum l p2).2.2
    · have hn3 : numV l p2 false = (0, p2, true) := by unfold numV; simp [hk3]
      simp only [hn3, outC_bad, Bool.false_eq_true, ↓reduceIte]
    · have hn3 : numV l p2 false = ((getNum l p2).1, (getNum l p2).2.1, false) := by unfold numV; simp [hk3]
      simp only [hn3, outC_rcV, ↓reduceIte]
  by_cases e2 : x1 = 2
  · subst e2
    simp only [show ¬ ((2 : Int) = 3) by decide, ↓reduceIte, show (1 : Int) ≤ 2 ∧ (2 : Int) ≤ 5 from ⟨by decide, by decide⟩, and_self]
    unfold cm2
    cases hk3 : (getNum l p2).2.2
    · have hn3 : numV l p2 false = (0, p2, true) := by unfold numV; simp [hk3]
      simp only [hn3, bytesV_true, outC_bad, Bool.false_eq_true, ↓reduceIte]
    · have hn3 : numV l p2 false = ((getNum l p2).1, (getNum l p2).2.1, false) := by unfold numV; simp [hk3]
      simp only [hn3, ↓reduceIte]
      unfold bytesV
      by_cases c : 32 ≤ (l.length : Int) - (getNum l p2).2.1
      · rw [if_neg (show ¬ (false = true) by decide), if_neg (show ¬ 32 > (l.length : Int) - (getNum l p2).2.1 by omega), if_pos c]
        exact outC_rcV _ _ _ _ _ _
      · rw [if_neg (show ¬ (false = true) by decide), if_pos (show 32 > (l.length : Int) - (getNum l p2).2.1 by omega), if_neg c]
        rfl
  simp only [e3, e2, ↓reduceIte, outC_rcV]
  by_cases hin : 1 ≤ x1 ∧ x1 ≤ 5
  · rw [if_pos hin]
  · rw [if_neg hin]
    unfold cmFin
    rw [cmdOk_out _ _ _ _ _ hin]
    rfl

theorem rrEnd_ev (l : List Int) (x0 x1 x2 x3 x4 x5 x6 x7 x8 : Int) (x9 : ByteArray) (p : Int) : Ev (fun k => rrEnd k l x0 x1 x2 x3 x4 x5 x6 x7 x8 x9 p false) (recFin l x0 x1 x2 x3 x4 x5 x6 x7 x8 x9 p) := by
  unfold rrEnd recFin
  simp only [Bool.false_eq_true, ↓reduceIte]
  by_cases h : p = (l.length : Int)
  · simp only [h, decide_true, ↓reduceIte]
    refine Ev.bind (implRecOk_ev x0 x1 x2 x3 x4 x5 x6 x7 x8 x9) ?_
    cases recOk x0 x1 x2 x3 x4 x5 x6 x7 x8 x9
    · simp only [Bool.false_eq_true, ↓reduceIte]; exact Ev.now _
    · simp only [↓reduceIte]; exact Ev.now _
  · simp only [h, decide_false, Bool.false_eq_true, ↓reduceIte]; exact Ev.now _
theorem rrEnd_bad (k : Nat) (l : List Int) (x0 x1 x2 x3 x4 x5 x6 x7 x8 : Int) (x9 : ByteArray) (p : Int) : rrEnd k l x0 x1 x2 x3 x4 x5 x6 x7 x8 x9 p true = some zR := rfl
theorem numV_ok (l : List Int) (a : Int) (h : (getNum l a).2.2 = true) : numV l a false = ((getNum l a).1, (getNum l a).2.1, false) := by unfold numV; simp [h]
theorem numV_no (l : List Int) (a : Int) (h : (getNum l a).2.2 = false) : numV l a false = (0, a, true) := by unfold numV; simp [h]
theorem rrAt_ev (l : List Int) (hb : By l) (hl : l.length ≤ 140737488355328) : Ev (fun k => rrAt k l) (recRead l) := by
  have b1 := getNum_b l 0 hb
  unfold rrAt recRead rrA
  cases hk : (getNum l 0).2.2
  · have n1 := rdNum_ev' l 0 false hb hl (by omega)
    rw [numV_no l 0 hk] at n1
    refine Ev.bind n1 ?_
    rw [getNum_no l 0 hk]
    simp only [show ¬ ((0 : Int) = 1) by decide, show ¬ ((0 : Int) = 3) by decide, show ¬ ((0 : Int) = 2) by decide, ↓reduceIte, rrEnd_bad]
    exact Ev.now _
  have n1 := rdNum_ev' l 0 false hb hl (by omega)
  rw [numV_ok l 0 hk] at n1
  refine Ev.bind n1 ?_
  clear n1 hk
  generalize getNum l 0 = G1 at *
  obtain ⟨x1, p1, o1⟩ := G1
  simp only at b1 ⊢
  have b2 := getNum_b l p1 hb
  have n2 := rdNum_ev' l p1 false hb hl (by omega)
  by_cases e1 : x1 = 1
  · simp only [e1, ↓reduceIte]
    unfold rr1
    cases hk : (getNum l p1).2.2
    · rw [numV_no l p1 hk] at n2
      refine Ev.bind n2 ?_
      refine Ev.bind (rdNum_ev' l p1 true hb hl (by omega)) ?_
      simp only [numV_true, rrEnd_bad, Bool.false_eq_true, ↓reduceIte]
      exact Ev.now _
    rw [numV_ok l p1 hk] at n2
    refine Ev.bind n2 ?_
    simp only [↓reduceIte]
    generalize getNum l p1 = G2 at *
    obtain ⟨x2, p2, o2⟩ := G2
    simp only at b2 ⊢
    have n3 := rdNum_ev' l p2 false hb hl (by omega)
    unfold rr1b
    cases hk3 : (getNum l p2).2.2
    · rw [numV_no l p2 hk3] at n3
      refine Ev.bind n3 ?_
      simp only [rrEnd_bad, Bool.false_eq_true, ↓reduceIte]
      exact Ev.now _
    · rw [numV_ok l p2 hk3] at n3
      refine Ev.bind n3 ?_
      simp only [↓reduceIte]
      exact rrEnd_ev _ _ _ _ _ _ _ _ _ _ _ _
  simp only [e1, ↓reduceIte]
  by_cases e2 : x1 = 2
  · simp only [e2, ↓reduceIte]
    unfold rr2
    cases hk : (getNum l p1).2.2
    · rw [numV_no l p1 hk] at n2
      refine Ev.bind n2 ?_
      refine Ev.bind (rdNum_ev' l p1 true hb hl (by omega)) ?_
      simp only [numV_true]
      refine Ev.bind (rdCmd_ev l p1 true hb hl (by omega)) ?_
      rw [rdCmdV_bad]
      simp only [rrEnd_bad, Bool.false_eq_true, ↓reduceIte]
      exact Ev.now _
    rw [numV_ok l p1 hk] at n2
    refine Ev.bind n2 ?_
    simp only [↓reduceIte]
    generalize getNum l p1 = G2 at *
    obtain ⟨x2, p2, o2⟩ := G2
    simp only at b2 ⊢
    have b3 := getNum_b l p2 hb
    have n3 := rdNum_ev' l p2 false hb hl (by omega)
    unfold rr2b
    cases hk3 : (getNum l p2).2.2
    · rw [numV_no l p2 hk3] at n3
      refine Ev.bind n3 ?_
      refine Ev.bind (rdCmd_ev l p2 true hb hl (by omega)) ?_
      rw [rdCmdV_bad]
      simp only [rrEnd_bad, Bool.false_eq_true, ↓reduceIte]
      exact Ev.now _
    rw [numV_ok l p2 hk3] at n3
    refine Ev.bind n3 ?_
    simp only [↓reduceIte]
    generalize getNum l p2 = G3 at *
    obtain ⟨x3, p3, o3⟩ := G3
    simp only at b3 ⊢
    refine Ev.bind (rdCmd_ev l p3 false hb hl (by omega)) ?_
    rw [← rdCmdV_out l p3]
    generalize rdCmdV l p3 false = D
    obtain ⟨d1, d2, d3, d4, d5, d6, d7⟩ := D
    unfold rr2c outC
    cases d7
    · simp only [Bool.false_eq_true, ↓reduceIte]
      exact rrEnd_ev _ _ _ _ _ _ _ _ _ _ _ _
    · simp only [rrEnd_bad, ↓reduceIte, zC, Bool.false_eq_true]
      exact Ev.now _
  simp only [e2, ↓reduceIte]
  by_cases e3 : x1 = 3
  · simp only [e3, ↓reduceIte]
    unfold rr3
    cases hk : (getNum l p1).2.2
    · rw [numV_no l p1 hk] at n2
      refine Ev.bind n2 ?_
      simp only [rrEnd_bad, Bool.false_eq_true, ↓reduceIte]
      exact Ev.now _
    · rw [numV_ok l p1 hk] at n2
      refine Ev.bind n2 ?_
      simp only [↓reduceIte]
      exact rrEnd_ev _ _ _ _ _ _ _ _ _ _ _ _
  simp only [e3, ↓reduceIte]
  have := rrEnd_ev l x1 0 0 0 0 0 0 0 0 (⟨#[]⟩ : ByteArray) p1
  unfold recFin at this
  rw [recOk_out _ _ _ _ _ _ _ _ _ _ e1 e2 e3] at this
  simpa using this
theorem implRecRead_ev (s : ByteArray) (hs : s.size ≤ 140737488351232) : Ev (fun k => impl_RecRead.f k s) (recRead (bytesOf s)) := by
  have hl := bytesOf_length s
  unfold impl_RecRead.f
  simp only [show s.size ≤ 9223372036854775807 by omega, ↓reduceIte]
  exact rrAt_ev _ (bytesOf_by s) (by omega)

theorem u_next {k0 : Nat} {u : Int} (h8 : k0 + 1 ≤ 8) (hu : u = p7 k0) : wrap64 (u * 128) = p7 (k0 + 1) := by
  have hp2 := p7_b (k0 + 1) h8
  rw [p7_succ] at hp2 ⊢
  rw [hu]
  exact w64 (by omega) (by omega)
theorem gnStep {k0 : Nat} {c x u : Int} (k8 : k0 ≤ 8) (hc : 0 ≤ c ∧ c ≤ 255) (hx0 : 0 ≤ x) (hx : x < p7 k0) (hu : u = p7 k0) : wrap64 c = c ∧ wrap64 (x + wrap64 (Int.tmod c 128 * u)) = x + c % 128 * p7 k0 ∧ 0 ≤ x + c % 128 * p7 k0 ∧ x + c % 128 * p7 k0 < p7 (k0 + 1) := by
  have hp := p128 k0 k8 x (c % 128) hx0 hx (by omega) (by omega)
  refine ⟨w64 (by omega) (by omega), ?_, hp.2.2.1, hp.2.2.2.2⟩
  rw [Int.tmod_eq_emod_of_nonneg hc.1, hu, w64 (x := c % 128 * p7 k0) (Int.le_trans (by decide) hp.1) hp.2.1, w64 (Int.le_trans (by decide) hp.2.2.1) hp.2.2.2.1]
theorem specGetNum_l (d : Nat) : ∀ (l : List Int) (at_ : Int) (k0 : Nat) (x u : Int), By l → l.length ≤ 140737488355328 → 0 ≤ at_ → at_ ≤ 140737488355328 → k0 + d = 9 → 0 ≤ x → x < p7 k0 → (k0 ≤ 8 → u = p7 k0) → Ev (fun k => spec_GetNum.l0 k l at_ x u (k0 : Int)) (gn d l at_ k0 x) := by
  induction d with
  | zero =>
    intro l at_ k0 x u hb hl h0 h1 hk hx0 hx hu
    refine Ev.step (f := fun k => spec_GetNum.j2 k l at_ x u (k0 : Int) false) (fun k => ?_) ?_
    · simp only [spec_GetNum.l0]; rw [if_neg (by omega)]
    · refine Ev.step (f := fun _ => some (0, 0, false)) (fun k => ?_) (Ev.now _)
      simp only [spec_GetNum.j2]; rfl
  | succ d ih =>
    intro l at_ k0 x u hb hl h0 h1 hk hx0 hx hu
    have k8 : k0 ≤ 8 := by omega
    have z0 : 0 ≤ at_ + (k0 : Int) := by omega
    have k9 : (k0 : Int) < 9 := by omega
    have e1 : wrap64 (at_ + (k0 : Int)) = at_ + k0 := w64 (by omega) (by omega)
    have e4 : wrap64 (at_ + (k0 : Int) + 1) = at_ + k0 + 1 := w64 (by omega) (by omega)
    have e6 : wrap64 ((k0 : Int) + 1) = ((k0 + 1 : Nat) : Int) := w64 (by omega) (by omega)
    have hk' : k0 + 1 + d = 9 := by omega
    have hu := hu k8
    obtain ⟨e2, e3, x0, x1⟩ := gnStep k8 (hb.at_ (at_ + k0)) hx0 hx hu
    by_cases h : at_ + k0 < l.length
    · refine Ev.step (f := fun k => spec_GetNum.j2 k l at_ x u (k0 : Int) true) (fun k => ?_) ?_
      · simp only [spec_GetNum.l0, k9, e1, h, decide_true, ↓reduceIte]
      simp only [gn, h, ↓reduceIte]
      by_cases c1 : rd l (at_ + k0) < 128
      · by_cases c2 : rd l (at_ + k0) = 0
        · by_cases c3 : 0 < k0
          · refine Ev.step (f := fun _ => some (0, 0, false)) (fun k => ?_) ?_
            · have c3' : (k0 : Int) > 0 := by omega
              simp only [spec_GetNum.j2, e1, z0, h, ↓reduceIte]
              rw [e2, if_pos c1, if_pos c2, if_pos c3']
            · rw [if_pos c1, if_pos ⟨c2, c3⟩]; exact Ev.now _
          · refine Ev.step (f := fun _ => some (x + rd l (at_ + k0) % 128 * p7 k0, at_ + k0 + 1, true)) (fun k => ?_) ?_
            · have c3' : ¬ (k0 : Int) > 0 := by omega
              simp only [spec_GetNum.j2, e1, z0, h, ↓reduceIte]
              rw [e2, if_pos c1, if_pos c2, if_neg c3', e3, e4]
            · rw [if_pos c1, if_neg (fun hh => c3 hh.2)]; exact Ev.now _
        · refine Ev.step (f := fun _ => some (x + rd l (at_ + k0) % 128 * p7 k0, at_ + k0 + 1, true)) (fun k => ?_) ?_
          · simp only [spec_GetNum.j2, e1, z0, h, ↓reduceIte]
            rw [e2, if_pos c1, if_neg c2, e3, e4]
          · rw [if_pos c1, if_neg (fun hh => c2 hh.1)]; exact Ev.now _
      · refine Ev.step (f := fun k => spec_GetNum.l0 k l at_ (x + rd l (at_ + k0) % 128 * p7 k0) (wrap64 (u * 128)) ((k0 + 1 : Nat) : Int)) (fun k => ?_) ?_
        · simp only [spec_GetNum.j2, e1, z0, h, ↓reduceIte]
          rw [e2, if_neg c1, e3, e6]
        · rw [if_neg c1]; exact ih l at_ (k0 + 1) _ _ hb hl h0 h1 hk' x0 x1 (fun h8 => u_next h8 hu)
    · refine Ev.step (f := fun k => spec_GetNum.j2 k l at_ x u (k0 : Int) false) (fun k => ?_) ?_
      · simp only [spec_GetNum.l0, k9, e1, h, decide_false, ↓reduceIte]
      · simp only [gn, h, ↓reduceIte]
        refine Ev.step (f := fun _ => some (0, 0, false)) (fun k => ?_) (Ev.now _)
        simp only [spec_GetNum.j2]; rfl
theorem specGetNum_ev (l : List Int) (at_ : Int) (hb : By l) (hl : l.length ≤ 140737488355328) : Ev (fun k => spec_GetNum.f k l at_) (getNum l at_) := by
  unfold spec_GetNum.f getNum
  by_cases h : at_ < 0
  · simp only [h, ↓reduceIte]
    refine Ev.step (f := fun _ => some (0, 0, false)) (fun k => ?_) (Ev.now _)
    simp only [spec_GetNum.j0, ↓reduceIte]
  · by_cases h2 : at_ ≥ (l.length : Int)
    · simp only [h, h2, ↓reduceIte, decide_true]
      refine Ev.step (f := fun _ => some (0, 0, false)) (fun k => ?_) ?_
      · simp only [spec_GetNum.j0, ↓reduceIte]
      · simp only [gn]; rw [if_neg (by omega)]; exact Ev.now _
    · simp only [h, h2, ↓reduceIte, decide_false]
      refine Ev.step (f := fun k => spec_GetNum.l0 k l at_ 0 1 0) (fun k => ?_) ?_
      · simp only [spec_GetNum.j0]; rfl
      · exact specGetNum_l 9 l at_ 0 0 1 hb hl (by omega) (by omega) (by omega) (by omega) (by decide) (fun _ => rfl)

theorem crFin_ev (x1 x2 x3 x4 : Int) (d : ByteArray) (p : Int) : Ev (fun k => crFin k x1 x2 x3 x4 d p true) (cmFin x1 x2 x3 x4 d p) := by
  unfold crFin cmFin
  simp only [↓reduceIte]
  refine Ev.bind (specCmdOk_ev x1 x2 x3 x4 d) ?_
  cases cmdOk x1 x2 x3 x4 d
  · simp only [Bool.false_eq_true, ↓reduceIte]; exact Ev.now _
  · simp only [↓reduceIte]; exact Ev.now _
theorem specCmdRead_ev (l : List Int) (a : Int) (hb : By l) (hl : l.length ≤ 1048576) : Ev (fun k => spec_CmdRead.f k l a) (cmdRead l a) := by
  have h1 := getNum_b l a hb
  unfold spec_CmdRead.f cmdRead
  refine Ev.bind (specGetNum_ev l a hb (by omega)) ?_
  generalize getNum l a = G1 at *
  obtain ⟨x1, p1, ok1⟩ := G1
  simp only at h1 ⊢
  unfold cmA
  cases ok1
  · simp only [Bool.false_eq_true, ↓reduceIte, false_and]; exact Ev.now _
  simp only [↓reduceIte, true_and, l1In_eq, Option.bind_some]
  by_cases hin : 1 ≤ x1 ∧ x1 ≤ 5
  · rw [show inr x1 1 5 = true from decide_eq_true hin]
    simp only [hin, and_self, ↓reduceIte]
    by_cases e1 : x1 = 1
    · simp only [e1, ↓reduceIte]; exact Ev.now _
    simp only [e1, ↓reduceIte]
    have h2 := getNum_b l p1 hb
    unfold cmB
    refine Ev.bind (specGetNum_ev l p1 hb (by omega)) ?_
    generalize getNum l p1 = G2 at *
    obtain ⟨x2, p2, ok2⟩ := G2
    simp only at h2 ⊢
    cases ok2
    · simp only [Bool.false_eq_true, ↓reduceIte]; exact Ev.now _
    simp only [↓reduceIte]
    by_cases e3 : x1 = 3
    · simp only [e3, ↓reduceIte]
      refine Ev.bind (specGetNum_ev l p2 hb (by omega)) ?_
      generalize getNum l p2 = G3 at *
      obtain ⟨x3, p3, ok3⟩ := G3
      unfold cm3
      cases ok3
      · simp only [Bool.false_eq_true, ↓reduceIte]; exact Ev.now _
      · simp only [↓reduceIte]; exact crFin_ev _ _ _ _ _ _
    simp only [e3, ↓reduceIte]
    by_cases e2 : x1 = 2
    · simp only [e2, ↓reduceIte]
      have h3 := getNum_b l p2 hb
      refine Ev.bind (specGetNum_ev l p2 hb (by omega)) ?_
      generalize getNum l p2 = G3 at *
      obtain ⟨x3, p3, ok3⟩ := G3
      simp only at h3 ⊢
      unfold cm2
      cases ok3
      · simp only [Bool.false_eq_true, ↓reduceIte]; exact Ev.now _
      have hw : wrap64 ((l.length : Int) - p3) = (l.length : Int) - p3 := w64 (by omega) (by omega)
      simp only [↓reduceIte, hw]
      by_cases c : 32 ≤ (l.length : Int) - p3
      · simp only [show (l.length : Int) - p3 ≥ 32 from c, show 0 ≤ p3 ∧ p3 + 32 ≤ (l.length : Int) from ⟨by omega, by omega⟩, c, and_self, ↓reduceIte]
        exact crFin_ev _ _ _ _ _ _
      · simp only [show ¬ (l.length : Int) - p3 ≥ 32 from c, c, ↓reduceIte]
        have := crFin_ev 2 x2 0 x3 (⟨#[]⟩ : ByteArray) p3
        unfold cmFin at this
        rw [cmdOk_short2] at this
        exact this
    · simp only [e2, ↓reduceIte]; exact crFin_ev _ _ _ _ _ _
  · rw [show inr x1 1 5 = false from decide_eq_false hin]
    simp only [hin, Bool.false_eq_true, ↓reduceIte]; exact Ev.now _

theorem srEnd_ev (l : List Int) (x0 x1 x2 x3 x4 x5 x6 x7 x8 : Int) (x9 : ByteArray) (p : Int) : Ev (fun k => srEnd k l x0 x1 x2 x3 x4 x5 x6 x7 x8 x9 p true true) (recFin l x0 x1 x2 x3 x4 x5 x6 x7 x8 x9 p) := by
  unfold srEnd recFin
  simp only [↓reduceIte]
  by_cases h : p = (l.length : Int)
  · simp only [h, ↓reduceIte]
    refine Ev.bind (specRecOk_ev x0 x1 x2 x3 x4 x5 x6 x7 x8 x9) ?_
    cases recOk x0 x1 x2 x3 x4 x5 x6 x7 x8 x9
    · simp only [Bool.false_eq_true, ↓reduceIte]; exact Ev.now _
    · simp only [↓reduceIte]; exact Ev.now _
  · simp only [h, ↓reduceIte]; exact Ev.now _
theorem srEnd_no (k : Nat) (l : List Int) (x0 x1 x2 x3 x4 x5 x6 x7 x8 : Int) (x9 : ByteArray) (p : Int) (f : Bool) : srEnd k l x0 x1 x2 x3 x4 x5 x6 x7 x8 x9 p false f = some zR := rfl
theorem srEnd_nf (k : Nat) (l : List Int) (x0 x1 x2 x3 x4 x5 x6 x7 x8 : Int) (x9 : ByteArray) (p : Int) : srEnd k l x0 x1 x2 x3 x4 x5 x6 x7 x8 x9 p true false = some zR := rfl
theorem recFin_out (l : List Int) (x0 x1 x2 x3 x4 x5 x6 x7 x8 : Int) (x9 : ByteArray) (p : Int) (h1 : ¬ x0 = 1) (h2 : ¬ x0 = 2) (h3 : ¬ x0 = 3) : recFin l x0 x1 x2 x3 x4 x5 x6 x7 x8 x9 p = zR := by
  unfold recFin; rw [recOk_out _ _ _ _ _ _ _ _ _ _ h1 h2 h3]; simp
theorem srAt_ev (l : List Int) (hb : By l) (hl : l.length ≤ 3000) : Ev (fun k => srAt k l) (recRead l) := by
  unfold srAt recRead
  refine Ev.bind (specGetNum_ev l 0 hb (by omega)) ?_
  generalize getNum l 0 = G1
  obtain ⟨x1, p1, o1⟩ := G1
  unfold rrA
  simp only
  have n2 := specGetNum_ev l p1 hb (by omega)
  by_cases e1 : x1 = 1
  · simp only [e1, ↓reduceIte]
    refine Ev.bind n2 ?_
    generalize getNum l p1 = G2
    obtain ⟨x2, p2, o2⟩ := G2
    unfold rr1
    cases o2
    · simp only [Bool.false_eq_true, ↓reduceIte]; exact Ev.now _
    simp only [↓reduceIte]
    refine Ev.bind (specGetNum_ev l p2 hb (by omega)) ?_
    generalize getNum l p2 = G3
    obtain ⟨x3, p3, o3⟩ := G3
    unfold rr1b
    cases o3
    · simp only [srEnd_no, Bool.false_eq_true, ↓reduceIte]; exact Ev.now _
    · simp only [↓reduceIte]; exact srEnd_ev _ _ _ _ _ _ _ _ _ _ _ _
  simp only [e1, ↓reduceIte]
  by_cases e2 : x1 = 2
  · simp only [e2, ↓reduceIte]
    refine Ev.bind n2 ?_
    generalize getNum l p1 = G2
    obtain ⟨x2, p2, o2⟩ := G2
    unfold rr2
    cases o2
    · simp only [Bool.false_eq_true, ↓reduceIte]; exact Ev.now _
    simp only [↓reduceIte]
    refine Ev.bind (specGetNum_ev l p2 hb (by omega)) ?_
    generalize getNum l p2 = G3
    obtain ⟨x3, p3, o3⟩ := G3
    unfold rr2b
    cases o3
    · simp only [Bool.false_eq_true, ↓reduceIte]; exact Ev.now _
    simp only [↓reduceIte]
    refine Ev.bind (specCmdRead_ev l p3 hb (by omega)) ?_
    generalize cmdRead l p3 = D
    obtain ⟨d1, d2, d3, d4, d5, d6, d7⟩ := D
    unfold rr2c
    cases d7
    · simp only [srEnd_nf, Bool.false_eq_true, ↓reduceIte]; exact Ev.now _
    · simp only [↓reduceIte]; exact srEnd_ev _ _ _ _ _ _ _ _ _ _ _ _
  simp only [e2, ↓reduceIte]
  by_cases e3 : x1 = 3
  · simp only [e3, ↓reduceIte]
    refine Ev.bind n2 ?_
    generalize getNum l p1 = G2
    obtain ⟨x2, p2, o2⟩ := G2
    unfold rr3
    cases o2
    · simp only [srEnd_no, Bool.false_eq_true, ↓reduceIte]; exact Ev.now _
    · simp only [↓reduceIte]; exact srEnd_ev _ _ _ _ _ _ _ _ _ _ _ _
  simp only [e3, ↓reduceIte]
  cases o1
  · simp only [srEnd_no]; exact Ev.now _
  · have := srEnd_ev l x1 0 0 0 0 0 0 0 0 (⟨#[]⟩ : ByteArray) p1
    rw [recFin_out _ _ _ _ _ _ _ _ _ _ _ _ e1 e2 e3] at this
    exact this
theorem specRecRead_ev (s : ByteArray) (hs : s.size ≤ 1048576) : Ev (fun k => spec_RecRead.f k s) (recRead (bytesOf s)) := by
  have hl := bytesOf_length s
  unfold spec_RecRead.f
  simp only [show s.size ≤ 9223372036854775807 by omega, ↓reduceIte]
  by_cases h : ((bytesOf s).length : Int) > 3000
  · simp only [h, ↓reduceIte]
    rw [recRead_long _ (by omega)]
    exact Ev.now _
  · simp only [h, ↓reduceIte]
    exact srAt_ev _ (bytesOf_by s) (by omega)

theorem rdE_mid (P : List S36) (x : S36) (t : List S36) : rd_T36 (P ++ x :: t) (P.length : Int) = x := by
  unfold rd_T36; simp
theorem rdE_last (P : List S36) (y : S36) (t : List S36) : rd_T36 (P ++ [y] ++ t) (((P ++ [y]).length : Int) - 1) = y := by
  unfold rd_T36
  have : (((P ++ [y]).length : Int) - 1).toNat = P.length := by simp
  rw [this]; simp
def cmdOkE (x : S36) : Bool := cmdOk x.f1.f0 x.f1.f1 x.f1.f2 x.f1.f3 x.f1.f4
def logOk : Int → Int → List S36 → Bool
  | _, _, [] => true
  | lo, h, x :: t => (decide (lo ≤ x.f0 ∧ x.f0 ≤ h) && cmdOkE x) && logOk x.f0 h t
def hardOk (term vote : Int) (l : List S36) : Bool := inr term 0 1000000000 && (inr vote 0 5 && (decide ((l.length : Int) ≤ 80) && logOk 1 term l))

theorem l6Entry_ev (x : S36) : Ev (fun k => spec_l6Entry.f k x.f0 x.f1.f0 x.f1.f1 x.f1.f2 x.f1.f3 x.f1.f4) (inr x.f0 1 1000000000 && cmdOkE x) := by
  unfold spec_l6Entry.f
  simp only [l1In_eq, Option.bind_some]
  cases inr x.f0 1 1000000000
  · simp only [Bool.false_eq_true, ↓reduceIte, Bool.false_and]; exact Ev.now _
  · simp only [↓reduceIte, Bool.true_and]
    refine Ev.bind (specCmdOk_ev _ _ _ _ _) ?_
    exact Ev.now _
theorem specHardOk_l (term vote : Int) (ht : term ≤ 1000000000) (rest : List S36) : ∀ (P : List S36) (lo : Int), 1 ≤ lo → (P = [] ∧ lo = 1 ∨ ∃ P' y, P = P' ++ [y] ∧ lo = y.f0) → P.length + rest.length ≤ 140737488355328 → Ev (fun k => spec_HardOk.l0 k (P.length : Int) term vote (P ++ rest)) (logOk lo term rest) := by
  induction rest with
  | nil =>
    intro P lo h0 hP hl
    refine Ev.step (f := fun _ => some true) (fun k => ?_) (Ev.now _)
    simp only [spec_HardOk.l0]
    rw [if_neg (by simp)]
  | cons x t ih =>
    intro P lo h0 hP hl
    simp only [List.length_cons] at hl
    have el : ((P ++ x :: t).length : Int) = P.length + t.length + 1 := by simp; omega
    have ea : P ++ x :: t = P ++ [x] ++ t := by simp
    have hw1 : wrap64 ((P.length : Int) + 1) = ((P ++ [x]).length : Int) := by rw [w64 (by omega) (by omega)]; simp
    refine Ev.step (fun k => by simp only [spec_HardOk.l0]; rw [if_pos (by omega), if_pos (by omega), rdE_mid]) ?_
    refine Ev.bind (l6Entry_ev x) ?_
    cases hb : (inr x.f0 1 1000000000 && cmdOkE x)
    · simp only [Bool.false_eq_true, ↓reduceIte]
      have : logOk lo term (x :: t) = false := by
        rw [Bool.and_eq_false_iff] at hb
        rcases hb with hb | hb
        · have hb := of_decide_eq_false hb
          have : ¬ (lo ≤ x.f0 ∧ x.f0 ≤ term) := by omega
          simp [logOk, this]
        · simp [logOk, hb]
      rw [this]; exact Ev.now _
    · rw [Bool.and_eq_true] at hb
      have hb1 := of_decide_eq_true hb.1
      simp only [↓reduceIte]
      by_cases c1 : x.f0 > term
      · have : logOk lo term (x :: t) = false := by
          have : ¬ (lo ≤ x.f0 ∧ x.f0 ≤ term) := by omega
          simp [logOk, this]
        simp only [c1, ↓reduceIte]
        rw [this]; exact Ev.now _
      · simp only [c1, ↓reduceIte]
        have hi := ih (P ++ [x]) x.f0 (by omega) (.inr ⟨P, x, rfl, rfl⟩) (by simp; omega)
        have hlog : lo ≤ x.f0 → logOk lo term (x :: t) = logOk x.f0 term t := by
          intro h
          have : lo ≤ x.f0 ∧ x.f0 ≤ term := by omega
          simp [logOk, this, hb.2]
        rcases hP with ⟨rfl, rfl⟩ | ⟨P', y, rfl, rfl⟩
        · rw [hlog (by omega)]
          refine Ev.congr (fun k => ?_) hi
          rw [if_neg (by simp), hw1, ea]
        · have ep : ((P' ++ [y]).length : Int) = P'.length + 1 := by simp
          by_cases c2 : x.f0 < y.f0
          · have : logOk y.f0 term (x :: t) = false := by
              have : ¬ (y.f0 ≤ x.f0 ∧ x.f0 ≤ term) := by omega
              simp [logOk, this]
            rw [this]
            refine Ev.congr (fun k => ?_) (Ev.now false)
            rw [if_pos (by omega), w64 (x := ((P' ++ [y]).length : Int) - 1) (by omega) (by omega), if_pos (by omega), if_pos (by omega), show P' ++ [y] ++ x :: t = P' ++ [y] ++ (x :: t) from rfl, rdE_last, if_pos c2]
          · rw [hlog (by omega)]
            refine Ev.congr (fun k => ?_) hi
            rw [if_pos (by omega), w64 (x := ((P' ++ [y]).length : Int) - 1) (by omega) (by omega), if_pos (by omega), if_pos (by omega), show P' ++ [y] ++ x :: t = P' ++ [y] ++ (x :: t) from rfl, rdE_last, if_neg c2, hw1, ea]
theorem specHardOk_ev (term vote : Int) (l : List S36) (hl : l.length ≤ 140737488355328) : Ev (fun k => spec_HardOk.f k term vote l) (hardOk term vote l) := by
  unfold spec_HardOk.f hardOk
  simp only [l1Whole_eq, l1In_eq, Option.bind_some]
  have hj : Ev (fun k => spec_HardOk.j0 k true term vote l) false := by
    refine Ev.step (f := fun _ => some false) (fun k => ?_) (Ev.now _)
    simp only [spec_HardOk.j0, ↓reduceIte]
  cases h : inr term 0 1000000000
  · simp only [Bool.false_eq_true, ↓reduceIte, Bool.false_and]; exact hj
  · have ht := of_decide_eq_true h
    simp only [↓reduceIte, Bool.true_and]
    cases h2 : inr vote 0 5
    · simp only [Bool.false_eq_true, ↓reduceIte, Bool.false_and]; exact hj
    · simp only [↓reduceIte, Bool.true_and]
      by_cases h80 : (l.length : Int) > 80
      · simp only [h80, decide_true, show ¬ (l.length : Int) ≤ 80 by omega, decide_false, Bool.false_and]; exact hj
      · simp only [h80, decide_false, show (l.length : Int) ≤ 80 by omega, decide_true, Bool.true_and]
        refine Ev.step (f := fun k => spec_HardOk.l0 k 0 term vote l) (fun k => ?_) ?_
        · simp only [spec_HardOk.j0]; rfl
        · exact specHardOk_l term vote ht.2 l [] 1 (by omega) (.inl ⟨rfl, rfl⟩) (by simpa using hl)

theorem l6Copy_eq (t v : Int) (l : List S36) (hl : l.length ≤ 140737488355) : spec_l6Copy.f t v l = some (t, v, l) := by
  unfold spec_l6Copy.f
  simp only [Option.bind_some, List.length_nil, List.nil_append]
  rw [if_pos (by omega)]
def mayR (t v : Int) (n : Nat) (k tm vt pos : Int) : Bool :=
  if k = 1 then decide (tm > t) || (tm == t && (v == 0 || v == vt)) else if k = 2 then pos == (n : Int) + 1 else if k = 3 then inr pos 0 n else false
def candR (t v : Int) (l : List S36) (k tm vt pos : Int) (e : S36) : Int × Int × List S36 :=
  if k = 1 then (tm, vt, l) else if k = 2 then (t, v, l ++ [e]) else if k = 3 then (t, v, l.take pos.toNat) else (t, v, l)
def hardApply (t v : Int) (l : List S36) (k tm vt pos : Int) (e : S36) : Int × Int × List S36 × Bool :=
  if hardOk t v l = true then
    (if (mayR t v l.length k tm vt pos && (recOk k tm vt pos e.f0 e.f1.f0 e.f1.f1 e.f1.f2 e.f1.f3 e.f1.f4 && hardOk (candR t v l k tm vt pos e).1 (candR t v l k tm vt pos e).2.1 (candR t v l k tm vt pos e).2.2)) = true
      then ((candR t v l k tm vt pos e).1, (candR t v l k tm vt pos e).2.1, (candR t v l k tm vt pos e).2.2, true) else (t, v, l, false))
  else (0, 0, [], false)
theorem candR_len (t v : Int) (l : List S36) (k tm vt pos : Int) (e : S36) : (candR t v l k tm vt pos e).2.2.length ≤ l.length + 1 := by
  unfold candR
  split
  · simp
  · split
    · simp
    · split
      · simp only [List.length_take]; omega
      · simp
theorem hardApply_len (t v : Int) (l : List S36) (k tm vt pos : Int) (e : S36) : (hardApply t v l k tm vt pos e).2.2.1.length ≤ l.length + 1 := by
  have := candR_len t v l k tm vt pos e
  unfold hardApply
  split
  · split
    · exact this
    · simp
  · simp
theorem hardOk_len {t v : Int} {l : List S36} (h : hardOk t v l = true) : l.length ≤ 80 := by
  unfold hardOk at h
  simp only [Bool.and_eq_true, decide_eq_true_eq] at h
  omega
theorem specHA_j0 (may : Bool) (t v : Int) (l : List S36) (c0 c1 : Int) (c2 : List S36) (hl : l.length ≤ 140737488355) (hc : c2.length ≤ 140737488355) :
    Ev (fun r => spec_HardApply.j0 r may t v l c0 c1 c2) (if (may && hardOk c0 c1 c2) = true then (c0, c1, c2, true) else (t, v, l, false)) := by
  refine Ev.step (fun r => by simp only [spec_HardApply.j0]; rfl) ?_
  cases may
  · simp only [Bool.false_eq_true, ↓reduceIte, l6Copy_eq t v l hl, Option.bind_some, Bool.false_and]
    exact Ev.now _
  · simp only [↓reduceIte, Bool.true_and]
    refine Ev.bind (specHardOk_ev c0 c1 c2 (by omega)) ?_
    cases hardOk c0 c1 c2
    · simp only [Bool.false_eq_true, ↓reduceIte, l6Copy_eq t v l hl, Option.bind_some]
      exact Ev.now _
    · simp only [↓reduceIte]
      exact Ev.now _
theorem recOk_other {k tm vt pos et ek er en es : Int} {dig : ByteArray} (h1 : k ≠ 1) (h2 : k ≠ 2) (h3 : k ≠ 3) : recOk k tm vt pos et ek er en es dig = false := by
  unfold recOk
  rw [if_neg h1, if_neg h2, if_neg h3]
theorem recOk_cut {tm vt pos et ek er en es : Int} {dig : ByteArray} (h : recOk 3 tm vt pos et ek er en es dig = true) : 0 ≤ pos := by
  unfold recOk at h
  rw [if_neg (by omega), if_neg (by omega), if_pos rfl] at h
  simp only [Bool.and_eq_true, inr, decide_eq_true_eq] at h
  omega
theorem specHardApply_ev (t v : Int) (l : List S36) (k tm vt pos : Int) (e : S36) (hl : l.length ≤ 1048576) :
    Ev (fun r => spec_HardApply.f r t v l k tm vt pos e.f0 e.f1.f0 e.f1.f1 e.f1.f2 e.f1.f3 e.f1.f4) (hardApply t v l k tm vt pos e) := by
  unfold spec_HardApply.f hardApply
  refine Ev.bind (specHardOk_ev t v l (by omega)) ?_
  cases ho : hardOk t v l
  · simp only [Bool.false_eq_true, ↓reduceIte]; exact Ev.now _
  · have h80 := hardOk_len ho
    simp only [↓reduceIte, l6Copy_eq t v l (by omega), Option.bind_some]
    refine Ev.bind (specRecOk_ev k tm vt pos e.f0 e.f1.f0 e.f1.f1 e.f1.f2 e.f1.f3 e.f1.f4) ?_
    unfold candR mayR
    have F : ∀ c0 c1 c2, c2.length ≤ 1048577 → Ev (fun r => spec_HardApply.j0 r false t v l c0 c1 c2) (t, v, l, false) := fun c0 c1 c2 hc => by
      have := specHA_j0 false t v l c0 c1 c2 (by omega) (by omega)
      simpa using this
    by_cases k1 : k = 1
    · subst k1
      simp only [↓reduceIte]
      cases hr : recOk 1 tm vt pos e.f0 e.f1.f0 e.f1.f1 e.f1.f2 e.f1.f3 e.f1.f4
      · simp only [Bool.false_eq_true, ↓reduceIte, Bool.false_and, Bool.and_false]
        exact F _ _ _ (by omega)
      · simp only [↓reduceIte, Bool.true_and]
        have J := fun b => specHA_j0 b t v l tm vt l (by omega) (by omega)
        by_cases a : tm > t
        · simp only [a, ↓reduceIte, decide_true, Bool.true_or]; exact J true
        · simp only [a, ↓reduceIte, decide_false, Bool.false_or]
          by_cases b : tm = t
          · by_cases c : v = 0
            · simp only [b, c, ↓reduceIte, beq_self_eq_true, Bool.true_or, Bool.true_and]
              have := J true
              simp only [b, c] at this
              exact this
            · have hb : (tm == t) = true := beq_iff_eq.2 b
              have hc : (v == 0) = false := beq_eq_false_iff_ne.2 c
              simp only [if_pos b, if_neg c, hb, hc]
              simp only [Bool.true_and, Bool.false_or]
              exact J (v == vt)
          · have hb : (tm == t) = false := beq_eq_false_iff_ne.2 b
            simp only [if_neg b, hb]
            exact J false
    · simp only [k1, ↓reduceIte]
      by_cases k2 : k = 2
      · subst k2
        simp only [↓reduceIte, show l.length < 2513169434916 by omega]
        cases hr : recOk 2 tm vt pos e.f0 e.f1.f0 e.f1.f1 e.f1.f2 e.f1.f3 e.f1.f4
        · simp only [Bool.false_eq_true, ↓reduceIte, Bool.false_and, Bool.and_false]
          exact F _ _ _ (by simp; omega)
        · simp only [↓reduceIte, Bool.true_and]
          rw [w64 (by omega) (by omega)]
          exact specHA_j0 _ t v l t v (l ++ [e]) (by omega) (by simp; omega)
      · simp only [k2, ↓reduceIte]
        by_cases k3 : k = 3
        · subst k3
          simp only [↓reduceIte]
          cases hr : recOk 3 tm vt pos e.f0 e.f1.f0 e.f1.f1 e.f1.f2 e.f1.f3 e.f1.f4
          · simp only [Bool.false_eq_true, ↓reduceIte, Bool.false_and, Bool.and_false]
            exact F _ _ _ (by omega)
          · have h0 := recOk_cut hr
            simp only [↓reduceIte, Bool.true_and]
            by_cases c : pos ≤ (l.length : Int)
            · have hi : inr pos 0 l.length = true := decide_eq_true ⟨h0, c⟩
              simp only [c, h0, ↓reduceIte, decide_true, hi]
              exact specHA_j0 true t v l t v (l.take pos.toNat) (by omega) (by rw [List.length_take]; omega)
            · have hi : inr pos 0 l.length = false := decide_eq_false (by omega)
              simp only [c, ↓reduceIte, decide_false, hi, Bool.false_and, Bool.false_eq_true]
              exact F _ _ _ (by omega)
        · simp only [k3, ↓reduceIte]
          rw [recOk_other k1 k2 k3]
          simp only [Bool.false_and, Bool.false_eq_true, ↓reduceIte]
          exact F _ _ _ (by omega)

theorem l1Max_eq (a b : Int) : spec_l1Max.f a b = some (mx a b) := by
  unfold spec_l1Max.f mx
  by_cases h : a > b
  · rw [if_pos h, if_neg (by omega)]
  · rw [if_neg h]
    by_cases h2 : a < b
    · rw [if_pos h2]
    · rw [if_neg h2]; exact congrArg some (by omega)
theorem l6DrawNext_ok (b : List Int) (hb : b.length ≤ 140737488355328) (i h t v : Int) (l : List S36) (hi : 0 ≤ i ∧ i ≤ 9223372036854775807) :
    ∃ (x0 x1 x2 x3 x4 x5 x6 x7 x8 : Int) (x9 : ByteArray) (i' h' : Int), Ev (fun k => spec_l6DrawNext.f k b i h t v l) (x0, x1, x2, x3, x4, x5, x6, x7, x8, x9, i', h') ∧ (0 ≤ i' ∧ i' ≤ 9223372036854775807) := by
  obtain ⟨z, i1, h1, e1, p1, _, b1⟩ := l1Below_ok b i h 9 hi hb
  have key : ∀ w : Bool, ∃ (x0 x1 x2 x3 x4 x5 x6 x7 x8 : Int) (x9 : ByteArray) (i' h' : Int), Ev (fun k => spec_l6DrawNext.j0 k z w b i1 h1 t v l) (x0, x1, x2, x3, x4, x5, x6, x7, x8, x9, i', h') ∧ (0 ≤ i' ∧ i' ≤ 9223372036854775807) := by
    intro w
    cases w
    · by_cases c3 : z = 3
      · obtain ⟨y, i2, h2, e2, p2, _, _⟩ := l1Below_ok b i1 h1 (wrap64 ((l.length : Int) + 2)) p1 hb
        refine ⟨3, 0, 0, y, 0, 0, 0, 0, 0, (⟨#[]⟩ : ByteArray), i2, h2, Ev.step (f := fun _ => some _) (fun k => ?_) (Ev.now _), p2⟩
        simp only [spec_l6DrawNext.j0, Bool.false_eq_true, ↓reduceIte, c3, e2, Option.bind_some]
      · obtain ⟨o, i2, h2, e2, p2⟩ := l1Once_ok b i1 h1 9 p1 hb
        cases o
        · obtain ⟨y, i3, h3, e3, p3, _, _⟩ := l1Below_ok b i2 h2 12 p2 hb
          obtain ⟨kd, rl, nd, sz, dg, i4, h4, e4, _, p4⟩ := l5DrawRight_ok b i3 h3 hb p3
          refine ⟨2, 0, 0, wrap64 ((wrap64 ((l.length : Int) + 1)) + (wrap64 (Int.tdiv y 11))), mx t 1, kd, rl, nd, sz, dg, i4, h4, ?_, p4⟩
          refine Ev.step (fun k => by simp only [spec_l6DrawNext.j0, Bool.false_eq_true, ↓reduceIte, c3, l1Max_eq, e2, e3, Option.bind_some]; rfl) ?_
          exact Ev.bind e4 (Ev.now _)
        · obtain ⟨y, i3, h3, e3, p3, _, _⟩ := l1Below_ok b i2 h2 4 p2 hb
          obtain ⟨y', i4, h4, e4, p4, _, _⟩ := l1Below_ok b i3 h3 12 p3 hb
          obtain ⟨kd, rl, nd, sz, dg, i5, h5, e5, _, p5⟩ := l5DrawRight_ok b i4 h4 hb p4
          refine ⟨2, 0, 0, wrap64 ((wrap64 ((l.length : Int) + 1)) + (wrap64 (Int.tdiv y' 11))), wrap64 (1 + y), kd, rl, nd, sz, dg, i5, h5, ?_, p5⟩
          refine Ev.step (fun k => by simp only [spec_l6DrawNext.j0, Bool.false_eq_true, ↓reduceIte, c3, l1Max_eq, e2, e3, e4, Option.bind_some]; rfl) ?_
          exact Ev.bind e5 (Ev.now _)
    · obtain ⟨y, i2, h2, e2, p2, _, _⟩ := l1Below_ok b i1 h1 3 p1 hb
      obtain ⟨y', i3, h3, e3, p3, _, _⟩ := l1Below_ok b i2 h2 4 p2 hb
      obtain ⟨o, i4, h4, e4, p4⟩ := l1Once_ok b i3 h3 9 p3 hb
      cases o
      · refine ⟨1, wrap64 (t + y), y', 0, 0, 0, 0, 0, 0, (⟨#[]⟩ : ByteArray), i4, h4, Ev.step (f := fun _ => some _) (fun k => ?_) (Ev.now _), p4⟩
        simp only [spec_l6DrawNext.j0, Bool.false_eq_true, ↓reduceIte, e2, e3, e4, Option.bind_some]
      · obtain ⟨q, i5, h5, e5, p5, _⟩ := l1PickInt_ok b i4 h4 [0, 1000000000, 1] p4 hb (by simp)
        refine ⟨1, q, y', 0, 0, 0, 0, 0, 0, (⟨#[]⟩ : ByteArray), i5, h5, Ev.step (f := fun _ => some _) (fun k => ?_) (Ev.now _), p5⟩
        simp only [spec_l6DrawNext.j0, ↓reduceIte, e2, e3, e4, e5, Option.bind_some]
  unfold spec_l6DrawNext.f
  simp only [e1, Option.bind_some]
  by_cases z0 : z = 0
  · simp only [z0, ↓reduceIte]; have := key (z == 0); rw [z0] at this; exact this
  · by_cases z1 : z = 1
    · simp only [z0, z1, ↓reduceIte, show ¬ ((1 : Int) = 0) by decide]; have := key (z == 1); rw [z1] at this; exact this
    · simp only [z0, z1, ↓reduceIte]; exact key (z == 2)
theorem fill_l1 (b : List Int) (i h t v : Int) (d : Nat) : ∀ (l : List S36), l.length + d = 200 → 80 ≤ l.length + d → ∃ l', Ev (fun k => spec_l6DrawRight.l1 k b i h t v l) (t, v, l', i, h) := by
  induction d with
  | zero =>
    intro l hl _
    refine ⟨l, Ev.step (f := fun _ => some (t, v, l, i, h)) (fun k => ?_) (Ev.now _)⟩
    simp only [spec_l6DrawRight.l1]
    rw [if_neg (by omega)]
  | succ d ih =>
    intro l hl h8
    by_cases c : (l.length : Int) < 80
    · obtain ⟨l', e⟩ := ih (l ++ [⟨t, ⟨1, 0, 0, 0, (⟨#[]⟩ : ByteArray)⟩⟩]) (by simp; omega) (by simp; omega)
      refine ⟨l', Ev.step (fun k => ?_) e⟩
      simp only [spec_l6DrawRight.l1]
      rw [if_pos c, if_pos (by omega)]
    · refine ⟨l, Ev.step (f := fun _ => some (t, v, l, i, h)) (fun k => ?_) (Ev.now _)⟩
      simp only [spec_l6DrawRight.l1]
      rw [if_neg c]
theorem drawRight6_end (b : List Int) (hb : b.length ≤ 140737488355328) (i h t v : Int) (l : List S36) (hi : 0 ≤ i ∧ i ≤ 9223372036854775807) (hl : l.length ≤ 120) :
    ∃ t' l' i' h', Ev (fun k => (spec_l1Once.f b i h 20).bind fun cX => (if cX.1 = true then ((spec_l1Max.f t 1).bind fun cU => (spec_l6DrawRight.l1 k b cX.2.1 cX.2.2 cU v l)) else (some (t, v, l, cX.2.1, cX.2.2)))) (t', v, l', i', h') ∧ (0 ≤ i' ∧ i' ≤ 9223372036854775807) := by
  obtain ⟨o, i1, h1, e1, p1⟩ := l1Once_ok b i h 20 hi hb
  simp only [e1, Option.bind_some]
  cases o with
  | true =>
    obtain ⟨l', e⟩ := fill_l1 b i1 h1 (mx t 1) v (200 - l.length) l (by omega) (by omega)
    simp only [↓reduceIte, l1Max_eq, Option.bind_some]
    exact ⟨_, l', i1, h1, e, p1⟩
  | false =>
    simp only [Bool.false_eq_true, ↓reduceIte]
    exact ⟨t, l, i1, h1, Ev.now _, p1⟩
theorem drawRight6_l (b : List Int) (hb : b.length ≤ 140737488355328) (a : Int) (ha : 0 ≤ a ∧ a ≤ 100) (d : Nat) : ∀ (x i h t v : Int) (l : List S36), 0 ≤ x → x + d = a + 1 → (l.length : Int) ≤ x → (0 ≤ i ∧ i ≤ 9223372036854775807) →
    ∃ t' v' l' i' h', Ev (fun k => spec_l6DrawRight.l0 k a x b i h t v l) (t', v', l', i', h') ∧ (0 ≤ i' ∧ i' ≤ 9223372036854775807) := by
  have hw0 : wrap64 (a + 1) = a + 1 := w64 (by omega) (by omega)
  induction d with
  | zero =>
    intro x i h t v l hx hd hl hi
    obtain ⟨y, i1, h1, e1, p1, _, b1⟩ := l1Below_ok b i h (a + 1) hi hb
    have b1 := b1 (by omega)
    obtain ⟨t', l', i', h', e, p⟩ := drawRight6_end b hb i1 h1 t v l p1 (by omega)
    refine ⟨t', v, l', i', h', Ev.step (fun k => ?_) e, p⟩
    simp only [spec_l6DrawRight.l0, hw0, e1, Option.bind_some]
    rw [if_neg (by omega)]
  | succ d ih =>
    intro x i h t v l hx hd hl hi
    have hw : wrap64 (x + 1) = x + 1 := w64 (by omega) (by omega)
    obtain ⟨y, i1, h1, e1, p1, _, b1⟩ := l1Below_ok b i h (a + 1) hi hb
    by_cases c : x < y
    · obtain ⟨x0, x1, x2, x3, x4, x5, x6, x7, x8, x9, i2, h2, e2, p2⟩ := l6DrawNext_ok b hb i1 h1 t v l p1
      have eA := specHardApply_ev t v l x0 x1 x2 x3 ⟨x4, ⟨x5, x6, x7, x8, x9⟩⟩ (by omega)
      have hn := hardApply_len t v l x0 x1 x2 x3 ⟨x4, ⟨x5, x6, x7, x8, x9⟩⟩
      generalize hardApply t v l x0 x1 x2 x3 ⟨x4, ⟨x5, x6, x7, x8, x9⟩⟩ = U at *
      obtain ⟨u0, u1, u2, u3⟩ := U
      simp only at hn eA
      cases u3
      · obtain ⟨t', v', l', i', h', e', p'⟩ := ih (x + 1) i2 h2 t v l (by omega) (by omega) (by omega) p2
        refine ⟨t', v', l', i', h', ?_, p'⟩
        refine Ev.step (fun k => by simp only [spec_l6DrawRight.l0, hw0, e1, Option.bind_some, c, ↓reduceIte]; rfl) ?_
        refine Ev.bind e2 (Ev.bind eA ?_)
        simp only [Bool.false_eq_true, ↓reduceIte, hw]; exact e'
      · obtain ⟨t', v', l', i', h', e', p'⟩ := ih (x + 1) i2 h2 u0 u1 u2 (by omega) (by omega) (by omega) p2
        refine ⟨t', v', l', i', h', ?_, p'⟩
        refine Ev.step (fun k => by simp only [spec_l6DrawRight.l0, hw0, e1, Option.bind_some, c, ↓reduceIte]; rfl) ?_
        refine Ev.bind e2 (Ev.bind eA ?_)
        simp only [↓reduceIte, hw]; exact e'
    · obtain ⟨t', l', i', h', e, p⟩ := drawRight6_end b hb i1 h1 t v l p1 (by omega)
      refine ⟨t', v, l', i', h', Ev.step (fun k => ?_) e, p⟩
      simp only [spec_l6DrawRight.l0, hw0, e1, Option.bind_some, c, ↓reduceIte]
theorem drawRight6_ok (b : List Int) (hb : b.length ≤ 140737488355328) (i h : Int) (hi : 0 ≤ i ∧ i ≤ 9223372036854775807) :
    ∃ t' v' l' i' h', Ev (fun k => spec_l6DrawRight.f k b i h 9) (t', v', l', i', h') ∧ (0 ≤ i' ∧ i' ≤ 9223372036854775807) :=
  drawRight6_l b hb 9 (by omega) 10 0 i h 0 0 [] (by omega) (by omega) (by simp) hi
theorem drawRecPack_ev (l : List Int) (hl : l.length ≤ 140737488355328) : ∃ (x0 x1 x2 x3 x4 x5 x6 x7 x8 : Int) (x9 : ByteArray), Ev (fun k => spec_DrawRecPack.f k l) (x0, x1, x2, x3, x4, x5, x6, x7, x8, x9) := by
  obtain ⟨h0, e0⟩ := l1New_ev l hl
  obtain ⟨t, v, q, i1, h1, e1, p1⟩ := drawRight6_ok l hl 0 h0 (by omega)
  obtain ⟨x0, x1, x2, x3, x4, x5, x6, x7, x8, x9, i2, h2, e2, p2⟩ := l6DrawNext_ok l hl i1 h1 t v q p1
  obtain ⟨z, i3, h3, e3, p3, _⟩ := l1Below_ok l i2 h2 25 p2 hl
  have key : ∃ (y0 y1 y2 y3 y4 y5 y6 y7 y8 : Int) (y9 : ByteArray) (i' h' : Int), Ev (fun k => spec_l6DrawRec.f k l i1 h1 t v q) (y0, y1, y2, y3, y4, y5, y6, y7, y8, y9, i', h') := by
    unfold spec_l6DrawRec.f
    by_cases c0 : z = 0
    · obtain ⟨u, i4, h4, e4, _⟩ := l1Below_ok l i3 h3 5 p3 hl
      refine ⟨u, x1, x2, x3, x4, x5, x6, x7, x8, x9, i4, h4, Ev.bind e2 ?_⟩
      simp only [e3, Option.bind_some, c0, ↓reduceIte, e4]
      exact Ev.now _
    · by_cases c1 : z = 1
      · obtain ⟨u, i4, h4, e4, _⟩ := l1PickInt_ok l i3 h3 [(-1), 0, 80, 81] p3 hl (by simp)
        refine ⟨x0, x1, x2, u, x4, x5, x6, x7, x8, x9, i4, h4, Ev.bind e2 ?_⟩
        simp only [e3, Option.bind_some, c1, show ¬ (1 : Int) = 0 by omega, ↓reduceIte, e4]
        exact Ev.now _
      · by_cases c2 : z = 2
        · obtain ⟨u, i4, h4, e4, _⟩ := l1PickInt_ok l i3 h3 [(-1), 1, 6] p3 hl (by simp)
          refine ⟨x0, x1, u, x3, x4, x5, x6, x7, x8, x9, i4, h4, Ev.bind e2 ?_⟩
          simp only [e3, Option.bind_some, c2, show ¬ (2 : Int) = 0 by omega, show ¬ (2 : Int) = 1 by omega, ↓reduceIte, e4]
          exact Ev.now _
        · by_cases c3 : z = 3
          · obtain ⟨kd, rl, nd, sz, dg, i4, h4, e4⟩ := l5DrawCmd_ok l i3 h3 hl p3
            refine ⟨x0, x1, x2, x3, x4, kd, rl, nd, sz, dg, i4, h4, Ev.bind e2 ?_⟩
            simp only [e3, Option.bind_some, c3, show ¬ (3 : Int) = 0 by omega, show ¬ (3 : Int) = 1 by omega, show ¬ (3 : Int) = 2 by omega, ↓reduceIte]
            exact Ev.bind e4 (Ev.now _)
          · refine ⟨x0, x1, x2, x3, x4, x5, x6, x7, x8, x9, i3, h3, Ev.bind e2 ?_⟩
            simp only [e3, Option.bind_some, c0, c1, c2, c3, ↓reduceIte]
            exact Ev.now _
  obtain ⟨y0, y1, y2, y3, y4, y5, y6, y7, y8, y9, i', h', ek⟩ := key
  refine ⟨y0, y1, y2, y3, y4, y5, y6, y7, y8, y9, ?_⟩
  unfold spec_DrawRecPack.f
  exact Ev.bind e0 (Ev.bind e1 (Ev.bind ek (Ev.now _)))
theorem strOf_len (l : List Int) : (strOfNums l).size = l.length := by rw [← data_length, strOfNums_data, List.length_map]
theorem recPack_size (x0 x1 x2 x3 x4 x5 x6 x7 x8 : Int) (x9 : ByteArray) : (recPack x0 x1 x2 x3 x4 x5 x6 x7 x8 x9).1.size ≤ 100 := by
  unfold recPack
  split
  · rename_i h
    obtain ⟨k0, k1, k2, k3⟩ := recOk_k h
    have b0 := (putNum_b9 (x := x0) (by omega) (by omega)).2.1
    split
    · rename_i c
      have k := k1 c
      have b1 := (putNum_b9 (x := x1) (by omega) (by omega)).2.1
      have b2 := (putNum_b9 (x := x2) (by omega) (by omega)).2.1
      simp only
      rw [strOf_len]; simp; omega
    · split
      · rename_i c
        have k := k2 c
        have b1 := (putNum_b9 (x := x3) (by omega) (by omega)).2.1
        have b2 := (putNum_b9 (x := x4) (by omega) (by omega)).2.1
        have b3 := cmdPack_len x5 x6 x7 x8 x9
        simp only
        rw [strOf_len]; simp; omega
      · have k := k3 (by omega)
        have b1 := (putNum_b9 (x := x3) (by omega) (by omega)).2.1
        simp only
        rw [strOf_len]; simp; omega
  · decide
theorem rr_j2 (c : List Int) (i h : Int) (b : List Int) (hc : c.length ≤ 140737488355328) (hi : 0 ≤ i ∧ i ≤ 9223372036854775807) (hb : b.length ≤ 1000) : ∃ s, spec_DrawRecRead.j2 c i h b = some s ∧ s.size ≤ 2000 := by
  obtain ⟨o, i1, h1, e1, p1⟩ := l1Once_ok c i h 9 hi hc
  unfold spec_DrawRecRead.j2
  rw [e1]
  cases o with
  | true => exact ⟨_, rfl, by rw [strOf_len]; simp; omega⟩
  | false => exact ⟨_, rfl, by rw [strOf_len]; omega⟩
theorem rr_j1 (c : List Int) (i h : Int) (b : List Int) (hc : c.length ≤ 140737488355328) (hi : 0 ≤ i ∧ i ≤ 9223372036854775807) (hb : b.length ≤ 1000) : ∃ s, spec_DrawRecRead.j1 c i h b = some s ∧ s.size ≤ 2000 := by
  obtain ⟨o, i1, h1, e1, p1⟩ := l1Once_ok c i h 6 hi hc
  unfold spec_DrawRecRead.j1
  rw [e1]
  cases o with
  | true =>
    obtain ⟨n, i2, h2, e2, p2, _, hx⟩ := l1Below_ok c i1 h1 ((b.length : Int) + 1) p1 hc
    have hn := l1Below_nn c i1 h1 _ n i2 h2 e2
    have hx := hx (by omega)
    obtain ⟨s, es, hs⟩ := rr_j2 c i2 h2 (b.take n.toNat) hc p2 (by rw [List.length_take]; omega)
    simp only [Option.bind_some, ↓reduceIte, e2]
    rw [if_pos ⟨hn, by omega⟩]
    exact ⟨s, es, hs⟩
  | false =>
    simp only [Option.bind_some, Bool.false_eq_true, ↓reduceIte]
    exact rr_j2 c i1 h1 b hc p1 hb
theorem rr_j0 (c : List Int) (i h : Int) (b : List Int) (hc : c.length ≤ 140737488355328) (hi : 0 ≤ i ∧ i ≤ 9223372036854775807) (hb : b.length ≤ 1000) (h1b : 1 ≤ b.length) : ∃ s, spec_DrawRecRead.j0 c i h b = some s ∧ s.size ≤ 2000 := by
  obtain ⟨o, i1, h1, e1, p1⟩ := l1Once_ok c i h 3 hi hc
  unfold spec_DrawRecRead.j0
  rw [e1]
  cases o with
  | true =>
    obtain ⟨n, i2, h2, e2, p2, _, hx⟩ := l1Below_ok c i1 h1 (b.length : Int) p1 hc
    have hn := l1Below_nn c i1 h1 _ n i2 h2 e2
    have hx := hx (by omega)
    obtain ⟨x, i3, h3, e3, p3, _⟩ := l1PickInt_ok c i2 h2 [0, 1, 2, 3, 4, 5, 127, 128] p2 hc (by simp)
    obtain ⟨s, es, hs⟩ := rr_j1 c i3 h3 (b.set n.toNat (x % 256)) hc p3 (by rw [List.length_set]; exact hb)
    simp only [Option.bind_some, ↓reduceIte, e2, e3]
    rw [if_pos ⟨hn, hx.2⟩]
    exact ⟨s, es, hs⟩
  | false =>
    simp only [Option.bind_some, Bool.false_eq_true, ↓reduceIte]
    exact rr_j1 c i1 h1 b hc p1 hb
theorem recPack_two (x0 x1 x2 x3 x4 x5 x6 x7 x8 : Int) (x9 : ByteArray) : (recPack x0 x1 x2 x3 x4 x5 x6 x7 x8 x9).2 = recOk x0 x1 x2 x3 x4 x5 x6 x7 x8 x9 := by
  unfold recPack
  cases recOk x0 x1 x2 x3 x4 x5 x6 x7 x8 x9
  · rfl
  · simp only [↓reduceIte]; split
    · rfl
    · split <;> rfl
theorem recPack_one (x0 x1 x2 x3 x4 x5 x6 x7 x8 : Int) (x9 : ByteArray) (h : recOk x0 x1 x2 x3 x4 x5 x6 x7 x8 x9 = true) : 1 ≤ (recPack x0 x1 x2 x3 x4 x5 x6 x7 x8 x9).1.size := by
  obtain ⟨k0, k1, k2, k3⟩ := recOk_k h
  have b0 := (putNum_b9 (x := x0) (by omega) (by omega)).2.2
  unfold recPack
  rw [if_pos h]
  split
  · simp only; rw [strOf_len]; simp; omega
  · split
    · simp only; rw [strOf_len]; simp; omega
    · simp only; rw [strOf_len]; simp; omega
theorem drawRecRead_ev (l : List Int) (hl : l.length ≤ 140737488355328) : ∃ s, Ev (fun k => spec_DrawRecRead.f k l) s ∧ s.size ≤ 2000 := by
  obtain ⟨h0, e0⟩ := l1New_ev l hl
  obtain ⟨t, v, q, i1, h1, e1, p1⟩ := drawRight6_ok l hl 0 h0 (by omega)
  obtain ⟨x0, x1, x2, x3, x4, x5, x6, x7, x8, x9, i2, h2, e2, p2⟩ := l6DrawNext_ok l hl i1 h1 t v q p1
  have e3 := specRecPack_ev x0 x1 x2 x3 x4 x5 x6 x7 x8 x9
  have hz := recPack_size x0 x1 x2 x3 x4 x5 x6 x7 x8 x9
  have h2' := recPack_two x0 x1 x2 x3 x4 x5 x6 x7 x8 x9
  have h1' := recPack_one x0 x1 x2 x3 x4 x5 x6 x7 x8 x9
  rw [← h2'] at h1'
  generalize recPack x0 x1 x2 x3 x4 x5 x6 x7 x8 x9 = U at *
  obtain ⟨u, o⟩ := U
  simp only at hz h1'
  have hlen : (bytesOf (if o = true then u else ⟨#[3, 0]⟩)).length ≤ 1000 ∧ 1 ≤ (bytesOf (if o = true then u else ⟨#[3, 0]⟩)).length := by
    rw [bytesOf_length]
    cases o with
    | true => simp only [↓reduceIte]; have := h1' rfl; omega
    | false => simp only [Bool.false_eq_true, ↓reduceIte]; decide
  obtain ⟨s, es, hs⟩ := rr_j0 l i2 h2 (bytesOf (if o = true then u else ⟨#[3, 0]⟩)) hl p2 hlen.1 hlen.2
  refine ⟨s, ?_, hs⟩
  unfold spec_DrawRecRead.f
  refine Ev.bind e0 (Ev.bind e1 (Ev.bind e2 (Ev.bind e3 ?_)))
  simp only
  rw [if_pos (show u.size ≤ 100000 by omega), es]
  exact Ev.now _
theorem FnRec : laws_FnRec.Pure := by
  intro l hm hl hw
  apply Ev.rounds
  unfold laws_FnRec.f
  simp only [laws_big.f, Option.bind_some]
  by_cases h : (l.length : Int) > 1048576
  · simp only [h, decide_true, ↓reduceIte]; exact Ev.now _
  simp only [h, decide_false, Bool.false_eq_true, ↓reduceIte]
  have J0 : Ev (fun k => laws_FnRec.j0 k l) true := by
    obtain ⟨s, es, hs⟩ := drawRecRead_ev l (by omega)
    have r1 := implRecRead_ev s (by omega)
    have r2 := specRecRead_ev s (by omega)
    refine Ev.step (fun k => by simp only [laws_FnRec.j0]; rfl) ?_
    refine Ev.bind es (Ev.bind r1 (Ev.bind r2 ?_))
    rcases recRead_fwd (bytesOf s) (bytesOf_by s) with h0 | ⟨x0, x1, x2, x3, x4, x5, x6, x7, x8, x9, ok, hr, ht⟩
    · rw [h0]
      have e := implRecPack_ev 0 0 0 0 0 0 0 0 0 (⟨#[]⟩ : ByteArray)
      simp only [zR, bne_self_eq_false, Bool.false_eq_true, ↓reduceIte]
      refine Ev.bind e ?_
      refine Ev.step (f := fun _ => some true) (fun k => ?_) (Ev.now _)
      have z : (⟨#[]⟩ : ByteArray).toList = [] := by rw [ByteArray.toList_eq]
      refine if_pos ?_
      (try simp only [zR])
      rw [z]
      rfl
    · rw [hr]
      have e := implRecPack_ev x0 x1 x2 x3 x4 x5 x6 x7 x8 x9
      have o2 := recPack_two x0 x1 x2 x3 x4 x5 x6 x7 x8 x9
      rw [ok] at o2
      rw [strOf_bytesOf] at ht
      have eo := implRecOk_ev x0 x1 x2 x3 x4 x5 x6 x7 x8 x9
      rw [ok] at eo
      simp only [bne_self_eq_false, Bool.false_eq_true, ↓reduceIte]
      refine Ev.bind e ?_
      rw [← ht, o2]
      simp only [↓reduceIte]
      exact Ev.bind eo (Ev.now _)
  obtain ⟨x0, x1, x2, x3, x4, x5, x6, x7, x8, x9, e1⟩ := drawRecPack_ev l (by omega)
  have e2 := implRecPack_ev x0 x1 x2 x3 x4 x5 x6 x7 x8 x9
  have e3 := specRecOk_ev x0 x1 x2 x3 x4 x5 x6 x7 x8 x9
  have o2 := recPack_two x0 x1 x2 x3 x4 x5 x6 x7 x8 x9
  have hz := recPack_size x0 x1 x2 x3 x4 x5 x6 x7 x8 x9
  refine Ev.bind e1 (Ev.bind e2 (Ev.bind e3 ?_))
  simp only [o2, bne_self_eq_false, Bool.false_eq_true, ↓reduceIte]
  cases ok : recOk x0 x1 x2 x3 x4 x5 x6 x7 x8 x9
  · simp only [Bool.false_eq_true, ↓reduceIte]; exact J0
  · have hp := recRead_pack x0 x1 x2 x3 x4 x5 x6 x7 x8 x9 ok
    have r1 := implRecRead_ev (recPack x0 x1 x2 x3 x4 x5 x6 x7 x8 x9).1 (by omega)
    rw [hp] at r1
    simp only [↓reduceIte]
    refine Ev.bind r1 ?_
    simp only [↓reduceIte, beq_self_eq_true, Bool.not_true, Bool.or_self, Bool.false_eq_true]
    exact J0

end Go.Proofs.Ytocpomkfilpflaa.Pure
