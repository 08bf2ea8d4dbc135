/- numbers and texts that are put are read back as they were, whatever stands behind them; no condition. -/
import Derived.Test.YtpdhfphglahkbaaQFnNumsx2
namespace Go.Proofs.Ytpdhfphglahkbaa.Pure
open Go.RowKit Go.Proofs.Ytpdhfphglahkbaa.QFnNums Go.Proofs.YtpdhfphglahkbaaW.PrintWords Go.Proofs.YtpdhfphglahkbaaW.PrintLast
set_option linter.unusedVariables false
set_option linter.unusedSimpArgs false
theorem w64 {x : Int} (h0 : -9223372036854775808 ≤ x) (h1 : x ≤ 9223372036854775807) : wrap64 x = x := by
  unfold wrap64; omega
def By (l : List Int) : Prop := ∀ x ∈ l, 0 ≤ x ∧ x ≤ 255
theorem by_wf {l : List Int} (h : ∀ x ∈ l, (Lit.int .u8 x).wf = true) : By l := fun x hx => by
  have := h x hx
  simpa [Lit.wf, IntKind.min, IntKind.max, IntKind.bits, IntKind.signed] using this
theorem i64_wf {x : Int} (h : (Lit.int .i64 x).wf = true) : -9223372036854775808 ≤ x ∧ x ≤ 9223372036854775807 := by
  simpa [Lit.wf, IntKind.min, IntKind.max, IntKind.bits, IntKind.signed] using h
theorem rd_nat (l : List Int) (i : Nat) : rd l (i : Int) = l.getD i 0 := by simp [rd]
theorem By.at_ {l : List Int} (h : By l) (i : Int) : 0 ≤ rd l i ∧ rd l i ≤ 255 := by
  unfold rd
  rw [List.getD_eq_getElem?_getD]
  rcases Nat.lt_or_ge i.toNat l.length with hi | hi
  · rw [List.getElem?_eq_getElem hi]; exact h _ (List.getElem_mem hi)
  · rw [List.getElem?_eq_none hi]; simp
theorem wraps_i64 (n : Int) (h₀ : 0 ≤ n) (h₁ : n < 2 ^ 63) : IntKind.i64.wrap n = n := by rw [IntKind.wrap_i64]; omega
theorem and_mask (i : Nat) (hi : i ≤ 63) {x : Int} (h₀ : 0 ≤ x) (h₁ : x ≤ 9223372036854775807) : Go.bits .and .i64 x (2 ^ i - 1) = x % 2 ^ i :=
  bits_mask .i64 63 (by decide) wraps_i64 i hi x h₀ (by omega)
theorem or_join (i : Nat) {x y : Int} (hx₀ : 0 ≤ x) (hx : x % 2 ^ i = 0) (hx₁ : x ≤ 9223372036854775807) (hy₀ : 0 ≤ y) (hy : y < 2 ^ i) (hy₁ : y ≤ 9223372036854775807) : Go.bits .or .i64 x y = x + y :=
  bits_join .i64 63 (by decide) wraps_i64 i x y hx₀ hx (by omega) hy₀ hy (by omega)

theorem l1Byte_ok (b : List Int) (i h : Int) (hi : 0 ≤ i ∧ i ≤ 9223372036854775807) (hb : b.length ≤ 140737488355328) : ∃ x i' h', spec_l1Byte.f b i h = some (x, i', h') ∧ 0 ≤ i' ∧ i' ≤ 9223372036854775807 := by
  unfold spec_l1Byte.f
  by_cases c : i < (b.length : Int)
  · rw [if_pos c, if_pos hi.1, w64 (x := i + 1) (by omega) (by omega)]
    exact ⟨_, _, _, rfl, by omega, by omega⟩
  · rw [if_neg c]
    exact ⟨_, _, _, rfl, hi.1, hi.2⟩
theorem l1Below_ok (b : List Int) (i h a : Int) (hi : 0 ≤ i ∧ i ≤ 9223372036854775807) (hb : b.length ≤ 140737488355328) : ∃ x i' h', spec_l1Below.f b i h a = some (x, i', h') ∧ (0 ≤ i' ∧ i' ≤ 9223372036854775807) ∧ (a ≤ 0 → x = 0) ∧ (0 < a → -a < x ∧ x < a) := by
  unfold spec_l1Below.f
  by_cases c : a ≤ 0
  · rw [if_pos c]
    exact ⟨_, _, _, rfl, hi, fun _ => rfl, fun h => by omega⟩
  · rw [if_neg c]
    have ht : ∀ x : Int, -a < Int.tmod x a ∧ Int.tmod x a < a := fun x => by
      have h1 := Int.tmod_lt_of_pos x (show 0 < a by omega)
      have h2 := Int.lt_tmod_of_pos x (show 0 < a by omega)
      omega
    by_cases c2 : a ≤ 256
    · rw [if_pos c2]
      obtain ⟨x, i', h', e, p⟩ := l1Byte_ok b i h hi hb
      rw [e]
      simp only [Option.bind_some]
      rw [if_neg (by omega)]
      exact ⟨_, _, _, rfl, p, fun h => by omega, fun _ => ht _⟩
    · rw [if_neg c2]
      obtain ⟨x1, i1, h1, e1, p1⟩ := l1Byte_ok b i h hi hb
      obtain ⟨x2, i2, h2, e2, p2⟩ := l1Byte_ok b i1 h1 p1 hb
      obtain ⟨x3, i3, h3, e3, p3⟩ := l1Byte_ok b i2 h2 p2 hb
      obtain ⟨x4, i4, h4, e4, p4⟩ := l1Byte_ok b i3 h3 p3 hb
      rw [e1]; simp only [Option.bind_some]
      rw [e2]; simp only [Option.bind_some]
      rw [e3]; simp only [Option.bind_some]
      rw [e4]; simp only [Option.bind_some]
      rw [if_neg (by omega)]
      exact ⟨_, _, _, rfl, p4, fun h => by omega, fun _ => ht _⟩
theorem l1New_l (l : List Int) (hl : l.length ≤ 140737488355328) (d : Nat) : ∀ (h i : Int), 0 ≤ i → i + d = 4000 → ∃ h', Ev (fun k => spec_l1New.l0 k l h i) (l, 0, h') := by
  induction d with
  | zero =>
    intro h i h0 hd
    refine ⟨h, ?_⟩
    refine Ev.step (f := fun _ => some (l, 0, h)) (fun k => ?_) (Ev.now _)
    simp only [spec_l1New.l0]
    split
    · rw [if_neg (by omega)]
    · rfl
  | succ d ih =>
    intro h i h0 hd
    by_cases c : i < (l.length : Int)
    · obtain ⟨h', hh⟩ := ih (Go.bits .and .i64 (wrap64 ((wrap64 ((wrap64 (h * 131)) + (wrap64 (rd l i)))) + 7)) 1073741823) (i + 1) (by omega) (by omega)
      refine ⟨h', Ev.step (fun k => ?_) hh⟩
      simp only [spec_l1New.l0]
      rw [if_pos c, if_pos (by omega), if_pos h0, w64 (x := i + 1) (by omega) (by omega)]
    · refine ⟨h, Ev.step (f := fun _ => some (l, 0, h)) (fun k => ?_) (Ev.now _)⟩
      simp only [spec_l1New.l0]
      rw [if_neg c]
theorem l1New_ev (l : List Int) (hl : l.length ≤ 140737488355328) : ∃ h', Ev (fun k => spec_l1New.f k l) (l, 0, h') := by
  unfold spec_l1New.f
  exact l1New_l l hl 4000 _ 0 (by omega) (by omega)
theorem l1Size_ok (l : List Int) (a : Int) (h0 : 2 ≤ a) (hl : l.length ≤ 140737488355328) : ∃ n, spec_l1Size.f l a = some n ∧ 2 ≤ n ∧ n ≤ a := by
  unfold spec_l1Size.f
  rw [w64 (x := (l.length : Int) / 20) (by omega) (by omega), w64 (by omega) (by omega)]
  split
  · exact ⟨_, rfl, h0, by omega⟩
  · exact ⟨_, rfl, by omega, by omega⟩
theorem l1Once_ok (b : List Int) (i h a : Int) (hi : 0 ≤ i ∧ i ≤ 9223372036854775807) (hb : b.length ≤ 140737488355328) : ∃ x i' h', spec_l1Once.f b i h a = some (x, i', h') ∧ (0 ≤ i' ∧ i' ≤ 9223372036854775807) := by
  unfold spec_l1Once.f
  obtain ⟨x, i', h', e, p, _⟩ := l1Below_ok b i h a hi hb
  rw [e]
  exact ⟨_, _, _, rfl, p⟩

theorem l1DrawBytes_l (b : List Int) (hb : b.length ≤ 140737488355328) (n : Int) (hn : n ≤ 1000000) (d : Nat) : ∀ (acc : List Int) (j i h : Int), By acc → (acc.length : Int) = j → 0 ≤ j → (j ≤ n → j + d = n) → (n < j → d = 0) → (0 ≤ i ∧ i ≤ 9223372036854775807) → ∃ r i' h', Ev (fun k => spec_l1DrawBytes.l0 k acc n j b i h) (r, i', h') ∧ By r ∧ ((r.length : Int) ≤ n ∨ r = acc) ∧ (0 ≤ i' ∧ i' ≤ 9223372036854775807) := by
  induction d with
  | zero =>
    intro acc j i h ha hl h0 hd hd2 hi
    refine ⟨acc, i, h, Ev.step (f := fun _ => some (acc, i, h)) (fun k => ?_) (Ev.now _), ha, .inr rfl, hi⟩
    simp only [spec_l1DrawBytes.l0]
    rw [if_neg (by omega)]
  | succ d ih =>
    intro acc j i h ha hl h0 hd hd2 hi
    have c : j < n := by omega
    obtain ⟨x, i1, h1, e, p⟩ := l1Byte_ok b i h hi hb
    obtain ⟨r, i', h', hh, hr, hrl, hi'⟩ := ih (acc ++ [x % 256]) (j + 1) i1 h1 (fun y hy => by
      rcases List.mem_append.1 hy with hy | hy
      · exact ha y hy
      · simp at hy; omega) (by simp; omega) (by omega) (by omega) (by omega) p
    refine ⟨r, i', h', Ev.step (fun k => ?_) hh, hr, .inl ?_, hi'⟩
    · simp only [spec_l1DrawBytes.l0]
      rw [if_pos c, e]
      simp only [Option.bind_some]
      rw [if_pos (by omega), w64 (by omega) (by omega)]
    · rcases hrl with h | rfl
      · exact h
      · simp; omega
theorem l1DrawBytes_ev (b : List Int) (i h a : Int) (hb : b.length ≤ 140737488355328) (hi : 0 ≤ i ∧ i ≤ 9223372036854775807) (ha : 0 ≤ a ∧ a ≤ 1000000) : ∃ r i' h', Ev (fun k => spec_l1DrawBytes.f k b i h a) (r, i', h') ∧ By r ∧ (r.length : Int) ≤ a ∧ (0 ≤ i' ∧ i' ≤ 9223372036854775807) := by
  unfold spec_l1DrawBytes.f
  rw [w64 (x := a + 1) (by omega) (by omega)]
  obtain ⟨n, i1, h1, e, p, hx0, hx⟩ := l1Below_ok b i h (a + 1) hi hb
  have hx := hx (by omega)
  obtain ⟨r, i', h', hh, hr, hrl, hi'⟩ := l1DrawBytes_l b hb n (by omega) n.toNat [] 0 i1 h1 (by intro y hy; simp at hy) rfl (by omega) (by omega) (by omega) p
  refine ⟨r, i', h', ?_, hr, ?_, hi'⟩
  · rw [e]
    simp only [Option.bind_some]
    exact hh
  · rcases hrl with h | rfl
    · omega
    · simp; omega

theorem l1DrawLong_ev (b : List Int) (i h a : Int) (hb : b.length ≤ 140737488355328) (hi : 0 ≤ i ∧ i ≤ 9223372036854775807) (ha : 0 ≤ a ∧ a ≤ 1000000) : ∃ r i' h', Ev (fun k => spec_l1DrawLong.f k b i h a) (r, i', h') ∧ By r ∧ ((r.length : Int) ≤ a ∨ r.length ≤ 3001) ∧ (0 ≤ i' ∧ i' ≤ 9223372036854775807) := by
  obtain ⟨r, i1, h1, e1, hr, hrl, p1⟩ := l1DrawBytes_ev b i h a hb hi ha
  obtain ⟨x, i2, h2, e2, p2⟩ := l1Once_ok b i1 h1 30 p1 hb
  unfold spec_l1DrawLong.f
  cases x
  · refine ⟨r, i2, h2, ?_, hr, .inl hrl, p2⟩
    refine Ev.bind e1 ?_
    simp only [e2, Option.bind_some, Bool.false_eq_true, ↓reduceIte]
    exact Ev.now _
  · obtain ⟨y, i3, h3, e3, p3, _, hy⟩ := l1Below_ok b i2 h2 2 p2 hb
    have hy := hy (by omega)
    refine ⟨List.replicate (3000 + y).toNat 0, i3, h3, ?_, fun z hz => ?_, .inr ?_, p3⟩
    · refine Ev.bind e1 ?_
      simp only [e2, Option.bind_some, ↓reduceIte, e3]
      rw [w64 (x := 3000 + y) (by omega) (by omega), if_pos (by omega), if_pos (by omega)]
      exact Ev.now _
    · have := (List.mem_replicate.1 hz).2; omega
    · rw [List.length_replicate]; omega

theorem and_maskZ (i : Nat) (hi : i ≤ 62) (x : Int) : Go.bits .and .i64 x (2 ^ i - 1) = x % 2 ^ i := by
  have hpos : 0 < 2 ^ i := Nat.two_pow_pos i
  have hle : 2 ^ i ≤ 2 ^ 62 := Nat.pow_le_pow_right (by decide) hi
  have hc : ((2 : Int) ^ i - 1) = ((2 ^ i - 1 : Nat) : Int) := by rw [Int.natCast_sub hpos]; simp
  have hb : IntKind.i64.bits = 64 := rfl
  have hd : ((2 : Int) ^ i) ∣ ((2 : Int) ^ 64) := ⟨2 ^ (64 - i), by rw [← Int.pow_add]; congr 1; omega⟩
  have hx : (((x % (2 : Int) ^ 64).toNat : Nat) : Int) = x % (2 : Int) ^ 64 := Int.toNat_of_nonneg (Int.emod_nonneg _ (by decide))
  rw [hc]
  simp only [Go.bits, hb, BitVec.ofInt_natCast, BitVec.toNat_and, BitVec.toNat_ofNat, BitVec.toNat_ofInt]
  rw [Nat.mod_eq_of_lt (show 2 ^ i - 1 < 2 ^ 64 by omega), Nat.and_two_pow_sub_one_eq_mod]
  have e : (((x % ((2 ^ 64 : Nat) : Int)).toNat % 2 ^ i : Nat) : Int) = x % 2 ^ i := by
    rw [Int.natCast_emod]
    have : ((2 ^ 64 : Nat) : Int) = (2 : Int) ^ 64 := by simp
    rw [this, hx]
    have h2 : ((2 ^ i : Nat) : Int) = (2 : Int) ^ i := by simp
    rw [h2, Int.emod_emod_of_dvd _ hd]
  rw [e]
  have h1 := Int.emod_nonneg x (show (2 : Int) ^ i ≠ 0 by exact_mod_cast Nat.ne_of_gt hpos)
  have h2 := Int.emod_lt_of_pos x (show (0 : Int) < 2 ^ i by exact_mod_cast hpos)
  have h3 : (2 : Int) ^ i ≤ 2 ^ 62 := by exact_mod_cast hle
  exact wraps_i64 _ h1 (by omega)
theorem and255 (x : Int) : Go.bits .and .i64 x 255 = x % 256 := and_maskZ 8 (by decide) x

theorem l1Byte_nn (b : List Int) (i h x : Int) (i' h' : Int) (e : spec_l1Byte.f b i h = some (x, i', h')) : 0 ≤ x ∧ x ≤ 255 := by
  unfold spec_l1Byte.f at e
  simp only [and255] at e
  split at e
  · split at e
    · simp only [Option.some.injEq, Prod.mk.injEq] at e; omega
    · simp at e
  · simp only [Option.some.injEq, Prod.mk.injEq] at e; omega
theorem l1Below_nn (b : List Int) (i h a x : Int) (i' h' : Int) (e : spec_l1Below.f b i h a = some (x, i', h')) : 0 ≤ x := by
  unfold spec_l1Below.f at e
  split at e
  · simp only [Option.some.injEq, Prod.mk.injEq] at e; omega
  · split at e
    · obtain ⟨⟨x1, i1, h1⟩, e1, e⟩ := Option.bind_eq_some_iff.1 e
      have := l1Byte_nn _ _ _ _ _ _ e1
      simp only at e
      split at e
      · simp at e
      · simp only [Option.some.injEq, Prod.mk.injEq] at e
        rw [← e.1]; exact Int.tmod_nonneg _ (by omega)
    · obtain ⟨⟨x1, i1, h1⟩, e1, e⟩ := Option.bind_eq_some_iff.1 e
      obtain ⟨⟨x2, i2, h2⟩, e2, e⟩ := Option.bind_eq_some_iff.1 e
      obtain ⟨⟨x3, i3, h3⟩, e3, e⟩ := Option.bind_eq_some_iff.1 e
      obtain ⟨⟨x4, i4, h4⟩, e4, e⟩ := Option.bind_eq_some_iff.1 e
      have b1 := l1Byte_nn _ _ _ _ _ _ e1
      have b2 := l1Byte_nn _ _ _ _ _ _ e2
      have b3 := l1Byte_nn _ _ _ _ _ _ e3
      have b4 := l1Byte_nn _ _ _ _ _ _ e4
      simp only at e
      split at e
      · simp at e
      · simp only [Option.some.injEq, Prod.mk.injEq] at e
        rw [← e.1]
        refine Int.tmod_nonneg _ ?_
        rw [w64 (x := x1 * 16777216) (by omega) (by omega), w64 (x := x2 * 65536) (by omega) (by omega), w64 (x := x3 * 256) (by omega) (by omega), w64 (x := x1 * 16777216 + x2 * 65536) (by omega) (by omega), w64 (x := x1 * 16777216 + x2 * 65536 + x3 * 256) (by omega) (by omega), w64 (by omega) (by omega)]
        omega
theorem rd_mem (l : List Int) (i : Int) (h0 : 0 ≤ i) (h1 : i < l.length) : rd l i ∈ l := by
  unfold rd
  rw [List.getD_eq_getElem?_getD, List.getElem?_eq_getElem (by omega)]
  exact List.getElem_mem _
theorem l1PickInt_ok (b : List Int) (i h : Int) (l : List Int) (hi : 0 ≤ i ∧ i ≤ 9223372036854775807) (hb : b.length ≤ 140737488355328) (hl : 0 < l.length) : ∃ x i' h', spec_l1PickInt.f b i h l = some (x, i', h') ∧ (0 ≤ i' ∧ i' ≤ 9223372036854775807) ∧ x ∈ l := by
  obtain ⟨x, i', h', e, p, _, hx⟩ := l1Below_ok b i h l.length hi hb
  have hn := l1Below_nn _ _ _ _ _ _ _ e
  have hx := hx (by omega)
  refine ⟨rd l x, i', h', ?_, p, rd_mem l x hn hx.2⟩
  unfold spec_l1PickInt.f
  rw [e]
  simp only [Option.bind_some]
  rw [if_pos hn, if_pos hx.2]
theorem l1DrawNum_ok (b : List Int) (i h : Int) (hi : 0 ≤ i ∧ i ≤ 9223372036854775807) (hb : b.length ≤ 140737488355328) : ∃ x i' h', spec_l1DrawNum.f b i h = some (x, i', h') ∧ (0 ≤ i' ∧ i' ≤ 9223372036854775807) ∧ -1 ≤ x ∧ x ≤ 9223372036854775807 := by
  obtain ⟨x1, i1, h1, e1, p1, _, b1⟩ := l1Below_ok b i h 1000000 hi hb
  obtain ⟨x2, i2, h2, e2, p2, _, b2⟩ := l1Below_ok b i1 h1 300 p1 hb
  have n1 := l1Below_nn _ _ _ _ _ _ _ e1
  have n2 := l1Below_nn _ _ _ _ _ _ _ e2
  have b1 := b1 (by omega)
  have b2 := b2 (by omega)
  obtain ⟨x3, i3, h3, e3, p3, m3⟩ := l1PickInt_ok b i2 h2 [0, 1, 127, 128, 255, 16383, 16384, 2097151, 2097152, (-1), 9223372036854775807, 72057594037927935, x1, x2] p2 hb (by simp)
  refine ⟨x3, i3, h3, ?_, p3, ?_⟩
  · unfold spec_l1DrawNum.f
    rw [e1]; simp only [Option.bind_some]
    rw [e2]; simp only [Option.bind_some]
    rw [e3]; simp only [Option.bind_some]
  · simp only [List.mem_cons, List.not_mem_nil, or_false] at m3
    omega
theorem drawPutNum_ev (l : List Int) (hl : l.length ≤ 140737488355328) : ∃ x, Ev (fun k => spec_DrawPutNum.f k l) x ∧ -1 ≤ x ∧ x ≤ 9223372036854775807 := by
  obtain ⟨h, e1⟩ := l1New_ev l hl
  obtain ⟨x, i', h', e2, _, hx⟩ := l1DrawNum_ok l 0 h (by omega) hl
  refine ⟨x, ?_, hx⟩
  unfold spec_DrawPutNum.f
  refine Ev.bind e1 ?_
  simp only [e2, Option.bind_some]
  exact Ev.now _

theorem strOf_inj {a b : List Int} (ha : By a) (hb : By b) (h : strOfNums a = strOfNums b) : a = b := by
  have h2 : (a.map fun n => UInt8.ofNat n.toNat) = (b.map fun n => UInt8.ofNat n.toNat) := by
    have := congrArg (fun s : ByteArray => s.data.toList) h
    simpa [strOfNums_data] using this
  clear h
  induction a generalizing b with
  | nil => cases b with
    | nil => rfl
    | cons y t => simp at h2
  | cons x s ih => cases b with
    | nil => simp at h2
    | cons y t =>
      simp only [List.map_cons, List.cons.injEq] at h2
      have hx := ha x (by simp)
      have hy := hb y (by simp)
      have e := congrArg UInt8.toNat h2.1
      simp only [UInt8.toNat_ofNat'] at e
      have : x = y := by omega
      rw [this, ih (fun z hz => ha z (by simp [hz])) (fun z hz => hb z (by simp [hz])) h2.2]
theorem toList_inj {a b : ByteArray} (h : a.toList = b.toList) : a = b := by
  rw [ByteArray.toList_eq, ByteArray.toList_eq] at h
  exact ByteArray.ext (Array.toList_inj.1 h)
theorem strOf_iff {a b : List Int} (ha : By a) (hb : By b) : (strOfNums a).toList = (strOfNums b).toList ↔ a = b :=
  ⟨fun h => strOf_inj ha hb (toList_inj h), fun h => by rw [h]⟩

theorem bytesOf_by (s : ByteArray) : By (bytesOf s) := by
  intro x hx
  unfold bytesOf at hx
  obtain ⟨b, _, rfl⟩ := List.mem_map.1 hx
  have := b.toNat_lt
  omega

theorem drawPutText_ev (l : List Int) (hl : l.length ≤ 140737488355328) : ∃ s : ByteArray, Ev (fun k => spec_DrawPutText.f k l) s ∧ s.size ≤ 3001 := by
  obtain ⟨h, e1⟩ := l1New_ev l hl
  obtain ⟨n, e2, hn⟩ := l1Size_ok l 40 (by omega) hl
  obtain ⟨r, i', h', e3, hr, hrl, _⟩ := l1DrawLong_ev l 0 h n hl (by omega) (by omega)
  refine ⟨strOfNums r, ?_, ?_⟩
  · unfold spec_DrawPutText.f
    refine Ev.bind e1 ?_
    simp only [e2, Option.bind_some]
    refine Ev.bind e3 ?_
    exact Ev.now _
  · have : (strOfNums r).size = r.length := by
      rw [← data_length, strOfNums_data, List.length_map]
    omega

def p7 (k : Nat) : Int := 128 ^ k
def gn : Nat → List Int → Int → Nat → Int → Int × Int × Bool
  | 0, _, _, _, _ => (0, 0, false)
  | d + 1, l, at_, k, x => if at_ + k < l.length then (if rd l (at_ + k) < 128 then (if rd l (at_ + k) = 0 ∧ 0 < k then (0, 0, false) else (x + rd l (at_ + k) % 128 * p7 k, at_ + k + 1, true)) else gn d l at_ (k + 1) (x + rd l (at_ + k) % 128 * p7 k)) else (0, 0, false)
def getNum (l : List Int) (at_ : Int) : Int × Int × Bool := if at_ < 0 then (0, 0, false) else gn 9 l at_ 0 0
theorem p7_0 : p7 0 = 1 := rfl
theorem p7_succ (k : Nat) : p7 (k + 1) = p7 k * 128 := Int.pow_succ 128 k
theorem p7_b (k : Nat) (hk : k ≤ 8) : 1 ≤ p7 k ∧ p7 k ≤ 72057594037927936 := by
  have : k = 0 ∨ k = 1 ∨ k = 2 ∨ k = 3 ∨ k = 4 ∨ k = 5 ∨ k = 6 ∨ k = 7 ∨ k = 8 := by omega
  rcases this with rfl | rfl | rfl | rfl | rfl | rfl | rfl | rfl | rfl <;> decide
theorem p128 (k : Nat) (hk : k ≤ 8) (x c : Int) (hx0 : 0 ≤ x) (hx : x < p7 k) (hc0 : 0 ≤ c) (hc : c < 128) : 0 ≤ c * p7 k ∧ c * p7 k ≤ 9223372036854775807 ∧ 0 ≤ x + c * p7 k ∧ x + c * p7 k ≤ 9223372036854775807 ∧ x + c * p7 k < p7 (k + 1) := by
  have h := p7_b k hk
  rw [p7_succ]
  generalize p7 k = u at *
  have h1 : 0 ≤ c * u := Int.mul_nonneg hc0 (by omega)
  have h2 : c * u ≤ 127 * u := Int.mul_le_mul_of_nonneg_right (by omega) (by omega)
  refine ⟨h1, by omega, by omega, by omega, by omega⟩

theorem gn_b : ∀ (d : Nat) (k : Nat) (l : List Int) (a x : Int), By l → 0 ≤ a → d + k ≤ 9 → 0 ≤ x → x < p7 k → 0 ≤ (gn d l a k x).1 ∧ (gn d l a k x).1 ≤ 9223372036854775807 ∧ 0 ≤ (gn d l a k x).2.1 ∧ (gn d l a k x).2.1 ≤ l.length
  | 0, k, l, a, x, hb, ha, hk, h0, h1 => by simp [gn]
  | d + 1, k, l, a, x, hb, ha, hk, h0, h1 => by
    have hz : (0 : Int) ≤ 0 ∧ (0 : Int) ≤ 9223372036854775807 ∧ (0 : Int) ≤ 0 ∧ (0 : Int) ≤ l.length := ⟨by omega, by omega, by omega, by omega⟩
    have hr := hb.at_ (a + k)
    have hp := p128 k (by omega) x (rd l (a + k) % 128) h0 h1 (by omega) (by omega)
    simp only [gn]
    split
    · split
      · split
        · exact hz
        · exact ⟨hp.2.2.1, hp.2.2.2.1, by simp only; omega, by simp only; omega⟩
      · exact gn_b d (k + 1) l a _ hb ha (by omega) hp.2.2.1 hp.2.2.2.2
    · exact hz
theorem getNum_b (l : List Int) (a : Int) (hb : By l) : 0 ≤ (getNum l a).1 ∧ (getNum l a).1 ≤ 9223372036854775807 ∧ 0 ≤ (getNum l a).2.1 ∧ (getNum l a).2.1 ≤ l.length := by
  unfold getNum
  split
  · exact ⟨by simp, by simp, by simp, by simp⟩
  · exact gn_b 9 0 l a 0 hb (by omega) (by omega) (by omega) (by decide)

def getText (l : List Int) (a : Int) : ByteArray × Int × Bool :=
  if (getNum l a).2.2 = true ∧ (getNum l a).1 ≤ 3000 ∧ (getNum l a).1 ≤ (l.length : Int) - (getNum l a).2.1 then
    (strOfNums ((l.take ((getNum l a).2.1 + (getNum l a).1).toNat).drop ((getNum l a).2.1).toNat), (getNum l a).2.1 + (getNum l a).1, true) else (ByteArray.empty, 0, false)

def putNum (x : Int) : List Int := if h : x > 127 then (x % 128 + 128) :: putNum (x / 128) else [x]
termination_by x.toNat
decreasing_by omega
theorem putNum_big {x : Int} (h : x > 127) : putNum x = (x % 128 + 128) :: putNum (x / 128) := by rw [putNum]; simp [h]
theorem putNum_small {x : Int} (h : ¬ x > 127) : putNum x = [x] := by rw [putNum]; simp [h]
theorem putNum_by (m : Nat) : ∀ x : Int, 0 ≤ x → x < 128 ^ (m + 1) → By (putNum x) ∧ (putNum x).length ≤ m + 1 ∧ 1 ≤ (putNum x).length := by
  induction m with
  | zero =>
    intro x h0 h1
    have h1 : x < 128 := by simpa using h1
    rw [putNum_small (by omega)]
    refine ⟨fun y hy => ?_, by simp, by simp⟩
    simp at hy; omega
  | succ m ih =>
    intro x h0 h1
    by_cases h : x > 127
    · rw [putNum_big h]
      obtain ⟨h2, h3, h4⟩ := ih (x / 128) (by omega) (by rw [Int.pow_succ] at h1; omega)
      refine ⟨fun y hy => ?_, by simp; omega, by simp⟩
      rcases List.mem_cons.1 hy with rfl | hy
      · omega
      · exact h2 y hy
    · rw [putNum_small h]
      refine ⟨fun y hy => ?_, by simp, by simp⟩
      simp at hy; omega
theorem putNum_b9 {x : Int} (h0 : 0 ≤ x) (h1 : x ≤ 9223372036854775807) : By (putNum x) ∧ (putNum x).length ≤ 9 ∧ 1 ≤ (putNum x).length := putNum_by 8 x h0 (by omega)

def sumGo : List Int → Int → Int → Int
  | [], x, y => 65536 * y + x
  | c :: t, x, y => sumGo t ((x + c) % 65521) ((y + (x + c) % 65521) % 65521)
theorem sumGo_b (l : List Int) : ∀ x y : Int, 0 ≤ x → x < 65521 → 0 ≤ y → y < 65521 → 0 ≤ sumGo l x y ∧ sumGo l x y < 4294967296 := by
  induction l with
  | nil => intro x y h0 h1 h2 h3; simp only [sumGo]; omega
  | cons c t ih =>
    intro x y h0 h1 h2 h3
    exact ih _ _ (by omega) (by omega) (by omega) (by omega)
def sumOf (l : List Int) : Int := sumGo l 1 0
theorem sumOf_b (l : List Int) : 0 ≤ sumOf l ∧ sumOf l < 4294967296 := sumGo_b l 1 0 (by omega) (by omega) (by omega) (by omega)
theorem rd_mid (P : List Int) (c : Int) (t : List Int) : rd (P ++ c :: t) (P.length : Int) = c := by rw [rd_nat]; simp

def sum4 (l : List Int) : List Int := [sumOf l % 256, sumOf l / 256 % 256, sumOf l / 65536 % 256, sumOf l / 16777216 % 256]
def sealed (l : List Int) : List Int := putNum l.length ++ l ++ sum4 l
def sealOf (l : List Int) : List Int × Bool := if l.length > 3000 then ([], false) else (sealed l, true)
theorem sealOf_len (l : List Int) : (sealOf l).1.length ≤ 3013 := by
  unfold sealOf
  split
  · simp
  · have := (putNum_b9 (x := l.length) (by omega) (by omega)).2.1
    simp [sealed, sum4]; omega

def seg (l : List Int) (a b : Int) : List Int := (l.take b.toNat).drop a.toNat
theorem seg_len (l : List Int) (a b : Int) (h0 : 0 ≤ a) (h1 : a ≤ b) (h2 : b ≤ l.length) : ((seg l a b).length : Int) = b - a := by
  unfold seg; rw [List.length_drop, List.length_take]; omega
theorem seg_by (l : List Int) (a b : Int) (hb : By l) : By (seg l a b) := fun x hx => hb x (List.mem_of_mem_take (List.mem_of_mem_drop hx))
def unsealOf (l : List Int) (a : Int) : List Int × Int × Int :=
  if (getNum l a).2.2 = true ∧ (getNum l a).1 ≤ 3000 then
    (if (l.length : Int) - (getNum l a).2.1 < (getNum l a).1 + 4 then ([], 0, 2)
     else if seg l ((getNum l a).2.1 + (getNum l a).1) ((getNum l a).2.1 + (getNum l a).1 + 4) = sum4 (seg l (getNum l a).2.1 ((getNum l a).2.1 + (getNum l a).1)) then (seg l (getNum l a).2.1 ((getNum l a).2.1 + (getNum l a).1), (getNum l a).2.1 + (getNum l a).1 + 4, 0)
     else ([], 0, 3))
  else ([], 0, 1)
theorem unseal_len (l : List Int) (a : Int) : (unsealOf l a).1.length ≤ l.length := by
  unfold unsealOf
  split
  · split
    · simp
    · split
      · simp only [seg, List.length_drop, List.length_take]; omega
      · simp
  · simp
theorem sum4_by (l : List Int) : By (sum4 l) := by
  intro x hx
  simp only [sum4, List.mem_cons, List.not_mem_nil, or_false] at hx
  omega

def lsum : List Int → Int
  | [] => 0
  | c :: t => c + lsum t
theorem sumGo_mod : ∀ (l : List Int) (x y : Int), 0 ≤ x → x < 65521 → sumGo l x y % 65536 = (x + lsum l) % 65521
  | [], x, y, h0, h1 => by simp only [sumGo, lsum]; omega
  | c :: t, x, y, h0, h1 => by
    have h := sumGo_mod t ((x + c) % 65521) ((y + (x + c) % 65521) % 65521) (by omega) (by omega)
    simp only [sumGo, lsum]
    rw [h]; omega
theorem lsum_set : ∀ (l : List Int) (j : Nat) (z : Int), j < l.length → lsum (l.set j z) = lsum l - rd l (j : Int) + z
  | [], j, z, h => by simp at h
  | c :: t, 0, z, h => by simp [lsum, rd]; omega
  | c :: t, j + 1, z, h => by
    have := lsum_set t j z (by simpa using h)
    have e : rd (c :: t) ((j + 1 : Nat) : Int) = rd t (j : Int) := by rw [rd_nat, rd_nat]; simp
    rw [List.set_cons_succ, e]; simp only [lsum]; omega
theorem sum4_ne (l : List Int) (hb : By l) (j : Nat) (z : Int) (hj : j < l.length) (hz : 0 ≤ z ∧ z ≤ 255) (hne : z ≠ rd l (j : Int)) : sum4 l ≠ sum4 (l.set j z) := by
  intro h
  have b1 := sumOf_b l
  have b2 := sumOf_b (l.set j z)
  have m1 : sumOf l % 65536 = (1 + lsum l) % 65521 := sumGo_mod l 1 0 (by omega) (by omega)
  have m2 : sumOf (l.set j z) % 65536 = (1 + lsum (l.set j z)) % 65521 := sumGo_mod _ 1 0 (by omega) (by omega)
  rw [lsum_set l j z hj] at m2
  have hr := hb.at_ (j : Int)
  simp only [sum4, List.cons.injEq, and_true] at h
  omega
theorem rd_app (P Q : List Int) (i : Nat) : rd (P ++ Q) ((P.length + i : Nat) : Int) = rd Q (i : Int) := by
  rw [rd_nat, rd_nat]
  simp [List.getD_eq_getElem?_getD, List.getElem?_append_right]
theorem rd_app_l (P Q : List Int) (i : Nat) (h : i < P.length) : rd (P ++ Q) (i : Int) = rd P (i : Int) := by
  rw [rd_nat, rd_nat]
  simp [List.getD_eq_getElem?_getD, List.getElem?_append_left h]
theorem getNum_put (P R : List Int) (n : Int) (h0 : 0 ≤ n) (h1 : n ≤ 3000) : getNum (P ++ (putNum n ++ R)) (P.length : Int) = (n, (P.length : Int) + (putNum n).length, true) := by
  have e0 : ∀ Q : List Int, rd (P ++ Q) ((P.length : Int) + ((0 : Nat) : Int)) = rd Q 0 := fun Q => by have := rd_app P Q 0; simpa using this
  have e1 : ∀ Q : List Int, rd (P ++ Q) ((P.length : Int) + ((0 + 1 : Nat) : Int)) = rd Q 1 := fun Q => by have := rd_app P Q 1; simpa using this
  unfold getNum
  rw [if_neg (by omega)]
  by_cases h : n > 127
  · rw [putNum_big h, putNum_small (x := n / 128) (by omega)]
    simp only [gn, List.cons_append, List.nil_append]
    rw [e0, e1, if_pos (by simp; omega)]
    have r0 : rd ((n % 128 + 128) :: n / 128 :: R) 0 = n % 128 + 128 := rfl
    have r1 : rd ((n % 128 + 128) :: n / 128 :: R) 1 = n / 128 := rfl
    rw [r0, r1, if_neg (by omega), if_pos (by simp; omega), if_pos (by omega), if_neg (by omega), p7_0, p7_succ, p7_0]
    simp only [Prod.mk.injEq, and_true]
    refine ⟨by omega, by simp; omega⟩
  · rw [putNum_small h]
    simp only [gn, List.cons_append, List.nil_append]
    rw [e0, if_pos (by simp; omega)]
    have r0 : rd (n :: R) 0 = n := rfl
    rw [r0, if_pos (by omega), if_neg (by omega), p7_0]
    simp only [Prod.mk.injEq, and_true]
    refine ⟨by omega, by simp⟩
theorem seg_app (A B : List Int) (i j : Nat) : seg (A ++ B) ((A.length : Int) + i) ((A.length : Int) + j) = (B.take j).drop i := by
  unfold seg
  have h1 : ((A.length : Int) + (j : Int)).toNat = A.length + j := by omega
  have h2 : ((A.length : Int) + (i : Int)).toNat = A.length + i := by omega
  rw [h1, h2, List.take_append, List.drop_append]
  simp
theorem unseal_at (P R : List Int) (n : Nat) (h1 : n ≤ 3000) (hR : R.length = n + 4) : unsealOf (P ++ (putNum (n : Int) ++ R)) (P.length : Int) = if R.drop n = sum4 (R.take n) then (R.take n, (P.length : Int) + (putNum (n : Int)).length + n + 4, 0) else ([], 0, 3) := by
  have g := getNum_put P R n (by omega) (by omega)
  unfold unsealOf
  rw [g]
  simp only [show (n : Int) ≤ 3000 by omega, and_self, ↓reduceIte]
  have hl : ((P ++ (putNum (n : Int) ++ R)).length : Int) = P.length + (putNum (n : Int)).length + n + 4 := by simp; omega
  rw [if_neg (by omega)]
  have ea : P ++ (putNum (n : Int) ++ R) = (P ++ putNum (n : Int)) ++ R := by simp
  have la : ((P ++ putNum (n : Int)).length : Int) = P.length + (putNum (n : Int)).length := by simp
  have s1 := seg_app (P ++ putNum (n : Int)) R n (n + 4)
  have s2 := seg_app (P ++ putNum (n : Int)) R 0 n
  rw [la] at s1 s2
  have e1 : seg (P ++ (putNum (n : Int) ++ R)) ((P.length : Int) + (putNum (n : Int)).length + n) ((P.length : Int) + (putNum (n : Int)).length + n + 4) = R.drop n := by
    rw [ea, show ((P.length : Int) + (putNum (n : Int)).length + n + 4) = ((P.length : Int) + (putNum (n : Int)).length + ((n + 4 : Nat) : Int)) by omega, s1, List.take_of_length_le (by omega)]
  have e2 : seg (P ++ (putNum (n : Int) ++ R)) ((P.length : Int) + (putNum (n : Int)).length) ((P.length : Int) + (putNum (n : Int)).length + n) = R.take n := by
    have : ((P.length : Int) + (putNum (n : Int)).length) = ((P.length : Int) + (putNum (n : Int)).length + ((0 : Nat) : Int)) := by omega
    rw [ea]; rw [this] at s2 ⊢; rw [Int.natCast_zero, Int.add_zero] at *
    simpa using s2
  rw [e1, e2]
theorem set_ne (l : List Int) (j : Nat) (z : Int) (hj : j < l.length) (hne : z ≠ rd l (j : Int)) : l.set j z ≠ l := by
  intro h
  have e : rd (l.set j z) (j : Int) = z := by rw [rd_nat]; simp [hj]
  rw [h] at e; exact hne e.symm
theorem unseal_sealed (P b : List Int) (hl : b.length ≤ 3000) : unsealOf (P ++ sealed b) (P.length : Int) = (b, (P.length : Int) + (sealed b).length, 0) := by
  have h := unseal_at P (b ++ sum4 b) b.length hl (by simp [sum4])
  have e1 : (b ++ sum4 b).drop b.length = sum4 b := by simp
  have e2 : (b ++ sum4 b).take b.length = b := by simp
  have el : ((sealed b).length : Int) = (putNum (b.length : Int)).length + b.length + 4 := by simp [sealed, sum4]; omega
  rw [e1, e2, if_pos rfl] at h
  unfold sealed at *
  rw [List.append_assoc (putNum (b.length : Int)), h]
  rw [List.append_assoc (putNum (b.length : Int))] at el
  rw [el]
  simp only [Prod.mk.injEq, and_true, true_and]
  omega
theorem unseal_broken (b : List Int) (hb : By b) (hl : b.length ≤ 3000) (m : Nat) (hm : m < b.length + 4) (z : Int) (hz : 0 ≤ z ∧ z ≤ 255) (hne : z ≠ rd (sealed b) (((putNum (b.length : Int)).length + m : Nat) : Int)) : unsealOf ((sealed b).set ((putNum (b.length : Int)).length + m) z) 0 = ([], 0, 3) := by
  have hs : sealed b = putNum (b.length : Int) ++ (b ++ sum4 b) := by unfold sealed; rw [List.append_assoc]
  rw [hs] at hne ⊢
  rw [rd_app] at hne
  rw [List.set_append_right _ _ (by omega), Nat.add_sub_cancel_left]
  have h := unseal_at [] ((b ++ sum4 b).set m z) b.length hl (by simp [sum4])
  rw [List.nil_append] at h
  have hh : ¬ (((b ++ sum4 b).set m z).drop b.length = sum4 (((b ++ sum4 b).set m z).take b.length)) := by
    by_cases c : m < b.length
    · rw [rd_app_l _ _ _ c] at hne
      rw [List.set_append_left _ _ c]
      have l1 : (b.set m z).length = b.length := by simp
      rw [List.drop_left' l1, List.take_left' l1]
      exact sum4_ne b hb m z c hz hne
    · have em : m = b.length + (m - b.length) := by omega
      rw [em, rd_app] at hne
      rw [List.set_append_right _ _ (by omega), List.drop_left, List.take_left]
      exact set_ne _ _ _ (by simp [sum4]; omega) hne
  rw [if_neg hh] at h
  simpa using h

theorem gn_put : ∀ (d k0 : Nat) (l P R : List Int) (a x n : Int), l = P ++ (putNum n ++ R) → (P.length : Int) = a + k0 → 0 ≤ n → n < p7 (d + 1) → (0 < n ∨ k0 = 0) →
    gn (d + 1) l a k0 x = (x + n * p7 k0, a + k0 + (putNum n).length, true)
  | d, k0, l, P, R, a, x, n, hl, hP, h0, h1, hc => by
    have e0 : ∀ Q : List Int, rd (P ++ Q) (a + k0) = rd Q 0 := fun Q => by have := rd_app P Q 0; rw [← hP]; simpa using this
    by_cases h : n > 127
    · have hd : n / 128 < p7 d := by
        have := p7_succ d
        generalize p7 (d + 1) = u at *
        generalize p7 d = v at *
        omega
      obtain ⟨d', rfl⟩ : ∃ d', d = d' + 1 := by
        cases d with
        | zero => rw [p7_0] at hd; omega
        | succ d' => exact ⟨d', rfl⟩
      have ih := gn_put d' (k0 + 1) l (P ++ [n % 128 + 128]) R a (x + (n % 128 + 128) % 128 * p7 k0) (n / 128) (by rw [hl, putNum_big h]; simp) (by simp; omega) (by omega) hd (.inl (by omega))
      rw [gn, hl, putNum_big h, List.cons_append, e0, show rd ((n % 128 + 128) :: (putNum (n / 128) ++ R)) 0 = n % 128 + 128 from rfl, if_pos (by simp; omega), if_neg (by omega)]
      rw [show P ++ (n % 128 + 128) :: (putNum (n / 128) ++ R) = l by rw [hl, putNum_big h]; simp, ih, p7_succ]
      have e1 : (n % 128 + 128) % 128 = n % 128 := by omega
      have e2 : n % 128 * p7 k0 + n / 128 * (p7 k0 * 128) = n * p7 k0 := by
        have : n / 128 * (p7 k0 * 128) = (128 * (n / 128)) * p7 k0 := by rw [Int.mul_comm (p7 k0) 128, ← Int.mul_assoc, Int.mul_comm (n / 128) 128]
        rw [this, ← Int.add_mul]
        congr 1
        omega
      rw [e1]
      simp only [Prod.mk.injEq, and_true]
      refine ⟨by rw [Int.add_assoc, e2], by simp; omega⟩
    · rw [gn, hl, putNum_small h, List.cons_append, List.nil_append, e0, show rd (n :: R) 0 = n from rfl, if_pos (by simp; omega), if_pos (by omega), if_neg (by omega), show n % 128 = n by omega]
      simp only [Prod.mk.injEq, List.length_singleton, and_true, true_and]
      omega
theorem getNum_putNum (P R : List Int) (n : Int) (h0 : 0 ≤ n) (h1 : n ≤ 9223372036854775807) : getNum (P ++ (putNum n ++ R)) (P.length : Int) = (n, (P.length : Int) + (putNum n).length, true) := by
  unfold getNum
  rw [if_neg (by omega), gn_put 8 0 _ P R _ 0 n rfl (by simp) h0 (by show n < p7 9; have : p7 9 = 9223372036854775808 := by decide
                                                                     omega) (.inr rfl), p7_0]
  simp

def putText (s : ByteArray) : List Int := if s.size > 3000 then [] else putNum s.size ++ bytesOf s
theorem putText_len (s : ByteArray) : (putText s).length ≤ 3009 := by
  unfold putText
  split
  · simp
  · have := (putNum_b9 (x := s.size) (by omega) (by omega)).2.1
    rw [List.length_append, bytesOf_length]; omega

theorem strOf_bytesOf (s : ByteArray) : strOfNums (bytesOf s) = s := by
  apply ByteArray.ext
  apply Array.toList_inj.1
  have h := strOfNums_data (bytesOf s)
  rw [h]
  unfold bytesOf
  rw [List.map_map]
  have : ((fun n : Int => UInt8.ofNat n.toNat) ∘ fun b : UInt8 => (b.toNat : Int)) = id := by
    funext b
    simp
  rw [this, List.map_id]
theorem getText_put (P R : List Int) (s : ByteArray) (hs : s.size ≤ 3000) : getText (P ++ (putNum (s.size : Int) ++ (bytesOf s ++ R))) (P.length : Int) = (s, (P.length : Int) + (putText s).length, true) := by
  have hg := getNum_putNum P (bytesOf s ++ R) (s.size : Int) (by omega) (by omega)
  have hp : (putText s).length = (putNum (s.size : Int)).length + s.size := by
    unfold putText; rw [if_neg (by omega), List.length_append, bytesOf_length]
  unfold getText
  rw [hg]
  simp only
  have hb := bytesOf_length s
  rw [if_pos (by refine ⟨trivial, by omega, ?_⟩; simp only [List.length_append, bytesOf_length]; omega)]
  have e1 : ((P.length : Int) + (putNum (s.size : Int)).length).toNat = (P ++ putNum (s.size : Int)).length := by rw [List.length_append]; omega
  have e2 : ((P.length : Int) + (putNum (s.size : Int)).length + (s.size : Int)).toNat = (P ++ putNum (s.size : Int)).length + (bytesOf s).length := by rw [List.length_append, hb]; omega
  have key : ∀ (C B R : List Int), ((C ++ (B ++ R)).take (C.length + B.length)).drop C.length = B := fun C B R => by
    rw [← List.append_assoc, List.take_left' (by simp), List.drop_left' rfl]
  rw [e1, e2, show P ++ (putNum (s.size : Int) ++ (bytesOf s ++ R)) = (P ++ putNum (s.size : Int)) ++ (bytesOf s ++ R) by simp, key, strOf_bytesOf, hp]
  simp only [Prod.mk.injEq, true_and, and_true]
  omega

theorem shl7 (k0 : Nat) (hk : k0 ≤ 8) (x c : Int) (hx0 : 0 ≤ x) (hx : x < p7 k0) (hc0 : 0 ≤ c) (hc : c < 128) : Go.bits .or .i64 x (shl .i64 c (wrap64 (7 * (k0 : Int)))) = x + c * p7 k0 := by
  have e0 : wrap64 (7 * (k0 : Int)) = ((7 * k0 : Nat) : Int) := by rw [w64 (by omega) (by omega)]; omega
  have e1 : (2 : Int) ^ (7 * k0) = p7 k0 := by rw [Int.pow_mul]; unfold p7; rfl
  have h7 : min (7 * k0) 64 = 7 * k0 := by omega
  have h63 : 7 * k0 ≤ 63 := by omega
  obtain ⟨h1, h2, h3, h4, h5⟩ := p128 k0 hk x c hx0 hx hc0 hc
  have e2 : shl .i64 c (wrap64 (7 * (k0 : Int))) = c * p7 k0 := by
    rw [e0]
    unfold shl
    rw [show IntKind.i64.bits = 64 from rfl, Int.toNat_natCast, h7, e1]
    exact wraps_i64 _ h1 (Int.lt_of_le_of_lt h2 (by decide))
  have e3 : Go.bits .or .i64 x (c * p7 k0) = Go.bits .or .i64 (c * p7 k0) x := by unfold Go.bits; simp only [BitVec.or_comm]
  have e4 : c * p7 k0 % 2 ^ (7 * k0) = 0 := by rw [e1]; exact Int.mul_emod_left _ _
  rw [e2, e3, or_join (7 * k0) h1 e4 h2 hx0 (by rw [e1]; exact hx) (Int.le_trans (Int.le_of_lt hx) (Int.le_trans (p7_b k0 hk).2 (by decide))), Int.add_comm]
theorem giStep {k0 : Nat} {c x : Int} (k8 : k0 ≤ 8) (hc : 0 ≤ c ∧ c ≤ 255) (hx0 : 0 ≤ x) (hx : x < p7 k0) : wrap64 c = c ∧ Go.bits .or .i64 x (shl .i64 (Go.bits .and .i64 c 127) (wrap64 (7 * (k0 : Int)))) = x + c % 128 * p7 k0 ∧ 0 ≤ x + c % 128 * p7 k0 ∧ x + c % 128 * p7 k0 < p7 (k0 + 1) := by
  have hp := p128 k0 k8 x (c % 128) hx0 hx (by omega) (by omega)
  refine ⟨w64 (by omega) (by omega), ?_, hp.2.2.1, hp.2.2.2.2⟩
  rw [show Go.bits .and .i64 c 127 = c % 128 from and_mask 7 (by decide) hc.1 (by omega)]
  exact shl7 k0 k8 x _ hx0 hx (by omega) (by omega)
theorem implGetNum_l (d : Nat) : ∀ (l : List Int) (at_ : Int) (k0 : Nat) (x : Int), By l → l.length ≤ 140737488355328 → 0 ≤ at_ → at_ ≤ 9223372036854775807 → k0 + d = 9 → 0 ≤ x → x < p7 k0 → Ev (fun k => impl_GetNum.l0 k l at_ x (k0 : Int)) (gn d l at_ k0 x) := by
  induction d with
  | zero =>
    intro l at_ k0 x hb hl h0 h1 hk hx0 hx
    refine Ev.step (f := fun k => impl_GetNum.j1 k l at_ x (k0 : Int) false) (fun k => ?_) ?_
    · simp only [impl_GetNum.l0]; rw [if_neg (by omega)]
    · refine Ev.step (f := fun _ => some (0, 0, false)) (fun k => ?_) (Ev.now _)
      simp only [impl_GetNum.j1]; rfl
  | succ d ih =>
    intro l at_ k0 x hb hl h0 h1 hk hx0 hx
    have k8 : k0 ≤ 8 := by omega
    have z0 : 0 ≤ at_ + (k0 : Int) := by omega
    have k9 : (k0 : Int) < 9 := by omega
    have e0 : wrap64 ((l.length : Int) - at_) = l.length - at_ := w64 (by omega) (by omega)
    have e6 : wrap64 ((k0 : Int) + 1) = ((k0 + 1 : Nat) : Int) := w64 (by omega) (by omega)
    have e7 : 0 ≤ wrap64 (7 * (k0 : Int)) := by rw [w64 (by omega) (by omega)]; omega
    have hk' : k0 + 1 + d = 9 := by omega
    have e14 : at_ + k0 < l.length → wrap64 (at_ + (k0 : Int)) = at_ + k0 ∧ wrap64 (at_ + (k0 : Int) + 1) = at_ + k0 + 1 ∧ (k0 : Int) < l.length - at_ := fun h => ⟨w64 (by omega) (by omega), w64 (by omega) (by omega), by omega⟩
    have e15 : ¬ at_ + k0 < l.length → ¬ (k0 : Int) < l.length - at_ := fun h => by omega
    obtain ⟨e2, e3, x0, x1⟩ := giStep k8 (hb.at_ (at_ + k0)) hx0 hx
    by_cases h : at_ + k0 < l.length
    · obtain ⟨e1, e4, h'⟩ := e14 h
      clear e14 e15
      refine Ev.step (f := fun k => impl_GetNum.j1 k l at_ x (k0 : Int) true) (fun k => ?_) ?_
      · simp only [impl_GetNum.l0, k9, e0, h', decide_true, ↓reduceIte]
      simp only [gn, h, ↓reduceIte]
      by_cases c1 : rd l (at_ + k0) < 128
      · have c1' : ¬ rd l (at_ + k0) > 127 := fun hh => absurd (Int.add_one_le_of_lt hh) (Int.not_le.2 c1)
        by_cases c2 : rd l (at_ + k0) = 0
        · by_cases c3 : 0 < k0
          · refine Ev.step (f := fun _ => some (0, 0, false)) (fun k => ?_) ?_
            · have c3' : (k0 : Int) > 0 := by omega
              simp only [impl_GetNum.j1, e1, z0, h, e7, ↓reduceIte]
              rw [e2, if_neg c1', if_pos c3', if_pos c2]
            · rw [if_pos c1, if_pos ⟨c2, c3⟩]; exact Ev.now _
          · refine Ev.step (f := fun _ => some (x + rd l (at_ + k0) % 128 * p7 k0, at_ + k0 + 1, true)) (fun k => ?_) ?_
            · have c3' : ¬ (k0 : Int) > 0 := by omega
              simp only [impl_GetNum.j1, e1, z0, h, e7, ↓reduceIte]
              rw [e2, if_neg c1', if_neg c3', e3, e4]
            · rw [if_pos c1, if_neg (fun hh => c3 hh.2)]; exact Ev.now _
        · refine Ev.step (f := fun _ => some (x + rd l (at_ + k0) % 128 * p7 k0, at_ + k0 + 1, true)) (fun k => ?_) ?_
          · simp only [impl_GetNum.j1, e1, z0, h, e7, ↓reduceIte]
            rw [e2, if_neg c1']
            by_cases c3 : (k0 : Int) > 0
            · rw [if_pos c3, if_neg c2, e3, e4]
            · rw [if_neg c3, e3, e4]
          · rw [if_pos c1, if_neg (fun hh => c2 hh.1)]; exact Ev.now _
      · have c1' : rd l (at_ + k0) > 127 := Int.lt_of_lt_of_le (by decide) (Int.not_lt.1 c1)
        refine Ev.step (f := fun k => impl_GetNum.l0 k l at_ (x + rd l (at_ + k0) % 128 * p7 k0) ((k0 + 1 : Nat) : Int)) (fun k => ?_) ?_
        · simp only [impl_GetNum.j1, e1, z0, h, e7, ↓reduceIte]
          rw [e2, if_pos c1', e3, e6]
        · rw [if_neg c1]; exact ih l at_ (k0 + 1) _ hb hl h0 h1 hk' x0 x1
    · have h' := e15 h
      clear e14 e15
      refine Ev.step (f := fun k => impl_GetNum.j1 k l at_ x (k0 : Int) false) (fun k => ?_) ?_
      · simp only [impl_GetNum.l0, k9, e0, h', decide_false, ↓reduceIte]
      · simp only [gn, h, ↓reduceIte]
        refine Ev.step (f := fun _ => some (0, 0, false)) (fun k => ?_) (Ev.now _)
        simp only [impl_GetNum.j1]; rfl
theorem implGetNum_ev (l : List Int) (at_ : Int) (hb : By l) (hl : l.length ≤ 140737488355328) (ha : at_ ≤ 9223372036854775807) : Ev (fun k => impl_GetNum.f k l at_) (getNum l at_) := by
  unfold impl_GetNum.f getNum
  by_cases h : at_ < 0
  · simp only [h, ↓reduceIte]; exact Ev.now _
  · simp only [h, ↓reduceIte]
    exact implGetNum_l 9 l at_ 0 0 hb hl (by omega) ha (by omega) (by omega) (by decide)

theorem rdNum_ev (l : List Int) (a : Int) (bad : Bool) (hb : By l) (hl : l.length ≤ 140737488355328) (ha : a ≤ 9223372036854775807) :
    Ev (fun k => rdNum k l a bad) (if bad = true then (0, a, true) else if (getNum l a).2.2 = true then ((getNum l a).1, (getNum l a).2.1, false) else (0, a, true)) := by
  unfold rdNum
  refine Ev.bind (implGetNum_ev l a hb hl ha) ?_
  exact Ev.now _
theorem rdNum_bad (l : List Int) (a : Int) (hb : By l) (hl : l.length ≤ 140737488355328) (ha : a ≤ 9223372036854775807) : Ev (fun k => rdNum k l a true) (0, a, true) := by
  have h := rdNum_ev l a true hb hl ha
  simpa using h
theorem rdNum_ok (l : List Int) (a : Int) (hb : By l) (hl : l.length ≤ 140737488355328) (ha : a ≤ 9223372036854775807) (h : (getNum l a).2.2 = true) : Ev (fun k => rdNum k l a false) ((getNum l a).1, (getNum l a).2.1, false) := by
  have h2 := rdNum_ev l a false hb hl ha
  simpa [h] using h2
theorem rdNum_no (l : List Int) (a : Int) (hb : By l) (hl : l.length ≤ 140737488355328) (ha : a ≤ 9223372036854775807) (h : (getNum l a).2.2 = false) : Ev (fun k => rdNum k l a false) (0, a, true) := by
  have h2 := rdNum_ev l a false hb hl ha
  simpa [h] using h2
theorem rdBytes_bad (l : List Int) (a n : Int) : rdBytes l a true n = some (ByteArray.empty, a, true) := rfl
theorem rdBytes_no (l : List Int) (a n : Int) (h0 : 0 ≤ a) (h1 : a ≤ l.length) (hl : l.length ≤ 140737488355328) (h : n > (l.length : Int) - a) : rdBytes l a false n = some (ByteArray.empty, a, true) := by
  unfold rdBytes
  rw [if_neg (by simp), if_pos (by rw [w64 (by omega) (by omega)]; exact h)]
theorem rdBytes_ok (l : List Int) (a n : Int) (h0 : 0 ≤ a) (h1 : a ≤ l.length) (hl : l.length ≤ 140737488355328) (hn : 0 ≤ n) (h : ¬ n > (l.length : Int) - a) : rdBytes l a false n = some (strOfNums ((l.take (a + n).toNat).drop a.toNat), a + n, false) := by
  unfold rdBytes
  rw [if_neg (by simp), if_neg (by rw [w64 (by omega) (by omega)]; exact h), if_pos ⟨h0, hn, by omega⟩]

theorem implGetText_ev (l : List Int) (a : Int) (hb : By l) (hl : l.length ≤ 140737488355328) (ha : a ≤ 9223372036854775807) : Ev (fun k => impl_GetText.f k l a) (getText l a) := by
  have hg := getNum_b l a hb
  unfold impl_GetText.f rdText getText
  cases hok : (getNum l a).2.2
  · refine Ev.bind (a := (ByteArray.empty, a, true)) (Ev.bind (rdNum_no l a hb hl ha hok) ?_) ?_
    · simp only [show ¬ ((0 : Int) > 3000) by decide, ↓reduceIte, rdBytes_bad]; exact Ev.now _
    · simp only [Bool.false_eq_true, ↓reduceIte, false_and]; exact Ev.now _
  · have hN := rdNum_ok l a hb hl ha hok
    generalize getNum l a = G at *
    obtain ⟨n, p, ok⟩ := G
    simp only at hg hok hN ⊢
    by_cases c1 : n > 3000
    · refine Ev.bind (a := (ByteArray.empty, p, true)) (Ev.bind hN ?_) ?_
      · simp only [c1, ↓reduceIte, rdBytes_bad]; exact Ev.now _
      · rw [if_neg (show ¬ (True ∧ n ≤ 3000 ∧ n ≤ (l.length : Int) - p) by omega)]
        simp only [↓reduceIte]; exact Ev.now _
    · by_cases c2 : n > (l.length : Int) - p
      · refine Ev.bind (a := (ByteArray.empty, p, true)) (Ev.bind hN ?_) ?_
        · simp only [c1, ↓reduceIte, rdBytes_no l p n hg.2.2.1 hg.2.2.2 hl c2]; exact Ev.now _
        · rw [if_neg (show ¬ (True ∧ n ≤ 3000 ∧ n ≤ (l.length : Int) - p) by omega)]
          simp only [↓reduceIte]; exact Ev.now _
      · refine Ev.bind (a := (strOfNums ((l.take (p + n).toNat).drop p.toNat), p + n, false)) (Ev.bind hN ?_) ?_
        · simp only [c1, ↓reduceIte, rdBytes_ok l p n hg.2.2.1 hg.2.2.2 hl hg.1 c2]; exact Ev.now _
        · rw [if_pos (show (True ∧ n ≤ 3000 ∧ n ≤ (l.length : Int) - p) by exact ⟨trivial, by omega, by omega⟩)]
          simp only [Bool.false_eq_true, ↓reduceIte]; exact Ev.now _

theorem or_and_128 {x : Int} (h0 : 0 ≤ x) (h9 : x ≤ 9223372036854775807) : Go.bits .or .i64 (Go.bits .and .i64 x 127) 128 = x % 128 + 128 := by
  have e1 : Go.bits .and .i64 x 127 = x % 128 := and_mask 7 (by decide) h0 h9
  have e2 : Go.bits .or .i64 (x % 128) 128 = Go.bits .or .i64 128 (x % 128) := by unfold Go.bits; simp only [BitVec.or_comm]
  rw [e1, e2, or_join 7 (by decide) (by decide) (by decide) (by omega) (by omega) (by omega)]
  omega
theorem implPutNum_l (m : Nat) : ∀ (x : Int) (acc : List Int), 0 ≤ x → x ≤ 9223372036854775807 → x < 128 ^ (m + 1) → acc.length + m ≤ 140737488355327 → Ev (fun k => impl_PutNum.l0 k x acc) (acc ++ putNum x) := by
  induction m with
  | zero =>
    intro x acc h0 h9 h1 hl
    have h : ¬ x > 127 := by simp at h1; omega
    refine Ev.step (f := fun _ => some (acc ++ [x])) (fun k => ?_) ?_
    · simp only [impl_PutNum.l0]
      rw [if_neg h, if_pos (by omega)]
      have : x % 256 = x := by omega
      rw [this]
    · rw [putNum_small h]; exact Ev.now _
  | succ m ih =>
    intro x acc h0 h9 h1 hl
    by_cases h : x > 127
    · refine Ev.step (f := fun k => impl_PutNum.l0 k (x / 128) (acc ++ [x % 128 + 128])) (fun k => ?_) ?_
      · simp only [impl_PutNum.l0]
        rw [if_pos h, if_pos (by omega), or_and_128 h0 h9]
        have : (x % 128 + 128) % 256 = x % 128 + 128 := by omega
        rw [this]
      · have := ih (x / 128) (acc ++ [x % 128 + 128]) (by omega) (by omega) (by rw [Int.pow_succ] at h1; omega) (by simp; omega)
        rw [putNum_big h]; simpa using this
    · refine Ev.step (f := fun _ => some (acc ++ [x])) (fun k => ?_) ?_
      · simp only [impl_PutNum.l0]
        rw [if_neg h, if_pos (by omega)]
        have : x % 256 = x := by omega
        rw [this]
      · rw [putNum_small h]; exact Ev.now _
theorem implPutNum_ev {x : Int} (h0 : 0 ≤ x) (h1 : x ≤ 9223372036854775807) : Ev (fun k => impl_PutNum.f k x) (putNum x) := by
  have h := implPutNum_l 8 x [] h0 h1 (by omega) (by simp)
  refine Ev.congr (fun k => ?_) h
  unfold impl_PutNum.f
  rw [if_neg (by omega)]
theorem implPutNum_neg {x : Int} (h0 : x < 0) : Ev (fun k => impl_PutNum.f k x) [] := by
  refine Ev.congr (fun k => ?_) (Ev.now _)
  unfold impl_PutNum.f
  rw [if_pos h0]

theorem implPutText_ev (s : ByteArray) : Ev (fun k => impl_PutText.f k s) (putText s) := by
  unfold impl_PutText.f putText
  by_cases h : s.size > 3000
  · have h' : (s.size : Int) > 3000 := by omega
    simp only [h, h', ↓reduceIte]; exact Ev.now _
  · have h' : ¬ (s.size : Int) > 3000 := by omega
    have hp := (putNum_b9 (x := s.size) (by omega) (by omega)).2.1
    simp only [h, h', ↓reduceIte]
    refine Ev.bind (implPutNum_ev (x := s.size) (by omega) (by omega)) ?_
    simp only [show (putNum (s.size : Int)).length + s.size < 140737488355328 by omega, ↓reduceIte]
    exact Ev.now _

theorem at_ok (l : List Int) (a : Int) (hb : By l) (hl : l.length ≤ 1048576) (h0 : 0 ≤ a) (h1 : a ≤ 10) : ∃ x, laws_at.f l a = some x ∧ 0 ≤ x ∧ x ≤ 255 := by
  unfold laws_at.f
  by_cases c : a < (l.length : Int)
  · have := hb.at_ a
    rw [if_pos c, if_pos h0, w64 (by omega) (by omega)]
    exact ⟨_, rfl, this⟩
  · rw [if_neg c, w64 (x := a * 7) (by omega) (by omega), w64 (by omega) (by omega), Int.tmod_eq_emod_of_nonneg (by omega)]
    exact ⟨_, rfl, by omega, by omega⟩

theorem FnNums : laws_FnNums.Pure := by
  intro l hm hl hw
  have hb := by_wf hw
  apply Ev.rounds
  unfold laws_FnNums.f laws_big.f
  simp only [Option.bind_some]
  by_cases h : (l.length : Int) > 1048576
  · simp only [h, decide_true, ↓reduceIte]; exact Ev.now _
  · simp only [h, decide_false, Bool.false_eq_true, ↓reduceIte]
    obtain ⟨x, ex, hx0, hx1⟩ := drawPutNum_ev l (by omega)
    refine Ev.bind ex ?_
    by_cases hn : x < 0
    · refine Ev.bind (implPutNum_neg hn) ?_
      simp only [hn, ↓reduceIte]
      exact Ev.now true
    · obtain ⟨hpb, hp9, hp1⟩ := putNum_b9 (x := x) (by omega) hx1
      obtain ⟨t1, a1, ht1⟩ := at_ok l 1 hb (by omega) (by omega) (by omega)
      obtain ⟨t2, a2, ht2⟩ := at_ok l 2 hb (by omega) (by omega) (by omega)
      refine Ev.bind (implPutNum_ev (x := x) (by omega) hx1) ?_
      have c1 : ([9] : List Int).length + (putNum x).length < 140737488355328 := by simp only [List.length_cons, List.length_nil]; omega
      have c2 : ([9] ++ putNum x : List Int).length < 140737488355328 := by rw [List.length_append]; exact c1
      simp only [hn, ↓reduceIte, Option.bind_some, c1, c2, a1]
      have hg : getNum ([9] ++ putNum x ++ [t1 % 256]) 1 = (x, 1 + ((putNum x).length : Int), true) := by
        have := getNum_putNum [9] [t1 % 256] x (by omega) hx1
        rw [List.append_assoc]
        simpa using this
      refine Ev.bind (implGetNum_ev ([9] ++ putNum x ++ [t1 % 256]) 1 ?_ (by simp only [List.length_append, List.length_cons, List.length_nil]; omega) (by omega)) ?_
      · intro y hy
        simp only [List.mem_append, List.mem_singleton] at hy
        rcases hy with (rfl | hy) | rfl
        · omega
        · exact hpb y hy
        · omega
      rw [hg]
      have hw : wrap64 (1 + ((putNum x).length : Int)) = 1 + ((putNum x).length : Int) := w64 (by omega) (by omega)
      simp only [↓reduceIte, hw, bne_self_eq_false]
      refine Ev.step (fun k => by simp only [laws_FnNums.j0, Bool.false_eq_true, ↓reduceIte]; rfl) ?_
      obtain ⟨s, es, hs⟩ := drawPutText_ev l (by omega)
      refine Ev.bind es ?_
      refine Ev.bind (implPutText_ev s) ?_
      by_cases h2 : (s.size : Int) > 3000
      · have e : putText s = [] := by unfold putText; rw [if_pos (by omega)]
        rw [e]
        simp only [h2, ↓reduceIte]
        exact Ev.now true
      · have e : putText s = putNum (s.size : Int) ++ bytesOf s := by unfold putText; rw [if_neg (by omega)]
        have hl3 := putText_len s
        have c3 : (putText s).length < 140737488355328 := by omega
        simp only [h2, ↓reduceIte, a2, Option.bind_some, c3]
        have hg2 : getText (putText s ++ [t2 % 256]) 0 = (s, ((putText s).length : Int), true) := by
          have := getText_put [] [t2 % 256] s (by omega)
          rw [e] at this ⊢
          rw [List.append_assoc]
          simpa using this
        refine Ev.bind (implGetText_ev (putText s ++ [t2 % 256]) 0 ?_ (by simp only [List.length_append, List.length_cons, List.length_nil]; omega) (by omega)) ?_
        · intro y hy
          rw [e] at hy
          simp only [List.mem_append, List.mem_singleton] at hy
          rcases hy with (hy | hy) | rfl
          · exact (putNum_b9 (x := s.size) (by omega) (by omega)).1 y hy
          · exact bytesOf_by s y hy
          · omega
        rw [hg2]
        simp only [↓reduceIte]
        refine Ev.bind (implPutText_ev s) ?_
        exact Ev.congr (fun k => by simp) (Ev.now true)

end Go.Proofs.Ytpdhfphglahkbaa.Pure
