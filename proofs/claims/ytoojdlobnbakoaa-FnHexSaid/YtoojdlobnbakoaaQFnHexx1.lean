-- A walk, by a program of this session.
import Derived.Test.YtoojdlobnbakoaaQFnHexx0
namespace Go.Proofs.Ytoojdlobnbakoaa.QFnHex
open Go.RowKit Go.Proofs.YtoojdlobnbakoaaW.PrintWords Go.Proofs.YtoojdlobnbakoaaW.PrintLast Go.Proofs.YtoojdlobnbakoaaW.PrintMore
attribute [local go_sem] max2_int min2_int max_two min_two max_three min_three max_four min_four   -- for this text's walks alone
set_option linter.unusedVariables false
set_option linter.unusedSimpArgs false

theorem u1_0 {p : Prop} (h : p := by rw [w64I (by omega) (by omega)]; omega) : p := h
theorem u1_1 {p : Prop} (h : p := by exact (fun k_ hk => trivial)) : p := h
theorem u1_2 {p : Prop} (h : p := by repeat (first | exact Drawn0.refl _ | apply Drawn0.step)) : p := h
/-! ### laws_big: function 12 -/
def laws_big.f (l0 : List Int) : Option (Bool) := some (decide ((l0.length : Int) > 1048576))
set_option maxHeartbeats 8000000 in
set_option maxRecDepth 100000 in
theorem laws_big.calls (A0 : Option Addr) (c0 : Nat) (l0 : List Int) (r : Bool) (w : World) (aJ : Kd.C (Kd.int .u8) w A0 l0.length l0) (aK : l0.length ≤ c0) (h : laws_big.f l0 = some r) :
 Calls Try.prog 12 #[.slice A0 l0.length c0] w fun e w' => e = .returned (.bool r) ∧ Drawn0 w w' := by
 have bH := aM aJ
 have bO := aM aK
 clear aJ aK
 have H : (some (decide ((l0.length : Int) > 1048576))) = some r := h
 clear h
 obtain rfl := Option.some.inj H
 go_enter Try.func12, Try.ntmps12
 go_wp2
 go_ret
 exact ⟨by first | rfl | (simp; done) | (simp [*]; done), u1_2⟩

-- NOT PRINTED: function 88 (impl_firstWords)

-- NOT PRINTED: function 148 (impl_constants)

/-! ### impl_turnRight: function 150 -/
def impl_turnRight.f (a0 : Int) (a1 : Int) : Option (Int) := if 0 ≤ a1 then (if 0 ≤ (wrap64 (32 - a1)) then (some (Go.bits .and .i64 (Go.bits .or .i64 (shr .i64 a0 a1) (shl .i64 a0 (wrap64 (32 - a1)))) 4294967295)) else (none)) else (none)
set_option maxHeartbeats 8000000 in
set_option maxRecDepth 100000 in
theorem impl_turnRight.calls (a0 : Int) (a1 : Int) (r : Int) (w : World) (h : impl_turnRight.f a0 a1 = some r) :
 Calls Try.prog 150 #[.int .i64 a0, .int .i64 a1] w fun e w' => e = .returned (.int .i64 r) ∧ Drawn0 w w' := by
 have H : (if 0 ≤ a1 then (if 0 ≤ (wrap64 (32 - a1)) then (some (Go.bits .and .i64 (Go.bits .or .i64 (shr .i64 a0 a1) (shl .i64 a0 (wrap64 (32 - a1)))) 4294967295)) else (none)) else (none)) = some r := h
 clear h
 by_cases c3 : 0 ≤ a1
 ·rw [if_pos c3] at H; have bP := eq_true c3; have bQ : decide (0 ≤ a1) = true := decide_eq_true c3; clear c3; obtain ⟨ji4, hji4⟩ : ∃ j_ : Int, (shr .i64 a0 a1) = j_ := ⟨_, rfl⟩; replace H : (if 0 ≤ (wrap64 (32 - a1)) then (some (Go.bits .and .i64 (Go.bits .or .i64 (ji4) (shl .i64 a0 (wrap64 (32 - a1)))) 4294967295)) else (none)) = some r := by first | (rw [hji4] at H; exact H) | (simp only [hji4] at H ⊢; exact H)
  have hji4_ : (a0 / 2 ^ min a1.toNat 64) = ji4 := hji4; have hji4z : a1 ≤ 64 → (a0 / 2 ^ a1.toNat) = ji4 := shr_small hji4; obtain ⟨ji5, hji5⟩ : ∃ j_ : Int, (wrap64 (32 - a1)) = j_ := ⟨_, rfl⟩; replace H : (if 0 ≤ (ji5) then (some (Go.bits .and .i64 (Go.bits .or .i64 (ji4) (shl .i64 a0 (ji5))) 4294967295)) else (none)) = some r := by first | (rw [hji5] at H; exact H) | (simp only [hji5] at H ⊢; exact H)
  have hji5w : (IntKind.i64.wrap (32 - a1)) = ji5 := (i64_w _).trans hji5; by_cases c6 : 0 ≤ (ji5)
  ·rw [if_pos c6] at H; have bR := eq_true c6; have bU : decide (0 ≤ (ji5)) = true := decide_eq_true c6; clear c6; obtain ⟨ji7, hji7⟩ : ∃ j_ : Int, (shl .i64 a0 (ji5)) = j_ := ⟨_, rfl⟩; replace H : (some (Go.bits .and .i64 (Go.bits .or .i64 (ji4) (ji7)) 4294967295)) = some r := by first | (rw [hji7] at H; exact H) | (simp only [hji7] at H ⊢; exact H)
   have hji7_ : (IntKind.i64.wrap (a0 * 2 ^ min (ji5).toNat 64)) = ji7 := hji7; have hji7z : (ji5) ≤ 64 → (IntKind.i64.wrap (a0 * 2 ^ (ji5).toNat)) = ji7 := shl_small hji7; have hji7y : (wrap64 (a0 * 2 ^ min (ji5).toNat 64)) = ji7 := (i64_w _).symm.trans hji7_; have hji7x : (ji5) ≤ 64 → (wrap64 (a0 * 2 ^ (ji5).toNat)) = ji7 := fun h_ => (i64_w _).symm.trans (hji7z h_)
   obtain rfl := Option.some.inj H; go_enter Try.func150, Try.ntmps150
   go_wp2
   repeat (go_quiet (fail); try go_wp2)
   go_ret
   exact ⟨by first | rfl | (simp; done) | (simp only [← hji4, ← hji5, ← hji7] <;> (first | rfl | simp)) | (simp [*]; done), u1_2⟩
  ·rw [if_neg c6] at H; exact absurd H (by simp)
 ·rw [if_neg c3] at H; exact absurd H (by simp)

-- NOT PRINTED: function 149 (impl_expanded)

-- NOT PRINTED: function 89 (impl_round)

/-! ### impl_Sha: function 32 -/
theorem w64I {x : Int} (h : -9223372036854775808 ≤ x) (h2 : x < 9223372036854775808) : wrap64 x = x := by unfold wrap64; omega
def ints (l : List Int) : Array Value := (l.map fun x => Value.int .i64 x).toArray
theorem ints_size (l : List Int) : (ints l).size = l.length := by simp [ints]
theorem ints_one (l : List Int) : (ints l).all (·.oneCell') = true := by
  rw [Array.all_eq_true_iff_forall_mem]; intro v hv; simp only [ints, List.mem_toArray, List.mem_map] at hv; obtain ⟨x, _, rfl⟩ := hv; rfl
theorem ints_at (l : List Int) (i : Int) (h0 : 0 ≤ i) (h1 : i < l.length) : (ints l)[i.toNat]? = some (.int .i64 (rd l i)) := by
  have : i.toNat < l.length := by omega
  simp only [ints, List.getElem?_toArray, List.getElem?_map, rd, List.getD_eq_getElem?_getD, List.getElem?_eq_getElem this]; rfl
theorem ints_set (l : List Int) (j : Nat) (v : Int) : (ints l).setIfInBounds j (.int .i64 v) = ints (l.set j v) := by
  simp [ints, List.map_set]
def trnI (x n : Int) : Int := Go.bits .and .i64 (Go.bits .or .i64 (shr .i64 x n) (shl .i64 x (32 - n))) 4294967295
theorem turnRight_calls (x n : Int) (w : World) (h0 : 0 ≤ n) (h1 : n ≤ 32) :
    Calls Try.prog 150 #[.int .i64 x, .int .i64 n] w fun e w' => e = .returned (.int .i64 (trnI x n)) ∧ Drawn0 w w' := by
  obtain ⟨j4, hj4⟩ : ∃ j_ : Int, (shr .i64 x n) = j_ := ⟨_, rfl⟩; obtain ⟨j5, hj5⟩ : ∃ j_ : Int, wrap64 (32 - n) = j_ := ⟨_, rfl⟩; have he : 32 - n = j5 := by rw [← hj5]; exact (w64I (by omega) (by omega)).symm
  obtain ⟨j7, hj7⟩ : ∃ j_ : Int, (shl .i64 x j5) = j_ := ⟨_, rfl⟩; have a0 := eq_true h0; have a1 : decide (0 ≤ n) = true := decide_eq_true h0; have b0 : 0 ≤ j5 := by omega
  have b1 := eq_true b0; have b2 : decide (0 ≤ j5) = true := decide_eq_true b0; have c1 : (x / 2 ^ min n.toNat 64) = j4 := hj4; have c2 : (IntKind.i64.wrap (32 - n)) = j5 := (i64_w _).trans hj5; have c3 : (IntKind.i64.wrap (x * 2 ^ min j5.toNat 64)) = j7 := hj7; have c4 : (wrap64 (x * 2 ^ min j5.toNat 64)) = j7 := (i64_w _).symm.trans c3; have hr : trnI x n = Go.bits .and .i64 (Go.bits .or .i64 j4 j7) 4294967295 := by unfold trnI; rw [he, ← hj4, ← hj7]
  rw [hr]; clear hr hj4 h0 hj7 h1 b0 he; go_enter Try.func150, Try.ntmps150
  go_wp2; go_quiet (fail)
  go_wp2; go_ret
  exact ⟨rfl, u1_2⟩
def keyI : List Int := [1116352408, 1899447441, 3049323471, 3921009573, 961987163, 1508970993, 2453635748, 2870763221, 3624381080, 310598401, 607225278, 1426881987, 1925078388, 2162078206, 2614888103, 3248222580, 3835390401, 4022224774, 264347078, 604807628, 770255983, 1249150122, 1555081692, 1996064986, 2554220882, 2821834349, 2952996808, 3210313671, 3336571891, 3584528711, 113926993, 338241895, 666307205, 773529912, 1294757372, 1396182291, 1695183700, 1986661051, 2177026350, 2456956037, 2730485921, 2820302411, 3259730800, 3345764771, 3516065817, 3600352804, 4094571909, 275423344, 430227734, 506948616, 659060556, 883997877, 958139571, 1322822218, 1537002063, 1747873779, 1955562222, 2024104815, 2227730452, 2361852424, 2428436474, 2756734187, 3204031479, 3329325298]
def firstI : List Int := [1779033703, 3144134277, 1013904242, 2773480762, 1359893119, 2600822924, 528734635, 1541459225]
theorem size100 : (Try.prog.info? 100).map (·.size) = some 8 := by kernel_rfl
theorem size149 : (Try.prog.info? 149).map (·.size) = some 64 := by kernel_rfl
theorem zero100 : ∃ z : List Int, (∀ w, (zeroValue 100).run Try.prog w = .ok (.agg (ints z)) w) ∧ Aside0 (z.length = 8) := ⟨List.replicate 8 0, (zero_of_info (n := 8) (by kernel_rfl)).1, ⟨rfl⟩⟩
theorem zero149 : ∃ z : List Int, (∀ w, (zeroValue 149).run Try.prog w = .ok (.agg (ints z)) w) ∧ Aside0 (z = List.replicate 64 0) := ⟨List.replicate 64 0, (zero_of_info (n := 64) (by kernel_rfl)).1, ⟨rfl⟩⟩
theorem wpl_build {P : Program} {ops : Array Oper} {rest : List Oper} {o : Oper} {a : Act} {w : World} {Q : Exit → Act → World → Prop} (t : TypeId) (parts : Array (Nat × Operand)) (cells : Array Value) (hg : o.guard = none) (ho : o.op = .build t parts)
    (hc : P.built t (parts.map fun (i, x) => (i, a.eval x)).toList = some cells) (h : wpList P ops Q rest (a.put o.dst (.agg cells)) w) : wpList P ops Q (o :: rest) a w :=
  wpList_build hg t parts ho (by rw [hc]; rfl) (by rw [hc]; exact h)
theorem wpl_store {P : Program} {ops : Array Oper} {rest : List Oper} {o : Oper} {a : Act} {w : World} {Q : Exit → Act → World → Prop} (B : Nat) (l' l : List Int) (ty : TypeId) (x y : Operand) (hgd : o.guard = none) (ho : o.op = .store ty x y)
    (hx : a.eval x = .pointer (some ⟨B, 0, none⟩)) (hy : a.eval y = .agg (ints l'))
    (hg : w.heap[B]? = some (.cells (ints l) ty (0, 0))) (hi : (P.info? ty).map (·.size) = some l'.length)
    (hl : l.length = l'.length) (h : wpList P ops Q rest (a.put o.dst undef) (w.setRow B (ints l'))) : wpList P ops Q (o :: rest) a w :=
  wpList_store_row hgd ty x y ho B (ints l') hx hy ty (ints l) hg (by rw [hi, ints_size]) (by rw [ints_size, ints_size, hl]) (ints_one l') h
theorem wpl_load {P : Program} {ops : Array Oper} {rest : List Oper} {o : Oper} {a : Act} {w : World} {Q : Exit → Act → World → Prop} (B : Nat) (l : List Int) (ty e n : Nat) (x : Operand) (hgd : o.guard = none) (ho : o.op = .load ty x) (hx : a.eval x = .pointer (some ⟨B, 0, none⟩))
    (hg : w.heap[B]? = some (.cells (ints l) ty (0, 0))) (hu : P.underlying ty = some (.array n e)) (hi : (P.info? ty).map (·.size) = some l.length)
    (h : wpList P ops Q rest (a.put o.dst (.agg (ints l))) w) : wpList P ops Q (o :: rest) a w :=
  wpList_load_row hgd ty x ho B hx ty (ints l) (0, 0) _ hg hu rfl (by rw [hi, ints_size]) h
theorem arr_new (w : World) (o : Obj) : (w.alloc o).heap[w.heap.size]? = some o := heap_alloc_new w o
theorem below_setRow {base : Nat} {w w' : World} {B : Nat} (hb : Below base w w') (h : base ≤ B) (cs : Array Value) : Below base w (w'.setRow B cs) :=
  ⟨hb.os, hb.tape, hb.output, by rw [setRow_size]; exact hb.size, fun k hk => (setRow_other _ _ _ _ (by omega)).trans (hb.block k hk)⟩
set_option maxRecDepth 100000 in
theorem firstWords_calls (w : World) :
    Calls Try.prog 88 #[] w fun e w' => e = .returned (.agg (ints firstI)) ∧ Below w.heap.size w w' := by
  obtain ⟨z8, z, hz8⟩ := zero100; have s8 := Aside0.mk size100; go_enter Try.func88, Try.ntmps88
  go_wp2_with (first | ((with_reducible refine gD 1 rfl ?_); refine wpl_build _ _ (ints firstI) rfl rfl (by kernel_rfl) ?_) | ((with_reducible refine gate_store (p := 0) rfl ?_); refine wpl_store w.heap.size firstI z8 100 _ _ rfl rfl rfl rfl (arr_new _ _) s8.out hz8.out ?_))
  refine bodyPost_ret (results_cell_row rfl _ _ w.heap.size 100 (ints firstI) (0, 0) _ rfl (setRow_heap _ _ _ _ _ _ (arr_new _ _)) Try.underlying100 rfl size100) rfl ?_; exact ⟨rfl, below_setRow ((Below.refl _ w).alloc (Nat.le_refl _) _) (Nat.le_refl _) _⟩
set_option maxRecDepth 100000 in
theorem constants_calls (w : World) :
    Calls Try.prog 148 #[] w fun e w' => e = .returned (.agg (ints keyI)) ∧ Below w.heap.size w w' := by
  obtain ⟨z8, z, hz8⟩ := zero149; have hl : Aside0 (z8.length = 64) := ⟨by rw [hz8.out]; rfl⟩; have s8 := Aside0.mk size149; go_enter Try.func148, Try.ntmps148
  go_wp2_with (first | ((with_reducible refine gD 1 rfl ?_); refine wpl_build _ _ (ints keyI) rfl rfl (by kernel_rfl) ?_) | ((with_reducible refine gate_store (p := 0) rfl ?_); refine wpl_store w.heap.size keyI z8 149 _ _ rfl rfl rfl rfl (arr_new _ _) s8.out hl.out ?_))
  refine bodyPost_ret (results_cell_row rfl _ _ w.heap.size 149 (ints keyI) (0, 0) _ rfl (setRow_heap _ _ _ _ _ _ (arr_new _ _)) Try.underlying149 rfl size149) rfl ?_; exact ⟨rfl, below_setRow ((Below.refl _ w).alloc (Nat.le_refl _) _) (Nat.le_refl _) _⟩
def shl8 (x : Int) : Int := wrap64 (x * 256)
def accI (b : List Int) (i : Nat) : Nat → Int
  | 0 => 0
  | j + 1 => Go.bits .or .i64 (shl8 (accI b i j)) (wrap64 (rd b ((4 * i + j : Nat) : Int)))
def s0I (x : Int) : Int := Go.bits .xor .i64 (Go.bits .xor .i64 (trnI x 7) (trnI x 18)) (x / 8)
def s1I (y : Int) : Int := Go.bits .xor .i64 (Go.bits .xor .i64 (trnI y 17) (trnI y 19)) (y / 1024)
def nextI (ws : List Int) (t : Nat) : Int := Go.bits .and .i64 (wrap64 ((wrap64 ((wrap64 (s1I (rd ws ((t - 2 : Nat) : Int)) + rd ws ((t - 7 : Nat) : Int))) + s0I (rd ws ((t - 15 : Nat) : Int)))) + rd ws ((t - 16 : Nat) : Int))) 4294967295
def expI : Nat → Nat → List Int → List Int
  | 0, _, ws => ws
  | n + 1, t, ws => expI n (t + 1) (ws.set t (nextI ws t))
def wordsI (b : List Int) (i : Nat) : List Int := (List.range i).map (fun j => accI b j 4) ++ List.replicate (64 - i) 0
theorem wordsI_len (b : List Int) (i : Nat) (h : i ≤ 64) : (wordsI b i).length = 64 := by simp [wordsI]; omega
theorem below_drN {b : Nat} {w w1 : World} (h : Below b w w1) (n : Nat) : Below b w (w1.drewN n) := ⟨h.os, h.tape, h.output, h.size, h.block⟩
theorem arr_drN {w w1 : World} {B T : Nat} {l : List Int} {n : Nat} (hw : World.drewN w n = w1) (h : w.heap[B]? = some (.cells (ints l) T (0, 0))) : w1.heap[B]? = some (.cells (ints l) T (0, 0)) := hw ▸ h
theorem arr_set {w : World} {B T : Nat} {l : List Int} (h : w.heap[B]? = some (.cells (ints l) T (0, 0))) (i : Nat) (v : Int) : (w.setCell ⟨B, i, none⟩ (.int .i64 v)).heap[B]? = some (.cells (ints (l.set i v)) T (0, 0)) := by
  rw [setCell_eq_setRow w B i (ints l) T (0, 0) _ h, setRow_heap w B _ _ T (0, 0) h, ints_set]
theorem arr_cell {w : World} {B T : Nat} {l : List Int} (h : w.heap[B]? = some (.cells (ints l) T (0, 0))) (i : Nat) (hi : i < l.length) : w.cell? ⟨B, i, none⟩ = some (.int .i64 (rd l (i : Int))) := by
  rw [blk_cell h]; exact ints_at l (i : Int) (by omega) (by omega)
theorem accS (b : List Int) (i j : Nat) : Go.bits .or .i64 (wrap64 (accI b i j * 256)) (wrap64 (rd b ((4 * i + j : Nat) : Int))) = accI b i (j + 1) := rfl
def accL (b : List Int) (i j : Nat) : List Int := (wordsI b i).set i (accI b i j)
theorem accL_len (b : List Int) (i j : Nat) (h : i ≤ 64) : (accL b i j).length = 64 := by rw [accL, List.length_set, wordsI_len b i h]
theorem accL_zero (b : List Int) (i : Nat) (h : i < 64) : accL b i 0 = wordsI b i := by
  unfold accL
  apply List.ext_getElem
  · simp
  · intro k h1 h2; rw [List.getElem_set]
    split
    · rename_i hk; subst hk; simp [wordsI, accI]
    · rfl
theorem accL_rd (b : List Int) (i j : Nat) (h : i < 64) : rd (accL b i j) (i : Int) = accI b i j := by
  have : i < (wordsI b i).length := by rw [wordsI_len b i (by omega)]; exact h
  simp [accL, rd, List.getD_eq_getElem?_getD, this]
theorem accL_next (b : List Int) (i j : Nat) : (accL b i j).set i (accI b i (j + 1)) = accL b i (j + 1) := by simp [accL]
theorem accL_four (b : List Int) (i : Nat) (h : i < 64) : accL b i 4 = wordsI b (i + 1) := by
  unfold accL wordsI; rw [List.set_append_right _ _ (by simp), List.range_succ, List.map_append, List.append_assoc]
  congr 1
  simp only [List.length_map, List.length_range, Nat.sub_self, List.map_cons, List.map_nil, List.singleton_append]; rw [show 64 - i = (64 - (i + 1)) + 1 by omega, List.replicate_succ]; rfl
theorem rd_mid (l : List Int) (lo hi j : Nat) (h : lo + j < hi) : rd ((l.take hi).drop lo) (j : Int) = rd l ((lo + j : Nat) : Int) := by
  simp only [rd, List.getD_eq_getElem?_getD, Int.toNat_natCast, List.getElem?_drop, List.getElem?_take, if_pos h]
set_option maxHeartbeats 4000000 in
set_option maxRecDepth 100000 in
theorem expanded_calls (A : Option Addr) (c : Nat) (l : List Int) (w : World) (hC : Kd.C (Kd.int .u8) w A l.length l) (hc : l.length ≤ c) (hl : l.length = 64) :
    Calls Try.prog 149 #[.slice A 64 c] w fun e w' => e = .returned (.agg (ints (expI 48 16 (wordsI l 16)))) ∧ Below w.heap.size w w' := by
  obtain ⟨z8, z, hz8⟩ := zero149; have bI : Aside0 (z8.length = 64) := ⟨by rw [hz8.out]; rfl⟩; have s8 := Aside0.mk size149; have HC := Aside0.mk hC; have HL := Aside0.mk hl; have HK := Aside0.mk hc; have hz0 : Aside0 (z8 = wordsI l 0) := ⟨by rw [hz8.out]; rfl⟩; clear hC hl hc; have hcut : ∀ i : Nat, i < 16 → Aside0 (∃ (A' : Option Addr) (c' : Nat), 4 ≤ c' ∧ Kd.C (Kd.int .u8) w A' 4 ((l.take (4 * i + 4)).drop (4 * i)) ∧ ∀ W : World, (Instr.slice 22 (.slice A 64 c) (some (.int .i64 ((4 * i : Nat) : Int))) (some (.int .i64 ((4 * i + 4 : Nat) : Int))) none).run Try.prog W = .ok (.slice A' 4 c') W) := by
    intro i hi; have hl := HL.out; have hc := HK.out; obtain ⟨i0, hi0, _, hsz, _⟩ := info_parts info5; have hcut := cut_mid (P := Try.prog) 22 5 .i64 .i64 Try.underlying22 hi0 1 hsz A l.length c ((4 * i : Nat) : Int) ((4 * i + 4 : Nat) : Int) (by omega) (by omega) (by omega) hc; have hr := Kd.C_mid (lo := 4 * i) (hi := 4 * i + 4) (c := c) HC.out (by omega) (by omega) hc; have hy : ((l.take (4 * i + 4)).drop (4 * i)).length = 4 := by rw [List.length_drop, List.length_take]; omega
    rw [hy] at hr; rw [hl] at hcut; simp only [Int.toNat_natCast] at hcut; refine ⟨_, c - 4 * i, by omega, hr, fun W => ?_⟩; rw [hcut W, show 4 * i + 4 - 4 * i = 4 by omega]; rfl
  go_enter Try.func149, Try.ntmps149
  go_wp2_with (first | ((with_reducible refine gD 12 rfl ?_); refine wpl_build _ _ (ints (List.replicate 64 0)) rfl rfl (by kernel_rfl) ?_) | ((with_reducible refine gate_store (p := 3) rfl ?_); refine wpl_store (w.heap.size + 1) (List.replicate 64 0) z8 149 _ _ rfl rfl rfl rfl (by exact heap_alloc2_new _ _ _) s8.out bI.out ?_))
  go_loopg [4, 6, 13] 16 (fun gg s4 s6 s13 wr => ∃ i : Nat, i ≤ 16 ∧ 16 - i ≤ gg ∧ s13 = .int .i64 (i : Int) ∧ Aside0 (wr.heap[w.heap.size + 1]? = some (.cells (ints (wordsI l i)) 149 (0, 0))) ∧ Aside0 (wr.heap[w.heap.size]? = some (.cells (ints z8) 149 (0, 0))) ∧ Aside0 (Below w.heap.size w wr))
  case atStart =>
    refine ⟨0, by omega, by omega, rfl, ⟨?_⟩, ⟨?_⟩, ⟨?_⟩⟩
    · exact (setRow_heap _ _ _ _ _ _ (heap_alloc2_new _ _ _)).trans (by rfl)
    · exact (setRow_other _ _ _ _ (by omega)).trans (heap_alloc2_old _ _ _)
    · exact below_setRow (((Below.refl _ w).alloc (Nat.le_refl _) _).alloc (by simp) _) (by omega) _
  case round =>
    obtain ⟨i, hi, hg, rfl, H1, H0, HB⟩ := hrel; by_cases hlt : i < 16
    · have L0 := eq_true (show (i : Int) < 16 by omega); have e4 : Aside0 (wrap64 (4 * (i : Int)) = ((4 * i : Nat) : Int)) := ⟨u1_0⟩; obtain ⟨j4, hj4⟩ : ∃ j : Int, j = ((4 * i : Nat) : Int) := ⟨_, rfl⟩; obtain ⟨j8, hj8⟩ : ∃ j : Int, j = ((4 * i + 4 : Nat) : Int) := ⟨_, rfl⟩; have e4' := (i64_w _).trans (e4.out.trans hj4.symm); have e8' : IntKind.i64.wrap (j4 + 4) = j8 := (i64_w _).trans (by rw [hj4, hj8, w64I (by omega) (by omega)]; omega); obtain ⟨A', c', hc', hC', hs⟩ := (hcut i hlt).out; rw [← hj4, ← hj8] at hs; have HC' := Aside0.mk hC'; have Hj4 := Aside0.mk hj4; have Hj8 := Aside0.mk hj8; have AI := Aside0.mk hlt; clear hC' hcut hj4 hj8 e4 hlt; go_wp2; go_loopg [6, 24] 4 (fun gg2 s6 s24 wq => ∃ j : Nat, j ≤ 4 ∧ 4 - j ≤ gg2 ∧ s24 = .int .i64 (j : Int) ∧ Aside0 (wq.heap[w.heap.size + 1]? = some (.cells (ints (accL l i j)) 149 (0, 0))) ∧ Aside0 (wq.heap[w.heap.size]? = some (.cells (ints z8) 149 (0, 0))) ∧ Aside0 (Below w.heap.size w wq))
      case atStart => exact ⟨0, by omega, by omega, rfl, ⟨by rw [accL_zero l i (by have := AI.out; omega)]; exact H1.out⟩, H0, HB⟩
      case round =>
        obtain ⟨j, hj, hg2, rfl, K1, K0, KB⟩ := hrel; have ai := AI.out; by_cases hjl : j < 4
        · have L2 := eq_true (show (j : Int) < 4 by omega); obtain ⟨ad, rfl, hcl⟩ := Kd.at_int (Kd.C_below HC'.out KB.out) (j : Int) (by omega) (by omega); rw [rd_mid l _ _ _ (by omega), Int.toNat_natCast] at hcl; have hcell := arr_cell K1.out i (by rw [accL_len l i j (by omega)]; omega); rw [accL_rd l i j (by omega)] at hcell; have hfr := blk_frozen K1.out i; have hne : accI l i j = accI l i j := rfl; obtain ⟨v, hv⟩ : ∃ v, accI l i (j + 1) = v := ⟨_, rfl⟩; have ha := (accS l i j).trans hv; obtain ⟨av, hav⟩ : ∃ v, accI l i j = v := ⟨_, rfl⟩; obtain ⟨bv, hbv⟩ : ∃ v, rd l ((4 * i + j : Nat) : Int) = v := ⟨_, rfl⟩; rw [hav, hbv] at ha; rw [hav] at hcell; rw [hbv] at hcl; have P0 := eq_true (show 0 ≤ (i : Int) by omega); have P1 := eq_true (show (i : Int) < 64 by omega); have e1 : IntKind.i64.wrap ((j : Int) + 1) = ((j + 1 : Nat) : Int) := (i64_w _).trans u1_0; have Hv := Aside0.mk hv; have AJ := Aside0.mk hjl; clear hne hv hav hbv hjl ai; go_wp2; go_roundg (4 - (j + 1))
          case measure => have := AJ.out; omega
          case rel =>
            have := AJ.out; refine ⟨j + 1, by omega, by omega, by simp, ⟨?_⟩, ⟨?_⟩, ⟨?_⟩⟩
            · have := arr_set K1.out i v; rw [← Hv.out, accL_next, Hv.out] at this; exact this
            · exact (Below.heap_setCell _ _ _ _ (by simp)).trans K0.out
            · exact KB.out.setCell (by simp) _
        · obtain rfl : j = 4 := by omega
          clear hjl ai; go_wp2; go_roundg (16 - (i + 1))
          case measure => have := AI.out; omega
          case rel => have := AI.out; exact ⟨i + 1, by omega, by omega, by simp, ⟨by rw [← accL_four l i (by omega)]; exact K1.out⟩, K0, KB⟩
    · obtain rfl : i = 16 := by omega
      clear hlt; go_wp2; go_loopg [7, 8, 9, 10, 11] 48 (fun gg s7 s8 s9 s10 s11 wr => ∃ (t : Nat) (ws : List Int), 16 ≤ t ∧ t ≤ 64 ∧ 64 - t ≤ gg ∧ s7 = .int .i64 (t : Int) ∧ Aside0 (ws.length = 64) ∧ Aside0 (expI (64 - t) t ws = expI 48 16 (wordsI l 16)) ∧ Aside0 (wr.heap[w.heap.size + 1]? = some (.cells (ints ws) 149 (0, 0))) ∧ Aside0 (wr.heap[w.heap.size]? = some (.cells (ints z8) 149 (0, 0))) ∧ Aside0 (Below w.heap.size w wr))
      case atStart => exact ⟨16, wordsI l 16, by omega, by omega, by omega, rfl, ⟨wordsI_len l 16 (by omega)⟩, ⟨rfl⟩, H1, H0, HB⟩
      clear H1 H0 HB
      case round =>
        obtain ⟨t, ws, h16, h64, hg, rfl, HL, HE, H1, H0, HB⟩ := hrel; by_cases hlt : t < 64
        · have L0 := eq_true (show (t : Int) < 64 by omega); have A1 := Aside0.mk h16; have A2 := Aside0.mk hlt; obtain ⟨x, hx⟩ : ∃ x, rd ws ((t - 15 : Nat) : Int) = x := ⟨_, rfl⟩; obtain ⟨y, hy⟩ : ∃ x, rd ws ((t - 2 : Nat) : Int) = x := ⟨_, rfl⟩; obtain ⟨p, hp⟩ : ∃ x, rd ws ((t - 7 : Nat) : Int) = x := ⟨_, rfl⟩; obtain ⟨q, hq⟩ : ∃ x, rd ws ((t - 16 : Nat) : Int) = x := ⟨_, rfl⟩; have cx := arr_cell H1.out (t - 15) (by have := HL.out; omega); have cy := arr_cell H1.out (t - 2) (by have := HL.out; omega); have cp := arr_cell H1.out (t - 7) (by have := HL.out; omega); have cq := arr_cell H1.out (t - 16) (by have := HL.out; omega); have ct := arr_cell H1.out t (by have := HL.out; omega); rw [hx] at cx; rw [hy] at cy; rw [hp] at cp; rw [hq] at cq; have hfr := fun i => blk_frozen H1.out i
          obtain ⟨i15, h15⟩ : ∃ i, i = t - 15 := ⟨_, rfl⟩; obtain ⟨i2, h2⟩ : ∃ i, i = t - 2 := ⟨_, rfl⟩; obtain ⟨i7, h7⟩ : ∃ i, i = t - 7 := ⟨_, rfl⟩; obtain ⟨i16, h16'⟩ : ∃ i, i = t - 16 := ⟨_, rfl⟩; rw [← h15] at cx; rw [← h2] at cy; rw [← h7] at cp; rw [← h16'] at cq; have bY : IntKind.i64.wrap ((t : Int) - 15) = (i15 : Int) := (i64_w _).trans u1_0; have e2 : IntKind.i64.wrap ((t : Int) - 2) = (i2 : Int) := (i64_w _).trans u1_0; have e7 : IntKind.i64.wrap ((t : Int) - 7) = (i7 : Int) := (i64_w _).trans u1_0; have bZ : IntKind.i64.wrap ((t : Int) - 16) = (i16 : Int) := (i64_w _).trans u1_0; have b15 := eq_true (show (i15 : Int) < 64 by omega); have b2 := eq_true (show (i2 : Int) < 64 by omega); have b7 := eq_true (show (i7 : Int) < 64 by omega); have b16 := eq_true (show (i16 : Int) < 64 by omega); have hn : nextI ws t = Go.bits .and .i64 (wrap64 ((wrap64 ((wrap64 (s1I y + p)) + s0I x)) + q)) 4294967295 := by unfold nextI; rw [hx, hy, hp, hq]
          have HN := Aside0.mk hn; clear hx hy hp hq h15 h2 h7 h16' hn h16 h64 hlt; go_wp2; go_quiet (fail)
          go_wp2_with (first | (go_at_call 150; (with_reducible refine (turnRight_calls x 7 _ (by decide) (by decide)).mono ?_); rintro e w' ⟨rfl, ⟨nd, rfl⟩⟩) | (go_at_call 150; (with_reducible refine (turnRight_calls x 18 _ (by decide) (by decide)).mono ?_); rintro e w' ⟨rfl, ⟨nd, rfl⟩⟩) | (go_at_call 150; (with_reducible refine (turnRight_calls y 17 _ (by decide) (by decide)).mono ?_); rintro e w' ⟨rfl, ⟨nd, rfl⟩⟩) | (go_at_call 150; (with_reducible refine (turnRight_calls y 19 _ (by decide) (by decide)).mono ?_); rintro e w' ⟨rfl, ⟨nd, rfl⟩⟩))
          generalize aN : World.drewN wr _ = w4; have hh4 : w4.heap = wr.heap := by rw [← aN]; rfl
          have H1' : w4.heap[w.heap.size + 1]? = _ := (congrArg (fun h => h[w.heap.size + 1]?) hh4).trans H1.out; have H0' : w4.heap[w.heap.size]? = _ := (congrArg (fun h => h[w.heap.size]?) hh4).trans H0.out; have HB' : Below w.heap.size w w4 := by rw [← aN]; exact below_drN HB.out _
          have cx : w4.cell? ⟨w.heap.size + 1, i7, none⟩ = some (.int .i64 p) := by rw [← aN]; exact cp
          have cy : w4.cell? ⟨w.heap.size + 1, i16, none⟩ = some (.int .i64 q) := by rw [← aN]; exact cq
          clear cp cq ct hfr hh4 aN H1 H0 HB; have H1 := Aside0.mk H1'; have H0 := Aside0.mk H0'; have HB := Aside0.mk HB'; clear H1' H0' HB'; go_still_tail 16, (by kernel_rfl)
          change wpList _ _ _ _ _ w4.drew
          generalize aU : w4.drew = w3; have hh : w3.heap = w4.heap := by rw [← aU]; rfl
          have H1' : w3.heap[w.heap.size + 1]? = _ := (congrArg (fun h => h[w.heap.size + 1]?) hh).trans H1.out; have H0' : w3.heap[w.heap.size]? = _ := (congrArg (fun h => h[w.heap.size]?) hh).trans H0.out; have HB' : Below w.heap.size w w3 := by rw [← aU]; exact HB.out.drew
          have ct' := arr_cell H1' t (by have := HL.out; have := A2.out; omega); have ft' := blk_frozen H1' t; clear hh aU cx cy H1 H0 HB; have H1 := Aside0.mk H1'; have H0 := Aside0.mk H0'; have HB := Aside0.mk HB'; clear H1' H0' HB'; obtain ⟨v, hv⟩ : ∃ v, nextI ws t = v := ⟨_, rfl⟩; have hv' := HN.out.symm.trans hv; unfold s1I s0I at hv'; have Hv := Aside0.mk hv; clear hv HN; go_wp2; clear hv'; go_roundg (64 - (t + 1))
          case measure => have := A2.out; omega
          case rel =>
            have := A1.out; have := A2.out; refine ⟨t + 1, ws.set t v, by omega, by omega, by omega, congrArg (Value.int .i64) u1_0, ⟨by rw [List.length_set]; exact HL.out⟩, ⟨?_⟩, ⟨arr_set H1.out t v⟩, ⟨?_⟩, ⟨HB.out.setCell (by simp) _⟩⟩
            · rw [← HE.out, show 64 - t = (64 - (t + 1)) + 1 by omega, expI, Hv.out]
            · exact (Below.heap_setCell _ _ _ _ (by simp)).trans H0.out
        · obtain rfl : t = 64 := by omega
          have aT := HL; have s149 := Aside0.mk size149; clear hlt; go_wp2_with (first | ((with_reducible refine gD 83 rfl ?_); refine wpl_load (w.heap.size + 1) ws 149 3 64 _ rfl rfl rfl H1.out Try.underlying149 (by rw [aT.out]; exact s149.out) ?_) | ((with_reducible refine gate_store (p := 2) rfl ?_); refine wpl_store w.heap.size ws z8 149 _ _ rfl rfl rfl rfl H0.out (by rw [aT.out]; exact s149.out) (bI.out.trans aT.out.symm) ?_))
          refine bodyPost_ret (results_cell_row rfl _ _ w.heap.size 149 (ints ws) (0, 0) _ rfl (setRow_heap _ _ _ _ _ _ H0.out) Try.underlying149 rfl (by rw [ints_size, aT.out]; exact s149.out)) rfl ?_; exact ⟨by rw [← HE.out]; rfl, below_setRow HB.out (Nat.le_refl _) _⟩
def loI (x : Int) : Int := Go.bits .and .i64 x 4294967295
def t1I (v : List Int) (kk ww : Int) : Int := wrap64 ((wrap64 ((wrap64 ((wrap64 ((rd v 7) + (Go.bits .xor .i64 (Go.bits .xor .i64 (trnI (rd v 4) 6) (trnI (rd v 4) 11)) (trnI (rd v 4) 25)))) + (Go.bits .xor .i64 (Go.bits .and .i64 (rd v 4) (rd v 5)) (Go.bits .and .i64 (Go.bits .xor .i64 4294967295 (rd v 4)) (rd v 6))))) + kk)) + ww)
def t2I (v : List Int) : Int := wrap64 ((Go.bits .xor .i64 (Go.bits .xor .i64 (trnI (rd v 0) 2) (trnI (rd v 0) 13)) (trnI (rd v 0) 22)) + (Go.bits .xor .i64 (Go.bits .xor .i64 (Go.bits .and .i64 (rd v 0) (rd v 1)) (Go.bits .and .i64 (rd v 0) (rd v 2))) (Go.bits .and .i64 (rd v 1) (rd v 2))))
def rndI (ws v : List Int) (t : Nat) : List Int :=
  [loI (wrap64 (t1I v (rd keyI (t : Int)) (rd ws (t : Int)) + t2I v)), rd v 0, rd v 1, rd v 2, loI (wrap64 ((rd v 3) + t1I v (rd keyI (t : Int)) (rd ws (t : Int)))), rd v 4, rd v 5, rd v 6]
def rndsI (ws : List Int) : Nat → Nat → List Int → List Int
  | 0, _, v => v
  | n + 1, t, v => rndsI ws n (t + 1) (rndI ws v t)
def addI (h v : List Int) (i : Nat) : List Int := (List.range 8).map fun (j : Nat) => if j < i then loI (wrap64 (rd h (j : Int) + rd v (j : Int))) else rd h (j : Int)
def blockI (h l : List Int) : List Int := addI h (rndsI (expI 48 16 (wordsI l 16)) 64 0 h) 8
theorem list8 (h : List Int) (hh : h.length = 8) : h = [rd h 0, rd h 1, rd h 2, rd h 3, rd h 4, rd h 5, rd h 6, rd h 7] := by
  match h, hh with
  | [a, b, c, d, e, f, g, i], _ => rfl
theorem addI_len (h v : List Int) (i : Nat) : (addI h v i).length = 8 := by simp [addI]
theorem addI_zero (h v : List Int) (hh : h.length = 8) : addI h v 0 = h := by
  conv => rhs; rw [list8 h hh]
  rfl
theorem addI_rd (h v : List Int) (i : Nat) (hi : i < 8) : rd (addI h v i) (i : Int) = rd h (i : Int) := by
  simp [addI, rd, List.getD_eq_getElem?_getD, hi]
theorem addI_next (h v : List Int) (i : Nat) (hi : i < 8) : (addI h v i).set i (loI (wrap64 (rd h (i : Int) + rd v (i : Int)))) = addI h v (i + 1) := by
  unfold addI
  apply List.ext_getElem
  · simp
  · intro k h1 h2; rw [List.getElem_set]; simp only [List.getElem_map, List.getElem_range]; by_cases hk : i = k
    · subst hk; simp
    · rw [if_neg hk]; by_cases hk2 : k < i
      · rw [if_pos hk2, if_pos (by omega)]
      · rw [if_neg hk2, if_neg (by omega)]
theorem index_ints (vs : List Int) (i : Nat) (hi : i < 8) (hl : vs.length = 8) (W : World) : (Instr.index 100 (.agg (ints vs)) (.int .i64 (i : Int))).run Try.prog W = .ok (.int .i64 (rd vs (i : Int))) W := by
  rw [list8 vs hl]; obtain rfl | rfl | rfl | rfl | rfl | rfl | rfl | rfl : i = 0 ∨ i = 1 ∨ i = 2 ∨ i = 3 ∨ i = 4 ∨ i = 5 ∨ i = 6 ∨ i = 7 := by omega
  all_goals (simp only [rd]; kernel_rfl)
theorem expI_len : ∀ (n t : Nat) (ws : List Int), (expI n t ws).length = ws.length
  | 0, _, ws => rfl
  | n + 1, t, ws => by rw [expI, expI_len n, List.length_set]
theorem rndsI_len (ws : List Int) : ∀ (n t : Nat) (v : List Int), v.length = 8 → (rndsI ws n t v).length = 8
  | 0, _, v, h => h
  | n + 1, t, v, h => by rw [rndsI]; exact rndsI_len ws n _ _ rfl
set_option maxHeartbeats 8000000 in
set_option maxRecDepth 100000 in
theorem round_calls (A : Option Addr) (c : Nat) (h l : List Int) (w : World) (hh : h.length = 8) (hC : Kd.C (Kd.int .u8) w A l.length l) (hc : l.length ≤ c) (hl : l.length = 64) :
    Calls Try.prog 89 #[.agg (ints h), .slice A 64 c] w fun e w' => e = .returned (.agg (ints (blockI h l))) ∧ Below w.heap.size w w' := by
  obtain ⟨z64, z1, hz64⟩ := zero149; obtain ⟨z8, z2, hz8⟩ := zero100; have aQ : Aside0 (z64.length = 64) := ⟨by rw [hz64.out]; rfl⟩; have s149 := Aside0.mk size149; have s100 := Aside0.mk size100; have HC := Aside0.mk hC; have HL := Aside0.mk hl; have HK := Aside0.mk hc; have HH := Aside0.mk hh; obtain ⟨ws, hws⟩ : ∃ ws, ws = expI 48 16 (wordsI l 16) := ⟨_, rfl⟩; have hwl : Aside0 (ws.length = 64) := ⟨by rw [hws, expI_len, wordsI_len l 16 (by omega)]⟩; have hexp : Aside0 (∀ W : World, Below w.heap.size w W → Calls Try.prog 149 #[.slice A 64 c] W fun e w' => e = .returned (.agg (ints ws)) ∧ Below W.heap.size W w') := ⟨fun W hb => by rw [hws]; exact expanded_calls A c l W (Kd.C_below hC hb) hc hl⟩; have HWS := Aside0.mk hws; have hsz := (ints_size h).trans hh; clear hC hl hc hh hws; go_enter Try.func89, Try.ntmps89
  have bJ : Aside0 (Below w.heap.size w ((w.alloc (.cells (ints h) 100)).alloc (.cells (ints z8) 100))) := ⟨((Below.refl _ w).alloc (Nat.le_refl _) _).alloc (by simp) _⟩; go_upto_region 3 with (first
    | (go_at_call 148; (with_reducible refine (constants_calls _).mono ?_); rintro e w5 ⟨rfl, aI⟩; have HB5 := Aside0.mk aI; have B5 := Aside0.mk (bJ.out.trans (aI.mono (by simp; omega))); clear aI)
    | (go_at_call 149; (with_reducible refine (hexp.out _ (below_setRow (B5.out.alloc (by have := HB5.out.size; simp at this; omega) _) (by have := HB5.out.size; simp at this; omega) _)).mono ?_); rintro e w6 ⟨rfl, bK⟩; have HB6 := Aside0.mk bK; clear bK)
    | ((with_reducible refine gate_store (p := 5) rfl ?_); refine wpl_store w5.heap.size keyI z64 149 _ _ rfl rfl rfl rfl (arr_new _ _) s149.out aQ.out ?_)
    | ((with_reducible refine gate_store (p := 6) rfl ?_); refine wpl_store w6.heap.size ws z64 149 _ _ rfl rfl rfl rfl (arr_new _ _) (by rw [hwl.out]; exact s149.out) (aQ.out.trans hwl.out.symm) ?_))
  have q5 : w.heap.size + 2 ≤ w5.heap.size := by have := HB5.out.size; simp at this; omega
  have q6 : w5.heap.size + 1 ≤ w6.heap.size := by have := HB6.out.size; simp at this; omega
  have f5 : w5.heap[w.heap.size]? = some (.cells (ints h) 100 (0, 0)) := (HB5.out.block _ (by simp; omega)).trans (heap_alloc2_old _ _ _); have g5 : w5.heap[w.heap.size + 1]? = some (.cells (ints z8) 100 (0, 0)) := (HB5.out.block _ (by simp)).trans (heap_alloc2_new _ _ _); have k6 : w6.heap[w5.heap.size]? = some (.cells (ints keyI) 149 (0, 0)) := (HB6.out.block _ (by simp)).trans (setRow_heap _ _ _ _ _ _ (arr_new _ _)); have f6 : w6.heap[w.heap.size]? = some (.cells (ints h) 100 (0, 0)) := (HB6.out.block _ (by simp; omega)).trans ((setRow_other _ _ _ _ (by omega)).trans ((heap_alloc_old _ _ (by omega)).trans f5)); have g6 : w6.heap[w.heap.size + 1]? = some (.cells (ints z8) 100 (0, 0)) := (HB6.out.block _ (by simp; omega)).trans ((setRow_other _ _ _ _ (by omega)).trans ((heap_alloc_old _ _ (by omega)).trans g5)); have b6 : Below w.heap.size w w6 := (below_setRow (B5.out.alloc (by omega) _) (by omega) _).trans (HB6.out.mono (by simp; omega)); have F7 : Aside0 (((w6.alloc (.cells (ints z64) 149)).setRow w6.heap.size (ints ws)).heap[w.heap.size]? = some (.cells (ints h) 100 (0, 0))) := ⟨(setRow_other _ _ _ _ (by omega)).trans ((heap_alloc_old _ _ (by omega)).trans f6)⟩; have G7 : Aside0 (((w6.alloc (.cells (ints z64) 149)).setRow w6.heap.size (ints ws)).heap[w.heap.size + 1]? = some (.cells (ints z8) 100 (0, 0))) := ⟨(setRow_other _ _ _ _ (by omega)).trans ((heap_alloc_old _ _ (by omega)).trans g6)⟩; have K7 : Aside0 (((w6.alloc (.cells (ints z64) 149)).setRow w6.heap.size (ints ws)).heap[w5.heap.size]? = some (.cells (ints keyI) 149 (0, 0))) := ⟨(setRow_other _ _ _ _ (by omega)).trans ((heap_alloc_old _ _ (by omega)).trans k6)⟩; have W7 : Aside0 (((w6.alloc (.cells (ints z64) 149)).setRow w6.heap.size (ints ws)).heap[w6.heap.size]? = some (.cells (ints ws) 149 (0, 0))) := ⟨setRow_heap _ _ _ _ _ _ (arr_new _ _)⟩; have B7 : Aside0 (Below w.heap.size w ((w6.alloc (.cells (ints z64) 149)).setRow w6.heap.size (ints ws))) := ⟨below_setRow (b6.alloc (by omega) _) (by omega) _⟩; obtain ⟨n5, hn5⟩ : ∃ n, n = w5.heap.size := ⟨_, rfl⟩; obtain ⟨n6, hn6⟩ : ∃ n, n = w6.heap.size := ⟨_, rfl⟩; generalize (w6.alloc (.cells (ints z64) 149)).setRow w6.heap.size (ints ws) = w7 at *; rw [← hn5] at K7 q5 q6 ⊢; rw [← hn6] at W7 q6 ⊢; have Q5 := Aside0.mk q5; have Q6 := Aside0.mk q6; clear f5 g5 k6 f6 g6 b6 hn5 hn6 HB5 HB6 B5 bJ q5 q6; have c0 := arr_cell F7.out 0 (by rw [HH.out]; omega); have c1 := arr_cell F7.out 1 (by rw [HH.out]; omega); have c2 := arr_cell F7.out 2 (by rw [HH.out]; omega); have c3 := arr_cell F7.out 3 (by rw [HH.out]; omega); have c4 := arr_cell F7.out 4 (by rw [HH.out]; omega); have c5 := arr_cell F7.out 5 (by rw [HH.out]; omega); have c6 := arr_cell F7.out 6 (by rw [HH.out]; omega); have c7 := arr_cell F7.out 7 (by rw [HH.out]; omega); obtain ⟨x0, aV⟩ : ∃ x, rd h ((0 : Nat) : Int) = x := ⟨_, rfl⟩; rw [aV] at c0; obtain ⟨x1, aW⟩ : ∃ x, rd h ((1 : Nat) : Int) = x := ⟨_, rfl⟩; rw [aW] at c1; obtain ⟨x2, aX⟩ : ∃ x, rd h ((2 : Nat) : Int) = x := ⟨_, rfl⟩; rw [aX] at c2; obtain ⟨x3, aY⟩ : ∃ x, rd h ((3 : Nat) : Int) = x := ⟨_, rfl⟩; rw [aY] at c3; obtain ⟨x4, aZ⟩ : ∃ x, rd h ((4 : Nat) : Int) = x := ⟨_, rfl⟩; rw [aZ] at c4; obtain ⟨x5, bA⟩ : ∃ x, rd h ((5 : Nat) : Int) = x := ⟨_, rfl⟩; rw [bA] at c5; obtain ⟨x6, bB⟩ : ∃ x, rd h ((6 : Nat) : Int) = x := ⟨_, rfl⟩; rw [bB] at c6; obtain ⟨x7, bC⟩ : ∃ x, rd h ((7 : Nat) : Int) = x := ⟨_, rfl⟩; rw [bC] at c7; have hv0 : Aside0 (h = [x0, x1, x2, x3, x4, x5, x6, x7]) := ⟨by rw [← aV, ← aW, ← aX, ← aY, ← aZ, ← bA, ← bB, ← bC]; exact list8 h HH.out⟩; clear aV aW aX aY aZ bA bB bC; go_wp2; go_quiet (fail)
  go_wp2; clear c0 c1 c2 c3 c4 c5 c6 c7; generalize aC : World.drewN w7 _ = w8; replace F7 := Aside0.mk (arr_drN aC F7.out); replace G7 := Aside0.mk (arr_drN aC G7.out); replace K7 := Aside0.mk (arr_drN aC K7.out); replace W7 := Aside0.mk (arr_drN aC W7.out); replace B7 : Aside0 (Below w.heap.size w w8) := ⟨by rw [← aC]; exact below_drN B7.out _⟩; clear aC; go_loopg [7, 8, 9, 10, 11, 12, 13, 14, 15, 16, 17, 18, 19, 41] 64 (fun gg s7 s8 s9 s10 s11 s12 s13 s14 s15 s16 s17 s18 s19 s41 wr => ∃ (t : Nat) (xa xb xc xd xe xf xg xi : Int), t ≤ 64 ∧ 64 - t ≤ gg ∧ s41 = .int .i64 (t : Int) ∧ s7 = .int .i64 xa ∧ s8 = .int .i64 xb ∧ s9 = .int .i64 xc ∧ s10 = .int .i64 xd ∧ s11 = .int .i64 xe ∧ s12 = .int .i64 xf ∧ s13 = .int .i64 xg ∧ s14 = .int .i64 xi ∧ Aside0 (rndsI ws (64 - t) t [xa, xb, xc, xd, xe, xf, xg, xi] = rndsI ws 64 0 h) ∧ Aside0 (wr.heap[w.heap.size]? = some (.cells (ints h) 100 (0, 0))) ∧ Aside0 (wr.heap[w.heap.size + 1]? = some (.cells (ints z8) 100 (0, 0))) ∧ Aside0 (wr.heap[n5]? = some (.cells (ints keyI) 149 (0, 0))) ∧ Aside0 (wr.heap[n6]? = some (.cells (ints ws) 149 (0, 0))) ∧ Aside0 (Below w.heap.size w wr))
  case atStart => exact ⟨0, x0, x1, x2, x3, x4, x5, x6, x7, by omega, by omega, rfl, rfl, rfl, rfl, rfl, rfl, rfl, rfl, rfl, ⟨by rw [← hv0.out]⟩, F7, G7, K7, W7, B7⟩
  clear F7 G7 K7 W7 B7 hv0
  case round =>
    obtain ⟨t, xa, xb, xc, xd, xe, xf, xg, xi, h64, hg, rfl, rfl, rfl, rfl, rfl, rfl, rfl, rfl, rfl, HE, F7, G7, K7, W7, B7⟩ := hrel; by_cases hlt : t < 64
    · have L0 := eq_true (show (t : Int) < 64 by omega); have A2 := Aside0.mk hlt; clear h64 hlt; go_upto_region 8 with (first | (go_at_call 150; (with_reducible refine (turnRight_calls xe 6 _ (by decide) (by decide)).mono ?_); rintro e w' ⟨rfl, ⟨nd, rfl⟩⟩) | (go_at_call 150; (with_reducible refine (turnRight_calls xe 11 _ (by decide) (by decide)).mono ?_); rintro e w' ⟨rfl, ⟨nd, rfl⟩⟩) | (go_at_call 150; (with_reducible refine (turnRight_calls xe 25 _ (by decide) (by decide)).mono ?_); rintro e w' ⟨rfl, ⟨nd, rfl⟩⟩))
      generalize aC : World.drewN wr _ = w9; replace F7 := Aside0.mk (arr_drN aC F7.out); replace G7 := Aside0.mk (arr_drN aC G7.out); replace K7 := Aside0.mk (arr_drN aC K7.out); replace W7 := Aside0.mk (arr_drN aC W7.out); replace B7 : Aside0 (Below w.heap.size w w9) := ⟨by rw [← aC]; exact below_drN B7.out _⟩; clear aC; have ck := arr_cell K7.out t (by have := A2.out; exact this); have cw := arr_cell W7.out t (by have := A2.out; rw [hwl.out]; exact this); obtain ⟨kk, hkk⟩ : ∃ k, rd keyI (t : Int) = k := ⟨_, rfl⟩; obtain ⟨ww, hww⟩ : ∃ k, rd ws (t : Int) = k := ⟨_, rfl⟩; rw [hkk] at ck; rw [hww] at cw; have HKK := Aside0.mk hkk; have HWW := Aside0.mk hww; clear hkk hww; go_quiet (fail)
      have HT : Aside0 (t1I [xa, xb, xc, xd, xe, xf, xg, xi] kk ww = wrap64 ((wrap64 ((wrap64 ((wrap64 (xi + (Go.bits .xor .i64 (Go.bits .xor .i64 (trnI xe 6) (trnI xe 11)) (trnI xe 25)))) + (Go.bits .xor .i64 (Go.bits .and .i64 xe xf) (Go.bits .and .i64 (Go.bits .xor .i64 4294967295 xe) xg)))) + kk)) + ww)) := ⟨rfl⟩; generalize wrap64 ((wrap64 ((wrap64 ((wrap64 (xi + (Go.bits .xor .i64 (Go.bits .xor .i64 (trnI xe 6) (trnI xe 11)) (trnI xe 25)))) + (Go.bits .xor .i64 (Go.bits .and .i64 xe xf) (Go.bits .and .i64 (Go.bits .xor .i64 4294967295 xe) xg)))) + kk)) + ww) = t1 at *; clear ck cw; go_wp2_with (first | (go_at_call 150; (with_reducible refine (turnRight_calls xa 2 _ (by decide) (by decide)).mono ?_); rintro e w' ⟨rfl, ⟨nd, rfl⟩⟩) | (go_at_call 150; (with_reducible refine (turnRight_calls xa 13 _ (by decide) (by decide)).mono ?_); rintro e w' ⟨rfl, ⟨nd, rfl⟩⟩) | (go_at_call 150; (with_reducible refine (turnRight_calls xa 22 _ (by decide) (by decide)).mono ?_); rintro e w' ⟨rfl, ⟨nd, rfl⟩⟩))
      go_roundg (64 - (t + 1))
      case measure => have := A2.out; omega
      case rel =>
        have := A2.out; refine ⟨t + 1, _, xa, xb, xc, _, xe, xf, xg, by omega, by omega, congrArg (Value.int .i64) u1_0, rfl, rfl, rfl, rfl, rfl, rfl, rfl, rfl, ⟨?_⟩, ⟨F7.out⟩, ⟨G7.out⟩, ⟨K7.out⟩, ⟨W7.out⟩, ⟨by repeat (first | exact B7.out | apply below_drN)⟩⟩; rw [← HE.out, show 64 - t = (64 - (t + 1)) + 1 by omega, rndsI]; unfold rndI; rw [HKK.out, HWW.out, HT.out]; rfl
    · obtain rfl : t = 64 := by omega
      clear hlt h64; obtain ⟨vs, hvs⟩ : ∃ vs, vs = [xa, xb, xc, xd, xe, xf, xg, xi] := ⟨_, rfl⟩; have hve : Aside0 (vs = rndsI ws 64 0 h) := ⟨hvs.trans HE.out⟩; have HVS := Aside0.mk hvs; clear hvs; go_wp2_with ((with_reducible refine gD 116 rfl ?_); refine wpl_build _ _ (ints vs) rfl rfl (by rw [HVS.out]; kernel_rfl) ?_)
      have hvl : Aside0 (vs.length = 8) := ⟨by rw [HVS.out]; rfl⟩; go_loopg [20, 21, 117] 8 (fun gg s20 s21 s117 wr => ∃ i : Nat, i ≤ 8 ∧ 8 - i ≤ gg ∧ s117 = .int .i64 (i : Int) ∧ Aside0 (wr.heap[w.heap.size]? = some (.cells (ints (addI h vs i)) 100 (0, 0))) ∧ Aside0 (wr.heap[w.heap.size + 1]? = some (.cells (ints z8) 100 (0, 0))) ∧ Aside0 (Below w.heap.size w wr))
      case atStart => exact ⟨0, by omega, by omega, rfl, ⟨by rw [addI_zero h vs HH.out]; exact F7.out⟩, G7, B7⟩
      clear F7 G7 K7 W7 B7 HE
      case round =>
        obtain ⟨i, h8, hg, rfl, F7, G7, B7⟩ := hrel; by_cases hlt : i < 8
        · have L0 := eq_true (show (i : Int) < 8 by omega); have A2 := Aside0.mk hlt; have hidx := index_ints vs i hlt hvl.out; have ci := arr_cell F7.out i (by rw [addI_len]; exact hlt); rw [addI_rd h vs i hlt] at ci; have fi := blk_frozen F7.out i; obtain ⟨x, hx⟩ : ∃ x, rd vs (i : Int) = x := ⟨_, rfl⟩; obtain ⟨y, hy⟩ : ∃ x, rd h (i : Int) = x := ⟨_, rfl⟩; rw [hx] at hidx; rw [hy] at ci; have HX := Aside0.mk hx; have HY := Aside0.mk hy; clear hx hy hlt h8; go_wp2; go_roundg (8 - (i + 1))
          case measure => have := A2.out; omega
          case rel =>
            have := A2.out; refine ⟨i + 1, by omega, by omega, congrArg (Value.int .i64) (by first | rfl | (rw [w64I (by omega) (by omega)]; omega) | omega), ⟨?_⟩, ⟨?_⟩, ⟨B7.out.setCell (by simp) _⟩⟩
            · rw [← addI_next h vs i A2.out, HX.out, HY.out]; exact arr_set F7.out i _
            · exact (Below.heap_setCell _ _ _ _ (by simp)).trans G7.out
        · obtain rfl : i = 8 := by omega
          obtain ⟨out, hout⟩ : ∃ o, o = addI h vs 8 := ⟨_, rfl⟩; have hol : Aside0 (out.length = 8) := ⟨by rw [hout, addI_len]⟩; have hob : Aside0 (out = blockI h l) := ⟨by rw [hout, hve.out, HWS.out]; rfl⟩; rw [← hout] at F7; clear hlt h8 hout; go_wp2_with (first | ((with_reducible refine gD 130 rfl ?_); refine wpl_load w.heap.size out 100 3 8 _ rfl rfl rfl F7.out Try.underlying100 (by rw [hol.out]; exact s100.out) ?_) | ((with_reducible refine gate_store (p := 4) rfl ?_); refine wpl_store (w.heap.size + 1) out z8 100 _ _ rfl rfl rfl rfl G7.out (by rw [hol.out]; exact s100.out) (hz8.out.trans hol.out.symm) ?_))
          refine bodyPost_ret (results_cell_row rfl _ _ (w.heap.size + 1) 100 (ints out) (0, 0) _ rfl (setRow_heap _ _ _ _ _ _ G7.out) Try.underlying100 rfl (by rw [ints_size, hol.out]; exact s100.out)) rfl ?_; exact ⟨by rw [← hob.out], below_setRow B7.out (by omega) _⟩
def lbI (l : List Int) (j : Nat) : Int := (Go.bits .and .i64 (shr .i64 (wrap64 (8 * (l.length : Int))) ((8 * j : Nat) : Int)) 255) % 256
def padK (n : Nat) : Nat := (120 - n % 64) % 64
def txtI (l : List Int) : List Int := ((l ++ [128]) ++ List.replicate (padK (l.length + 1)) 0) ++ (List.range 8).reverse.map (lbI l)
def blksI : Nat → List Int → List Int → List Int
  | 0, _, h => h
  | n + 1, m, h => blksI n (m.drop 64) (blockI h (m.take 64))
def outI (x : Int) : List Int := [x / 16777216 % 256, (Go.bits .and .i64 (x / 65536) 255) % 256, (Go.bits .and .i64 (x / 256) 255) % 256, (Go.bits .and .i64 x 255) % 256]
def shaI (l : List Int) : List Int := ((List.range 8).map fun (i : Nat) => outI (rd (blksI ((txtI l).length / 64) (txtI l) firstI) (i : Int))).flatten
theorem ints_eight (h : List Int) (hh : h.length = 8) : ints h = #[.int .i64 (rd h 0), .int .i64 (rd h 1), .int .i64 (rd h 2), .int .i64 (rd h 3), .int .i64 (rd h 4), .int .i64 (rd h 5), .int .i64 (rd h 6), .int .i64 (rd h 7)] := by
  conv => lhs; rw [list8 h hh]
  rfl
def impl_Sha.f (l : List Int) : Option (List Int) := if 4000 < l.length then some [] else some (shaI l)
set_option maxHeartbeats 8000000 in
set_option maxRecDepth 100000 in
theorem impl_Sha.calls (A0 : Option Addr) (c0 : Nat) (l0 : List Int) (r : List Int) (w : World) (aJ : Kd.C (Kd.int .u8) w A0 l0.length l0) (aK : l0.length ≤ c0) (h : impl_Sha.f l0 = some r) :
    Calls Try.prog 32 #[.slice A0 l0.length c0] w fun e w' => ∃ v0_ : Value, e = .returned (v0_) ∧ Kd.R (Kd.int .u8) 5 w' w.heap.size (fun _ => True) v0_ r ∧ Below w.heap.size w w' := by
  unfold impl_Sha.f at h; have bH := aM aJ; have bO := aM aK; have HB := aM (Below.refl w.heap.size w); clear aJ aK; by_cases hl : 4000 < l0.length
  · rw [if_pos hl] at h; obtain rfl := Option.some.inj h; have d0 : decide (4000 < (l0.length : Int)) = true := decide_eq_true (by omega); have d1 : decide (4000 < l0.length) = true := decide_eq_true hl; go_enter Try.func32, Try.ntmps32
    go_wp2; go_ret
    exact ⟨_, rfl, Kd.R_nil _ _ _ _ _, HB.out⟩
  · rw [if_neg hl] at h; obtain rfl := Option.some.inj h; have d0 : decide (4000 < (l0.length : Int)) = false := decide_eq_false (by omega); have d1 : decide (4000 < l0.length) = false := decide_eq_false hl; have HL := aM (show l0.length ≤ 4000 by omega); clear hl h; obtain ⟨y0, eya⟩ : ∃ y_ : List Int, y_ = (([] : List Int)) := ⟨_, rfl⟩; obtain ⟨y1, eyb⟩ : ∃ y_ : List Int, y_ = y0 ++ l0 := ⟨_, rfl⟩; obtain ⟨y2, eyc⟩ : ∃ y_ : List Int, y_ = y1 ++ [128] := ⟨_, rfl⟩; have N0 := aM eya; have N1 := aM eyb; have N2 := aM eyc; have L1 := aM (show y0.length + l0.length < 140737488355328 by rw [eya]; have := HL.out; simp; omega); have L2 := aM (show y1.length < 140737488355328 by rw [eyb, eya]; have := HL.out; simp; omega); clear eya eyb eyc; go_enter Try.func32, Try.ntmps32
    go_wp2_with (first
      | ((with_reducible refine gD 12 rfl ?_); refine Kd.R_lit (Kd.int .u8) _ 5 ?hg (N := 12) ?hd (xs := ([] : List Int)) (inner := []) (ok := fun _ => True) (okp := fun _ => True) ?hr ?hp (fun _ hk => hk) trivial (Below.refl _ _) (Nat.le_refl _) (by simp) ?_; (case hd => rfl); (case hg => rfl); (case hr => first | (go_simp; done) | (go_simp; rfl)); (case hp => exact (Reps.none _ _)); intro v182 w9 aA hb hg_ hnew_; clear hg_ hnew_; rw [← N0.out] at aA; have aD := aM (Kd.R_lower aA (below_size xbel)); replace HB := xbs hb; clear hb aA)
      | ((with_reducible refine gate_builtin (b := .append) (xs := #[.tmp 12, .tmp 13]) rfl ?_); at_builtin; refine Kd.R_append_rows (Kd.int .u8) (w0 := w) w.heap.size rfl (.tmp 12) (.tmp 13) 22 5 (.int .u8 0) 1 rfl Try.underlying22 info5 rfl (by decide) (by omega) v182 y0 l0 _ _ _ (fun _ => True) (fun _ => False) rfl rfl ?aO ?aR (fun _ _ h => h) (fun _ h => h.elim) ?aF ?aB ?aS ?aL ?_; (case aR => exact xcb bH); (case aB => exact xbel); (case aF => exact u1_1); (case aO => exact (xr aD)); (case aS => exact (below_size xbel)); (case aL => have := L1.out; omega); intro v185 bV ho hb hg hat; rw [← N1.out] at ho; replace HB := aM (hb); have aE := aM (ho); clear aD; clear ho hb hg hat)
      | ((with_reducible refine gate_builtin (b := .append) (xs := #[.tmp 14, .tmp 15]) rfl ?_); at_builtin; refine Kd.R_append (Kd.int .u8) (w0 := w) w.heap.size rfl (.tmp 14) (.tmp 15) 22 5 (.int .u8 0) 1 rfl Try.underlying22 info5 rfl (by decide) (by omega) v185 y1 128 [.int .u8 128] (fun _ => True) (fun _ => False) rfl rfl ?aP (fun _ hk => hk.elim) ?aF ?aO ?aB ?aS ?aL ?_; (case aP => exact rfl); (case aB => exact xbel); (case aF => exact u1_1); (case aO => exact (xr aE)); (case aS => exact (below_size xbel)); (case aL => have := L2.out; omega); intro v188 cA ho hb hg hat; rw [← N2.out] at ho; replace HB := aM (hb); have aG := aM (ho); clear aE; clear ho hb hg hat))
    obtain ⟨M, hM⟩ : ∃ y_ : List Int, y_ = y2 ++ List.replicate (padK y2.length) 0 := ⟨_, rfl⟩; have NM := aM hM; have eycl : y2.length = l0.length + 1 := by rw [N2.out, N1.out, N0.out]; simp
    have hMl : Aside0 (M.length % 64 = 56 ∧ M.length ≤ 4064) := ⟨by rw [hM, List.length_append, List.length_replicate]; have := HL.out; unfold padK; omega⟩; have NT := aM (show M = (l0 ++ [128]) ++ List.replicate (padK (l0.length + 1)) 0 by rw [hM, eycl, N2.out, N1.out, N0.out]; rfl); clear hM eycl; go_loopg [3] 64 (fun gg s3 w' => ∃ (m : List Int) (k : Nat), k ≤ 63 ∧ k ≤ gg ∧ Aside0 (m ++ List.replicate k 0 = M) ∧ Aside0 (Kd.R (Kd.int .u8) 5 w' w.heap.size (fun _ => True) s3 m) ∧ Aside0 (Below w.heap.size w w'))
    case atStart => exact ⟨y2, padK y2.length, by unfold padK; omega, by unfold padK; omega, ⟨NM.out.symm⟩, aG, HB⟩
    clear aG HB
    case round =>
      obtain ⟨m, k, hk, hg, HM, HO, HB⟩ := hrel; have hml : m.length + k = M.length := by rw [← HM.out]; simp
      have hm8 := hMl.out; by_cases hc : m.length % 64 = 56
      · obtain rfl : k = 0 := by omega
        have c0 : (((m.length : Int) % 64) == 56) = true := beq_iff_eq.mpr (by omega); have c1 : (((m.length : Int) % 64) != 56) = false := bne_eq_false_iff_eq.mpr (by omega); have c2 : (m.length : Int) % 64 = 56 := by omega
        have hm : m = M := by rw [← HM.out]; simp
        have HMM := aM hm; clear hc hml hm8 hg hk hm; obtain ⟨Ao, co, eo⟩ := Kd.R_slice HO.out; subst eo; go_wp2; clear c0 c1 c2; obtain ⟨T, hT⟩ : ∃ y_ : List Int, y_ = txtI l0 := ⟨_, rfl⟩; have HT0 := aM (show m ++ (List.range 8).reverse.map (lbI l0) = T by rw [hT, HMM.out, NT.out]; rfl); have HTL : Aside0 (T.length % 64 = 0 ∧ T.length ≤ 4072) := ⟨by rw [← HT0.out, HMM.out]; have := hMl.out; simp; omega⟩; have NTT := aM hT; clear hT; go_loopg [3, 4] 9 (fun gg s3 s4 w' => ∃ (m : List Int) (n : Nat), n ≤ 8 ∧ n ≤ gg ∧ s4 = .int .i64 ((n : Int) - 1) ∧ Aside0 (m ++ (List.range n).reverse.map (lbI l0) = T) ∧ Aside0 (Kd.R (Kd.int .u8) 5 w' w.heap.size (fun _ => True) s3 m) ∧ Aside0 (Below w.heap.size w w'))
        case atStart => exact ⟨m, 8, by omega, by omega, rfl, HT0, HO, HB⟩
        clear HT0 HO HB
        case round =>
          obtain ⟨m, n, hn, hg, rfl, HT0, HO, HB⟩ := hrel; cases n with
          | zero =>
            have c0 : ¬ (0 : Int) ≤ ((0 : Nat) : Int) - 1 := by omega
            have c1 : decide ((0 : Int) ≤ ((0 : Nat) : Int) - 1) = false := decide_eq_false c0; have hm : m = T := by rw [← HT0.out]; simp
            have HMT := aM hm; clear hg hn hm; obtain ⟨Ao, co, eo⟩ := Kd.R_slice HO.out; subst eo; have hme : Aside0 (m.length = T.length) := ⟨by rw [HMT.out]⟩; have HCT := aM (show Kd.C (Kd.int .u8) wr Ao m.length m from (Kd.R_reads' HO.out).2.2); have HCL := aM (show m.length ≤ co from (Kd.R_reads' HO.out).2.1); clear HO c0 c1; obtain ⟨z8, z, hz8⟩ := zero100; have s100 := Aside0.mk size100; generalize hW0 : wr = W0 at *; clear hW0; go_upto_region 11 with (first
              | (go_at_call 88; (with_reducible refine (firstWords_calls _).mono ?_); rintro e w5 ⟨rfl, aI⟩; have HB5 := Aside0.mk aI; clear aI)
              | ((with_reducible refine gate_store (p := 5) rfl ?_); refine wpl_store w5.heap.size firstI z8 100 _ _ rfl rfl rfl rfl (arr_new _ _) s100.out hz8.out ?_))
            have F7 := aM (setRow_heap _ _ (ints z8) (ints firstI) _ _ (arr_new w5 (.cells (ints z8) 100))); have B7 := aM (below_setRow (HB5.out.alloc HB5.out.size (.cells (ints z8) 100)) HB5.out.size (ints firstI)); have q5 := aM HB5.out.size; obtain ⟨n5, hn5⟩ : ∃ n, n = w5.heap.size := ⟨_, rfl⟩; generalize (w5.alloc (.cells (ints z8) 100)).setRow w5.heap.size (ints firstI) = w7 at *; rw [← hn5] at F7 q5 ⊢; clear hn5 HB5 z hz8
            dsimp only [Act.put]
            go_loopg [3] 64 (fun gg s3 w' => ∃ (n : Nat) (tx : List Int) (A' : Option Addr) (c' : Nat) (hv : List Int), n ≤ gg ∧ s3 = .slice A' tx.length c' ∧ Aside0 (tx.length = 64 * n) ∧ Aside0 (tx.length ≤ c') ∧ Aside0 (Kd.C (Kd.int .u8) W0 A' tx.length tx) ∧ Aside0 (blksI n tx hv = blksI (T.length / 64) T firstI) ∧ Aside0 (hv.length = 8) ∧ Aside0 (w'.heap[n5]? = some (.cells (ints hv) 100 (0, 0))) ∧ Aside0 (Below W0.heap.size W0 w'))
            case atStart => exact ⟨T.length / 64, m, Ao, co, firstI, by have := HTL.out; omega, rfl, ⟨by rw [hme.out]; have := HTL.out; omega⟩, HCL, HCT, ⟨by rw [HMT.out]⟩, ⟨rfl⟩, F7, B7⟩
            clear F7 B7
            case round =>
              obtain ⟨n, tx, A', c', hv, hg, rfl, HN, HCL, HCT, HBK, HVL, F7, B7⟩ := hrel; cases n with
              | zero =>
                have hz : tx.length = 0 := by have := HN.out; omega
                obtain rfl : tx = [] := List.length_eq_zero_iff.mp hz; have HF : Aside0 (hv = blksI ((txtI l0).length / 64) (txtI l0) firstI) := ⟨by rw [← NTT.out]; exact HBK.out⟩; replace HB := aM (HB.out.trans (B7.out.mono HB.out.size)); clear hz HBK HN HCL HCT hg B7; obtain ⟨y0, eya⟩ : ∃ y_ : List Int, y_ = (([] : List Int)) := ⟨_, rfl⟩; have N9 := aM eya; clear eya; go_upto_region 15 with ((with_reducible refine gD 49 rfl ?_); refine Kd.R_lit (Kd.int .u8) _ 5 ?hg (N := 49) ?hd (xs := ([] : List Int)) (inner := []) (ok := fun _ => True) (okp := fun _ => True) ?hr ?hp (fun _ hk => hk) trivial (Below.refl _ _) (Nat.le_refl _) (by simp) ?_; (case hd => rfl); (case hg => rfl); (case hr => first | (go_simp; done) | (go_simp; rfl)); (case hp => exact (Reps.none _ _)); intro vo w9 aA hb hg_ hnew_; clear hg_ hnew_; rw [← N9.out] at aA; have HO := aM (Kd.R_lower aA (below_size xbel)); have F9 := aM ((hb.block n5 (Array.getElem?_eq_some_iff.1 F7.out).1).trans F7.out); replace HB := xbs hb; clear hb aA)
                (try dsimp only [Act.put]); go_wp2_with ((with_reducible refine gD 50 rfl ?_); refine wpl_load n5 hv 100 3 8 _ rfl rfl rfl F9.out Try.underlying100 (by rw [HVL.out]; exact s100.out) ?_)
                go_loopg [6, 8, 51] 8 (fun gg s6 s8 s51 w' => ∃ (i : Nat) (y : List Int), i ≤ 8 ∧ 8 - i ≤ gg ∧ s51 = .int .i64 (i : Int) ∧ Aside0 (y = ((List.range i).map fun (j : Nat) => outI (rd hv (j : Int))).flatten) ∧ Aside0 (y.length = 4 * i) ∧ Aside0 (Kd.R (Kd.int .u8) 5 w' w.heap.size (fun _ => True) s6 y) ∧ Aside0 (Below w.heap.size w w'))
                case atStart => exact ⟨0, y0, by omega, by omega, rfl, ⟨by rw [N9.out]; rfl⟩, ⟨by rw [N9.out]; rfl⟩, HO, HB⟩
                clear HO HB F9 F7
                case round =>
                  obtain ⟨i, y, h8, hg, rfl, HY, HYL, HO, HB⟩ := hrel; by_cases hlt : i < 8
                  · have L0 := eq_true (show (i : Int) < 8 by omega); have A2 := Aside0.mk hlt; have hidx := index_ints hv i hlt HVL.out; obtain ⟨x, hx⟩ : ∃ x, rd hv (i : Int) = x := ⟨_, rfl⟩; rw [hx] at hidx; obtain ⟨y1, eyb⟩ : ∃ l, l = [x / 16777216 % 256, (Go.bits .and .i64 (x / 65536) 255) % 256, (Go.bits .and .i64 (x / 256) 255) % 256, (Go.bits .and .i64 x 255) % 256] := ⟨_, rfl⟩; obtain ⟨y2, eyc⟩ : ∃ l, l = y ++ y1 := ⟨_, rfl⟩; have hyl := HYL.out; have M1 := aM eyb; have M2 := aM eyc; have M3 := aM (show y2 = ((List.range (i + 1)).map fun (j : Nat) => outI (rd hv (j : Int))).flatten by rw [eyc, eyb, HY.out, List.range_succ, List.map_append, List.flatten_append]; simp [outI, hx]); have M4 := aM (show y2.length = 4 * (i + 1) by rw [eyc, eyb, List.length_append, hyl]; simp; omega); have L5 := aM (show (y.length + y1.length) < 140737488355328 by rw [hyl, eyb]; simp; omega); obtain ⟨Ao, co, eo⟩ := Kd.R_slice HO.out; subst eo; have AG := aM hg; clear hx eyb eyc hyl hlt h8 hg; go_wp2_with (first
                      | ((with_reducible refine gD 69 rfl ?_); refine Kd.R_lit (Kd.int .u8) _ 5 ?hg (N := 69) ?hd (xs := ([x / 16777216 % 256, (Go.bits .and .i64 (x / 65536) 255) % 256, (Go.bits .and .i64 (x / 256) 255) % 256, (Go.bits .and .i64 x 255) % 256] : List Int)) (inner := [.int .u8 (x / 16777216 % 256), .int .u8 ((Go.bits .and .i64 (x / 65536) 255) % 256), .int .u8 ((Go.bits .and .i64 (x / 256) 255) % 256), .int .u8 ((Go.bits .and .i64 x 255) % 256)]) (ok := fun _ => True) (okp := fun _ => True) ?hr ?hp (fun _ hk => hk) trivial (Below.refl _ _) (Nat.le_refl _) (by simp) ?_; (case hd => rfl); (case hg => rfl); (case hr => first | (go_simp; done) | (go_simp; rfl)); (case hp => exact (Reps.one (show Kd.M (Kd.int .u8) _ _ _ (x / 16777216 % 256) [.int .u8 (x / 16777216 % 256)] from rfl) (Reps.one (show Kd.M (Kd.int .u8) _ _ _ ((Go.bits .and .i64 (x / 65536) 255) % 256) [.int .u8 ((Go.bits .and .i64 (x / 65536) 255) % 256)] from rfl) (Reps.one (show Kd.M (Kd.int .u8) _ _ _ ((Go.bits .and .i64 (x / 256) 255) % 256) [.int .u8 ((Go.bits .and .i64 (x / 256) 255) % 256)] from rfl) (Reps.one (show Kd.M (Kd.int .u8) _ _ _ ((Go.bits .and .i64 x 255) % 256) [.int .u8 ((Go.bits .and .i64 x 255) % 256)] from rfl) (Reps.none _ _)))))); intro v211 cB aH hb hg_ hnew_; clear hg_ hnew_; rw [← M1.out] at aH; have bE := aM aH; replace HO := aM (Kd.R_below HO.out hb); replace HB := xbs hb; clear hb aH; obtain ⟨Al, cl, el⟩ := Kd.R_slice bE.out; subst el)
                      | ((with_reducible refine gate_builtin (b := .append) (xs := #[.tmp 54, .tmp 69]) rfl ?_); at_builtin; refine Kd.R_append_rows (Kd.int .u8) (w0 := w) w.heap.size rfl (.tmp 54) (.tmp 69) 22 5 (.int .u8 0) 1 rfl Try.underlying22 info5 rfl (by decide) (by omega) (.slice Ao y.length co) y y1 Al _ cl (fun _ => True) (fun _ => False) rfl rfl ?aO ?aR (fun _ _ h => h) (fun _ h => h.elim) ?aF ?aB ?aS ?aL ?_; (case aR => exact (Kd.R_reads' bE.out).2.2); (case aB => exact xbel); (case aF => exact u1_1); (case aO => exact (xr HO)); (case aS => exact (below_size xbel)); (case aL => have := L5.out; omega); intro v185 bV ho hb hg hat; rw [← M2.out] at ho; replace HB := aM (hb); have bW := aM (ho); clear HO bE; clear ho hb hg hat))
                    go_roundg (8 - (i + 1))
                    case measure => have := A2.out; have := AG.out; omega
                    case rel =>
                      have := A2.out; exact ⟨i + 1, y2, by omega, by omega, congrArg (Value.int .i64) (by first | rfl | (rw [w64I (by omega) (by omega)]; omega) | omega), M3, M4, bW, HB⟩
                  · obtain rfl : i = 8 := by omega
                    have hr : Aside0 (y = shaI l0) := ⟨by rw [HY.out, HF.out]; rfl⟩; clear hlt h8 hg HY; go_wp2; go_ret
                    exact ⟨_, rfl, by rw [← hr.out]; exact HO.out, HB.out⟩
              | succ n =>
                have hn : tx.length = 64 * (n + 1) := HN.out; have c0 := eq_true (show (0 : Int) < (tx.length : Int) by omega); have c1 : decide ((0 : Int) < (tx.length : Int)) = true := decide_eq_true (by omega); have c2 := eq_true (show 0 < tx.length by omega); obtain ⟨i0, hi0, _, hsz, _⟩ := info_parts info5; have bL := cut_to (P := Try.prog) 22 5 .i64 Try.underlying22 hi0 A' tx.length c' 64 (by omega) (by omega) HCL.out; have bM := cut_from (P := Try.prog) 22 5 .i64 Try.underlying22 hi0 1 hsz A' tx.length c' 64 (by omega) (by omega); have k1 := Kd.C_take (m := 64) HCT.out (by omega); have k2 := Kd.C_drop (m := 64) (c := c') HCT.out (by omega) HCL.out; have t1 : (tx.take 64).length = 64 := by rw [List.length_take]; omega
                have t2 : (tx.drop 64).length = tx.length - 64 := List.length_drop; obtain ⟨A2, hA2⟩ : ∃ A1, A1 = (if c' = 64 then A' else A'.map (·.add (64 * 1))) := ⟨_, rfl⟩; obtain ⟨ty, hty⟩ : ∃ l, l = tx.drop 64 := ⟨_, rfl⟩; replace bM : ∀ W : World, (Instr.slice 22 (.slice A' tx.length c') (some (.int .i64 64)) none none).run Try.prog W = .ok (.slice A2 ty.length (c' - 64)) W := by
                  intro W; rw [bM W, hA2, hty, t2]; rfl
                replace bL : ∀ W : World, (Instr.slice 22 (.slice A' tx.length c') none (some (.int .i64 64)) none).run Try.prog W = .ok (.slice A' 64 c') W := bL; have K2 := aM (show Kd.C (Kd.int .u8) W0 A2 ty.length ty by rw [hA2, hty]; exact k2); have KL2 := aM (show ty.length ≤ c' - 64 by have := HCL.out; rw [hty, t2]; omega); have KN2 := aM (show ty.length = 64 * n by rw [hty, t2]; omega); have hr : Aside0 (∀ W : World, Below W0.heap.size W0 W → Calls Try.prog 89 #[.agg (ints hv), .slice A' 64 c'] W fun e w' => e = .returned (.agg (ints (blockI hv (tx.take 64)))) ∧ Below W.heap.size W w') := ⟨fun W hb => round_calls A' c' hv (tx.take 64) W HVL.out (Kd.C_below k1 hb) (by rw [t1]; have := HCL.out; omega) t1⟩; have HB2 := aM (show blksI n ty (blockI hv (tx.take 64)) = blksI (T.length / 64) T firstI by rw [hty, ← HBK.out]; rfl); have BL : Aside0 ((blockI hv (tx.take 64)).length = 8) := ⟨addI_len _ _ _⟩; have AG := aM hg; clear hn hi0 hsz k1 k2 t1 t2 hA2 hty hg; have x0 : wr.cell? ⟨n5, 0, none⟩ = some (.int .i64 (rd hv 0)) := arr_cell F7.out 0 (by rw [HVL.out]; omega); have x1 : wr.cell? ⟨n5, 1, none⟩ = some (.int .i64 (rd hv 1)) := arr_cell F7.out 1 (by rw [HVL.out]; omega); have x2 : wr.cell? ⟨n5, 2, none⟩ = some (.int .i64 (rd hv 2)) := arr_cell F7.out 2 (by rw [HVL.out]; omega); have x3 : wr.cell? ⟨n5, 3, none⟩ = some (.int .i64 (rd hv 3)) := arr_cell F7.out 3 (by rw [HVL.out]; omega); have x4 : wr.cell? ⟨n5, 4, none⟩ = some (.int .i64 (rd hv 4)) := arr_cell F7.out 4 (by rw [HVL.out]; omega); have x5 : wr.cell? ⟨n5, 5, none⟩ = some (.int .i64 (rd hv 5)) := arr_cell F7.out 5 (by rw [HVL.out]; omega); have x6 : wr.cell? ⟨n5, 6, none⟩ = some (.int .i64 (rd hv 6)) := arr_cell F7.out 6 (by rw [HVL.out]; omega); have x7 : wr.cell? ⟨n5, 7, none⟩ = some (.int .i64 (rd hv 7)) := arr_cell F7.out 7 (by rw [HVL.out]; omega); go_wp2; go_still_tail 3, (by kernel_rfl)
                change wpList _ _ _ _ _ wr.drew
                clear x0 x1 x2 x3 x4 x5 x6 x7; have hlt5 := aM (Array.getElem?_eq_some_iff.1 F7.out).1; go_wp2_with (first
                  | (go_at_call 89; (refine calls_of_args (args' := #[.agg (ints hv), .slice A' 64 c']) (congrArg (fun v => #[Value.agg v, Value.slice A' 64 c']) (ints_eight hv HVL.out).symm) ((hr.out _ B7.out.drew).mono ?_)); rintro e w9 ⟨rfl, bN⟩; have HB9 := Aside0.mk bN; have F9 := aM ((HB9.out.block n5 hlt5.out).trans F7.out); clear bN)
                  | ((with_reducible refine gate_store (p := 5) rfl ?_); refine wpl_store n5 (blockI hv (tx.take 64)) hv 100 _ _ rfl rfl rfl rfl F9.out (by rw [BL.out]; exact s100.out) (HVL.out.trans BL.out.symm) ?_))
                go_roundg n
                case measure => have := AG.out; omega
                case rel => exact ⟨n, ty, A2, c' - 64, blockI hv (tx.take 64), by omega, rfl, KN2, KL2, K2, HB2, BL, ⟨setRow_heap _ _ _ _ _ _ F9.out⟩, ⟨below_setRow (B7.out.drew.trans (HB9.out.mono B7.out.drew.size)) q5.out _⟩⟩
          | succ n =>
            rw [show (((n + 1 : Nat) : Int) - 1) = (n : Int) by omega]; have c0 := eq_true (show (0 : Int) ≤ (n : Int) by omega); have c1 : decide ((0 : Int) ≤ (n : Int)) = true := decide_eq_true (by omega); have hml : m.length + (n + 1) = T.length := by rw [← HT0.out]; simp
            have htl := HTL.out; obtain ⟨X, hX⟩ : ∃ j_ : Int, wrap64 (8 * (l0.length : Int)) = j_ := ⟨_, rfl⟩; obtain ⟨j8, hj8⟩ : ∃ j_ : Int, ((8 * n : Nat) : Int) = j_ := ⟨_, rfl⟩; obtain ⟨sh, hsh⟩ : ∃ j_ : Int, shr .i64 X j8 = j_ := ⟨_, rfl⟩; have e1 : IntKind.i64.wrap (8 * (l0.length : Int)) = X := (i64_w _).trans hX; have e2 : IntKind.i64.wrap (8 * (n : Int)) = j8 := (i64_w _).trans (by rw [w64I (by omega) (by omega), ← hj8]; omega); have e3 := eq_true (show 0 ≤ j8 by omega); have e4 : decide (0 ≤ j8) = true := decide_eq_true (by omega); have e5 : (X / 2 ^ min j8.toNat 64) = sh := hsh; obtain ⟨v, hv⟩ : ∃ j_ : Int, (Go.bits .and .i64 sh 255) % 256 = j_ := ⟨_, rfl⟩; have hlb : lbI l0 n = v := by unfold lbI; rw [hX, hj8, hsh, hv]
            obtain ⟨y3, eyd⟩ : ∃ y_ : List Int, y_ = m ++ [v] := ⟨_, rfl⟩; have N3 := aM eyd; have L3 := aM (show m.length < 140737488355328 by omega); have AG := aM hg; have AK := aM hn; have HT1 := aM (show y3 ++ (List.range n).reverse.map (lbI l0) = T by rw [eyd, ← HT0.out, List.range_succ, List.reverse_append, List.map_append, List.append_assoc]; simp [hlb]); clear hml hg hn eyd hX hj8 hsh hlb htl HT0; obtain ⟨Ao, co, eo⟩ := Kd.R_slice HO.out; subst eo; go_wp2_with (((with_reducible refine gate_builtin (b := .append) (xs := #[.tmp 28, .tmp 37]) rfl ?_); at_builtin; refine Kd.R_append (Kd.int .u8) (w0 := w) w.heap.size rfl (.tmp 28) (.tmp 37) 22 5 (.int .u8 0) 1 rfl Try.underlying22 info5 rfl (by decide) (by omega) (.slice Ao m.length co) m v [.int .u8 v] (fun _ => True) (fun _ => False) rfl rfl ?aP (fun _ hk => hk.elim) ?aF ?aO ?aB ?aS ?aL ?_; (case aP => exact rfl); (case aB => exact xbel); (case aF => exact u1_1); (case aO => exact (xr HO)); (case aS => exact (below_size xbel)); (case aL => have := L3.out; omega); intro v3 bX ho hb hg hat; rw [← N3.out] at ho; replace HB := aM (hb); have bG := aM (ho); clear HO; clear ho hb hg hat))
            go_roundg n
            case measure => have := AG.out; omega
            case rel => have := AK.out; exact ⟨y3, n, by omega, by omega, congrArg (Value.int .i64) (by rw [w64I (by omega) (by omega)]), HT1, bG, HB⟩
      · have c0 : (((m.length : Int) % 64) == 56) = false := beq_eq_false_iff_ne.mpr (by omega); have c1 : (((m.length : Int) % 64) != 56) = true := bne_iff_ne.mpr (by omega); have c2 : ¬ (m.length : Int) % 64 = 56 := by omega
        obtain ⟨k', rfl⟩ : ∃ k', k = k' + 1 := ⟨k - 1, by omega⟩; obtain ⟨y3, eyd⟩ : ∃ y_ : List Int, y_ = m ++ [0] := ⟨_, rfl⟩; have N3 := aM eyd; have L3 := aM (show m.length < 140737488355328 by omega); have AG := aM hg; have AK := aM hk; have HM' := aM (show y3 ++ List.replicate k' 0 = M by rw [eyd, ← HM.out, List.append_assoc]; rfl); clear hc hml hm8 hg hk eyd; obtain ⟨Ao, co, eo⟩ := Kd.R_slice HO.out; subst eo; go_wp2_with (((with_reducible refine gate_builtin (b := .append) (xs := #[.tmp 21, .tmp 22]) rfl ?_); at_builtin; refine Kd.R_append (Kd.int .u8) (w0 := w) w.heap.size rfl (.tmp 21) (.tmp 22) 22 5 (.int .u8 0) 1 rfl Try.underlying22 info5 rfl (by decide) (by omega) (.slice Ao m.length co) m 0 [.int .u8 0] (fun _ => True) (fun _ => False) rfl rfl ?aP (fun _ hk => hk.elim) ?aF ?aO ?aB ?aS ?aL ?_; (case aP => exact rfl); (case aB => exact xbel); (case aF => exact u1_1); (case aO => exact (xr HO)); (case aS => exact (below_size xbel)); (case aL => have := L3.out; omega); intro v3 bX ho hb hg hat; rw [← N3.out] at ho; replace HB := aM (hb); have bG := aM (ho); clear HO; clear ho hb hg hat))
        go_roundg k'
        case measure => have := AG.out; omega
        case rel => exact ⟨y3, k', by have := AK.out; omega, by omega, HM', bG, HB⟩


end Go.Proofs.Ytoojdlobnbakoaa.QFnHex
