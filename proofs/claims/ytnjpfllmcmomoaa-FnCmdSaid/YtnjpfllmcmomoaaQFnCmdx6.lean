-- A walk, by a program of this session.
import Derived.Test.YtnjpfllmcmomoaaQFnCmdx0
import Derived.Test.YtnjpfllmcmomoaaQFnCmdx1
import Derived.Test.YtnjpfllmcmomoaaQFnCmdx5
namespace Go.Proofs.Ytnjpfllmcmomoaa.QFnCmd
open Go.RowKit Go.Proofs.YtnjpfllmcmomoaaW.PrintWords Go.Proofs.YtnjpfllmcmomoaaW.PrintLast Go.Proofs.YtnjpfllmcmomoaaW.PrintMore
attribute [local go_sem] max2_int min2_int max_two min_two max_three min_three max_four min_four   -- for this text's walks alone
set_option linter.unusedVariables false
set_option linter.unusedSimpArgs false

attribute [local go_sem high] eqA34
/-! ### impl_putNums: function 86 -/
def impl_putNums.l0 : Nat → List Int → List Int → Int → Int → Option (List Int)
 | 0, _, _, _, _ => none
 | k + 1, x3, x7, x8, x9 => if x9 < x8 then (if 0 ≤ x9 then (if x9 < (x7.length : Int) then ((impl_PutNum.f k (rd x7 x9)).bind fun t331 => (if x3.length + t331.length < 140737488355328 then (impl_putNums.l0 k (x3 ++ t331) x7 x8 (wrap64 (x9 + 1))) else (none))) else (none)) else (none)) else (some x3)
def impl_putNums.f (k : Nat) (l0 : List Int) : Option (List Int) := impl_putNums.l0 k (([] : List Int)) l0 (l0.length : Int) 0
set_option maxRecDepth 100000 in
theorem impl_putNums.mono_l : ∀ k, (∀ y0 y1 y2 y3, LeO (impl_putNums.l0 k y0 y1 y2 y3) (impl_putNums.l0 (k + 1) y0 y1 y2 y3))
 | 0 => fun _ _ _ _ r h => by simp [impl_putNums.l0] at h
 | k + 1 => by
  have ih0 := impl_putNums.mono_l k
  ·intro y0 y1 y2 y3
   unfold impl_putNums.l0
   repeat' first
   | (with_reducible exact ih0 _ _ _ _)
   | (with_reducible exact impl_PutNum.mono _ _)
   | (with_reducible exact LeO.refl _)
   | (with_reducible exact LeO.none _)
   | (with_reducible refine LeO.ite ?_ ?_)
   | (with_reducible refine LeO.bind ?_ (fun _ => ?_))
   | exact ih0 _ _ _ _
   | exact impl_PutNum.mono _ _
   | exact LeO.none _
   | refine LeO.ite ?_ ?_
   | refine LeO.bind ?_ (fun _ => ?_)
theorem impl_putNums.mono : ∀ a0 k, LeO (impl_putNums.f k a0) (impl_putNums.f (k + 1) a0) := by
 intro a0 k
 have ih0 := impl_putNums.mono_l k
 unfold impl_putNums.f
 repeat' first
  | (with_reducible exact ih0 _ _ _ _)
  | (with_reducible exact impl_PutNum.mono _ _)
  | (with_reducible exact LeO.refl _)
  | (with_reducible exact LeO.none _)
  | (with_reducible refine LeO.ite ?_ ?_)
  | (with_reducible refine LeO.bind ?_ (fun _ => ?_))
  | exact ih0 _ _ _ _
  | exact impl_PutNum.mono _ _
  | exact LeO.none _
  | refine LeO.ite ?_ ?_
  | refine LeO.bind ?_ (fun _ => ?_)
set_option maxHeartbeats 8000000 in
set_option maxRecDepth 100000 in
theorem impl_putNums.calls (k : Nat) (A0 : Option Addr) (c0 : Nat) (l0 : List Int) (r : List Int) (w : World) (hr0 : Kd.C (Kd.int .i64) w A0 l0.length l0) (hc0 : l0.length ≤ c0) (h : impl_putNums.f k l0 = some r) :
 Calls Try.prog 86 #[.slice A0 l0.length c0] w fun e w' => ∃ v0_ : Value, e = .returned (v0_) ∧ Kd.R (Kd.int .u8) 5 w' w.heap.size (fun _ => True) v0_ r ∧ Below w.heap.size w w' := by
 have HR0 := aM hr0
 have HC0 := aM hc0
 clear hr0 hc0
 have HB := aM (Below.refl w.heap.size w)
 have H : (impl_putNums.l0 k (([] : List Int)) l0 (l0.length : Int) 0) = some r := h
 clear h
 obtain ⟨y327, hy327⟩ : ∃ y_ : List Int, y_ = (([] : List Int)) := ⟨_, rfl⟩
 replace H : (impl_putNums.l0 k y327 l0 (l0.length : Int) 0) = some r := by first | (rw [hy327]; with_reducible exact H) | (have H2_ := (Option.bind_some _ _).symm.trans H; rw [hy327]; with_reducible exact H2_) | (have H2_ := (Option.bind_some _ _).symm.trans H; with_reducible exact H2_) | with_reducible exact H | (rw [hy327]; exact H) | exact H
 have Ny327 := aM hy327
 clear hy327
 have H' := aM H
 clear H
 go_enter Try.func86, Try.ntmps86
 go_wp2_with (first | ((with_reducible refine gate_dst (N := 6) rfl ?_); refine Kd.R_lit (Kd.int .u8) _ 5 ?hg (N := 6) ?hd (xs := ([] : List Int)) (inner := []) (ok := fun _ => True) (okp := fun _ => True) ?hr ?hp (fun _ hk => hk) trivial (Below.refl _ _) (Nat.le_refl _) (by simp) ?_; (case hd => rfl); (case hg => rfl); (case hr => first | (go_simp; done) | (go_simp; rfl)); (case hp => exact (Reps.none _ _)); intro v328 w2 ho3 hb hg_ hnew_; clear hg_ hnew_; (first | rw [← Ny327.out] at ho3 | (simp only [Int.reduceToNat] at ho3; rw [← Ny327.out] at ho3)); have HO329 := aM (Kd.R_lower ho3 (below_size xbel)); replace HB := xbs hb; clear hb ho3))
 go_loopg [3, 9] k (fun kq v3 v9 w' => ∃ (x3_1 : List Int) (x9_1 : Int), v9 = .int .i64 x9_1 ∧ Aside0 (impl_putNums.l0 kq x3_1 l0 (l0.length : Int) x9_1 = some r) ∧ Aside0 (kq ≤ k) ∧ Aside0 (Kd.R (Kd.int .u8) 5 w' w.heap.size (fun _ => True) v3 x3_1) ∧ Aside0 (Below w.heap.size w w'))
 case atStart => exact ⟨(y327), (0), (by first | rfl | (simp; done) | (simp [*]; done)), H', ⟨Nat.le_refl _⟩, ⟨by (with_reducible repeat (first | apply Kd.R_alloc | apply Kd.R_drewN | apply Kd.R_drew)); exact HO329.out⟩, ⟨xbel⟩⟩
 case round =>
  clear H'
  try clear p2
  obtain ⟨x3_1, x9_1, rfl, HA, HK1, HO_3, HB⟩ := hrel
  cases gk with
  | zero => exact absurd HA.out (by simp [impl_putNums.l0])
  | succ k1 =>
   have H := HA.out; clear HA
   simp only [impl_putNums.l0] at H
   by_cases c4 : x9_1 < (l0.length : Int)
   ·rw [if_pos c4] at H
    have c4b0 : decide (x9_1 < (l0.length : Int)) = true := decide_eq_true c4; clear c4
    by_cases c5 : 0 ≤ x9_1
    ·rw [if_pos c5] at H
     have c5b0 : decide (0 ≤ x9_1) = true := decide_eq_true c5; clear c5
     by_cases c6 : x9_1 < (l0.length : Int)
     ·rw [if_pos c6] at H
      have c6b0 : decide (x9_1 < (l0.length : Int)) = true := decide_eq_true c6; clear c6; replace H := Option.bind_eq_some_iff.mp H
      obtain ⟨t331, A70, H⟩ := H
      replace H : (if x3_1.length + t331.length < 140737488355328 then (impl_putNums.l0 k1 (x3_1 ++ t331) l0 (l0.length : Int) (wrap64 (x9_1 + 1))) else (none)) = some r := H; have A7 := aM A70; clear A70
      by_cases c8 : x3_1.length + t331.length < 140737488355328
      ·rw [if_pos c8] at H
       have LMc8 := aM c8; clear c8
       obtain ⟨y334, hy334⟩ : ∃ y_ : List Int, y_ = (x3_1 ++ t331) := ⟨_, rfl⟩
       replace H : (impl_putNums.l0 k1 y334 l0 (l0.length : Int) (wrap64 (x9_1 + 1))) = some r := by first | (rw [hy334]; with_reducible exact H) | (have H2_ := (Option.bind_some _ _).symm.trans H; rw [hy334]; with_reducible exact H2_) | (have H2_ := (Option.bind_some _ _).symm.trans H; with_reducible exact H2_) | with_reducible exact H | (rw [hy334]; exact H) | exact H
       have Ny334 := aM hy334; clear hy334
       have H' := aM H
       clear H; have p330 : 0 ≤ (x9_1 : Int) := of_decide_eq_true (by first | (with_reducible assumption) | assumption); have q330 : x9_1 < (l0.length : Int) := of_decide_eq_true (by first | (with_reducible assumption) | assumption)
       obtain ⟨ad330, e330, hx330_0⟩ := Kd.at_int HR0.out x9_1 p330 q330
       cases e330
       replace hx330_0 := xce HB hx330_0; replace p330 := eq_true p330; replace q330 := eq_true q330
       go_wp2_with (first | ((with_reducible refine gate_callee (f := 85) rfl ?_); refine goesL_ (some 15) rfl rfl Try.func85 (by kernel_rfl) rfl #[.int .i64 (rd l0 x9_1)] rfl (by (try simp only [List.map_toArray, List.map_cons, List.map_nil]); first | done | rfl | (simp only [List.length_drop, List.length_take]; rfl)) ?_; (with_reducible refine (impl_PutNum.calls k1 (rd l0 x9_1) t331 _ A7.out).mono ?_); rintro e w9 ⟨v332, rfl, ho0, hb⟩; refine ⟨_, rfl, ?_⟩; have HO333 := aM (Kd.R_lower (Kd.R_new' ho0 (Kd.R_lt (xr HO_3))) (below_size xbel)); replace HO_3 := aM (Kd.R_elder' (xr HO_3) (Kd.R_base ho0) hb); replace HB := xbs hb; (try clear hb); (try clear hb2); (try clear hk); (try clear hi); (try clear ho0); obtain ⟨Ao11, co11, eo11⟩ := Kd.R_slice HO333.out; subst eo11) | ((with_reducible refine gate_builtin (b := .append) (xs := #[.tmp 13, .tmp 15]) rfl ?_); at_builtin; refine Kd.R_append_rows (Kd.int .u8) (w0 := w) w.heap.size rfl (.tmp 13) (.tmp 15) 22 5 (.int .u8 0) 1 rfl Try.underlying22 info5 rfl (by decide) (by omega) u3 x3_1 t331 _ _ _ (fun k_ => some k_ ≠ (.slice Ao11 t331.length co11 : Value).ownBlock) (fun _ => False) rfl rfl ?aO ?aR (fun _ _ h => h) (fun _ h => h.elim) ?aF ?aB ?aS ?aL ?_; (case aR => repeat (first | exact (Kd.R_reads' HO333.out).2.2 | (with_reducible refine Kd.C_alloc ?_ _) | (with_reducible refine Kd.C_drewN ?_ _) | (with_reducible refine Kd.C_drew ?_))); (case aB => exact xbel); (case aF => exact (fun k_ hk => Kd.fresh' (Kd.R_lt (xr HO333)) k_ hk)); (case aO => exact (by (with_reducible repeat (first | apply Kd.R_alloc | apply Kd.R_drewN | apply Kd.R_drew)); exact Kd.R_mono HO_3.out (fun _ hk => hk.2))); (case aS => exact (below_size xbel)); (case aL => have := LMc8.out; omega); intro v335 w10 ho hb hg hat; rw [← Ny334.out] at ho; replace HO333 := aM (Kd.R_after (ok := (fun _ => True)) (xr HO333) hg hat); replace HB := aM (hb); have HO336 := aM (ho); clear HO_3; clear ho hb hg hat))
       go_roundg k1
       case measure => have := HK1.out; omega
       case rel => exact ⟨(y334), (wrap64 (x9_1 + 1)), (by first | rfl | (simp; done) | (simp [*]; done)), H', ⟨by have := HK1.out; omega⟩, ⟨by (with_reducible repeat (first | apply Kd.R_alloc | apply Kd.R_drewN | apply Kd.R_drew)); exact Kd.R_mono HO336.out (fun _ hk => trivial)⟩, ⟨xbel⟩⟩
      ·rw [if_neg c8] at H
       exact absurd H (by simp)
     ·rw [if_neg c6] at H
      exact absurd H (by simp)
    ·rw [if_neg c5] at H
     exact absurd H (by simp)
   ·rw [if_neg c4] at H
    have c4b0 : decide (x9_1 < (l0.length : Int)) = false := decide_eq_false c4; clear c4
    obtain rfl := Option.some.inj H
    go_wp2
    go_ret
    exact ⟨_, by first | rfl | (simp [errW_none, errW_some] <;> rfl) | (simp [*, errW_none, errW_some] <;> rfl), by (with_reducible repeat (first | apply Kd.R_alloc | apply Kd.R_drewN | apply Kd.R_drew)); exact HO_3.out, xbel⟩

/-! ### impl_CmdPack: function 23 -/
def impl_CmdPack.f (k : Nat) (a0_0 : Int) (a0_1 : Int) (a0_2 : Int) (a0_3 : Int) (a0_4 : ByteArray) : Option (List Int × Bool) := (impl_CmdOk.f k a0_0 a0_1 a0_2 a0_3 a0_4).bind fun t338 => (if t338 = true then (if a0_0 = 1 then ((impl_PutNum.f k a0_0).bind fun t339 => (some (t339, true))) else (if a0_0 = 2 then ((impl_putNums.f k (([a0_0, a0_1, a0_3] : List Int))).bind fun t345 => (if t345.length + a0_4.size < 140737488355328 then (some ((t345 ++ bytesOf a0_4), true)) else (none))) else (if a0_0 = 3 then ((impl_putNums.f k (([a0_0, a0_1, a0_2] : List Int))).bind fun t354 => (some (t354, true))) else ((impl_putNums.f k (([a0_0, a0_1] : List Int))).bind fun t360 => (some (t360, true)))))) else (some (([] : List Int), false)))
theorem impl_CmdPack.mono : ∀ a0 a1 a2 a3 a4 k, LeO (impl_CmdPack.f k a0 a1 a2 a3 a4) (impl_CmdPack.f (k + 1) a0 a1 a2 a3 a4) := by
 intro a0 a1 a2 a3 a4 k
 unfold impl_CmdPack.f
 repeat' first
  | (with_reducible exact impl_CmdOk.mono _ _ _ _ _ _)
  | (with_reducible exact impl_PutNum.mono _ _)
  | (with_reducible exact impl_putNums.mono _ _)
  | (with_reducible exact LeO.refl _)
  | (with_reducible exact LeO.none _)
  | (with_reducible refine LeO.ite ?_ ?_)
  | (with_reducible refine LeO.bind ?_ (fun _ => ?_))
  | exact impl_CmdOk.mono _ _ _ _ _ _
  | exact impl_PutNum.mono _ _
  | exact impl_putNums.mono _ _
  | exact LeO.none _
  | refine LeO.ite ?_ ?_
  | refine LeO.bind ?_ (fun _ => ?_)
def impl_CmdPack.T7 : Bool × List (List Nat × List Nat) := (true, [([], []), ([0], [0]), ([], []), ([2], [2]), ([], []), ([4], [4]), ([1, 3, 5], [1, 3, 5]), ([6], [6]), ([], []), ([8], [8]), ([7, 9, 7], [7, 9]), ([10, 10, 0, 1, 2, 3, 4, 5, 6, 7, 8, 9, 10], [10]), ([11, 0, 1, 2, 3, 4, 5, 6, 7, 8, 9, 10, 11], [])])
def impl_CmdPack.B7 : List Nat := [0, 1, 0, 4, 0, 16, 63, 127, 0, 256, 1023, 2047, 4095]
theorem impl_CmdPack.tab7 : rtab .any (opsOf Try.f23 7) = impl_CmdPack.T7 := by kernel_rfl
theorem impl_CmdPack.bits7 : waitsOk impl_CmdPack.T7.2 impl_CmdPack.B7 = true := by kernel_rfl
set_option maxHeartbeats 8000000 in
set_option maxRecDepth 100000 in
theorem impl_CmdPack.calls (k : Nat) (a0_0 : Int) (a0_1 : Int) (a0_2 : Int) (a0_3 : Int) (a0_4 : ByteArray) (r1 : List Int) (r2 : Bool) (w : World) (h : impl_CmdPack.f k a0_0 a0_1 a0_2 a0_3 a0_4 = some (r1, r2)) :
 Calls Try.prog 23 #[.agg #[.int .i64 a0_0, .int .i64 a0_1, .int .i64 a0_2, .int .i64 a0_3, .string a0_4]] w fun e w' => ∃ v0_ : Value, e = .returned (.tuple #[v0_, .bool r2]) ∧ Kd.R (Kd.int .u8) 5 w' w.heap.size (fun _ => True) v0_ r1 ∧ Below w.heap.size w w' := by
 have hu34 := Try.underlying34
 have HB := aM (Below.refl w.heap.size w)
 have H : ((impl_CmdOk.f k a0_0 a0_1 a0_2 a0_3 a0_4).bind fun t338 => (if t338 = true then (if a0_0 = 1 then ((impl_PutNum.f k a0_0).bind fun t339 => (some (t339, true))) else (if a0_0 = 2 then ((impl_putNums.f k (([a0_0, a0_1, a0_3] : List Int))).bind fun t345 => (if t345.length + a0_4.size < 140737488355328 then (some ((t345 ++ bytesOf a0_4), true)) else (none))) else (if a0_0 = 3 then ((impl_putNums.f k (([a0_0, a0_1, a0_2] : List Int))).bind fun t354 => (some (t354, true))) else ((impl_putNums.f k (([a0_0, a0_1] : List Int))).bind fun t360 => (some (t360, true)))))) else (some (([] : List Int), false)))) = some (r1, r2) := h
 clear h
 replace H := Option.bind_eq_some_iff.mp H
 obtain ⟨t338, A20, H⟩ := H
 replace H : (if t338 = true then (if a0_0 = 1 then ((impl_PutNum.f k a0_0).bind fun t339 => (some (t339, true))) else (if a0_0 = 2 then ((impl_putNums.f k (([a0_0, a0_1, a0_3] : List Int))).bind fun t345 => (if t345.length + a0_4.size < 140737488355328 then (some ((t345 ++ bytesOf a0_4), true)) else (none))) else (if a0_0 = 3 then ((impl_putNums.f k (([a0_0, a0_1, a0_2] : List Int))).bind fun t354 => (some (t354, true))) else ((impl_putNums.f k (([a0_0, a0_1] : List Int))).bind fun t360 => (some (t360, true)))))) else (some (([] : List Int), false))) = some (r1, r2) := H
 have A2 := aM A20
 clear A20
 by_cases c3 : t338 = true
 ·subst c3
  have H1 : (if a0_0 = 1 then ((impl_PutNum.f k a0_0).bind fun t339 => (some (t339, true))) else (if a0_0 = 2 then ((impl_putNums.f k (([a0_0, a0_1, a0_3] : List Int))).bind fun t345 => (if t345.length + a0_4.size < 140737488355328 then (some ((t345 ++ bytesOf a0_4), true)) else (none))) else (if a0_0 = 3 then ((impl_putNums.f k (([a0_0, a0_1, a0_2] : List Int))).bind fun t354 => (some (t354, true))) else ((impl_putNums.f k (([a0_0, a0_1] : List Int))).bind fun t360 => (some (t360, true)))))) = some (r1, r2) := by rw [if_pos rfl] at H; exact H
  clear H; have H := H1; clear H1
  by_cases c4 : a0_0 = 1
  ·rw [if_pos c4] at H
   have c4b0 : (a0_0 == 1) = true := beq_iff_eq.mpr c4; have c4b1 : (a0_0 != 1) = false := bne_eq_false_iff_eq.mpr c4; clear c4; replace H := Option.bind_eq_some_iff.mp H
   obtain ⟨t339, A50, H⟩ := H
   replace H : (some (t339, true)) = some (r1, r2) := H; have A5 := aM A50; clear A50
   simp only [Option.some.injEq, Prod.mk.injEq] at H
   obtain ⟨rfl, rfl⟩ := H
   go_enter Try.func23, Try.ntmps23
   go_wp2_with (first | ((with_reducible refine gate_dst (N := 1) rfl ?_); refine box_event ?hg (N := 1) ?hd (cs := #[.int .i64 a0_0, .int .i64 a0_1, .int .i64 a0_2, .int .i64 a0_3, .string a0_4]) (t := 34) ?hr ?_; (case hd => rfl); (case hg => rfl); (case hr => first | (go_simp; done) | (go_simp; rfl)); intro gb337 hg w6 hbox hb; have BK337 := aM (hbox); have GW337 := aM (xge hg); have GE337 := aM (xge hg); replace HB := xbs hb; clear hb hbox hg; have hcz7_0 : w6.cell? ⟨gb337, 0, none⟩ = some (.int .i64 a0_0) := xc BK337 0 rfl; have hcz7_1 : w6.cell? ⟨gb337, 1, none⟩ = some (.int .i64 a0_1) := xc BK337 1 rfl; have hcz7_2 : w6.cell? ⟨gb337, 2, none⟩ = some (.int .i64 a0_2) := xc BK337 2 rfl; have hcz7_3 : w6.cell? ⟨gb337, 3, none⟩ = some (.int .i64 a0_3) := xc BK337 3 rfl; have hcz7_4 : w6.cell? ⟨gb337, 4, none⟩ = some (.string a0_4) := xc BK337 4 rfl; have hfz7_0 := blk_frozen BK337.out 0; have hfz7_1 := blk_frozen BK337.out 1; have hfz7_2 := blk_frozen BK337.out 2; have hfz7_3 := blk_frozen BK337.out 3; have hfz7_4 := blk_frozen BK337.out 4) | ((with_reducible refine gate_callee (f := 28) rfl ?_); refine goesL_ (some 5) rfl rfl Try.func28 (by kernel_rfl) rfl #[.agg #[.int .i64 a0_0, .int .i64 a0_1, .int .i64 a0_2, .int .i64 a0_3, .string a0_4]] rfl (by (try simp only [List.map_toArray, List.map_cons, List.map_nil]); first | done | rfl | (simp only [List.length_drop, List.length_take]; rfl)) ?_; (with_reducible refine (impl_CmdOk.calls k a0_0 a0_1 a0_2 a0_3 a0_4 true _ A2.out).mono ?_); rintro e w8 ⟨rfl, hb⟩; refine ⟨_, rfl, ?_⟩; replace BK337 := xbb BK337 hb; replace HB := xbs hb; (try clear hb); (try clear hb2); (try clear hk); (try clear hi); have hcz9_0 : w8.cell? ⟨gb337, 0, none⟩ = some (.int .i64 a0_0) := xc BK337 0 rfl; have hcz9_1 : w8.cell? ⟨gb337, 1, none⟩ = some (.int .i64 a0_1) := xc BK337 1 rfl; have hcz9_2 : w8.cell? ⟨gb337, 2, none⟩ = some (.int .i64 a0_2) := xc BK337 2 rfl; have hcz9_3 : w8.cell? ⟨gb337, 3, none⟩ = some (.int .i64 a0_3) := xc BK337 3 rfl; have hcz9_4 : w8.cell? ⟨gb337, 4, none⟩ = some (.string a0_4) := xc BK337 4 rfl; have hfz9_0 := blk_frozen BK337.out 0; have hfz9_1 := blk_frozen BK337.out 1; have hfz9_2 := blk_frozen BK337.out 2; have hfz9_3 := blk_frozen BK337.out 3; have hfz9_4 := blk_frozen BK337.out 4) | ((with_reducible refine gate_callee (f := 85) rfl ?_); refine goesL_ (some 13) rfl rfl Try.func85 (by kernel_rfl) rfl #[.int .i64 a0_0] rfl (by (try simp only [List.map_toArray, List.map_cons, List.map_nil]); first | done | rfl | (simp only [List.length_drop, List.length_take]; rfl)) ?_; (with_reducible refine (impl_PutNum.calls k a0_0 t339 _ A5.out).mono ?_); rintro e w10 ⟨v340, rfl, ho0, hb⟩; refine ⟨_, rfl, ?_⟩; have HO341 := aM (Kd.R_lower ho0 (below_size xbg)); replace BK337 := xbb BK337 hb; replace HB := xbs hb; (try clear hb); (try clear hb2); (try clear hk); (try clear hi); (try clear ho0)))
   go_ret2
   exact ⟨_, by first | rfl | (simp [errW_none, errW_some] <;> rfl) | (simp [*, errW_none, errW_some] <;> rfl), by (with_reducible repeat (first | apply Kd.R_alloc | apply Kd.R_drewN | apply Kd.R_drew)); exact HO341.out, xbg⟩
  ·rw [if_neg c4] at H
   have c4b0 : (a0_0 == 1) = false := beq_eq_false_iff_ne.mpr c4; have c4b1 : (a0_0 != 1) = true := bne_iff_ne.mpr c4
   by_cases c11 : a0_0 = 2
   ·rw [if_pos c11] at H
    have c11b0 : (a0_0 == 2) = true := beq_iff_eq.mpr c11; have c11b1 : (a0_0 != 2) = false := bne_eq_false_iff_eq.mpr c11; clear c11
    obtain ⟨y342, hy342⟩ : ∃ y_ : List Int, y_ = (([a0_0, a0_1, a0_3] : List Int)) := ⟨_, rfl⟩
    replace H : ((impl_putNums.f k y342).bind fun t345 => (if t345.length + a0_4.size < 140737488355328 then (some ((t345 ++ bytesOf a0_4), true)) else (none))) = some (r1, r2) := by first | (rw [hy342]; with_reducible exact H) | (have H2_ := (Option.bind_some _ _).symm.trans H; rw [hy342]; with_reducible exact H2_) | (have H2_ := (Option.bind_some _ _).symm.trans H; with_reducible exact H2_) | with_reducible exact H | (rw [hy342]; exact H) | exact H
    have Ny342 := aM hy342; clear hy342; replace H := Option.bind_eq_some_iff.mp H
    obtain ⟨t345, A120, H⟩ := H
    replace H : (if t345.length + a0_4.size < 140737488355328 then (some ((t345 ++ bytesOf a0_4), true)) else (none)) = some (r1, r2) := H; have A12 := aM A120; clear A120
    by_cases c13 : t345.length + a0_4.size < 140737488355328
    ·rw [if_pos c13] at H
     have LMc13 := aM c13; clear c13
     obtain ⟨y348, hy348⟩ : ∃ y_ : List Int, y_ = (t345 ++ bytesOf a0_4) := ⟨_, rfl⟩
     replace H : (some (y348, true)) = some (r1, r2) := by first | (rw [hy348]; with_reducible exact H) | (have H2_ := (Option.bind_some _ _).symm.trans H; rw [hy348]; with_reducible exact H2_) | (have H2_ := (Option.bind_some _ _).symm.trans H; with_reducible exact H2_) | with_reducible exact H | (rw [hy348]; exact H) | exact H
     have Ny348 := aM hy348; clear hy348
     simp only [Option.some.injEq, Prod.mk.injEq] at H
     obtain ⟨rfl, rfl⟩ := H
     go_enter Try.func23, Try.ntmps23
     try go_wp2_with (first | ((with_reducible refine gate_dst (N := 1) rfl ?_); refine box_event ?hg (N := 1) ?hd (cs := #[.int .i64 a0_0, .int .i64 a0_1, .int .i64 a0_2, .int .i64 a0_3, .string a0_4]) (t := 34) ?hr ?_; (case hd => rfl); (case hg => rfl); (case hr => first | (go_simp; done) | (go_simp; rfl)); intro gb337 hg w14 hbox hb; have BK337 := aM (hbox); have GW337 := aM (xge hg); have GE337 := aM (xge hg); replace HB := xbs hb; clear hb hbox hg; have hcz15_0 : w14.cell? ⟨gb337, 0, none⟩ = some (.int .i64 a0_0) := xc BK337 0 rfl; have hcz15_1 : w14.cell? ⟨gb337, 1, none⟩ = some (.int .i64 a0_1) := xc BK337 1 rfl; have hcz15_2 : w14.cell? ⟨gb337, 2, none⟩ = some (.int .i64 a0_2) := xc BK337 2 rfl; have hcz15_3 : w14.cell? ⟨gb337, 3, none⟩ = some (.int .i64 a0_3) := xc BK337 3 rfl; have hcz15_4 : w14.cell? ⟨gb337, 4, none⟩ = some (.string a0_4) := xc BK337 4 rfl; have hfz15_0 := blk_frozen BK337.out 0; have hfz15_1 := blk_frozen BK337.out 1; have hfz15_2 := blk_frozen BK337.out 2; have hfz15_3 := blk_frozen BK337.out 3; have hfz15_4 := blk_frozen BK337.out 4) | ((with_reducible refine gate_callee (f := 28) rfl ?_); refine goesL_ (some 5) rfl rfl Try.func28 (by kernel_rfl) rfl #[.agg #[.int .i64 a0_0, .int .i64 a0_1, .int .i64 a0_2, .int .i64 a0_3, .string a0_4]] rfl (by (try simp only [List.map_toArray, List.map_cons, List.map_nil]); first | done | rfl | (simp only [List.length_drop, List.length_take]; rfl)) ?_; (with_reducible refine (impl_CmdOk.calls k a0_0 a0_1 a0_2 a0_3 a0_4 true _ A2.out).mono ?_); rintro e w16 ⟨rfl, hb⟩; refine ⟨_, rfl, ?_⟩; replace BK337 := xbb BK337 hb; replace HB := xbs hb; (try clear hb); (try clear hb2); (try clear hk); (try clear hi); have hcz17_0 : w16.cell? ⟨gb337, 0, none⟩ = some (.int .i64 a0_0) := xc BK337 0 rfl; have hcz17_1 : w16.cell? ⟨gb337, 1, none⟩ = some (.int .i64 a0_1) := xc BK337 1 rfl; have hcz17_2 : w16.cell? ⟨gb337, 2, none⟩ = some (.int .i64 a0_2) := xc BK337 2 rfl; have hcz17_3 : w16.cell? ⟨gb337, 3, none⟩ = some (.int .i64 a0_3) := xc BK337 3 rfl; have hcz17_4 : w16.cell? ⟨gb337, 4, none⟩ = some (.string a0_4) := xc BK337 4 rfl; have hfz17_0 := blk_frozen BK337.out 0; have hfz17_1 := blk_frozen BK337.out 1; have hfz17_2 := blk_frozen BK337.out 2; have hfz17_3 := blk_frozen BK337.out 3; have hfz17_4 := blk_frozen BK337.out 4))
     replace BK337 := aM (blk_drew BK337.out); replace HB := aM (below_drew1 HB.out)
     refine start_ (n := 13) (S := fun w' => w'.cell? ⟨gb337, 0, none⟩ = some (.int .i64 a0_0) ∧ w'.cell? ⟨gb337, 1, none⟩ = some (.int .i64 a0_1) ∧ w'.cell? ⟨gb337, 2, none⟩ = some (.int .i64 a0_2) ∧ w'.cell? ⟨gb337, 3, none⟩ = some (.int .i64 a0_3) ∧ w'.cell? ⟨gb337, 4, none⟩ = some (.string a0_4)) (ds := []) #[false, false, false, false, false, false, false, false, false, false, false, false, false] (by kernel_rfl) rfl rfl ⟨xc BK337 0 rfl, xc BK337 1 rfl, xc BK337 2 rfl, xc BK337 3 rfl, xc BK337 4 rfl⟩ (fun hHeld => ?_); refine with_tabW impl_CmdPack.tab7 impl_CmdPack.bits7 (fun HT_ HW_ => ?_)
     generalize w16.drew = w18 at BK337 HB hHeld ⊢
     refine pv_ 0 16 (h := ?_)
     refine pv_ 2 18 (h := ?_)
     refine pv_ 4 20 (h := ?_)
     refine pv_ 8 24 (h := ?_)
     refine tk_ 1 17 (h := ?_)
     refine tk_ 3 19 (h := ?_)
     refine tk_ 5 21 (h := ?_)
     refine tk_ 9 25 (h := ?_)
     refine on_ 6 22 (h := fun K hK => ?_)
     refine Kd.R_lit_step (Kd.int .i64) _ 3 ?hg (N := 22) ?hd (xs := ([a0_0, a0_1, a0_3] : List Int)) (inner := [.int .i64 a0_0, .int .i64 a0_1, .int .i64 a0_3]) (ok := fun _ => True) (okp := fun _ => True) ?hr ?hp (fun _ hk => hk) trivial (Below.refl _ _) (Nat.le_refl _) (by simp) ?_; (case hd => rfl); (case hg => rfl); (case hr => first | (go_simp; done) | (go_simp; rfl)); (case hp => exact (Reps.one (show Kd.M (Kd.int .i64) _ _ _ a0_0 [.int .i64 a0_0] from rfl) (Reps.one (show Kd.M (Kd.int .i64) _ _ _ a0_1 [.int .i64 a0_1] from rfl) (Reps.one (show Kd.M (Kd.int .i64) _ _ _ a0_3 [.int .i64 a0_3] from rfl) (Reps.none _ _)))))
     intro v343 w19 ho20 hb hg_ hnew_
     clear hg_ hnew_
     (first | rw [← Ny342.out] at ho20 | (simp only [Int.reduceToNat] at ho20; rw [← Ny342.out] at ho20))
     have HO344 := aM (Kd.R_lower ho20 (below_size xbg)); replace BK337 := xbb BK337 hb; replace HB := xbs hb; clear hb ho20
     obtain ⟨Ao21, co21, eo21⟩ := Kd.R_slice HO344.out
     (first | subst eo21 | (injection eo21 with f1_ f2_ f3_; have f4_ := f1_.symm; have f5_ := f3_.symm; clear f1_ f2_ f3_; subst f4_; subst f5_))
     refine hK.out _ _ ⟨xc BK337 0 rfl, xc BK337 1 rfl, xc BK337 2 rfl, xc BK337 3 rfl, xc BK337 4 rfl⟩ (fun hHeld => ?_)
     clear hK K
     refine norm_ (a' := ?_) ?_ ?_
     rotate_left
     ·show Act.put _ (some 22) _ = _
      simp only [Act.put, List.setIfInBounds_toArray, List.set_cons_zero, List.set_cons_succ, i64_w, i32_w]
      rfl
     refine on_ 7 23 (h := fun K hK => ?_)
     refine goesY Try.func86 #[.slice Ao21 y342.length co21] ?_
     with_reducible refine (impl_putNums.calls k _ _ y342 t345 _ ?side1 ?side2 A12.out).mono ?_
     (case side1 => repeat (first | exact (Kd.R_reads' HO344.out).2.2 | (with_reducible refine Kd.C_alloc ?_ _) | (with_reducible refine Kd.C_drewN ?_ _) | (with_reducible refine Kd.C_drew ?_)))
     (case side2 => exact (Kd.R_reads' HO344.out).2.1)
     rintro e w22 ⟨v346, rfl, ho0, hb⟩
     refine ⟨_, rfl, ?_⟩
     replace HO344 := aM (Kd.R_below (xr HO344) hb); have HO347 := aM (Kd.R_lower ho0 (below_size xbg)); replace BK337 := xbb BK337 hb; replace HB := xbs hb
     (try clear hb); (try clear hb2); (try clear hk); (try clear hi); (try clear ho0)
     refine hK.out _ _ ⟨xc BK337 0 rfl, xc BK337 1 rfl, xc BK337 2 rfl, xc BK337 3 rfl, xc BK337 4 rfl⟩ (fun hHeld => ?_)
     clear hK K
     refine norm_ (a' := ?_) ?_ ?_
     rotate_left
     ·show Act.put _ (some 23) _ = _
      simp only [Act.put, List.setIfInBounds_toArray, List.set_cons_zero, List.set_cons_succ, i64_w, i32_w]
      rfl
     refine on_ 10 26 (h := fun K hK => ?_)
     refine print_append_str_step (w0 := w) w.heap.size (by rfl) (.tmp 23) _ 22 9 5 rfl Try.underlying22 Try.underlying9 info5 v346 t345 a0_4 rfl rfl ?aO ?aB ?aS ?aL ?_
     (case aB => exact xbg)
     (case aO => exact (Kd.own_of_R (xr HO347)))
     (case aS => exact (below_size xbg))
     (case aL => have := LMc13.out; omega)
     intro v349 w23 ho0 hb hg
     have ho := Kd.R_of_own (h1 := fun _ => rfl) (ok := fun _ => True) ho0 (fun _ _ => trivial); clear ho0; have hat := True.intro
     rw [← Ny348.out] at ho
     change Kd.R (Kd.int .u8) 5 w23 w.heap.size (fun _ => True) v349 y348 at ho
     replace BK337 := aM (blk_grown (g := gb337) (o := .cells #[.int .i64 a0_0, .int .i64 a0_1, .int .i64 a0_2, .int .i64 a0_3, .string a0_4] 34 (0, 0)) xblk hg (Kd.R_ne HO347.out BK337.out (by decide))); replace HO344 := aM (Kd.R_over' (xr HO344) (Kd.R_typed (xr HO347)) (by decide) hg); replace HB := aM (hb); have HO350 := aM (ho); clear HO347 ho hb hg hat
     refine hK.out _ _ ⟨xc BK337 0 rfl, xc BK337 1 rfl, xc BK337 2 rfl, xc BK337 3 rfl, xc BK337 4 rfl⟩ (fun hHeld => ?_)
     clear hK K
     refine norm_ (a' := ?_) ?_ ?_
     rotate_left
     ·show Act.put _ (some 26) _ = _
      simp only [Act.put, List.setIfInBounds_toArray, List.set_cons_zero, List.set_cons_succ, i64_w, i32_w]
      rfl
     refine pv_ 11 2 (h := ?_)
     refine pv_ 12 3 (h := ?_)
     refine done_ (done_of HT_.out (by kernel_rfl)) ?_
     try go_wp2
     go_ret2
     exact ⟨_, by first | rfl | (simp [errW_none, errW_some] <;> rfl) | (simp [*, errW_none, errW_some] <;> rfl), by (with_reducible repeat (first | apply Kd.R_alloc | apply Kd.R_drewN | apply Kd.R_drew)); exact HO350.out, xbg⟩
    ·rw [if_neg c13] at H
     exact absurd H (by simp)
   ·rw [if_neg c11] at H
    have c11b0 : (a0_0 == 2) = false := beq_eq_false_iff_ne.mpr c11; have c11b1 : (a0_0 != 2) = true := bne_iff_ne.mpr c11
    by_cases c24 : a0_0 = 3
    ·rw [if_pos c24] at H
     have c24b0 : (a0_0 == 3) = true := beq_iff_eq.mpr c24; have c24b1 : (a0_0 != 3) = false := bne_eq_false_iff_eq.mpr c24; clear c24
     obtain ⟨y351, hy351⟩ : ∃ y_ : List Int, y_ = (([a0_0, a0_1, a0_2] : List Int)) := ⟨_, rfl⟩
     replace H : ((impl_putNums.f k y351).bind fun t354 => (some (t354, true))) = some (r1, r2) := by first | (rw [hy351]; with_reducible exact H) | (have H2_ := (Option.bind_some _ _).symm.trans H; rw [hy351]; with_reducible exact H2_) | (have H2_ := (Option.bind_some _ _).symm.trans H; with_reducible exact H2_) | with_reducible exact H | (rw [hy351]; exact H) | exact H
     have Ny351 := aM hy351; clear hy351; replace H := Option.bind_eq_some_iff.mp H
     obtain ⟨t354, A250, H⟩ := H
     replace H : (some (t354, true)) = some (r1, r2) := H; have A25 := aM A250; clear A250
     simp only [Option.some.injEq, Prod.mk.injEq] at H
     obtain ⟨rfl, rfl⟩ := H
     go_enter Try.func23, Try.ntmps23
     go_wp2_with (first | ((with_reducible refine gate_dst (N := 1) rfl ?_); refine box_event ?hg (N := 1) ?hd (cs := #[.int .i64 a0_0, .int .i64 a0_1, .int .i64 a0_2, .int .i64 a0_3, .string a0_4]) (t := 34) ?hr ?_; (case hd => rfl); (case hg => rfl); (case hr => first | (go_simp; done) | (go_simp; rfl)); intro gb337 hg w26 hbox hb; have BK337 := aM (hbox); have GW337 := aM (xge hg); have GE337 := aM (xge hg); replace HB := xbs hb; clear hb hbox hg; have hcz27_0 : w26.cell? ⟨gb337, 0, none⟩ = some (.int .i64 a0_0) := xc BK337 0 rfl; have hcz27_1 : w26.cell? ⟨gb337, 1, none⟩ = some (.int .i64 a0_1) := xc BK337 1 rfl; have hcz27_2 : w26.cell? ⟨gb337, 2, none⟩ = some (.int .i64 a0_2) := xc BK337 2 rfl; have hcz27_3 : w26.cell? ⟨gb337, 3, none⟩ = some (.int .i64 a0_3) := xc BK337 3 rfl; have hcz27_4 : w26.cell? ⟨gb337, 4, none⟩ = some (.string a0_4) := xc BK337 4 rfl; have hfz27_0 := blk_frozen BK337.out 0; have hfz27_1 := blk_frozen BK337.out 1; have hfz27_2 := blk_frozen BK337.out 2; have hfz27_3 := blk_frozen BK337.out 3; have hfz27_4 := blk_frozen BK337.out 4) | ((with_reducible refine gate_callee (f := 28) rfl ?_); refine goesL_ (some 5) rfl rfl Try.func28 (by kernel_rfl) rfl #[.agg #[.int .i64 a0_0, .int .i64 a0_1, .int .i64 a0_2, .int .i64 a0_3, .string a0_4]] rfl (by (try simp only [List.map_toArray, List.map_cons, List.map_nil]); first | done | rfl | (simp only [List.length_drop, List.length_take]; rfl)) ?_; (with_reducible refine (impl_CmdOk.calls k a0_0 a0_1 a0_2 a0_3 a0_4 true _ A2.out).mono ?_); rintro e w28 ⟨rfl, hb⟩; refine ⟨_, rfl, ?_⟩; replace BK337 := xbb BK337 hb; replace HB := xbs hb; (try clear hb); (try clear hb2); (try clear hk); (try clear hi); have hcz29_0 : w28.cell? ⟨gb337, 0, none⟩ = some (.int .i64 a0_0) := xc BK337 0 rfl; have hcz29_1 : w28.cell? ⟨gb337, 1, none⟩ = some (.int .i64 a0_1) := xc BK337 1 rfl; have hcz29_2 : w28.cell? ⟨gb337, 2, none⟩ = some (.int .i64 a0_2) := xc BK337 2 rfl; have hcz29_3 : w28.cell? ⟨gb337, 3, none⟩ = some (.int .i64 a0_3) := xc BK337 3 rfl; have hcz29_4 : w28.cell? ⟨gb337, 4, none⟩ = some (.string a0_4) := xc BK337 4 rfl; have hfz29_0 := blk_frozen BK337.out 0; have hfz29_1 := blk_frozen BK337.out 1; have hfz29_2 := blk_frozen BK337.out 2; have hfz29_3 := blk_frozen BK337.out 3; have hfz29_4 := blk_frozen BK337.out 4) | ((with_reducible refine gate_dst (N := 35) rfl ?_); refine Kd.R_lit (Kd.int .i64) _ 3 ?hg (N := 35) ?hd (xs := ([a0_0, a0_1, a0_2] : List Int)) (inner := [.int .i64 a0_0, .int .i64 a0_1, .int .i64 a0_2]) (ok := fun _ => True) (okp := fun _ => True) ?hr ?hp (fun _ hk => hk) trivial (Below.refl _ _) (Nat.le_refl _) (by simp) ?_; (case hd => rfl); (case hg => rfl); (case hr => first | (go_simp; done) | (go_simp; rfl)); (case hp => exact (Reps.one (show Kd.M (Kd.int .i64) _ _ _ a0_0 [.int .i64 a0_0] from rfl) (Reps.one (show Kd.M (Kd.int .i64) _ _ _ a0_1 [.int .i64 a0_1] from rfl) (Reps.one (show Kd.M (Kd.int .i64) _ _ _ a0_2 [.int .i64 a0_2] from rfl) (Reps.none _ _))))); intro v352 w30 ho31 hb hg_ hnew_; clear hg_ hnew_; (first | rw [← Ny351.out] at ho31 | (simp only [Int.reduceToNat] at ho31; rw [← Ny351.out] at ho31)); have HO353 := aM (Kd.R_lower ho31 (below_size xbg)); replace BK337 := xbb BK337 hb; replace HB := xbs hb; clear hb ho31; obtain ⟨Ao32, co32, eo32⟩ := Kd.R_slice HO353.out; subst eo32) | ((with_reducible refine gate_callee (f := 86) rfl ?_); refine goesL_ (some 36) rfl rfl Try.func86 (by kernel_rfl) rfl #[.slice Ao32 y351.length co32] rfl (by (try simp only [List.map_toArray, List.map_cons, List.map_nil]); first | done | rfl | (simp only [List.length_drop, List.length_take]; rfl)) ?_; (with_reducible refine (impl_putNums.calls k _ _ y351 t354 _ ?side1 ?side2 A25.out).mono ?_); (case side1 => repeat (first | exact (Kd.R_reads' HO353.out).2.2 | (with_reducible refine Kd.C_alloc ?_ _) | (with_reducible refine Kd.C_drewN ?_ _) | (with_reducible refine Kd.C_drew ?_))); (case side2 => exact (Kd.R_reads' HO353.out).2.1); rintro e w33 ⟨v355, rfl, ho0, hb⟩; refine ⟨_, rfl, ?_⟩; replace HO353 := aM (Kd.R_below (xr HO353) hb); have HO356 := aM (Kd.R_lower ho0 (below_size xbg)); replace BK337 := xbb BK337 hb; replace HB := xbs hb; (try clear hb); (try clear hb2); (try clear hk); (try clear hi); (try clear ho0)))
     go_ret2
     exact ⟨_, by first | rfl | (simp [errW_none, errW_some] <;> rfl) | (simp [*, errW_none, errW_some] <;> rfl), by (with_reducible repeat (first | apply Kd.R_alloc | apply Kd.R_drewN | apply Kd.R_drew)); exact HO356.out, xbg⟩
    ·rw [if_neg c24] at H
     have c24b0 : (a0_0 == 3) = false := beq_eq_false_iff_ne.mpr c24; have c24b1 : (a0_0 != 3) = true := bne_iff_ne.mpr c24
     obtain ⟨y357, hy357⟩ : ∃ y_ : List Int, y_ = (([a0_0, a0_1] : List Int)) := ⟨_, rfl⟩
     replace H : ((impl_putNums.f k y357).bind fun t360 => (some (t360, true))) = some (r1, r2) := by first | (rw [hy357]; with_reducible exact H) | (have H2_ := (Option.bind_some _ _).symm.trans H; rw [hy357]; with_reducible exact H2_) | (have H2_ := (Option.bind_some _ _).symm.trans H; with_reducible exact H2_) | with_reducible exact H | (rw [hy357]; exact H) | exact H
     have Ny357 := aM hy357; clear hy357; replace H := Option.bind_eq_some_iff.mp H
     obtain ⟨t360, A340, H⟩ := H
     replace H : (some (t360, true)) = some (r1, r2) := H; have A34 := aM A340; clear A340
     simp only [Option.some.injEq, Prod.mk.injEq] at H
     obtain ⟨rfl, rfl⟩ := H
     go_enter Try.func23, Try.ntmps23
     go_wp2_with (first | ((with_reducible refine gate_dst (N := 1) rfl ?_); refine box_event ?hg (N := 1) ?hd (cs := #[.int .i64 a0_0, .int .i64 a0_1, .int .i64 a0_2, .int .i64 a0_3, .string a0_4]) (t := 34) ?hr ?_; (case hd => rfl); (case hg => rfl); (case hr => first | (go_simp; done) | (go_simp; rfl)); intro gb337 hg w35 hbox hb; have BK337 := aM (hbox); have GW337 := aM (xge hg); have GE337 := aM (xge hg); replace HB := xbs hb; clear hb hbox hg; have hcz36_0 : w35.cell? ⟨gb337, 0, none⟩ = some (.int .i64 a0_0) := xc BK337 0 rfl; have hcz36_1 : w35.cell? ⟨gb337, 1, none⟩ = some (.int .i64 a0_1) := xc BK337 1 rfl; have hcz36_2 : w35.cell? ⟨gb337, 2, none⟩ = some (.int .i64 a0_2) := xc BK337 2 rfl; have hcz36_3 : w35.cell? ⟨gb337, 3, none⟩ = some (.int .i64 a0_3) := xc BK337 3 rfl; have hcz36_4 : w35.cell? ⟨gb337, 4, none⟩ = some (.string a0_4) := xc BK337 4 rfl; have hfz36_0 := blk_frozen BK337.out 0; have hfz36_1 := blk_frozen BK337.out 1; have hfz36_2 := blk_frozen BK337.out 2; have hfz36_3 := blk_frozen BK337.out 3; have hfz36_4 := blk_frozen BK337.out 4) | ((with_reducible refine gate_callee (f := 28) rfl ?_); refine goesL_ (some 5) rfl rfl Try.func28 (by kernel_rfl) rfl #[.agg #[.int .i64 a0_0, .int .i64 a0_1, .int .i64 a0_2, .int .i64 a0_3, .string a0_4]] rfl (by (try simp only [List.map_toArray, List.map_cons, List.map_nil]); first | done | rfl | (simp only [List.length_drop, List.length_take]; rfl)) ?_; (with_reducible refine (impl_CmdOk.calls k a0_0 a0_1 a0_2 a0_3 a0_4 true _ A2.out).mono ?_); rintro e w37 ⟨rfl, hb⟩; refine ⟨_, rfl, ?_⟩; replace BK337 := xbb BK337 hb; replace HB := xbs hb; (try clear hb); (try clear hb2); (try clear hk); (try clear hi); have hcz38_0 : w37.cell? ⟨gb337, 0, none⟩ = some (.int .i64 a0_0) := xc BK337 0 rfl; have hcz38_1 : w37.cell? ⟨gb337, 1, none⟩ = some (.int .i64 a0_1) := xc BK337 1 rfl; have hcz38_2 : w37.cell? ⟨gb337, 2, none⟩ = some (.int .i64 a0_2) := xc BK337 2 rfl; have hcz38_3 : w37.cell? ⟨gb337, 3, none⟩ = some (.int .i64 a0_3) := xc BK337 3 rfl; have hcz38_4 : w37.cell? ⟨gb337, 4, none⟩ = some (.string a0_4) := xc BK337 4 rfl; have hfz38_0 := blk_frozen BK337.out 0; have hfz38_1 := blk_frozen BK337.out 1; have hfz38_2 := blk_frozen BK337.out 2; have hfz38_3 := blk_frozen BK337.out 3; have hfz38_4 := blk_frozen BK337.out 4) | ((with_reducible refine gate_dst (N := 41) rfl ?_); refine Kd.R_lit (Kd.int .i64) _ 3 ?hg (N := 41) ?hd (xs := ([a0_0, a0_1] : List Int)) (inner := [.int .i64 a0_0, .int .i64 a0_1]) (ok := fun _ => True) (okp := fun _ => True) ?hr ?hp (fun _ hk => hk) trivial (Below.refl _ _) (Nat.le_refl _) (by simp) ?_; (case hd => rfl); (case hg => rfl); (case hr => first | (go_simp; done) | (go_simp; rfl)); (case hp => exact (Reps.one (show Kd.M (Kd.int .i64) _ _ _ a0_0 [.int .i64 a0_0] from rfl) (Reps.one (show Kd.M (Kd.int .i64) _ _ _ a0_1 [.int .i64 a0_1] from rfl) (Reps.none _ _)))); intro v358 w39 ho40 hb hg_ hnew_; clear hg_ hnew_; (first | rw [← Ny357.out] at ho40 | (simp only [Int.reduceToNat] at ho40; rw [← Ny357.out] at ho40)); have HO359 := aM (Kd.R_lower ho40 (below_size xbg)); replace BK337 := xbb BK337 hb; replace HB := xbs hb; clear hb ho40; obtain ⟨Ao41, co41, eo41⟩ := Kd.R_slice HO359.out; subst eo41) | ((with_reducible refine gate_callee (f := 86) rfl ?_); refine goesL_ (some 42) rfl rfl Try.func86 (by kernel_rfl) rfl #[.slice Ao41 y357.length co41] rfl (by (try simp only [List.map_toArray, List.map_cons, List.map_nil]); first | done | rfl | (simp only [List.length_drop, List.length_take]; rfl)) ?_; (with_reducible refine (impl_putNums.calls k _ _ y357 t360 _ ?side1 ?side2 A34.out).mono ?_); (case side1 => repeat (first | exact (Kd.R_reads' HO359.out).2.2 | (with_reducible refine Kd.C_alloc ?_ _) | (with_reducible refine Kd.C_drewN ?_ _) | (with_reducible refine Kd.C_drew ?_))); (case side2 => exact (Kd.R_reads' HO359.out).2.1); rintro e w42 ⟨v361, rfl, ho0, hb⟩; refine ⟨_, rfl, ?_⟩; replace HO359 := aM (Kd.R_below (xr HO359) hb); have HO362 := aM (Kd.R_lower ho0 (below_size xbg)); replace BK337 := xbb BK337 hb; replace HB := xbs hb; (try clear hb); (try clear hb2); (try clear hk); (try clear hi); (try clear ho0)))
     go_ret2
     exact ⟨_, by first | rfl | (simp [errW_none, errW_some] <;> rfl) | (simp [*, errW_none, errW_some] <;> rfl), by (with_reducible repeat (first | apply Kd.R_alloc | apply Kd.R_drewN | apply Kd.R_drew)); exact HO362.out, xbg⟩
 ·replace c3 := Bool.eq_false_iff.mpr c3
  subst c3
  have H1 : (some (([] : List Int), false)) = some (r1, r2) := by rw [if_neg (show ¬ (false = true) by decide)] at H; exact H
  clear H; have H := H1; clear H1
  simp only [Option.some.injEq, Prod.mk.injEq] at H
  obtain ⟨rfl, rfl⟩ := H
  go_enter Try.func23, Try.ntmps23
  go_wp2_with (first | ((with_reducible refine gate_dst (N := 1) rfl ?_); refine box_event ?hg (N := 1) ?hd (cs := #[.int .i64 a0_0, .int .i64 a0_1, .int .i64 a0_2, .int .i64 a0_3, .string a0_4]) (t := 34) ?hr ?_; (case hd => rfl); (case hg => rfl); (case hr => first | (go_simp; done) | (go_simp; rfl)); intro gb337 hg w43 hbox hb; have BK337 := aM (hbox); have GW337 := aM (xge hg); have GE337 := aM (xge hg); replace HB := xbs hb; clear hb hbox hg; have hcz44_0 : w43.cell? ⟨gb337, 0, none⟩ = some (.int .i64 a0_0) := xc BK337 0 rfl; have hcz44_1 : w43.cell? ⟨gb337, 1, none⟩ = some (.int .i64 a0_1) := xc BK337 1 rfl; have hcz44_2 : w43.cell? ⟨gb337, 2, none⟩ = some (.int .i64 a0_2) := xc BK337 2 rfl; have hcz44_3 : w43.cell? ⟨gb337, 3, none⟩ = some (.int .i64 a0_3) := xc BK337 3 rfl; have hcz44_4 : w43.cell? ⟨gb337, 4, none⟩ = some (.string a0_4) := xc BK337 4 rfl; have hfz44_0 := blk_frozen BK337.out 0; have hfz44_1 := blk_frozen BK337.out 1; have hfz44_2 := blk_frozen BK337.out 2; have hfz44_3 := blk_frozen BK337.out 3; have hfz44_4 := blk_frozen BK337.out 4) | ((with_reducible refine gate_callee (f := 28) rfl ?_); refine goesL_ (some 5) rfl rfl Try.func28 (by kernel_rfl) rfl #[.agg #[.int .i64 a0_0, .int .i64 a0_1, .int .i64 a0_2, .int .i64 a0_3, .string a0_4]] rfl (by (try simp only [List.map_toArray, List.map_cons, List.map_nil]); first | done | rfl | (simp only [List.length_drop, List.length_take]; rfl)) ?_; (with_reducible refine (impl_CmdOk.calls k a0_0 a0_1 a0_2 a0_3 a0_4 false _ A2.out).mono ?_); rintro e w45 ⟨rfl, hb⟩; refine ⟨_, rfl, ?_⟩; replace BK337 := xbb BK337 hb; replace HB := xbs hb; (try clear hb); (try clear hb2); (try clear hk); (try clear hi)))
  go_ret2
  exact ⟨_, by first | rfl | (simp [errW_none, errW_some] <;> rfl) | (simp [*, errW_none, errW_some] <;> rfl), by first | exact Kd.R_nil _ _ _ _ _ | exact Kd.N_nil _ _ _ _ _ | exact Kd.V_nil _ _ _ _ _ | exact Kd.Q_nil _ _ _ _ _ | exact Kd.S_nil _ _ _ _ _, xbg⟩

/-! ### spec_l1In: function 87 -/
def spec_l1In.f (a0 : Int) (a1 : Int) (a2 : Int) : Option (Bool) := if a0 ≥ a1 then (some (decide (a0 ≤ a2))) else (some false)
set_option maxHeartbeats 8000000 in
set_option maxRecDepth 100000 in
theorem spec_l1In.calls (a0 : Int) (a1 : Int) (a2 : Int) (r : Bool) (w : World) (h : spec_l1In.f a0 a1 a2 = some r) :
 Calls Try.prog 87 #[.int .i64 a0, .int .i64 a1, .int .i64 a2] w fun e w' => e = .returned (.bool r) ∧ Drawn0 w w' := by
 have H : (if a0 ≥ a1 then (some (decide (a0 ≤ a2))) else (some false)) = some r := h
 clear h
 by_cases c4 : a0 ≥ a1
 ·rw [if_pos c4] at H
  have c4b0 : decide (a1 ≤ a0) = true := decide_eq_true c4; clear c4
  obtain rfl := Option.some.inj H
  go_enter Try.func87, Try.ntmps87
  go_wp2
  go_ret
  exact ⟨by first | rfl | (simp; done) | (simp [*]; done), by repeat (first | exact Drawn0.refl _ | apply Drawn0.step)⟩
 ·rw [if_neg c4] at H
  have c4b0 : decide (a1 ≤ a0) = false := decide_eq_false c4; clear c4
  obtain rfl := Option.some.inj H
  go_enter Try.func87, Try.ntmps87
  go_wp2
  go_ret
  exact ⟨by first | rfl | (simp; done) | (simp [*]; done), by repeat (first | exact Drawn0.refl _ | apply Drawn0.step)⟩

/-! ### spec_CmdOk: function 24 -/
def spec_CmdOk.j0 : Nat → Bool → Int → Int → Int → Int → ByteArray → Int → Int → Int → Int → ByteArray → Option (Bool)
 | 0, _, _, _, _, _, _, _, _, _, _, _ => none
 | k + 1, x22, x364000, x364001, x364002, x364003, x364004, x365000, x365001, x365002, x365003, x365004 => if x22 = true then (some false) else (if x364000 = 2 then ((spec_l1In.f x364003 0 1000).bind fun t367 => (if t367 = true then (if (x364004.size : Int) = 32 then (some (x364002 == 0)) else (some false)) else (some false))) else (if x364000 = 3 then ((spec_l1In.f x364002 0 4).bind fun t368 => (if t368 = true then (some (x364000 == x365000 && (x364003 == x365003 && (x364004.toList == x365004.toList)))) else (some false))) else (some (x364000 == x365000 && (x364002 == x365002 && (x364003 == x365003 && (x364004.toList == x365004.toList)))))))
def spec_CmdOk.f (k : Nat) (a0_0 : Int) (a0_1 : Int) (a0_2 : Int) (a0_3 : Int) (a0_4 : ByteArray) : Option (Bool) := if a0_0 = 1 then (some (a0_1 == 0 && (a0_2 == 0 && (a0_3 == 0 && (a0_4.toList == ([] : List UInt8)))))) else ((spec_l1In.f a0_0 2 5).bind fun t365 => (if t365 = true then ((spec_l1In.f a0_1 1 1000).bind fun t366 => (spec_CmdOk.j0 k (!t366) a0_0 a0_1 a0_2 a0_3 a0_4 a0_0 0 0 0 (⟨#[]⟩ : ByteArray))) else (spec_CmdOk.j0 k true a0_0 a0_1 a0_2 a0_3 a0_4 a0_0 0 0 0 (⟨#[]⟩ : ByteArray))))
set_option maxRecDepth 100000 in
theorem spec_CmdOk.mono_l : ∀ k, (∀ y0 y1 y2 y3 y4 y5 y6 y7 y8 y9 y10, LeO (spec_CmdOk.j0 k y0 y1 y2 y3 y4 y5 y6 y7 y8 y9 y10) (spec_CmdOk.j0 (k + 1) y0 y1 y2 y3 y4 y5 y6 y7 y8 y9 y10))
 | 0 => fun _ _ _ _ _ _ _ _ _ _ _ r h => by simp [spec_CmdOk.j0] at h
 | k + 1 => by
  have ih0 := spec_CmdOk.mono_l k
  ·intro y0 y1 y2 y3 y4 y5 y6 y7 y8 y9 y10
   unfold spec_CmdOk.j0
   repeat' first
   | (with_reducible exact ih0 _ _ _ _ _ _ _ _ _ _ _)
   | (with_reducible exact LeO.refl _)
   | (with_reducible exact LeO.none _)
   | (with_reducible refine LeO.ite ?_ ?_)
   | (with_reducible refine LeO.bind ?_ (fun _ => ?_))
   | exact ih0 _ _ _ _ _ _ _ _ _ _ _
   | exact LeO.none _
   | refine LeO.ite ?_ ?_
   | refine LeO.bind ?_ (fun _ => ?_)
theorem spec_CmdOk.mono : ∀ a0 a1 a2 a3 a4 k, LeO (spec_CmdOk.f k a0 a1 a2 a3 a4) (spec_CmdOk.f (k + 1) a0 a1 a2 a3 a4) := by
 intro a0 a1 a2 a3 a4 k
 have ih0 := spec_CmdOk.mono_l k
 unfold spec_CmdOk.f
 repeat' first
  | (with_reducible exact ih0 _ _ _ _ _ _ _ _ _ _ _)
  | (with_reducible exact LeO.refl _)
  | (with_reducible exact LeO.none _)
  | (with_reducible refine LeO.ite ?_ ?_)
  | (with_reducible refine LeO.bind ?_ (fun _ => ?_))
  | exact ih0 _ _ _ _ _ _ _ _ _ _ _
  | exact LeO.none _
  | refine LeO.ite ?_ ?_
  | refine LeO.bind ?_ (fun _ => ?_)
set_option maxHeartbeats 8000000 in
set_option maxRecDepth 100000 in
theorem spec_CmdOk.calls (k : Nat) (a0_0 : Int) (a0_1 : Int) (a0_2 : Int) (a0_3 : Int) (a0_4 : ByteArray) (r : Bool) (w : World) (h : spec_CmdOk.f k a0_0 a0_1 a0_2 a0_3 a0_4 = some r) :
 Calls Try.prog 24 #[.agg #[.int .i64 a0_0, .int .i64 a0_1, .int .i64 a0_2, .int .i64 a0_3, .string a0_4]] w fun e w' => e = .returned (.bool r) ∧ Below w.heap.size w w' := by
 have hu34 := Try.underlying34
 have HB := aM (Below.refl w.heap.size w)
 have H : (if a0_0 = 1 then (some (a0_1 == 0 && (a0_2 == 0 && (a0_3 == 0 && (a0_4.toList == ([] : List UInt8)))))) else ((spec_l1In.f a0_0 2 5).bind fun t365 => (if t365 = true then ((spec_l1In.f a0_1 1 1000).bind fun t366 => (spec_CmdOk.j0 k (!t366) a0_0 a0_1 a0_2 a0_3 a0_4 a0_0 0 0 0 (⟨#[]⟩ : ByteArray))) else (spec_CmdOk.j0 k true a0_0 a0_1 a0_2 a0_3 a0_4 a0_0 0 0 0 (⟨#[]⟩ : ByteArray))))) = some r := h
 clear h
 by_cases c2 : a0_0 = 1
 ·rw [if_pos c2] at H
  have c2b0 : (a0_0 == 1) = true := beq_iff_eq.mpr c2; have c2b1 : (a0_0 != 1) = false := bne_eq_false_iff_eq.mpr c2; clear c2
  obtain rfl := Option.some.inj H
  go_enter Try.func24, Try.ntmps24
  go_wp2_with (first | ((with_reducible refine gate_dst (N := 1) rfl ?_); (try (refine gate_guard (by rfl) ?_; dsimp only)); refine box_event ?hg (N := 1) ?hd (cs := #[.int .i64 a0_0, .int .i64 a0_1, .int .i64 a0_2, .int .i64 a0_3, .string a0_4]) (t := 34) ?hr ?_; (case hd => rfl); (case hg => rfl); (case hr => first | (go_simp; done) | (go_simp; rfl)); intro gb363 hg w3 hbox hb; have BK363 := aM (hbox); have GW363 := aM (xge hg); have GE363 := aM (xge hg); replace HB := xbs hb; clear hb hbox hg; have hcz4_0 : w3.cell? ⟨gb363, 0, none⟩ = some (.int .i64 a0_0) := xc BK363 0 rfl; have hcz4_1 : w3.cell? ⟨gb363, 1, none⟩ = some (.int .i64 a0_1) := xc BK363 1 rfl; have hcz4_2 : w3.cell? ⟨gb363, 2, none⟩ = some (.int .i64 a0_2) := xc BK363 2 rfl; have hcz4_3 : w3.cell? ⟨gb363, 3, none⟩ = some (.int .i64 a0_3) := xc BK363 3 rfl; have hcz4_4 : w3.cell? ⟨gb363, 4, none⟩ = some (.string a0_4) := xc BK363 4 rfl; have hfz4_0 := blk_frozen BK363.out 0; have hfz4_1 := blk_frozen BK363.out 1; have hfz4_2 := blk_frozen BK363.out 2; have hfz4_3 := blk_frozen BK363.out 3; have hfz4_4 := blk_frozen BK363.out 4) | ((with_reducible refine gate_dst (N := 3) rfl ?_); (try (refine gate_guard (by rfl) ?_; dsimp only)); refine box_event ?hg (N := 3) ?hd (cs := #[.int .i64 0, .int .i64 0, .int .i64 0, .int .i64 0, .string (⟨#[]⟩ : ByteArray)]) (t := 34) ?hr ?_; (case hd => rfl); (case hg => rfl); (case hr => first | (go_simp; done) | (go_simp; rfl)); intro gb364 hg w5 hbox hb; have GW364 := aM (xge hg); have GE364 := aM (xge hg); replace HB := xbs hb; have NB363_364 := aM ((by rw [hg]; exact Nat.ne_of_lt (blk_lt (g := gb363) (o := .cells #[.int .i64 a0_0, .int .i64 a0_1, .int .i64 a0_2, .int .i64 a0_3, .string a0_4] 34 (0, 0)) xblk) : gb363 ≠ gb364)); have NB364_363 := aM ((by rw [hg]; exact Nat.ne_of_gt (blk_lt (g := gb363) (o := .cells #[.int .i64 a0_0, .int .i64 a0_1, .int .i64 a0_2, .int .i64 a0_3, .string a0_4] 34 (0, 0)) xblk) : gb364 ≠ gb363)); replace BK363 := xbb BK363 hb; have BK364 := aM (hbox); clear hb hbox hg; have hnb6 := NB364_363.out; have hnc6 := NB363_364.out; have hcz7_0 : w5.cell? ⟨gb364, 0, none⟩ = some (.int .i64 0) := xc BK364 0 rfl; have hcz7_1 : w5.cell? ⟨gb364, 1, none⟩ = some (.int .i64 0) := xc BK364 1 rfl; have hcz7_2 : w5.cell? ⟨gb364, 2, none⟩ = some (.int .i64 0) := xc BK364 2 rfl; have hcz7_3 : w5.cell? ⟨gb364, 3, none⟩ = some (.int .i64 0) := xc BK364 3 rfl; have hcz7_4 : w5.cell? ⟨gb364, 4, none⟩ = some (.string (⟨#[]⟩ : ByteArray)) := xc BK364 4 rfl; have hfz7_0 := blk_frozen BK364.out 0; have hfz7_1 := blk_frozen BK364.out 1; have hfz7_2 := blk_frozen BK364.out 2; have hfz7_3 := blk_frozen BK364.out 3; have hfz7_4 := blk_frozen BK364.out 4) | ((with_reducible refine gate_store (t := 34) (p := 3) rfl ?_); refine store_event (t := 34) (p := 3) (v := ?vo_w8) (w1 := (((((w5.setCell ⟨gb364, 0, none⟩ (.int .i64 a0_0)).setCell ⟨gb364, 1, none⟩ (.int .i64 0)).setCell ⟨gb364, 2, none⟩ (.int .i64 0)).setCell ⟨gb364, 3, none⟩ (.int .i64 0)).setCell ⟨gb364, 4, none⟩ (.string (⟨#[]⟩ : ByteArray)))) ?hg ?ho ?hn ?hr ?_; (case ho => rfl); (case hg => rfl); (case hn => rfl); (case hr => first | (go_simp; done) | (go_simp; rfl)); intro w8 hw; replace BK363 : Aside0 (w8.heap[gb363]? = some (.cells #[.int .i64 a0_0, .int .i64 a0_1, .int .i64 a0_2, .int .i64 a0_3, .string a0_4] 34 (0, 0))) := ⟨(by rw [hw]; exact (by (with_reducible repeat (first | refine blk_drewN ?_ _ | refine blk_drew ?_ | refine blk_alloc ?_ _)); refine blk_far ?_ NB363_364.out _; (with_reducible repeat (first | refine blk_drewN ?_ _ | refine blk_drew ?_ | refine blk_alloc ?_ _)); refine blk_far ?_ NB363_364.out _; (with_reducible repeat (first | refine blk_drewN ?_ _ | refine blk_drew ?_ | refine blk_alloc ?_ _)); refine blk_far ?_ NB363_364.out _; (with_reducible repeat (first | refine blk_drewN ?_ _ | refine blk_drew ?_ | refine blk_alloc ?_ _)); refine blk_far ?_ NB363_364.out _; (with_reducible repeat (first | refine blk_drewN ?_ _ | refine blk_drew ?_ | refine blk_alloc ?_ _)); refine blk_far ?_ NB363_364.out _; (with_reducible repeat (first | refine blk_drewN ?_ _ | refine blk_drew ?_ | refine blk_alloc ?_ _)); exact BK363.out))⟩; replace BK364 : Aside0 (w8.heap[gb364]? = some (.cells #[.int .i64 a0_0, .int .i64 0, .int .i64 0, .int .i64 0, .string (⟨#[]⟩ : ByteArray)] 34 (0, 0))) := ⟨(by rw [hw]; exact (by (with_reducible repeat (first | refine blk_drewN ?_ _ | refine blk_drew ?_ | refine blk_alloc ?_ _)); refine blk_put (cs := #[.int .i64 a0_0, .int .i64 0, .int .i64 0, .int .i64 0, .string (⟨#[]⟩ : ByteArray)]) ?_ 4 _ rfl; (with_reducible repeat (first | refine blk_drewN ?_ _ | refine blk_drew ?_ | refine blk_alloc ?_ _)); refine blk_put (cs := #[.int .i64 a0_0, .int .i64 0, .int .i64 0, .int .i64 0, .string (⟨#[]⟩ : ByteArray)]) ?_ 3 _ rfl; (with_reducible repeat (first | refine blk_drewN ?_ _ | refine blk_drew ?_ | refine blk_alloc ?_ _)); refine blk_put (cs := #[.int .i64 a0_0, .int .i64 0, .int .i64 0, .int .i64 0, .string (⟨#[]⟩ : ByteArray)]) ?_ 2 _ rfl; (with_reducible repeat (first | refine blk_drewN ?_ _ | refine blk_drew ?_ | refine blk_alloc ?_ _)); refine blk_put (cs := #[.int .i64 a0_0, .int .i64 0, .int .i64 0, .int .i64 0, .string (⟨#[]⟩ : ByteArray)]) ?_ 1 _ rfl; (with_reducible repeat (first | refine blk_drewN ?_ _ | refine blk_drew ?_ | refine blk_alloc ?_ _)); refine blk_put (cs := #[.int .i64 0, .int .i64 0, .int .i64 0, .int .i64 0, .string (⟨#[]⟩ : ByteArray)]) ?_ 0 _ rfl; (with_reducible repeat (first | refine blk_drewN ?_ _ | refine blk_drew ?_ | refine blk_alloc ?_ _)); exact BK364.out))⟩; replace HB : Aside0 (Below w.heap.size w w8) := ⟨(by rw [hw]; exact xbg)⟩; clear hw; have hcz9_0 : w8.cell? ⟨gb363, 0, none⟩ = some (.int .i64 a0_0) := xc BK363 0 rfl; have hcz9_1 : w8.cell? ⟨gb363, 1, none⟩ = some (.int .i64 a0_1) := xc BK363 1 rfl; have hcz9_2 : w8.cell? ⟨gb363, 2, none⟩ = some (.int .i64 a0_2) := xc BK363 2 rfl; have hcz9_3 : w8.cell? ⟨gb363, 3, none⟩ = some (.int .i64 a0_3) := xc BK363 3 rfl; have hcz9_4 : w8.cell? ⟨gb363, 4, none⟩ = some (.string a0_4) := xc BK363 4 rfl; have hfz9_0 := blk_frozen BK363.out 0; have hfz9_1 := blk_frozen BK363.out 1; have hfz9_2 := blk_frozen BK363.out 2; have hfz9_3 := blk_frozen BK363.out 3; have hfz9_4 := blk_frozen BK363.out 4; have hcz10_0 : w8.cell? ⟨gb364, 0, none⟩ = some (.int .i64 a0_0) := xc BK364 0 rfl; have hcz10_1 : w8.cell? ⟨gb364, 1, none⟩ = some (.int .i64 0) := xc BK364 1 rfl; have hcz10_2 : w8.cell? ⟨gb364, 2, none⟩ = some (.int .i64 0) := xc BK364 2 rfl; have hcz10_3 : w8.cell? ⟨gb364, 3, none⟩ = some (.int .i64 0) := xc BK364 3 rfl; have hcz10_4 : w8.cell? ⟨gb364, 4, none⟩ = some (.string (⟨#[]⟩ : ByteArray)) := xc BK364 4 rfl; have hfz10_0 := blk_frozen BK364.out 0; have hfz10_1 := blk_frozen BK364.out 1; have hfz10_2 := blk_frozen BK364.out 2; have hfz10_3 := blk_frozen BK364.out 3; have hfz10_4 := blk_frozen BK364.out 4))
  go_ret
  exact ⟨by first | rfl | (simp [errW_none, errW_some] <;> rfl) | (simp [*, errW_none, errW_some] <;> rfl), xbg⟩
 ·rw [if_neg c2] at H
  have c2b0 : (a0_0 == 1) = false := beq_eq_false_iff_ne.mpr c2; have c2b1 : (a0_0 != 1) = true := bne_iff_ne.mpr c2; have HC11 := aM H; clear H
  go_enter Try.func24, Try.ntmps24
  go_upto_region 4 with (first | ((with_reducible refine gate_dst (N := 1) rfl ?_); (try (refine gate_guard (by rfl) ?_; dsimp only)); refine box_event ?hg (N := 1) ?hd (cs := #[.int .i64 a0_0, .int .i64 a0_1, .int .i64 a0_2, .int .i64 a0_3, .string a0_4]) (t := 34) ?hr ?_; (case hd => rfl); (case hg => rfl); (case hr => first | (go_simp; done) | (go_simp; rfl)); intro gb363 hg w12 hbox hb; have BK363 := aM (hbox); have GW363 := aM (xge hg); have GE363 := aM (xge hg); replace HB := xbs hb; clear hb hbox hg; have hcz13_0 : w12.cell? ⟨gb363, 0, none⟩ = some (.int .i64 a0_0) := xc BK363 0 rfl; have hcz13_1 : w12.cell? ⟨gb363, 1, none⟩ = some (.int .i64 a0_1) := xc BK363 1 rfl; have hcz13_2 : w12.cell? ⟨gb363, 2, none⟩ = some (.int .i64 a0_2) := xc BK363 2 rfl; have hcz13_3 : w12.cell? ⟨gb363, 3, none⟩ = some (.int .i64 a0_3) := xc BK363 3 rfl; have hcz13_4 : w12.cell? ⟨gb363, 4, none⟩ = some (.string a0_4) := xc BK363 4 rfl; have hfz13_0 := blk_frozen BK363.out 0; have hfz13_1 := blk_frozen BK363.out 1; have hfz13_2 := blk_frozen BK363.out 2; have hfz13_3 := blk_frozen BK363.out 3; have hfz13_4 := blk_frozen BK363.out 4) | ((with_reducible refine gate_dst (N := 3) rfl ?_); (try (refine gate_guard (by rfl) ?_; dsimp only)); refine box_event ?hg (N := 3) ?hd (cs := #[.int .i64 0, .int .i64 0, .int .i64 0, .int .i64 0, .string (⟨#[]⟩ : ByteArray)]) (t := 34) ?hr ?_; (case hd => rfl); (case hg => rfl); (case hr => first | (go_simp; done) | (go_simp; rfl)); intro gb364 hg w14 hbox hb; have GW364 := aM (xge hg); have GE364 := aM (xge hg); replace HB := xbs hb; have NB363_364 := aM ((by rw [hg]; exact Nat.ne_of_lt (blk_lt (g := gb363) (o := .cells #[.int .i64 a0_0, .int .i64 a0_1, .int .i64 a0_2, .int .i64 a0_3, .string a0_4] 34 (0, 0)) xblk) : gb363 ≠ gb364)); have NB364_363 := aM ((by rw [hg]; exact Nat.ne_of_gt (blk_lt (g := gb363) (o := .cells #[.int .i64 a0_0, .int .i64 a0_1, .int .i64 a0_2, .int .i64 a0_3, .string a0_4] 34 (0, 0)) xblk) : gb364 ≠ gb363)); replace BK363 := xbb BK363 hb; have BK364 := aM (hbox); clear hb hbox hg; have hnb15 := NB364_363.out; have hnc15 := NB363_364.out; have hcz16_0 : w14.cell? ⟨gb364, 0, none⟩ = some (.int .i64 0) := xc BK364 0 rfl; have hcz16_1 : w14.cell? ⟨gb364, 1, none⟩ = some (.int .i64 0) := xc BK364 1 rfl; have hcz16_2 : w14.cell? ⟨gb364, 2, none⟩ = some (.int .i64 0) := xc BK364 2 rfl; have hcz16_3 : w14.cell? ⟨gb364, 3, none⟩ = some (.int .i64 0) := xc BK364 3 rfl; have hcz16_4 : w14.cell? ⟨gb364, 4, none⟩ = some (.string (⟨#[]⟩ : ByteArray)) := xc BK364 4 rfl; have hfz16_0 := blk_frozen BK364.out 0; have hfz16_1 := blk_frozen BK364.out 1; have hfz16_2 := blk_frozen BK364.out 2; have hfz16_3 := blk_frozen BK364.out 3; have hfz16_4 := blk_frozen BK364.out 4) | ((with_reducible refine gate_store (t := 34) (p := 3) rfl ?_); refine store_event (t := 34) (p := 3) (v := ?vo_w17) (w1 := (((((w14.setCell ⟨gb364, 0, none⟩ (.int .i64 a0_0)).setCell ⟨gb364, 1, none⟩ (.int .i64 0)).setCell ⟨gb364, 2, none⟩ (.int .i64 0)).setCell ⟨gb364, 3, none⟩ (.int .i64 0)).setCell ⟨gb364, 4, none⟩ (.string (⟨#[]⟩ : ByteArray)))) ?hg ?ho ?hn ?hr ?_; (case ho => rfl); (case hg => rfl); (case hn => rfl); (case hr => first | (go_simp; done) | (go_simp; rfl)); intro w17 hw; replace BK363 : Aside0 (w17.heap[gb363]? = some (.cells #[.int .i64 a0_0, .int .i64 a0_1, .int .i64 a0_2, .int .i64 a0_3, .string a0_4] 34 (0, 0))) := ⟨(by rw [hw]; exact (by (with_reducible repeat (first | refine blk_drewN ?_ _ | refine blk_drew ?_ | refine blk_alloc ?_ _)); refine blk_far ?_ NB363_364.out _; (with_reducible repeat (first | refine blk_drewN ?_ _ | refine blk_drew ?_ | refine blk_alloc ?_ _)); refine blk_far ?_ NB363_364.out _; (with_reducible repeat (first | refine blk_drewN ?_ _ | refine blk_drew ?_ | refine blk_alloc ?_ _)); refine blk_far ?_ NB363_364.out _; (with_reducible repeat (first | refine blk_drewN ?_ _ | refine blk_drew ?_ | refine blk_alloc ?_ _)); refine blk_far ?_ NB363_364.out _; (with_reducible repeat (first | refine blk_drewN ?_ _ | refine blk_drew ?_ | refine blk_alloc ?_ _)); refine blk_far ?_ NB363_364.out _; (with_reducible repeat (first | refine blk_drewN ?_ _ | refine blk_drew ?_ | refine blk_alloc ?_ _)); exact BK363.out))⟩; replace BK364 : Aside0 (w17.heap[gb364]? = some (.cells #[.int .i64 a0_0, .int .i64 0, .int .i64 0, .int .i64 0, .string (⟨#[]⟩ : ByteArray)] 34 (0, 0))) := ⟨(by rw [hw]; exact (by (with_reducible repeat (first | refine blk_drewN ?_ _ | refine blk_drew ?_ | refine blk_alloc ?_ _)); refine blk_put (cs := #[.int .i64 a0_0, .int .i64 0, .int .i64 0, .int .i64 0, .string (⟨#[]⟩ : ByteArray)]) ?_ 4 _ rfl; (with_reducible repeat (first | refine blk_drewN ?_ _ | refine blk_drew ?_ | refine blk_alloc ?_ _)); refine blk_put (cs := #[.int .i64 a0_0, .int .i64 0, .int .i64 0, .int .i64 0, .string (⟨#[]⟩ : ByteArray)]) ?_ 3 _ rfl; (with_reducible repeat (first | refine blk_drewN ?_ _ | refine blk_drew ?_ | refine blk_alloc ?_ _)); refine blk_put (cs := #[.int .i64 a0_0, .int .i64 0, .int .i64 0, .int .i64 0, .string (⟨#[]⟩ : ByteArray)]) ?_ 2 _ rfl; (with_reducible repeat (first | refine blk_drewN ?_ _ | refine blk_drew ?_ | refine blk_alloc ?_ _)); refine blk_put (cs := #[.int .i64 a0_0, .int .i64 0, .int .i64 0, .int .i64 0, .string (⟨#[]⟩ : ByteArray)]) ?_ 1 _ rfl; (with_reducible repeat (first | refine blk_drewN ?_ _ | refine blk_drew ?_ | refine blk_alloc ?_ _)); refine blk_put (cs := #[.int .i64 0, .int .i64 0, .int .i64 0, .int .i64 0, .string (⟨#[]⟩ : ByteArray)]) ?_ 0 _ rfl; (with_reducible repeat (first | refine blk_drewN ?_ _ | refine blk_drew ?_ | refine blk_alloc ?_ _)); exact BK364.out))⟩; replace HB : Aside0 (Below w.heap.size w w17) := ⟨(by rw [hw]; exact xbg)⟩; clear hw; have hcz18_0 : w17.cell? ⟨gb363, 0, none⟩ = some (.int .i64 a0_0) := xc BK363 0 rfl; have hcz18_1 : w17.cell? ⟨gb363, 1, none⟩ = some (.int .i64 a0_1) := xc BK363 1 rfl; have hcz18_2 : w17.cell? ⟨gb363, 2, none⟩ = some (.int .i64 a0_2) := xc BK363 2 rfl; have hcz18_3 : w17.cell? ⟨gb363, 3, none⟩ = some (.int .i64 a0_3) := xc BK363 3 rfl; have hcz18_4 : w17.cell? ⟨gb363, 4, none⟩ = some (.string a0_4) := xc BK363 4 rfl; have hfz18_0 := blk_frozen BK363.out 0; have hfz18_1 := blk_frozen BK363.out 1; have hfz18_2 := blk_frozen BK363.out 2; have hfz18_3 := blk_frozen BK363.out 3; have hfz18_4 := blk_frozen BK363.out 4))
  (try simp only [Act.put, List.setIfInBounds_toArray, List.set_cons_zero, List.set_cons_succ])
  go_cut [22] (fun v22 wc => ∃ (kq : Nat) (x22_10 : Bool), v22 = .bool x22_10 ∧ Aside0 (spec_CmdOk.j0 kq x22_10 a0_0 a0_1 a0_2 a0_3 a0_4 a0_0 0 0 0 (⟨#[]⟩ : ByteArray) = some r) ∧ Aside0 (kq ≤ k) ∧ Aside0 (wc.heap[gb363]? = some (.cells #[.int .i64 a0_0, .int .i64 a0_1, .int .i64 a0_2, .int .i64 a0_3, .string a0_4] 34 (0, 0))) ∧ Aside0 (wc.heap[gb364]? = some (.cells #[.int .i64 a0_0, .int .i64 0, .int .i64 0, .int .i64 0, .string (⟨#[]⟩ : ByteArray)] 34 (0, 0))) ∧ Aside0 (Below w.heap.size w wc))
  case first =>
   have H := HC11.out; clear HC11; replace H := Option.bind_eq_some_iff.mp H
   obtain ⟨t365, A190, H⟩ := H
   replace H : (if t365 = true then ((spec_l1In.f a0_1 1 1000).bind fun t366 => (spec_CmdOk.j0 k (!t366) a0_0 a0_1 a0_2 a0_3 a0_4 a0_0 0 0 0 (⟨#[]⟩ : ByteArray))) else (spec_CmdOk.j0 k true a0_0 a0_1 a0_2 a0_3 a0_4 a0_0 0 0 0 (⟨#[]⟩ : ByteArray))) = some r := H; have A19 := aM A190; clear A190
   by_cases c20 : t365 = true
   ·subst c20
    have H1 : ((spec_l1In.f a0_1 1 1000).bind fun t366 => (spec_CmdOk.j0 k (!t366) a0_0 a0_1 a0_2 a0_3 a0_4 a0_0 0 0 0 (⟨#[]⟩ : ByteArray))) = some r := by rw [if_pos rfl] at H; exact H
    clear H; have H := H1; clear H1; replace H := Option.bind_eq_some_iff.mp H
    obtain ⟨t366, A210, H⟩ := H
    replace H : (spec_CmdOk.j0 k (!t366) a0_0 a0_1 a0_2 a0_3 a0_4 a0_0 0 0 0 (⟨#[]⟩ : ByteArray)) = some r := H; have A21 := aM A210; clear A210
    have H' := aM H
    clear H; have hnb22 := NB363_364.out; have hnc22 := NB364_363.out; have hcz23_0 : w17.cell? ⟨gb363, 0, none⟩ = some (.int .i64 a0_0) := xc BK363 0 rfl; have hcz23_1 : w17.cell? ⟨gb363, 1, none⟩ = some (.int .i64 a0_1) := xc BK363 1 rfl; have hcz23_2 : w17.cell? ⟨gb363, 2, none⟩ = some (.int .i64 a0_2) := xc BK363 2 rfl; have hcz23_3 : w17.cell? ⟨gb363, 3, none⟩ = some (.int .i64 a0_3) := xc BK363 3 rfl; have hcz23_4 : w17.cell? ⟨gb363, 4, none⟩ = some (.string a0_4) := xc BK363 4 rfl; have hfz23_0 := blk_frozen BK363.out 0; have hfz23_1 := blk_frozen BK363.out 1; have hfz23_2 := blk_frozen BK363.out 2; have hfz23_3 := blk_frozen BK363.out 3; have hfz23_4 := blk_frozen BK363.out 4
    go_wp2_with (first | ((with_reducible refine gate_callee (f := 87) rfl ?_); refine goesL_ (some 15) rfl rfl Try.func87 (by kernel_rfl) rfl #[.int .i64 a0_0, .int .i64 2, .int .i64 5] rfl (by (try simp only [List.map_toArray, List.map_cons, List.map_nil]); first | done | rfl | (simp only [List.length_drop, List.length_take]; rfl)) ?_; (with_reducible refine (spec_l1In.calls a0_0 2 5 true _ A19.out).mono ?_); rintro e w' ⟨rfl, ⟨nd, rfl⟩⟩; refine ⟨_, rfl, ?_⟩) | (go_at_call 87; (with_reducible refine (spec_l1In.calls a0_1 1 1000 t366 _ A21.out).mono ?_); rintro e w' ⟨rfl, ⟨nd, rfl⟩⟩))
    go_meet
    case rel => exact ⟨_, (!t366), (by first | rfl | (simp; done) | (simp [*]; done)), H', ⟨by first | omega | exact Nat.le_refl _⟩, ⟨xblk⟩, ⟨xblk⟩, ⟨xbg⟩⟩
   ·replace c20 := Bool.eq_false_iff.mpr c20
    subst c20
    have H1 : (spec_CmdOk.j0 k true a0_0 a0_1 a0_2 a0_3 a0_4 a0_0 0 0 0 (⟨#[]⟩ : ByteArray)) = some r := by rw [if_neg (show ¬ (false = true) by decide)] at H; exact H
    clear H; have H := H1; clear H1
    have H' := aM H
    clear H; have hnb24 := NB363_364.out; have hnc24 := NB364_363.out; have hcz25_0 : w17.cell? ⟨gb363, 0, none⟩ = some (.int .i64 a0_0) := xc BK363 0 rfl; have hcz25_1 : w17.cell? ⟨gb363, 1, none⟩ = some (.int .i64 a0_1) := xc BK363 1 rfl; have hcz25_2 : w17.cell? ⟨gb363, 2, none⟩ = some (.int .i64 a0_2) := xc BK363 2 rfl; have hcz25_3 : w17.cell? ⟨gb363, 3, none⟩ = some (.int .i64 a0_3) := xc BK363 3 rfl; have hcz25_4 : w17.cell? ⟨gb363, 4, none⟩ = some (.string a0_4) := xc BK363 4 rfl; have hfz25_0 := blk_frozen BK363.out 0; have hfz25_1 := blk_frozen BK363.out 1; have hfz25_2 := blk_frozen BK363.out 2; have hfz25_3 := blk_frozen BK363.out 3; have hfz25_4 := blk_frozen BK363.out 4
    go_wp2_with (first | ((with_reducible refine gate_callee (f := 87) rfl ?_); refine goesL_ (some 15) rfl rfl Try.func87 (by kernel_rfl) rfl #[.int .i64 a0_0, .int .i64 2, .int .i64 5] rfl (by (try simp only [List.map_toArray, List.map_cons, List.map_nil]); first | done | rfl | (simp only [List.length_drop, List.length_take]; rfl)) ?_; (with_reducible refine (spec_l1In.calls a0_0 2 5 false _ A19.out).mono ?_); rintro e w' ⟨rfl, ⟨nd, rfl⟩⟩; refine ⟨_, rfl, ?_⟩))
    go_meet
    case rel => exact ⟨_, (true), (by first | rfl | (simp; done) | (simp [*]; done)), H', ⟨by first | omega | exact Nat.le_refl _⟩, ⟨xblk⟩, ⟨xblk⟩, ⟨xbg⟩⟩
  case rest =>
   clear HC11
   try clear c1
   try clear c2
   try clear c2b0
   try clear c2b1
   try clear p2
   try clear c6
   try clear c8
   try clear c15
   try clear c20
   try clear c22
   try clear c24
   try clear hcz10_0
   try clear hcz10_1
   try clear hcz10_2
   try clear hcz10_3
   try clear hcz10_4
   try clear hcz13_0
   try clear hcz13_1
   try clear hcz13_2
   try clear hcz13_3
   try clear hcz13_4
   try clear hcz16_0
   try clear hcz16_1
   try clear hcz16_2
   try clear hcz16_3
   try clear hcz16_4
   try clear hcz18_0
   try clear hcz18_1
   try clear hcz18_2
   try clear hcz18_3
   try clear hcz18_4
   try clear hcz23_0
   try clear hcz23_1
   try clear hcz23_2
   try clear hcz23_3
   try clear hcz23_4
   try clear hcz25_0
   try clear hcz25_1
   try clear hcz25_2
   try clear hcz25_3
   try clear hcz25_4
   try clear hcz4_0
   try clear hcz4_1
   try clear hcz4_2
   try clear hcz4_3
   try clear hcz4_4
   try clear hcz7_0
   try clear hcz7_1
   try clear hcz7_2
   try clear hcz7_3
   try clear hcz7_4
   try clear hcz9_0
   try clear hcz9_1
   try clear hcz9_2
   try clear hcz9_3
   try clear hcz9_4
   try clear hfz10_0
   try clear hfz10_1
   try clear hfz10_2
   try clear hfz10_3
   try clear hfz10_4
   try clear hfz13_0
   try clear hfz13_1
   try clear hfz13_2
   try clear hfz13_3
   try clear hfz13_4
   try clear hfz16_0
   try clear hfz16_1
   try clear hfz16_2
   try clear hfz16_3
   try clear hfz16_4
   try clear hfz18_0
   try clear hfz18_1
   try clear hfz18_2
   try clear hfz18_3
   try clear hfz18_4
   try clear hfz23_0
   try clear hfz23_1
   try clear hfz23_2
   try clear hfz23_3
   try clear hfz23_4
   try clear hfz25_0
   try clear hfz25_1
   try clear hfz25_2
   try clear hfz25_3
   try clear hfz25_4
   try clear hfz4_0
   try clear hfz4_1
   try clear hfz4_2
   try clear hfz4_3
   try clear hfz4_4
   try clear hfz7_0
   try clear hfz7_1
   try clear hfz7_2
   try clear hfz7_3
   try clear hfz7_4
   try clear hfz9_0
   try clear hfz9_1
   try clear hfz9_2
   try clear hfz9_3
   try clear hfz9_4
   obtain ⟨kq, x22_10, rfl, HA, HJ10, BK363, BK364, HB⟩ := hcut
   cases kq with
   | zero => exact absurd HA.out (by simp [spec_CmdOk.j0])
   | succ kj10 =>
    have H := HA.out; clear HA
    simp only [spec_CmdOk.j0] at H
    by_cases c26 : x22_10 = true
    ·subst c26
     have H1 : (some false) = some r := by rw [if_pos rfl] at H; exact H
     clear H; have H := H1; clear H1
     obtain rfl := Option.some.inj H
     go_wp2
     go_ret
     exact ⟨by first | rfl | (simp [errW_none, errW_some] <;> rfl) | (simp [*, errW_none, errW_some] <;> rfl), xbg⟩
    ·replace c26 := Bool.eq_false_iff.mpr c26
     subst c26
     have H1 : (if a0_0 = 2 then ((spec_l1In.f a0_3 0 1000).bind fun t367 => (if t367 = true then (if (a0_4.size : Int) = 32 then (some (a0_2 == 0)) else (some false)) else (some false))) else (if a0_0 = 3 then ((spec_l1In.f a0_2 0 4).bind fun t368 => (if t368 = true then (some (a0_0 == a0_0 && (a0_3 == 0 && (a0_4.toList == (⟨#[]⟩ : ByteArray).toList)))) else (some false))) else (some (a0_0 == a0_0 && (a0_2 == 0 && (a0_3 == 0 && (a0_4.toList == (⟨#[]⟩ : ByteArray).toList))))))) = some r := by rw [if_neg (show ¬ (false = true) by decide)] at H; exact H
     clear H; have H := H1; clear H1
     by_cases c27 : a0_0 = 2
     ·rw [if_pos c27] at H
      have c27b0 : (a0_0 == 2) = true := beq_iff_eq.mpr c27; have c27b1 : (a0_0 != 2) = false := bne_eq_false_iff_eq.mpr c27; clear c27; replace H := Option.bind_eq_some_iff.mp H
      obtain ⟨t367, A280, H⟩ := H
      replace H : (if t367 = true then (if (a0_4.size : Int) = 32 then (some (a0_2 == 0)) else (some false)) else (some false)) = some r := H; have A28 := aM A280; clear A280
      by_cases c29 : t367 = true
      ·subst c29
       have H1 : (if (a0_4.size : Int) = 32 then (some (a0_2 == 0)) else (some false)) = some r := by rw [if_pos rfl] at H; exact H
       clear H; have H := H1; clear H1
       by_cases c30 : (a0_4.size : Int) = 32
       ·rw [if_pos c30] at H
        have c30b0 : ((a0_4.size : Int) == 32) = true := beq_iff_eq.mpr c30; have c30b1 : ((a0_4.size : Int) != 32) = false := bne_eq_false_iff_eq.mpr c30; clear c30
        obtain rfl := Option.some.inj H
        have hnb31 := NB363_364.out; have hnc31 := NB364_363.out; have hcz32_0 : wc.cell? ⟨gb363, 0, none⟩ = some (.int .i64 a0_0) := xc BK363 0 rfl; have hcz32_1 : wc.cell? ⟨gb363, 1, none⟩ = some (.int .i64 a0_1) := xc BK363 1 rfl; have hcz32_2 : wc.cell? ⟨gb363, 2, none⟩ = some (.int .i64 a0_2) := xc BK363 2 rfl; have hcz32_3 : wc.cell? ⟨gb363, 3, none⟩ = some (.int .i64 a0_3) := xc BK363 3 rfl; have hcz32_4 : wc.cell? ⟨gb363, 4, none⟩ = some (.string a0_4) := xc BK363 4 rfl; have hfz32_0 := blk_frozen BK363.out 0; have hfz32_1 := blk_frozen BK363.out 1; have hfz32_2 := blk_frozen BK363.out 2; have hfz32_3 := blk_frozen BK363.out 3; have hfz32_4 := blk_frozen BK363.out 4; have hcz33_0 : wc.cell? ⟨gb364, 0, none⟩ = some (.int .i64 a0_0) := xc BK364 0 rfl; have hcz33_1 : wc.cell? ⟨gb364, 1, none⟩ = some (.int .i64 0) := xc BK364 1 rfl; have hcz33_2 : wc.cell? ⟨gb364, 2, none⟩ = some (.int .i64 0) := xc BK364 2 rfl; have hcz33_3 : wc.cell? ⟨gb364, 3, none⟩ = some (.int .i64 0) := xc BK364 3 rfl; have hcz33_4 : wc.cell? ⟨gb364, 4, none⟩ = some (.string (⟨#[]⟩ : ByteArray)) := xc BK364 4 rfl; have hfz33_0 := blk_frozen BK364.out 0; have hfz33_1 := blk_frozen BK364.out 1; have hfz33_2 := blk_frozen BK364.out 2; have hfz33_3 := blk_frozen BK364.out 3; have hfz33_4 := blk_frozen BK364.out 4
        go_wp2_with (first | ((with_reducible refine gate_callee (f := 87) rfl ?_); refine goesL_ (some 32) rfl rfl Try.func87 (by kernel_rfl) rfl #[.int .i64 a0_3, .int .i64 0, .int .i64 1000] rfl (by (try simp only [List.map_toArray, List.map_cons, List.map_nil]); first | done | rfl | (simp only [List.length_drop, List.length_take]; rfl)) ?_; (with_reducible refine (spec_l1In.calls a0_3 0 1000 true _ A28.out).mono ?_); rintro e w' ⟨rfl, ⟨nd, rfl⟩⟩; refine ⟨_, rfl, ?_⟩))
        go_ret
        exact ⟨by first | rfl | (simp [errW_none, errW_some] <;> rfl) | (simp [*, errW_none, errW_some] <;> rfl), xbg⟩
       ·rw [if_neg c30] at H
        have c30b0 : ((a0_4.size : Int) == 32) = false := beq_eq_false_iff_ne.mpr c30; have c30b1 : ((a0_4.size : Int) != 32) = true := bne_iff_ne.mpr c30
        obtain rfl := Option.some.inj H
        have hnb34 := NB363_364.out; have hnc34 := NB364_363.out; have hcz35_0 : wc.cell? ⟨gb363, 0, none⟩ = some (.int .i64 a0_0) := xc BK363 0 rfl; have hcz35_1 : wc.cell? ⟨gb363, 1, none⟩ = some (.int .i64 a0_1) := xc BK363 1 rfl; have hcz35_2 : wc.cell? ⟨gb363, 2, none⟩ = some (.int .i64 a0_2) := xc BK363 2 rfl; have hcz35_3 : wc.cell? ⟨gb363, 3, none⟩ = some (.int .i64 a0_3) := xc BK363 3 rfl; have hcz35_4 : wc.cell? ⟨gb363, 4, none⟩ = some (.string a0_4) := xc BK363 4 rfl; have hfz35_0 := blk_frozen BK363.out 0; have hfz35_1 := blk_frozen BK363.out 1; have hfz35_2 := blk_frozen BK363.out 2; have hfz35_3 := blk_frozen BK363.out 3; have hfz35_4 := blk_frozen BK363.out 4; have hcz36_0 : wc.cell? ⟨gb364, 0, none⟩ = some (.int .i64 a0_0) := xc BK364 0 rfl; have hcz36_1 : wc.cell? ⟨gb364, 1, none⟩ = some (.int .i64 0) := xc BK364 1 rfl; have hcz36_2 : wc.cell? ⟨gb364, 2, none⟩ = some (.int .i64 0) := xc BK364 2 rfl; have hcz36_3 : wc.cell? ⟨gb364, 3, none⟩ = some (.int .i64 0) := xc BK364 3 rfl; have hcz36_4 : wc.cell? ⟨gb364, 4, none⟩ = some (.string (⟨#[]⟩ : ByteArray)) := xc BK364 4 rfl; have hfz36_0 := blk_frozen BK364.out 0; have hfz36_1 := blk_frozen BK364.out 1; have hfz36_2 := blk_frozen BK364.out 2; have hfz36_3 := blk_frozen BK364.out 3; have hfz36_4 := blk_frozen BK364.out 4
        go_wp2_with (first | ((with_reducible refine gate_callee (f := 87) rfl ?_); refine goesL_ (some 32) rfl rfl Try.func87 (by kernel_rfl) rfl #[.int .i64 a0_3, .int .i64 0, .int .i64 1000] rfl (by (try simp only [List.map_toArray, List.map_cons, List.map_nil]); first | done | rfl | (simp only [List.length_drop, List.length_take]; rfl)) ?_; (with_reducible refine (spec_l1In.calls a0_3 0 1000 true _ A28.out).mono ?_); rintro e w' ⟨rfl, ⟨nd, rfl⟩⟩; refine ⟨_, rfl, ?_⟩))
        go_ret
        exact ⟨by first | rfl | (simp [errW_none, errW_some] <;> rfl) | (simp [*, errW_none, errW_some] <;> rfl), xbg⟩
      ·replace c29 := Bool.eq_false_iff.mpr c29
       subst c29
       have H1 : (some false) = some r := by rw [if_neg (show ¬ (false = true) by decide)] at H; exact H
       clear H; have H := H1; clear H1
       obtain rfl := Option.some.inj H
       have hnb37 := NB363_364.out; have hnc37 := NB364_363.out; have hcz38_0 : wc.cell? ⟨gb363, 0, none⟩ = some (.int .i64 a0_0) := xc BK363 0 rfl; have hcz38_1 : wc.cell? ⟨gb363, 1, none⟩ = some (.int .i64 a0_1) := xc BK363 1 rfl; have hcz38_2 : wc.cell? ⟨gb363, 2, none⟩ = some (.int .i64 a0_2) := xc BK363 2 rfl; have hcz38_3 : wc.cell? ⟨gb363, 3, none⟩ = some (.int .i64 a0_3) := xc BK363 3 rfl; have hcz38_4 : wc.cell? ⟨gb363, 4, none⟩ = some (.string a0_4) := xc BK363 4 rfl; have hfz38_0 := blk_frozen BK363.out 0; have hfz38_1 := blk_frozen BK363.out 1; have hfz38_2 := blk_frozen BK363.out 2; have hfz38_3 := blk_frozen BK363.out 3; have hfz38_4 := blk_frozen BK363.out 4; have hcz39_0 : wc.cell? ⟨gb364, 0, none⟩ = some (.int .i64 a0_0) := xc BK364 0 rfl; have hcz39_1 : wc.cell? ⟨gb364, 1, none⟩ = some (.int .i64 0) := xc BK364 1 rfl; have hcz39_2 : wc.cell? ⟨gb364, 2, none⟩ = some (.int .i64 0) := xc BK364 2 rfl; have hcz39_3 : wc.cell? ⟨gb364, 3, none⟩ = some (.int .i64 0) := xc BK364 3 rfl; have hcz39_4 : wc.cell? ⟨gb364, 4, none⟩ = some (.string (⟨#[]⟩ : ByteArray)) := xc BK364 4 rfl; have hfz39_0 := blk_frozen BK364.out 0; have hfz39_1 := blk_frozen BK364.out 1; have hfz39_2 := blk_frozen BK364.out 2; have hfz39_3 := blk_frozen BK364.out 3; have hfz39_4 := blk_frozen BK364.out 4
       go_wp2_with (first | ((with_reducible refine gate_callee (f := 87) rfl ?_); refine goesL_ (some 32) rfl rfl Try.func87 (by kernel_rfl) rfl #[.int .i64 a0_3, .int .i64 0, .int .i64 1000] rfl (by (try simp only [List.map_toArray, List.map_cons, List.map_nil]); first | done | rfl | (simp only [List.length_drop, List.length_take]; rfl)) ?_; (with_reducible refine (spec_l1In.calls a0_3 0 1000 false _ A28.out).mono ?_); rintro e w' ⟨rfl, ⟨nd, rfl⟩⟩; refine ⟨_, rfl, ?_⟩))
       go_ret
       exact ⟨by first | rfl | (simp [errW_none, errW_some] <;> rfl) | (simp [*, errW_none, errW_some] <;> rfl), xbg⟩
     ·rw [if_neg c27] at H
      have c27b0 : (a0_0 == 2) = false := beq_eq_false_iff_ne.mpr c27; have c27b1 : (a0_0 != 2) = true := bne_iff_ne.mpr c27
      by_cases c40 : a0_0 = 3
      ·rw [if_pos c40] at H
       have c40b0 : (a0_0 == 3) = true := beq_iff_eq.mpr c40; have c40b1 : (a0_0 != 3) = false := bne_eq_false_iff_eq.mpr c40; clear c40; replace H := Option.bind_eq_some_iff.mp H
       obtain ⟨t368, A410, H⟩ := H
       replace H : (if t368 = true then (some (a0_0 == a0_0 && (a0_3 == 0 && (a0_4.toList == (⟨#[]⟩ : ByteArray).toList)))) else (some false)) = some r := H; have A41 := aM A410; clear A410
       by_cases c42 : t368 = true
       ·subst c42
        have H1 : (some (a0_0 == a0_0 && (a0_3 == 0 && (a0_4.toList == (⟨#[]⟩ : ByteArray).toList)))) = some r := by rw [if_pos rfl] at H; exact H
        clear H; have H := H1; clear H1
        obtain rfl := Option.some.inj H
        have hnb43 := NB363_364.out; have hnc43 := NB364_363.out; have hcz44_0 : wc.cell? ⟨gb363, 0, none⟩ = some (.int .i64 a0_0) := xc BK363 0 rfl; have hcz44_1 : wc.cell? ⟨gb363, 1, none⟩ = some (.int .i64 a0_1) := xc BK363 1 rfl; have hcz44_2 : wc.cell? ⟨gb363, 2, none⟩ = some (.int .i64 a0_2) := xc BK363 2 rfl; have hcz44_3 : wc.cell? ⟨gb363, 3, none⟩ = some (.int .i64 a0_3) := xc BK363 3 rfl; have hcz44_4 : wc.cell? ⟨gb363, 4, none⟩ = some (.string a0_4) := xc BK363 4 rfl; have hfz44_0 := blk_frozen BK363.out 0; have hfz44_1 := blk_frozen BK363.out 1; have hfz44_2 := blk_frozen BK363.out 2; have hfz44_3 := blk_frozen BK363.out 3; have hfz44_4 := blk_frozen BK363.out 4; have hcz45_0 : wc.cell? ⟨gb364, 0, none⟩ = some (.int .i64 a0_0) := xc BK364 0 rfl; have hcz45_1 : wc.cell? ⟨gb364, 1, none⟩ = some (.int .i64 0) := xc BK364 1 rfl; have hcz45_2 : wc.cell? ⟨gb364, 2, none⟩ = some (.int .i64 0) := xc BK364 2 rfl; have hcz45_3 : wc.cell? ⟨gb364, 3, none⟩ = some (.int .i64 0) := xc BK364 3 rfl; have hcz45_4 : wc.cell? ⟨gb364, 4, none⟩ = some (.string (⟨#[]⟩ : ByteArray)) := xc BK364 4 rfl; have hfz45_0 := blk_frozen BK364.out 0; have hfz45_1 := blk_frozen BK364.out 1; have hfz45_2 := blk_frozen BK364.out 2; have hfz45_3 := blk_frozen BK364.out 3; have hfz45_4 := blk_frozen BK364.out 4
        go_wp2_with (first | ((with_reducible refine gate_callee (f := 87) rfl ?_); refine goesL_ (some 51) rfl rfl Try.func87 (by kernel_rfl) rfl #[.int .i64 a0_2, .int .i64 0, .int .i64 4] rfl (by (try simp only [List.map_toArray, List.map_cons, List.map_nil]); first | done | rfl | (simp only [List.length_drop, List.length_take]; rfl)) ?_; (with_reducible refine (spec_l1In.calls a0_2 0 4 true _ A41.out).mono ?_); rintro e w' ⟨rfl, ⟨nd, rfl⟩⟩; refine ⟨_, rfl, ?_⟩))
        go_ret
        exact ⟨by first | rfl | (simp [errW_none, errW_some] <;> rfl) | (simp [*, errW_none, errW_some] <;> rfl), xbg⟩
       ·replace c42 := Bool.eq_false_iff.mpr c42
        subst c42
        have H1 : (some false) = some r := by rw [if_neg (show ¬ (false = true) by decide)] at H; exact H
        clear H; have H := H1; clear H1
        obtain rfl := Option.some.inj H
        have hnb46 := NB363_364.out; have hnc46 := NB364_363.out; have hcz47_0 : wc.cell? ⟨gb363, 0, none⟩ = some (.int .i64 a0_0) := xc BK363 0 rfl; have hcz47_1 : wc.cell? ⟨gb363, 1, none⟩ = some (.int .i64 a0_1) := xc BK363 1 rfl; have hcz47_2 : wc.cell? ⟨gb363, 2, none⟩ = some (.int .i64 a0_2) := xc BK363 2 rfl; have hcz47_3 : wc.cell? ⟨gb363, 3, none⟩ = some (.int .i64 a0_3) := xc BK363 3 rfl; have hcz47_4 : wc.cell? ⟨gb363, 4, none⟩ = some (.string a0_4) := xc BK363 4 rfl; have hfz47_0 := blk_frozen BK363.out 0; have hfz47_1 := blk_frozen BK363.out 1; have hfz47_2 := blk_frozen BK363.out 2; have hfz47_3 := blk_frozen BK363.out 3; have hfz47_4 := blk_frozen BK363.out 4; have hcz48_0 : wc.cell? ⟨gb364, 0, none⟩ = some (.int .i64 a0_0) := xc BK364 0 rfl; have hcz48_1 : wc.cell? ⟨gb364, 1, none⟩ = some (.int .i64 0) := xc BK364 1 rfl; have hcz48_2 : wc.cell? ⟨gb364, 2, none⟩ = some (.int .i64 0) := xc BK364 2 rfl; have hcz48_3 : wc.cell? ⟨gb364, 3, none⟩ = some (.int .i64 0) := xc BK364 3 rfl; have hcz48_4 : wc.cell? ⟨gb364, 4, none⟩ = some (.string (⟨#[]⟩ : ByteArray)) := xc BK364 4 rfl; have hfz48_0 := blk_frozen BK364.out 0; have hfz48_1 := blk_frozen BK364.out 1; have hfz48_2 := blk_frozen BK364.out 2; have hfz48_3 := blk_frozen BK364.out 3; have hfz48_4 := blk_frozen BK364.out 4
        go_wp2_with (first | ((with_reducible refine gate_callee (f := 87) rfl ?_); refine goesL_ (some 51) rfl rfl Try.func87 (by kernel_rfl) rfl #[.int .i64 a0_2, .int .i64 0, .int .i64 4] rfl (by (try simp only [List.map_toArray, List.map_cons, List.map_nil]); first | done | rfl | (simp only [List.length_drop, List.length_take]; rfl)) ?_; (with_reducible refine (spec_l1In.calls a0_2 0 4 false _ A41.out).mono ?_); rintro e w' ⟨rfl, ⟨nd, rfl⟩⟩; refine ⟨_, rfl, ?_⟩))
        go_ret
        exact ⟨by first | rfl | (simp [errW_none, errW_some] <;> rfl) | (simp [*, errW_none, errW_some] <;> rfl), xbg⟩
      ·rw [if_neg c40] at H
       have c40b0 : (a0_0 == 3) = false := beq_eq_false_iff_ne.mpr c40; have c40b1 : (a0_0 != 3) = true := bne_iff_ne.mpr c40
       obtain rfl := Option.some.inj H
       have hnb49 := NB363_364.out; have hnc49 := NB364_363.out; have hcz50_0 : wc.cell? ⟨gb363, 0, none⟩ = some (.int .i64 a0_0) := xc BK363 0 rfl; have hcz50_1 : wc.cell? ⟨gb363, 1, none⟩ = some (.int .i64 a0_1) := xc BK363 1 rfl; have hcz50_2 : wc.cell? ⟨gb363, 2, none⟩ = some (.int .i64 a0_2) := xc BK363 2 rfl; have hcz50_3 : wc.cell? ⟨gb363, 3, none⟩ = some (.int .i64 a0_3) := xc BK363 3 rfl; have hcz50_4 : wc.cell? ⟨gb363, 4, none⟩ = some (.string a0_4) := xc BK363 4 rfl; have hfz50_0 := blk_frozen BK363.out 0; have hfz50_1 := blk_frozen BK363.out 1; have hfz50_2 := blk_frozen BK363.out 2; have hfz50_3 := blk_frozen BK363.out 3; have hfz50_4 := blk_frozen BK363.out 4; have hcz51_0 : wc.cell? ⟨gb364, 0, none⟩ = some (.int .i64 a0_0) := xc BK364 0 rfl; have hcz51_1 : wc.cell? ⟨gb364, 1, none⟩ = some (.int .i64 0) := xc BK364 1 rfl; have hcz51_2 : wc.cell? ⟨gb364, 2, none⟩ = some (.int .i64 0) := xc BK364 2 rfl; have hcz51_3 : wc.cell? ⟨gb364, 3, none⟩ = some (.int .i64 0) := xc BK364 3 rfl; have hcz51_4 : wc.cell? ⟨gb364, 4, none⟩ = some (.string (⟨#[]⟩ : ByteArray)) := xc BK364 4 rfl; have hfz51_0 := blk_frozen BK364.out 0; have hfz51_1 := blk_frozen BK364.out 1; have hfz51_2 := blk_frozen BK364.out 2; have hfz51_3 := blk_frozen BK364.out 3; have hfz51_4 := blk_frozen BK364.out 4
       go_wp2
       go_ret
       exact ⟨by first | rfl | (simp [errW_none, errW_some] <;> rfl) | (simp [*, errW_none, errW_some] <;> rfl), xbg⟩

/-! ### impl_GetNum: function 166 -/
mutual
def impl_GetNum.l0 : Nat → List Int → Int → Int → Int → Option (Int × Int × Bool)
 | 0, _, _, _, _ => none
 | k + 1, x0, x1, x7, x8 => if x8 < 9 then (impl_GetNum.j1 k x0 x1 x7 x8 (decide (x8 < (wrap64 ((x0.length : Int) - x1))))) else (impl_GetNum.j1 k x0 x1 x7 x8 false)
def impl_GetNum.j1 : Nat → List Int → Int → Int → Int → Bool → Option (Int × Int × Bool)
 | 0, _, _, _, _, _ => none
 | k + 1, x0, x1, x7, x8, x21 => if x21 = true then (if 0 ≤ (wrap64 (x1 + x8)) then (if (wrap64 (x1 + x8)) < (x0.length : Int) then (if 0 ≤ (wrap64 (7 * x8)) then (if (wrap64 (rd x0 (wrap64 (x1 + x8)))) > 127 then (impl_GetNum.l0 k x0 x1 (Go.bits .or .i64 x7 (shl .i64 (Go.bits .and .i64 (wrap64 (rd x0 (wrap64 (x1 + x8)))) 127) (wrap64 (7 * x8)))) (wrap64 (x8 + 1))) else (if x8 > 0 then (if (wrap64 (rd x0 (wrap64 (x1 + x8)))) = 0 then (some (0, 0, false)) else (some (Go.bits .or .i64 x7 (shl .i64 (Go.bits .and .i64 (wrap64 (rd x0 (wrap64 (x1 + x8)))) 127) (wrap64 (7 * x8))), wrap64 ((wrap64 (x1 + x8)) + 1), true))) else (some (Go.bits .or .i64 x7 (shl .i64 (Go.bits .and .i64 (wrap64 (rd x0 (wrap64 (x1 + x8)))) 127) (wrap64 (7 * x8))), wrap64 ((wrap64 (x1 + x8)) + 1), true)))) else (none)) else (none)) else (none)) else (some (0, 0, false))
end
def impl_GetNum.f (k : Nat) (l0 : List Int) (a1 : Int) : Option (Int × Int × Bool) := if a1 < 0 then (some (0, 0, false)) else (impl_GetNum.l0 k l0 a1 0 0)
set_option maxRecDepth 100000 in
theorem impl_GetNum.mono_l : ∀ k, (∀ y0 y1 y2 y3, LeO (impl_GetNum.l0 k y0 y1 y2 y3) (impl_GetNum.l0 (k + 1) y0 y1 y2 y3)) ∧ (∀ y0 y1 y2 y3 y4, LeO (impl_GetNum.j1 k y0 y1 y2 y3 y4) (impl_GetNum.j1 (k + 1) y0 y1 y2 y3 y4))
 | 0 => ⟨fun _ _ _ _ r h => by simp [impl_GetNum.l0] at h, fun _ _ _ _ _ r h => by simp [impl_GetNum.j1] at h⟩
 | k + 1 => by
  obtain ⟨ih0, ih1⟩ := impl_GetNum.mono_l k
  refine ⟨?_, ?_⟩
  ·intro y0 y1 y2 y3
   unfold impl_GetNum.l0
   repeat' first
   | (with_reducible exact ih0 _ _ _ _)
   | (with_reducible exact ih1 _ _ _ _ _)
   | (with_reducible exact LeO.refl _)
   | (with_reducible exact LeO.none _)
   | (with_reducible refine LeO.ite ?_ ?_)
   | (with_reducible refine LeO.bind ?_ (fun _ => ?_))
   | exact ih0 _ _ _ _
   | exact ih1 _ _ _ _ _
   | exact LeO.none _
   | refine LeO.ite ?_ ?_
   | refine LeO.bind ?_ (fun _ => ?_)
  ·intro y0 y1 y2 y3 y4
   unfold impl_GetNum.j1
   repeat' first
   | (with_reducible exact ih0 _ _ _ _)
   | (with_reducible exact ih1 _ _ _ _ _)
   | (with_reducible exact LeO.refl _)
   | (with_reducible exact LeO.none _)
   | (with_reducible refine LeO.ite ?_ ?_)
   | (with_reducible refine LeO.bind ?_ (fun _ => ?_))
   | exact ih0 _ _ _ _
   | exact ih1 _ _ _ _ _
   | exact LeO.none _
   | refine LeO.ite ?_ ?_
   | refine LeO.bind ?_ (fun _ => ?_)
theorem impl_GetNum.mono : ∀ a0 a1 k, LeO (impl_GetNum.f k a0 a1) (impl_GetNum.f (k + 1) a0 a1) := by
 intro a0 a1 k
 obtain ⟨ih0, ih1⟩ := impl_GetNum.mono_l k
 unfold impl_GetNum.f
 repeat' first
  | (with_reducible exact ih0 _ _ _ _)
  | (with_reducible exact ih1 _ _ _ _ _)
  | (with_reducible exact LeO.refl _)
  | (with_reducible exact LeO.none _)
  | (with_reducible refine LeO.ite ?_ ?_)
  | (with_reducible refine LeO.bind ?_ (fun _ => ?_))
  | exact ih0 _ _ _ _
  | exact ih1 _ _ _ _ _
  | exact LeO.none _
  | refine LeO.ite ?_ ?_
  | refine LeO.bind ?_ (fun _ => ?_)
set_option maxHeartbeats 8000000 in
set_option maxRecDepth 100000 in
theorem impl_GetNum.calls (k : Nat) (A0 : Option Addr) (c0 : Nat) (l0 : List Int) (a1 : Int) (r1 : Int) (r2 : Int) (r3 : Bool) (w : World) (hr0 : Kd.C (Kd.int .u8) w A0 l0.length l0) (hc0 : l0.length ≤ c0) (h : impl_GetNum.f k l0 a1 = some (r1, r2, r3)) :
 Calls Try.prog 166 #[.slice A0 l0.length c0, .int .i64 a1] w fun e w' => e = .returned (.tuple #[.int .i64 r1, .int .i64 r2, .bool r3]) ∧ Drawn0 w w' := by
 have HR0 := aM hr0
 have HC0 := aM hc0
 clear hr0 hc0
 have H : (if a1 < 0 then (some (0, 0, false)) else (impl_GetNum.l0 k l0 a1 0 0)) = some (r1, r2, r3) := h
 clear h
 by_cases c3 : a1 < 0
 ·rw [if_pos c3] at H
  have c3b0 : decide (a1 < 0) = true := decide_eq_true c3; clear c3
  simp only [Option.some.injEq, Prod.mk.injEq] at H
  obtain ⟨rfl, rfl, rfl⟩ := H
  go_enter Try.func166, Try.ntmps166
  go_wp2
  go_ret3
  exact ⟨by first | rfl | (simp; done) | (simp [*]; done), by repeat (first | exact Drawn0.refl _ | apply Drawn0.step)⟩
 ·rw [if_neg c3] at H
  have c3b0 : decide (a1 < 0) = false := decide_eq_false c3; clear c3
  have H' := aM H
  clear H
  go_enter Try.func166, Try.ntmps166
  go_wp2
  go_loopg [7, 8] k (fun kq v7 v8 w' => ∃ (x7_1 : Int) (x8_1 : Int), v7 = .int .i64 x7_1 ∧ v8 = .int .i64 x8_1 ∧ Aside0 (impl_GetNum.l0 kq l0 a1 x7_1 x8_1 = some (r1, r2, r3)) ∧ Aside0 (kq ≤ k) ∧ Drawn0 w w')
  case atStart => exact ⟨(0), (0), (by first | rfl | (simp; done) | (simp [*]; done)), (by first | rfl | (simp; done) | (simp [*]; done)), H', ⟨Nat.le_refl _⟩, by repeat (first | exact Drawn0.refl _ | apply Drawn0.step)⟩
  case round =>
   clear H'
   try clear c1
   try clear p2
   try clear c3
   try clear c3b0
   obtain ⟨x7_1, x8_1, rfl, rfl, HA, HK1, ⟨m1, rfl⟩⟩ := hrel
   cases gk with
   | zero => exact absurd HA.out (by simp [impl_GetNum.l0])
   | succ k1 =>
    have H := HA.out; clear HA
    simp only [impl_GetNum.l0] at H
    have HC4 := aM H; clear H
    go_upto_region 5 with (fail)
    go_cut [21] (fun v21 wc => ∃ (kq : Nat) (x21_3 : Bool), v21 = .bool x21_3 ∧ Aside0 (impl_GetNum.j1 kq l0 a1 x7_1 x8_1 x21_3 = some (r1, r2, r3)) ∧ Aside0 (kq ≤ k1) ∧ Drawn0 w wc)
    case first =>
     have H := HC4.out; clear HC4
     by_cases c5 : x8_1 < 9
     ·rw [if_pos c5] at H
      have c5b0 : decide (x8_1 < 9) = true := decide_eq_true c5; clear c5
      (first | rw [c5b0] | (simp only [i64_w, i32_w]; rw [c5b0]) | skip)
      have H' := aM H
      clear H
      go_wp2
      go_meet
      case rel => exact ⟨_, (decide (x8_1 < (wrap64 ((l0.length : Int) - a1)))), (by first | rfl | (simp; done) | (simp [*]; done)), H', ⟨by have := HK1.out; first | omega | exact Nat.le_refl _⟩, by repeat (first | exact Drawn0.refl _ | apply Drawn0.step)⟩
     ·rw [if_neg c5] at H
      have c5b0 : decide (x8_1 < 9) = false := decide_eq_false c5; clear c5
      (first | rw [c5b0] | (simp only [i64_w, i32_w]; rw [c5b0]) | skip)
      have H' := aM H
      clear H
      go_wp2
      go_meet
      case rel => exact ⟨_, (false), (by first | rfl | (simp; done) | (simp [*]; done)), H', ⟨by have := HK1.out; first | omega | exact Nat.le_refl _⟩, by repeat (first | exact Drawn0.refl _ | apply Drawn0.step)⟩
    case rest =>
     clear HC4
     try clear c1
     try clear p2
     try clear c3
     try clear c3b0
     try clear c5
     try clear c5b0
     try clear p2
     obtain ⟨kq, x21_3, rfl, HA, HJ3, ⟨mc3, rfl⟩⟩ := hcut
     cases kq with
     | zero => exact absurd HA.out (by simp [impl_GetNum.j1])
     | succ kj3 =>
      have H := HA.out; clear HA
      simp only [impl_GetNum.j1] at H
      by_cases c6 : x21_3 = true
      ·subst c6
       have H1 : (if 0 ≤ (wrap64 (a1 + x8_1)) then (if (wrap64 (a1 + x8_1)) < (l0.length : Int) then (if 0 ≤ (wrap64 (7 * x8_1)) then (if (wrap64 (rd l0 (wrap64 (a1 + x8_1)))) > 127 then (impl_GetNum.l0 kj3 l0 a1 (Go.bits .or .i64 x7_1 (shl .i64 (Go.bits .and .i64 (wrap64 (rd l0 (wrap64 (a1 + x8_1)))) 127) (wrap64 (7 * x8_1)))) (wrap64 (x8_1 + 1))) else (if x8_1 > 0 then (if (wrap64 (rd l0 (wrap64 (a1 + x8_1)))) = 0 then (some (0, 0, false)) else (some (Go.bits .or .i64 x7_1 (shl .i64 (Go.bits .and .i64 (wrap64 (rd l0 (wrap64 (a1 + x8_1)))) 127) (wrap64 (7 * x8_1))), wrap64 ((wrap64 (a1 + x8_1)) + 1), true))) else (some (Go.bits .or .i64 x7_1 (shl .i64 (Go.bits .and .i64 (wrap64 (rd l0 (wrap64 (a1 + x8_1)))) 127) (wrap64 (7 * x8_1))), wrap64 ((wrap64 (a1 + x8_1)) + 1), true)))) else (none)) else (none)) else (none)) = some (r1, r2, r3) := by rw [if_pos rfl] at H; exact H
       clear H; have H := H1; clear H1
       obtain ⟨ji7, hji7⟩ : ∃ j_ : Int, (wrap64 (a1 + x8_1)) = j_ := ⟨_, rfl⟩
       replace H : (if 0 ≤ (ji7) then (if (ji7) < (l0.length : Int) then (if 0 ≤ (wrap64 (7 * x8_1)) then (if (wrap64 (rd l0 (ji7))) > 127 then (impl_GetNum.l0 kj3 l0 a1 (Go.bits .or .i64 x7_1 (shl .i64 (Go.bits .and .i64 (wrap64 (rd l0 (ji7))) 127) (wrap64 (7 * x8_1)))) (wrap64 (x8_1 + 1))) else (if x8_1 > 0 then (if (wrap64 (rd l0 (ji7))) = 0 then (some (0, 0, false)) else (some (Go.bits .or .i64 x7_1 (shl .i64 (Go.bits .and .i64 (wrap64 (rd l0 (ji7))) 127) (wrap64 (7 * x8_1))), wrap64 ((ji7) + 1), true))) else (some (Go.bits .or .i64 x7_1 (shl .i64 (Go.bits .and .i64 (wrap64 (rd l0 (ji7))) 127) (wrap64 (7 * x8_1))), wrap64 ((ji7) + 1), true)))) else (none)) else (none)) else (none)) = some (r1, r2, r3) := by first | (rw [hji7] at H; exact H) | (simp only [hji7] at H ⊢; exact H)
       have hji7w : (IntKind.i64.wrap (a1 + x8_1)) = ji7 := (i64_w _).trans hji7
       by_cases c8 : 0 ≤ (ji7)
       ·rw [if_pos c8] at H
        have c8b0 : decide (0 ≤ (ji7)) = true := decide_eq_true c8; clear c8
        by_cases c9 : (ji7) < (l0.length : Int)
        ·rw [if_pos c9] at H
         have c9b0 : decide ((ji7) < (l0.length : Int)) = true := decide_eq_true c9; clear c9
         obtain ⟨ji10, hji10⟩ : ∃ j_ : Int, (wrap64 (7 * x8_1)) = j_ := ⟨_, rfl⟩
         replace H : (if 0 ≤ (ji10) then (if (wrap64 (rd l0 (ji7))) > 127 then (impl_GetNum.l0 kj3 l0 a1 (Go.bits .or .i64 x7_1 (shl .i64 (Go.bits .and .i64 (wrap64 (rd l0 (ji7))) 127) (ji10))) (wrap64 (x8_1 + 1))) else (if x8_1 > 0 then (if (wrap64 (rd l0 (ji7))) = 0 then (some (0, 0, false)) else (some (Go.bits .or .i64 x7_1 (shl .i64 (Go.bits .and .i64 (wrap64 (rd l0 (ji7))) 127) (ji10)), wrap64 ((ji7) + 1), true))) else (some (Go.bits .or .i64 x7_1 (shl .i64 (Go.bits .and .i64 (wrap64 (rd l0 (ji7))) 127) (ji10)), wrap64 ((ji7) + 1), true)))) else (none)) = some (r1, r2, r3) := by first | (rw [hji10] at H; exact H) | (simp only [hji10] at H ⊢; exact H)
         have hji10w : (IntKind.i64.wrap (7 * x8_1)) = ji10 := (i64_w _).trans hji10
         by_cases c11 : 0 ≤ (ji10)
         ·rw [if_pos c11] at H
          have c11b0 := eq_true c11; have c11b1 : decide (0 ≤ (ji10)) = true := decide_eq_true c11; clear c11
          obtain ⟨ji12, hji12⟩ : ∃ j_ : Int, (shl .i64 (Go.bits .and .i64 (wrap64 (rd l0 (ji7))) 127) (ji10)) = j_ := ⟨_, rfl⟩
          replace H : (if (wrap64 (rd l0 (ji7))) > 127 then (impl_GetNum.l0 kj3 l0 a1 (Go.bits .or .i64 x7_1 (ji12)) (wrap64 (x8_1 + 1))) else (if x8_1 > 0 then (if (wrap64 (rd l0 (ji7))) = 0 then (some (0, 0, false)) else (some (Go.bits .or .i64 x7_1 (ji12), wrap64 ((ji7) + 1), true))) else (some (Go.bits .or .i64 x7_1 (ji12), wrap64 ((ji7) + 1), true)))) = some (r1, r2, r3) := by first | (rw [hji12] at H; exact H) | (simp only [hji12] at H ⊢; exact H)
          have hji12_ : (IntKind.i64.wrap ((Go.bits .and .i64 (wrap64 (rd l0 (ji7))) 127) * 2 ^ min (ji10).toNat 64)) = ji12 := hji12; have hji12z : (ji10) ≤ 64 → (IntKind.i64.wrap ((Go.bits .and .i64 (wrap64 (rd l0 (ji7))) 127) * 2 ^ (ji10).toNat)) = ji12 := shl_small hji12; have hji12y : (wrap64 ((Go.bits .and .i64 (wrap64 (rd l0 (ji7))) 127) * 2 ^ min (ji10).toNat 64)) = ji12 := (i64_w _).symm.trans hji12_
          have hji12x : (ji10) ≤ 64 → (wrap64 ((Go.bits .and .i64 (wrap64 (rd l0 (ji7))) 127) * 2 ^ (ji10).toNat)) = ji12 := fun h_ => (i64_w _).symm.trans (hji12z h_)
          by_cases c13 : (wrap64 (rd l0 (ji7))) > 127
          ·rw [if_pos c13] at H
           have c13b0 : decide (127 < (wrap64 (rd l0 (ji7)))) = true := decide_eq_true c13; clear c13
           have H' := aM H
           clear H; have p369 : 0 ≤ ((ji7) : Int) := of_decide_eq_true (by first | (with_reducible assumption) | assumption); have q369 : (ji7) < (l0.length : Int) := of_decide_eq_true (by first | (with_reducible assumption) | assumption)
           obtain ⟨ad369, e369, hx369_0⟩ := Kd.at_int HR0.out (ji7) p369 q369
           cases e369
           replace p369 := eq_true p369; replace q369 := eq_true q369
           go_wp2
           go_roundg kj3
           case measure => have := HK1.out; have := HJ3.out; omega
           case rel => exact ⟨(Go.bits .or .i64 x7_1 (ji12)), (wrap64 (x8_1 + 1)), (by first | rfl | (simp; done) | (simp only [← hji12] <;> (first | rfl | simp)) | (simp [*]; done)), (by first | rfl | (simp; done) | (simp [*]; done)), H', ⟨by have := HK1.out; have := HJ3.out; omega⟩, by repeat (first | exact Drawn0.refl _ | apply Drawn0.step)⟩
          ·rw [if_neg c13] at H
           have c13b0 : decide (127 < (wrap64 (rd l0 (ji7)))) = false := decide_eq_false c13; clear c13
           by_cases c14 : x8_1 > 0
           ·rw [if_pos c14] at H
            have c14b0 : decide (0 < x8_1) = true := decide_eq_true c14; clear c14
            by_cases c15 : (wrap64 (rd l0 (ji7))) = 0
            ·rw [if_pos c15] at H
             have c15b0 : ((wrap64 (rd l0 (ji7))) == 0) = true := beq_iff_eq.mpr c15; have c15b1 : ((wrap64 (rd l0 (ji7))) != 0) = false := bne_eq_false_iff_eq.mpr c15; clear c15
             simp only [Option.some.injEq, Prod.mk.injEq] at H
             obtain ⟨rfl, rfl, rfl⟩ := H
             have p369 : 0 ≤ ((ji7) : Int) := of_decide_eq_true (by first | (with_reducible assumption) | assumption); have q369 : (ji7) < (l0.length : Int) := of_decide_eq_true (by first | (with_reducible assumption) | assumption)
             obtain ⟨ad369, e369, hx369_0⟩ := Kd.at_int HR0.out (ji7) p369 q369
             cases e369
             replace p369 := eq_true p369; replace q369 := eq_true q369
             go_wp2
             go_ret3
             exact ⟨by first | rfl | (simp; done) | (simp only [← hji7, ← hji10, ← hji12] <;> (first | rfl | simp)) | (simp [*]; done), by repeat (first | exact Drawn0.refl _ | apply Drawn0.step)⟩
            ·rw [if_neg c15] at H
             have c15b0 : ((wrap64 (rd l0 (ji7))) == 0) = false := beq_eq_false_iff_ne.mpr c15; have c15b1 : ((wrap64 (rd l0 (ji7))) != 0) = true := bne_iff_ne.mpr c15
             simp only [Option.some.injEq, Prod.mk.injEq] at H
             obtain ⟨rfl, rfl, rfl⟩ := H
             have p369 : 0 ≤ ((ji7) : Int) := of_decide_eq_true (by first | (with_reducible assumption) | assumption); have q369 : (ji7) < (l0.length : Int) := of_decide_eq_true (by first | (with_reducible assumption) | assumption)
             obtain ⟨ad369, e369, hx369_0⟩ := Kd.at_int HR0.out (ji7) p369 q369
             cases e369
             replace p369 := eq_true p369; replace q369 := eq_true q369
             go_wp2
             go_ret3
             exact ⟨by first | rfl | (simp; done) | (simp only [← hji7, ← hji10, ← hji12] <;> (first | rfl | simp)) | (simp [*]; done), by repeat (first | exact Drawn0.refl _ | apply Drawn0.step)⟩
           ·rw [if_neg c14] at H
            have c14b0 : decide (0 < x8_1) = false := decide_eq_false c14; clear c14
            simp only [Option.some.injEq, Prod.mk.injEq] at H
            obtain ⟨rfl, rfl, rfl⟩ := H
            have p369 : 0 ≤ ((ji7) : Int) := of_decide_eq_true (by first | (with_reducible assumption) | assumption); have q369 : (ji7) < (l0.length : Int) := of_decide_eq_true (by first | (with_reducible assumption) | assumption)
            obtain ⟨ad369, e369, hx369_0⟩ := Kd.at_int HR0.out (ji7) p369 q369
            cases e369
            replace p369 := eq_true p369; replace q369 := eq_true q369
            go_wp2
            go_ret3
            exact ⟨by first | rfl | (simp; done) | (simp only [← hji7, ← hji10, ← hji12] <;> (first | rfl | simp)) | (simp [*]; done), by repeat (first | exact Drawn0.refl _ | apply Drawn0.step)⟩
         ·rw [if_neg c11] at H
          exact absurd H (by simp)
        ·rw [if_neg c9] at H
         exact absurd H (by simp)
       ·rw [if_neg c8] at H
        exact absurd H (by simp)
      ·replace c6 := Bool.eq_false_iff.mpr c6
       subst c6
       have H1 : (some (0, 0, false)) = some (r1, r2, r3) := by rw [if_neg (show ¬ (false = true) by decide)] at H; exact H
       clear H; have H := H1; clear H1
       simp only [Option.some.injEq, Prod.mk.injEq] at H
       obtain ⟨rfl, rfl, rfl⟩ := H
       go_wp2
       go_ret3
       exact ⟨by first | rfl | (simp; done) | (simp [*]; done), by repeat (first | exact Drawn0.refl _ | apply Drawn0.step)⟩

/-! ### impl_reader_num: function 139 -/
structure IsRd (w0 w : World) (g : Nat) (A : Option Addr) (c : Nat) (l : List Int) (at_ : Int) (bad : Bool) : Prop where
  blk : w.heap[g]? = some (.cells #[.slice A l.length c, .int .i64 at_, .bool bad] 120 (0, 0))
  cap : l.length ≤ c
  ge : w0.heap.size ≤ g
  bel : Below w0.heap.size w0 w
  rd : Kd.C (Kd.int .u8) w0 A l.length l
section
variable {w0 w : World} {g : Nat} {A : Option Addr} {c : Nat} {l : List Int} {at_ : Int} {bad : Bool}
theorem IsRd.now (h : IsRd w0 w g A c l at_ bad) : Kd.C (Kd.int .u8) w A l.length l := Kd.C_below h.rd h.bel
theorem IsRd.drewN (h : IsRd w0 w g A c l at_ bad) (n : Nat) : IsRd w0 (w.drewN n) g A c l at_ bad := ⟨blk_drewN h.blk n, h.cap, h.ge, pw_below_drewN h.bel n, h.rd⟩
theorem IsRd.drew (h : IsRd w0 w g A c l at_ bad) : IsRd w0 w.drew g A c l at_ bad := ⟨blk_drew h.blk, h.cap, h.ge, below_drew h.bel, h.rd⟩
theorem IsRd.alloc (h : IsRd w0 w g A c l at_ bad) (o : Obj) : IsRd w0 (w.alloc o) g A c l at_ bad := ⟨blk_alloc h.blk o, h.cap, h.ge, below_alloc h.bel o, h.rd⟩
theorem IsRd.set1 (h : IsRd w0 w g A c l at_ bad) (v : Int) : IsRd w0 (w.setCell ⟨g, 1, none⟩ (.int .i64 v)) g A c l v bad := ⟨(blk_set h.blk 1 _).trans rfl, h.cap, h.ge, below_set h.bel h.ge, h.rd⟩
theorem IsRd.set2 (h : IsRd w0 w g A c l at_ bad) (v : Bool) : IsRd w0 (w.setCell ⟨g, 2, none⟩ (.bool v)) g A c l at_ v := ⟨(blk_set h.blk 2 _).trans rfl, h.cap, h.ge, below_set h.bel h.ge, h.rd⟩
theorem IsRd.far (h : IsRd w0 w g A c l at_ bad) {b i : Nat} {v : Value} (hb : w0.heap.size ≤ b) (hne : g ≠ b) : IsRd w0 (w.setCell ⟨b, i, none⟩ v) g A c l at_ bad := ⟨blk_far h.blk hne v, h.cap, h.ge, below_set h.bel hb, h.rd⟩
theorem IsRd.step (h : IsRd w0 w g A c l at_ bad) {w' : World} (hb : Below w.heap.size w w') : IsRd w0 w' g A c l at_ bad := ⟨blk_below h.blk hb, h.cap, h.ge, below_step h.bel hb, h.rd⟩
theorem IsRd.lt (h : IsRd w0 w g A c l at_ bad) : g < w.heap.size := blk_lt h.blk
end
theorem IsRd.made (w : World) (A : Option Addr) (c : Nat) (l : List Int) (at_ : Int) (hr : Kd.C (Kd.int .u8) w A l.length l) (hc : l.length ≤ c) :
    IsRd w (w.alloc (.cells #[.slice A l.length c, .int .i64 at_, .bool false] 120 (0, 0))) w.heap.size A c l at_ false :=
  ⟨blk_new w _, hc, Nat.le_refl _, below_alloc (Below.refl _ _) _, hr⟩
theorem keep_fr {w W : World} {g b i : Nat} (h : KeepBut w W g none) (hb : w.heap.size ≤ b) (v : Value) : KeepBut w (W.setCell ⟨b, i, none⟩ v) g none :=
  ⟨by have := h.1; simp only [World.setCell, Array.size_modify]; exact this, fun j hj hn hr => (Below.heap_setCell W ⟨b, i, none⟩ v j (by show j ≠ b; omega)).trans (h.2 j hj hn hr)⟩
def rdNum (k : Nat) (l : List Int) (at_ : Int) (bad : Bool) : Option (Int × Int × Bool) :=
  (impl_GetNum.f k l at_).bind fun t => some (if bad = true then (0, at_, true) else if t.2.2 = true then (t.1, t.2.1, false) else (0, at_, true))
set_option maxHeartbeats 4000000 in
set_option maxRecDepth 100000 in
theorem rd_num (k g : Nat) (A : Option Addr) (c : Nat) (l : List Int) (at_ : Int) (bad : Bool) (r at' : Int) (bad' : Bool) (w0 w : World) (hI : IsRd w0 w g A c l at_ bad) (h : rdNum k l at_ bad = some (r, at', bad')) :
    Calls Try.prog 139 #[.pointer (some ⟨g, 0, none⟩)] w fun e w' => e = .returned (.int .i64 r) ∧ IsRd w0 w' g A c l at' bad' ∧ KeepBut w w' g none := by
  have hc0 : w.cell? ⟨g, 0, none⟩ = some (.slice A l.length c) := (blk_cell hI.blk 0).trans rfl
  have hc1 : w.cell? ⟨g, 1, none⟩ = some (.int .i64 at_) := (blk_cell hI.blk 1).trans rfl
  have hc2 : w.cell? ⟨g, 2, none⟩ = some (.bool bad) := (blk_cell hI.blk 2).trans rfl
  have hf1 := blk_frozen hI.blk 1
  have hf2 := blk_frozen hI.blk 2
  have HI := Aside0.mk hI
  unfold rdNum at h
  obtain ⟨⟨x, nx, ok⟩, hA, h⟩ := Option.bind_eq_some_iff.1 h
  have HA := Aside0.mk hA
  clear hI hA
  cases bad <;> cases ok <;> simp only [Bool.false_eq_true, ↓reduceIte, Option.some.injEq, Prod.mk.injEq] at h <;> obtain ⟨rfl, rfl, rfl⟩ := h
  all_goals
    go_enter Try.func139, Try.ntmps139
    go_wp2
    go_quiet (first | (go_at_call 166; refine (impl_GetNum.calls k A c l at_ _ _ _ _ (HI.out.drewN _).now HI.out.cap HA.out).mono ?_; rintro e w' ⟨rfl, ⟨nd, rfl⟩⟩; exact ⟨rfl, _, World.drewN_drewN _ _ _⟩))
    go_wp2
    go_ret
    exact ⟨rfl, by repeat (first | exact HI.out | apply IsRd.set1 | apply IsRd.set2 | apply IsRd.drewN | apply IsRd.drew), by repeat (first | exact KeepBut.refl _ _ _ | apply KeepBut.set_ | apply keep_drewN | apply keep_drew)⟩


end Go.Proofs.Ytnjpfllmcmomoaa.QFnCmd
