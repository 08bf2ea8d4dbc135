-- A walk, by a program of this session.
import Derived.Test.YtpdhfphglahkbaaQFnExactCmdReadx0
import Derived.Test.YtpdhfphglahkbaaQFnExactCmdReadx1
import Derived.Test.YtpdhfphglahkbaaQFnExactCmdReadx2
namespace Go.Proofs.Ytpdhfphglahkbaa.QFnExactCmdRead
open Go.RowKit Go.Proofs.YtpdhfphglahkbaaW.PrintWords Go.Proofs.YtpdhfphglahkbaaW.PrintLast Go.Proofs.YtpdhfphglahkbaaW.PrintMore
attribute [local go_sem] max2_int min2_int max_two min_two max_three min_three max_four min_four   -- for this text's walks alone
set_option linter.unusedVariables false
set_option linter.unusedSimpArgs false

attribute [local go_sem high] eqA56
/-! ### spec_CmdOk: function 78 -/
def spec_CmdOk.j0 : Nat → Bool → Int → Int → Int → Int → ByteArray → Int → Int → Int → Int → ByteArray → Option (Bool)
 | 0, _, _, _, _, _, _, _, _, _, _, _ => none
 | k + 1, x22, x110000, x110001, x110002, x110003, x110004, x111000, x111001, x111002, x111003, x111004 => if x22 = true then (some false) else (if x110000 = 2 then ((spec_l1In.f x110003 0 1000).bind fun t113 => (if t113 = true then (if (x110004.size : Int) = 32 then (some (x110002 == 0)) else (some false)) else (some false))) else (if x110000 = 3 then ((spec_l1In.f x110002 0 4).bind fun t114 => (if t114 = true then (some (x110000 == x111000 && (x110003 == x111003 && (x110004.toList == x111004.toList)))) else (some false))) else (some (x110000 == x111000 && (x110002 == x111002 && (x110003 == x111003 && (x110004.toList == x111004.toList)))))))
def spec_CmdOk.f (k : Nat) (a0_0 : Int) (a0_1 : Int) (a0_2 : Int) (a0_3 : Int) (a0_4 : ByteArray) : Option (Bool) := if a0_0 = 1 then (some (a0_1 == 0 && (a0_2 == 0 && (a0_3 == 0 && (a0_4.toList == ([] : List UInt8)))))) else ((spec_l1In.f a0_0 2 5).bind fun t111 => (if t111 = true then ((spec_l1In.f a0_1 1 1000).bind fun t112 => (spec_CmdOk.j0 k (!t112) a0_0 a0_1 a0_2 a0_3 a0_4 a0_0 0 0 0 (⟨#[]⟩ : ByteArray))) else (spec_CmdOk.j0 k true a0_0 a0_1 a0_2 a0_3 a0_4 a0_0 0 0 0 (⟨#[]⟩ : ByteArray))))
set_option maxRecDepth 100000 in
theorem spec_CmdOk.mono_l : ∀ k, (∀ y0 y1 y2 y3 y4 y5 y6 y7 y8 y9 y10, LeO (spec_CmdOk.j0 k y0 y1 y2 y3 y4 y5 y6 y7 y8 y9 y10) (spec_CmdOk.j0 (k + 1) y0 y1 y2 y3 y4 y5 y6 y7 y8 y9 y10))
 | 0 => fun _ _ _ _ _ _ _ _ _ _ _ r h => by simp [spec_CmdOk.j0] at h
 | k + 1 => by
  have ih0 := spec_CmdOk.mono_l k
  ·intro y0 y1 y2 y3 y4 y5 y6 y7 y8 y9 y10
   unfold spec_CmdOk.j0
   repeat' first
   | (with_reducible exact ih0 _ _ _ _ _ _ _ _ _ _ _)
   | (with_reducible exact LeO.refl _)
   | (with_reducible exact LeO.none _)
   | (with_reducible refine LeO.ite ?_ ?_)
   | (with_reducible refine LeO.bind ?_ (fun _ => ?_))
   | exact ih0 _ _ _ _ _ _ _ _ _ _ _
   | exact LeO.none _
   | refine LeO.ite ?_ ?_
   | refine LeO.bind ?_ (fun _ => ?_)
theorem spec_CmdOk.mono : ∀ a0 a1 a2 a3 a4 k, LeO (spec_CmdOk.f k a0 a1 a2 a3 a4) (spec_CmdOk.f (k + 1) a0 a1 a2 a3 a4) := by
 intro a0 a1 a2 a3 a4 k
 have ih0 := spec_CmdOk.mono_l k
 unfold spec_CmdOk.f
 repeat' first
  | (with_reducible exact ih0 _ _ _ _ _ _ _ _ _ _ _)
  | (with_reducible exact LeO.refl _)
  | (with_reducible exact LeO.none _)
  | (with_reducible refine LeO.ite ?_ ?_)
  | (with_reducible refine LeO.bind ?_ (fun _ => ?_))
  | exact ih0 _ _ _ _ _ _ _ _ _ _ _
  | exact LeO.none _
  | refine LeO.ite ?_ ?_
  | refine LeO.bind ?_ (fun _ => ?_)
set_option maxHeartbeats 8000000 in
set_option maxRecDepth 100000 in
theorem spec_CmdOk.calls (k : Nat) (a0_0 : Int) (a0_1 : Int) (a0_2 : Int) (a0_3 : Int) (a0_4 : ByteArray) (r : Bool) (w : World) (h : spec_CmdOk.f k a0_0 a0_1 a0_2 a0_3 a0_4 = some r) :
 Calls Try.prog 78 #[.agg #[.int .i64 a0_0, .int .i64 a0_1, .int .i64 a0_2, .int .i64 a0_3, .string a0_4]] w fun e w' => e = .returned (.bool r) ∧ Below w.heap.size w w' := by
 have hu56 := Try.underlying56
 have HB := Aside0.mk (Below.refl w.heap.size w)
 have H : (if a0_0 = 1 then (some (a0_1 == 0 && (a0_2 == 0 && (a0_3 == 0 && (a0_4.toList == ([] : List UInt8)))))) else ((spec_l1In.f a0_0 2 5).bind fun t111 => (if t111 = true then ((spec_l1In.f a0_1 1 1000).bind fun t112 => (spec_CmdOk.j0 k (!t112) a0_0 a0_1 a0_2 a0_3 a0_4 a0_0 0 0 0 (⟨#[]⟩ : ByteArray))) else (spec_CmdOk.j0 k true a0_0 a0_1 a0_2 a0_3 a0_4 a0_0 0 0 0 (⟨#[]⟩ : ByteArray))))) = some r := h
 clear h
 by_cases c2 : a0_0 = 1
 ·rw [if_pos c2] at H
  have c2b0 : (a0_0 == 1) = true := beq_iff_eq.mpr c2
  have c2b1 : (a0_0 != 1) = false := bne_eq_false_iff_eq.mpr c2
  clear c2
  obtain rfl := Option.some.inj H
  go_enter Try.func78, Try.ntmps78
  go_wp2_with (first | ((with_reducible refine gate_dst (N := 1) rfl ?_); (try (refine gate_guard (by rfl) ?_; dsimp only)); refine box_event ?hg (N := 1) ?hd (cs := #[.int .i64 a0_0, .int .i64 a0_1, .int .i64 a0_2, .int .i64 a0_3, .string a0_4]) (t := 56) ?hr ?_; (case hd => rfl); (case hg => rfl); (case hr => first | (go_simp; done) | (go_simp; rfl)); intro gb109 hg w3 hbox hb; have n0_ := Aside0.mk (below_step xbel hb); have n1_ := Aside0.mk (hbox); have n2_ := Aside0.mk ((by rw [hg]; exact (below_size xbel) : w.heap.size ≤ gb109)); have n3_ := Aside0.mk ((by rw [hg]; exact (below_size xbel) : w.heap.size ≤ gb109)); clear HB; have HB := n0_; have BK109 := n1_; have GW109 := n2_; have GE109 := n3_; clear n0_ n1_ n2_ n3_; clear hb hbox hg; have hcz4_0 : w3.cell? ⟨gb109, 0, none⟩ = some (.int .i64 a0_0) := (blk_cell BK109.out 0).trans rfl; have hcz4_1 : w3.cell? ⟨gb109, 1, none⟩ = some (.int .i64 a0_1) := (blk_cell BK109.out 1).trans rfl; have hcz4_2 : w3.cell? ⟨gb109, 2, none⟩ = some (.int .i64 a0_2) := (blk_cell BK109.out 2).trans rfl; have hcz4_3 : w3.cell? ⟨gb109, 3, none⟩ = some (.int .i64 a0_3) := (blk_cell BK109.out 3).trans rfl; have hcz4_4 : w3.cell? ⟨gb109, 4, none⟩ = some (.string a0_4) := (blk_cell BK109.out 4).trans rfl; have hfz4_0 := blk_frozen BK109.out 0; have hfz4_1 := blk_frozen BK109.out 1; have hfz4_2 := blk_frozen BK109.out 2; have hfz4_3 := blk_frozen BK109.out 3; have hfz4_4 := blk_frozen BK109.out 4) | ((with_reducible refine gate_dst (N := 3) rfl ?_); (try (refine gate_guard (by rfl) ?_; dsimp only)); refine box_event ?hg (N := 3) ?hd (cs := #[.int .i64 0, .int .i64 0, .int .i64 0, .int .i64 0, .string (⟨#[]⟩ : ByteArray)]) (t := 56) ?hr ?_; (case hd => rfl); (case hg => rfl); (case hr => first | (go_simp; done) | (go_simp; rfl)); intro gb110 hg w5 hbox hb; have n0_ := Aside0.mk (blk_below (g := gb109) (o := .cells #[.int .i64 a0_0, .int .i64 a0_1, .int .i64 a0_2, .int .i64 a0_3, .string a0_4] 56 (0, 0)) (by (with_reducible repeat (first | refine blk_drewN ?_ _ | refine blk_drew ?_ | refine blk_alloc ?_ _)); exact BK109.out) hb); have n1_ := Aside0.mk (below_step (by repeat (first | (with_reducible first | exact HB.out | apply below_alloc | apply pw_below_drewN | apply below_drew1 | refine below_set ?_ GE109.out) | exact HB.out)) hb); have n2_ := Aside0.mk (hbox); have n3_ := Aside0.mk ((by rw [hg]; exact (below_size (by repeat (first | (with_reducible first | exact HB.out | apply below_alloc | apply pw_below_drewN | apply below_drew1 | refine below_set ?_ GE109.out) | exact HB.out))) : w.heap.size ≤ gb110)); have n4_ := Aside0.mk ((by rw [hg]; exact (below_size (by repeat (first | (with_reducible first | exact HB.out | apply below_alloc | apply pw_below_drewN | apply below_drew1 | refine below_set ?_ GE109.out) | exact HB.out))) : w.heap.size ≤ gb110)); have n5_ := Aside0.mk ((by rw [hg]; exact Nat.ne_of_lt (blk_lt (g := gb109) (o := .cells #[.int .i64 a0_0, .int .i64 a0_1, .int .i64 a0_2, .int .i64 a0_3, .string a0_4] 56 (0, 0)) (by (with_reducible repeat (first | refine blk_drewN ?_ _ | refine blk_drew ?_ | refine blk_alloc ?_ _)); exact BK109.out)) : gb109 ≠ gb110)); have n6_ := Aside0.mk ((by rw [hg]; exact Nat.ne_of_gt (blk_lt (g := gb109) (o := .cells #[.int .i64 a0_0, .int .i64 a0_1, .int .i64 a0_2, .int .i64 a0_3, .string a0_4] 56 (0, 0)) (by (with_reducible repeat (first | refine blk_drewN ?_ _ | refine blk_drew ?_ | refine blk_alloc ?_ _)); exact BK109.out)) : gb110 ≠ gb109)); clear BK109; clear HB; have BK109 := n0_; have HB := n1_; have BK110 := n2_; have GW110 := n3_; have GE110 := n4_; have NB109_110 := n5_; have NB110_109 := n6_; clear n0_ n1_ n2_ n3_ n4_ n5_ n6_; clear hb hbox hg; have hnb6 := NB110_109.out; have hnc6 := NB109_110.out; have hcz7_0 : w5.cell? ⟨gb110, 0, none⟩ = some (.int .i64 0) := (blk_cell BK110.out 0).trans rfl; have hcz7_1 : w5.cell? ⟨gb110, 1, none⟩ = some (.int .i64 0) := (blk_cell BK110.out 1).trans rfl; have hcz7_2 : w5.cell? ⟨gb110, 2, none⟩ = some (.int .i64 0) := (blk_cell BK110.out 2).trans rfl; have hcz7_3 : w5.cell? ⟨gb110, 3, none⟩ = some (.int .i64 0) := (blk_cell BK110.out 3).trans rfl; have hcz7_4 : w5.cell? ⟨gb110, 4, none⟩ = some (.string (⟨#[]⟩ : ByteArray)) := (blk_cell BK110.out 4).trans rfl; have hfz7_0 := blk_frozen BK110.out 0; have hfz7_1 := blk_frozen BK110.out 1; have hfz7_2 := blk_frozen BK110.out 2; have hfz7_3 := blk_frozen BK110.out 3; have hfz7_4 := blk_frozen BK110.out 4) | ((with_reducible refine gate_store (t := 56) (p := 3) rfl ?_); refine store_event (t := 56) (p := 3) (v := ?vo_w8) (w1 := (((((w5.setCell ⟨gb110, 0, none⟩ (.int .i64 a0_0)).setCell ⟨gb110, 1, none⟩ (.int .i64 0)).setCell ⟨gb110, 2, none⟩ (.int .i64 0)).setCell ⟨gb110, 3, none⟩ (.int .i64 0)).setCell ⟨gb110, 4, none⟩ (.string (⟨#[]⟩ : ByteArray)))) ?hg ?ho ?hn ?hr ?_; (case ho => rfl); (case hg => rfl); (case hn => rfl); (case hr => first | (go_simp; done) | (go_simp; rfl)); intro w8 hw; have n0_ : Aside0 (w8.heap[gb109]? = some (.cells #[.int .i64 a0_0, .int .i64 a0_1, .int .i64 a0_2, .int .i64 a0_3, .string a0_4] 56 (0, 0))) := ⟨(by rw [hw]; exact (by (with_reducible repeat (first | refine blk_drewN ?_ _ | refine blk_drew ?_ | refine blk_alloc ?_ _)); refine blk_far ?_ NB109_110.out _; (with_reducible repeat (first | refine blk_drewN ?_ _ | refine blk_drew ?_ | refine blk_alloc ?_ _)); refine blk_far ?_ NB109_110.out _; (with_reducible repeat (first | refine blk_drewN ?_ _ | refine blk_drew ?_ | refine blk_alloc ?_ _)); refine blk_far ?_ NB109_110.out _; (with_reducible repeat (first | refine blk_drewN ?_ _ | refine blk_drew ?_ | refine blk_alloc ?_ _)); refine blk_far ?_ NB109_110.out _; (with_reducible repeat (first | refine blk_drewN ?_ _ | refine blk_drew ?_ | refine blk_alloc ?_ _)); refine blk_far ?_ NB109_110.out _; (with_reducible repeat (first | refine blk_drewN ?_ _ | refine blk_drew ?_ | refine blk_alloc ?_ _)); exact BK109.out))⟩; have n1_ : Aside0 (w8.heap[gb110]? = some (.cells #[.int .i64 a0_0, .int .i64 0, .int .i64 0, .int .i64 0, .string (⟨#[]⟩ : ByteArray)] 56 (0, 0))) := ⟨(by rw [hw]; exact (by (with_reducible repeat (first | refine blk_drewN ?_ _ | refine blk_drew ?_ | refine blk_alloc ?_ _)); refine blk_put (cs := #[.int .i64 a0_0, .int .i64 0, .int .i64 0, .int .i64 0, .string (⟨#[]⟩ : ByteArray)]) ?_ 4 _ rfl; (with_reducible repeat (first | refine blk_drewN ?_ _ | refine blk_drew ?_ | refine blk_alloc ?_ _)); refine blk_put (cs := #[.int .i64 a0_0, .int .i64 0, .int .i64 0, .int .i64 0, .string (⟨#[]⟩ : ByteArray)]) ?_ 3 _ rfl; (with_reducible repeat (first | refine blk_drewN ?_ _ | refine blk_drew ?_ | refine blk_alloc ?_ _)); refine blk_put (cs := #[.int .i64 a0_0, .int .i64 0, .int .i64 0, .int .i64 0, .string (⟨#[]⟩ : ByteArray)]) ?_ 2 _ rfl; (with_reducible repeat (first | refine blk_drewN ?_ _ | refine blk_drew ?_ | refine blk_alloc ?_ _)); refine blk_put (cs := #[.int .i64 a0_0, .int .i64 0, .int .i64 0, .int .i64 0, .string (⟨#[]⟩ : ByteArray)]) ?_ 1 _ rfl; (with_reducible repeat (first | refine blk_drewN ?_ _ | refine blk_drew ?_ | refine blk_alloc ?_ _)); refine blk_put (cs := #[.int .i64 0, .int .i64 0, .int .i64 0, .int .i64 0, .string (⟨#[]⟩ : ByteArray)]) ?_ 0 _ rfl; (with_reducible repeat (first | refine blk_drewN ?_ _ | refine blk_drew ?_ | refine blk_alloc ?_ _)); exact BK110.out))⟩; have n2_ : Aside0 (Below w.heap.size w w8) := ⟨(by rw [hw]; exact (by repeat (first | (with_reducible first | exact HB.out | apply below_alloc | apply pw_below_drewN | apply below_drew1 | refine below_set ?_ GE109.out | refine below_set ?_ GE110.out) | exact HB.out)))⟩; clear hw; clear BK109; clear BK110; clear HB; have BK109 := n0_; have BK110 := n1_; have HB := n2_; clear n0_ n1_ n2_; have hcz9_0 : w8.cell? ⟨gb109, 0, none⟩ = some (.int .i64 a0_0) := (blk_cell BK109.out 0).trans rfl; have hcz9_1 : w8.cell? ⟨gb109, 1, none⟩ = some (.int .i64 a0_1) := (blk_cell BK109.out 1).trans rfl; have hcz9_2 : w8.cell? ⟨gb109, 2, none⟩ = some (.int .i64 a0_2) := (blk_cell BK109.out 2).trans rfl; have hcz9_3 : w8.cell? ⟨gb109, 3, none⟩ = some (.int .i64 a0_3) := (blk_cell BK109.out 3).trans rfl; have hcz9_4 : w8.cell? ⟨gb109, 4, none⟩ = some (.string a0_4) := (blk_cell BK109.out 4).trans rfl; have hfz9_0 := blk_frozen BK109.out 0; have hfz9_1 := blk_frozen BK109.out 1; have hfz9_2 := blk_frozen BK109.out 2; have hfz9_3 := blk_frozen BK109.out 3; have hfz9_4 := blk_frozen BK109.out 4; have hcz10_0 : w8.cell? ⟨gb110, 0, none⟩ = some (.int .i64 a0_0) := (blk_cell BK110.out 0).trans rfl; have hcz10_1 : w8.cell? ⟨gb110, 1, none⟩ = some (.int .i64 0) := (blk_cell BK110.out 1).trans rfl; have hcz10_2 : w8.cell? ⟨gb110, 2, none⟩ = some (.int .i64 0) := (blk_cell BK110.out 2).trans rfl; have hcz10_3 : w8.cell? ⟨gb110, 3, none⟩ = some (.int .i64 0) := (blk_cell BK110.out 3).trans rfl; have hcz10_4 : w8.cell? ⟨gb110, 4, none⟩ = some (.string (⟨#[]⟩ : ByteArray)) := (blk_cell BK110.out 4).trans rfl; have hfz10_0 := blk_frozen BK110.out 0; have hfz10_1 := blk_frozen BK110.out 1; have hfz10_2 := blk_frozen BK110.out 2; have hfz10_3 := blk_frozen BK110.out 3; have hfz10_4 := blk_frozen BK110.out 4))
  go_ret
  exact ⟨by first | rfl | (simp [errW_none, errW_some] <;> rfl) | (simp [*, errW_none, errW_some] <;> rfl), by repeat (first | (with_reducible first | exact HB.out | apply below_alloc | apply pw_below_drewN | apply below_drew1 | refine below_set ?_ GE109.out | refine below_set ?_ GE110.out) | exact HB.out)⟩
 ·rw [if_neg c2] at H
  have c2b0 : (a0_0 == 1) = false := beq_eq_false_iff_ne.mpr c2
  have c2b1 : (a0_0 != 1) = true := bne_iff_ne.mpr c2
  have HC11 := Aside0.mk H
  clear H
  go_enter Try.func78, Try.ntmps78
  go_upto_region 4 with (first | ((with_reducible refine gate_dst (N := 1) rfl ?_); (try (refine gate_guard (by rfl) ?_; dsimp only)); refine box_event ?hg (N := 1) ?hd (cs := #[.int .i64 a0_0, .int .i64 a0_1, .int .i64 a0_2, .int .i64 a0_3, .string a0_4]) (t := 56) ?hr ?_; (case hd => rfl); (case hg => rfl); (case hr => first | (go_simp; done) | (go_simp; rfl)); intro gb109 hg w12 hbox hb; have n0_ := Aside0.mk (below_step xbel hb); have n1_ := Aside0.mk (hbox); have n2_ := Aside0.mk ((by rw [hg]; exact (below_size xbel) : w.heap.size ≤ gb109)); have n3_ := Aside0.mk ((by rw [hg]; exact (below_size xbel) : w.heap.size ≤ gb109)); clear HB; have HB := n0_; have BK109 := n1_; have GW109 := n2_; have GE109 := n3_; clear n0_ n1_ n2_ n3_; clear hb hbox hg; have hcz13_0 : w12.cell? ⟨gb109, 0, none⟩ = some (.int .i64 a0_0) := (blk_cell BK109.out 0).trans rfl; have hcz13_1 : w12.cell? ⟨gb109, 1, none⟩ = some (.int .i64 a0_1) := (blk_cell BK109.out 1).trans rfl; have hcz13_2 : w12.cell? ⟨gb109, 2, none⟩ = some (.int .i64 a0_2) := (blk_cell BK109.out 2).trans rfl; have hcz13_3 : w12.cell? ⟨gb109, 3, none⟩ = some (.int .i64 a0_3) := (blk_cell BK109.out 3).trans rfl; have hcz13_4 : w12.cell? ⟨gb109, 4, none⟩ = some (.string a0_4) := (blk_cell BK109.out 4).trans rfl; have hfz13_0 := blk_frozen BK109.out 0; have hfz13_1 := blk_frozen BK109.out 1; have hfz13_2 := blk_frozen BK109.out 2; have hfz13_3 := blk_frozen BK109.out 3; have hfz13_4 := blk_frozen BK109.out 4) | ((with_reducible refine gate_dst (N := 3) rfl ?_); (try (refine gate_guard (by rfl) ?_; dsimp only)); refine box_event ?hg (N := 3) ?hd (cs := #[.int .i64 0, .int .i64 0, .int .i64 0, .int .i64 0, .string (⟨#[]⟩ : ByteArray)]) (t := 56) ?hr ?_; (case hd => rfl); (case hg => rfl); (case hr => first | (go_simp; done) | (go_simp; rfl)); intro gb110 hg w14 hbox hb; have n0_ := Aside0.mk (blk_below (g := gb109) (o := .cells #[.int .i64 a0_0, .int .i64 a0_1, .int .i64 a0_2, .int .i64 a0_3, .string a0_4] 56 (0, 0)) (by (with_reducible repeat (first | refine blk_drewN ?_ _ | refine blk_drew ?_ | refine blk_alloc ?_ _)); exact BK109.out) hb); have n1_ := Aside0.mk (below_step (by repeat (first | (with_reducible first | exact HB.out | apply below_alloc | apply pw_below_drewN | apply below_drew1 | refine below_set ?_ GE109.out) | exact HB.out)) hb); have n2_ := Aside0.mk (hbox); have n3_ := Aside0.mk ((by rw [hg]; exact (below_size (by repeat (first | (with_reducible first | exact HB.out | apply below_alloc | apply pw_below_drewN | apply below_drew1 | refine below_set ?_ GE109.out) | exact HB.out))) : w.heap.size ≤ gb110)); have n4_ := Aside0.mk ((by rw [hg]; exact (below_size (by repeat (first | (with_reducible first | exact HB.out | apply below_alloc | apply pw_below_drewN | apply below_drew1 | refine below_set ?_ GE109.out) | exact HB.out))) : w.heap.size ≤ gb110)); have n5_ := Aside0.mk ((by rw [hg]; exact Nat.ne_of_lt (blk_lt (g := gb109) (o := .cells #[.int .i64 a0_0, .int .i64 a0_1, .int .i64 a0_2, .int .i64 a0_3, .string a0_4] 56 (0, 0)) (by (with_reducible repeat (first | refine blk_drewN ?_ _ | refine blk_drew ?_ | refine blk_alloc ?_ _)); exact BK109.out)) : gb109 ≠ gb110)); have n6_ := Aside0.mk ((by rw [hg]; exact Nat.ne_of_gt (blk_lt (g := gb109) (o := .cells #[.int .i64 a0_0, .int .i64 a0_1, .int .i64 a0_2, .int .i64 a0_3, .string a0_4] 56 (0, 0)) (by (with_reducible repeat (first | refine blk_drewN ?_ _ | refine blk_drew ?_ | refine blk_alloc ?_ _)); exact BK109.out)) : gb110 ≠ gb109)); clear BK109; clear HB; have BK109 := n0_; have HB := n1_; have BK110 := n2_; have GW110 := n3_; have GE110 := n4_; have NB109_110 := n5_; have NB110_109 := n6_; clear n0_ n1_ n2_ n3_ n4_ n5_ n6_; clear hb hbox hg; have hnb15 := NB110_109.out; have hnc15 := NB109_110.out; have hcz16_0 : w14.cell? ⟨gb110, 0, none⟩ = some (.int .i64 0) := (blk_cell BK110.out 0).trans rfl; have hcz16_1 : w14.cell? ⟨gb110, 1, none⟩ = some (.int .i64 0) := (blk_cell BK110.out 1).trans rfl; have hcz16_2 : w14.cell? ⟨gb110, 2, none⟩ = some (.int .i64 0) := (blk_cell BK110.out 2).trans rfl; have hcz16_3 : w14.cell? ⟨gb110, 3, none⟩ = some (.int .i64 0) := (blk_cell BK110.out 3).trans rfl; have hcz16_4 : w14.cell? ⟨gb110, 4, none⟩ = some (.string (⟨#[]⟩ : ByteArray)) := (blk_cell BK110.out 4).trans rfl; have hfz16_0 := blk_frozen BK110.out 0; have hfz16_1 := blk_frozen BK110.out 1; have hfz16_2 := blk_frozen BK110.out 2; have hfz16_3 := blk_frozen BK110.out 3; have hfz16_4 := blk_frozen BK110.out 4) | ((with_reducible refine gate_store (t := 56) (p := 3) rfl ?_); refine store_event (t := 56) (p := 3) (v := ?vo_w17) (w1 := (((((w14.setCell ⟨gb110, 0, none⟩ (.int .i64 a0_0)).setCell ⟨gb110, 1, none⟩ (.int .i64 0)).setCell ⟨gb110, 2, none⟩ (.int .i64 0)).setCell ⟨gb110, 3, none⟩ (.int .i64 0)).setCell ⟨gb110, 4, none⟩ (.string (⟨#[]⟩ : ByteArray)))) ?hg ?ho ?hn ?hr ?_; (case ho => rfl); (case hg => rfl); (case hn => rfl); (case hr => first | (go_simp; done) | (go_simp; rfl)); intro w17 hw; have n0_ : Aside0 (w17.heap[gb109]? = some (.cells #[.int .i64 a0_0, .int .i64 a0_1, .int .i64 a0_2, .int .i64 a0_3, .string a0_4] 56 (0, 0))) := ⟨(by rw [hw]; exact (by (with_reducible repeat (first | refine blk_drewN ?_ _ | refine blk_drew ?_ | refine blk_alloc ?_ _)); refine blk_far ?_ NB109_110.out _; (with_reducible repeat (first | refine blk_drewN ?_ _ | refine blk_drew ?_ | refine blk_alloc ?_ _)); refine blk_far ?_ NB109_110.out _; (with_reducible repeat (first | refine blk_drewN ?_ _ | refine blk_drew ?_ | refine blk_alloc ?_ _)); refine blk_far ?_ NB109_110.out _; (with_reducible repeat (first | refine blk_drewN ?_ _ | refine blk_drew ?_ | refine blk_alloc ?_ _)); refine blk_far ?_ NB109_110.out _; (with_reducible repeat (first | refine blk_drewN ?_ _ | refine blk_drew ?_ | refine blk_alloc ?_ _)); refine blk_far ?_ NB109_110.out _; (with_reducible repeat (first | refine blk_drewN ?_ _ | refine blk_drew ?_ | refine blk_alloc ?_ _)); exact BK109.out))⟩; have n1_ : Aside0 (w17.heap[gb110]? = some (.cells #[.int .i64 a0_0, .int .i64 0, .int .i64 0, .int .i64 0, .string (⟨#[]⟩ : ByteArray)] 56 (0, 0))) := ⟨(by rw [hw]; exact (by (with_reducible repeat (first | refine blk_drewN ?_ _ | refine blk_drew ?_ | refine blk_alloc ?_ _)); refine blk_put (cs := #[.int .i64 a0_0, .int .i64 0, .int .i64 0, .int .i64 0, .string (⟨#[]⟩ : ByteArray)]) ?_ 4 _ rfl; (with_reducible repeat (first | refine blk_drewN ?_ _ | refine blk_drew ?_ | refine blk_alloc ?_ _)); refine blk_put (cs := #[.int .i64 a0_0, .int .i64 0, .int .i64 0, .int .i64 0, .string (⟨#[]⟩ : ByteArray)]) ?_ 3 _ rfl; (with_reducible repeat (first | refine blk_drewN ?_ _ | refine blk_drew ?_ | refine blk_alloc ?_ _)); refine blk_put (cs := #[.int .i64 a0_0, .int .i64 0, .int .i64 0, .int .i64 0, .string (⟨#[]⟩ : ByteArray)]) ?_ 2 _ rfl; (with_reducible repeat (first | refine blk_drewN ?_ _ | refine blk_drew ?_ | refine blk_alloc ?_ _)); refine blk_put (cs := #[.int .i64 a0_0, .int .i64 0, .int .i64 0, .int .i64 0, .string (⟨#[]⟩ : ByteArray)]) ?_ 1 _ rfl; (with_reducible repeat (first | refine blk_drewN ?_ _ | refine blk_drew ?_ | refine blk_alloc ?_ _)); refine blk_put (cs := #[.int .i64 0, .int .i64 0, .int .i64 0, .int .i64 0, .string (⟨#[]⟩ : ByteArray)]) ?_ 0 _ rfl; (with_reducible repeat (first | refine blk_drewN ?_ _ | refine blk_drew ?_ | refine blk_alloc ?_ _)); exact BK110.out))⟩; have n2_ : Aside0 (Below w.heap.size w w17) := ⟨(by rw [hw]; exact (by repeat (first | (with_reducible first | exact HB.out | apply below_alloc | apply pw_below_drewN | apply below_drew1 | refine below_set ?_ GE109.out | refine below_set ?_ GE110.out) | exact HB.out)))⟩; clear hw; clear BK109; clear BK110; clear HB; have BK109 := n0_; have BK110 := n1_; have HB := n2_; clear n0_ n1_ n2_; have hcz18_0 : w17.cell? ⟨gb109, 0, none⟩ = some (.int .i64 a0_0) := (blk_cell BK109.out 0).trans rfl; have hcz18_1 : w17.cell? ⟨gb109, 1, none⟩ = some (.int .i64 a0_1) := (blk_cell BK109.out 1).trans rfl; have hcz18_2 : w17.cell? ⟨gb109, 2, none⟩ = some (.int .i64 a0_2) := (blk_cell BK109.out 2).trans rfl; have hcz18_3 : w17.cell? ⟨gb109, 3, none⟩ = some (.int .i64 a0_3) := (blk_cell BK109.out 3).trans rfl; have hcz18_4 : w17.cell? ⟨gb109, 4, none⟩ = some (.string a0_4) := (blk_cell BK109.out 4).trans rfl; have hfz18_0 := blk_frozen BK109.out 0; have hfz18_1 := blk_frozen BK109.out 1; have hfz18_2 := blk_frozen BK109.out 2; have hfz18_3 := blk_frozen BK109.out 3; have hfz18_4 := blk_frozen BK109.out 4))
  (try simp only [Act.put, List.setIfInBounds_toArray, List.set_cons_zero, List.set_cons_succ])
  go_cut [22] (fun v22 wc => ∃ (kq : Nat) (x22_10 : Bool), v22 = .bool x22_10 ∧ Aside0 (spec_CmdOk.j0 kq x22_10 a0_0 a0_1 a0_2 a0_3 a0_4 a0_0 0 0 0 (⟨#[]⟩ : ByteArray) = some r) ∧ Aside0 (kq ≤ k) ∧ Aside0 (wc.heap[gb109]? = some (.cells #[.int .i64 a0_0, .int .i64 a0_1, .int .i64 a0_2, .int .i64 a0_3, .string a0_4] 56 (0, 0))) ∧ Aside0 (wc.heap[gb110]? = some (.cells #[.int .i64 a0_0, .int .i64 0, .int .i64 0, .int .i64 0, .string (⟨#[]⟩ : ByteArray)] 56 (0, 0))) ∧ Aside0 (Below w.heap.size w wc))
  case first =>
   have H := HC11.out
   clear HC11
   replace H := Option.bind_eq_some_iff.mp H
   obtain ⟨t111, A190, H⟩ := H
   replace H : (if t111 = true then ((spec_l1In.f a0_1 1 1000).bind fun t112 => (spec_CmdOk.j0 k (!t112) a0_0 a0_1 a0_2 a0_3 a0_4 a0_0 0 0 0 (⟨#[]⟩ : ByteArray))) else (spec_CmdOk.j0 k true a0_0 a0_1 a0_2 a0_3 a0_4 a0_0 0 0 0 (⟨#[]⟩ : ByteArray))) = some r := H
   have A19 := Aside0.mk A190
   clear A190
   by_cases c20 : t111 = true
   ·subst c20
    have H1 : ((spec_l1In.f a0_1 1 1000).bind fun t112 => (spec_CmdOk.j0 k (!t112) a0_0 a0_1 a0_2 a0_3 a0_4 a0_0 0 0 0 (⟨#[]⟩ : ByteArray))) = some r := by rw [if_pos rfl] at H; exact H
    clear H
    have H := H1
    clear H1
    replace H := Option.bind_eq_some_iff.mp H
    obtain ⟨t112, A210, H⟩ := H
    replace H : (spec_CmdOk.j0 k (!t112) a0_0 a0_1 a0_2 a0_3 a0_4 a0_0 0 0 0 (⟨#[]⟩ : ByteArray)) = some r := H
    have A21 := Aside0.mk A210
    clear A210
    have H' := Aside0.mk H
    clear H
    have hnb22 := NB109_110.out
    have hnc22 := NB110_109.out
    have hcz23_0 : w17.cell? ⟨gb109, 0, none⟩ = some (.int .i64 a0_0) := (blk_cell BK109.out 0).trans rfl
    have hcz23_1 : w17.cell? ⟨gb109, 1, none⟩ = some (.int .i64 a0_1) := (blk_cell BK109.out 1).trans rfl
    have hcz23_2 : w17.cell? ⟨gb109, 2, none⟩ = some (.int .i64 a0_2) := (blk_cell BK109.out 2).trans rfl
    have hcz23_3 : w17.cell? ⟨gb109, 3, none⟩ = some (.int .i64 a0_3) := (blk_cell BK109.out 3).trans rfl
    have hcz23_4 : w17.cell? ⟨gb109, 4, none⟩ = some (.string a0_4) := (blk_cell BK109.out 4).trans rfl
    have hfz23_0 := blk_frozen BK109.out 0
    have hfz23_1 := blk_frozen BK109.out 1
    have hfz23_2 := blk_frozen BK109.out 2
    have hfz23_3 := blk_frozen BK109.out 3
    have hfz23_4 := blk_frozen BK109.out 4
    go_wp2_with (first | ((with_reducible refine gate_callee (f := 62) rfl ?_); refine goesL_ (some 15) rfl rfl Try.func62 (by kernel_rfl) rfl #[.int .i64 a0_0, .int .i64 2, .int .i64 5] rfl (by (try simp only [List.map_toArray, List.map_cons, List.map_nil]); first | done | rfl | (simp only [List.length_drop, List.length_take]; rfl)) ?_; (with_reducible refine (spec_l1In.calls a0_0 2 5 true _ A19.out).mono ?_); rintro e w' ⟨rfl, ⟨nd, rfl⟩⟩; refine ⟨_, rfl, ?_⟩) | (go_at_call 62; (with_reducible refine (spec_l1In.calls a0_1 1 1000 t112 _ A21.out).mono ?_); rintro e w' ⟨rfl, ⟨nd, rfl⟩⟩))
    go_meet
    case rel => exact ⟨_, (!t112), (by first | rfl | (simp; done) | (simp [*]; done)), H', ⟨by first | omega | exact Nat.le_refl _⟩, ⟨by (with_reducible repeat (first | refine blk_drewN ?_ _ | refine blk_drew ?_ | refine blk_alloc ?_ _)); exact BK109.out⟩, ⟨by (with_reducible repeat (first | refine blk_drewN ?_ _ | refine blk_drew ?_ | refine blk_alloc ?_ _)); exact BK110.out⟩, ⟨by repeat (first | (with_reducible first | exact HB.out | apply below_alloc | apply pw_below_drewN | apply below_drew1 | refine below_set ?_ GE109.out | refine below_set ?_ GE110.out) | exact HB.out)⟩⟩
   ·replace c20 := Bool.eq_false_iff.mpr c20
    subst c20
    have H1 : (spec_CmdOk.j0 k true a0_0 a0_1 a0_2 a0_3 a0_4 a0_0 0 0 0 (⟨#[]⟩ : ByteArray)) = some r := by rw [if_neg (show ¬ (false = true) by decide)] at H; exact H
    clear H
    have H := H1
    clear H1
    have H' := Aside0.mk H
    clear H
    have hnb24 := NB109_110.out
    have hnc24 := NB110_109.out
    have hcz25_0 : w17.cell? ⟨gb109, 0, none⟩ = some (.int .i64 a0_0) := (blk_cell BK109.out 0).trans rfl
    have hcz25_1 : w17.cell? ⟨gb109, 1, none⟩ = some (.int .i64 a0_1) := (blk_cell BK109.out 1).trans rfl
    have hcz25_2 : w17.cell? ⟨gb109, 2, none⟩ = some (.int .i64 a0_2) := (blk_cell BK109.out 2).trans rfl
    have hcz25_3 : w17.cell? ⟨gb109, 3, none⟩ = some (.int .i64 a0_3) := (blk_cell BK109.out 3).trans rfl
    have hcz25_4 : w17.cell? ⟨gb109, 4, none⟩ = some (.string a0_4) := (blk_cell BK109.out 4).trans rfl
    have hfz25_0 := blk_frozen BK109.out 0
    have hfz25_1 := blk_frozen BK109.out 1
    have hfz25_2 := blk_frozen BK109.out 2
    have hfz25_3 := blk_frozen BK109.out 3
    have hfz25_4 := blk_frozen BK109.out 4
    go_wp2_with (first | ((with_reducible refine gate_callee (f := 62) rfl ?_); refine goesL_ (some 15) rfl rfl Try.func62 (by kernel_rfl) rfl #[.int .i64 a0_0, .int .i64 2, .int .i64 5] rfl (by (try simp only [List.map_toArray, List.map_cons, List.map_nil]); first | done | rfl | (simp only [List.length_drop, List.length_take]; rfl)) ?_; (with_reducible refine (spec_l1In.calls a0_0 2 5 false _ A19.out).mono ?_); rintro e w' ⟨rfl, ⟨nd, rfl⟩⟩; refine ⟨_, rfl, ?_⟩))
    go_meet
    case rel => exact ⟨_, (true), (by first | rfl | (simp; done) | (simp [*]; done)), H', ⟨by first | omega | exact Nat.le_refl _⟩, ⟨by (with_reducible repeat (first | refine blk_drewN ?_ _ | refine blk_drew ?_ | refine blk_alloc ?_ _)); exact BK109.out⟩, ⟨by (with_reducible repeat (first | refine blk_drewN ?_ _ | refine blk_drew ?_ | refine blk_alloc ?_ _)); exact BK110.out⟩, ⟨by repeat (first | (with_reducible first | exact HB.out | apply below_alloc | apply pw_below_drewN | apply below_drew1 | refine below_set ?_ GE109.out | refine below_set ?_ GE110.out) | exact HB.out)⟩⟩
  case rest =>
   clear HC11
   try clear c1
   try clear c2
   try clear c2b0
   try clear c2b1
   try clear p2
   try clear c6
   try clear c7
   try clear c15
   try clear c20
   try clear c22
   try clear c24
   try clear hcz10_0
   try clear hcz10_1
   try clear hcz10_2
   try clear hcz10_3
   try clear hcz10_4
   try clear hcz13_0
   try clear hcz13_1
   try clear hcz13_2
   try clear hcz13_3
   try clear hcz13_4
   try clear hcz16_0
   try clear hcz16_1
   try clear hcz16_2
   try clear hcz16_3
   try clear hcz16_4
   try clear hcz18_0
   try clear hcz18_1
   try clear hcz18_2
   try clear hcz18_3
   try clear hcz18_4
   try clear hcz23_0
   try clear hcz23_1
   try clear hcz23_2
   try clear hcz23_3
   try clear hcz23_4
   try clear hcz25_0
   try clear hcz25_1
   try clear hcz25_2
   try clear hcz25_3
   try clear hcz25_4
   try clear hcz4_0
   try clear hcz4_1
   try clear hcz4_2
   try clear hcz4_3
   try clear hcz4_4
   try clear hcz7_0
   try clear hcz7_1
   try clear hcz7_2
   try clear hcz7_3
   try clear hcz7_4
   try clear hcz9_0
   try clear hcz9_1
   try clear hcz9_2
   try clear hcz9_3
   try clear hcz9_4
   try clear hfz10_0
   try clear hfz10_1
   try clear hfz10_2
   try clear hfz10_3
   try clear hfz10_4
   try clear hfz13_0
   try clear hfz13_1
   try clear hfz13_2
   try clear hfz13_3
   try clear hfz13_4
   try clear hfz16_0
   try clear hfz16_1
   try clear hfz16_2
   try clear hfz16_3
   try clear hfz16_4
   try clear hfz18_0
   try clear hfz18_1
   try clear hfz18_2
   try clear hfz18_3
   try clear hfz18_4
   try clear hfz23_0
   try clear hfz23_1
   try clear hfz23_2
   try clear hfz23_3
   try clear hfz23_4
   try clear hfz25_0
   try clear hfz25_1
   try clear hfz25_2
   try clear hfz25_3
   try clear hfz25_4
   try clear hfz4_0
   try clear hfz4_1
   try clear hfz4_2
   try clear hfz4_3
   try clear hfz4_4
   try clear hfz7_0
   try clear hfz7_1
   try clear hfz7_2
   try clear hfz7_3
   try clear hfz7_4
   try clear hfz9_0
   try clear hfz9_1
   try clear hfz9_2
   try clear hfz9_3
   try clear hfz9_4
   obtain ⟨kq, x22_10, rfl, HA, HJ10, BK109, BK110, HB⟩ := hcut
   cases kq with
   | zero => exact absurd HA.out (by simp [spec_CmdOk.j0])
   | succ kj10 =>
    have H := HA.out
    clear HA
    simp only [spec_CmdOk.j0] at H
    by_cases c26 : x22_10 = true
    ·subst c26
     have H1 : (some false) = some r := by rw [if_pos rfl] at H; exact H
     clear H
     have H := H1
     clear H1
     obtain rfl := Option.some.inj H
     go_wp2
     go_ret
     exact ⟨by first | rfl | (simp [errW_none, errW_some] <;> rfl) | (simp [*, errW_none, errW_some] <;> rfl), by repeat (first | (with_reducible first | exact HB.out | apply below_alloc | apply pw_below_drewN | apply below_drew1 | refine below_set ?_ GE109.out | refine below_set ?_ GE110.out) | exact HB.out)⟩
    ·replace c26 := Bool.eq_false_iff.mpr c26
     subst c26
     have H1 : (if a0_0 = 2 then ((spec_l1In.f a0_3 0 1000).bind fun t113 => (if t113 = true then (if (a0_4.size : Int) = 32 then (some (a0_2 == 0)) else (some false)) else (some false))) else (if a0_0 = 3 then ((spec_l1In.f a0_2 0 4).bind fun t114 => (if t114 = true then (some (a0_0 == a0_0 && (a0_3 == 0 && (a0_4.toList == (⟨#[]⟩ : ByteArray).toList)))) else (some false))) else (some (a0_0 == a0_0 && (a0_2 == 0 && (a0_3 == 0 && (a0_4.toList == (⟨#[]⟩ : ByteArray).toList))))))) = some r := by rw [if_neg (show ¬ (false = true) by decide)] at H; exact H
     clear H
     have H := H1
     clear H1
     by_cases c27 : a0_0 = 2
     ·rw [if_pos c27] at H
      have c27b0 : (a0_0 == 2) = true := beq_iff_eq.mpr c27
      have c27b1 : (a0_0 != 2) = false := bne_eq_false_iff_eq.mpr c27
      clear c27
      replace H := Option.bind_eq_some_iff.mp H
      obtain ⟨t113, A280, H⟩ := H
      replace H : (if t113 = true then (if (a0_4.size : Int) = 32 then (some (a0_2 == 0)) else (some false)) else (some false)) = some r := H
      have A28 := Aside0.mk A280
      clear A280
      by_cases c29 : t113 = true
      ·subst c29
       have H1 : (if (a0_4.size : Int) = 32 then (some (a0_2 == 0)) else (some false)) = some r := by rw [if_pos rfl] at H; exact H
       clear H
       have H := H1
       clear H1
       by_cases c30 : (a0_4.size : Int) = 32
       ·rw [if_pos c30] at H
        have c30b0 : ((a0_4.size : Int) == 32) = true := beq_iff_eq.mpr c30
        have c30b1 : ((a0_4.size : Int) != 32) = false := bne_eq_false_iff_eq.mpr c30
        clear c30
        obtain rfl := Option.some.inj H
        have hnb31 := NB109_110.out
        have hnc31 := NB110_109.out
        have hcz32_0 : wc.cell? ⟨gb109, 0, none⟩ = some (.int .i64 a0_0) := (blk_cell BK109.out 0).trans rfl
        have hcz32_1 : wc.cell? ⟨gb109, 1, none⟩ = some (.int .i64 a0_1) := (blk_cell BK109.out 1).trans rfl
        have hcz32_2 : wc.cell? ⟨gb109, 2, none⟩ = some (.int .i64 a0_2) := (blk_cell BK109.out 2).trans rfl
        have hcz32_3 : wc.cell? ⟨gb109, 3, none⟩ = some (.int .i64 a0_3) := (blk_cell BK109.out 3).trans rfl
        have hcz32_4 : wc.cell? ⟨gb109, 4, none⟩ = some (.string a0_4) := (blk_cell BK109.out 4).trans rfl
        have hfz32_0 := blk_frozen BK109.out 0
        have hfz32_1 := blk_frozen BK109.out 1
        have hfz32_2 := blk_frozen BK109.out 2
        have hfz32_3 := blk_frozen BK109.out 3
        have hfz32_4 := blk_frozen BK109.out 4
        have hcz33_0 : wc.cell? ⟨gb110, 0, none⟩ = some (.int .i64 a0_0) := (blk_cell BK110.out 0).trans rfl
        have hcz33_1 : wc.cell? ⟨gb110, 1, none⟩ = some (.int .i64 0) := (blk_cell BK110.out 1).trans rfl
        have hcz33_2 : wc.cell? ⟨gb110, 2, none⟩ = some (.int .i64 0) := (blk_cell BK110.out 2).trans rfl
        have hcz33_3 : wc.cell? ⟨gb110, 3, none⟩ = some (.int .i64 0) := (blk_cell BK110.out 3).trans rfl
        have hcz33_4 : wc.cell? ⟨gb110, 4, none⟩ = some (.string (⟨#[]⟩ : ByteArray)) := (blk_cell BK110.out 4).trans rfl
        have hfz33_0 := blk_frozen BK110.out 0
        have hfz33_1 := blk_frozen BK110.out 1
        have hfz33_2 := blk_frozen BK110.out 2
        have hfz33_3 := blk_frozen BK110.out 3
        have hfz33_4 := blk_frozen BK110.out 4
        go_wp2_with (first | ((with_reducible refine gate_callee (f := 62) rfl ?_); refine goesL_ (some 32) rfl rfl Try.func62 (by kernel_rfl) rfl #[.int .i64 a0_3, .int .i64 0, .int .i64 1000] rfl (by (try simp only [List.map_toArray, List.map_cons, List.map_nil]); first | done | rfl | (simp only [List.length_drop, List.length_take]; rfl)) ?_; (with_reducible refine (spec_l1In.calls a0_3 0 1000 true _ A28.out).mono ?_); rintro e w' ⟨rfl, ⟨nd, rfl⟩⟩; refine ⟨_, rfl, ?_⟩))
        go_ret
        exact ⟨by first | rfl | (simp [errW_none, errW_some] <;> rfl) | (simp [*, errW_none, errW_some] <;> rfl), by repeat (first | (with_reducible first | exact HB.out | apply below_alloc | apply pw_below_drewN | apply below_drew1 | refine below_set ?_ GE109.out | refine below_set ?_ GE110.out) | exact HB.out)⟩
       ·rw [if_neg c30] at H
        have c30b0 : ((a0_4.size : Int) == 32) = false := beq_eq_false_iff_ne.mpr c30
        have c30b1 : ((a0_4.size : Int) != 32) = true := bne_iff_ne.mpr c30
        obtain rfl := Option.some.inj H
        have hnb34 := NB109_110.out
        have hnc34 := NB110_109.out
        have hcz35_0 : wc.cell? ⟨gb109, 0, none⟩ = some (.int .i64 a0_0) := (blk_cell BK109.out 0).trans rfl
        have hcz35_1 : wc.cell? ⟨gb109, 1, none⟩ = some (.int .i64 a0_1) := (blk_cell BK109.out 1).trans rfl
        have hcz35_2 : wc.cell? ⟨gb109, 2, none⟩ = some (.int .i64 a0_2) := (blk_cell BK109.out 2).trans rfl
        have hcz35_3 : wc.cell? ⟨gb109, 3, none⟩ = some (.int .i64 a0_3) := (blk_cell BK109.out 3).trans rfl
        have hcz35_4 : wc.cell? ⟨gb109, 4, none⟩ = some (.string a0_4) := (blk_cell BK109.out 4).trans rfl
        have hfz35_0 := blk_frozen BK109.out 0
        have hfz35_1 := blk_frozen BK109.out 1
        have hfz35_2 := blk_frozen BK109.out 2
        have hfz35_3 := blk_frozen BK109.out 3
        have hfz35_4 := blk_frozen BK109.out 4
        have hcz36_0 : wc.cell? ⟨gb110, 0, none⟩ = some (.int .i64 a0_0) := (blk_cell BK110.out 0).trans rfl
        have hcz36_1 : wc.cell? ⟨gb110, 1, none⟩ = some (.int .i64 0) := (blk_cell BK110.out 1).trans rfl
        have hcz36_2 : wc.cell? ⟨gb110, 2, none⟩ = some (.int .i64 0) := (blk_cell BK110.out 2).trans rfl
        have hcz36_3 : wc.cell? ⟨gb110, 3, none⟩ = some (.int .i64 0) := (blk_cell BK110.out 3).trans rfl
        have hcz36_4 : wc.cell? ⟨gb110, 4, none⟩ = some (.string (⟨#[]⟩ : ByteArray)) := (blk_cell BK110.out 4).trans rfl
        have hfz36_0 := blk_frozen BK110.out 0
        have hfz36_1 := blk_frozen BK110.out 1
        have hfz36_2 := blk_frozen BK110.out 2
        have hfz36_3 := blk_frozen BK110.out 3
        have hfz36_4 := blk_frozen BK110.out 4
        go_wp2_with (first | ((with_reducible refine gate_callee (f := 62) rfl ?_); refine goesL_ (some 32) rfl rfl Try.func62 (by kernel_rfl) rfl #[.int .i64 a0_3, .int .i64 0, .int .i64 1000] rfl (by (try simp only [List.map_toArray, List.map_cons, List.map_nil]); first | done | rfl | (simp only [List.length_drop, List.length_take]; rfl)) ?_; (with_reducible refine (spec_l1In.calls a0_3 0 1000 true _ A28.out).mono ?_); rintro e w' ⟨rfl, ⟨nd, rfl⟩⟩; refine ⟨_, rfl, ?_⟩))
        go_ret
        exact ⟨by first | rfl | (simp [errW_none, errW_some] <;> rfl) | (simp [*, errW_none, errW_some] <;> rfl), by repeat (first | (with_reducible first | exact HB.out | apply below_alloc | apply pw_below_drewN | apply below_drew1 | refine below_set ?_ GE109.out | refine below_set ?_ GE110.out) | exact HB.out)⟩
      ·replace c29 := Bool.eq_false_iff.mpr c29
       subst c29
       have H1 : (some false) = some r := by rw [if_neg (show ¬ (false = true) by decide)] at H; exact H
       clear H
       have H := H1
       clear H1
       obtain rfl := Option.some.inj H
       have hnb37 := NB109_110.out
       have hnc37 := NB110_109.out
       have hcz38_0 : wc.cell? ⟨gb109, 0, none⟩ = some (.int .i64 a0_0) := (blk_cell BK109.out 0).trans rfl
       have hcz38_1 : wc.cell? ⟨gb109, 1, none⟩ = some (.int .i64 a0_1) := (blk_cell BK109.out 1).trans rfl
       have hcz38_2 : wc.cell? ⟨gb109, 2, none⟩ = some (.int .i64 a0_2) := (blk_cell BK109.out 2).trans rfl
       have hcz38_3 : wc.cell? ⟨gb109, 3, none⟩ = some (.int .i64 a0_3) := (blk_cell BK109.out 3).trans rfl
       have hcz38_4 : wc.cell? ⟨gb109, 4, none⟩ = some (.string a0_4) := (blk_cell BK109.out 4).trans rfl
       have hfz38_0 := blk_frozen BK109.out 0
       have hfz38_1 := blk_frozen BK109.out 1
       have hfz38_2 := blk_frozen BK109.out 2
       have hfz38_3 := blk_frozen BK109.out 3
       have hfz38_4 := blk_frozen BK109.out 4
       have hcz39_0 : wc.cell? ⟨gb110, 0, none⟩ = some (.int .i64 a0_0) := (blk_cell BK110.out 0).trans rfl
       have hcz39_1 : wc.cell? ⟨gb110, 1, none⟩ = some (.int .i64 0) := (blk_cell BK110.out 1).trans rfl
       have hcz39_2 : wc.cell? ⟨gb110, 2, none⟩ = some (.int .i64 0) := (blk_cell BK110.out 2).trans rfl
       have hcz39_3 : wc.cell? ⟨gb110, 3, none⟩ = some (.int .i64 0) := (blk_cell BK110.out 3).trans rfl
       have hcz39_4 : wc.cell? ⟨gb110, 4, none⟩ = some (.string (⟨#[]⟩ : ByteArray)) := (blk_cell BK110.out 4).trans rfl
       have hfz39_0 := blk_frozen BK110.out 0
       have hfz39_1 := blk_frozen BK110.out 1
       have hfz39_2 := blk_frozen BK110.out 2
       have hfz39_3 := blk_frozen BK110.out 3
       have hfz39_4 := blk_frozen BK110.out 4
       go_wp2_with (first | ((with_reducible refine gate_callee (f := 62) rfl ?_); refine goesL_ (some 32) rfl rfl Try.func62 (by kernel_rfl) rfl #[.int .i64 a0_3, .int .i64 0, .int .i64 1000] rfl (by (try simp only [List.map_toArray, List.map_cons, List.map_nil]); first | done | rfl | (simp only [List.length_drop, List.length_take]; rfl)) ?_; (with_reducible refine (spec_l1In.calls a0_3 0 1000 false _ A28.out).mono ?_); rintro e w' ⟨rfl, ⟨nd, rfl⟩⟩; refine ⟨_, rfl, ?_⟩))
       go_ret
       exact ⟨by first | rfl | (simp [errW_none, errW_some] <;> rfl) | (simp [*, errW_none, errW_some] <;> rfl), by repeat (first | (with_reducible first | exact HB.out | apply below_alloc | apply pw_below_drewN | apply below_drew1 | refine below_set ?_ GE109.out | refine below_set ?_ GE110.out) | exact HB.out)⟩
     ·rw [if_neg c27] at H
      have c27b0 : (a0_0 == 2) = false := beq_eq_false_iff_ne.mpr c27
      have c27b1 : (a0_0 != 2) = true := bne_iff_ne.mpr c27
      by_cases c40 : a0_0 = 3
      ·rw [if_pos c40] at H
       have c40b0 : (a0_0 == 3) = true := beq_iff_eq.mpr c40
       have c40b1 : (a0_0 != 3) = false := bne_eq_false_iff_eq.mpr c40
       clear c40
       replace H := Option.bind_eq_some_iff.mp H
       obtain ⟨t114, A410, H⟩ := H
       replace H : (if t114 = true then (some (a0_0 == a0_0 && (a0_3 == 0 && (a0_4.toList == (⟨#[]⟩ : ByteArray).toList)))) else (some false)) = some r := H
       have A41 := Aside0.mk A410
       clear A410
       by_cases c42 : t114 = true
       ·subst c42
        have H1 : (some (a0_0 == a0_0 && (a0_3 == 0 && (a0_4.toList == (⟨#[]⟩ : ByteArray).toList)))) = some r := by rw [if_pos rfl] at H; exact H
        clear H
        have H := H1
        clear H1
        obtain rfl := Option.some.inj H
        have hnb43 := NB109_110.out
        have hnc43 := NB110_109.out
        have hcz44_0 : wc.cell? ⟨gb109, 0, none⟩ = some (.int .i64 a0_0) := (blk_cell BK109.out 0).trans rfl
        have hcz44_1 : wc.cell? ⟨gb109, 1, none⟩ = some (.int .i64 a0_1) := (blk_cell BK109.out 1).trans rfl
        have hcz44_2 : wc.cell? ⟨gb109, 2, none⟩ = some (.int .i64 a0_2) := (blk_cell BK109.out 2).trans rfl
        have hcz44_3 : wc.cell? ⟨gb109, 3, none⟩ = some (.int .i64 a0_3) := (blk_cell BK109.out 3).trans rfl
        have hcz44_4 : wc.cell? ⟨gb109, 4, none⟩ = some (.string a0_4) := (blk_cell BK109.out 4).trans rfl
        have hfz44_0 := blk_frozen BK109.out 0
        have hfz44_1 := blk_frozen BK109.out 1
        have hfz44_2 := blk_frozen BK109.out 2
        have hfz44_3 := blk_frozen BK109.out 3
        have hfz44_4 := blk_frozen BK109.out 4
        have hcz45_0 : wc.cell? ⟨gb110, 0, none⟩ = some (.int .i64 a0_0) := (blk_cell BK110.out 0).trans rfl
        have hcz45_1 : wc.cell? ⟨gb110, 1, none⟩ = some (.int .i64 0) := (blk_cell BK110.out 1).trans rfl
        have hcz45_2 : wc.cell? ⟨gb110, 2, none⟩ = some (.int .i64 0) := (blk_cell BK110.out 2).trans rfl
        have hcz45_3 : wc.cell? ⟨gb110, 3, none⟩ = some (.int .i64 0) := (blk_cell BK110.out 3).trans rfl
        have hcz45_4 : wc.cell? ⟨gb110, 4, none⟩ = some (.string (⟨#[]⟩ : ByteArray)) := (blk_cell BK110.out 4).trans rfl
        have hfz45_0 := blk_frozen BK110.out 0
        have hfz45_1 := blk_frozen BK110.out 1
        have hfz45_2 := blk_frozen BK110.out 2
        have hfz45_3 := blk_frozen BK110.out 3
        have hfz45_4 := blk_frozen BK110.out 4
        go_wp2_with (first | ((with_reducible refine gate_callee (f := 62) rfl ?_); refine goesL_ (some 51) rfl rfl Try.func62 (by kernel_rfl) rfl #[.int .i64 a0_2, .int .i64 0, .int .i64 4] rfl (by (try simp only [List.map_toArray, List.map_cons, List.map_nil]); first | done | rfl | (simp only [List.length_drop, List.length_take]; rfl)) ?_; (with_reducible refine (spec_l1In.calls a0_2 0 4 true _ A41.out).mono ?_); rintro e w' ⟨rfl, ⟨nd, rfl⟩⟩; refine ⟨_, rfl, ?_⟩))
        go_ret
        exact ⟨by first | rfl | (simp [errW_none, errW_some] <;> rfl) | (simp [*, errW_none, errW_some] <;> rfl), by repeat (first | (with_reducible first | exact HB.out | apply below_alloc | apply pw_below_drewN | apply below_drew1 | refine below_set ?_ GE109.out | refine below_set ?_ GE110.out) | exact HB.out)⟩
       ·replace c42 := Bool.eq_false_iff.mpr c42
        subst c42
        have H1 : (some false) = some r := by rw [if_neg (show ¬ (false = true) by decide)] at H; exact H
        clear H
        have H := H1
        clear H1
        obtain rfl := Option.some.inj H
        have hnb46 := NB109_110.out
        have hnc46 := NB110_109.out
        have hcz47_0 : wc.cell? ⟨gb109, 0, none⟩ = some (.int .i64 a0_0) := (blk_cell BK109.out 0).trans rfl
        have hcz47_1 : wc.cell? ⟨gb109, 1, none⟩ = some (.int .i64 a0_1) := (blk_cell BK109.out 1).trans rfl
        have hcz47_2 : wc.cell? ⟨gb109, 2, none⟩ = some (.int .i64 a0_2) := (blk_cell BK109.out 2).trans rfl
        have hcz47_3 : wc.cell? ⟨gb109, 3, none⟩ = some (.int .i64 a0_3) := (blk_cell BK109.out 3).trans rfl
        have hcz47_4 : wc.cell? ⟨gb109, 4, none⟩ = some (.string a0_4) := (blk_cell BK109.out 4).trans rfl
        have hfz47_0 := blk_frozen BK109.out 0
        have hfz47_1 := blk_frozen BK109.out 1
        have hfz47_2 := blk_frozen BK109.out 2
        have hfz47_3 := blk_frozen BK109.out 3
        have hfz47_4 := blk_frozen BK109.out 4
        have hcz48_0 : wc.cell? ⟨gb110, 0, none⟩ = some (.int .i64 a0_0) := (blk_cell BK110.out 0).trans rfl
        have hcz48_1 : wc.cell? ⟨gb110, 1, none⟩ = some (.int .i64 0) := (blk_cell BK110.out 1).trans rfl
        have hcz48_2 : wc.cell? ⟨gb110, 2, none⟩ = some (.int .i64 0) := (blk_cell BK110.out 2).trans rfl
        have hcz48_3 : wc.cell? ⟨gb110, 3, none⟩ = some (.int .i64 0) := (blk_cell BK110.out 3).trans rfl
        have hcz48_4 : wc.cell? ⟨gb110, 4, none⟩ = some (.string (⟨#[]⟩ : ByteArray)) := (blk_cell BK110.out 4).trans rfl
        have hfz48_0 := blk_frozen BK110.out 0
        have hfz48_1 := blk_frozen BK110.out 1
        have hfz48_2 := blk_frozen BK110.out 2
        have hfz48_3 := blk_frozen BK110.out 3
        have hfz48_4 := blk_frozen BK110.out 4
        go_wp2_with (first | ((with_reducible refine gate_callee (f := 62) rfl ?_); refine goesL_ (some 51) rfl rfl Try.func62 (by kernel_rfl) rfl #[.int .i64 a0_2, .int .i64 0, .int .i64 4] rfl (by (try simp only [List.map_toArray, List.map_cons, List.map_nil]); first | done | rfl | (simp only [List.length_drop, List.length_take]; rfl)) ?_; (with_reducible refine (spec_l1In.calls a0_2 0 4 false _ A41.out).mono ?_); rintro e w' ⟨rfl, ⟨nd, rfl⟩⟩; refine ⟨_, rfl, ?_⟩))
        go_ret
        exact ⟨by first | rfl | (simp [errW_none, errW_some] <;> rfl) | (simp [*, errW_none, errW_some] <;> rfl), by repeat (first | (with_reducible first | exact HB.out | apply below_alloc | apply pw_below_drewN | apply below_drew1 | refine below_set ?_ GE109.out | refine below_set ?_ GE110.out) | exact HB.out)⟩
      ·rw [if_neg c40] at H
       have c40b0 : (a0_0 == 3) = false := beq_eq_false_iff_ne.mpr c40
       have c40b1 : (a0_0 != 3) = true := bne_iff_ne.mpr c40
       obtain rfl := Option.some.inj H
       have hnb49 := NB109_110.out
       have hnc49 := NB110_109.out
       have hcz50_0 : wc.cell? ⟨gb109, 0, none⟩ = some (.int .i64 a0_0) := (blk_cell BK109.out 0).trans rfl
       have hcz50_1 : wc.cell? ⟨gb109, 1, none⟩ = some (.int .i64 a0_1) := (blk_cell BK109.out 1).trans rfl
       have hcz50_2 : wc.cell? ⟨gb109, 2, none⟩ = some (.int .i64 a0_2) := (blk_cell BK109.out 2).trans rfl
       have hcz50_3 : wc.cell? ⟨gb109, 3, none⟩ = some (.int .i64 a0_3) := (blk_cell BK109.out 3).trans rfl
       have hcz50_4 : wc.cell? ⟨gb109, 4, none⟩ = some (.string a0_4) := (blk_cell BK109.out 4).trans rfl
       have hfz50_0 := blk_frozen BK109.out 0
       have hfz50_1 := blk_frozen BK109.out 1
       have hfz50_2 := blk_frozen BK109.out 2
       have hfz50_3 := blk_frozen BK109.out 3
       have hfz50_4 := blk_frozen BK109.out 4
       have hcz51_0 : wc.cell? ⟨gb110, 0, none⟩ = some (.int .i64 a0_0) := (blk_cell BK110.out 0).trans rfl
       have hcz51_1 : wc.cell? ⟨gb110, 1, none⟩ = some (.int .i64 0) := (blk_cell BK110.out 1).trans rfl
       have hcz51_2 : wc.cell? ⟨gb110, 2, none⟩ = some (.int .i64 0) := (blk_cell BK110.out 2).trans rfl
       have hcz51_3 : wc.cell? ⟨gb110, 3, none⟩ = some (.int .i64 0) := (blk_cell BK110.out 3).trans rfl
       have hcz51_4 : wc.cell? ⟨gb110, 4, none⟩ = some (.string (⟨#[]⟩ : ByteArray)) := (blk_cell BK110.out 4).trans rfl
       have hfz51_0 := blk_frozen BK110.out 0
       have hfz51_1 := blk_frozen BK110.out 1
       have hfz51_2 := blk_frozen BK110.out 2
       have hfz51_3 := blk_frozen BK110.out 3
       have hfz51_4 := blk_frozen BK110.out 4
       go_wp2
       go_ret
       exact ⟨by first | rfl | (simp [errW_none, errW_some] <;> rfl) | (simp [*, errW_none, errW_some] <;> rfl), by repeat (first | (with_reducible first | exact HB.out | apply below_alloc | apply pw_below_drewN | apply below_drew1 | refine below_set ?_ GE109.out | refine below_set ?_ GE110.out) | exact HB.out)⟩

/-! ### spec_CmdRead: function 58 -/
def crFin (k : Nat) (x1 x2 x3 x4 : Int) (d : ByteArray) (p : Int) (ok : Bool) : Option (Int × Int × Int × Int × ByteArray × Int × Bool) :=
  if ok = true then (spec_CmdOk.f k x1 x2 x3 x4 d).bind fun o => if o = true then some (x1, x2, x3, x4, d, p, true) else some (0, 0, 0, 0, (⟨#[]⟩ : ByteArray), 0, false) else some (0, 0, 0, 0, (⟨#[]⟩ : ByteArray), 0, false)
def spec_CmdRead.f (k : Nat) (l0 : List Int) (a1 : Int) : Option (Int × Int × Int × Int × ByteArray × Int × Bool) :=
  (spec_GetNum.f k l0 a1).bind fun t1 => if t1.2.2 = true then (spec_l1In.f t1.1 1 5).bind fun o1 => if o1 = true then
      (if t1.1 = 1 then some (1, 0, 0, 0, (⟨#[]⟩ : ByteArray), t1.2.1, true)
       else (spec_GetNum.f k l0 t1.2.1).bind fun t2 => if t2.2.2 = true then
          (if t1.1 = 3 then (spec_GetNum.f k l0 t2.2.1).bind fun t3 => crFin k t1.1 t2.1 t3.1 0 (⟨#[]⟩ : ByteArray) t3.2.1 t3.2.2
           else if t1.1 = 2 then (spec_GetNum.f k l0 t2.2.1).bind fun t3 => if t3.2.2 = true then
                (if wrap64 ((l0.length : Int) - t3.2.1) ≥ 32 then (if 0 ≤ t3.2.1 ∧ t3.2.1 + 32 ≤ (l0.length : Int) then crFin k t1.1 t2.1 0 t3.1 (strOfNums ((l0.take (t3.2.1 + 32).toNat).drop t3.2.1.toNat)) (t3.2.1 + 32) true else none)
                 else crFin k t1.1 t2.1 0 t3.1 (⟨#[]⟩ : ByteArray) t3.2.1 true) else some (0, 0, 0, 0, (⟨#[]⟩ : ByteArray), 0, false)
           else crFin k t1.1 t2.1 0 0 (⟨#[]⟩ : ByteArray) t2.2.1 true) else some (0, 0, 0, 0, (⟨#[]⟩ : ByteArray), 0, false))
    else some (0, 0, 0, 0, (⟨#[]⟩ : ByteArray), 0, false) else some (0, 0, 0, 0, (⟨#[]⟩ : ByteArray), 0, false)
theorem crFin.mono (k : Nat) (x1 x2 x3 x4 : Int) (d : ByteArray) (p : Int) (ok : Bool) : LeO (crFin k x1 x2 x3 x4 d p ok) (crFin (k + 1) x1 x2 x3 x4 d p ok) := by
  unfold crFin
  repeat' first
  | exact spec_CmdOk.mono _ _ _ _ _ _
  | exact LeO.refl _
  | refine LeO.ite ?_ ?_
  | refine LeO.bind ?_ (fun _ => ?_)
theorem spec_CmdRead.mono : ∀ a0 a1 k, LeO (spec_CmdRead.f k a0 a1) (spec_CmdRead.f (k + 1) a0 a1) := by
  intro a0 a1 k
  unfold spec_CmdRead.f
  repeat' first
  | exact spec_GetNum.mono _ _ _
  | exact crFin.mono _ _ _ _ _ _ _ _
  | exact LeO.refl _
  | refine LeO.ite ?_ ?_
  | refine LeO.bind ?_ (fun _ => ?_)
theorem cr_at {w : World} {g : Nat} {o : Obj} (h : w.heap.size = g) : (w.alloc o).heap[g]? = some o := h ▸ blk_new w o
theorem cr_fr {w : World} {g b i : Nat} {o : Obj} (h : w.heap[g]? = some o) (hp : g ≠ b) (u : Value) : (w.setCell ⟨b, i, none⟩ u).heap[g]? = some o := (Below.heap_setCell w ⟨b, i, none⟩ u g hp).trans h
theorem cr_set5 {w : World} {b : Nat} {T : TypeId} {v0 v1 v2 v3 v4 : Value} (h : w.heap[b]? = some (.cells #[.int .i64 0, .int .i64 0, .int .i64 0, .int .i64 0, .string (⟨#[]⟩ : ByteArray)] T (0, 0))) :
    (((((w.setCell ⟨b, 0, none⟩ v0).setCell ⟨b, 1, none⟩ v1).setCell ⟨b, 2, none⟩ v2).setCell ⟨b, 3, none⟩ v3).setCell ⟨b, 4, none⟩ v4).heap[b]? = some (.cells #[v0, v1, v2, v3, v4] T (0, 0)) :=
  (blk_set (blk_set (blk_set (blk_set (blk_set h 0 v0) 1 v1) 2 v2) 3 v3) 4 v4).trans rfl
set_option maxHeartbeats 8000000 in
set_option maxRecDepth 100000 in
theorem spec_CmdRead.calls (k : Nat) (A0 : Option Addr) (c0 : Nat) (l0 : List Int) (a1 : Int) (r1 : Int) (r2 : Int) (r3 : Int) (r4 : Int) (r5 : ByteArray) (r6 : Int) (r7 : Bool) (w : World) (hr0 : Kd.C (Kd.int .u8) w A0 l0.length l0) (hc0 : l0.length ≤ c0) (h : spec_CmdRead.f k l0 a1 = some (r1, r2, r3, r4, r5, r6, r7)) :
    Calls Try.prog 58 #[.slice A0 l0.length c0, .int .i64 a1] w fun e w' => e = .returned (.tuple #[.agg #[.int .i64 r1, .int .i64 r2, .int .i64 r3, .int .i64 r4, .string r5], .int .i64 r6, .bool r7]) ∧ Below w.heap.size w w' := by
  have hu := Try.underlying56
  have HR := Aside0.mk hr0
  have HC := Aside0.mk hc0
  unfold spec_CmdRead.f at h
  replace h := Option.bind_eq_some_iff.1 h; obtain ⟨⟨x1, p1, ok1⟩, hA, h⟩ := h
  simp only at h
  have HA1 := Aside0.mk hA
  clear hA hr0 hc0
  cases ok1
  · simp only [Bool.false_eq_true, ↓reduceIte, Option.some.injEq, Prod.mk.injEq] at h
    obtain ⟨rfl, rfl, rfl, rfl, rfl, rfl, rfl⟩ := h
    go_enter Try.func58, Try.ntmps58
    go_wp2_with (first | (go_at_call 70; with_reducible refine (spec_GetNum.calls k A0 c0 l0 a1 x1 p1 false _ (Kd.C_below HR.out (by repeat (with_reducible first | exact Below.refl _ _ | apply below_alloc | apply pw_below_drewN | refine below_set ?_ (by omega)))) HC.out HA1.out).mono ?_; rintro e w' ⟨rfl, ⟨nd1, rfl⟩⟩))
    refine bodyPost_ret (results_ctt rfl _ _ w.heap.size 56 #[.int .i64 0, .int .i64 0, .int .i64 0, .int .i64 0, .string (⟨#[]⟩ : ByteArray)] (0, 0) _ rfl (by (with_reducible repeat (first | refine blk_drewN ?_ _ | refine blk_alloc ?_ _)); with_reducible refine cr_set5 ?_; repeat (with_reducible first | exact HZ.out | exact blk_new _ _ | refine cr_fr ?_ (by omega) _ | refine blk_drewN ?_ _ | refine blk_alloc ?_ _)) hu rfl (by kernel_rfl)) rfl ?_; exact ⟨by first | rfl | (simp; done) | (simp [*]; done), by repeat (with_reducible first | exact Below.refl _ _ | apply below_alloc | apply pw_below_drewN | refine below_set ?_ (by omega))⟩
  · simp only [↓reduceIte] at h
    replace h := Option.bind_eq_some_iff.1 h; obtain ⟨o1, hO, h⟩ := h
    have HO := Aside0.mk hO
    clear hO
    cases o1
    · simp only [Bool.false_eq_true, ↓reduceIte, Option.some.injEq, Prod.mk.injEq] at h
      obtain ⟨rfl, rfl, rfl, rfl, rfl, rfl, rfl⟩ := h
      go_enter Try.func58, Try.ntmps58
      go_wp2_with (first | (go_at_call 70; with_reducible refine (spec_GetNum.calls k A0 c0 l0 a1 x1 p1 true _ (Kd.C_below HR.out (by repeat (with_reducible first | exact Below.refl _ _ | apply below_alloc | apply pw_below_drewN | refine below_set ?_ (by omega)))) HC.out HA1.out).mono ?_; rintro e w' ⟨rfl, ⟨nd1, rfl⟩⟩) | (go_at_call 62; with_reducible refine (spec_l1In.calls x1 1 5 false _ HO.out).mono ?_; rintro e w' ⟨rfl, ⟨nd0, rfl⟩⟩))
      refine bodyPost_ret (results_ctt rfl _ _ w.heap.size 56 #[.int .i64 0, .int .i64 0, .int .i64 0, .int .i64 0, .string (⟨#[]⟩ : ByteArray)] (0, 0) _ rfl (by (with_reducible repeat (first | refine blk_drewN ?_ _ | refine blk_alloc ?_ _)); with_reducible refine cr_set5 ?_; repeat (with_reducible first | exact HZ.out | exact blk_new _ _ | refine cr_fr ?_ (by omega) _ | refine blk_drewN ?_ _ | refine blk_alloc ?_ _)) hu rfl (by kernel_rfl)) rfl ?_; exact ⟨by first | rfl | (simp; done) | (simp [*]; done), by repeat (with_reducible first | exact Below.refl _ _ | apply below_alloc | apply pw_below_drewN | refine below_set ?_ (by omega))⟩
    · simp only [↓reduceIte] at h
      by_cases e1 : x1 = 1
      · subst e1
        simp only [↓reduceIte, Option.some.injEq, Prod.mk.injEq] at h
        obtain ⟨rfl, rfl, rfl, rfl, rfl, rfl, rfl⟩ := h
        go_enter Try.func58, Try.ntmps58
        go_wp2_with (first | (go_at_call 70; with_reducible refine (spec_GetNum.calls k A0 c0 l0 a1 1 p1 true _ (Kd.C_below HR.out (by repeat (with_reducible first | exact Below.refl _ _ | apply below_alloc | apply pw_below_drewN | refine below_set ?_ (by omega)))) HC.out HA1.out).mono ?_; rintro e w' ⟨rfl, ⟨nd1, rfl⟩⟩) | (go_at_call 62; with_reducible refine (spec_l1In.calls 1 1 5 true _ HO.out).mono ?_; rintro e w' ⟨rfl, ⟨nd0, rfl⟩⟩))
        refine bodyPost_ret (results_ctt rfl _ _ w.heap.size 56 #[.int .i64 1, .int .i64 0, .int .i64 0, .int .i64 0, .string (⟨#[]⟩ : ByteArray)] (0, 0) _ rfl (by (with_reducible repeat (first | refine blk_drewN ?_ _ | refine blk_alloc ?_ _)); with_reducible refine cr_set5 ?_; repeat (with_reducible first | exact HZ.out | exact blk_new _ _ | refine cr_fr ?_ (by omega) _ | refine blk_drewN ?_ _ | refine blk_alloc ?_ _)) hu rfl (by kernel_rfl)) rfl ?_; exact ⟨by first | rfl | (simp; done) | (simp [*]; done), by repeat (with_reducible first | exact Below.refl _ _ | apply below_alloc | apply pw_below_drewN | refine below_set ?_ (by omega))⟩
      · rw [if_neg e1] at h
        have e1b : (x1 == 1) = false := beq_eq_false_iff_ne.mpr e1
        clear e1
        replace h := Option.bind_eq_some_iff.1 h; obtain ⟨⟨x2, p2, ok2⟩, hA, h⟩ := h
        simp only at h
        have HA2 := Aside0.mk hA
        clear hA
        cases ok2
        · simp only [Bool.false_eq_true, ↓reduceIte, Option.some.injEq, Prod.mk.injEq] at h
          obtain ⟨rfl, rfl, rfl, rfl, rfl, rfl, rfl⟩ := h
          go_enter Try.func58, Try.ntmps58
          go_wp2_with (first | (go_at_call 70; with_reducible refine (spec_GetNum.calls k A0 c0 l0 a1 x1 p1 true _ (Kd.C_below HR.out (by repeat (with_reducible first | exact Below.refl _ _ | apply below_alloc | apply pw_below_drewN | refine below_set ?_ (by omega)))) HC.out HA1.out).mono ?_; rintro e w' ⟨rfl, ⟨nd1, rfl⟩⟩) | (go_at_call 70; with_reducible refine (spec_GetNum.calls k A0 c0 l0 p1 x2 p2 false _ (Kd.C_below HR.out (by repeat (with_reducible first | exact Below.refl _ _ | apply below_alloc | apply pw_below_drewN | refine below_set ?_ (by omega)))) HC.out HA2.out).mono ?_; rintro e w' ⟨rfl, ⟨nd2, rfl⟩⟩) | (go_at_call 62; with_reducible refine (spec_l1In.calls x1 1 5 true _ HO.out).mono ?_; rintro e w' ⟨rfl, ⟨nd0, rfl⟩⟩))
          refine bodyPost_ret (results_ctt rfl _ _ w.heap.size 56 #[.int .i64 0, .int .i64 0, .int .i64 0, .int .i64 0, .string (⟨#[]⟩ : ByteArray)] (0, 0) _ rfl (by (with_reducible repeat (first | refine blk_drewN ?_ _ | refine blk_alloc ?_ _)); with_reducible refine cr_set5 ?_; repeat (with_reducible first | exact HZ.out | exact blk_new _ _ | refine cr_fr ?_ (by omega) _ | refine blk_drewN ?_ _ | refine blk_alloc ?_ _)) hu rfl (by kernel_rfl)) rfl ?_; exact ⟨by first | rfl | (simp; done) | (simp [*]; done), by repeat (with_reducible first | exact Below.refl _ _ | apply below_alloc | apply pw_below_drewN | refine below_set ?_ (by omega))⟩
        · simp only [↓reduceIte] at h
          by_cases e3 : x1 = 3
          · subst e3
            simp only [↓reduceIte] at h
            replace h := Option.bind_eq_some_iff.1 h; obtain ⟨⟨x3, p3, ok3⟩, hA, h⟩ := h
            simp only at h
            have HA3 := Aside0.mk hA
            clear hA
            cases ok3
            · unfold crFin at h
              simp only [Bool.false_eq_true, ↓reduceIte, Option.some.injEq, Prod.mk.injEq] at h
              obtain ⟨rfl, rfl, rfl, rfl, rfl, rfl, rfl⟩ := h
              go_enter Try.func58, Try.ntmps58
              go_wp2_with (first | (go_at_call 70; with_reducible refine (spec_GetNum.calls k A0 c0 l0 a1 3 p1 true _ (Kd.C_below HR.out (by repeat (with_reducible first | exact Below.refl _ _ | apply below_alloc | apply pw_below_drewN | refine below_set ?_ (by omega)))) HC.out HA1.out).mono ?_; rintro e w' ⟨rfl, ⟨nd1, rfl⟩⟩) | (go_at_call 70; with_reducible refine (spec_GetNum.calls k A0 c0 l0 p1 x2 p2 true _ (Kd.C_below HR.out (by repeat (with_reducible first | exact Below.refl _ _ | apply below_alloc | apply pw_below_drewN | refine below_set ?_ (by omega)))) HC.out HA2.out).mono ?_; rintro e w' ⟨rfl, ⟨nd2, rfl⟩⟩) | (go_at_call 70; with_reducible refine (spec_GetNum.calls k A0 c0 l0 p2 x3 p3 false _ (Kd.C_below HR.out (by repeat (with_reducible first | exact Below.refl _ _ | apply below_alloc | apply pw_below_drewN | refine below_set ?_ (by omega)))) HC.out HA3.out).mono ?_; rintro e w' ⟨rfl, ⟨nd3, rfl⟩⟩) | (go_at_call 62; with_reducible refine (spec_l1In.calls 3 1 5 true _ HO.out).mono ?_; rintro e w' ⟨rfl, ⟨nd0, rfl⟩⟩))
              refine bodyPost_ret (results_ctt rfl _ _ w.heap.size 56 #[.int .i64 0, .int .i64 0, .int .i64 0, .int .i64 0, .string (⟨#[]⟩ : ByteArray)] (0, 0) _ rfl (by (with_reducible repeat (first | refine blk_drewN ?_ _ | refine blk_alloc ?_ _)); with_reducible refine cr_set5 ?_; repeat (with_reducible first | exact HZ.out | exact blk_new _ _ | refine cr_fr ?_ (by omega) _ | refine blk_drewN ?_ _ | refine blk_alloc ?_ _)) hu rfl (by kernel_rfl)) rfl ?_; exact ⟨by first | rfl | (simp; done) | (simp [*]; done), by repeat (with_reducible first | exact Below.refl _ _ | apply below_alloc | apply pw_below_drewN | refine below_set ?_ (by omega))⟩
            · skip
              unfold crFin at h
              simp only [↓reduceIte] at h
              replace h := Option.bind_eq_some_iff.1 h; obtain ⟨o, hK, h⟩ := h
              have HK := Aside0.mk hK
              clear hK
              cases o
              · simp only [Bool.false_eq_true, ↓reduceIte, Option.some.injEq, Prod.mk.injEq] at h
                obtain ⟨rfl, rfl, rfl, rfl, rfl, rfl, rfl⟩ := h
                go_enter Try.func58, Try.ntmps58
                go_wp2_with (first | (go_at_call 70; with_reducible refine (spec_GetNum.calls k A0 c0 l0 a1 3 p1 true _ (Kd.C_below HR.out (by repeat (with_reducible first | exact Below.refl _ _ | apply below_alloc | apply pw_below_drewN | refine below_set ?_ (by omega)))) HC.out HA1.out).mono ?_; rintro e w' ⟨rfl, ⟨nd1, rfl⟩⟩) | (go_at_call 70; with_reducible refine (spec_GetNum.calls k A0 c0 l0 p1 x2 p2 true _ (Kd.C_below HR.out (by repeat (with_reducible first | exact Below.refl _ _ | apply below_alloc | apply pw_below_drewN | refine below_set ?_ (by omega)))) HC.out HA2.out).mono ?_; rintro e w' ⟨rfl, ⟨nd2, rfl⟩⟩) | (go_at_call 70; with_reducible refine (spec_GetNum.calls k A0 c0 l0 p2 x3 p3 true _ (Kd.C_below HR.out (by repeat (with_reducible first | exact Below.refl _ _ | apply below_alloc | apply pw_below_drewN | refine below_set ?_ (by omega)))) HC.out HA3.out).mono ?_; rintro e w' ⟨rfl, ⟨nd3, rfl⟩⟩) | (go_at_call 62; with_reducible refine (spec_l1In.calls 3 1 5 true _ HO.out).mono ?_; rintro e w' ⟨rfl, ⟨nd0, rfl⟩⟩) | (go_at_call 78; with_reducible refine (spec_CmdOk.calls k _ _ _ _ _ _ _ HK.out).mono ?_; rintro e w2 ⟨rfl, hb⟩; have hz := blk_below (g := w.heap.size) (o := .cells #[.int .i64 0, .int .i64 0, .int .i64 0, .int .i64 0, .string (⟨#[]⟩ : ByteArray)] 56 (0, 0)) (by repeat (with_reducible first | exact blk_new _ _ | refine cr_fr ?_ (by omega) _ | refine blk_drewN ?_ _ | refine blk_alloc ?_ _)) hb; have hy := blk_below (g := w.heap.size + 1) (o := .cells #[.int .i64 0, .int .i64 0, .int .i64 0, .int .i64 0, .string (⟨#[]⟩ : ByteArray)] 56 (0, 0)) (by repeat (with_reducible first | refine cr_fr ?_ (by omega) _ | refine blk_drewN ?_ _ | exact cr_at (by simp) | refine blk_drewN ?_ _ | refine blk_alloc ?_ _)) hb; have hx := blk_below (g := w.heap.size + 1 + 1) (o := .cells #[.int .i64 3, .int .i64 x2, .int .i64 x3, .int .i64 0, .string (⟨#[]⟩ : ByteArray)] 56 (0, 0)) (by exact (blk_set (blk_drewN (blk_set (blk_drewN (cr_at (by simp)) _) 1 _) _) 2 _).trans rfl) hb; have HB2 : Aside0 (Below w.heap.size w w2) := ⟨below_step (by repeat (with_reducible first | exact Below.refl _ _ | apply below_alloc | apply pw_below_drewN | refine below_set ?_ (by omega))) hb⟩; have HZ := Aside0.mk hz; have y0 := (blk_cell hy 0).trans rfl; have x0_ := (blk_cell hx 0).trans rfl; have z0_ := (blk_cell hz 0).trans rfl; have y1 := (blk_cell hy 1).trans rfl; have x1_ := (blk_cell hx 1).trans rfl; have z1_ := (blk_cell hz 1).trans rfl; have y2 := (blk_cell hy 2).trans rfl; have x2_ := (blk_cell hx 2).trans rfl; have z2_ := (blk_cell hz 2).trans rfl; have y3 := (blk_cell hy 3).trans rfl; have x3_ := (blk_cell hx 3).trans rfl; have z3_ := (blk_cell hz 3).trans rfl; have y4 := (blk_cell hy 4).trans rfl; have x4_ := (blk_cell hx 4).trans rfl; have z4_ := (blk_cell hz 4).trans rfl; have hfz := fun (i_ : Nat) => blk_frozen hz i_; clear hb hz hy hx))
                refine bodyPost_ret (results_ctt rfl _ _ w.heap.size 56 #[.int .i64 0, .int .i64 0, .int .i64 0, .int .i64 0, .string (⟨#[]⟩ : ByteArray)] (0, 0) _ rfl (by (with_reducible repeat (first | refine blk_drewN ?_ _ | refine blk_alloc ?_ _)); with_reducible refine cr_set5 ?_; repeat (with_reducible first | exact HZ.out | exact blk_new _ _ | refine cr_fr ?_ (by omega) _ | refine blk_drewN ?_ _ | refine blk_alloc ?_ _)) hu rfl (by kernel_rfl)) rfl ?_; exact ⟨by first | rfl | (simp; done) | (simp [*]; done), by repeat (with_reducible first | exact HB2.out | exact Below.refl _ _ | apply below_alloc | apply pw_below_drewN | refine below_set ?_ (by omega))⟩
              · simp only [↓reduceIte, Option.some.injEq, Prod.mk.injEq] at h
                obtain ⟨rfl, rfl, rfl, rfl, rfl, rfl, rfl⟩ := h
                go_enter Try.func58, Try.ntmps58
                go_wp2_with (first | (go_at_call 70; with_reducible refine (spec_GetNum.calls k A0 c0 l0 a1 3 p1 true _ (Kd.C_below HR.out (by repeat (with_reducible first | exact Below.refl _ _ | apply below_alloc | apply pw_below_drewN | refine below_set ?_ (by omega)))) HC.out HA1.out).mono ?_; rintro e w' ⟨rfl, ⟨nd1, rfl⟩⟩) | (go_at_call 70; with_reducible refine (spec_GetNum.calls k A0 c0 l0 p1 x2 p2 true _ (Kd.C_below HR.out (by repeat (with_reducible first | exact Below.refl _ _ | apply below_alloc | apply pw_below_drewN | refine below_set ?_ (by omega)))) HC.out HA2.out).mono ?_; rintro e w' ⟨rfl, ⟨nd2, rfl⟩⟩) | (go_at_call 70; with_reducible refine (spec_GetNum.calls k A0 c0 l0 p2 x3 p3 true _ (Kd.C_below HR.out (by repeat (with_reducible first | exact Below.refl _ _ | apply below_alloc | apply pw_below_drewN | refine below_set ?_ (by omega)))) HC.out HA3.out).mono ?_; rintro e w' ⟨rfl, ⟨nd3, rfl⟩⟩) | (go_at_call 62; with_reducible refine (spec_l1In.calls 3 1 5 true _ HO.out).mono ?_; rintro e w' ⟨rfl, ⟨nd0, rfl⟩⟩) | (go_at_call 78; with_reducible refine (spec_CmdOk.calls k _ _ _ _ _ _ _ HK.out).mono ?_; rintro e w2 ⟨rfl, hb⟩; have hz := blk_below (g := w.heap.size) (o := .cells #[.int .i64 0, .int .i64 0, .int .i64 0, .int .i64 0, .string (⟨#[]⟩ : ByteArray)] 56 (0, 0)) (by repeat (with_reducible first | exact blk_new _ _ | refine cr_fr ?_ (by omega) _ | refine blk_drewN ?_ _ | refine blk_alloc ?_ _)) hb; have hy := blk_below (g := w.heap.size + 1) (o := .cells #[.int .i64 0, .int .i64 0, .int .i64 0, .int .i64 0, .string (⟨#[]⟩ : ByteArray)] 56 (0, 0)) (by repeat (with_reducible first | refine cr_fr ?_ (by omega) _ | refine blk_drewN ?_ _ | exact cr_at (by simp) | refine blk_drewN ?_ _ | refine blk_alloc ?_ _)) hb; have hx := blk_below (g := w.heap.size + 1 + 1) (o := .cells #[.int .i64 3, .int .i64 x2, .int .i64 x3, .int .i64 0, .string (⟨#[]⟩ : ByteArray)] 56 (0, 0)) (by exact (blk_set (blk_drewN (blk_set (blk_drewN (cr_at (by simp)) _) 1 _) _) 2 _).trans rfl) hb; have HB2 : Aside0 (Below w.heap.size w w2) := ⟨below_step (by repeat (with_reducible first | exact Below.refl _ _ | apply below_alloc | apply pw_below_drewN | refine below_set ?_ (by omega))) hb⟩; have HZ := Aside0.mk hz; have y0 := (blk_cell hy 0).trans rfl; have x0_ := (blk_cell hx 0).trans rfl; have z0_ := (blk_cell hz 0).trans rfl; have y1 := (blk_cell hy 1).trans rfl; have x1_ := (blk_cell hx 1).trans rfl; have z1_ := (blk_cell hz 1).trans rfl; have y2 := (blk_cell hy 2).trans rfl; have x2_ := (blk_cell hx 2).trans rfl; have z2_ := (blk_cell hz 2).trans rfl; have y3 := (blk_cell hy 3).trans rfl; have x3_ := (blk_cell hx 3).trans rfl; have z3_ := (blk_cell hz 3).trans rfl; have y4 := (blk_cell hy 4).trans rfl; have x4_ := (blk_cell hx 4).trans rfl; have z4_ := (blk_cell hz 4).trans rfl; have hfz := fun (i_ : Nat) => blk_frozen hz i_; clear hb hz hy hx))
                refine bodyPost_ret (results_ctt rfl _ _ w.heap.size 56 #[.int .i64 3, .int .i64 x2, .int .i64 x3, .int .i64 0, .string (⟨#[]⟩ : ByteArray)] (0, 0) _ rfl (by (with_reducible repeat (first | refine blk_drewN ?_ _ | refine blk_alloc ?_ _)); with_reducible refine cr_set5 ?_; repeat (with_reducible first | exact HZ.out | exact blk_new _ _ | refine cr_fr ?_ (by omega) _ | refine blk_drewN ?_ _ | refine blk_alloc ?_ _)) hu rfl (by kernel_rfl)) rfl ?_; exact ⟨by first | rfl | (simp; done) | (simp [*]; done), by repeat (with_reducible first | exact HB2.out | exact Below.refl _ _ | apply below_alloc | apply pw_below_drewN | refine below_set ?_ (by omega))⟩
          · rw [if_neg e3] at h
            have e3b : (x1 == 3) = false := beq_eq_false_iff_ne.mpr e3
            clear e3
            by_cases e2 : x1 = 2
            · subst e2
              simp only [↓reduceIte] at h
              replace h := Option.bind_eq_some_iff.1 h; obtain ⟨⟨x3, p3, ok3⟩, hA, h⟩ := h
              simp only at h
              have HA3 := Aside0.mk hA
              clear hA
              cases ok3
              · simp only [Bool.false_eq_true, ↓reduceIte, Option.some.injEq, Prod.mk.injEq] at h
                obtain ⟨rfl, rfl, rfl, rfl, rfl, rfl, rfl⟩ := h
                go_enter Try.func58, Try.ntmps58
                go_wp2_with (first | (go_at_call 70; with_reducible refine (spec_GetNum.calls k A0 c0 l0 a1 2 p1 true _ (Kd.C_below HR.out (by repeat (with_reducible first | exact Below.refl _ _ | apply below_alloc | apply pw_below_drewN | refine below_set ?_ (by omega)))) HC.out HA1.out).mono ?_; rintro e w' ⟨rfl, ⟨nd1, rfl⟩⟩) | (go_at_call 70; with_reducible refine (spec_GetNum.calls k A0 c0 l0 p1 x2 p2 true _ (Kd.C_below HR.out (by repeat (with_reducible first | exact Below.refl _ _ | apply below_alloc | apply pw_below_drewN | refine below_set ?_ (by omega)))) HC.out HA2.out).mono ?_; rintro e w' ⟨rfl, ⟨nd2, rfl⟩⟩) | (go_at_call 70; with_reducible refine (spec_GetNum.calls k A0 c0 l0 p2 x3 p3 false _ (Kd.C_below HR.out (by repeat (with_reducible first | exact Below.refl _ _ | apply below_alloc | apply pw_below_drewN | refine below_set ?_ (by omega)))) HC.out HA3.out).mono ?_; rintro e w' ⟨rfl, ⟨nd3, rfl⟩⟩) | (go_at_call 62; with_reducible refine (spec_l1In.calls 2 1 5 true _ HO.out).mono ?_; rintro e w' ⟨rfl, ⟨nd0, rfl⟩⟩))
                refine bodyPost_ret (results_ctt rfl _ _ w.heap.size 56 #[.int .i64 0, .int .i64 0, .int .i64 0, .int .i64 0, .string (⟨#[]⟩ : ByteArray)] (0, 0) _ rfl (by (with_reducible repeat (first | refine blk_drewN ?_ _ | refine blk_alloc ?_ _)); with_reducible refine cr_set5 ?_; repeat (with_reducible first | exact HZ.out | exact blk_new _ _ | refine cr_fr ?_ (by omega) _ | refine blk_drewN ?_ _ | refine blk_alloc ?_ _)) hu rfl (by kernel_rfl)) rfl ?_; exact ⟨by first | rfl | (simp; done) | (simp [*]; done), by repeat (with_reducible first | exact Below.refl _ _ | apply below_alloc | apply pw_below_drewN | refine below_set ?_ (by omega))⟩
              · simp only [↓reduceIte] at h
                by_cases e4 : wrap64 ((l0.length : Int) - p3) ≥ 32
                · rw [if_pos e4] at h
                  have e4b : decide (32 ≤ wrap64 ((l0.length : Int) - p3)) = true := decide_eq_true e4
                  clear e4
                  split at h
                  · rename_i hb
                    obtain ⟨b0, b2⟩ := hb
                    have hcap := HC.out
                    have hmx := Kd.C_max HR.out
                    have f1 : wrap64 (p3 + 32) = p3 + 32 := by unfold wrap64; omega
                    obtain ⟨i0, hi0, _, hsz, _⟩ := info_parts info5
                    obtain ⟨A2, hcut, hA2, hC2⟩ := print_mid_of (P := Try.prog) (Value.int .u8) 0 33 5 .i64 .i64 Try.underlying33 hi0 hsz A0 c0 l0 p3 (p3 + 32) b0 (by omega) b2 hcap
                    have hcv0 : ∀ W, Below w.heap.size w W → (convert 33 9 (.slice A2 ((p3 + 32).toNat - p3.toNat) (c0 - p3.toNat))).run Try.prog W = .ok (.string (strOfNums ((l0.take (p3 + 32).toNat).drop p3.toNat))) W := fun W hW =>
                      Kd.C_string Try.underlying33 Try.underlying5 Try.underlying9 (by
                        have h_ := Kd.C_of_reads (h1 := fun _ => rfl) (hA2 _ (Kd.reads_of_C (Kd.C_below HR.out hW)))
                        rw [show ((l0.take (p3 + 32).toNat).drop p3.toNat).length = (p3 + 32).toNat - p3.toNat from by rw [List.length_drop, List.length_take]; omega] at h_
                        exact h_)
                    rw [show ((l0.take (p3 + 32).toNat).drop p3.toNat).length = (p3 + 32).toNat - p3.toNat from by rw [List.length_drop, List.length_take]; omega] at hcut
                    have HCV := Aside0.mk hcv0
                    clear hA2 hC2 hi0 hsz b0 b2 hcap hmx hcv0
                    unfold crFin at h
                    simp only [↓reduceIte] at h
                    replace h := Option.bind_eq_some_iff.1 h; obtain ⟨o, hK, h⟩ := h
                    have HK := Aside0.mk hK
                    clear hK
                    cases o
                    · simp only [Bool.false_eq_true, ↓reduceIte, Option.some.injEq, Prod.mk.injEq] at h
                      obtain ⟨rfl, rfl, rfl, rfl, rfl, rfl, rfl⟩ := h
                      go_enter Try.func58, Try.ntmps58
                      go_wp2_with (first | (go_at_call 70; with_reducible refine (spec_GetNum.calls k A0 c0 l0 a1 2 p1 true _ (Kd.C_below HR.out (by repeat (with_reducible first | exact Below.refl _ _ | apply below_alloc | apply pw_below_drewN | refine below_set ?_ (by omega)))) HC.out HA1.out).mono ?_; rintro e w' ⟨rfl, ⟨nd1, rfl⟩⟩) | (go_at_call 70; with_reducible refine (spec_GetNum.calls k A0 c0 l0 p1 x2 p2 true _ (Kd.C_below HR.out (by repeat (with_reducible first | exact Below.refl _ _ | apply below_alloc | apply pw_below_drewN | refine below_set ?_ (by omega)))) HC.out HA2.out).mono ?_; rintro e w' ⟨rfl, ⟨nd2, rfl⟩⟩) | (go_at_call 70; with_reducible refine (spec_GetNum.calls k A0 c0 l0 p2 x3 p3 true _ (Kd.C_below HR.out (by repeat (with_reducible first | exact Below.refl _ _ | apply below_alloc | apply pw_below_drewN | refine below_set ?_ (by omega)))) HC.out HA3.out).mono ?_; rintro e w' ⟨rfl, ⟨nd3, rfl⟩⟩; have hcv := HCV.out (World.setCell (World.drewN (World.setCell (World.drewN (World.alloc (World.drewN (World.alloc (World.alloc w (.cells #[.int .i64 0, .int .i64 0, .int .i64 0, .int .i64 0, .string (⟨#[]⟩ : ByteArray)] 56 (0, 0))) (.cells #[.int .i64 0, .int .i64 0, .int .i64 0, .int .i64 0, .string (⟨#[]⟩ : ByteArray)] 56 (0, 0))) (nd1 + nd0)) (.cells #[.int .i64 2, .int .i64 0, .int .i64 0, .int .i64 0, .string (⟨#[]⟩ : ByteArray)] 56 (0, 0))) nd2) ⟨w.heap.size + 1 + 1, 1, none⟩ (.int .i64 x2)) nd3) ⟨w.heap.size + 1 + 1, 3, none⟩ (.int .i64 x3)) (by repeat (with_reducible first | exact Below.refl _ _ | apply below_alloc | apply pw_below_drewN | refine below_set ?_ (by omega)))) | (go_at_call 62; with_reducible refine (spec_l1In.calls 2 1 5 true _ HO.out).mono ?_; rintro e w' ⟨rfl, ⟨nd0, rfl⟩⟩) | (go_at_call 78; with_reducible refine (spec_CmdOk.calls k _ _ _ _ _ _ _ HK.out).mono ?_; rintro e w2 ⟨rfl, hb⟩; have hz := blk_below (g := w.heap.size) (o := .cells #[.int .i64 0, .int .i64 0, .int .i64 0, .int .i64 0, .string (⟨#[]⟩ : ByteArray)] 56 (0, 0)) (by repeat (with_reducible first | exact blk_new _ _ | refine cr_fr ?_ (by omega) _ | refine blk_drewN ?_ _ | refine blk_alloc ?_ _)) hb; have hy := blk_below (g := w.heap.size + 1) (o := .cells #[.int .i64 0, .int .i64 0, .int .i64 0, .int .i64 0, .string (⟨#[]⟩ : ByteArray)] 56 (0, 0)) (by repeat (with_reducible first | refine cr_fr ?_ (by omega) _ | refine blk_drewN ?_ _ | exact cr_at (by simp) | refine blk_drewN ?_ _ | refine blk_alloc ?_ _)) hb; have hx := blk_below (g := w.heap.size + 1 + 1) (o := .cells #[.int .i64 2, .int .i64 x2, .int .i64 0, .int .i64 x3, .string (strOfNums ((l0.take (p3 + 32).toNat).drop p3.toNat))] 56 (0, 0)) (by exact (blk_set (blk_set (blk_drewN (blk_set (blk_drewN (cr_at (by simp)) _) 1 _) _) 3 _) 4 _).trans rfl) hb; have HB2 : Aside0 (Below w.heap.size w w2) := ⟨below_step (by repeat (with_reducible first | exact Below.refl _ _ | apply below_alloc | apply pw_below_drewN | refine below_set ?_ (by omega))) hb⟩; have HZ := Aside0.mk hz; have y0 := (blk_cell hy 0).trans rfl; have x0_ := (blk_cell hx 0).trans rfl; have z0_ := (blk_cell hz 0).trans rfl; have y1 := (blk_cell hy 1).trans rfl; have x1_ := (blk_cell hx 1).trans rfl; have z1_ := (blk_cell hz 1).trans rfl; have y2 := (blk_cell hy 2).trans rfl; have x2_ := (blk_cell hx 2).trans rfl; have z2_ := (blk_cell hz 2).trans rfl; have y3 := (blk_cell hy 3).trans rfl; have x3_ := (blk_cell hx 3).trans rfl; have z3_ := (blk_cell hz 3).trans rfl; have y4 := (blk_cell hy 4).trans rfl; have x4_ := (blk_cell hx 4).trans rfl; have z4_ := (blk_cell hz 4).trans rfl; have hfz := fun (i_ : Nat) => blk_frozen hz i_; clear hb hz hy hx))
                      refine bodyPost_ret (results_ctt rfl _ _ w.heap.size 56 #[.int .i64 0, .int .i64 0, .int .i64 0, .int .i64 0, .string (⟨#[]⟩ : ByteArray)] (0, 0) _ rfl (by (with_reducible repeat (first | refine blk_drewN ?_ _ | refine blk_alloc ?_ _)); with_reducible refine cr_set5 ?_; repeat (with_reducible first | exact HZ.out | exact blk_new _ _ | refine cr_fr ?_ (by omega) _ | refine blk_drewN ?_ _ | refine blk_alloc ?_ _)) hu rfl (by kernel_rfl)) rfl ?_; exact ⟨by first | rfl | (simp; done) | (simp [*]; done), by repeat (with_reducible first | exact HB2.out | exact Below.refl _ _ | apply below_alloc | apply pw_below_drewN | refine below_set ?_ (by omega))⟩
                    · simp only [↓reduceIte, Option.some.injEq, Prod.mk.injEq] at h
                      obtain ⟨rfl, rfl, rfl, rfl, rfl, rfl, rfl⟩ := h
                      go_enter Try.func58, Try.ntmps58
                      go_wp2_with (first | (go_at_call 70; with_reducible refine (spec_GetNum.calls k A0 c0 l0 a1 2 p1 true _ (Kd.C_below HR.out (by repeat (with_reducible first | exact Below.refl _ _ | apply below_alloc | apply pw_below_drewN | refine below_set ?_ (by omega)))) HC.out HA1.out).mono ?_; rintro e w' ⟨rfl, ⟨nd1, rfl⟩⟩) | (go_at_call 70; with_reducible refine (spec_GetNum.calls k A0 c0 l0 p1 x2 p2 true _ (Kd.C_below HR.out (by repeat (with_reducible first | exact Below.refl _ _ | apply below_alloc | apply pw_below_drewN | refine below_set ?_ (by omega)))) HC.out HA2.out).mono ?_; rintro e w' ⟨rfl, ⟨nd2, rfl⟩⟩) | (go_at_call 70; with_reducible refine (spec_GetNum.calls k A0 c0 l0 p2 x3 p3 true _ (Kd.C_below HR.out (by repeat (with_reducible first | exact Below.refl _ _ | apply below_alloc | apply pw_below_drewN | refine below_set ?_ (by omega)))) HC.out HA3.out).mono ?_; rintro e w' ⟨rfl, ⟨nd3, rfl⟩⟩; have hcv := HCV.out (World.setCell (World.drewN (World.setCell (World.drewN (World.alloc (World.drewN (World.alloc (World.alloc w (.cells #[.int .i64 0, .int .i64 0, .int .i64 0, .int .i64 0, .string (⟨#[]⟩ : ByteArray)] 56 (0, 0))) (.cells #[.int .i64 0, .int .i64 0, .int .i64 0, .int .i64 0, .string (⟨#[]⟩ : ByteArray)] 56 (0, 0))) (nd1 + nd0)) (.cells #[.int .i64 2, .int .i64 0, .int .i64 0, .int .i64 0, .string (⟨#[]⟩ : ByteArray)] 56 (0, 0))) nd2) ⟨w.heap.size + 1 + 1, 1, none⟩ (.int .i64 x2)) nd3) ⟨w.heap.size + 1 + 1, 3, none⟩ (.int .i64 x3)) (by repeat (with_reducible first | exact Below.refl _ _ | apply below_alloc | apply pw_below_drewN | refine below_set ?_ (by omega)))) | (go_at_call 62; with_reducible refine (spec_l1In.calls 2 1 5 true _ HO.out).mono ?_; rintro e w' ⟨rfl, ⟨nd0, rfl⟩⟩) | (go_at_call 78; with_reducible refine (spec_CmdOk.calls k _ _ _ _ _ _ _ HK.out).mono ?_; rintro e w2 ⟨rfl, hb⟩; have hz := blk_below (g := w.heap.size) (o := .cells #[.int .i64 0, .int .i64 0, .int .i64 0, .int .i64 0, .string (⟨#[]⟩ : ByteArray)] 56 (0, 0)) (by repeat (with_reducible first | exact blk_new _ _ | refine cr_fr ?_ (by omega) _ | refine blk_drewN ?_ _ | refine blk_alloc ?_ _)) hb; have hy := blk_below (g := w.heap.size + 1) (o := .cells #[.int .i64 0, .int .i64 0, .int .i64 0, .int .i64 0, .string (⟨#[]⟩ : ByteArray)] 56 (0, 0)) (by repeat (with_reducible first | refine cr_fr ?_ (by omega) _ | refine blk_drewN ?_ _ | exact cr_at (by simp) | refine blk_drewN ?_ _ | refine blk_alloc ?_ _)) hb; have hx := blk_below (g := w.heap.size + 1 + 1) (o := .cells #[.int .i64 2, .int .i64 x2, .int .i64 0, .int .i64 x3, .string (strOfNums ((l0.take (p3 + 32).toNat).drop p3.toNat))] 56 (0, 0)) (by exact (blk_set (blk_set (blk_drewN (blk_set (blk_drewN (cr_at (by simp)) _) 1 _) _) 3 _) 4 _).trans rfl) hb; have HB2 : Aside0 (Below w.heap.size w w2) := ⟨below_step (by repeat (with_reducible first | exact Below.refl _ _ | apply below_alloc | apply pw_below_drewN | refine below_set ?_ (by omega))) hb⟩; have HZ := Aside0.mk hz; have y0 := (blk_cell hy 0).trans rfl; have x0_ := (blk_cell hx 0).trans rfl; have z0_ := (blk_cell hz 0).trans rfl; have y1 := (blk_cell hy 1).trans rfl; have x1_ := (blk_cell hx 1).trans rfl; have z1_ := (blk_cell hz 1).trans rfl; have y2 := (blk_cell hy 2).trans rfl; have x2_ := (blk_cell hx 2).trans rfl; have z2_ := (blk_cell hz 2).trans rfl; have y3 := (blk_cell hy 3).trans rfl; have x3_ := (blk_cell hx 3).trans rfl; have z3_ := (blk_cell hz 3).trans rfl; have y4 := (blk_cell hy 4).trans rfl; have x4_ := (blk_cell hx 4).trans rfl; have z4_ := (blk_cell hz 4).trans rfl; have hfz := fun (i_ : Nat) => blk_frozen hz i_; clear hb hz hy hx))
                      refine bodyPost_ret (results_ctt rfl _ _ w.heap.size 56 #[.int .i64 2, .int .i64 x2, .int .i64 0, .int .i64 x3, .string (strOfNums ((l0.take (p3 + 32).toNat).drop p3.toNat))] (0, 0) _ rfl (by (with_reducible repeat (first | refine blk_drewN ?_ _ | refine blk_alloc ?_ _)); with_reducible refine cr_set5 ?_; repeat (with_reducible first | exact HZ.out | exact blk_new _ _ | refine cr_fr ?_ (by omega) _ | refine blk_drewN ?_ _ | refine blk_alloc ?_ _)) hu rfl (by kernel_rfl)) rfl ?_; exact ⟨by first | rfl | (simp; done) | (simp [*]; done), by repeat (with_reducible first | exact HB2.out | exact Below.refl _ _ | apply below_alloc | apply pw_below_drewN | refine below_set ?_ (by omega))⟩
                  · exact absurd h (by simp)
                · rw [if_neg e4] at h
                  have e4b : decide (32 ≤ wrap64 ((l0.length : Int) - p3)) = false := decide_eq_false e4
                  clear e4
                  unfold crFin at h
                  simp only [↓reduceIte] at h
                  replace h := Option.bind_eq_some_iff.1 h; obtain ⟨o, hK, h⟩ := h
                  have HK := Aside0.mk hK
                  clear hK
                  cases o
                  · simp only [Bool.false_eq_true, ↓reduceIte, Option.some.injEq, Prod.mk.injEq] at h
                    obtain ⟨rfl, rfl, rfl, rfl, rfl, rfl, rfl⟩ := h
                    go_enter Try.func58, Try.ntmps58
                    go_wp2_with (first | (go_at_call 70; with_reducible refine (spec_GetNum.calls k A0 c0 l0 a1 2 p1 true _ (Kd.C_below HR.out (by repeat (with_reducible first | exact Below.refl _ _ | apply below_alloc | apply pw_below_drewN | refine below_set ?_ (by omega)))) HC.out HA1.out).mono ?_; rintro e w' ⟨rfl, ⟨nd1, rfl⟩⟩) | (go_at_call 70; with_reducible refine (spec_GetNum.calls k A0 c0 l0 p1 x2 p2 true _ (Kd.C_below HR.out (by repeat (with_reducible first | exact Below.refl _ _ | apply below_alloc | apply pw_below_drewN | refine below_set ?_ (by omega)))) HC.out HA2.out).mono ?_; rintro e w' ⟨rfl, ⟨nd2, rfl⟩⟩) | (go_at_call 70; with_reducible refine (spec_GetNum.calls k A0 c0 l0 p2 x3 p3 true _ (Kd.C_below HR.out (by repeat (with_reducible first | exact Below.refl _ _ | apply below_alloc | apply pw_below_drewN | refine below_set ?_ (by omega)))) HC.out HA3.out).mono ?_; rintro e w' ⟨rfl, ⟨nd3, rfl⟩⟩) | (go_at_call 62; with_reducible refine (spec_l1In.calls 2 1 5 true _ HO.out).mono ?_; rintro e w' ⟨rfl, ⟨nd0, rfl⟩⟩) | (go_at_call 78; with_reducible refine (spec_CmdOk.calls k _ _ _ _ _ _ _ HK.out).mono ?_; rintro e w2 ⟨rfl, hb⟩; have hz := blk_below (g := w.heap.size) (o := .cells #[.int .i64 0, .int .i64 0, .int .i64 0, .int .i64 0, .string (⟨#[]⟩ : ByteArray)] 56 (0, 0)) (by repeat (with_reducible first | exact blk_new _ _ | refine cr_fr ?_ (by omega) _ | refine blk_drewN ?_ _ | refine blk_alloc ?_ _)) hb; have hy := blk_below (g := w.heap.size + 1) (o := .cells #[.int .i64 0, .int .i64 0, .int .i64 0, .int .i64 0, .string (⟨#[]⟩ : ByteArray)] 56 (0, 0)) (by repeat (with_reducible first | refine cr_fr ?_ (by omega) _ | refine blk_drewN ?_ _ | exact cr_at (by simp) | refine blk_drewN ?_ _ | refine blk_alloc ?_ _)) hb; have hx := blk_below (g := w.heap.size + 1 + 1) (o := .cells #[.int .i64 2, .int .i64 x2, .int .i64 0, .int .i64 x3, .string (⟨#[]⟩ : ByteArray)] 56 (0, 0)) (by exact (blk_set (blk_drewN (blk_set (blk_drewN (cr_at (by simp)) _) 1 _) _) 3 _).trans rfl) hb; have HB2 : Aside0 (Below w.heap.size w w2) := ⟨below_step (by repeat (with_reducible first | exact Below.refl _ _ | apply below_alloc | apply pw_below_drewN | refine below_set ?_ (by omega))) hb⟩; have HZ := Aside0.mk hz; have y0 := (blk_cell hy 0).trans rfl; have x0_ := (blk_cell hx 0).trans rfl; have z0_ := (blk_cell hz 0).trans rfl; have y1 := (blk_cell hy 1).trans rfl; have x1_ := (blk_cell hx 1).trans rfl; have z1_ := (blk_cell hz 1).trans rfl; have y2 := (blk_cell hy 2).trans rfl; have x2_ := (blk_cell hx 2).trans rfl; have z2_ := (blk_cell hz 2).trans rfl; have y3 := (blk_cell hy 3).trans rfl; have x3_ := (blk_cell hx 3).trans rfl; have z3_ := (blk_cell hz 3).trans rfl; have y4 := (blk_cell hy 4).trans rfl; have x4_ := (blk_cell hx 4).trans rfl; have z4_ := (blk_cell hz 4).trans rfl; have hfz := fun (i_ : Nat) => blk_frozen hz i_; clear hb hz hy hx))
                    refine bodyPost_ret (results_ctt rfl _ _ w.heap.size 56 #[.int .i64 0, .int .i64 0, .int .i64 0, .int .i64 0, .string (⟨#[]⟩ : ByteArray)] (0, 0) _ rfl (by (with_reducible repeat (first | refine blk_drewN ?_ _ | refine blk_alloc ?_ _)); with_reducible refine cr_set5 ?_; repeat (with_reducible first | exact HZ.out | exact blk_new _ _ | refine cr_fr ?_ (by omega) _ | refine blk_drewN ?_ _ | refine blk_alloc ?_ _)) hu rfl (by kernel_rfl)) rfl ?_; exact ⟨by first | rfl | (simp; done) | (simp [*]; done), by repeat (with_reducible first | exact HB2.out | exact Below.refl _ _ | apply below_alloc | apply pw_below_drewN | refine below_set ?_ (by omega))⟩
                  · simp only [↓reduceIte, Option.some.injEq, Prod.mk.injEq] at h
                    obtain ⟨rfl, rfl, rfl, rfl, rfl, rfl, rfl⟩ := h
                    go_enter Try.func58, Try.ntmps58
                    go_wp2_with (first | (go_at_call 70; with_reducible refine (spec_GetNum.calls k A0 c0 l0 a1 2 p1 true _ (Kd.C_below HR.out (by repeat (with_reducible first | exact Below.refl _ _ | apply below_alloc | apply pw_below_drewN | refine below_set ?_ (by omega)))) HC.out HA1.out).mono ?_; rintro e w' ⟨rfl, ⟨nd1, rfl⟩⟩) | (go_at_call 70; with_reducible refine (spec_GetNum.calls k A0 c0 l0 p1 x2 p2 true _ (Kd.C_below HR.out (by repeat (with_reducible first | exact Below.refl _ _ | apply below_alloc | apply pw_below_drewN | refine below_set ?_ (by omega)))) HC.out HA2.out).mono ?_; rintro e w' ⟨rfl, ⟨nd2, rfl⟩⟩) | (go_at_call 70; with_reducible refine (spec_GetNum.calls k A0 c0 l0 p2 x3 p3 true _ (Kd.C_below HR.out (by repeat (with_reducible first | exact Below.refl _ _ | apply below_alloc | apply pw_below_drewN | refine below_set ?_ (by omega)))) HC.out HA3.out).mono ?_; rintro e w' ⟨rfl, ⟨nd3, rfl⟩⟩) | (go_at_call 62; with_reducible refine (spec_l1In.calls 2 1 5 true _ HO.out).mono ?_; rintro e w' ⟨rfl, ⟨nd0, rfl⟩⟩) | (go_at_call 78; with_reducible refine (spec_CmdOk.calls k _ _ _ _ _ _ _ HK.out).mono ?_; rintro e w2 ⟨rfl, hb⟩; have hz := blk_below (g := w.heap.size) (o := .cells #[.int .i64 0, .int .i64 0, .int .i64 0, .int .i64 0, .string (⟨#[]⟩ : ByteArray)] 56 (0, 0)) (by repeat (with_reducible first | exact blk_new _ _ | refine cr_fr ?_ (by omega) _ | refine blk_drewN ?_ _ | refine blk_alloc ?_ _)) hb; have hy := blk_below (g := w.heap.size + 1) (o := .cells #[.int .i64 0, .int .i64 0, .int .i64 0, .int .i64 0, .string (⟨#[]⟩ : ByteArray)] 56 (0, 0)) (by repeat (with_reducible first | refine cr_fr ?_ (by omega) _ | refine blk_drewN ?_ _ | exact cr_at (by simp) | refine blk_drewN ?_ _ | refine blk_alloc ?_ _)) hb; have hx := blk_below (g := w.heap.size + 1 + 1) (o := .cells #[.int .i64 2, .int .i64 x2, .int .i64 0, .int .i64 x3, .string (⟨#[]⟩ : ByteArray)] 56 (0, 0)) (by exact (blk_set (blk_drewN (blk_set (blk_drewN (cr_at (by simp)) _) 1 _) _) 3 _).trans rfl) hb; have HB2 : Aside0 (Below w.heap.size w w2) := ⟨below_step (by repeat (with_reducible first | exact Below.refl _ _ | apply below_alloc | apply pw_below_drewN | refine below_set ?_ (by omega))) hb⟩; have HZ := Aside0.mk hz; have y0 := (blk_cell hy 0).trans rfl; have x0_ := (blk_cell hx 0).trans rfl; have z0_ := (blk_cell hz 0).trans rfl; have y1 := (blk_cell hy 1).trans rfl; have x1_ := (blk_cell hx 1).trans rfl; have z1_ := (blk_cell hz 1).trans rfl; have y2 := (blk_cell hy 2).trans rfl; have x2_ := (blk_cell hx 2).trans rfl; have z2_ := (blk_cell hz 2).trans rfl; have y3 := (blk_cell hy 3).trans rfl; have x3_ := (blk_cell hx 3).trans rfl; have z3_ := (blk_cell hz 3).trans rfl; have y4 := (blk_cell hy 4).trans rfl; have x4_ := (blk_cell hx 4).trans rfl; have z4_ := (blk_cell hz 4).trans rfl; have hfz := fun (i_ : Nat) => blk_frozen hz i_; clear hb hz hy hx))
                    refine bodyPost_ret (results_ctt rfl _ _ w.heap.size 56 #[.int .i64 2, .int .i64 x2, .int .i64 0, .int .i64 x3, .string (⟨#[]⟩ : ByteArray)] (0, 0) _ rfl (by (with_reducible repeat (first | refine blk_drewN ?_ _ | refine blk_alloc ?_ _)); with_reducible refine cr_set5 ?_; repeat (with_reducible first | exact HZ.out | exact blk_new _ _ | refine cr_fr ?_ (by omega) _ | refine blk_drewN ?_ _ | refine blk_alloc ?_ _)) hu rfl (by kernel_rfl)) rfl ?_; exact ⟨by first | rfl | (simp; done) | (simp [*]; done), by repeat (with_reducible first | exact HB2.out | exact Below.refl _ _ | apply below_alloc | apply pw_below_drewN | refine below_set ?_ (by omega))⟩
            · rw [if_neg e2] at h
              have e2b : (x1 == 2) = false := beq_eq_false_iff_ne.mpr e2
              clear e2
              unfold crFin at h
              simp only [↓reduceIte] at h
              replace h := Option.bind_eq_some_iff.1 h; obtain ⟨o, hK, h⟩ := h
              have HK := Aside0.mk hK
              clear hK
              cases o
              · simp only [Bool.false_eq_true, ↓reduceIte, Option.some.injEq, Prod.mk.injEq] at h
                obtain ⟨rfl, rfl, rfl, rfl, rfl, rfl, rfl⟩ := h
                go_enter Try.func58, Try.ntmps58
                go_wp2_with (first | (go_at_call 70; with_reducible refine (spec_GetNum.calls k A0 c0 l0 a1 x1 p1 true _ (Kd.C_below HR.out (by repeat (with_reducible first | exact Below.refl _ _ | apply below_alloc | apply pw_below_drewN | refine below_set ?_ (by omega)))) HC.out HA1.out).mono ?_; rintro e w' ⟨rfl, ⟨nd1, rfl⟩⟩) | (go_at_call 70; with_reducible refine (spec_GetNum.calls k A0 c0 l0 p1 x2 p2 true _ (Kd.C_below HR.out (by repeat (with_reducible first | exact Below.refl _ _ | apply below_alloc | apply pw_below_drewN | refine below_set ?_ (by omega)))) HC.out HA2.out).mono ?_; rintro e w' ⟨rfl, ⟨nd2, rfl⟩⟩) | (go_at_call 62; with_reducible refine (spec_l1In.calls x1 1 5 true _ HO.out).mono ?_; rintro e w' ⟨rfl, ⟨nd0, rfl⟩⟩) | (go_at_call 78; with_reducible refine (spec_CmdOk.calls k _ _ _ _ _ _ _ HK.out).mono ?_; rintro e w2 ⟨rfl, hb⟩; have hz := blk_below (g := w.heap.size) (o := .cells #[.int .i64 0, .int .i64 0, .int .i64 0, .int .i64 0, .string (⟨#[]⟩ : ByteArray)] 56 (0, 0)) (by repeat (with_reducible first | exact blk_new _ _ | refine cr_fr ?_ (by omega) _ | refine blk_drewN ?_ _ | refine blk_alloc ?_ _)) hb; have hy := blk_below (g := w.heap.size + 1) (o := .cells #[.int .i64 0, .int .i64 0, .int .i64 0, .int .i64 0, .string (⟨#[]⟩ : ByteArray)] 56 (0, 0)) (by repeat (with_reducible first | refine cr_fr ?_ (by omega) _ | refine blk_drewN ?_ _ | exact cr_at (by simp) | refine blk_drewN ?_ _ | refine blk_alloc ?_ _)) hb; have hx := blk_below (g := w.heap.size + 1 + 1) (o := .cells #[.int .i64 x1, .int .i64 x2, .int .i64 0, .int .i64 0, .string (⟨#[]⟩ : ByteArray)] 56 (0, 0)) (by exact (blk_set (blk_drewN (cr_at (by simp)) _) 1 _).trans rfl) hb; have HB2 : Aside0 (Below w.heap.size w w2) := ⟨below_step (by repeat (with_reducible first | exact Below.refl _ _ | apply below_alloc | apply pw_below_drewN | refine below_set ?_ (by omega))) hb⟩; have HZ := Aside0.mk hz; have y0 := (blk_cell hy 0).trans rfl; have x0_ := (blk_cell hx 0).trans rfl; have z0_ := (blk_cell hz 0).trans rfl; have y1 := (blk_cell hy 1).trans rfl; have x1_ := (blk_cell hx 1).trans rfl; have z1_ := (blk_cell hz 1).trans rfl; have y2 := (blk_cell hy 2).trans rfl; have x2_ := (blk_cell hx 2).trans rfl; have z2_ := (blk_cell hz 2).trans rfl; have y3 := (blk_cell hy 3).trans rfl; have x3_ := (blk_cell hx 3).trans rfl; have z3_ := (blk_cell hz 3).trans rfl; have y4 := (blk_cell hy 4).trans rfl; have x4_ := (blk_cell hx 4).trans rfl; have z4_ := (blk_cell hz 4).trans rfl; have hfz := fun (i_ : Nat) => blk_frozen hz i_; clear hb hz hy hx))
                refine bodyPost_ret (results_ctt rfl _ _ w.heap.size 56 #[.int .i64 0, .int .i64 0, .int .i64 0, .int .i64 0, .string (⟨#[]⟩ : ByteArray)] (0, 0) _ rfl (by (with_reducible repeat (first | refine blk_drewN ?_ _ | refine blk_alloc ?_ _)); with_reducible refine cr_set5 ?_; repeat (with_reducible first | exact HZ.out | exact blk_new _ _ | refine cr_fr ?_ (by omega) _ | refine blk_drewN ?_ _ | refine blk_alloc ?_ _)) hu rfl (by kernel_rfl)) rfl ?_; exact ⟨by first | rfl | (simp; done) | (simp [*]; done), by repeat (with_reducible first | exact HB2.out | exact Below.refl _ _ | apply below_alloc | apply pw_below_drewN | refine below_set ?_ (by omega))⟩
              · simp only [↓reduceIte, Option.some.injEq, Prod.mk.injEq] at h
                obtain ⟨rfl, rfl, rfl, rfl, rfl, rfl, rfl⟩ := h
                go_enter Try.func58, Try.ntmps58
                go_wp2_with (first | (go_at_call 70; with_reducible refine (spec_GetNum.calls k A0 c0 l0 a1 x1 p1 true _ (Kd.C_below HR.out (by repeat (with_reducible first | exact Below.refl _ _ | apply below_alloc | apply pw_below_drewN | refine below_set ?_ (by omega)))) HC.out HA1.out).mono ?_; rintro e w' ⟨rfl, ⟨nd1, rfl⟩⟩) | (go_at_call 70; with_reducible refine (spec_GetNum.calls k A0 c0 l0 p1 x2 p2 true _ (Kd.C_below HR.out (by repeat (with_reducible first | exact Below.refl _ _ | apply below_alloc | apply pw_below_drewN | refine below_set ?_ (by omega)))) HC.out HA2.out).mono ?_; rintro e w' ⟨rfl, ⟨nd2, rfl⟩⟩) | (go_at_call 62; with_reducible refine (spec_l1In.calls x1 1 5 true _ HO.out).mono ?_; rintro e w' ⟨rfl, ⟨nd0, rfl⟩⟩) | (go_at_call 78; with_reducible refine (spec_CmdOk.calls k _ _ _ _ _ _ _ HK.out).mono ?_; rintro e w2 ⟨rfl, hb⟩; have hz := blk_below (g := w.heap.size) (o := .cells #[.int .i64 0, .int .i64 0, .int .i64 0, .int .i64 0, .string (⟨#[]⟩ : ByteArray)] 56 (0, 0)) (by repeat (with_reducible first | exact blk_new _ _ | refine cr_fr ?_ (by omega) _ | refine blk_drewN ?_ _ | refine blk_alloc ?_ _)) hb; have hy := blk_below (g := w.heap.size + 1) (o := .cells #[.int .i64 0, .int .i64 0, .int .i64 0, .int .i64 0, .string (⟨#[]⟩ : ByteArray)] 56 (0, 0)) (by repeat (with_reducible first | refine cr_fr ?_ (by omega) _ | refine blk_drewN ?_ _ | exact cr_at (by simp) | refine blk_drewN ?_ _ | refine blk_alloc ?_ _)) hb; have hx := blk_below (g := w.heap.size + 1 + 1) (o := .cells #[.int .i64 x1, .int .i64 x2, .int .i64 0, .int .i64 0, .string (⟨#[]⟩ : ByteArray)] 56 (0, 0)) (by exact (blk_set (blk_drewN (cr_at (by simp)) _) 1 _).trans rfl) hb; have HB2 : Aside0 (Below w.heap.size w w2) := ⟨below_step (by repeat (with_reducible first | exact Below.refl _ _ | apply below_alloc | apply pw_below_drewN | refine below_set ?_ (by omega))) hb⟩; have HZ := Aside0.mk hz; have y0 := (blk_cell hy 0).trans rfl; have x0_ := (blk_cell hx 0).trans rfl; have z0_ := (blk_cell hz 0).trans rfl; have y1 := (blk_cell hy 1).trans rfl; have x1_ := (blk_cell hx 1).trans rfl; have z1_ := (blk_cell hz 1).trans rfl; have y2 := (blk_cell hy 2).trans rfl; have x2_ := (blk_cell hx 2).trans rfl; have z2_ := (blk_cell hz 2).trans rfl; have y3 := (blk_cell hy 3).trans rfl; have x3_ := (blk_cell hx 3).trans rfl; have z3_ := (blk_cell hz 3).trans rfl; have y4 := (blk_cell hy 4).trans rfl; have x4_ := (blk_cell hx 4).trans rfl; have z4_ := (blk_cell hz 4).trans rfl; have hfz := fun (i_ : Nat) => blk_frozen hz i_; clear hb hz hy hx))
                refine bodyPost_ret (results_ctt rfl _ _ w.heap.size 56 #[.int .i64 x1, .int .i64 x2, .int .i64 0, .int .i64 0, .string (⟨#[]⟩ : ByteArray)] (0, 0) _ rfl (by (with_reducible repeat (first | refine blk_drewN ?_ _ | refine blk_alloc ?_ _)); with_reducible refine cr_set5 ?_; repeat (with_reducible first | exact HZ.out | exact blk_new _ _ | refine cr_fr ?_ (by omega) _ | refine blk_drewN ?_ _ | refine blk_alloc ?_ _)) hu rfl (by kernel_rfl)) rfl ?_; exact ⟨by first | rfl | (simp; done) | (simp [*]; done), by repeat (with_reducible first | exact HB2.out | exact Below.refl _ _ | apply below_alloc | apply pw_below_drewN | refine below_set ?_ (by omega))⟩


/-! ### impl_within: function 67 -/
def impl_within.f (a0 : Int) (a1 : Int) (a2 : Int) : Option (Bool) := if a0 ≥ a1 then (some (decide (a0 ≤ a2))) else (some false)
set_option maxHeartbeats 8000000 in
set_option maxRecDepth 100000 in
theorem impl_within.calls (a0 : Int) (a1 : Int) (a2 : Int) (r : Bool) (w : World) (h : impl_within.f a0 a1 a2 = some r) :
 Calls Try.prog 67 #[.int .i64 a0, .int .i64 a1, .int .i64 a2] w fun e w' => e = .returned (.bool r) ∧ Drawn0 w w' := by
 have H : (if a0 ≥ a1 then (some (decide (a0 ≤ a2))) else (some false)) = some r := h
 clear h
 by_cases c4 : a0 ≥ a1
 ·rw [if_pos c4] at H
  have c4b0 : decide (a1 ≤ a0) = true := decide_eq_true c4
  clear c4
  obtain rfl := Option.some.inj H
  go_enter Try.func67, Try.ntmps67
  go_wp2
  go_ret
  exact ⟨by first | rfl | (simp; done) | (simp [*]; done), by repeat (first | exact Drawn0.refl _ | apply Drawn0.step)⟩
 ·rw [if_neg c4] at H
  have c4b0 : decide (a1 ≤ a0) = false := decide_eq_false c4
  clear c4
  obtain rfl := Option.some.inj H
  go_enter Try.func67, Try.ntmps67
  go_wp2
  go_ret
  exact ⟨by first | rfl | (simp; done) | (simp [*]; done), by repeat (first | exact Drawn0.refl _ | apply Drawn0.step)⟩

/-! ### impl_isRelease: function 115 -/
def impl_isRelease.f (a0 : Int) : Option (Bool) := (impl_within.f a0 1 1000).bind fun t115 => (some t115)
set_option maxHeartbeats 8000000 in
set_option maxRecDepth 100000 in
theorem impl_isRelease.calls (a0 : Int) (r : Bool) (w : World) (h : impl_isRelease.f a0 = some r) :
 Calls Try.prog 115 #[.int .i64 a0] w fun e w' => e = .returned (.bool r) ∧ Drawn0 w w' := by
 have H : ((impl_within.f a0 1 1000).bind fun t115 => (some t115)) = some r := h
 clear h
 replace H := Option.bind_eq_some_iff.mp H
 obtain ⟨t115, A20, H⟩ := H
 replace H : (some t115) = some r := H
 have A2 := Aside0.mk A20
 clear A20
 obtain rfl := Option.some.inj H
 go_enter Try.func115, Try.ntmps115
 go_wp2_with (first | ((with_reducible refine gate_callee (f := 67) rfl ?_); refine goesL_ (some 4) rfl rfl Try.func67 (by kernel_rfl) rfl #[.int .i64 a0, .int .i64 1, .int .i64 1000] rfl (by (try simp only [List.map_toArray, List.map_cons, List.map_nil]); first | done | rfl | (simp only [List.length_drop, List.length_take]; rfl)) ?_; (with_reducible refine (impl_within.calls a0 1 1000 t115 _ A2.out).mono ?_); rintro e w' ⟨rfl, ⟨nd, rfl⟩⟩; refine ⟨_, rfl, ?_⟩))
 go_ret
 exact ⟨by first | rfl | (simp; done) | (simp [*]; done), by repeat (first | exact Drawn0.refl _ | apply Drawn0.step)⟩

/-! ### impl_isSize: function 116 -/
def impl_isSize.f (a0 : Int) : Option (Bool) := (impl_within.f a0 0 1000).bind fun t116 => (some t116)
set_option maxHeartbeats 8000000 in
set_option maxRecDepth 100000 in
theorem impl_isSize.calls (a0 : Int) (r : Bool) (w : World) (h : impl_isSize.f a0 = some r) :
 Calls Try.prog 116 #[.int .i64 a0] w fun e w' => e = .returned (.bool r) ∧ Drawn0 w w' := by
 have H : ((impl_within.f a0 0 1000).bind fun t116 => (some t116)) = some r := h
 clear h
 replace H := Option.bind_eq_some_iff.mp H
 obtain ⟨t116, A20, H⟩ := H
 replace H : (some t116) = some r := H
 have A2 := Aside0.mk A20
 clear A20
 obtain rfl := Option.some.inj H
 go_enter Try.func116, Try.ntmps116
 go_wp2_with (first | ((with_reducible refine gate_callee (f := 67) rfl ?_); refine goesL_ (some 4) rfl rfl Try.func67 (by kernel_rfl) rfl #[.int .i64 a0, .int .i64 0, .int .i64 1000] rfl (by (try simp only [List.map_toArray, List.map_cons, List.map_nil]); first | done | rfl | (simp only [List.length_drop, List.length_take]; rfl)) ?_; (with_reducible refine (impl_within.calls a0 0 1000 t116 _ A2.out).mono ?_); rintro e w' ⟨rfl, ⟨nd, rfl⟩⟩; refine ⟨_, rfl, ?_⟩))
 go_ret
 exact ⟨by first | rfl | (simp; done) | (simp [*]; done), by repeat (first | exact Drawn0.refl _ | apply Drawn0.step)⟩

/-! ### impl_isNode: function 117 -/
def impl_isNode.f (a0 : Int) : Option (Bool) := (impl_within.f a0 0 4).bind fun t117 => (some t117)
set_option maxHeartbeats 8000000 in
set_option maxRecDepth 100000 in
theorem impl_isNode.calls (a0 : Int) (r : Bool) (w : World) (h : impl_isNode.f a0 = some r) :
 Calls Try.prog 117 #[.int .i64 a0] w fun e w' => e = .returned (.bool r) ∧ Drawn0 w w' := by
 have H : ((impl_within.f a0 0 4).bind fun t117 => (some t117)) = some r := h
 clear h
 replace H := Option.bind_eq_some_iff.mp H
 obtain ⟨t117, A20, H⟩ := H
 replace H : (some t117) = some r := H
 have A2 := Aside0.mk A20
 clear A20
 obtain rfl := Option.some.inj H
 go_enter Try.func117, Try.ntmps117
 go_wp2_with (first | ((with_reducible refine gate_callee (f := 67) rfl ?_); refine goesL_ (some 4) rfl rfl Try.func67 (by kernel_rfl) rfl #[.int .i64 a0, .int .i64 0, .int .i64 4] rfl (by (try simp only [List.map_toArray, List.map_cons, List.map_nil]); first | done | rfl | (simp only [List.length_drop, List.length_take]; rfl)) ?_; (with_reducible refine (impl_within.calls a0 0 4 t117 _ A2.out).mono ?_); rintro e w' ⟨rfl, ⟨nd, rfl⟩⟩; refine ⟨_, rfl, ?_⟩))
 go_ret
 exact ⟨by first | rfl | (simp; done) | (simp [*]; done), by repeat (first | exact Drawn0.refl _ | apply Drawn0.step)⟩

end Go.Proofs.Ytpdhfphglahkbaa.QFnExactCmdRead
