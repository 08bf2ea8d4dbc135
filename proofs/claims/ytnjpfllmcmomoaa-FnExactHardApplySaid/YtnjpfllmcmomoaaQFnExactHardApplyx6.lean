-- A walk, by a program of this session.
import Derived.Test.YtnjpfllmcmomoaaQFnExactHardApplyx0
import Derived.Test.YtnjpfllmcmomoaaQFnExactHardApplyx1
import Derived.Test.YtnjpfllmcmomoaaQFnExactHardApplyx5
namespace Go.Proofs.Ytnjpfllmcmomoaa.QFnExactHardApply
open Go.RowKit Go.Proofs.YtnjpfllmcmomoaaW.PrintWords Go.Proofs.YtnjpfllmcmomoaaW.PrintLast Go.Proofs.YtnjpfllmcmomoaaW.PrintMore
attribute [local go_sem] max2_int min2_int max_two min_two max_three min_three max_four min_four   -- for this text's walks alone
set_option linter.unusedVariables false
set_option linter.unusedSimpArgs false

attribute [local go_sem high] eqA34
/-! ### spec_CmdOk: function 24 -/
def spec_CmdOk.j0 : Nat → Bool → Int → Int → Int → Int → ByteArray → Int → Int → Int → Int → ByteArray → Option (Bool)
 | 0, _, _, _, _, _, _, _, _, _, _, _ => none
 | k + 1, x22, x188000, x188001, x188002, x188003, x188004, x189000, x189001, x189002, x189003, x189004 => if x22 = true then (some false) else (if x188000 = 2 then ((spec_l1In.f x188003 0 1000).bind fun t191 => (if t191 = true then (if (x188004.size : Int) = 32 then (some (x188002 == 0)) else (some false)) else (some false))) else (if x188000 = 3 then ((spec_l1In.f x188002 0 4).bind fun t192 => (if t192 = true then (some (x188000 == x189000 && (x188003 == x189003 && (x188004.toList == x189004.toList)))) else (some false))) else (some (x188000 == x189000 && (x188002 == x189002 && (x188003 == x189003 && (x188004.toList == x189004.toList)))))))
def spec_CmdOk.f (k : Nat) (a0_0 : Int) (a0_1 : Int) (a0_2 : Int) (a0_3 : Int) (a0_4 : ByteArray) : Option (Bool) := if a0_0 = 1 then (some (a0_1 == 0 && (a0_2 == 0 && (a0_3 == 0 && (a0_4.toList == ([] : List UInt8)))))) else ((spec_l1In.f a0_0 2 5).bind fun t189 => (if t189 = true then ((spec_l1In.f a0_1 1 1000).bind fun t190 => (spec_CmdOk.j0 k (!t190) a0_0 a0_1 a0_2 a0_3 a0_4 a0_0 0 0 0 (⟨#[]⟩ : ByteArray))) else (spec_CmdOk.j0 k true a0_0 a0_1 a0_2 a0_3 a0_4 a0_0 0 0 0 (⟨#[]⟩ : ByteArray))))
set_option maxRecDepth 100000 in
theorem spec_CmdOk.mono_l : ∀ k, (∀ y0 y1 y2 y3 y4 y5 y6 y7 y8 y9 y10, LeO (spec_CmdOk.j0 k y0 y1 y2 y3 y4 y5 y6 y7 y8 y9 y10) (spec_CmdOk.j0 (k + 1) y0 y1 y2 y3 y4 y5 y6 y7 y8 y9 y10))
 | 0 => fun _ _ _ _ _ _ _ _ _ _ _ r h => by simp [spec_CmdOk.j0] at h
 | k + 1 => by
  have ih0 := spec_CmdOk.mono_l k
  ·intro y0 y1 y2 y3 y4 y5 y6 y7 y8 y9 y10
   unfold spec_CmdOk.j0
   repeat' first
   | (with_reducible exact ih0 _ _ _ _ _ _ _ _ _ _ _)
   | (with_reducible exact LeO.refl _)
   | (with_reducible exact LeO.none _)
   | (with_reducible refine LeO.ite ?_ ?_)
   | (with_reducible refine LeO.bind ?_ (fun _ => ?_))
   | exact ih0 _ _ _ _ _ _ _ _ _ _ _
   | exact LeO.none _
   | refine LeO.ite ?_ ?_
   | refine LeO.bind ?_ (fun _ => ?_)
theorem spec_CmdOk.mono : ∀ a0 a1 a2 a3 a4 k, LeO (spec_CmdOk.f k a0 a1 a2 a3 a4) (spec_CmdOk.f (k + 1) a0 a1 a2 a3 a4) := by
 intro a0 a1 a2 a3 a4 k
 have ih0 := spec_CmdOk.mono_l k
 unfold spec_CmdOk.f
 repeat' first
  | (with_reducible exact ih0 _ _ _ _ _ _ _ _ _ _ _)
  | (with_reducible exact LeO.refl _)
  | (with_reducible exact LeO.none _)
  | (with_reducible refine LeO.ite ?_ ?_)
  | (with_reducible refine LeO.bind ?_ (fun _ => ?_))
  | exact ih0 _ _ _ _ _ _ _ _ _ _ _
  | exact LeO.none _
  | refine LeO.ite ?_ ?_
  | refine LeO.bind ?_ (fun _ => ?_)
set_option maxHeartbeats 8000000 in
set_option maxRecDepth 100000 in
theorem spec_CmdOk.calls (k : Nat) (a0_0 : Int) (a0_1 : Int) (a0_2 : Int) (a0_3 : Int) (a0_4 : ByteArray) (r : Bool) (w : World) (h : spec_CmdOk.f k a0_0 a0_1 a0_2 a0_3 a0_4 = some r) :
 Calls Try.prog 24 #[.agg #[.int .i64 a0_0, .int .i64 a0_1, .int .i64 a0_2, .int .i64 a0_3, .string a0_4]] w fun e w' => e = .returned (.bool r) ∧ Below w.heap.size w w' := by
 have hu34 := Try.underlying34
 have HB := aM (Below.refl w.heap.size w)
 have H : (if a0_0 = 1 then (some (a0_1 == 0 && (a0_2 == 0 && (a0_3 == 0 && (a0_4.toList == ([] : List UInt8)))))) else ((spec_l1In.f a0_0 2 5).bind fun t189 => (if t189 = true then ((spec_l1In.f a0_1 1 1000).bind fun t190 => (spec_CmdOk.j0 k (!t190) a0_0 a0_1 a0_2 a0_3 a0_4 a0_0 0 0 0 (⟨#[]⟩ : ByteArray))) else (spec_CmdOk.j0 k true a0_0 a0_1 a0_2 a0_3 a0_4 a0_0 0 0 0 (⟨#[]⟩ : ByteArray))))) = some r := h
 clear h
 by_cases c2 : a0_0 = 1
 ·rw [if_pos c2] at H
  have c2b0 : (a0_0 == 1) = true := beq_iff_eq.mpr c2; have c2b1 : (a0_0 != 1) = false := bne_eq_false_iff_eq.mpr c2; clear c2
  obtain rfl := Option.some.inj H
  go_enter Try.func24, Try.ntmps24
  go_wp2_with (first | ((with_reducible refine gate_dst (N := 1) rfl ?_); (try (refine gate_guard (by rfl) ?_; dsimp only)); refine box_event ?hg (N := 1) ?hd (cs := #[.int .i64 a0_0, .int .i64 a0_1, .int .i64 a0_2, .int .i64 a0_3, .string a0_4]) (t := 34) ?hr ?_; (case hd => rfl); (case hg => rfl); (case hr => first | (go_simp; done) | (go_simp; rfl)); intro gb187 hg w3 hbox hb; have BK187 := aM (hbox); have GW187 := aM (xge hg); have GE187 := aM (xge hg); replace HB := xbs hb; clear hb hbox hg; have hcz4_0 : w3.cell? ⟨gb187, 0, none⟩ = some (.int .i64 a0_0) := xc BK187 0 rfl; have hcz4_1 : w3.cell? ⟨gb187, 1, none⟩ = some (.int .i64 a0_1) := xc BK187 1 rfl; have hcz4_2 : w3.cell? ⟨gb187, 2, none⟩ = some (.int .i64 a0_2) := xc BK187 2 rfl; have hcz4_3 : w3.cell? ⟨gb187, 3, none⟩ = some (.int .i64 a0_3) := xc BK187 3 rfl; have hcz4_4 : w3.cell? ⟨gb187, 4, none⟩ = some (.string a0_4) := xc BK187 4 rfl; have hfz4_0 := blk_frozen BK187.out 0; have hfz4_1 := blk_frozen BK187.out 1; have hfz4_2 := blk_frozen BK187.out 2; have hfz4_3 := blk_frozen BK187.out 3; have hfz4_4 := blk_frozen BK187.out 4) | ((with_reducible refine gate_dst (N := 3) rfl ?_); (try (refine gate_guard (by rfl) ?_; dsimp only)); refine box_event ?hg (N := 3) ?hd (cs := #[.int .i64 0, .int .i64 0, .int .i64 0, .int .i64 0, .string (⟨#[]⟩ : ByteArray)]) (t := 34) ?hr ?_; (case hd => rfl); (case hg => rfl); (case hr => first | (go_simp; done) | (go_simp; rfl)); intro gb188 hg w5 hbox hb; have GW188 := aM (xge hg); have GE188 := aM (xge hg); replace HB := xbs hb; have NB187_188 := aM ((by rw [hg]; exact Nat.ne_of_lt (blk_lt (g := gb187) (o := .cells #[.int .i64 a0_0, .int .i64 a0_1, .int .i64 a0_2, .int .i64 a0_3, .string a0_4] 34 (0, 0)) xblk) : gb187 ≠ gb188)); have NB188_187 := aM ((by rw [hg]; exact Nat.ne_of_gt (blk_lt (g := gb187) (o := .cells #[.int .i64 a0_0, .int .i64 a0_1, .int .i64 a0_2, .int .i64 a0_3, .string a0_4] 34 (0, 0)) xblk) : gb188 ≠ gb187)); replace BK187 := xbb BK187 hb; have BK188 := aM (hbox); clear hb hbox hg; have hnb6 := NB188_187.out; have hnc6 := NB187_188.out; have hcz7_0 : w5.cell? ⟨gb188, 0, none⟩ = some (.int .i64 0) := xc BK188 0 rfl; have hcz7_1 : w5.cell? ⟨gb188, 1, none⟩ = some (.int .i64 0) := xc BK188 1 rfl; have hcz7_2 : w5.cell? ⟨gb188, 2, none⟩ = some (.int .i64 0) := xc BK188 2 rfl; have hcz7_3 : w5.cell? ⟨gb188, 3, none⟩ = some (.int .i64 0) := xc BK188 3 rfl; have hcz7_4 : w5.cell? ⟨gb188, 4, none⟩ = some (.string (⟨#[]⟩ : ByteArray)) := xc BK188 4 rfl; have hfz7_0 := blk_frozen BK188.out 0; have hfz7_1 := blk_frozen BK188.out 1; have hfz7_2 := blk_frozen BK188.out 2; have hfz7_3 := blk_frozen BK188.out 3; have hfz7_4 := blk_frozen BK188.out 4) | ((with_reducible refine gate_store (t := 34) (p := 3) rfl ?_); refine store_event (t := 34) (p := 3) (v := ?vo_w8) (w1 := (((((w5.setCell ⟨gb188, 0, none⟩ (.int .i64 a0_0)).setCell ⟨gb188, 1, none⟩ (.int .i64 0)).setCell ⟨gb188, 2, none⟩ (.int .i64 0)).setCell ⟨gb188, 3, none⟩ (.int .i64 0)).setCell ⟨gb188, 4, none⟩ (.string (⟨#[]⟩ : ByteArray)))) ?hg ?ho ?hn ?hr ?_; (case ho => rfl); (case hg => rfl); (case hn => rfl); (case hr => first | (go_simp; done) | (go_simp; rfl)); intro w8 hw; replace BK187 : Aside0 (w8.heap[gb187]? = some (.cells #[.int .i64 a0_0, .int .i64 a0_1, .int .i64 a0_2, .int .i64 a0_3, .string a0_4] 34 (0, 0))) := ⟨(by rw [hw]; exact (by (with_reducible repeat (first | refine blk_drewN ?_ _ | refine blk_drew ?_ | refine blk_alloc ?_ _)); refine blk_far ?_ NB187_188.out _; (with_reducible repeat (first | refine blk_drewN ?_ _ | refine blk_drew ?_ | refine blk_alloc ?_ _)); refine blk_far ?_ NB187_188.out _; (with_reducible repeat (first | refine blk_drewN ?_ _ | refine blk_drew ?_ | refine blk_alloc ?_ _)); refine blk_far ?_ NB187_188.out _; (with_reducible repeat (first | refine blk_drewN ?_ _ | refine blk_drew ?_ | refine blk_alloc ?_ _)); refine blk_far ?_ NB187_188.out _; (with_reducible repeat (first | refine blk_drewN ?_ _ | refine blk_drew ?_ | refine blk_alloc ?_ _)); refine blk_far ?_ NB187_188.out _; (with_reducible repeat (first | refine blk_drewN ?_ _ | refine blk_drew ?_ | refine blk_alloc ?_ _)); exact BK187.out))⟩; replace BK188 : Aside0 (w8.heap[gb188]? = some (.cells #[.int .i64 a0_0, .int .i64 0, .int .i64 0, .int .i64 0, .string (⟨#[]⟩ : ByteArray)] 34 (0, 0))) := ⟨(by rw [hw]; exact (by (with_reducible repeat (first | refine blk_drewN ?_ _ | refine blk_drew ?_ | refine blk_alloc ?_ _)); refine blk_put (cs := #[.int .i64 a0_0, .int .i64 0, .int .i64 0, .int .i64 0, .string (⟨#[]⟩ : ByteArray)]) ?_ 4 _ rfl; (with_reducible repeat (first | refine blk_drewN ?_ _ | refine blk_drew ?_ | refine blk_alloc ?_ _)); refine blk_put (cs := #[.int .i64 a0_0, .int .i64 0, .int .i64 0, .int .i64 0, .string (⟨#[]⟩ : ByteArray)]) ?_ 3 _ rfl; (with_reducible repeat (first | refine blk_drewN ?_ _ | refine blk_drew ?_ | refine blk_alloc ?_ _)); refine blk_put (cs := #[.int .i64 a0_0, .int .i64 0, .int .i64 0, .int .i64 0, .string (⟨#[]⟩ : ByteArray)]) ?_ 2 _ rfl; (with_reducible repeat (first | refine blk_drewN ?_ _ | refine blk_drew ?_ | refine blk_alloc ?_ _)); refine blk_put (cs := #[.int .i64 a0_0, .int .i64 0, .int .i64 0, .int .i64 0, .string (⟨#[]⟩ : ByteArray)]) ?_ 1 _ rfl; (with_reducible repeat (first | refine blk_drewN ?_ _ | refine blk_drew ?_ | refine blk_alloc ?_ _)); refine blk_put (cs := #[.int .i64 0, .int .i64 0, .int .i64 0, .int .i64 0, .string (⟨#[]⟩ : ByteArray)]) ?_ 0 _ rfl; (with_reducible repeat (first | refine blk_drewN ?_ _ | refine blk_drew ?_ | refine blk_alloc ?_ _)); exact BK188.out))⟩; replace HB : Aside0 (Below w.heap.size w w8) := ⟨(by rw [hw]; exact xbg)⟩; clear hw; have hcz9_0 : w8.cell? ⟨gb187, 0, none⟩ = some (.int .i64 a0_0) := xc BK187 0 rfl; have hcz9_1 : w8.cell? ⟨gb187, 1, none⟩ = some (.int .i64 a0_1) := xc BK187 1 rfl; have hcz9_2 : w8.cell? ⟨gb187, 2, none⟩ = some (.int .i64 a0_2) := xc BK187 2 rfl; have hcz9_3 : w8.cell? ⟨gb187, 3, none⟩ = some (.int .i64 a0_3) := xc BK187 3 rfl; have hcz9_4 : w8.cell? ⟨gb187, 4, none⟩ = some (.string a0_4) := xc BK187 4 rfl; have hfz9_0 := blk_frozen BK187.out 0; have hfz9_1 := blk_frozen BK187.out 1; have hfz9_2 := blk_frozen BK187.out 2; have hfz9_3 := blk_frozen BK187.out 3; have hfz9_4 := blk_frozen BK187.out 4; have hcz10_0 : w8.cell? ⟨gb188, 0, none⟩ = some (.int .i64 a0_0) := xc BK188 0 rfl; have hcz10_1 : w8.cell? ⟨gb188, 1, none⟩ = some (.int .i64 0) := xc BK188 1 rfl; have hcz10_2 : w8.cell? ⟨gb188, 2, none⟩ = some (.int .i64 0) := xc BK188 2 rfl; have hcz10_3 : w8.cell? ⟨gb188, 3, none⟩ = some (.int .i64 0) := xc BK188 3 rfl; have hcz10_4 : w8.cell? ⟨gb188, 4, none⟩ = some (.string (⟨#[]⟩ : ByteArray)) := xc BK188 4 rfl; have hfz10_0 := blk_frozen BK188.out 0; have hfz10_1 := blk_frozen BK188.out 1; have hfz10_2 := blk_frozen BK188.out 2; have hfz10_3 := blk_frozen BK188.out 3; have hfz10_4 := blk_frozen BK188.out 4))
  go_ret
  exact ⟨by first | rfl | (simp [errW_none, errW_some] <;> rfl) | (simp [*, errW_none, errW_some] <;> rfl), xbg⟩
 ·rw [if_neg c2] at H
  have c2b0 : (a0_0 == 1) = false := beq_eq_false_iff_ne.mpr c2; have c2b1 : (a0_0 != 1) = true := bne_iff_ne.mpr c2; have HC11 := aM H; clear H
  go_enter Try.func24, Try.ntmps24
  go_upto_region 4 with (first | ((with_reducible refine gate_dst (N := 1) rfl ?_); (try (refine gate_guard (by rfl) ?_; dsimp only)); refine box_event ?hg (N := 1) ?hd (cs := #[.int .i64 a0_0, .int .i64 a0_1, .int .i64 a0_2, .int .i64 a0_3, .string a0_4]) (t := 34) ?hr ?_; (case hd => rfl); (case hg => rfl); (case hr => first | (go_simp; done) | (go_simp; rfl)); intro gb187 hg w12 hbox hb; have BK187 := aM (hbox); have GW187 := aM (xge hg); have GE187 := aM (xge hg); replace HB := xbs hb; clear hb hbox hg; have hcz13_0 : w12.cell? ⟨gb187, 0, none⟩ = some (.int .i64 a0_0) := xc BK187 0 rfl; have hcz13_1 : w12.cell? ⟨gb187, 1, none⟩ = some (.int .i64 a0_1) := xc BK187 1 rfl; have hcz13_2 : w12.cell? ⟨gb187, 2, none⟩ = some (.int .i64 a0_2) := xc BK187 2 rfl; have hcz13_3 : w12.cell? ⟨gb187, 3, none⟩ = some (.int .i64 a0_3) := xc BK187 3 rfl; have hcz13_4 : w12.cell? ⟨gb187, 4, none⟩ = some (.string a0_4) := xc BK187 4 rfl; have hfz13_0 := blk_frozen BK187.out 0; have hfz13_1 := blk_frozen BK187.out 1; have hfz13_2 := blk_frozen BK187.out 2; have hfz13_3 := blk_frozen BK187.out 3; have hfz13_4 := blk_frozen BK187.out 4) | ((with_reducible refine gate_dst (N := 3) rfl ?_); (try (refine gate_guard (by rfl) ?_; dsimp only)); refine box_event ?hg (N := 3) ?hd (cs := #[.int .i64 0, .int .i64 0, .int .i64 0, .int .i64 0, .string (⟨#[]⟩ : ByteArray)]) (t := 34) ?hr ?_; (case hd => rfl); (case hg => rfl); (case hr => first | (go_simp; done) | (go_simp; rfl)); intro gb188 hg w14 hbox hb; have GW188 := aM (xge hg); have GE188 := aM (xge hg); replace HB := xbs hb; have NB187_188 := aM ((by rw [hg]; exact Nat.ne_of_lt (blk_lt (g := gb187) (o := .cells #[.int .i64 a0_0, .int .i64 a0_1, .int .i64 a0_2, .int .i64 a0_3, .string a0_4] 34 (0, 0)) xblk) : gb187 ≠ gb188)); have NB188_187 := aM ((by rw [hg]; exact Nat.ne_of_gt (blk_lt (g := gb187) (o := .cells #[.int .i64 a0_0, .int .i64 a0_1, .int .i64 a0_2, .int .i64 a0_3, .string a0_4] 34 (0, 0)) xblk) : gb188 ≠ gb187)); replace BK187 := xbb BK187 hb; have BK188 := aM (hbox); clear hb hbox hg; have hnb15 := NB188_187.out; have hnc15 := NB187_188.out; have hcz16_0 : w14.cell? ⟨gb188, 0, none⟩ = some (.int .i64 0) := xc BK188 0 rfl; have hcz16_1 : w14.cell? ⟨gb188, 1, none⟩ = some (.int .i64 0) := xc BK188 1 rfl; have hcz16_2 : w14.cell? ⟨gb188, 2, none⟩ = some (.int .i64 0) := xc BK188 2 rfl; have hcz16_3 : w14.cell? ⟨gb188, 3, none⟩ = some (.int .i64 0) := xc BK188 3 rfl; have hcz16_4 : w14.cell? ⟨gb188, 4, none⟩ = some (.string (⟨#[]⟩ : ByteArray)) := xc BK188 4 rfl; have hfz16_0 := blk_frozen BK188.out 0; have hfz16_1 := blk_frozen BK188.out 1; have hfz16_2 := blk_frozen BK188.out 2; have hfz16_3 := blk_frozen BK188.out 3; have hfz16_4 := blk_frozen BK188.out 4) | ((with_reducible refine gate_store (t := 34) (p := 3) rfl ?_); refine store_event (t := 34) (p := 3) (v := ?vo_w17) (w1 := (((((w14.setCell ⟨gb188, 0, none⟩ (.int .i64 a0_0)).setCell ⟨gb188, 1, none⟩ (.int .i64 0)).setCell ⟨gb188, 2, none⟩ (.int .i64 0)).setCell ⟨gb188, 3, none⟩ (.int .i64 0)).setCell ⟨gb188, 4, none⟩ (.string (⟨#[]⟩ : ByteArray)))) ?hg ?ho ?hn ?hr ?_; (case ho => rfl); (case hg => rfl); (case hn => rfl); (case hr => first | (go_simp; done) | (go_simp; rfl)); intro w17 hw; replace BK187 : Aside0 (w17.heap[gb187]? = some (.cells #[.int .i64 a0_0, .int .i64 a0_1, .int .i64 a0_2, .int .i64 a0_3, .string a0_4] 34 (0, 0))) := ⟨(by rw [hw]; exact (by (with_reducible repeat (first | refine blk_drewN ?_ _ | refine blk_drew ?_ | refine blk_alloc ?_ _)); refine blk_far ?_ NB187_188.out _; (with_reducible repeat (first | refine blk_drewN ?_ _ | refine blk_drew ?_ | refine blk_alloc ?_ _)); refine blk_far ?_ NB187_188.out _; (with_reducible repeat (first | refine blk_drewN ?_ _ | refine blk_drew ?_ | refine blk_alloc ?_ _)); refine blk_far ?_ NB187_188.out _; (with_reducible repeat (first | refine blk_drewN ?_ _ | refine blk_drew ?_ | refine blk_alloc ?_ _)); refine blk_far ?_ NB187_188.out _; (with_reducible repeat (first | refine blk_drewN ?_ _ | refine blk_drew ?_ | refine blk_alloc ?_ _)); refine blk_far ?_ NB187_188.out _; (with_reducible repeat (first | refine blk_drewN ?_ _ | refine blk_drew ?_ | refine blk_alloc ?_ _)); exact BK187.out))⟩; replace BK188 : Aside0 (w17.heap[gb188]? = some (.cells #[.int .i64 a0_0, .int .i64 0, .int .i64 0, .int .i64 0, .string (⟨#[]⟩ : ByteArray)] 34 (0, 0))) := ⟨(by rw [hw]; exact (by (with_reducible repeat (first | refine blk_drewN ?_ _ | refine blk_drew ?_ | refine blk_alloc ?_ _)); refine blk_put (cs := #[.int .i64 a0_0, .int .i64 0, .int .i64 0, .int .i64 0, .string (⟨#[]⟩ : ByteArray)]) ?_ 4 _ rfl; (with_reducible repeat (first | refine blk_drewN ?_ _ | refine blk_drew ?_ | refine blk_alloc ?_ _)); refine blk_put (cs := #[.int .i64 a0_0, .int .i64 0, .int .i64 0, .int .i64 0, .string (⟨#[]⟩ : ByteArray)]) ?_ 3 _ rfl; (with_reducible repeat (first | refine blk_drewN ?_ _ | refine blk_drew ?_ | refine blk_alloc ?_ _)); refine blk_put (cs := #[.int .i64 a0_0, .int .i64 0, .int .i64 0, .int .i64 0, .string (⟨#[]⟩ : ByteArray)]) ?_ 2 _ rfl; (with_reducible repeat (first | refine blk_drewN ?_ _ | refine blk_drew ?_ | refine blk_alloc ?_ _)); refine blk_put (cs := #[.int .i64 a0_0, .int .i64 0, .int .i64 0, .int .i64 0, .string (⟨#[]⟩ : ByteArray)]) ?_ 1 _ rfl; (with_reducible repeat (first | refine blk_drewN ?_ _ | refine blk_drew ?_ | refine blk_alloc ?_ _)); refine blk_put (cs := #[.int .i64 0, .int .i64 0, .int .i64 0, .int .i64 0, .string (⟨#[]⟩ : ByteArray)]) ?_ 0 _ rfl; (with_reducible repeat (first | refine blk_drewN ?_ _ | refine blk_drew ?_ | refine blk_alloc ?_ _)); exact BK188.out))⟩; replace HB : Aside0 (Below w.heap.size w w17) := ⟨(by rw [hw]; exact xbg)⟩; clear hw; have hcz18_0 : w17.cell? ⟨gb187, 0, none⟩ = some (.int .i64 a0_0) := xc BK187 0 rfl; have hcz18_1 : w17.cell? ⟨gb187, 1, none⟩ = some (.int .i64 a0_1) := xc BK187 1 rfl; have hcz18_2 : w17.cell? ⟨gb187, 2, none⟩ = some (.int .i64 a0_2) := xc BK187 2 rfl; have hcz18_3 : w17.cell? ⟨gb187, 3, none⟩ = some (.int .i64 a0_3) := xc BK187 3 rfl; have hcz18_4 : w17.cell? ⟨gb187, 4, none⟩ = some (.string a0_4) := xc BK187 4 rfl; have hfz18_0 := blk_frozen BK187.out 0; have hfz18_1 := blk_frozen BK187.out 1; have hfz18_2 := blk_frozen BK187.out 2; have hfz18_3 := blk_frozen BK187.out 3; have hfz18_4 := blk_frozen BK187.out 4))
  (try simp only [Act.put, List.setIfInBounds_toArray, List.set_cons_zero, List.set_cons_succ])
  go_cut [22] (fun v22 wc => ∃ (kq : Nat) (x22_10 : Bool), v22 = .bool x22_10 ∧ Aside0 (spec_CmdOk.j0 kq x22_10 a0_0 a0_1 a0_2 a0_3 a0_4 a0_0 0 0 0 (⟨#[]⟩ : ByteArray) = some r) ∧ Aside0 (kq ≤ k) ∧ Aside0 (wc.heap[gb187]? = some (.cells #[.int .i64 a0_0, .int .i64 a0_1, .int .i64 a0_2, .int .i64 a0_3, .string a0_4] 34 (0, 0))) ∧ Aside0 (wc.heap[gb188]? = some (.cells #[.int .i64 a0_0, .int .i64 0, .int .i64 0, .int .i64 0, .string (⟨#[]⟩ : ByteArray)] 34 (0, 0))) ∧ Aside0 (Below w.heap.size w wc))
  case first =>
   have H := HC11.out; clear HC11; replace H := Option.bind_eq_some_iff.mp H
   obtain ⟨t189, A190, H⟩ := H
   replace H : (if t189 = true then ((spec_l1In.f a0_1 1 1000).bind fun t190 => (spec_CmdOk.j0 k (!t190) a0_0 a0_1 a0_2 a0_3 a0_4 a0_0 0 0 0 (⟨#[]⟩ : ByteArray))) else (spec_CmdOk.j0 k true a0_0 a0_1 a0_2 a0_3 a0_4 a0_0 0 0 0 (⟨#[]⟩ : ByteArray))) = some r := H; have A19 := aM A190; clear A190
   by_cases c20 : t189 = true
   ·subst c20
    have H1 : ((spec_l1In.f a0_1 1 1000).bind fun t190 => (spec_CmdOk.j0 k (!t190) a0_0 a0_1 a0_2 a0_3 a0_4 a0_0 0 0 0 (⟨#[]⟩ : ByteArray))) = some r := by rw [if_pos rfl] at H; exact H
    clear H; have H := H1; clear H1; replace H := Option.bind_eq_some_iff.mp H
    obtain ⟨t190, A210, H⟩ := H
    replace H : (spec_CmdOk.j0 k (!t190) a0_0 a0_1 a0_2 a0_3 a0_4 a0_0 0 0 0 (⟨#[]⟩ : ByteArray)) = some r := H; have A21 := aM A210; clear A210
    have H' := aM H
    clear H; have hnb22 := NB187_188.out; have hnc22 := NB188_187.out; have hcz23_0 : w17.cell? ⟨gb187, 0, none⟩ = some (.int .i64 a0_0) := xc BK187 0 rfl; have hcz23_1 : w17.cell? ⟨gb187, 1, none⟩ = some (.int .i64 a0_1) := xc BK187 1 rfl; have hcz23_2 : w17.cell? ⟨gb187, 2, none⟩ = some (.int .i64 a0_2) := xc BK187 2 rfl; have hcz23_3 : w17.cell? ⟨gb187, 3, none⟩ = some (.int .i64 a0_3) := xc BK187 3 rfl; have hcz23_4 : w17.cell? ⟨gb187, 4, none⟩ = some (.string a0_4) := xc BK187 4 rfl; have hfz23_0 := blk_frozen BK187.out 0; have hfz23_1 := blk_frozen BK187.out 1; have hfz23_2 := blk_frozen BK187.out 2; have hfz23_3 := blk_frozen BK187.out 3; have hfz23_4 := blk_frozen BK187.out 4
    go_wp2_with (first | ((with_reducible refine gate_callee (f := 87) rfl ?_); refine goesL_ (some 15) rfl rfl Try.func87 (by kernel_rfl) rfl #[.int .i64 a0_0, .int .i64 2, .int .i64 5] rfl (by (try simp only [List.map_toArray, List.map_cons, List.map_nil]); first | done | rfl | (simp only [List.length_drop, List.length_take]; rfl)) ?_; (with_reducible refine (spec_l1In.calls a0_0 2 5 true _ A19.out).mono ?_); rintro e w' ⟨rfl, ⟨nd, rfl⟩⟩; refine ⟨_, rfl, ?_⟩) | (go_at_call 87; (with_reducible refine (spec_l1In.calls a0_1 1 1000 t190 _ A21.out).mono ?_); rintro e w' ⟨rfl, ⟨nd, rfl⟩⟩))
    go_meet
    case rel => exact ⟨_, (!t190), (by first | rfl | (simp; done) | (simp [*]; done)), H', ⟨by first | omega | exact Nat.le_refl _⟩, ⟨xblk⟩, ⟨xblk⟩, ⟨xbg⟩⟩
   ·replace c20 := Bool.eq_false_iff.mpr c20
    subst c20
    have H1 : (spec_CmdOk.j0 k true a0_0 a0_1 a0_2 a0_3 a0_4 a0_0 0 0 0 (⟨#[]⟩ : ByteArray)) = some r := by rw [if_neg (show ¬ (false = true) by decide)] at H; exact H
    clear H; have H := H1; clear H1
    have H' := aM H
    clear H; have hnb24 := NB187_188.out; have hnc24 := NB188_187.out; have hcz25_0 : w17.cell? ⟨gb187, 0, none⟩ = some (.int .i64 a0_0) := xc BK187 0 rfl; have hcz25_1 : w17.cell? ⟨gb187, 1, none⟩ = some (.int .i64 a0_1) := xc BK187 1 rfl; have hcz25_2 : w17.cell? ⟨gb187, 2, none⟩ = some (.int .i64 a0_2) := xc BK187 2 rfl; have hcz25_3 : w17.cell? ⟨gb187, 3, none⟩ = some (.int .i64 a0_3) := xc BK187 3 rfl; have hcz25_4 : w17.cell? ⟨gb187, 4, none⟩ = some (.string a0_4) := xc BK187 4 rfl; have hfz25_0 := blk_frozen BK187.out 0; have hfz25_1 := blk_frozen BK187.out 1; have hfz25_2 := blk_frozen BK187.out 2; have hfz25_3 := blk_frozen BK187.out 3; have hfz25_4 := blk_frozen BK187.out 4
    go_wp2_with (first | ((with_reducible refine gate_callee (f := 87) rfl ?_); refine goesL_ (some 15) rfl rfl Try.func87 (by kernel_rfl) rfl #[.int .i64 a0_0, .int .i64 2, .int .i64 5] rfl (by (try simp only [List.map_toArray, List.map_cons, List.map_nil]); first | done | rfl | (simp only [List.length_drop, List.length_take]; rfl)) ?_; (with_reducible refine (spec_l1In.calls a0_0 2 5 false _ A19.out).mono ?_); rintro e w' ⟨rfl, ⟨nd, rfl⟩⟩; refine ⟨_, rfl, ?_⟩))
    go_meet
    case rel => exact ⟨_, (true), (by first | rfl | (simp; done) | (simp [*]; done)), H', ⟨by first | omega | exact Nat.le_refl _⟩, ⟨xblk⟩, ⟨xblk⟩, ⟨xbg⟩⟩
  case rest =>
   clear HC11
   try clear c1
   try clear c2
   try clear c2b0
   try clear c2b1
   try clear p2
   try clear c6
   try clear c8
   try clear c15
   try clear c20
   try clear c22
   try clear c24
   try clear hcz10_0
   try clear hcz10_1
   try clear hcz10_2
   try clear hcz10_3
   try clear hcz10_4
   try clear hcz13_0
   try clear hcz13_1
   try clear hcz13_2
   try clear hcz13_3
   try clear hcz13_4
   try clear hcz16_0
   try clear hcz16_1
   try clear hcz16_2
   try clear hcz16_3
   try clear hcz16_4
   try clear hcz18_0
   try clear hcz18_1
   try clear hcz18_2
   try clear hcz18_3
   try clear hcz18_4
   try clear hcz23_0
   try clear hcz23_1
   try clear hcz23_2
   try clear hcz23_3
   try clear hcz23_4
   try clear hcz25_0
   try clear hcz25_1
   try clear hcz25_2
   try clear hcz25_3
   try clear hcz25_4
   try clear hcz4_0
   try clear hcz4_1
   try clear hcz4_2
   try clear hcz4_3
   try clear hcz4_4
   try clear hcz7_0
   try clear hcz7_1
   try clear hcz7_2
   try clear hcz7_3
   try clear hcz7_4
   try clear hcz9_0
   try clear hcz9_1
   try clear hcz9_2
   try clear hcz9_3
   try clear hcz9_4
   try clear hfz10_0
   try clear hfz10_1
   try clear hfz10_2
   try clear hfz10_3
   try clear hfz10_4
   try clear hfz13_0
   try clear hfz13_1
   try clear hfz13_2
   try clear hfz13_3
   try clear hfz13_4
   try clear hfz16_0
   try clear hfz16_1
   try clear hfz16_2
   try clear hfz16_3
   try clear hfz16_4
   try clear hfz18_0
   try clear hfz18_1
   try clear hfz18_2
   try clear hfz18_3
   try clear hfz18_4
   try clear hfz23_0
   try clear hfz23_1
   try clear hfz23_2
   try clear hfz23_3
   try clear hfz23_4
   try clear hfz25_0
   try clear hfz25_1
   try clear hfz25_2
   try clear hfz25_3
   try clear hfz25_4
   try clear hfz4_0
   try clear hfz4_1
   try clear hfz4_2
   try clear hfz4_3
   try clear hfz4_4
   try clear hfz7_0
   try clear hfz7_1
   try clear hfz7_2
   try clear hfz7_3
   try clear hfz7_4
   try clear hfz9_0
   try clear hfz9_1
   try clear hfz9_2
   try clear hfz9_3
   try clear hfz9_4
   obtain ⟨kq, x22_10, rfl, HA, HJ10, BK187, BK188, HB⟩ := hcut
   cases kq with
   | zero => exact absurd HA.out (by simp [spec_CmdOk.j0])
   | succ kj10 =>
    have H := HA.out; clear HA
    simp only [spec_CmdOk.j0] at H
    by_cases c26 : x22_10 = true
    ·subst c26
     have H1 : (some false) = some r := by rw [if_pos rfl] at H; exact H
     clear H; have H := H1; clear H1
     obtain rfl := Option.some.inj H
     go_wp2
     go_ret
     exact ⟨by first | rfl | (simp [errW_none, errW_some] <;> rfl) | (simp [*, errW_none, errW_some] <;> rfl), xbg⟩
    ·replace c26 := Bool.eq_false_iff.mpr c26
     subst c26
     have H1 : (if a0_0 = 2 then ((spec_l1In.f a0_3 0 1000).bind fun t191 => (if t191 = true then (if (a0_4.size : Int) = 32 then (some (a0_2 == 0)) else (some false)) else (some false))) else (if a0_0 = 3 then ((spec_l1In.f a0_2 0 4).bind fun t192 => (if t192 = true then (some (a0_0 == a0_0 && (a0_3 == 0 && (a0_4.toList == (⟨#[]⟩ : ByteArray).toList)))) else (some false))) else (some (a0_0 == a0_0 && (a0_2 == 0 && (a0_3 == 0 && (a0_4.toList == (⟨#[]⟩ : ByteArray).toList))))))) = some r := by rw [if_neg (show ¬ (false = true) by decide)] at H; exact H
     clear H; have H := H1; clear H1
     by_cases c27 : a0_0 = 2
     ·rw [if_pos c27] at H
      have c27b0 : (a0_0 == 2) = true := beq_iff_eq.mpr c27; have c27b1 : (a0_0 != 2) = false := bne_eq_false_iff_eq.mpr c27; clear c27; replace H := Option.bind_eq_some_iff.mp H
      obtain ⟨t191, A280, H⟩ := H
      replace H : (if t191 = true then (if (a0_4.size : Int) = 32 then (some (a0_2 == 0)) else (some false)) else (some false)) = some r := H; have A28 := aM A280; clear A280
      by_cases c29 : t191 = true
      ·subst c29
       have H1 : (if (a0_4.size : Int) = 32 then (some (a0_2 == 0)) else (some false)) = some r := by rw [if_pos rfl] at H; exact H
       clear H; have H := H1; clear H1
       by_cases c30 : (a0_4.size : Int) = 32
       ·rw [if_pos c30] at H
        have c30b0 : ((a0_4.size : Int) == 32) = true := beq_iff_eq.mpr c30; have c30b1 : ((a0_4.size : Int) != 32) = false := bne_eq_false_iff_eq.mpr c30; clear c30
        obtain rfl := Option.some.inj H
        have hnb31 := NB187_188.out; have hnc31 := NB188_187.out; have hcz32_0 : wc.cell? ⟨gb187, 0, none⟩ = some (.int .i64 a0_0) := xc BK187 0 rfl; have hcz32_1 : wc.cell? ⟨gb187, 1, none⟩ = some (.int .i64 a0_1) := xc BK187 1 rfl; have hcz32_2 : wc.cell? ⟨gb187, 2, none⟩ = some (.int .i64 a0_2) := xc BK187 2 rfl; have hcz32_3 : wc.cell? ⟨gb187, 3, none⟩ = some (.int .i64 a0_3) := xc BK187 3 rfl; have hcz32_4 : wc.cell? ⟨gb187, 4, none⟩ = some (.string a0_4) := xc BK187 4 rfl; have hfz32_0 := blk_frozen BK187.out 0; have hfz32_1 := blk_frozen BK187.out 1; have hfz32_2 := blk_frozen BK187.out 2; have hfz32_3 := blk_frozen BK187.out 3; have hfz32_4 := blk_frozen BK187.out 4; have hcz33_0 : wc.cell? ⟨gb188, 0, none⟩ = some (.int .i64 a0_0) := xc BK188 0 rfl; have hcz33_1 : wc.cell? ⟨gb188, 1, none⟩ = some (.int .i64 0) := xc BK188 1 rfl; have hcz33_2 : wc.cell? ⟨gb188, 2, none⟩ = some (.int .i64 0) := xc BK188 2 rfl; have hcz33_3 : wc.cell? ⟨gb188, 3, none⟩ = some (.int .i64 0) := xc BK188 3 rfl; have hcz33_4 : wc.cell? ⟨gb188, 4, none⟩ = some (.string (⟨#[]⟩ : ByteArray)) := xc BK188 4 rfl; have hfz33_0 := blk_frozen BK188.out 0; have hfz33_1 := blk_frozen BK188.out 1; have hfz33_2 := blk_frozen BK188.out 2; have hfz33_3 := blk_frozen BK188.out 3; have hfz33_4 := blk_frozen BK188.out 4
        go_wp2_with (first | ((with_reducible refine gate_callee (f := 87) rfl ?_); refine goesL_ (some 32) rfl rfl Try.func87 (by kernel_rfl) rfl #[.int .i64 a0_3, .int .i64 0, .int .i64 1000] rfl (by (try simp only [List.map_toArray, List.map_cons, List.map_nil]); first | done | rfl | (simp only [List.length_drop, List.length_take]; rfl)) ?_; (with_reducible refine (spec_l1In.calls a0_3 0 1000 true _ A28.out).mono ?_); rintro e w' ⟨rfl, ⟨nd, rfl⟩⟩; refine ⟨_, rfl, ?_⟩))
        go_ret
        exact ⟨by first | rfl | (simp [errW_none, errW_some] <;> rfl) | (simp [*, errW_none, errW_some] <;> rfl), xbg⟩
       ·rw [if_neg c30] at H
        have c30b0 : ((a0_4.size : Int) == 32) = false := beq_eq_false_iff_ne.mpr c30; have c30b1 : ((a0_4.size : Int) != 32) = true := bne_iff_ne.mpr c30
        obtain rfl := Option.some.inj H
        have hnb34 := NB187_188.out; have hnc34 := NB188_187.out; have hcz35_0 : wc.cell? ⟨gb187, 0, none⟩ = some (.int .i64 a0_0) := xc BK187 0 rfl; have hcz35_1 : wc.cell? ⟨gb187, 1, none⟩ = some (.int .i64 a0_1) := xc BK187 1 rfl; have hcz35_2 : wc.cell? ⟨gb187, 2, none⟩ = some (.int .i64 a0_2) := xc BK187 2 rfl; have hcz35_3 : wc.cell? ⟨gb187, 3, none⟩ = some (.int .i64 a0_3) := xc BK187 3 rfl; have hcz35_4 : wc.cell? ⟨gb187, 4, none⟩ = some (.string a0_4) := xc BK187 4 rfl; have hfz35_0 := blk_frozen BK187.out 0; have hfz35_1 := blk_frozen BK187.out 1; have hfz35_2 := blk_frozen BK187.out 2; have hfz35_3 := blk_frozen BK187.out 3; have hfz35_4 := blk_frozen BK187.out 4; have hcz36_0 : wc.cell? ⟨gb188, 0, none⟩ = some (.int .i64 a0_0) := xc BK188 0 rfl; have hcz36_1 : wc.cell? ⟨gb188, 1, none⟩ = some (.int .i64 0) := xc BK188 1 rfl; have hcz36_2 : wc.cell? ⟨gb188, 2, none⟩ = some (.int .i64 0) := xc BK188 2 rfl; have hcz36_3 : wc.cell? ⟨gb188, 3, none⟩ = some (.int .i64 0) := xc BK188 3 rfl; have hcz36_4 : wc.cell? ⟨gb188, 4, none⟩ = some (.string (⟨#[]⟩ : ByteArray)) := xc BK188 4 rfl; have hfz36_0 := blk_frozen BK188.out 0; have hfz36_1 := blk_frozen BK188.out 1; have hfz36_2 := blk_frozen BK188.out 2; have hfz36_3 := blk_frozen BK188.out 3; have hfz36_4 := blk_frozen BK188.out 4
        go_wp2_with (first | ((with_reducible refine gate_callee (f := 87) rfl ?_); refine goesL_ (some 32) rfl rfl Try.func87 (by kernel_rfl) rfl #[.int .i64 a0_3, .int .i64 0, .int .i64 1000] rfl (by (try simp only [List.map_toArray, List.map_cons, List.map_nil]); first | done | rfl | (simp only [List.length_drop, List.length_take]; rfl)) ?_; (with_reducible refine (spec_l1In.calls a0_3 0 1000 true _ A28.out).mono ?_); rintro e w' ⟨rfl, ⟨nd, rfl⟩⟩; refine ⟨_, rfl, ?_⟩))
        go_ret
        exact ⟨by first | rfl | (simp [errW_none, errW_some] <;> rfl) | (simp [*, errW_none, errW_some] <;> rfl), xbg⟩
      ·replace c29 := Bool.eq_false_iff.mpr c29
       subst c29
       have H1 : (some false) = some r := by rw [if_neg (show ¬ (false = true) by decide)] at H; exact H
       clear H; have H := H1; clear H1
       obtain rfl := Option.some.inj H
       have hnb37 := NB187_188.out; have hnc37 := NB188_187.out; have hcz38_0 : wc.cell? ⟨gb187, 0, none⟩ = some (.int .i64 a0_0) := xc BK187 0 rfl; have hcz38_1 : wc.cell? ⟨gb187, 1, none⟩ = some (.int .i64 a0_1) := xc BK187 1 rfl; have hcz38_2 : wc.cell? ⟨gb187, 2, none⟩ = some (.int .i64 a0_2) := xc BK187 2 rfl; have hcz38_3 : wc.cell? ⟨gb187, 3, none⟩ = some (.int .i64 a0_3) := xc BK187 3 rfl; have hcz38_4 : wc.cell? ⟨gb187, 4, none⟩ = some (.string a0_4) := xc BK187 4 rfl; have hfz38_0 := blk_frozen BK187.out 0; have hfz38_1 := blk_frozen BK187.out 1; have hfz38_2 := blk_frozen BK187.out 2; have hfz38_3 := blk_frozen BK187.out 3; have hfz38_4 := blk_frozen BK187.out 4; have hcz39_0 : wc.cell? ⟨gb188, 0, none⟩ = some (.int .i64 a0_0) := xc BK188 0 rfl; have hcz39_1 : wc.cell? ⟨gb188, 1, none⟩ = some (.int .i64 0) := xc BK188 1 rfl; have hcz39_2 : wc.cell? ⟨gb188, 2, none⟩ = some (.int .i64 0) := xc BK188 2 rfl; have hcz39_3 : wc.cell? ⟨gb188, 3, none⟩ = some (.int .i64 0) := xc BK188 3 rfl; have hcz39_4 : wc.cell? ⟨gb188, 4, none⟩ = some (.string (⟨#[]⟩ : ByteArray)) := xc BK188 4 rfl; have hfz39_0 := blk_frozen BK188.out 0; have hfz39_1 := blk_frozen BK188.out 1; have hfz39_2 := blk_frozen BK188.out 2; have hfz39_3 := blk_frozen BK188.out 3; have hfz39_4 := blk_frozen BK188.out 4
       go_wp2_with (first | ((with_reducible refine gate_callee (f := 87) rfl ?_); refine goesL_ (some 32) rfl rfl Try.func87 (by kernel_rfl) rfl #[.int .i64 a0_3, .int .i64 0, .int .i64 1000] rfl (by (try simp only [List.map_toArray, List.map_cons, List.map_nil]); first | done | rfl | (simp only [List.length_drop, List.length_take]; rfl)) ?_; (with_reducible refine (spec_l1In.calls a0_3 0 1000 false _ A28.out).mono ?_); rintro e w' ⟨rfl, ⟨nd, rfl⟩⟩; refine ⟨_, rfl, ?_⟩))
       go_ret
       exact ⟨by first | rfl | (simp [errW_none, errW_some] <;> rfl) | (simp [*, errW_none, errW_some] <;> rfl), xbg⟩
     ·rw [if_neg c27] at H
      have c27b0 : (a0_0 == 2) = false := beq_eq_false_iff_ne.mpr c27; have c27b1 : (a0_0 != 2) = true := bne_iff_ne.mpr c27
      by_cases c40 : a0_0 = 3
      ·rw [if_pos c40] at H
       have c40b0 : (a0_0 == 3) = true := beq_iff_eq.mpr c40; have c40b1 : (a0_0 != 3) = false := bne_eq_false_iff_eq.mpr c40; clear c40; replace H := Option.bind_eq_some_iff.mp H
       obtain ⟨t192, A410, H⟩ := H
       replace H : (if t192 = true then (some (a0_0 == a0_0 && (a0_3 == 0 && (a0_4.toList == (⟨#[]⟩ : ByteArray).toList)))) else (some false)) = some r := H; have A41 := aM A410; clear A410
       by_cases c42 : t192 = true
       ·subst c42
        have H1 : (some (a0_0 == a0_0 && (a0_3 == 0 && (a0_4.toList == (⟨#[]⟩ : ByteArray).toList)))) = some r := by rw [if_pos rfl] at H; exact H
        clear H; have H := H1; clear H1
        obtain rfl := Option.some.inj H
        have hnb43 := NB187_188.out; have hnc43 := NB188_187.out; have hcz44_0 : wc.cell? ⟨gb187, 0, none⟩ = some (.int .i64 a0_0) := xc BK187 0 rfl; have hcz44_1 : wc.cell? ⟨gb187, 1, none⟩ = some (.int .i64 a0_1) := xc BK187 1 rfl; have hcz44_2 : wc.cell? ⟨gb187, 2, none⟩ = some (.int .i64 a0_2) := xc BK187 2 rfl; have hcz44_3 : wc.cell? ⟨gb187, 3, none⟩ = some (.int .i64 a0_3) := xc BK187 3 rfl; have hcz44_4 : wc.cell? ⟨gb187, 4, none⟩ = some (.string a0_4) := xc BK187 4 rfl; have hfz44_0 := blk_frozen BK187.out 0; have hfz44_1 := blk_frozen BK187.out 1; have hfz44_2 := blk_frozen BK187.out 2; have hfz44_3 := blk_frozen BK187.out 3; have hfz44_4 := blk_frozen BK187.out 4; have hcz45_0 : wc.cell? ⟨gb188, 0, none⟩ = some (.int .i64 a0_0) := xc BK188 0 rfl; have hcz45_1 : wc.cell? ⟨gb188, 1, none⟩ = some (.int .i64 0) := xc BK188 1 rfl; have hcz45_2 : wc.cell? ⟨gb188, 2, none⟩ = some (.int .i64 0) := xc BK188 2 rfl; have hcz45_3 : wc.cell? ⟨gb188, 3, none⟩ = some (.int .i64 0) := xc BK188 3 rfl; have hcz45_4 : wc.cell? ⟨gb188, 4, none⟩ = some (.string (⟨#[]⟩ : ByteArray)) := xc BK188 4 rfl; have hfz45_0 := blk_frozen BK188.out 0; have hfz45_1 := blk_frozen BK188.out 1; have hfz45_2 := blk_frozen BK188.out 2; have hfz45_3 := blk_frozen BK188.out 3; have hfz45_4 := blk_frozen BK188.out 4
        go_wp2_with (first | ((with_reducible refine gate_callee (f := 87) rfl ?_); refine goesL_ (some 51) rfl rfl Try.func87 (by kernel_rfl) rfl #[.int .i64 a0_2, .int .i64 0, .int .i64 4] rfl (by (try simp only [List.map_toArray, List.map_cons, List.map_nil]); first | done | rfl | (simp only [List.length_drop, List.length_take]; rfl)) ?_; (with_reducible refine (spec_l1In.calls a0_2 0 4 true _ A41.out).mono ?_); rintro e w' ⟨rfl, ⟨nd, rfl⟩⟩; refine ⟨_, rfl, ?_⟩))
        go_ret
        exact ⟨by first | rfl | (simp [errW_none, errW_some] <;> rfl) | (simp [*, errW_none, errW_some] <;> rfl), xbg⟩
       ·replace c42 := Bool.eq_false_iff.mpr c42
        subst c42
        have H1 : (some false) = some r := by rw [if_neg (show ¬ (false = true) by decide)] at H; exact H
        clear H; have H := H1; clear H1
        obtain rfl := Option.some.inj H
        have hnb46 := NB187_188.out; have hnc46 := NB188_187.out; have hcz47_0 : wc.cell? ⟨gb187, 0, none⟩ = some (.int .i64 a0_0) := xc BK187 0 rfl; have hcz47_1 : wc.cell? ⟨gb187, 1, none⟩ = some (.int .i64 a0_1) := xc BK187 1 rfl; have hcz47_2 : wc.cell? ⟨gb187, 2, none⟩ = some (.int .i64 a0_2) := xc BK187 2 rfl; have hcz47_3 : wc.cell? ⟨gb187, 3, none⟩ = some (.int .i64 a0_3) := xc BK187 3 rfl; have hcz47_4 : wc.cell? ⟨gb187, 4, none⟩ = some (.string a0_4) := xc BK187 4 rfl; have hfz47_0 := blk_frozen BK187.out 0; have hfz47_1 := blk_frozen BK187.out 1; have hfz47_2 := blk_frozen BK187.out 2; have hfz47_3 := blk_frozen BK187.out 3; have hfz47_4 := blk_frozen BK187.out 4; have hcz48_0 : wc.cell? ⟨gb188, 0, none⟩ = some (.int .i64 a0_0) := xc BK188 0 rfl; have hcz48_1 : wc.cell? ⟨gb188, 1, none⟩ = some (.int .i64 0) := xc BK188 1 rfl; have hcz48_2 : wc.cell? ⟨gb188, 2, none⟩ = some (.int .i64 0) := xc BK188 2 rfl; have hcz48_3 : wc.cell? ⟨gb188, 3, none⟩ = some (.int .i64 0) := xc BK188 3 rfl; have hcz48_4 : wc.cell? ⟨gb188, 4, none⟩ = some (.string (⟨#[]⟩ : ByteArray)) := xc BK188 4 rfl; have hfz48_0 := blk_frozen BK188.out 0; have hfz48_1 := blk_frozen BK188.out 1; have hfz48_2 := blk_frozen BK188.out 2; have hfz48_3 := blk_frozen BK188.out 3; have hfz48_4 := blk_frozen BK188.out 4
        go_wp2_with (first | ((with_reducible refine gate_callee (f := 87) rfl ?_); refine goesL_ (some 51) rfl rfl Try.func87 (by kernel_rfl) rfl #[.int .i64 a0_2, .int .i64 0, .int .i64 4] rfl (by (try simp only [List.map_toArray, List.map_cons, List.map_nil]); first | done | rfl | (simp only [List.length_drop, List.length_take]; rfl)) ?_; (with_reducible refine (spec_l1In.calls a0_2 0 4 false _ A41.out).mono ?_); rintro e w' ⟨rfl, ⟨nd, rfl⟩⟩; refine ⟨_, rfl, ?_⟩))
        go_ret
        exact ⟨by first | rfl | (simp [errW_none, errW_some] <;> rfl) | (simp [*, errW_none, errW_some] <;> rfl), xbg⟩
      ·rw [if_neg c40] at H
       have c40b0 : (a0_0 == 3) = false := beq_eq_false_iff_ne.mpr c40; have c40b1 : (a0_0 != 3) = true := bne_iff_ne.mpr c40
       obtain rfl := Option.some.inj H
       have hnb49 := NB187_188.out; have hnc49 := NB188_187.out; have hcz50_0 : wc.cell? ⟨gb187, 0, none⟩ = some (.int .i64 a0_0) := xc BK187 0 rfl; have hcz50_1 : wc.cell? ⟨gb187, 1, none⟩ = some (.int .i64 a0_1) := xc BK187 1 rfl; have hcz50_2 : wc.cell? ⟨gb187, 2, none⟩ = some (.int .i64 a0_2) := xc BK187 2 rfl; have hcz50_3 : wc.cell? ⟨gb187, 3, none⟩ = some (.int .i64 a0_3) := xc BK187 3 rfl; have hcz50_4 : wc.cell? ⟨gb187, 4, none⟩ = some (.string a0_4) := xc BK187 4 rfl; have hfz50_0 := blk_frozen BK187.out 0; have hfz50_1 := blk_frozen BK187.out 1; have hfz50_2 := blk_frozen BK187.out 2; have hfz50_3 := blk_frozen BK187.out 3; have hfz50_4 := blk_frozen BK187.out 4; have hcz51_0 : wc.cell? ⟨gb188, 0, none⟩ = some (.int .i64 a0_0) := xc BK188 0 rfl; have hcz51_1 : wc.cell? ⟨gb188, 1, none⟩ = some (.int .i64 0) := xc BK188 1 rfl; have hcz51_2 : wc.cell? ⟨gb188, 2, none⟩ = some (.int .i64 0) := xc BK188 2 rfl; have hcz51_3 : wc.cell? ⟨gb188, 3, none⟩ = some (.int .i64 0) := xc BK188 3 rfl; have hcz51_4 : wc.cell? ⟨gb188, 4, none⟩ = some (.string (⟨#[]⟩ : ByteArray)) := xc BK188 4 rfl; have hfz51_0 := blk_frozen BK188.out 0; have hfz51_1 := blk_frozen BK188.out 1; have hfz51_2 := blk_frozen BK188.out 2; have hfz51_3 := blk_frozen BK188.out 3; have hfz51_4 := blk_frozen BK188.out 4
       go_wp2
       go_ret
       exact ⟨by first | rfl | (simp [errW_none, errW_some] <;> rfl) | (simp [*, errW_none, errW_some] <;> rfl), xbg⟩

/-! ### spec_l6Entry: function 138 -/
def spec_l6Entry.f (k : Nat) (a0_0 : Int) (a0_1 : Int) (a0_2 : Int) (a0_3 : Int) (a0_4 : Int) (a0_5 : ByteArray) : Option (Bool) := (spec_l1In.f a0_0 1 1000000000).bind fun t194 => (if t194 = true then ((spec_CmdOk.f k a0_1 a0_2 a0_3 a0_4 a0_5).bind fun t195 => (some t195)) else (some false))
theorem spec_l6Entry.mono : ∀ a0 a1 a2 a3 a4 a5 k, LeO (spec_l6Entry.f k a0 a1 a2 a3 a4 a5) (spec_l6Entry.f (k + 1) a0 a1 a2 a3 a4 a5) := by
 intro a0 a1 a2 a3 a4 a5 k
 unfold spec_l6Entry.f
 repeat' first
  | (with_reducible exact spec_CmdOk.mono _ _ _ _ _ _)
  | (with_reducible exact LeO.refl _)
  | (with_reducible exact LeO.none _)
  | (with_reducible refine LeO.ite ?_ ?_)
  | (with_reducible refine LeO.bind ?_ (fun _ => ?_))
  | exact spec_CmdOk.mono _ _ _ _ _ _
  | exact LeO.none _
  | refine LeO.ite ?_ ?_
  | refine LeO.bind ?_ (fun _ => ?_)
set_option maxHeartbeats 8000000 in
set_option maxRecDepth 100000 in
theorem spec_l6Entry.calls (k : Nat) (a0_0 : Int) (a0_1 : Int) (a0_2 : Int) (a0_3 : Int) (a0_4 : Int) (a0_5 : ByteArray) (r : Bool) (w : World) (h : spec_l6Entry.f k a0_0 a0_1 a0_2 a0_3 a0_4 a0_5 = some r) :
 Calls Try.prog 138 #[.agg #[.int .i64 a0_0, .int .i64 a0_1, .int .i64 a0_2, .int .i64 a0_3, .int .i64 a0_4, .string a0_5]] w fun e w' => e = .returned (.bool r) ∧ Below w.heap.size w w' := by
 have hu36 := Try.underlying36
 have hu34 := Try.underlying34
 have HB := aM (Below.refl w.heap.size w)
 have H : ((spec_l1In.f a0_0 1 1000000000).bind fun t194 => (if t194 = true then ((spec_CmdOk.f k a0_1 a0_2 a0_3 a0_4 a0_5).bind fun t195 => (some t195)) else (some false))) = some r := h
 clear h
 replace H := Option.bind_eq_some_iff.mp H
 obtain ⟨t194, A20, H⟩ := H
 replace H : (if t194 = true then ((spec_CmdOk.f k a0_1 a0_2 a0_3 a0_4 a0_5).bind fun t195 => (some t195)) else (some false)) = some r := H
 have A2 := aM A20
 clear A20
 by_cases c3 : t194 = true
 ·subst c3
  have H1 : ((spec_CmdOk.f k a0_1 a0_2 a0_3 a0_4 a0_5).bind fun t195 => (some t195)) = some r := by rw [if_pos rfl] at H; exact H
  clear H; have H := H1; clear H1; replace H := Option.bind_eq_some_iff.mp H
  obtain ⟨t195, A40, H⟩ := H
  replace H : (some t195) = some r := H; have A4 := aM A40; clear A40
  obtain rfl := Option.some.inj H
  go_enter Try.func138, Try.ntmps138
  go_wp2_with (first | ((with_reducible refine gate_dst (N := 1) rfl ?_); refine box_event ?hg (N := 1) ?hd (cs := #[.int .i64 a0_0, .int .i64 a0_1, .int .i64 a0_2, .int .i64 a0_3, .int .i64 a0_4, .string a0_5]) (t := 36) ?hr ?_; (case hd => rfl); (case hg => rfl); (case hr => first | (go_simp; done) | (go_simp; rfl)); intro gb193 hg w5 hbox hb; have BK193 := aM (hbox); have GW193 := aM (xge hg); have GE193 := aM (xge hg); replace HB := xbs hb; clear hb hbox hg; have hcz6_0 : w5.cell? ⟨gb193, 0, none⟩ = some (.int .i64 a0_0) := xc BK193 0 rfl; have hcz6_1 : w5.cell? ⟨gb193, 1, none⟩ = some (.int .i64 a0_1) := xc BK193 1 rfl; have hcz6_2 : w5.cell? ⟨gb193, 2, none⟩ = some (.int .i64 a0_2) := xc BK193 2 rfl; have hcz6_3 : w5.cell? ⟨gb193, 3, none⟩ = some (.int .i64 a0_3) := xc BK193 3 rfl; have hcz6_4 : w5.cell? ⟨gb193, 4, none⟩ = some (.int .i64 a0_4) := xc BK193 4 rfl; have hcz6_5 : w5.cell? ⟨gb193, 5, none⟩ = some (.string a0_5) := xc BK193 5 rfl; have hfz6_0 := blk_frozen BK193.out 0; have hfz6_1 := blk_frozen BK193.out 1; have hfz6_2 := blk_frozen BK193.out 2; have hfz6_3 := blk_frozen BK193.out 3; have hfz6_4 := blk_frozen BK193.out 4; have hfz6_5 := blk_frozen BK193.out 5) | ((with_reducible refine gate_callee (f := 87) rfl ?_); refine goesL_ (some 5) rfl rfl Try.func87 (by kernel_rfl) rfl #[.int .i64 a0_0, .int .i64 1, .int .i64 1000000000] rfl (by (try simp only [List.map_toArray, List.map_cons, List.map_nil]); first | done | rfl | (simp only [List.length_drop, List.length_take]; rfl)) ?_; (with_reducible refine (spec_l1In.calls a0_0 1 1000000000 true _ A2.out).mono ?_); rintro e w' ⟨rfl, ⟨nd, rfl⟩⟩; refine ⟨_, rfl, ?_⟩) | (go_at_call 24; (with_reducible refine (spec_CmdOk.calls k a0_1 a0_2 a0_3 a0_4 a0_5 t195 _ A4.out).mono ?_); rintro e w7 ⟨rfl, hb⟩; replace BK193 := xbb BK193 hb; replace HB := xbs hb; (try clear hb); (try clear hb2); (try clear hk); (try clear hi)))
  go_ret
  exact ⟨by first | rfl | (simp [errW_none, errW_some] <;> rfl) | (simp [*, errW_none, errW_some] <;> rfl), xbg⟩
 ·replace c3 := Bool.eq_false_iff.mpr c3
  subst c3
  have H1 : (some false) = some r := by rw [if_neg (show ¬ (false = true) by decide)] at H; exact H
  clear H; have H := H1; clear H1
  obtain rfl := Option.some.inj H
  go_enter Try.func138, Try.ntmps138
  go_wp2_with (first | ((with_reducible refine gate_dst (N := 1) rfl ?_); refine box_event ?hg (N := 1) ?hd (cs := #[.int .i64 a0_0, .int .i64 a0_1, .int .i64 a0_2, .int .i64 a0_3, .int .i64 a0_4, .string a0_5]) (t := 36) ?hr ?_; (case hd => rfl); (case hg => rfl); (case hr => first | (go_simp; done) | (go_simp; rfl)); intro gb193 hg w8 hbox hb; have BK193 := aM (hbox); have GW193 := aM (xge hg); have GE193 := aM (xge hg); replace HB := xbs hb; clear hb hbox hg; have hcz9_0 : w8.cell? ⟨gb193, 0, none⟩ = some (.int .i64 a0_0) := xc BK193 0 rfl; have hcz9_1 : w8.cell? ⟨gb193, 1, none⟩ = some (.int .i64 a0_1) := xc BK193 1 rfl; have hcz9_2 : w8.cell? ⟨gb193, 2, none⟩ = some (.int .i64 a0_2) := xc BK193 2 rfl; have hcz9_3 : w8.cell? ⟨gb193, 3, none⟩ = some (.int .i64 a0_3) := xc BK193 3 rfl; have hcz9_4 : w8.cell? ⟨gb193, 4, none⟩ = some (.int .i64 a0_4) := xc BK193 4 rfl; have hcz9_5 : w8.cell? ⟨gb193, 5, none⟩ = some (.string a0_5) := xc BK193 5 rfl; have hfz9_0 := blk_frozen BK193.out 0; have hfz9_1 := blk_frozen BK193.out 1; have hfz9_2 := blk_frozen BK193.out 2; have hfz9_3 := blk_frozen BK193.out 3; have hfz9_4 := blk_frozen BK193.out 4; have hfz9_5 := blk_frozen BK193.out 5) | ((with_reducible refine gate_callee (f := 87) rfl ?_); refine goesL_ (some 5) rfl rfl Try.func87 (by kernel_rfl) rfl #[.int .i64 a0_0, .int .i64 1, .int .i64 1000000000] rfl (by (try simp only [List.map_toArray, List.map_cons, List.map_nil]); first | done | rfl | (simp only [List.length_drop, List.length_take]; rfl)) ?_; (with_reducible refine (spec_l1In.calls a0_0 1 1000000000 false _ A2.out).mono ?_); rintro e w' ⟨rfl, ⟨nd, rfl⟩⟩; refine ⟨_, rfl, ?_⟩))
  go_ret
  exact ⟨by first | rfl | (simp [errW_none, errW_some] <;> rfl) | (simp [*, errW_none, errW_some] <;> rfl), xbg⟩

/-! ### spec_RecOk: function 69 -/
def spec_RecOk.f (k : Nat) (a0_0 : Int) (a0_1 : Int) (a0_2 : Int) (a0_3 : Int) (a0_4 : Int) (a0_5 : Int) (a0_6 : Int) (a0_7 : Int) (a0_8 : Int) (a0_9 : ByteArray) : Option (Bool) :=
  if a0_0 = 1 then ((spec_l1Whole.f a0_1).bind fun t198 => (if t198 = true then ((spec_l1In.f a0_2 0 5).bind fun t199 => (if t199 = true then (some (a0_3 == 0 && ((a0_4 == 0 && ((a0_5 == 0 && (a0_6 == 0 && (a0_7 == 0 && (a0_8 == 0 && (a0_9.toList == ([] : List UInt8))))))))))) else (some false))) else (some false)))
  else (if a0_0 = 2 then ((spec_l1In.f a0_3 1 80).bind fun t200 => (if t200 = true then ((spec_l6Entry.f k a0_4 a0_5 a0_6 a0_7 a0_8 a0_9).bind fun t201 => (if t201 = true then (some (a0_1 == 0 && (a0_2 == 0))) else (some false))) else (some false)))
  else (if a0_0 = 3 then ((spec_l1In.f a0_3 0 80).bind fun t202 => (if t202 = true then (some (a0_1 == 0 && (a0_2 == 0 && ((a0_4 == 0 && ((a0_5 == 0 && (a0_6 == 0 && (a0_7 == 0 && (a0_8 == 0 && (a0_9.toList == ([] : List UInt8)))))))))))) else (some false))) else (some false)))
theorem spec_RecOk.mono : ∀ a0 a1 a2 a3 a4 a5 a6 a7 a8 a9 k, LeO (spec_RecOk.f k a0 a1 a2 a3 a4 a5 a6 a7 a8 a9) (spec_RecOk.f (k + 1) a0 a1 a2 a3 a4 a5 a6 a7 a8 a9) := by
  intro a0 a1 a2 a3 a4 a5 a6 a7 a8 a9 k
  unfold spec_RecOk.f
  repeat' first
  | exact spec_l6Entry.mono _ _ _ _ _ _ _
  | exact LeO.refl _
  | refine LeO.ite ?_ ?_
  | refine LeO.bind ?_ (fun _ => ?_)
theorem bcellR {W w1 : World} (hb : Below W.heap.size W w1) : (∀ b o, b < W.heap.size → w1.cell? ⟨b, o, none⟩ = W.cell? ⟨b, o, none⟩) ∧ (∀ b o, b < W.heap.size → w1.frozen? ⟨b, o, none⟩ = W.frozen? ⟨b, o, none⟩) :=
  ⟨fun b o h => hb.cell (p := ⟨b, o, none⟩) h, fun b o h => hb.frozen (p := ⟨b, o, none⟩) h⟩
set_option maxHeartbeats 8000000 in
set_option maxRecDepth 100000 in
theorem spec_RecOk.calls (k : Nat) (a0_0 : Int) (a0_1 : Int) (a0_2 : Int) (a0_3 : Int) (a0_4 : Int) (a0_5 : Int) (a0_6 : Int) (a0_7 : Int) (a0_8 : Int) (a0_9 : ByteArray) (r : Bool) (w : World) (h : spec_RecOk.f k a0_0 a0_1 a0_2 a0_3 a0_4 a0_5 a0_6 a0_7 a0_8 a0_9 = some r) :
    Calls Try.prog 69 #[.agg #[.int .i64 a0_0, .int .i64 a0_1, .int .i64 a0_2, .int .i64 a0_3, .int .i64 a0_4, .int .i64 a0_5, .int .i64 a0_6, .int .i64 a0_7, .int .i64 a0_8, .string a0_9]] w fun e w' => e = .returned (.bool r) ∧ Below w.heap.size w w' := by
  have hu38 := Try.underlying38
  have hu36 := Try.underlying36
  have hu34 := Try.underlying34
  unfold spec_RecOk.f at h
  by_cases k1 : a0_0 = 1
  · subst k1
    rw [if_pos rfl] at h
    obtain ⟨b1, A1, g⟩ := Option.bind_eq_some_iff.1 h
    replace h := g
    clear g
    replace A1 := Aside0.mk A1
    cases b1
    · simp only [Bool.false_eq_true, ↓reduceIte, Option.some.injEq] at h
      subst h
      go_enter Try.func69, Try.ntmps69
      go_wp2_with (first | (go_at_call 137; refine (spec_l1Whole.calls _ _ _ A1.out).mono ?_; rintro e w1 ⟨rfl, ⟨n1, rfl⟩⟩) | (go_at_call 87; refine (spec_l1In.calls _ _ _ _ _ A2.out).mono ?_; rintro e w1 ⟨rfl, ⟨n2, rfl⟩⟩))
      all_goals go_ret
      all_goals exact ⟨by first | rfl | (simp [Array.getD]; done) | (clear hu38 hu36 hu34; simp [*]; done) | (clear hu38 hu36 hu34; simp [*]; assumption) | (clear hu38 hu36 hu34; simp [*]; rename_i h_; simpa using h_), by repeat (first | apply pw_below_drewN | apply below_alloc | exact Below.refl _ w)⟩
    · simp only [↓reduceIte] at h
      obtain ⟨b2, A2, g⟩ := Option.bind_eq_some_iff.1 h
      replace h := g
      clear g
      replace A2 := Aside0.mk A2
      cases b2
      · simp only [Bool.false_eq_true, ↓reduceIte, Option.some.injEq] at h
        subst h
        go_enter Try.func69, Try.ntmps69
        go_wp2_with (first | (go_at_call 137; refine (spec_l1Whole.calls _ _ _ A1.out).mono ?_; rintro e w1 ⟨rfl, ⟨n1, rfl⟩⟩) | (go_at_call 87; refine (spec_l1In.calls _ _ _ _ _ A2.out).mono ?_; rintro e w1 ⟨rfl, ⟨n2, rfl⟩⟩))
        all_goals go_ret
        all_goals exact ⟨by first | rfl | (simp [Array.getD]; done) | (clear hu38 hu36 hu34; simp [*]; done) | (clear hu38 hu36 hu34; simp [*]; assumption) | (clear hu38 hu36 hu34; simp [*]; rename_i h_; simpa using h_), by repeat (first | apply pw_below_drewN | apply below_alloc | exact Below.refl _ w)⟩
      · simp only [↓reduceIte, Option.some.injEq] at h
        subst h
        go_enter Try.func69, Try.ntmps69
        go_wp2_with (first | (go_at_call 137; refine (spec_l1Whole.calls _ _ _ A1.out).mono ?_; rintro e w1 ⟨rfl, ⟨n1, rfl⟩⟩) | (go_at_call 87; refine (spec_l1In.calls _ _ _ _ _ A2.out).mono ?_; rintro e w1 ⟨rfl, ⟨n2, rfl⟩⟩))
        all_goals go_ret
        all_goals exact ⟨by first | rfl | (simp [Array.getD]; done) | (clear hu38 hu36 hu34; simp [*]; done) | (clear hu38 hu36 hu34; simp [*]; assumption) | (clear hu38 hu36 hu34; simp [*]; rename_i h_; simpa using h_), by repeat (first | apply pw_below_drewN | apply below_alloc | exact Below.refl _ w)⟩
  · rw [if_neg k1] at h
    have n1 : (a0_0 == 1) = false := beq_eq_false_iff_ne.2 k1
    by_cases k2 : a0_0 = 2
    · subst k2
      rw [if_pos rfl] at h
      obtain ⟨b1, A1, g⟩ := Option.bind_eq_some_iff.1 h
      replace h := g
      clear g
      replace A1 := Aside0.mk A1
      cases b1
      · simp only [Bool.false_eq_true, ↓reduceIte, Option.some.injEq] at h
        subst h
        go_enter Try.func69, Try.ntmps69
        go_wp2_with (first | (go_at_call 87; refine (spec_l1In.calls _ _ _ _ _ A1.out).mono ?_; rintro e w1 ⟨rfl, ⟨n1, rfl⟩⟩) | (go_at_call 138; refine (spec_l6Entry.calls k _ _ _ _ _ _ _ _ A2.out).mono ?_; rintro e w1 ⟨rfl, hb⟩; obtain ⟨hc, hf⟩ := bcellR hb; have HB := Aside0.mk hb; clear hb))
        all_goals go_ret
        all_goals exact ⟨by first | rfl | (simp [Array.getD]; done) | (clear hu38 hu36 hu34; simp [*]; done) | (clear hu38 hu36 hu34; simp [*]; assumption) | (clear hu38 hu36 hu34; simp [*]; rename_i h_; simpa using h_), by repeat (first | apply pw_below_drewN | apply below_alloc | exact Below.refl _ w)⟩
      · simp only [↓reduceIte] at h
        obtain ⟨b2, A2, g⟩ := Option.bind_eq_some_iff.1 h
        replace h := g
        clear g
        replace A2 := Aside0.mk A2
        cases b2
        · simp only [Bool.false_eq_true, ↓reduceIte, Option.some.injEq] at h
          subst h
          go_enter Try.func69, Try.ntmps69
          go_wp2_with (first | (go_at_call 87; refine (spec_l1In.calls _ _ _ _ _ A1.out).mono ?_; rintro e w1 ⟨rfl, ⟨n1, rfl⟩⟩) | (go_at_call 138; refine (spec_l6Entry.calls k _ _ _ _ _ _ _ _ A2.out).mono ?_; rintro e w1 ⟨rfl, hb⟩; obtain ⟨hc, hf⟩ := bcellR hb; have HB := Aside0.mk hb; clear hb))
          all_goals go_ret
          all_goals exact ⟨by first | rfl | (simp [Array.getD]; done) | (clear hu38 hu36 hu34; simp [*]; done) | (clear hu38 hu36 hu34; simp [*]; assumption) | (clear hu38 hu36 hu34; simp [*]; rename_i h_; simpa using h_), below_step (by repeat (first | apply pw_below_drewN | apply below_alloc | exact Below.refl _ w)) HB.out⟩
        · simp only [↓reduceIte, Option.some.injEq] at h
          subst h
          go_enter Try.func69, Try.ntmps69
          go_wp2_with (first | (go_at_call 87; refine (spec_l1In.calls _ _ _ _ _ A1.out).mono ?_; rintro e w1 ⟨rfl, ⟨n1, rfl⟩⟩) | (go_at_call 138; refine (spec_l6Entry.calls k _ _ _ _ _ _ _ _ A2.out).mono ?_; rintro e w1 ⟨rfl, hb⟩; obtain ⟨hc, hf⟩ := bcellR hb; have HB := Aside0.mk hb; clear hb))
          all_goals go_ret
          all_goals exact ⟨by first | rfl | (simp [Array.getD]; done) | (clear hu38 hu36 hu34; simp [*]; done) | (clear hu38 hu36 hu34; simp [*]; assumption) | (clear hu38 hu36 hu34; simp [*]; rename_i h_; simpa using h_), below_step (by repeat (first | apply pw_below_drewN | apply below_alloc | exact Below.refl _ w)) HB.out⟩
    · rw [if_neg k2] at h
      have n2 : (a0_0 == 2) = false := beq_eq_false_iff_ne.2 k2
      by_cases k3 : a0_0 = 3
      · subst k3
        rw [if_pos rfl] at h
        obtain ⟨b1, A1, g⟩ := Option.bind_eq_some_iff.1 h
        replace h := g
        clear g
        replace A1 := Aside0.mk A1
        cases b1
        · simp only [Bool.false_eq_true, ↓reduceIte, Option.some.injEq] at h
          subst h
          go_enter Try.func69, Try.ntmps69
          go_wp2_with (first | (go_at_call 87; refine (spec_l1In.calls _ _ _ _ _ A1.out).mono ?_; rintro e w1 ⟨rfl, ⟨n1, rfl⟩⟩))
          all_goals go_ret
          all_goals exact ⟨by first | rfl | (simp [Array.getD]; done) | (clear hu38 hu36 hu34; simp [*]; done) | (clear hu38 hu36 hu34; simp [*]; assumption) | (clear hu38 hu36 hu34; simp [*]; rename_i h_; simpa using h_), by repeat (first | apply pw_below_drewN | apply below_alloc | exact Below.refl _ w)⟩
        · simp only [↓reduceIte, Option.some.injEq] at h
          subst h
          go_enter Try.func69, Try.ntmps69
          go_wp2_with (first | (go_at_call 87; refine (spec_l1In.calls _ _ _ _ _ A1.out).mono ?_; rintro e w1 ⟨rfl, ⟨n1, rfl⟩⟩))
          all_goals go_ret
          all_goals exact ⟨by first | rfl | (simp [Array.getD]; done) | (clear hu38 hu36 hu34; simp [*]; done) | (clear hu38 hu36 hu34; simp [*]; assumption) | (clear hu38 hu36 hu34; simp [*]; rename_i h_; simpa using h_), by repeat (first | apply pw_below_drewN | apply below_alloc | exact Below.refl _ w)⟩
      · rw [if_neg k3] at h
        have n3 : (a0_0 == 3) = false := beq_eq_false_iff_ne.2 k3
        obtain rfl := Option.some.inj h
        go_enter Try.func69, Try.ntmps69
        go_wp2_with (first | (go_at_call 87; refine (spec_l1In.calls _ _ _ _ _ A1.out).mono ?_; rintro e w1 ⟨rfl, ⟨n1, rfl⟩⟩))
        all_goals go_ret
        all_goals exact ⟨by first | rfl | (simp [Array.getD]; done) | (clear hu38 hu36 hu34; simp [*]; done) | (clear hu38 hu36 hu34; simp [*]; assumption) | (clear hu38 hu36 hu34; simp [*]; rename_i h_; simpa using h_), by repeat (first | apply pw_below_drewN | apply below_alloc | exact Below.refl _ w)⟩


end Go.Proofs.Ytnjpfllmcmomoaa.QFnExactHardApply
