-- A walk, by a program of this session.
import Derived.Test.YtnjpfllmcmomoaaQFnExactHardOfx0
import Derived.Test.YtnjpfllmcmomoaaQFnExactHardOfx8
namespace Go.Proofs.Ytnjpfllmcmomoaa.QFnExactHardOf
open Go.RowKit Go.Proofs.YtnjpfllmcmomoaaW.PrintWords Go.Proofs.YtnjpfllmcmomoaaW.PrintLast Go.Proofs.YtnjpfllmcmomoaaW.PrintMore
attribute [local go_sem] max2_int min2_int max_two min_two max_three min_three max_four min_four   -- for this text's walks alone
set_option linter.unusedVariables false
set_option linter.unusedSimpArgs false

/-! ### spec_HardOf: function 18 -/
mutual
def spec_HardOf.j0 : Nat → List (S38) → Int → Int → Option (Int × Int × (List (S36)) × Int)
 | 0, _, _, _ => none
 | k + 1, x0, x247000, x247001 => spec_HardOf.l0 k x0 0 x247000 x247001 ([] : List (S36))
def spec_HardOf.l0 : Nat → List (S38) → Int → Int → Int → List (S36) → Option (Int × Int × (List (S36)) × Int)
 | 0, _, _, _, _, _ => none
 | k + 1, x0, x5, x247000, x247001, x247002 => if x5 < (x0.length : Int) then (spec_HardOf.j2 k x0 x5 x247000 x247001 x247002) else (some (x247000, x247001, x247002, (x0.length : Int)))
def spec_HardOf.j2 : Nat → List (S38) → Int → Int → Int → List (S36) → Option (Int × Int × (List (S36)) × Int)
 | 0, _, _, _, _, _ => none
 | k + 1, x0, x5, x247000, x247001, x247002 => if 0 ≤ x5 then (if x5 < (x0.length : Int) then ((spec_HardApply.f k x247000 x247001 x247002 ((rd_T38 x0 x5).f0) ((rd_T38 x0 x5).f1) ((rd_T38 x0 x5).f2) ((rd_T38 x0 x5).f3) ((rd_T38 x0 x5).f4.f0) ((rd_T38 x0 x5).f4.f1.f0) ((rd_T38 x0 x5).f4.f1.f1) ((rd_T38 x0 x5).f4.f1.f2) ((rd_T38 x0 x5).f4.f1.f3) ((rd_T38 x0 x5).f4.f1.f4)).bind fun bt248 => (if bt248.2.2.2 = true then (spec_HardOf.j3 k x0 x5 bt248.1 bt248.2.1 bt248.2.2.1) else (some (x247000, x247001, x247002, x5)))) else (none)) else (none)
def spec_HardOf.j3 : Nat → List (S38) → Int → Int → Int → List (S36) → Option (Int × Int × (List (S36)) × Int)
 | 0, _, _, _, _, _ => none
 | k + 1, x0, x5, x255000, x255001, x255002 => spec_HardOf.l0 k x0 (wrap64 (x5 + 1)) x255000 x255001 x255002
end
def spec_HardOf.f (k : Nat) (l0 : List (S38)) : Option (Int × Int × (List (S36)) × Int) := if (l0.length : Int) > 2000 then (some (0, 0, ([] : List (S36)), 0)) else (spec_HardOf.j0 k l0 0 0)
set_option maxRecDepth 100000 in
theorem spec_HardOf.mono_l : ∀ k, (∀ y0 y1 y2, LeO (spec_HardOf.j0 k y0 y1 y2) (spec_HardOf.j0 (k + 1) y0 y1 y2)) ∧ (∀ y0 y1 y2 y3 y4, LeO (spec_HardOf.l0 k y0 y1 y2 y3 y4) (spec_HardOf.l0 (k + 1) y0 y1 y2 y3 y4)) ∧ (∀ y0 y1 y2 y3 y4, LeO (spec_HardOf.j2 k y0 y1 y2 y3 y4) (spec_HardOf.j2 (k + 1) y0 y1 y2 y3 y4)) ∧ (∀ y0 y1 y2 y3 y4, LeO (spec_HardOf.j3 k y0 y1 y2 y3 y4) (spec_HardOf.j3 (k + 1) y0 y1 y2 y3 y4))
 | 0 => ⟨fun _ _ _ r h => by simp [spec_HardOf.j0] at h, fun _ _ _ _ _ r h => by simp [spec_HardOf.l0] at h, fun _ _ _ _ _ r h => by simp [spec_HardOf.j2] at h, fun _ _ _ _ _ r h => by simp [spec_HardOf.j3] at h⟩
 | k + 1 => by
  obtain ⟨ih0, ih1, ih2, ih3⟩ := spec_HardOf.mono_l k
  refine ⟨?_, ?_, ?_, ?_⟩
  ·intro y0 y1 y2
   unfold spec_HardOf.j0
   repeat' first
   | (with_reducible exact ih0 _ _ _)
   | (with_reducible exact ih1 _ _ _ _ _)
   | (with_reducible exact ih2 _ _ _ _ _)
   | (with_reducible exact ih3 _ _ _ _ _)
   | (with_reducible exact spec_HardApply.mono _ _ _ _ _ _ _ _ _ _ _ _ _ _)
   | (with_reducible exact LeO.refl _)
   | (with_reducible exact LeO.none _)
   | (with_reducible refine LeO.ite ?_ ?_)
   | (with_reducible refine LeO.bind ?_ (fun _ => ?_))
   | exact ih0 _ _ _
   | exact ih1 _ _ _ _ _
   | exact ih2 _ _ _ _ _
   | exact ih3 _ _ _ _ _
   | exact spec_HardApply.mono _ _ _ _ _ _ _ _ _ _ _ _ _ _
   | exact LeO.none _
   | refine LeO.ite ?_ ?_
   | refine LeO.bind ?_ (fun _ => ?_)
  ·intro y0 y1 y2 y3 y4
   unfold spec_HardOf.l0
   repeat' first
   | (with_reducible exact ih0 _ _ _)
   | (with_reducible exact ih1 _ _ _ _ _)
   | (with_reducible exact ih2 _ _ _ _ _)
   | (with_reducible exact ih3 _ _ _ _ _)
   | (with_reducible exact spec_HardApply.mono _ _ _ _ _ _ _ _ _ _ _ _ _ _)
   | (with_reducible exact LeO.refl _)
   | (with_reducible exact LeO.none _)
   | (with_reducible refine LeO.ite ?_ ?_)
   | (with_reducible refine LeO.bind ?_ (fun _ => ?_))
   | exact ih0 _ _ _
   | exact ih1 _ _ _ _ _
   | exact ih2 _ _ _ _ _
   | exact ih3 _ _ _ _ _
   | exact spec_HardApply.mono _ _ _ _ _ _ _ _ _ _ _ _ _ _
   | exact LeO.none _
   | refine LeO.ite ?_ ?_
   | refine LeO.bind ?_ (fun _ => ?_)
  ·intro y0 y1 y2 y3 y4
   unfold spec_HardOf.j2
   repeat' first
   | (with_reducible exact ih0 _ _ _)
   | (with_reducible exact ih1 _ _ _ _ _)
   | (with_reducible exact ih2 _ _ _ _ _)
   | (with_reducible exact ih3 _ _ _ _ _)
   | (with_reducible exact spec_HardApply.mono _ _ _ _ _ _ _ _ _ _ _ _ _ _)
   | (with_reducible exact LeO.refl _)
   | (with_reducible exact LeO.none _)
   | (with_reducible refine LeO.ite ?_ ?_)
   | (with_reducible refine LeO.bind ?_ (fun _ => ?_))
   | exact ih0 _ _ _
   | exact ih1 _ _ _ _ _
   | exact ih2 _ _ _ _ _
   | exact ih3 _ _ _ _ _
   | exact spec_HardApply.mono _ _ _ _ _ _ _ _ _ _ _ _ _ _
   | exact LeO.none _
   | refine LeO.ite ?_ ?_
   | refine LeO.bind ?_ (fun _ => ?_)
  ·intro y0 y1 y2 y3 y4
   unfold spec_HardOf.j3
   repeat' first
   | (with_reducible exact ih0 _ _ _)
   | (with_reducible exact ih1 _ _ _ _ _)
   | (with_reducible exact ih2 _ _ _ _ _)
   | (with_reducible exact ih3 _ _ _ _ _)
   | (with_reducible exact spec_HardApply.mono _ _ _ _ _ _ _ _ _ _ _ _ _ _)
   | (with_reducible exact LeO.refl _)
   | (with_reducible exact LeO.none _)
   | (with_reducible refine LeO.ite ?_ ?_)
   | (with_reducible refine LeO.bind ?_ (fun _ => ?_))
   | exact ih0 _ _ _
   | exact ih1 _ _ _ _ _
   | exact ih2 _ _ _ _ _
   | exact ih3 _ _ _ _ _
   | exact spec_HardApply.mono _ _ _ _ _ _ _ _ _ _ _ _ _ _
   | exact LeO.none _
   | refine LeO.ite ?_ ?_
   | refine LeO.bind ?_ (fun _ => ?_)
theorem spec_HardOf.mono : ∀ a0 k, LeO (spec_HardOf.f k a0) (spec_HardOf.f (k + 1) a0) := by
 intro a0 k
 obtain ⟨ih0, ih1, ih2, ih3⟩ := spec_HardOf.mono_l k
 unfold spec_HardOf.f
 repeat' first
  | (with_reducible exact ih0 _ _ _)
  | (with_reducible exact ih1 _ _ _ _ _)
  | (with_reducible exact ih2 _ _ _ _ _)
  | (with_reducible exact ih3 _ _ _ _ _)
  | (with_reducible exact spec_HardApply.mono _ _ _ _ _ _ _ _ _ _ _ _ _ _)
  | (with_reducible exact LeO.refl _)
  | (with_reducible exact LeO.none _)
  | (with_reducible refine LeO.ite ?_ ?_)
  | (with_reducible refine LeO.bind ?_ (fun _ => ?_))
  | exact ih0 _ _ _
  | exact ih1 _ _ _ _ _
  | exact ih2 _ _ _ _ _
  | exact ih3 _ _ _ _ _
  | exact spec_HardApply.mono _ _ _ _ _ _ _ _ _ _ _ _ _ _
  | exact LeO.none _
  | refine LeO.ite ?_ ?_
  | refine LeO.bind ?_ (fun _ => ?_)
def spec_HardOf.T7 : Bool × List (List Nat × List Nat) := (true, [([], []), ([], []), ([], []), ([1, 2], [1, 2]), ([3], [3]), ([0, 4], [0, 4]), ([5], [5]), ([6], [6]), ([6], [6]), ([], []), ([9, 7, 5, 0, 1, 2, 3, 4, 5, 6, 7, 9], [7, 9]), ([8, 10, 0, 1, 2, 3, 4, 5, 6, 7, 8, 9, 10], [8])])
def spec_HardOf.B7 : List Nat := [0, 0, 0, 6, 14, 31, 63, 127, 127, 0, 767, 2047]
theorem spec_HardOf.tab7 : rtab .any (opsOf Try.f18 7) = spec_HardOf.T7 := by kernel_rfl
theorem spec_HardOf.bits7 : waitsOk spec_HardOf.T7.2 spec_HardOf.B7 = true := by kernel_rfl
set_option maxHeartbeats 8000000 in
set_option maxRecDepth 100000 in
theorem spec_HardOf.calls (k : Nat) (A0 : Option Addr) (c0 : Nat) (l0 : List (S38)) (r1 : Int) (r2 : Int) (r3 : List (S36)) (r4 : Int) (w : World) (hr0 : Kd.C k38 w A0 l0.length l0) (hc0 : l0.length ≤ c0) (h : spec_HardOf.f k l0 = some (r1, r2, r3, r4)) :
 Calls Try.prog 18 #[.slice A0 l0.length c0] w fun e w' => ∃ v2_ : Value, e = .returned (.tuple #[.agg #[.int .i64 r1, .int .i64 r2, v2_], .int .i64 r4]) ∧ Kd.R k36 36 w' w.heap.size (fun _ => True) v2_ r3 ∧ Below w.heap.size w w' := by
 have hu28 := Try.underlying28
 have hu38 := Try.underlying38
 have HR0 := aM hr0
 have HC0 := aM hc0
 clear hr0 hc0
 have HB := aM (Below.refl w.heap.size w)
 have H : (if (l0.length : Int) > 2000 then (some (0, 0, ([] : List (S36)), 0)) else (spec_HardOf.j0 k l0 0 0)) = some (r1, r2, r3, r4) := h
 clear h
 have HC2 := aM H
 clear H
 go_enter Try.func18, Try.ntmps18
 go_upto_if 11 with (first | ((with_reducible refine gate_dst (N := 2) rfl ?_); refine box_event ?hg (N := 2) ?hd (cs := #[.int .i64 0, .int .i64 0, .slice none 0 0]) (t := 28) ?hr ?_; (case hd => rfl); (case hg => rfl); (case hr => first | (go_simp; done) | (go_simp; rfl)); intro gb245 hg w3 hbox hb; have BK245 := aM (hbox); have GW245 := aM (xge hg); have GE245 := aM (xge hg); replace HB := xbs hb; clear hb hbox hg) | ((with_reducible refine gate_dst (N := 4) rfl ?_); refine box_event ?hg (N := 4) ?hd (cs := #[.int .i64 0, .int .i64 0, .slice none 0 0]) (t := 28) ?hr ?_; (case hd => rfl); (case hg => rfl); (case hr => first | (go_simp; done) | (go_simp; rfl)); intro gb246 hg w4 hbox hb; have GW246 := aM (xge hg); have GE246 := aM (xge hg); replace HB := xbs hb; have NB245_246 := aM ((by rw [hg]; exact Nat.ne_of_lt (blk_lt (g := gb245) (o := .cells #[.int .i64 0, .int .i64 0, .slice none 0 0] 28 (0, 0)) xblk) : gb245 ≠ gb246)); have NB246_245 := aM ((by rw [hg]; exact Nat.ne_of_gt (blk_lt (g := gb245) (o := .cells #[.int .i64 0, .int .i64 0, .slice none 0 0] 28 (0, 0)) xblk) : gb246 ≠ gb245)); replace BK245 := xbb BK245 hb; have BK246 := aM (hbox); clear hb hbox hg; have hnb5 := NB246_245.out; have hnc5 := NB245_246.out; obtain ⟨hcz6_0, hcz6_1, hcz6_2, hfz6_0, hfz6_1, hfz6_2⟩ := xf3 (w := w4) BK246))
 (try simp only [Act.put, List.setIfInBounds_toArray, List.set_cons_zero, List.set_cons_succ])
 go_cut [] (fun wc => ∃ (kq : Nat) (x246000_1 : Int) (x246001_1 : Int), Aside0 (spec_HardOf.j0 kq l0 0 0 = some (r1, r2, r3, r4)) ∧ Aside0 (kq ≤ k) ∧ Aside0 (wc.heap[gb245]? = some (.cells #[.int .i64 x246000_1, .int .i64 x246001_1, (.slice none 0 0)] 28 (0, 0))) ∧ Aside0 (wc.heap[gb246]? = some (.cells #[.int .i64 0, .int .i64 0, (.slice none 0 0)] 28 (0, 0))) ∧ Aside0 (Below w.heap.size w wc))
 case first =>
  have H := HC2.out; clear HC2
  by_cases c7 : (l0.length : Int) > 2000
  ·rw [if_pos c7] at H
   have c7b0 : decide (2000 < (l0.length : Int)) = true := decide_eq_true c7; have c7b1 : decide (2000 < l0.length) = true := decide_eq_true (by omega); clear c7
   (first | rw [c7b0] | (simp only [i64_w, i32_w]; rw [c7b0]) | skip)
   simp only [Option.some.injEq, Prod.mk.injEq] at H
   obtain ⟨rfl, rfl, rfl, rfl⟩ := H
   have hnb8 := NB246_245.out; have hnc8 := NB245_246.out; obtain ⟨hcz9_0, hcz9_1, hcz9_2, hfz9_0, hfz9_1, hfz9_2⟩ := xf3 (w := w4) BK246; obtain ⟨hcz10_0, hcz10_1, hcz10_2, hfz10_0, hfz10_1, hfz10_2⟩ := xf3 (w := w4) BK245
   go_wp2_with (first | ((with_reducible refine gate_store (t := 28) (p := 2) rfl ?_); refine store_event (t := 28) (p := 2) (v := ?vo_w11) (w1 := ((((((w4.setCell ⟨gb246, 0, none⟩ (.int .i64 0)).setCell ⟨gb246, 1, none⟩ (.int .i64 0)).setCell ⟨gb246, 2, none⟩ (.slice none 0 0)).setCell ⟨gb245, 0, none⟩ (.int .i64 0)).setCell ⟨gb245, 1, none⟩ (.int .i64 0)).setCell ⟨gb245, 2, none⟩ (.slice none 0 0))) ?hg ?ho ?hn ?hr ?_; (case ho | hg | hn => rfl); (case hr => first | (go_simp; done) | (go_simp; rfl)); intro w11 hw; replace BK245 : Aside0 (w11.heap[gb245]? = some (.cells #[.int .i64 0, .int .i64 0, .slice none 0 0] 28 (0, 0))) := ⟨(by rw [hw]; exact (by (with_reducible repeat (first | refine blk_drewN ?_ _ | refine blk_drew ?_ | refine blk_alloc ?_ _)); refine blk_put (cs := #[.int .i64 0, .int .i64 0, .slice none 0 0]) ?_ 2 _ rfl; (with_reducible repeat (first | refine blk_drewN ?_ _ | refine blk_drew ?_ | refine blk_alloc ?_ _)); refine blk_put (cs := #[.int .i64 0, .int .i64 0, .slice none 0 0]) ?_ 1 _ rfl; (with_reducible repeat (first | refine blk_drewN ?_ _ | refine blk_drew ?_ | refine blk_alloc ?_ _)); refine blk_put (cs := #[.int .i64 0, .int .i64 0, .slice none 0 0]) ?_ 0 _ rfl; (with_reducible repeat (first | refine blk_drewN ?_ _ | refine blk_drew ?_ | refine blk_alloc ?_ _)); refine blk_far ?_ NB245_246.out _; (with_reducible repeat (first | refine blk_drewN ?_ _ | refine blk_drew ?_ | refine blk_alloc ?_ _)); refine blk_far ?_ NB245_246.out _; (with_reducible repeat (first | refine blk_drewN ?_ _ | refine blk_drew ?_ | refine blk_alloc ?_ _)); refine blk_far ?_ NB245_246.out _; (with_reducible repeat (first | refine blk_drewN ?_ _ | refine blk_drew ?_ | refine blk_alloc ?_ _)); exact BK245.out))⟩; replace BK246 : Aside0 (w11.heap[gb246]? = some (.cells #[.int .i64 0, .int .i64 0, .slice none 0 0] 28 (0, 0))) := ⟨(by rw [hw]; exact (by (with_reducible repeat (first | refine blk_drewN ?_ _ | refine blk_drew ?_ | refine blk_alloc ?_ _)); refine blk_far ?_ NB246_245.out _; (with_reducible repeat (first | refine blk_drewN ?_ _ | refine blk_drew ?_ | refine blk_alloc ?_ _)); refine blk_far ?_ NB246_245.out _; (with_reducible repeat (first | refine blk_drewN ?_ _ | refine blk_drew ?_ | refine blk_alloc ?_ _)); refine blk_far ?_ NB246_245.out _; (with_reducible repeat (first | refine blk_drewN ?_ _ | refine blk_drew ?_ | refine blk_alloc ?_ _)); refine blk_put (cs := #[.int .i64 0, .int .i64 0, .slice none 0 0]) ?_ 2 _ rfl; (with_reducible repeat (first | refine blk_drewN ?_ _ | refine blk_drew ?_ | refine blk_alloc ?_ _)); refine blk_put (cs := #[.int .i64 0, .int .i64 0, .slice none 0 0]) ?_ 1 _ rfl; (with_reducible repeat (first | refine blk_drewN ?_ _ | refine blk_drew ?_ | refine blk_alloc ?_ _)); refine blk_put (cs := #[.int .i64 0, .int .i64 0, .slice none 0 0]) ?_ 0 _ rfl; (with_reducible repeat (first | refine blk_drewN ?_ _ | refine blk_drew ?_ | refine blk_alloc ?_ _)); exact BK246.out))⟩; replace HB : Aside0 (Below w.heap.size w w11) := ⟨(by rw [hw]; exact xbg)⟩; clear hw))
   refine bodyPost_ret (results_ct rfl _ _ gb245 28 #[.int .i64 0, .int .i64 0, .slice none 0 0] (0, 0) _ rfl xblk Try.underlying28 rfl (by kernel_rfl)) rfl ?_
   exact ⟨_, by first | rfl | (simp [errW_none, errW_some] <;> rfl) | (simp [*, errW_none, errW_some] <;> rfl), by first | exact Kd.R_nil _ _ _ _ _ | exact Kd.N_nil _ _ _ _ _ | exact Kd.V_nil _ _ _ _ _ | exact Kd.Q_nil _ _ _ _ _ | exact Kd.S_nil _ _ _ _ _, xbg⟩
  ·rw [if_neg c7] at H
   have c7b0 : decide (2000 < (l0.length : Int)) = false := decide_eq_false c7; have c7b1 : decide (2000 < l0.length) = false := decide_eq_false (by omega); clear c7
   (first | rw [c7b0] | (simp only [i64_w, i32_w]; rw [c7b0]) | skip)
   have H' := aM H
   clear H
   go_wp2
   go_meet
   case rel => exact ⟨_, (0), (0), H', ⟨by first | omega | exact Nat.le_refl _⟩, ⟨by (with_reducible repeat (first | refine blk_drewN ?_ _ | refine blk_drew ?_ | refine blk_alloc ?_ _)); refine blk_far ?_ NB245_246.out _; (with_reducible repeat (first | refine blk_drewN ?_ _ | refine blk_drew ?_ | refine blk_alloc ?_ _)); refine blk_far ?_ NB245_246.out _; (with_reducible repeat (first | refine blk_drewN ?_ _ | refine blk_drew ?_ | refine blk_alloc ?_ _)); refine blk_far ?_ NB245_246.out _; (with_reducible repeat (first | refine blk_drewN ?_ _ | refine blk_drew ?_ | refine blk_alloc ?_ _)); exact BK245.out⟩, ⟨by (with_reducible repeat (first | refine blk_drewN ?_ _ | refine blk_drew ?_ | refine blk_alloc ?_ _)); refine blk_put (cs := #[.int .i64 0, .int .i64 0, .slice none 0 0]) ?_ 2 _ rfl; (with_reducible repeat (first | refine blk_drewN ?_ _ | refine blk_drew ?_ | refine blk_alloc ?_ _)); refine blk_put (cs := #[.int .i64 0, .int .i64 0, .slice none 0 0]) ?_ 1 _ rfl; (with_reducible repeat (first | refine blk_drewN ?_ _ | refine blk_drew ?_ | refine blk_alloc ?_ _)); refine blk_put (cs := #[.int .i64 0, .int .i64 0, .slice none 0 0]) ?_ 0 _ rfl; (with_reducible repeat (first | refine blk_drewN ?_ _ | refine blk_drew ?_ | refine blk_alloc ?_ _)); exact BK246.out⟩, ⟨xbg⟩⟩
 case rest =>
  clear HC2
  try clear c1
  try clear p2
  try clear c5
  try clear c7
  try clear c7b0
  try clear c7b1
  try clear c8
  try clear hcz10_0
  try clear hcz10_1
  try clear hcz10_2
  try clear hcz6_0
  try clear hcz6_1
  try clear hcz6_2
  try clear hcz9_0
  try clear hcz9_1
  try clear hcz9_2
  try clear hfz10_0
  try clear hfz10_1
  try clear hfz10_2
  try clear hfz6_0
  try clear hfz6_1
  try clear hfz6_2
  try clear hfz9_0
  try clear hfz9_1
  try clear hfz9_2
  obtain ⟨kq, x246000_1, x246001_1, HA, HJ1, BK245, BK246, HB⟩ := hcut
  cases kq with
  | zero => exact absurd HA.out (by simp [spec_HardOf.j0])
  | succ kj1 =>
   have H := HA.out; clear HA
   simp only [spec_HardOf.j0] at H
   have H' := aM H
   clear H
   go_wp2
   go_loopg [5] kj1 (fun kq v5 w' => ∃ (x5_2 : Int) (x246000_2 : Int) (x246001_2 : Int) (x247000_2 : Int) (x247001_2 : Int) (x247002_2 : List (S36)) (u247002 : Value), v5 = .int .i64 x5_2 ∧ Aside0 (spec_HardOf.l0 kq l0 x5_2 x247000_2 x247001_2 x247002_2 = some (r1, r2, r3, r4)) ∧ Aside0 (kq ≤ kj1) ∧ Aside0 (Kd.R k36 36 w' w.heap.size (fun _ => True) u247002 x247002_2) ∧ Aside0 (w'.heap[gb245]? = some (.cells #[.int .i64 x246000_2, .int .i64 x246001_2, (.slice none 0 0)] 28 (0, 0))) ∧ Aside0 (w'.heap[gb246]? = some (.cells #[.int .i64 x247000_2, .int .i64 x247001_2, u247002] 28 (0, 0))) ∧ Aside0 (Below w.heap.size w w'))
   case atStart => exact ⟨(0), (x246000_1), (x246001_1), (0), (0), (([] : List (S36))), (.slice none 0 0), (by first | rfl | (simp; done) | (simp [*]; done)), H', ⟨Nat.le_refl _⟩, ⟨by first | exact Kd.R_nil _ _ _ _ _ | exact Kd.N_nil _ _ _ _ _ | exact Kd.V_nil _ _ _ _ _ | exact Kd.Q_nil _ _ _ _ _ | exact Kd.S_nil _ _ _ _ _⟩, ⟨xblk⟩, ⟨xblk⟩, ⟨xbg⟩⟩
   case round =>
    clear H'
    try clear c1
    try clear p2
    try clear c5
    try clear c7
    try clear c7b0
    try clear c7b1
    try clear c8
    try clear hcz10_0
    try clear hcz10_1
    try clear hcz10_2
    try clear hcz6_0
    try clear hcz6_1
    try clear hcz6_2
    try clear hcz9_0
    try clear hcz9_1
    try clear hcz9_2
    try clear hfz10_0
    try clear hfz10_1
    try clear hfz10_2
    try clear hfz6_0
    try clear hfz6_1
    try clear hfz6_2
    try clear hfz9_0
    try clear hfz9_1
    try clear hfz9_2
    try clear p2
    obtain ⟨x5_2, x246000_2, x246001_2, x247000_2, x247001_2, x247002_2, u247002, rfl, HA, HK2, HO_247002, BK245, BK246, HB⟩ := hrel
    cases gk with
    | zero => exact absurd HA.out (by simp [spec_HardOf.l0])
    | succ k2 =>
     have H := HA.out; clear HA
     simp only [spec_HardOf.l0] at H
     have HC12 := aM H; clear H
     go_upto_if 16 with (fail)
     go_cut [] (fun wc => ∃ (kq : Nat), Aside0 (spec_HardOf.j2 kq l0 x5_2 x247000_2 x247001_2 x247002_2 = some (r1, r2, r3, r4)) ∧ Aside0 (kq ≤ k2) ∧ Aside0 (Kd.R k36 36 wc w.heap.size (fun _ => True) u247002 x247002_2) ∧ Aside0 (wc.heap[gb245]? = some (.cells #[.int .i64 x246000_2, .int .i64 x246001_2, (.slice none 0 0)] 28 (0, 0))) ∧ Aside0 (wc.heap[gb246]? = some (.cells #[.int .i64 x247000_2, .int .i64 x247001_2, u247002] 28 (0, 0))) ∧ Aside0 (Below w.heap.size w wc))
     case first =>
      have H := HC12.out; clear HC12
      by_cases c13 : x5_2 < (l0.length : Int)
      ·rw [if_pos c13] at H
       have c13b0 : decide (x5_2 < (l0.length : Int)) = true := decide_eq_true c13; clear c13
       (first | rw [c13b0] | (simp only [i64_w, i32_w]; rw [c13b0]) | skip)
       have H' := aM H
       clear H
       go_wp2
       go_meet
       case rel => exact ⟨_, H', ⟨by have := HJ1.out; have := HK2.out; first | omega | exact Nat.le_refl _⟩, ⟨by (with_reducible repeat (first | apply Kd.R_alloc | apply Kd.R_drewN | apply Kd.R_drew)); exact HO_247002.out⟩, ⟨xblk⟩, ⟨xblk⟩, ⟨xbg⟩⟩
      ·rw [if_neg c13] at H
       have c13b0 : decide (x5_2 < (l0.length : Int)) = false := decide_eq_false c13; clear c13
       (first | rw [c13b0] | (simp only [i64_w, i32_w]; rw [c13b0]) | skip)
       simp only [Option.some.injEq, Prod.mk.injEq] at H
       obtain ⟨rfl, rfl, rfl, rfl⟩ := H
       have hnb14 := NB246_245.out; have hnc14 := NB245_246.out; obtain ⟨hcz15_0, hcz15_1, hcz15_2, hfz15_0, hfz15_1, hfz15_2⟩ := xf3 (w := wr) BK246; obtain ⟨hcz16_0, hcz16_1, hcz16_2, hfz16_0, hfz16_1, hfz16_2⟩ := xf3 (w := wr) BK245
       obtain ⟨Ao17, co17, eo17⟩ := Kd.R_slice HO_247002.out
       subst eo17
       go_wp2
       refine bodyPost_ret (results_ct rfl _ _ gb245 28 #[.int .i64 x247000_2, .int .i64 x247001_2, .slice Ao17 x247002_2.length co17] (0, 0) _ rfl (by (with_reducible repeat (first | refine blk_drewN ?_ _ | refine blk_drew ?_ | refine blk_alloc ?_ _)); refine blk_put (cs := #[.int .i64 x247000_2, .int .i64 x247001_2, .slice none 0 0]) ?_ 2 _ rfl; (with_reducible repeat (first | refine blk_drewN ?_ _ | refine blk_drew ?_ | refine blk_alloc ?_ _)); refine blk_put (cs := #[.int .i64 x247000_2, .int .i64 x246001_2, .slice none 0 0]) ?_ 1 _ rfl; (with_reducible repeat (first | refine blk_drewN ?_ _ | refine blk_drew ?_ | refine blk_alloc ?_ _)); refine blk_put (cs := #[.int .i64 x246000_2, .int .i64 x246001_2, .slice none 0 0]) ?_ 0 _ rfl; (with_reducible repeat (first | refine blk_drewN ?_ _ | refine blk_drew ?_ | refine blk_alloc ?_ _)); exact BK245.out) Try.underlying28 rfl (by kernel_rfl)) rfl ?_
       exact ⟨_, by first | rfl | (simp [errW_none, errW_some] <;> rfl) | (simp [*, errW_none, errW_some] <;> rfl), by (with_reducible repeat (first | apply Kd.R_alloc | apply Kd.R_drewN | apply Kd.R_drew)); exact Kd.R_mono (Kd.R_far (p := ⟨gb245, 2, none⟩) (Kd.R_far (p := ⟨gb245, 1, none⟩) (Kd.R_far (p := ⟨gb245, 0, none⟩) (Kd.R_types HO_247002.out BK245.out (by decide)) (fun _ hk => hk.2) (.int .i64 x247000_2)) (fun _ hk => hk.2) (.int .i64 x247001_2)) (fun _ hk => hk.2) (.slice Ao17 x247002_2.length co17)) (fun _ hk => trivial), xbg⟩
     case rest =>
      clear HC12
      try clear c1
      try clear p2
      try clear c5
      try clear c7
      try clear c7b0
      try clear c7b1
      try clear c8
      try clear c13
      try clear c13b0
      try clear c14
      try clear hcz10_0
      try clear hcz10_1
      try clear hcz10_2
      try clear hcz15_0
      try clear hcz15_1
      try clear hcz15_2
      try clear hcz16_0
      try clear hcz16_1
      try clear hcz16_2
      try clear hcz6_0
      try clear hcz6_1
      try clear hcz6_2
      try clear hcz9_0
      try clear hcz9_1
      try clear hcz9_2
      try clear hfz10_0
      try clear hfz10_1
      try clear hfz10_2
      try clear hfz15_0
      try clear hfz15_1
      try clear hfz15_2
      try clear hfz16_0
      try clear hfz16_1
      try clear hfz16_2
      try clear hfz6_0
      try clear hfz6_1
      try clear hfz6_2
      try clear hfz9_0
      try clear hfz9_1
      try clear hfz9_2
      try clear p2
      obtain ⟨kq, HA, HJ11, HO_247002, BK245, BK246, HB⟩ := hcut
      cases kq with
      | zero => exact absurd HA.out (by simp [spec_HardOf.j2])
      | succ kj11 =>
       have H := HA.out; clear HA
       simp only [spec_HardOf.j2] at H
       by_cases c18 : 0 ≤ x5_2
       ·rw [if_pos c18] at H
        have c18b0 : decide (0 ≤ x5_2) = true := decide_eq_true c18; clear c18
        by_cases c19 : x5_2 < (l0.length : Int)
        ·rw [if_pos c19] at H
         have c19b0 : decide (x5_2 < (l0.length : Int)) = true := decide_eq_true c19; clear c19; replace H := Option.bind_eq_some_iff.mp H
         obtain ⟨⟨t248, t249, t250, t253⟩, A200, H⟩ := H
         replace H : (if t253 = true then (spec_HardOf.j3 kj11 l0 x5_2 t248 t249 t250) else (some (x247000_2, x247001_2, x247002_2, x5_2))) = some (r1, r2, r3, r4) := H; have A20 := aM A200; clear A200; have HC21 := aM H; clear H
         obtain ⟨Ao22, co22, eo22⟩ := Kd.R_slice HO_247002.out
         subst eo22
         try go_wp2
         replace HO_247002 := aM (Kd.R_drew HO_247002.out); replace BK245 := aM (blk_drew BK245.out); replace BK246 := aM (blk_drew BK246.out); replace HB := aM (below_drew1 HB.out); have p247 : 0 ≤ (x5_2 : Int) := oda; have q247 : x5_2 < (l0.length : Int) := oda
         obtain ⟨ad247, e247, hx247_0, hx247_1, hx247_2, hx247_3, hx247_4, hx247_5, hx247_6, hx247_7, hx247_8, hx247_9⟩ := at_T38 HR0.out x5_2 p247 q247
         have hw247_9 := hx247_9; have hw247_8 := hx247_8; have hw247_7 := hx247_7; have hw247_6 := hx247_6; have hw247_5 := hx247_5; have hw247_4 := hx247_4; have hw247_3 := hx247_3; have hw247_2 := hx247_2; have hw247_1 := hx247_1; have hw247_0 := hx247_0
         cases e247
         replace hx247_0 := xce HB hx247_0; replace hx247_1 := xce HB hx247_1; replace hx247_2 := xce HB hx247_2; replace hx247_3 := xce HB hx247_3; replace hx247_4 := xce HB hx247_4; replace hx247_5 := xce HB hx247_5; replace hx247_6 := xce HB hx247_6; replace hx247_7 := xce HB hx247_7; replace hx247_8 := xce HB hx247_8; replace hx247_9 := xce HB hx247_9; replace p247 := eq_true p247; replace q247 := eq_true q247
         refine start_ (n := 12) (S := fun w' => w'.cell? ⟨gb246, 0, none⟩ = some (.int .i64 x247000_2) ∧ w'.cell? ⟨gb246, 1, none⟩ = some (.int .i64 x247001_2) ∧ w'.cell? ⟨gb246, 2, none⟩ = some (.slice Ao22 x247002_2.length co22) ∧ w'.cell? (ad247.add ((x5_2).toNat * 10)) = some (.int .i64 ((rd_T38 l0 x5_2).f0)) ∧ w'.cell? ⟨(ad247.add ((x5_2).toNat * 10)).block, (ad247.add ((x5_2).toNat * 10)).off + 1, none⟩ = some (.int .i64 ((rd_T38 l0 x5_2).f1)) ∧ w'.cell? ⟨(ad247.add ((x5_2).toNat * 10)).block, (ad247.add ((x5_2).toNat * 10)).off + 2, none⟩ = some (.int .i64 ((rd_T38 l0 x5_2).f2)) ∧ w'.cell? ⟨(ad247.add ((x5_2).toNat * 10)).block, (ad247.add ((x5_2).toNat * 10)).off + 3, none⟩ = some (.int .i64 ((rd_T38 l0 x5_2).f3)) ∧ w'.cell? ⟨(ad247.add ((x5_2).toNat * 10)).block, (ad247.add ((x5_2).toNat * 10)).off + 4, none⟩ = some (.int .i64 ((rd_T38 l0 x5_2).f4.f0)) ∧ w'.cell? ⟨(ad247.add ((x5_2).toNat * 10)).block, (ad247.add ((x5_2).toNat * 10)).off + 5, none⟩ = some (.int .i64 ((rd_T38 l0 x5_2).f4.f1.f0)) ∧ w'.cell? ⟨(ad247.add ((x5_2).toNat * 10)).block, (ad247.add ((x5_2).toNat * 10)).off + 6, none⟩ = some (.int .i64 ((rd_T38 l0 x5_2).f4.f1.f1)) ∧ w'.cell? ⟨(ad247.add ((x5_2).toNat * 10)).block, (ad247.add ((x5_2).toNat * 10)).off + 7, none⟩ = some (.int .i64 ((rd_T38 l0 x5_2).f4.f1.f2)) ∧ w'.cell? ⟨(ad247.add ((x5_2).toNat * 10)).block, (ad247.add ((x5_2).toNat * 10)).off + 8, none⟩ = some (.int .i64 ((rd_T38 l0 x5_2).f4.f1.f3)) ∧ w'.cell? ⟨(ad247.add ((x5_2).toNat * 10)).block, (ad247.add ((x5_2).toNat * 10)).off + 9, none⟩ = some (.string ((rd_T38 l0 x5_2).f4.f1.f4))) (ds := []) #[false, false, false, false, false, false, false, false, false, false, false, false] (by kernel_rfl) rfl rfl ⟨xc BK246 0 rfl, xc BK246 1 rfl, xc BK246 2 rfl, (xce HB hw247_0), (xce HB hw247_1), (xce HB hw247_2), (xce HB hw247_3), (xce HB hw247_4), (xce HB hw247_5), (xce HB hw247_6), (xce HB hw247_7), (xce HB hw247_8), (xce HB hw247_9)⟩ (fun hHeld => ?_); refine with_tabW spec_HardOf.tab7 spec_HardOf.bits7 (fun HT_ HW_ => ?_)
         generalize wc.drew = w23 at HO_247002 BK245 BK246 HB hx247_0 hx247_1 hx247_2 hx247_3 hx247_4 hx247_5 hx247_6 hx247_7 hx247_8 hx247_9 hHeld ⊢
         refine pv_ 1 21 (h := ?_)
         refine pv_ 2 22 (h := ?_)
         refine pv_ 3 23 (h := ?_)
         refine tk_ 0 20 (h := ?_)
         refine tk_ 4 24 (h := ?_)
         refine join_ (σ := Value × Nat) 2 #[true, true, true, true, true, true, true, true, true, true, false, false] (fun s_ => [(25, .tuple #[.agg #[.int .i64 t248, .int .i64 t249, s_.1], .bool t253]), (6, .pointer (some ⟨s_.2, 0, none⟩)), (19, .tuple #[.agg #[.int .i64 t248, .int .i64 t249, s_.1], .bool t253]), (26, .agg #[.int .i64 t248, .int .i64 t249, s_.1]), (27, .bool t253)]) (fun s_ w' => (w'.cell? ⟨gb246, 0, none⟩ = some (.int .i64 x247000_2) ∧ w'.cell? ⟨gb246, 1, none⟩ = some (.int .i64 x247001_2) ∧ w'.cell? ⟨gb246, 2, none⟩ = some (.slice Ao22 x247002_2.length co22) ∧ w'.cell? (ad247.add ((x5_2).toNat * 10)) = some (.int .i64 ((rd_T38 l0 x5_2).f0)) ∧ w'.cell? ⟨(ad247.add ((x5_2).toNat * 10)).block, (ad247.add ((x5_2).toNat * 10)).off + 1, none⟩ = some (.int .i64 ((rd_T38 l0 x5_2).f1)) ∧ w'.cell? ⟨(ad247.add ((x5_2).toNat * 10)).block, (ad247.add ((x5_2).toNat * 10)).off + 2, none⟩ = some (.int .i64 ((rd_T38 l0 x5_2).f2)) ∧ w'.cell? ⟨(ad247.add ((x5_2).toNat * 10)).block, (ad247.add ((x5_2).toNat * 10)).off + 3, none⟩ = some (.int .i64 ((rd_T38 l0 x5_2).f3)) ∧ w'.cell? ⟨(ad247.add ((x5_2).toNat * 10)).block, (ad247.add ((x5_2).toNat * 10)).off + 4, none⟩ = some (.int .i64 ((rd_T38 l0 x5_2).f4.f0)) ∧ w'.cell? ⟨(ad247.add ((x5_2).toNat * 10)).block, (ad247.add ((x5_2).toNat * 10)).off + 5, none⟩ = some (.int .i64 ((rd_T38 l0 x5_2).f4.f1.f0)) ∧ w'.cell? ⟨(ad247.add ((x5_2).toNat * 10)).block, (ad247.add ((x5_2).toNat * 10)).off + 6, none⟩ = some (.int .i64 ((rd_T38 l0 x5_2).f4.f1.f1)) ∧ w'.cell? ⟨(ad247.add ((x5_2).toNat * 10)).block, (ad247.add ((x5_2).toNat * 10)).off + 7, none⟩ = some (.int .i64 ((rd_T38 l0 x5_2).f4.f1.f2)) ∧ w'.cell? ⟨(ad247.add ((x5_2).toNat * 10)).block, (ad247.add ((x5_2).toNat * 10)).off + 8, none⟩ = some (.int .i64 ((rd_T38 l0 x5_2).f4.f1.f3)) ∧ w'.cell? ⟨(ad247.add ((x5_2).toNat * 10)).block, (ad247.add ((x5_2).toNat * 10)).off + 9, none⟩ = some (.string ((rd_T38 l0 x5_2).f4.f1.f4))) ∧ (Kd.R k36 36 w' w.heap.size (fun k_ => some k_ ≠ (.slice Ao22 x247002_2.length co22 : Value).ownBlock) s_.1 t250) ∧ (Kd.R k36 36 w' w.heap.size (fun k_ => some k_ ≠ (s_.1 : Value).ownBlock) (.slice Ao22 x247002_2.length co22) x247002_2) ∧ (w'.heap[gb245]? = some (.cells #[.int .i64 x246000_2, .int .i64 x246001_2, .slice none 0 0] 28 (0, 0))) ∧ (w'.heap[gb246]? = some (.cells #[.int .i64 x247000_2, .int .i64 x247001_2, .slice Ao22 x247002_2.length co22] 28 (0, 0))) ∧ (w'.heap[s_.2]? = some (.cells #[.int .i64 0, .int .i64 0, .slice none 0 0] 28 (0, 0))) ∧ (w.heap.size ≤ s_.2) ∧ (w.heap.size ≤ s_.2) ∧ (gb245 ≠ s_.2) ∧ (s_.2 ≠ gb245) ∧ (gb246 ≠ s_.2) ∧ (s_.2 ≠ gb246) ∧ (Below w.heap.size w w')) ?_ ?_
         rotate_left
         ·intro hCont
          refine two_ (i := 5) (j := 9) (Ni := some 25) (Nj := some 6) #[true, true, true, true, true, true, false, false, false, false, false, false] #[true, true, true, true, true, false, false, false, false, true, false, false] rfl rfl rfl rfl (two_of HT_.out (by kernel_rfl)) (by decide) (by decide) (fun K hK => ?_) (fun K hK => ?_)
          ·skip
           refine goesY Try.func31 #[.agg #[.int .i64 x247000_2, .int .i64 x247001_2, .slice Ao22 x247002_2.length co22], .agg #[.int .i64 ((rd_T38 l0 x5_2).f0), .int .i64 ((rd_T38 l0 x5_2).f1), .int .i64 ((rd_T38 l0 x5_2).f2), .int .i64 ((rd_T38 l0 x5_2).f3), .int .i64 ((rd_T38 l0 x5_2).f4.f0), .int .i64 ((rd_T38 l0 x5_2).f4.f1.f0), .int .i64 ((rd_T38 l0 x5_2).f4.f1.f1), .int .i64 ((rd_T38 l0 x5_2).f4.f1.f2), .int .i64 ((rd_T38 l0 x5_2).f4.f1.f3), .string ((rd_T38 l0 x5_2).f4.f1.f4)]] ?_
           with_reducible refine (spec_HardApply.calls kj11 x247000_2 x247001_2 _ _ x247002_2 ((rd_T38 l0 x5_2).f0) ((rd_T38 l0 x5_2).f1) ((rd_T38 l0 x5_2).f2) ((rd_T38 l0 x5_2).f3) ((rd_T38 l0 x5_2).f4.f0) ((rd_T38 l0 x5_2).f4.f1.f0) ((rd_T38 l0 x5_2).f4.f1.f1) ((rd_T38 l0 x5_2).f4.f1.f2) ((rd_T38 l0 x5_2).f4.f1.f3) ((rd_T38 l0 x5_2).f4.f1.f4) t248 t249 t250 t253 _ ?side1 ?side2 A20.out).mono ?_
           (case side1 => repeat (first | exact (Kd.R_reads' HO_247002.out).2.2 | (with_reducible refine Kd.C_alloc ?_ _) | (with_reducible refine Kd.C_drewN ?_ _) | (with_reducible refine Kd.C_drew ?_)))
           (case side2 => exact (Kd.R_reads' HO_247002.out).2.1)
           rintro e w24 ⟨v251, rfl, ho0, hb⟩
           refine ⟨_, rfl, ?_⟩
           have HO252 := aM (Kd.R_lower (Kd.R_new' ho0 (Kd.R_lt (xr HO_247002))) (below_size xbg)); replace HO_247002 := aM (Kd.R_elder' (xr HO_247002) (Kd.R_base ho0) hb); replace BK245 := xbb BK245 hb; replace BK246 := xbb BK246 hb; replace HB := xbs hb
           (try clear hb); (try clear hb2); (try clear hk); (try clear hi); (try clear ho0)
           refine hK.out _ _ ⟨xc BK246 0 rfl, xc BK246 1 rfl, xc BK246 2 rfl, (xce HB hw247_0), (xce HB hw247_1), (xce HB hw247_2), (xce HB hw247_3), (xce HB hw247_4), (xce HB hw247_5), (xce HB hw247_6), (xce HB hw247_7), (xce HB hw247_8), (xce HB hw247_9)⟩ (fun hHeld => ?_)
           clear hK K
           refine norm_ (a' := ?_) ?_ ?_
           rotate_left
           ·show Act.put _ (some 25) _ = _
            simp only [Act.put, List.setIfInBounds_toArray, List.set_cons_zero, List.set_cons_succ, i64_w, i32_w]
            rfl
           refine pv_ 6 19 (h := ?_)
           refine pv_ 7 26 (h := ?_)
           refine pv_ 8 27 (h := ?_)
           refine on_ 9 6 (h := fun K hK => ?_)
           refine box_step ?hg (N := 6) ?hd (cs := #[.int .i64 0, .int .i64 0, .slice none 0 0]) (t := 28) ?hr ?_; (case hd => rfl); (case hg => rfl); (case hr => first | (go_simp; done) | (go_simp; rfl))
           intro gb254 hg w25 hbox hb
           replace HO_247002 := aM (Kd.R_below (xr HO_247002) hb); replace HO252 := aM (Kd.R_below (xr HO252) hb); have GW254 := aM (xge hg); have GE254 := aM (xge hg); replace HB := xbs hb; have NB245_254 := aM ((by rw [hg]; exact Nat.ne_of_lt (blk_lt (g := gb245) (o := .cells #[.int .i64 x246000_2, .int .i64 x246001_2, .slice none 0 0] 28 (0, 0)) xblk) : gb245 ≠ gb254)); have NB254_245 := aM ((by rw [hg]; exact Nat.ne_of_gt (blk_lt (g := gb245) (o := .cells #[.int .i64 x246000_2, .int .i64 x246001_2, .slice none 0 0] 28 (0, 0)) xblk) : gb254 ≠ gb245)); have NB246_254 := aM ((by rw [hg]; exact Nat.ne_of_lt (blk_lt (g := gb246) (o := .cells #[.int .i64 x247000_2, .int .i64 x247001_2, .slice Ao22 x247002_2.length co22] 28 (0, 0)) xblk) : gb246 ≠ gb254)); have NB254_246 := aM ((by rw [hg]; exact Nat.ne_of_gt (blk_lt (g := gb246) (o := .cells #[.int .i64 x247000_2, .int .i64 x247001_2, .slice Ao22 x247002_2.length co22] 28 (0, 0)) xblk) : gb254 ≠ gb246)); replace BK245 := xbb BK245 hb; replace BK246 := xbb BK246 hb; have BK254 := aM (hbox); clear hb hbox hg
           refine hK.out _ _ ⟨xc BK246 0 rfl, xc BK246 1 rfl, xc BK246 2 rfl, (xce HB hw247_0), (xce HB hw247_1), (xce HB hw247_2), (xce HB hw247_3), (xce HB hw247_4), (xce HB hw247_5), (xce HB hw247_6), (xce HB hw247_7), (xce HB hw247_8), (xce HB hw247_9)⟩ (fun hHeld => ?_)
           clear hK K
           refine norm_ (a' := ?_) ?_ ?_
           rotate_left
           ·show Act.put _ (some 6) _ = _
            simp only [Act.put, List.setIfInBounds_toArray, List.set_cons_zero, List.set_cons_succ, i64_w, i32_w]
            rfl
           exact norm_ (by simp only [putAll, Act.put, List.setIfInBounds_toArray, List.set_cons_zero, List.set_cons_succ]) (hCont (v251, gb254) _ ⟨hHeld, (by (with_reducible repeat (first | apply Kd.R_alloc | apply Kd.R_drewN | apply Kd.R_drew)); exact Kd.R_mono HO252.out (fun _ hk => hk.2)), (by (with_reducible repeat (first | apply Kd.R_alloc | apply Kd.R_drewN | apply Kd.R_drew)); exact Kd.R_mono HO_247002.out (fun _ hk => hk.2)), xblk, xblk, xblk, GW254.out, GE254.out, NB245_254.out, NB254_245.out, NB246_254.out, NB254_246.out, xbg⟩)
          ·skip
           refine box_step ?hg (N := 6) ?hd (cs := #[.int .i64 0, .int .i64 0, .slice none 0 0]) (t := 28) ?hr ?_; (case hd => rfl); (case hg => rfl); (case hr => first | (go_simp; done) | (go_simp; rfl))
           intro gb254 hg w24 hbox hb
           replace HO_247002 := aM (Kd.R_below (xr HO_247002) hb); have GW254 := aM (xge hg); have GE254 := aM (xge hg); replace HB := xbs hb; have NB245_254 := aM ((by rw [hg]; exact Nat.ne_of_lt (blk_lt (g := gb245) (o := .cells #[.int .i64 x246000_2, .int .i64 x246001_2, .slice none 0 0] 28 (0, 0)) xblk) : gb245 ≠ gb254)); have NB254_245 := aM ((by rw [hg]; exact Nat.ne_of_gt (blk_lt (g := gb245) (o := .cells #[.int .i64 x246000_2, .int .i64 x246001_2, .slice none 0 0] 28 (0, 0)) xblk) : gb254 ≠ gb245)); have NB246_254 := aM ((by rw [hg]; exact Nat.ne_of_lt (blk_lt (g := gb246) (o := .cells #[.int .i64 x247000_2, .int .i64 x247001_2, .slice Ao22 x247002_2.length co22] 28 (0, 0)) xblk) : gb246 ≠ gb254)); have NB254_246 := aM ((by rw [hg]; exact Nat.ne_of_gt (blk_lt (g := gb246) (o := .cells #[.int .i64 x247000_2, .int .i64 x247001_2, .slice Ao22 x247002_2.length co22] 28 (0, 0)) xblk) : gb254 ≠ gb246)); replace BK245 := xbb BK245 hb; replace BK246 := xbb BK246 hb; have BK254 := aM (hbox); clear hb hbox hg
           refine hK.out _ _ ⟨xc BK246 0 rfl, xc BK246 1 rfl, xc BK246 2 rfl, (xce HB hw247_0), (xce HB hw247_1), (xce HB hw247_2), (xce HB hw247_3), (xce HB hw247_4), (xce HB hw247_5), (xce HB hw247_6), (xce HB hw247_7), (xce HB hw247_8), (xce HB hw247_9)⟩ (fun hHeld => ?_)
           clear hK K
           refine norm_ (a' := ?_) ?_ ?_
           rotate_left
           ·show Act.put _ (some 6) _ = _
            simp only [Act.put, List.setIfInBounds_toArray, List.set_cons_zero, List.set_cons_succ, i64_w, i32_w]
            rfl
           refine on_ 5 25 (h := fun K hK => ?_)
           refine goesY Try.func31 #[.agg #[.int .i64 x247000_2, .int .i64 x247001_2, .slice Ao22 x247002_2.length co22], .agg #[.int .i64 ((rd_T38 l0 x5_2).f0), .int .i64 ((rd_T38 l0 x5_2).f1), .int .i64 ((rd_T38 l0 x5_2).f2), .int .i64 ((rd_T38 l0 x5_2).f3), .int .i64 ((rd_T38 l0 x5_2).f4.f0), .int .i64 ((rd_T38 l0 x5_2).f4.f1.f0), .int .i64 ((rd_T38 l0 x5_2).f4.f1.f1), .int .i64 ((rd_T38 l0 x5_2).f4.f1.f2), .int .i64 ((rd_T38 l0 x5_2).f4.f1.f3), .string ((rd_T38 l0 x5_2).f4.f1.f4)]] ?_
           with_reducible refine (spec_HardApply.calls kj11 x247000_2 x247001_2 _ _ x247002_2 ((rd_T38 l0 x5_2).f0) ((rd_T38 l0 x5_2).f1) ((rd_T38 l0 x5_2).f2) ((rd_T38 l0 x5_2).f3) ((rd_T38 l0 x5_2).f4.f0) ((rd_T38 l0 x5_2).f4.f1.f0) ((rd_T38 l0 x5_2).f4.f1.f1) ((rd_T38 l0 x5_2).f4.f1.f2) ((rd_T38 l0 x5_2).f4.f1.f3) ((rd_T38 l0 x5_2).f4.f1.f4) t248 t249 t250 t253 _ ?side1 ?side2 A20.out).mono ?_
           (case side1 => repeat (first | exact (Kd.R_reads' HO_247002.out).2.2 | (with_reducible refine Kd.C_alloc ?_ _) | (with_reducible refine Kd.C_drewN ?_ _) | (with_reducible refine Kd.C_drew ?_)))
           (case side2 => exact (Kd.R_reads' HO_247002.out).2.1)
           rintro e w25 ⟨v251, rfl, ho0, hb⟩
           refine ⟨_, rfl, ?_⟩
           have HO252 := aM (Kd.R_lower (Kd.R_new' ho0 (Kd.R_lt (xr HO_247002))) (below_size xbg)); replace HO_247002 := aM (Kd.R_elder' (xr HO_247002) (Kd.R_base ho0) hb); replace BK245 := xbb BK245 hb; replace BK246 := xbb BK246 hb; replace BK254 := xbb BK254 hb; replace HB := xbs hb
           (try clear hb); (try clear hb2); (try clear hk); (try clear hi); (try clear ho0)
           refine hK.out _ _ ⟨xc BK246 0 rfl, xc BK246 1 rfl, xc BK246 2 rfl, (xce HB hw247_0), (xce HB hw247_1), (xce HB hw247_2), (xce HB hw247_3), (xce HB hw247_4), (xce HB hw247_5), (xce HB hw247_6), (xce HB hw247_7), (xce HB hw247_8), (xce HB hw247_9)⟩ (fun hHeld => ?_)
           clear hK K
           refine norm_ (a' := ?_) ?_ ?_
           rotate_left
           ·show Act.put _ (some 25) _ = _
            simp only [Act.put, List.setIfInBounds_toArray, List.set_cons_zero, List.set_cons_succ, i64_w, i32_w]
            rfl
           refine pv_ 6 19 (h := ?_)
           refine pv_ 7 26 (h := ?_)
           refine pv_ 8 27 (h := ?_)
           exact norm_ (by simp only [putAll, Act.put, List.setIfInBounds_toArray, List.set_cons_zero, List.set_cons_succ]) (hCont (v251, gb254) _ ⟨hHeld, (by (with_reducible repeat (first | apply Kd.R_alloc | apply Kd.R_drewN | apply Kd.R_drew)); exact Kd.R_mono HO252.out (fun _ hk => hk.2)), (by (with_reducible repeat (first | apply Kd.R_alloc | apply Kd.R_drewN | apply Kd.R_drew)); exact Kd.R_mono HO_247002.out (fun _ hk => hk.2)), xblk, xblk, xblk, GW254.out, GE254.out, NB245_254.out, NB254_245.out, NB246_254.out, NB254_246.out, xbg⟩)
         rintro ⟨v251, gb254⟩ w26 ⟨hS_, h0_, h1_, h2_, h3_, h4_, h5_, h6_, h7_, h8_, h9_, h10_, h11_⟩
         have n0_ : Aside0 (Kd.R k36 36 w26 w.heap.size (fun k_ => some k_ ≠ (.slice Ao22 x247002_2.length co22 : Value).ownBlock) v251 t250) := ⟨h0_⟩; have n1_ : Aside0 (Kd.R k36 36 w26 w.heap.size (fun k_ => some k_ ≠ (v251 : Value).ownBlock) (.slice Ao22 x247002_2.length co22) x247002_2) := ⟨h1_⟩; have n2_ : Aside0 (w26.heap[gb245]? = some (.cells #[.int .i64 x246000_2, .int .i64 x246001_2, .slice none 0 0] 28 (0, 0))) := ⟨h2_⟩; have n3_ : Aside0 (w26.heap[gb246]? = some (.cells #[.int .i64 x247000_2, .int .i64 x247001_2, .slice Ao22 x247002_2.length co22] 28 (0, 0))) := ⟨h3_⟩; have n4_ : Aside0 (w26.heap[gb254]? = some (.cells #[.int .i64 0, .int .i64 0, .slice none 0 0] 28 (0, 0))) := ⟨h4_⟩; have n5_ : Aside0 (w.heap.size ≤ gb254) := ⟨h5_⟩; have n6_ : Aside0 (w.heap.size ≤ gb254) := ⟨h6_⟩; have n7_ : Aside0 (gb245 ≠ gb254) := ⟨h7_⟩; have n8_ : Aside0 (gb254 ≠ gb245) := ⟨h8_⟩; have n9_ : Aside0 (gb246 ≠ gb254) := ⟨h9_⟩; have n10_ : Aside0 (gb254 ≠ gb246) := ⟨h10_⟩; have n11_ : Aside0 (Below w.heap.size w w26) := ⟨h11_⟩; clear HO_247002 BK245 BK246 HB h0_ h1_ h2_ h3_ h4_ h5_ h6_ h7_ h8_ h9_ h10_ h11_; have HO252 := n0_; have HO_247002 := n1_; have BK245 := n2_; have BK246 := n3_; have BK254 := n4_; have GW254 := n5_; have GE254 := n6_; have NB245_254 := n7_; have NB254_245 := n8_; have NB246_254 := n9_; have NB254_246 := n10_; have HB := n11_; clear n0_ n1_ n2_ n3_ n4_ n5_ n6_ n7_ n8_ n9_ n10_ n11_; have hHeld : w26.cell? ⟨gb246, 0, none⟩ = some (.int .i64 x247000_2) ∧ w26.cell? ⟨gb246, 1, none⟩ = some (.int .i64 x247001_2) ∧ w26.cell? ⟨gb246, 2, none⟩ = some (.slice Ao22 x247002_2.length co22) ∧ w26.cell? (ad247.add ((x5_2).toNat * 10)) = some (.int .i64 ((rd_T38 l0 x5_2).f0)) ∧ w26.cell? ⟨(ad247.add ((x5_2).toNat * 10)).block, (ad247.add ((x5_2).toNat * 10)).off + 1, none⟩ = some (.int .i64 ((rd_T38 l0 x5_2).f1)) ∧ w26.cell? ⟨(ad247.add ((x5_2).toNat * 10)).block, (ad247.add ((x5_2).toNat * 10)).off + 2, none⟩ = some (.int .i64 ((rd_T38 l0 x5_2).f2)) ∧ w26.cell? ⟨(ad247.add ((x5_2).toNat * 10)).block, (ad247.add ((x5_2).toNat * 10)).off + 3, none⟩ = some (.int .i64 ((rd_T38 l0 x5_2).f3)) ∧ w26.cell? ⟨(ad247.add ((x5_2).toNat * 10)).block, (ad247.add ((x5_2).toNat * 10)).off + 4, none⟩ = some (.int .i64 ((rd_T38 l0 x5_2).f4.f0)) ∧ w26.cell? ⟨(ad247.add ((x5_2).toNat * 10)).block, (ad247.add ((x5_2).toNat * 10)).off + 5, none⟩ = some (.int .i64 ((rd_T38 l0 x5_2).f4.f1.f0)) ∧ w26.cell? ⟨(ad247.add ((x5_2).toNat * 10)).block, (ad247.add ((x5_2).toNat * 10)).off + 6, none⟩ = some (.int .i64 ((rd_T38 l0 x5_2).f4.f1.f1)) ∧ w26.cell? ⟨(ad247.add ((x5_2).toNat * 10)).block, (ad247.add ((x5_2).toNat * 10)).off + 7, none⟩ = some (.int .i64 ((rd_T38 l0 x5_2).f4.f1.f2)) ∧ w26.cell? ⟨(ad247.add ((x5_2).toNat * 10)).block, (ad247.add ((x5_2).toNat * 10)).off + 8, none⟩ = some (.int .i64 ((rd_T38 l0 x5_2).f4.f1.f3)) ∧ w26.cell? ⟨(ad247.add ((x5_2).toNat * 10)).block, (ad247.add ((x5_2).toNat * 10)).off + 9, none⟩ = some (.string ((rd_T38 l0 x5_2).f4.f1.f4)) := hS_
         obtain ⟨Ao29, co29, eo29⟩ := Kd.R_slice HO252.out
         (first | subst eo29 | (injection eo29 with f1_ f2_ f3_; have f4_ := f1_.symm; have f5_ := f3_.symm; clear f1_ f2_ f3_; subst f4_; subst f5_))
         refine norm_ (a' := ?_) ?_ ?_
         rotate_left
         ·simp only [putAll, Act.put, List.setIfInBounds_toArray, List.set_cons_zero, List.set_cons_succ]
          rfl
         refine one_ (i := 10) (N := none) #[true, true, true, true, true, true, true, true, true, true, true, false] rfl rfl (one_of HT_.out (by kernel_rfl)) (by decide) (fun K hK => ?_)
         have hs27 : w26.cell? ⟨gb254, 0, none⟩ = some (.int .i64 0) := xc BK254 0 rfl; have hfs27 := blk_frozen BK254.out 0; have hns27_0 := NB245_254.out; have hns27_1 := NB246_254.out; have hms27_0 := NB254_245.out; have hms27_1 := NB254_246.out; have hs28 : w26.cell? ⟨gb254, 1, none⟩ = some (.int .i64 0) := xc BK254 1 rfl; have hfs28 := blk_frozen BK254.out 1; have hns28_0 := NB245_254.out; have hns28_1 := NB246_254.out; have hms28_0 := NB254_245.out; have hms28_1 := NB254_246.out; have hs30 : w26.cell? ⟨gb254, 2, none⟩ = some (.slice none 0 0) := xc BK254 2 rfl; have hfs30 := blk_frozen BK254.out 2; have hns30_0 := NB245_254.out; have hns30_1 := NB246_254.out; have hms30_0 := NB254_245.out; have hms30_1 := NB254_246.out
         refine skip_ (w1 := ?_) (by rfl) rfl ?_ ?_
         rotate_left
         ·go_simp
          rfl
         refine hK.out _ _ ⟨((cell_far (p := ⟨gb254, _, none⟩) NB246_254.out _).trans (((cell_far (p := ⟨gb254, _, none⟩) NB246_254.out _).trans (((cell_far (p := ⟨gb254, _, none⟩) NB246_254.out _).trans (hHeld.1)))))), ((cell_far (p := ⟨gb254, _, none⟩) NB246_254.out _).trans (((cell_far (p := ⟨gb254, _, none⟩) NB246_254.out _).trans (((cell_far (p := ⟨gb254, _, none⟩) NB246_254.out _).trans (hHeld.2.1)))))), ((cell_far (p := ⟨gb254, _, none⟩) NB246_254.out _).trans (((cell_far (p := ⟨gb254, _, none⟩) NB246_254.out _).trans (((cell_far (p := ⟨gb254, _, none⟩) NB246_254.out _).trans (hHeld.2.2.1)))))), ((cell_far (p := ⟨gb254, _, none⟩) (by first | exact Nat.ne_of_lt (Nat.lt_of_lt_of_le (by have := World.block_lt_of_cell? _ _ hw247_0; first | rwa [add_block] at this | exact this) GW254.out) | (rw [add_block]; exact Nat.ne_of_lt (Nat.lt_of_lt_of_le (by have := World.block_lt_of_cell? _ _ hw247_0; first | rwa [add_block] at this | exact this) GW254.out)) | (show (Addr.add _ _).block ≠ _; rw [add_block]; exact Nat.ne_of_lt (Nat.lt_of_lt_of_le (by have := World.block_lt_of_cell? _ _ hw247_0; first | rwa [add_block] at this | exact this) GW254.out)) | (dsimp only; exact Nat.ne_of_lt (Nat.lt_of_lt_of_le (by have := World.block_lt_of_cell? _ _ hw247_0; first | rwa [add_block] at this | exact this) GW254.out))) _).trans (((cell_far (p := ⟨gb254, _, none⟩) (by first | exact Nat.ne_of_lt (Nat.lt_of_lt_of_le (by have := World.block_lt_of_cell? _ _ hw247_0; first | rwa [add_block] at this | exact this) GW254.out) | (rw [add_block]; exact Nat.ne_of_lt (Nat.lt_of_lt_of_le (by have := World.block_lt_of_cell? _ _ hw247_0; first | rwa [add_block] at this | exact this) GW254.out)) | (show (Addr.add _ _).block ≠ _; rw [add_block]; exact Nat.ne_of_lt (Nat.lt_of_lt_of_le (by have := World.block_lt_of_cell? _ _ hw247_0; first | rwa [add_block] at this | exact this) GW254.out)) | (dsimp only; exact Nat.ne_of_lt (Nat.lt_of_lt_of_le (by have := World.block_lt_of_cell? _ _ hw247_0; first | rwa [add_block] at this | exact this) GW254.out))) _).trans (((cell_far (p := ⟨gb254, _, none⟩) (by first | exact Nat.ne_of_lt (Nat.lt_of_lt_of_le (by have := World.block_lt_of_cell? _ _ hw247_0; first | rwa [add_block] at this | exact this) GW254.out) | (rw [add_block]; exact Nat.ne_of_lt (Nat.lt_of_lt_of_le (by have := World.block_lt_of_cell? _ _ hw247_0; first | rwa [add_block] at this | exact this) GW254.out)) | (show (Addr.add _ _).block ≠ _; rw [add_block]; exact Nat.ne_of_lt (Nat.lt_of_lt_of_le (by have := World.block_lt_of_cell? _ _ hw247_0; first | rwa [add_block] at this | exact this) GW254.out)) | (dsimp only; exact Nat.ne_of_lt (Nat.lt_of_lt_of_le (by have := World.block_lt_of_cell? _ _ hw247_0; first | rwa [add_block] at this | exact this) GW254.out))) _).trans (hHeld.2.2.2.1)))))), ((cell_far (p := ⟨gb254, _, none⟩) (by first | exact Nat.ne_of_lt (Nat.lt_of_lt_of_le (by have := World.block_lt_of_cell? _ _ hw247_1; first | rwa [add_block] at this | exact this) GW254.out) | (rw [add_block]; exact Nat.ne_of_lt (Nat.lt_of_lt_of_le (by have := World.block_lt_of_cell? _ _ hw247_1; first | rwa [add_block] at this | exact this) GW254.out)) | (show (Addr.add _ _).block ≠ _; rw [add_block]; exact Nat.ne_of_lt (Nat.lt_of_lt_of_le (by have := World.block_lt_of_cell? _ _ hw247_1; first | rwa [add_block] at this | exact this) GW254.out)) | (dsimp only; exact Nat.ne_of_lt (Nat.lt_of_lt_of_le (by have := World.block_lt_of_cell? _ _ hw247_1; first | rwa [add_block] at this | exact this) GW254.out))) _).trans (((cell_far (p := ⟨gb254, _, none⟩) (by first | exact Nat.ne_of_lt (Nat.lt_of_lt_of_le (by have := World.block_lt_of_cell? _ _ hw247_1; first | rwa [add_block] at this | exact this) GW254.out) | (rw [add_block]; exact Nat.ne_of_lt (Nat.lt_of_lt_of_le (by have := World.block_lt_of_cell? _ _ hw247_1; first | rwa [add_block] at this | exact this) GW254.out)) | (show (Addr.add _ _).block ≠ _; rw [add_block]; exact Nat.ne_of_lt (Nat.lt_of_lt_of_le (by have := World.block_lt_of_cell? _ _ hw247_1; first | rwa [add_block] at this | exact this) GW254.out)) | (dsimp only; exact Nat.ne_of_lt (Nat.lt_of_lt_of_le (by have := World.block_lt_of_cell? _ _ hw247_1; first | rwa [add_block] at this | exact this) GW254.out))) _).trans (((cell_far (p := ⟨gb254, _, none⟩) (by first | exact Nat.ne_of_lt (Nat.lt_of_lt_of_le (by have := World.block_lt_of_cell? _ _ hw247_1; first | rwa [add_block] at this | exact this) GW254.out) | (rw [add_block]; exact Nat.ne_of_lt (Nat.lt_of_lt_of_le (by have := World.block_lt_of_cell? _ _ hw247_1; first | rwa [add_block] at this | exact this) GW254.out)) | (show (Addr.add _ _).block ≠ _; rw [add_block]; exact Nat.ne_of_lt (Nat.lt_of_lt_of_le (by have := World.block_lt_of_cell? _ _ hw247_1; first | rwa [add_block] at this | exact this) GW254.out)) | (dsimp only; exact Nat.ne_of_lt (Nat.lt_of_lt_of_le (by have := World.block_lt_of_cell? _ _ hw247_1; first | rwa [add_block] at this | exact this) GW254.out))) _).trans (hHeld.2.2.2.2.1)))))), ((cell_far (p := ⟨gb254, _, none⟩) (by first | exact Nat.ne_of_lt (Nat.lt_of_lt_of_le (by have := World.block_lt_of_cell? _ _ hw247_2; first | rwa [add_block] at this | exact this) GW254.out) | (rw [add_block]; exact Nat.ne_of_lt (Nat.lt_of_lt_of_le (by have := World.block_lt_of_cell? _ _ hw247_2; first | rwa [add_block] at this | exact this) GW254.out)) | (show (Addr.add _ _).block ≠ _; rw [add_block]; exact Nat.ne_of_lt (Nat.lt_of_lt_of_le (by have := World.block_lt_of_cell? _ _ hw247_2; first | rwa [add_block] at this | exact this) GW254.out)) | (dsimp only; exact Nat.ne_of_lt (Nat.lt_of_lt_of_le (by have := World.block_lt_of_cell? _ _ hw247_2; first | rwa [add_block] at this | exact this) GW254.out))) _).trans (((cell_far (p := ⟨gb254, _, none⟩) (by first | exact Nat.ne_of_lt (Nat.lt_of_lt_of_le (by have := World.block_lt_of_cell? _ _ hw247_2; first | rwa [add_block] at this | exact this) GW254.out) | (rw [add_block]; exact Nat.ne_of_lt (Nat.lt_of_lt_of_le (by have := World.block_lt_of_cell? _ _ hw247_2; first | rwa [add_block] at this | exact this) GW254.out)) | (show (Addr.add _ _).block ≠ _; rw [add_block]; exact Nat.ne_of_lt (Nat.lt_of_lt_of_le (by have := World.block_lt_of_cell? _ _ hw247_2; first | rwa [add_block] at this | exact this) GW254.out)) | (dsimp only; exact Nat.ne_of_lt (Nat.lt_of_lt_of_le (by have := World.block_lt_of_cell? _ _ hw247_2; first | rwa [add_block] at this | exact this) GW254.out))) _).trans (((cell_far (p := ⟨gb254, _, none⟩) (by first | exact Nat.ne_of_lt (Nat.lt_of_lt_of_le (by have := World.block_lt_of_cell? _ _ hw247_2; first | rwa [add_block] at this | exact this) GW254.out) | (rw [add_block]; exact Nat.ne_of_lt (Nat.lt_of_lt_of_le (by have := World.block_lt_of_cell? _ _ hw247_2; first | rwa [add_block] at this | exact this) GW254.out)) | (show (Addr.add _ _).block ≠ _; rw [add_block]; exact Nat.ne_of_lt (Nat.lt_of_lt_of_le (by have := World.block_lt_of_cell? _ _ hw247_2; first | rwa [add_block] at this | exact this) GW254.out)) | (dsimp only; exact Nat.ne_of_lt (Nat.lt_of_lt_of_le (by have := World.block_lt_of_cell? _ _ hw247_2; first | rwa [add_block] at this | exact this) GW254.out))) _).trans (hHeld.2.2.2.2.2.1)))))), ((cell_far (p := ⟨gb254, _, none⟩) (by first | exact Nat.ne_of_lt (Nat.lt_of_lt_of_le (by have := World.block_lt_of_cell? _ _ hw247_3; first | rwa [add_block] at this | exact this) GW254.out) | (rw [add_block]; exact Nat.ne_of_lt (Nat.lt_of_lt_of_le (by have := World.block_lt_of_cell? _ _ hw247_3; first | rwa [add_block] at this | exact this) GW254.out)) | (show (Addr.add _ _).block ≠ _; rw [add_block]; exact Nat.ne_of_lt (Nat.lt_of_lt_of_le (by have := World.block_lt_of_cell? _ _ hw247_3; first | rwa [add_block] at this | exact this) GW254.out)) | (dsimp only; exact Nat.ne_of_lt (Nat.lt_of_lt_of_le (by have := World.block_lt_of_cell? _ _ hw247_3; first | rwa [add_block] at this | exact this) GW254.out))) _).trans (((cell_far (p := ⟨gb254, _, none⟩) (by first | exact Nat.ne_of_lt (Nat.lt_of_lt_of_le (by have := World.block_lt_of_cell? _ _ hw247_3; first | rwa [add_block] at this | exact this) GW254.out) | (rw [add_block]; exact Nat.ne_of_lt (Nat.lt_of_lt_of_le (by have := World.block_lt_of_cell? _ _ hw247_3; first | rwa [add_block] at this | exact this) GW254.out)) | (show (Addr.add _ _).block ≠ _; rw [add_block]; exact Nat.ne_of_lt (Nat.lt_of_lt_of_le (by have := World.block_lt_of_cell? _ _ hw247_3; first | rwa [add_block] at this | exact this) GW254.out)) | (dsimp only; exact Nat.ne_of_lt (Nat.lt_of_lt_of_le (by have := World.block_lt_of_cell? _ _ hw247_3; first | rwa [add_block] at this | exact this) GW254.out))) _).trans (((cell_far (p := ⟨gb254, _, none⟩) (by first | exact Nat.ne_of_lt (Nat.lt_of_lt_of_le (by have := World.block_lt_of_cell? _ _ hw247_3; first | rwa [add_block] at this | exact this) GW254.out) | (rw [add_block]; exact Nat.ne_of_lt (Nat.lt_of_lt_of_le (by have := World.block_lt_of_cell? _ _ hw247_3; first | rwa [add_block] at this | exact this) GW254.out)) | (show (Addr.add _ _).block ≠ _; rw [add_block]; exact Nat.ne_of_lt (Nat.lt_of_lt_of_le (by have := World.block_lt_of_cell? _ _ hw247_3; first | rwa [add_block] at this | exact this) GW254.out)) | (dsimp only; exact Nat.ne_of_lt (Nat.lt_of_lt_of_le (by have := World.block_lt_of_cell? _ _ hw247_3; first | rwa [add_block] at this | exact this) GW254.out))) _).trans (hHeld.2.2.2.2.2.2.1)))))), ((cell_far (p := ⟨gb254, _, none⟩) (by first | exact Nat.ne_of_lt (Nat.lt_of_lt_of_le (by have := World.block_lt_of_cell? _ _ hw247_4; first | rwa [add_block] at this | exact this) GW254.out) | (rw [add_block]; exact Nat.ne_of_lt (Nat.lt_of_lt_of_le (by have := World.block_lt_of_cell? _ _ hw247_4; first | rwa [add_block] at this | exact this) GW254.out)) | (show (Addr.add _ _).block ≠ _; rw [add_block]; exact Nat.ne_of_lt (Nat.lt_of_lt_of_le (by have := World.block_lt_of_cell? _ _ hw247_4; first | rwa [add_block] at this | exact this) GW254.out)) | (dsimp only; exact Nat.ne_of_lt (Nat.lt_of_lt_of_le (by have := World.block_lt_of_cell? _ _ hw247_4; first | rwa [add_block] at this | exact this) GW254.out))) _).trans (((cell_far (p := ⟨gb254, _, none⟩) (by first | exact Nat.ne_of_lt (Nat.lt_of_lt_of_le (by have := World.block_lt_of_cell? _ _ hw247_4; first | rwa [add_block] at this | exact this) GW254.out) | (rw [add_block]; exact Nat.ne_of_lt (Nat.lt_of_lt_of_le (by have := World.block_lt_of_cell? _ _ hw247_4; first | rwa [add_block] at this | exact this) GW254.out)) | (show (Addr.add _ _).block ≠ _; rw [add_block]; exact Nat.ne_of_lt (Nat.lt_of_lt_of_le (by have := World.block_lt_of_cell? _ _ hw247_4; first | rwa [add_block] at this | exact this) GW254.out)) | (dsimp only; exact Nat.ne_of_lt (Nat.lt_of_lt_of_le (by have := World.block_lt_of_cell? _ _ hw247_4; first | rwa [add_block] at this | exact this) GW254.out))) _).trans (((cell_far (p := ⟨gb254, _, none⟩) (by first | exact Nat.ne_of_lt (Nat.lt_of_lt_of_le (by have := World.block_lt_of_cell? _ _ hw247_4; first | rwa [add_block] at this | exact this) GW254.out) | (rw [add_block]; exact Nat.ne_of_lt (Nat.lt_of_lt_of_le (by have := World.block_lt_of_cell? _ _ hw247_4; first | rwa [add_block] at this | exact this) GW254.out)) | (show (Addr.add _ _).block ≠ _; rw [add_block]; exact Nat.ne_of_lt (Nat.lt_of_lt_of_le (by have := World.block_lt_of_cell? _ _ hw247_4; first | rwa [add_block] at this | exact this) GW254.out)) | (dsimp only; exact Nat.ne_of_lt (Nat.lt_of_lt_of_le (by have := World.block_lt_of_cell? _ _ hw247_4; first | rwa [add_block] at this | exact this) GW254.out))) _).trans (hHeld.2.2.2.2.2.2.2.1)))))), ((cell_far (p := ⟨gb254, _, none⟩) (by first | exact Nat.ne_of_lt (Nat.lt_of_lt_of_le (by have := World.block_lt_of_cell? _ _ hw247_5; first | rwa [add_block] at this | exact this) GW254.out) | (rw [add_block]; exact Nat.ne_of_lt (Nat.lt_of_lt_of_le (by have := World.block_lt_of_cell? _ _ hw247_5; first | rwa [add_block] at this | exact this) GW254.out)) | (show (Addr.add _ _).block ≠ _; rw [add_block]; exact Nat.ne_of_lt (Nat.lt_of_lt_of_le (by have := World.block_lt_of_cell? _ _ hw247_5; first | rwa [add_block] at this | exact this) GW254.out)) | (dsimp only; exact Nat.ne_of_lt (Nat.lt_of_lt_of_le (by have := World.block_lt_of_cell? _ _ hw247_5; first | rwa [add_block] at this | exact this) GW254.out))) _).trans (((cell_far (p := ⟨gb254, _, none⟩) (by first | exact Nat.ne_of_lt (Nat.lt_of_lt_of_le (by have := World.block_lt_of_cell? _ _ hw247_5; first | rwa [add_block] at this | exact this) GW254.out) | (rw [add_block]; exact Nat.ne_of_lt (Nat.lt_of_lt_of_le (by have := World.block_lt_of_cell? _ _ hw247_5; first | rwa [add_block] at this | exact this) GW254.out)) | (show (Addr.add _ _).block ≠ _; rw [add_block]; exact Nat.ne_of_lt (Nat.lt_of_lt_of_le (by have := World.block_lt_of_cell? _ _ hw247_5; first | rwa [add_block] at this | exact this) GW254.out)) | (dsimp only; exact Nat.ne_of_lt (Nat.lt_of_lt_of_le (by have := World.block_lt_of_cell? _ _ hw247_5; first | rwa [add_block] at this | exact this) GW254.out))) _).trans (((cell_far (p := ⟨gb254, _, none⟩) (by first | exact Nat.ne_of_lt (Nat.lt_of_lt_of_le (by have := World.block_lt_of_cell? _ _ hw247_5; first | rwa [add_block] at this | exact this) GW254.out) | (rw [add_block]; exact Nat.ne_of_lt (Nat.lt_of_lt_of_le (by have := World.block_lt_of_cell? _ _ hw247_5; first | rwa [add_block] at this | exact this) GW254.out)) | (show (Addr.add _ _).block ≠ _; rw [add_block]; exact Nat.ne_of_lt (Nat.lt_of_lt_of_le (by have := World.block_lt_of_cell? _ _ hw247_5; first | rwa [add_block] at this | exact this) GW254.out)) | (dsimp only; exact Nat.ne_of_lt (Nat.lt_of_lt_of_le (by have := World.block_lt_of_cell? _ _ hw247_5; first | rwa [add_block] at this | exact this) GW254.out))) _).trans (hHeld.2.2.2.2.2.2.2.2.1)))))), ((cell_far (p := ⟨gb254, _, none⟩) (by first | exact Nat.ne_of_lt (Nat.lt_of_lt_of_le (by have := World.block_lt_of_cell? _ _ hw247_6; first | rwa [add_block] at this | exact this) GW254.out) | (rw [add_block]; exact Nat.ne_of_lt (Nat.lt_of_lt_of_le (by have := World.block_lt_of_cell? _ _ hw247_6; first | rwa [add_block] at this | exact this) GW254.out)) | (show (Addr.add _ _).block ≠ _; rw [add_block]; exact Nat.ne_of_lt (Nat.lt_of_lt_of_le (by have := World.block_lt_of_cell? _ _ hw247_6; first | rwa [add_block] at this | exact this) GW254.out)) | (dsimp only; exact Nat.ne_of_lt (Nat.lt_of_lt_of_le (by have := World.block_lt_of_cell? _ _ hw247_6; first | rwa [add_block] at this | exact this) GW254.out))) _).trans (((cell_far (p := ⟨gb254, _, none⟩) (by first | exact Nat.ne_of_lt (Nat.lt_of_lt_of_le (by have := World.block_lt_of_cell? _ _ hw247_6; first | rwa [add_block] at this | exact this) GW254.out) | (rw [add_block]; exact Nat.ne_of_lt (Nat.lt_of_lt_of_le (by have := World.block_lt_of_cell? _ _ hw247_6; first | rwa [add_block] at this | exact this) GW254.out)) | (show (Addr.add _ _).block ≠ _; rw [add_block]; exact Nat.ne_of_lt (Nat.lt_of_lt_of_le (by have := World.block_lt_of_cell? _ _ hw247_6; first | rwa [add_block] at this | exact this) GW254.out)) | (dsimp only; exact Nat.ne_of_lt (Nat.lt_of_lt_of_le (by have := World.block_lt_of_cell? _ _ hw247_6; first | rwa [add_block] at this | exact this) GW254.out))) _).trans (((cell_far (p := ⟨gb254, _, none⟩) (by first | exact Nat.ne_of_lt (Nat.lt_of_lt_of_le (by have := World.block_lt_of_cell? _ _ hw247_6; first | rwa [add_block] at this | exact this) GW254.out) | (rw [add_block]; exact Nat.ne_of_lt (Nat.lt_of_lt_of_le (by have := World.block_lt_of_cell? _ _ hw247_6; first | rwa [add_block] at this | exact this) GW254.out)) | (show (Addr.add _ _).block ≠ _; rw [add_block]; exact Nat.ne_of_lt (Nat.lt_of_lt_of_le (by have := World.block_lt_of_cell? _ _ hw247_6; first | rwa [add_block] at this | exact this) GW254.out)) | (dsimp only; exact Nat.ne_of_lt (Nat.lt_of_lt_of_le (by have := World.block_lt_of_cell? _ _ hw247_6; first | rwa [add_block] at this | exact this) GW254.out))) _).trans (hHeld.2.2.2.2.2.2.2.2.2.1)))))), ((cell_far (p := ⟨gb254, _, none⟩) (by first | exact Nat.ne_of_lt (Nat.lt_of_lt_of_le (by have := World.block_lt_of_cell? _ _ hw247_7; first | rwa [add_block] at this | exact this) GW254.out) | (rw [add_block]; exact Nat.ne_of_lt (Nat.lt_of_lt_of_le (by have := World.block_lt_of_cell? _ _ hw247_7; first | rwa [add_block] at this | exact this) GW254.out)) | (show (Addr.add _ _).block ≠ _; rw [add_block]; exact Nat.ne_of_lt (Nat.lt_of_lt_of_le (by have := World.block_lt_of_cell? _ _ hw247_7; first | rwa [add_block] at this | exact this) GW254.out)) | (dsimp only; exact Nat.ne_of_lt (Nat.lt_of_lt_of_le (by have := World.block_lt_of_cell? _ _ hw247_7; first | rwa [add_block] at this | exact this) GW254.out))) _).trans (((cell_far (p := ⟨gb254, _, none⟩) (by first | exact Nat.ne_of_lt (Nat.lt_of_lt_of_le (by have := World.block_lt_of_cell? _ _ hw247_7; first | rwa [add_block] at this | exact this) GW254.out) | (rw [add_block]; exact Nat.ne_of_lt (Nat.lt_of_lt_of_le (by have := World.block_lt_of_cell? _ _ hw247_7; first | rwa [add_block] at this | exact this) GW254.out)) | (show (Addr.add _ _).block ≠ _; rw [add_block]; exact Nat.ne_of_lt (Nat.lt_of_lt_of_le (by have := World.block_lt_of_cell? _ _ hw247_7; first | rwa [add_block] at this | exact this) GW254.out)) | (dsimp only; exact Nat.ne_of_lt (Nat.lt_of_lt_of_le (by have := World.block_lt_of_cell? _ _ hw247_7; first | rwa [add_block] at this | exact this) GW254.out))) _).trans (((cell_far (p := ⟨gb254, _, none⟩) (by first | exact Nat.ne_of_lt (Nat.lt_of_lt_of_le (by have := World.block_lt_of_cell? _ _ hw247_7; first | rwa [add_block] at this | exact this) GW254.out) | (rw [add_block]; exact Nat.ne_of_lt (Nat.lt_of_lt_of_le (by have := World.block_lt_of_cell? _ _ hw247_7; first | rwa [add_block] at this | exact this) GW254.out)) | (show (Addr.add _ _).block ≠ _; rw [add_block]; exact Nat.ne_of_lt (Nat.lt_of_lt_of_le (by have := World.block_lt_of_cell? _ _ hw247_7; first | rwa [add_block] at this | exact this) GW254.out)) | (dsimp only; exact Nat.ne_of_lt (Nat.lt_of_lt_of_le (by have := World.block_lt_of_cell? _ _ hw247_7; first | rwa [add_block] at this | exact this) GW254.out))) _).trans (hHeld.2.2.2.2.2.2.2.2.2.2.1)))))), ((cell_far (p := ⟨gb254, _, none⟩) (by first | exact Nat.ne_of_lt (Nat.lt_of_lt_of_le (by have := World.block_lt_of_cell? _ _ hw247_8; first | rwa [add_block] at this | exact this) GW254.out) | (rw [add_block]; exact Nat.ne_of_lt (Nat.lt_of_lt_of_le (by have := World.block_lt_of_cell? _ _ hw247_8; first | rwa [add_block] at this | exact this) GW254.out)) | (show (Addr.add _ _).block ≠ _; rw [add_block]; exact Nat.ne_of_lt (Nat.lt_of_lt_of_le (by have := World.block_lt_of_cell? _ _ hw247_8; first | rwa [add_block] at this | exact this) GW254.out)) | (dsimp only; exact Nat.ne_of_lt (Nat.lt_of_lt_of_le (by have := World.block_lt_of_cell? _ _ hw247_8; first | rwa [add_block] at this | exact this) GW254.out))) _).trans (((cell_far (p := ⟨gb254, _, none⟩) (by first | exact Nat.ne_of_lt (Nat.lt_of_lt_of_le (by have := World.block_lt_of_cell? _ _ hw247_8; first | rwa [add_block] at this | exact this) GW254.out) | (rw [add_block]; exact Nat.ne_of_lt (Nat.lt_of_lt_of_le (by have := World.block_lt_of_cell? _ _ hw247_8; first | rwa [add_block] at this | exact this) GW254.out)) | (show (Addr.add _ _).block ≠ _; rw [add_block]; exact Nat.ne_of_lt (Nat.lt_of_lt_of_le (by have := World.block_lt_of_cell? _ _ hw247_8; first | rwa [add_block] at this | exact this) GW254.out)) | (dsimp only; exact Nat.ne_of_lt (Nat.lt_of_lt_of_le (by have := World.block_lt_of_cell? _ _ hw247_8; first | rwa [add_block] at this | exact this) GW254.out))) _).trans (((cell_far (p := ⟨gb254, _, none⟩) (by first | exact Nat.ne_of_lt (Nat.lt_of_lt_of_le (by have := World.block_lt_of_cell? _ _ hw247_8; first | rwa [add_block] at this | exact this) GW254.out) | (rw [add_block]; exact Nat.ne_of_lt (Nat.lt_of_lt_of_le (by have := World.block_lt_of_cell? _ _ hw247_8; first | rwa [add_block] at this | exact this) GW254.out)) | (show (Addr.add _ _).block ≠ _; rw [add_block]; exact Nat.ne_of_lt (Nat.lt_of_lt_of_le (by have := World.block_lt_of_cell? _ _ hw247_8; first | rwa [add_block] at this | exact this) GW254.out)) | (dsimp only; exact Nat.ne_of_lt (Nat.lt_of_lt_of_le (by have := World.block_lt_of_cell? _ _ hw247_8; first | rwa [add_block] at this | exact this) GW254.out))) _).trans (hHeld.2.2.2.2.2.2.2.2.2.2.2.1)))))), ((cell_far (p := ⟨gb254, _, none⟩) (by first | exact Nat.ne_of_lt (Nat.lt_of_lt_of_le (by have := World.block_lt_of_cell? _ _ hw247_9; first | rwa [add_block] at this | exact this) GW254.out) | (rw [add_block]; exact Nat.ne_of_lt (Nat.lt_of_lt_of_le (by have := World.block_lt_of_cell? _ _ hw247_9; first | rwa [add_block] at this | exact this) GW254.out)) | (show (Addr.add _ _).block ≠ _; rw [add_block]; exact Nat.ne_of_lt (Nat.lt_of_lt_of_le (by have := World.block_lt_of_cell? _ _ hw247_9; first | rwa [add_block] at this | exact this) GW254.out)) | (dsimp only; exact Nat.ne_of_lt (Nat.lt_of_lt_of_le (by have := World.block_lt_of_cell? _ _ hw247_9; first | rwa [add_block] at this | exact this) GW254.out))) _).trans (((cell_far (p := ⟨gb254, _, none⟩) (by first | exact Nat.ne_of_lt (Nat.lt_of_lt_of_le (by have := World.block_lt_of_cell? _ _ hw247_9; first | rwa [add_block] at this | exact this) GW254.out) | (rw [add_block]; exact Nat.ne_of_lt (Nat.lt_of_lt_of_le (by have := World.block_lt_of_cell? _ _ hw247_9; first | rwa [add_block] at this | exact this) GW254.out)) | (show (Addr.add _ _).block ≠ _; rw [add_block]; exact Nat.ne_of_lt (Nat.lt_of_lt_of_le (by have := World.block_lt_of_cell? _ _ hw247_9; first | rwa [add_block] at this | exact this) GW254.out)) | (dsimp only; exact Nat.ne_of_lt (Nat.lt_of_lt_of_le (by have := World.block_lt_of_cell? _ _ hw247_9; first | rwa [add_block] at this | exact this) GW254.out))) _).trans (((cell_far (p := ⟨gb254, _, none⟩) (by first | exact Nat.ne_of_lt (Nat.lt_of_lt_of_le (by have := World.block_lt_of_cell? _ _ hw247_9; first | rwa [add_block] at this | exact this) GW254.out) | (rw [add_block]; exact Nat.ne_of_lt (Nat.lt_of_lt_of_le (by have := World.block_lt_of_cell? _ _ hw247_9; first | rwa [add_block] at this | exact this) GW254.out)) | (show (Addr.add _ _).block ≠ _; rw [add_block]; exact Nat.ne_of_lt (Nat.lt_of_lt_of_le (by have := World.block_lt_of_cell? _ _ hw247_9; first | rwa [add_block] at this | exact this) GW254.out)) | (dsimp only; exact Nat.ne_of_lt (Nat.lt_of_lt_of_le (by have := World.block_lt_of_cell? _ _ hw247_9; first | rwa [add_block] at this | exact this) GW254.out))) _).trans (hHeld.2.2.2.2.2.2.2.2.2.2.2.2))))))⟩ (fun hHeld => ?_)
         clear hK K
         refine pv_ 11 7 (h := ?_)
         refine done_ (done_of HT_.out (by kernel_rfl)) ?_
         go_upto_if 29 with (fail)
         go_cut [] (fun wc => ∃ (kq : Nat) (x246000_20 : Int) (x246001_20 : Int), Aside0 (spec_HardOf.j3 kq l0 x5_2 t248 t249 t250 = some (r1, r2, r3, r4)) ∧ Aside0 (kq ≤ kj11) ∧ Aside0 (Kd.R k36 36 wc w.heap.size (fun k_ => some k_ ≠ ((.slice Ao29 t250.length co29) : Value).ownBlock) (.slice Ao22 x247002_2.length co22) x247002_2) ∧ Aside0 (Kd.R k36 36 wc w.heap.size (fun k_ => some k_ ≠ ((.slice Ao22 x247002_2.length co22) : Value).ownBlock) (.slice Ao29 t250.length co29) t250) ∧ Aside0 (wc.heap[gb245]? = some (.cells #[.int .i64 x246000_20, .int .i64 x246001_20, (.slice none 0 0)] 28 (0, 0))) ∧ Aside0 (wc.heap[gb246]? = some (.cells #[.int .i64 x247000_2, .int .i64 x247001_2, (.slice Ao22 x247002_2.length co22)] 28 (0, 0))) ∧ Aside0 (wc.heap[gb254]? = some (.cells #[.int .i64 t248, .int .i64 t249, (.slice Ao29 t250.length co29)] 28 (0, 0))) ∧ Aside0 (Below w.heap.size w wc))
         case first =>
          have H := HC21.out; clear HC21
          by_cases c31 : t253 = true
          ·subst c31
           have H1 : (spec_HardOf.j3 kj11 l0 x5_2 t248 t249 t250) = some (r1, r2, r3, r4) := by rw [if_pos rfl] at H; exact H
           clear H; have H := H1; clear H1
           have H' := aM H
           clear H
           go_wp2
           go_meet
           case rel => exact ⟨_, (x246000_2), (x246001_2), H', ⟨by have := HJ1.out; have := HK2.out; have := HJ11.out; first | omega | exact Nat.le_refl _⟩, ⟨by (with_reducible repeat (first | apply Kd.R_alloc | apply Kd.R_drewN | apply Kd.R_drew)); exact Kd.R_mono (Kd.R_far (p := ⟨gb254, 2, none⟩) (Kd.R_far (p := ⟨gb254, 1, none⟩) (Kd.R_far (p := ⟨gb254, 0, none⟩) (Kd.R_types HO_247002.out BK254.out (by decide)) (fun _ hk => hk.2) (.int .i64 t248)) (fun _ hk => hk.2) (.int .i64 t249)) (fun _ hk => hk.2) (.slice Ao29 t250.length co29)) (fun _ hk => hk.1)⟩, ⟨by (with_reducible repeat (first | apply Kd.R_alloc | apply Kd.R_drewN | apply Kd.R_drew)); exact Kd.R_mono (Kd.R_far (p := ⟨gb254, 2, none⟩) (Kd.R_far (p := ⟨gb254, 1, none⟩) (Kd.R_far (p := ⟨gb254, 0, none⟩) (Kd.R_types HO252.out BK254.out (by decide)) (fun _ hk => hk.2) (.int .i64 t248)) (fun _ hk => hk.2) (.int .i64 t249)) (fun _ hk => hk.2) (.slice Ao29 t250.length co29)) (fun _ hk => hk.1)⟩, ⟨by (with_reducible repeat (first | refine blk_drewN ?_ _ | refine blk_drew ?_ | refine blk_alloc ?_ _)); refine blk_far ?_ NB245_254.out _; (with_reducible repeat (first | refine blk_drewN ?_ _ | refine blk_drew ?_ | refine blk_alloc ?_ _)); refine blk_far ?_ NB245_254.out _; (with_reducible repeat (first | refine blk_drewN ?_ _ | refine blk_drew ?_ | refine blk_alloc ?_ _)); refine blk_far ?_ NB245_254.out _; (with_reducible repeat (first | refine blk_drewN ?_ _ | refine blk_drew ?_ | refine blk_alloc ?_ _)); exact BK245.out⟩, ⟨by (with_reducible repeat (first | refine blk_drewN ?_ _ | refine blk_drew ?_ | refine blk_alloc ?_ _)); refine blk_far ?_ NB246_254.out _; (with_reducible repeat (first | refine blk_drewN ?_ _ | refine blk_drew ?_ | refine blk_alloc ?_ _)); refine blk_far ?_ NB246_254.out _; (with_reducible repeat (first | refine blk_drewN ?_ _ | refine blk_drew ?_ | refine blk_alloc ?_ _)); refine blk_far ?_ NB246_254.out _; (with_reducible repeat (first | refine blk_drewN ?_ _ | refine blk_drew ?_ | refine blk_alloc ?_ _)); exact BK246.out⟩, ⟨by (with_reducible repeat (first | refine blk_drewN ?_ _ | refine blk_drew ?_ | refine blk_alloc ?_ _)); refine blk_put (cs := #[.int .i64 t248, .int .i64 t249, .slice none 0 0]) ?_ 2 _ rfl; (with_reducible repeat (first | refine blk_drewN ?_ _ | refine blk_drew ?_ | refine blk_alloc ?_ _)); refine blk_put (cs := #[.int .i64 t248, .int .i64 0, .slice none 0 0]) ?_ 1 _ rfl; (with_reducible repeat (first | refine blk_drewN ?_ _ | refine blk_drew ?_ | refine blk_alloc ?_ _)); refine blk_put (cs := #[.int .i64 0, .int .i64 0, .slice none 0 0]) ?_ 0 _ rfl; (with_reducible repeat (first | refine blk_drewN ?_ _ | refine blk_drew ?_ | refine blk_alloc ?_ _)); exact BK254.out⟩, ⟨xbg⟩⟩
          ·replace c31 := Bool.eq_false_iff.mpr c31
           subst c31
           have H1 : (some (x247000_2, x247001_2, x247002_2, x5_2)) = some (r1, r2, r3, r4) := by rw [if_neg (show ¬ (false = true) by decide)] at H; exact H
           clear H; have H := H1; clear H1
           simp only [Option.some.injEq, Prod.mk.injEq] at H
           obtain ⟨rfl, rfl, rfl, rfl⟩ := H
           have hnb32 := NB246_245.out; have hnc32 := NB245_246.out; have hnb33 := NB246_254.out; have hnc33 := NB254_246.out; obtain ⟨hcz34_0, hcz34_1, hcz34_2, hfz34_0, hfz34_1, hfz34_2⟩ := xf3 (w := w26) BK246; have hnb35 := NB245_254.out; have hnc35 := NB254_245.out; obtain ⟨hcz36_0, hcz36_1, hcz36_2, hfz36_0, hfz36_1, hfz36_2⟩ := xf3 (w := w26) BK245
           go_wp2_with (first | ((with_reducible refine gate_store (t := 28) (p := 2) rfl ?_); refine store_event (t := 28) (p := 2) (v := ?vo_w37) (w1 := ((((((w26.setCell ⟨gb254, 0, none⟩ (.int .i64 t248)).setCell ⟨gb254, 1, none⟩ (.int .i64 t249)).setCell ⟨gb254, 2, none⟩ (.slice Ao29 t250.length co29)).setCell ⟨gb245, 0, none⟩ (.int .i64 x247000_2)).setCell ⟨gb245, 1, none⟩ (.int .i64 x247001_2)).setCell ⟨gb245, 2, none⟩ (.slice Ao22 x247002_2.length co22))) ?hg ?ho ?hn ?hr ?_; (case ho | hg | hn => rfl); (case hr => first | (go_simp; done) | (go_simp; rfl)); intro w37 hw; replace HO_247002 : Aside0 (Kd.R k36 36 w37 w.heap.size (fun k_ => some k_ ≠ (.slice Ao29 t250.length co29 : Value).ownBlock) (.slice Ao22 x247002_2.length co22) x247002_2) := ⟨(by rw [hw]; exact (by (with_reducible repeat (first | apply Kd.R_alloc | apply Kd.R_drewN | apply Kd.R_drew)); exact Kd.R_mono (Kd.R_far (p := ⟨gb245, 2, none⟩) (Kd.R_far (p := ⟨gb245, 1, none⟩) (Kd.R_far (p := ⟨gb245, 0, none⟩) (Kd.R_far (p := ⟨gb254, 2, none⟩) (Kd.R_far (p := ⟨gb254, 1, none⟩) (Kd.R_far (p := ⟨gb254, 0, none⟩) (Kd.R_types (Kd.R_types HO_247002.out BK254.out (by decide)) BK245.out (by decide)) (fun _ hk => hk.1.2) (.int .i64 t248)) (fun _ hk => hk.1.2) (.int .i64 t249)) (fun _ hk => hk.1.2) (.slice Ao29 t250.length co29)) (fun _ hk => hk.2) (.int .i64 x247000_2)) (fun _ hk => hk.2) (.int .i64 x247001_2)) (fun _ hk => hk.2) (.slice Ao22 x247002_2.length co22)) (fun _ hk => hk.1.1)))⟩; replace HO252 : Aside0 (Kd.R k36 36 w37 w.heap.size (fun k_ => some k_ ≠ (.slice Ao22 x247002_2.length co22 : Value).ownBlock) (.slice Ao29 t250.length co29) t250) := ⟨(by rw [hw]; exact (by (with_reducible repeat (first | apply Kd.R_alloc | apply Kd.R_drewN | apply Kd.R_drew)); exact Kd.R_mono (Kd.R_far (p := ⟨gb245, 2, none⟩) (Kd.R_far (p := ⟨gb245, 1, none⟩) (Kd.R_far (p := ⟨gb245, 0, none⟩) (Kd.R_far (p := ⟨gb254, 2, none⟩) (Kd.R_far (p := ⟨gb254, 1, none⟩) (Kd.R_far (p := ⟨gb254, 0, none⟩) (Kd.R_types (Kd.R_types HO252.out BK254.out (by decide)) BK245.out (by decide)) (fun _ hk => hk.1.2) (.int .i64 t248)) (fun _ hk => hk.1.2) (.int .i64 t249)) (fun _ hk => hk.1.2) (.slice Ao29 t250.length co29)) (fun _ hk => hk.2) (.int .i64 x247000_2)) (fun _ hk => hk.2) (.int .i64 x247001_2)) (fun _ hk => hk.2) (.slice Ao22 x247002_2.length co22)) (fun _ hk => hk.1.1)))⟩; replace BK245 : Aside0 (w37.heap[gb245]? = some (.cells #[.int .i64 x247000_2, .int .i64 x247001_2, .slice Ao22 x247002_2.length co22] 28 (0, 0))) := ⟨(by rw [hw]; exact (by (with_reducible repeat (first | refine blk_drewN ?_ _ | refine blk_drew ?_ | refine blk_alloc ?_ _)); refine blk_put (cs := #[.int .i64 x247000_2, .int .i64 x247001_2, .slice none 0 0]) ?_ 2 _ rfl; (with_reducible repeat (first | refine blk_drewN ?_ _ | refine blk_drew ?_ | refine blk_alloc ?_ _)); refine blk_put (cs := #[.int .i64 x247000_2, .int .i64 x246001_2, .slice none 0 0]) ?_ 1 _ rfl; (with_reducible repeat (first | refine blk_drewN ?_ _ | refine blk_drew ?_ | refine blk_alloc ?_ _)); refine blk_put (cs := #[.int .i64 x246000_2, .int .i64 x246001_2, .slice none 0 0]) ?_ 0 _ rfl; (with_reducible repeat (first | refine blk_drewN ?_ _ | refine blk_drew ?_ | refine blk_alloc ?_ _)); refine blk_far ?_ NB245_254.out _; (with_reducible repeat (first | refine blk_drewN ?_ _ | refine blk_drew ?_ | refine blk_alloc ?_ _)); refine blk_far ?_ NB245_254.out _; (with_reducible repeat (first | refine blk_drewN ?_ _ | refine blk_drew ?_ | refine blk_alloc ?_ _)); refine blk_far ?_ NB245_254.out _; (with_reducible repeat (first | refine blk_drewN ?_ _ | refine blk_drew ?_ | refine blk_alloc ?_ _)); exact BK245.out))⟩; replace BK246 : Aside0 (w37.heap[gb246]? = some (.cells #[.int .i64 x247000_2, .int .i64 x247001_2, .slice Ao22 x247002_2.length co22] 28 (0, 0))) := ⟨(by rw [hw]; exact (by (with_reducible repeat (first | refine blk_drewN ?_ _ | refine blk_drew ?_ | refine blk_alloc ?_ _)); refine blk_far ?_ NB246_245.out _; (with_reducible repeat (first | refine blk_drewN ?_ _ | refine blk_drew ?_ | refine blk_alloc ?_ _)); refine blk_far ?_ NB246_245.out _; (with_reducible repeat (first | refine blk_drewN ?_ _ | refine blk_drew ?_ | refine blk_alloc ?_ _)); refine blk_far ?_ NB246_245.out _; (with_reducible repeat (first | refine blk_drewN ?_ _ | refine blk_drew ?_ | refine blk_alloc ?_ _)); refine blk_far ?_ NB246_254.out _; (with_reducible repeat (first | refine blk_drewN ?_ _ | refine blk_drew ?_ | refine blk_alloc ?_ _)); refine blk_far ?_ NB246_254.out _; (with_reducible repeat (first | refine blk_drewN ?_ _ | refine blk_drew ?_ | refine blk_alloc ?_ _)); refine blk_far ?_ NB246_254.out _; (with_reducible repeat (first | refine blk_drewN ?_ _ | refine blk_drew ?_ | refine blk_alloc ?_ _)); exact BK246.out))⟩; replace BK254 : Aside0 (w37.heap[gb254]? = some (.cells #[.int .i64 t248, .int .i64 t249, .slice Ao29 t250.length co29] 28 (0, 0))) := ⟨(by rw [hw]; exact (by (with_reducible repeat (first | refine blk_drewN ?_ _ | refine blk_drew ?_ | refine blk_alloc ?_ _)); refine blk_far ?_ NB254_245.out _; (with_reducible repeat (first | refine blk_drewN ?_ _ | refine blk_drew ?_ | refine blk_alloc ?_ _)); refine blk_far ?_ NB254_245.out _; (with_reducible repeat (first | refine blk_drewN ?_ _ | refine blk_drew ?_ | refine blk_alloc ?_ _)); refine blk_far ?_ NB254_245.out _; (with_reducible repeat (first | refine blk_drewN ?_ _ | refine blk_drew ?_ | refine blk_alloc ?_ _)); refine blk_put (cs := #[.int .i64 t248, .int .i64 t249, .slice none 0 0]) ?_ 2 _ rfl; (with_reducible repeat (first | refine blk_drewN ?_ _ | refine blk_drew ?_ | refine blk_alloc ?_ _)); refine blk_put (cs := #[.int .i64 t248, .int .i64 0, .slice none 0 0]) ?_ 1 _ rfl; (with_reducible repeat (first | refine blk_drewN ?_ _ | refine blk_drew ?_ | refine blk_alloc ?_ _)); refine blk_put (cs := #[.int .i64 0, .int .i64 0, .slice none 0 0]) ?_ 0 _ rfl; (with_reducible repeat (first | refine blk_drewN ?_ _ | refine blk_drew ?_ | refine blk_alloc ?_ _)); exact BK254.out))⟩; replace HB : Aside0 (Below w.heap.size w w37) := ⟨(by rw [hw]; exact xbg)⟩; clear hw))
           refine bodyPost_ret (results_ct rfl _ _ gb245 28 #[.int .i64 x247000_2, .int .i64 x247001_2, .slice Ao22 x247002_2.length co22] (0, 0) _ rfl xblk Try.underlying28 rfl (by kernel_rfl)) rfl ?_
           exact ⟨_, by first | rfl | (simp [errW_none, errW_some] <;> rfl) | (simp [*, errW_none, errW_some] <;> rfl), by (with_reducible repeat (first | apply Kd.R_alloc | apply Kd.R_drewN | apply Kd.R_drew)); exact Kd.R_mono HO_247002.out (fun _ hk => trivial), xbg⟩
         case rest =>
          clear HC21
          try clear c1
          try clear p2
          try clear q2
          try clear hx2
          try clear c3
          try clear c5
          try clear c7
          try clear c7b0
          try clear c7b1
          try clear c8
          try clear c13
          try clear c13b0
          try clear c14
          try clear c18
          try clear c18b0
          try clear c19
          try clear c19b0
          try clear p24
          try clear q24
          try clear hx24
          try clear c31
          try clear c32
          try clear c33
          try clear c35
          try clear hcz10_0
          try clear hcz10_1
          try clear hcz10_2
          try clear hcz15_0
          try clear hcz15_1
          try clear hcz15_2
          try clear hcz16_0
          try clear hcz16_1
          try clear hcz16_2
          try clear hcz34_0
          try clear hcz34_1
          try clear hcz34_2
          try clear hcz36_0
          try clear hcz36_1
          try clear hcz36_2
          try clear hcz6_0
          try clear hcz6_1
          try clear hcz6_2
          try clear hcz9_0
          try clear hcz9_1
          try clear hcz9_2
          try clear hfz10_0
          try clear hfz10_1
          try clear hfz10_2
          try clear hfz15_0
          try clear hfz15_1
          try clear hfz15_2
          try clear hfz16_0
          try clear hfz16_1
          try clear hfz16_2
          try clear hfz34_0
          try clear hfz34_1
          try clear hfz34_2
          try clear hfz36_0
          try clear hfz36_1
          try clear hfz36_2
          try clear hfz6_0
          try clear hfz6_1
          try clear hfz6_2
          try clear hfz9_0
          try clear hfz9_1
          try clear hfz9_2
          try clear hx247_0
          try clear hx247_1
          try clear hx247_2
          try clear hx247_3
          try clear hx247_4
          try clear hx247_5
          try clear hx247_6
          try clear hx247_7
          try clear hx247_8
          try clear hx247_9
          try clear p2
          try clear p247
          try clear q247
          obtain ⟨kq, x246000_20, x246001_20, HA, HJ20, HO_247002, HO_255002, BK245, BK246, BK254, HB⟩ := hcut
          cases kq with
          | zero => exact absurd HA.out (by simp [spec_HardOf.j3])
          | succ kj20 =>
           have H := HA.out; clear HA
           simp only [spec_HardOf.j3] at H
           have H' := aM H
           clear H; have hnb38 := NB254_245.out; have hnc38 := NB245_254.out; have hnb39 := NB254_246.out; have hnc39 := NB246_254.out; obtain ⟨hcz40_0, hcz40_1, hcz40_2, hfz40_0, hfz40_1, hfz40_2⟩ := xf3 (w := wc) BK254; have hnb41 := NB246_245.out; have hnc41 := NB245_246.out; obtain ⟨hcz42_0, hcz42_1, hcz42_2, hfz42_0, hfz42_1, hfz42_2⟩ := xf3 (w := wc) BK246
           go_wp2
           go_roundg kj20
           case measure => have := HJ1.out; have := HK2.out; have := HJ11.out; have := HJ20.out; omega
           case rel => exact ⟨(wrap64 (x5_2 + 1)), (x246000_20), (x246001_20), (t248), (t249), (t250), (.slice Ao29 t250.length co29), (by first | rfl | (simp; done) | (simp [*]; done)), H', ⟨by have := HJ1.out; have := HK2.out; have := HJ11.out; have := HJ20.out; omega⟩, ⟨by (with_reducible repeat (first | apply Kd.R_alloc | apply Kd.R_drewN | apply Kd.R_drew)); exact Kd.R_mono (Kd.R_far (p := ⟨gb246, 2, none⟩) (Kd.R_far (p := ⟨gb246, 1, none⟩) (Kd.R_far (p := ⟨gb246, 0, none⟩) (Kd.R_types HO_255002.out BK246.out (by decide)) (fun _ hk => hk.2) (.int .i64 t248)) (fun _ hk => hk.2) (.int .i64 t249)) (fun _ hk => hk.2) (.slice Ao29 t250.length co29)) (fun _ hk => trivial)⟩, ⟨by (with_reducible repeat (first | refine blk_drewN ?_ _ | refine blk_drew ?_ | refine blk_alloc ?_ _)); refine blk_far ?_ NB245_246.out _; (with_reducible repeat (first | refine blk_drewN ?_ _ | refine blk_drew ?_ | refine blk_alloc ?_ _)); refine blk_far ?_ NB245_246.out _; (with_reducible repeat (first | refine blk_drewN ?_ _ | refine blk_drew ?_ | refine blk_alloc ?_ _)); refine blk_far ?_ NB245_246.out _; (with_reducible repeat (first | refine blk_drewN ?_ _ | refine blk_drew ?_ | refine blk_alloc ?_ _)); exact BK245.out⟩, ⟨by (with_reducible repeat (first | refine blk_drewN ?_ _ | refine blk_drew ?_ | refine blk_alloc ?_ _)); refine blk_put (cs := #[.int .i64 t248, .int .i64 t249, .slice Ao22 x247002_2.length co22]) ?_ 2 _ rfl; (with_reducible repeat (first | refine blk_drewN ?_ _ | refine blk_drew ?_ | refine blk_alloc ?_ _)); refine blk_put (cs := #[.int .i64 t248, .int .i64 x247001_2, .slice Ao22 x247002_2.length co22]) ?_ 1 _ rfl; (with_reducible repeat (first | refine blk_drewN ?_ _ | refine blk_drew ?_ | refine blk_alloc ?_ _)); refine blk_put (cs := #[.int .i64 x247000_2, .int .i64 x247001_2, .slice Ao22 x247002_2.length co22]) ?_ 0 _ rfl; (with_reducible repeat (first | refine blk_drewN ?_ _ | refine blk_drew ?_ | refine blk_alloc ?_ _)); exact BK246.out⟩, ⟨xbg⟩⟩
        ·rw [if_neg c19] at H
         exact absurd H (by simp)
       ·rw [if_neg c18] at H
        exact absurd H (by simp)

/-! ### laws_eqCmd: function 168 -/
def laws_eqCmd.f (a0_0 : Int) (a0_1 : Int) (a0_2 : Int) (a0_3 : Int) (a0_4 : ByteArray) (a1_0 : Int) (a1_1 : Int) (a1_2 : Int) (a1_3 : Int) (a1_4 : ByteArray) : Option (Bool) := if a0_0 = a1_0 then (if a0_1 = a1_1 then (if a0_2 = a1_2 then (if a0_3 = a1_3 then (if a0_4.toList = a1_4.toList then (some true) else (some false)) else (some false)) else (some false)) else (some false)) else (some false)
set_option maxHeartbeats 8000000 in
set_option maxRecDepth 100000 in
theorem laws_eqCmd.calls (a0_0 : Int) (a0_1 : Int) (a0_2 : Int) (a0_3 : Int) (a0_4 : ByteArray) (a1_0 : Int) (a1_1 : Int) (a1_2 : Int) (a1_3 : Int) (a1_4 : ByteArray) (r : Bool) (w : World) (h : laws_eqCmd.f a0_0 a0_1 a0_2 a0_3 a0_4 a1_0 a1_1 a1_2 a1_3 a1_4 = some r) :
 Calls Try.prog 168 #[.agg #[.int .i64 a0_0, .int .i64 a0_1, .int .i64 a0_2, .int .i64 a0_3, .string a0_4], .agg #[.int .i64 a1_0, .int .i64 a1_1, .int .i64 a1_2, .int .i64 a1_3, .string a1_4]] w fun e w' => e = .returned (.bool r) ∧ Below w.heap.size w w' := by
 have hu34 := Try.underlying34
 have HB := aM (Below.refl w.heap.size w)
 have H : (if a0_0 = a1_0 then (if a0_1 = a1_1 then (if a0_2 = a1_2 then (if a0_3 = a1_3 then (if a0_4.toList = a1_4.toList then (some true) else (some false)) else (some false)) else (some false)) else (some false)) else (some false)) = some r := h
 clear h
 by_cases c3 : a0_0 = a1_0
 ·rw [if_pos c3] at H
  have c3b0 : (a0_0 == a1_0) = true := beq_iff_eq.mpr c3; have c3b1 : (a0_0 != a1_0) = false := bne_eq_false_iff_eq.mpr c3; clear c3
  by_cases c4 : a0_1 = a1_1
  ·rw [if_pos c4] at H
   have c4b0 : (a0_1 == a1_1) = true := beq_iff_eq.mpr c4; have c4b1 : (a0_1 != a1_1) = false := bne_eq_false_iff_eq.mpr c4; clear c4
   by_cases c5 : a0_2 = a1_2
   ·rw [if_pos c5] at H
    have c5b0 : (a0_2 == a1_2) = true := beq_iff_eq.mpr c5; have c5b1 : (a0_2 != a1_2) = false := bne_eq_false_iff_eq.mpr c5; clear c5
    by_cases c6 : a0_3 = a1_3
    ·rw [if_pos c6] at H
     have c6b0 : (a0_3 == a1_3) = true := beq_iff_eq.mpr c6; have c6b1 : (a0_3 != a1_3) = false := bne_eq_false_iff_eq.mpr c6; clear c6
     by_cases c7 : a0_4.toList = a1_4.toList
     ·rw [if_pos c7] at H
      have c7b0 : (a0_4.toList == a1_4.toList) = true := beq_iff_eq.mpr c7; have c7b1 : (a0_4.toList != a1_4.toList) = false := bne_eq_false_iff_eq.mpr c7; clear c7
      obtain rfl := Option.some.inj H
      go_enter Try.func168, Try.ntmps168
      go_wp2_with (first | ((with_reducible refine gate_dst (N := 2) rfl ?_); refine box_event ?hg (N := 2) ?hd (cs := #[.int .i64 a0_0, .int .i64 a0_1, .int .i64 a0_2, .int .i64 a0_3, .string a0_4]) (t := 34) ?hr ?_; (case hd => rfl); (case hg => rfl); (case hr => first | (go_simp; done) | (go_simp; rfl)); intro gb255 hg w8 hbox hb; have BK255 := aM (hbox); have GW255 := aM (xge hg); have GE255 := aM (xge hg); replace HB := xbs hb; clear hb hbox hg) | ((with_reducible refine gate_dst (N := 3) rfl ?_); refine box_event ?hg (N := 3) ?hd (cs := #[.int .i64 a1_0, .int .i64 a1_1, .int .i64 a1_2, .int .i64 a1_3, .string a1_4]) (t := 34) ?hr ?_; (case hd => rfl); (case hg => rfl); (case hr => first | (go_simp; done) | (go_simp; rfl)); intro gb256 hg w9 hbox hb; have GW256 := aM (xge hg); have GE256 := aM (xge hg); replace HB := xbs hb; have NB255_256 := aM ((by rw [hg]; exact Nat.ne_of_lt (blk_lt (g := gb255) (o := .cells #[.int .i64 a0_0, .int .i64 a0_1, .int .i64 a0_2, .int .i64 a0_3, .string a0_4] 34 (0, 0)) xblk) : gb255 ≠ gb256)); have NB256_255 := aM ((by rw [hg]; exact Nat.ne_of_gt (blk_lt (g := gb255) (o := .cells #[.int .i64 a0_0, .int .i64 a0_1, .int .i64 a0_2, .int .i64 a0_3, .string a0_4] 34 (0, 0)) xblk) : gb256 ≠ gb255)); replace BK255 := xbb BK255 hb; have BK256 := aM (hbox); clear hb hbox hg; have hnb10 := NB255_256.out; have hnc10 := NB256_255.out; obtain ⟨hcz11_0, hcz11_1, hcz11_2, hcz11_3, hcz11_4, hfz11_0, hfz11_1, hfz11_2, hfz11_3, hfz11_4⟩ := xf5 (w := w9) BK255; obtain ⟨hcz12_0, hcz12_1, hcz12_2, hcz12_3, hcz12_4, hfz12_0, hfz12_1, hfz12_2, hfz12_3, hfz12_4⟩ := xf5 (w := w9) BK256))
      go_ret
      exact ⟨by first | rfl | (simp [errW_none, errW_some] <;> rfl) | (simp [*, errW_none, errW_some] <;> rfl), xbg⟩
     ·rw [if_neg c7] at H
      have c7b0 : (a0_4.toList == a1_4.toList) = false := beq_eq_false_iff_ne.mpr c7; have c7b1 : (a0_4.toList != a1_4.toList) = true := bne_iff_ne.mpr c7
      obtain rfl := Option.some.inj H
      go_enter Try.func168, Try.ntmps168
      go_wp2_with (first | ((with_reducible refine gate_dst (N := 2) rfl ?_); refine box_event ?hg (N := 2) ?hd (cs := #[.int .i64 a0_0, .int .i64 a0_1, .int .i64 a0_2, .int .i64 a0_3, .string a0_4]) (t := 34) ?hr ?_; (case hd => rfl); (case hg => rfl); (case hr => first | (go_simp; done) | (go_simp; rfl)); intro gb255 hg w13 hbox hb; have BK255 := aM (hbox); have GW255 := aM (xge hg); have GE255 := aM (xge hg); replace HB := xbs hb; clear hb hbox hg) | ((with_reducible refine gate_dst (N := 3) rfl ?_); refine box_event ?hg (N := 3) ?hd (cs := #[.int .i64 a1_0, .int .i64 a1_1, .int .i64 a1_2, .int .i64 a1_3, .string a1_4]) (t := 34) ?hr ?_; (case hd => rfl); (case hg => rfl); (case hr => first | (go_simp; done) | (go_simp; rfl)); intro gb256 hg w14 hbox hb; have GW256 := aM (xge hg); have GE256 := aM (xge hg); replace HB := xbs hb; have NB255_256 := aM ((by rw [hg]; exact Nat.ne_of_lt (blk_lt (g := gb255) (o := .cells #[.int .i64 a0_0, .int .i64 a0_1, .int .i64 a0_2, .int .i64 a0_3, .string a0_4] 34 (0, 0)) xblk) : gb255 ≠ gb256)); have NB256_255 := aM ((by rw [hg]; exact Nat.ne_of_gt (blk_lt (g := gb255) (o := .cells #[.int .i64 a0_0, .int .i64 a0_1, .int .i64 a0_2, .int .i64 a0_3, .string a0_4] 34 (0, 0)) xblk) : gb256 ≠ gb255)); replace BK255 := xbb BK255 hb; have BK256 := aM (hbox); clear hb hbox hg; have hnb15 := NB255_256.out; have hnc15 := NB256_255.out; obtain ⟨hcz16_0, hcz16_1, hcz16_2, hcz16_3, hcz16_4, hfz16_0, hfz16_1, hfz16_2, hfz16_3, hfz16_4⟩ := xf5 (w := w14) BK255; obtain ⟨hcz17_0, hcz17_1, hcz17_2, hcz17_3, hcz17_4, hfz17_0, hfz17_1, hfz17_2, hfz17_3, hfz17_4⟩ := xf5 (w := w14) BK256))
      go_ret
      exact ⟨by first | rfl | (simp [errW_none, errW_some] <;> rfl) | (simp [*, errW_none, errW_some] <;> rfl), xbg⟩
    ·rw [if_neg c6] at H
     have c6b0 : (a0_3 == a1_3) = false := beq_eq_false_iff_ne.mpr c6; have c6b1 : (a0_3 != a1_3) = true := bne_iff_ne.mpr c6
     obtain rfl := Option.some.inj H
     go_enter Try.func168, Try.ntmps168
     go_wp2_with (first | ((with_reducible refine gate_dst (N := 2) rfl ?_); refine box_event ?hg (N := 2) ?hd (cs := #[.int .i64 a0_0, .int .i64 a0_1, .int .i64 a0_2, .int .i64 a0_3, .string a0_4]) (t := 34) ?hr ?_; (case hd => rfl); (case hg => rfl); (case hr => first | (go_simp; done) | (go_simp; rfl)); intro gb255 hg w18 hbox hb; have BK255 := aM (hbox); have GW255 := aM (xge hg); have GE255 := aM (xge hg); replace HB := xbs hb; clear hb hbox hg) | ((with_reducible refine gate_dst (N := 3) rfl ?_); refine box_event ?hg (N := 3) ?hd (cs := #[.int .i64 a1_0, .int .i64 a1_1, .int .i64 a1_2, .int .i64 a1_3, .string a1_4]) (t := 34) ?hr ?_; (case hd => rfl); (case hg => rfl); (case hr => first | (go_simp; done) | (go_simp; rfl)); intro gb256 hg w19 hbox hb; have GW256 := aM (xge hg); have GE256 := aM (xge hg); replace HB := xbs hb; have NB255_256 := aM ((by rw [hg]; exact Nat.ne_of_lt (blk_lt (g := gb255) (o := .cells #[.int .i64 a0_0, .int .i64 a0_1, .int .i64 a0_2, .int .i64 a0_3, .string a0_4] 34 (0, 0)) xblk) : gb255 ≠ gb256)); have NB256_255 := aM ((by rw [hg]; exact Nat.ne_of_gt (blk_lt (g := gb255) (o := .cells #[.int .i64 a0_0, .int .i64 a0_1, .int .i64 a0_2, .int .i64 a0_3, .string a0_4] 34 (0, 0)) xblk) : gb256 ≠ gb255)); replace BK255 := xbb BK255 hb; have BK256 := aM (hbox); clear hb hbox hg; have hnb20 := NB255_256.out; have hnc20 := NB256_255.out; obtain ⟨hcz21_0, hcz21_1, hcz21_2, hcz21_3, hcz21_4, hfz21_0, hfz21_1, hfz21_2, hfz21_3, hfz21_4⟩ := xf5 (w := w19) BK255; obtain ⟨hcz22_0, hcz22_1, hcz22_2, hcz22_3, hcz22_4, hfz22_0, hfz22_1, hfz22_2, hfz22_3, hfz22_4⟩ := xf5 (w := w19) BK256))
     go_ret
     exact ⟨by first | rfl | (simp [errW_none, errW_some] <;> rfl) | (simp [*, errW_none, errW_some] <;> rfl), xbg⟩
   ·rw [if_neg c5] at H
    have c5b0 : (a0_2 == a1_2) = false := beq_eq_false_iff_ne.mpr c5; have c5b1 : (a0_2 != a1_2) = true := bne_iff_ne.mpr c5
    obtain rfl := Option.some.inj H
    go_enter Try.func168, Try.ntmps168
    go_wp2_with (first | ((with_reducible refine gate_dst (N := 2) rfl ?_); refine box_event ?hg (N := 2) ?hd (cs := #[.int .i64 a0_0, .int .i64 a0_1, .int .i64 a0_2, .int .i64 a0_3, .string a0_4]) (t := 34) ?hr ?_; (case hd => rfl); (case hg => rfl); (case hr => first | (go_simp; done) | (go_simp; rfl)); intro gb255 hg w23 hbox hb; have BK255 := aM (hbox); have GW255 := aM (xge hg); have GE255 := aM (xge hg); replace HB := xbs hb; clear hb hbox hg) | ((with_reducible refine gate_dst (N := 3) rfl ?_); refine box_event ?hg (N := 3) ?hd (cs := #[.int .i64 a1_0, .int .i64 a1_1, .int .i64 a1_2, .int .i64 a1_3, .string a1_4]) (t := 34) ?hr ?_; (case hd => rfl); (case hg => rfl); (case hr => first | (go_simp; done) | (go_simp; rfl)); intro gb256 hg w24 hbox hb; have GW256 := aM (xge hg); have GE256 := aM (xge hg); replace HB := xbs hb; have NB255_256 := aM ((by rw [hg]; exact Nat.ne_of_lt (blk_lt (g := gb255) (o := .cells #[.int .i64 a0_0, .int .i64 a0_1, .int .i64 a0_2, .int .i64 a0_3, .string a0_4] 34 (0, 0)) xblk) : gb255 ≠ gb256)); have NB256_255 := aM ((by rw [hg]; exact Nat.ne_of_gt (blk_lt (g := gb255) (o := .cells #[.int .i64 a0_0, .int .i64 a0_1, .int .i64 a0_2, .int .i64 a0_3, .string a0_4] 34 (0, 0)) xblk) : gb256 ≠ gb255)); replace BK255 := xbb BK255 hb; have BK256 := aM (hbox); clear hb hbox hg; have hnb25 := NB255_256.out; have hnc25 := NB256_255.out; obtain ⟨hcz26_0, hcz26_1, hcz26_2, hcz26_3, hcz26_4, hfz26_0, hfz26_1, hfz26_2, hfz26_3, hfz26_4⟩ := xf5 (w := w24) BK255; obtain ⟨hcz27_0, hcz27_1, hcz27_2, hcz27_3, hcz27_4, hfz27_0, hfz27_1, hfz27_2, hfz27_3, hfz27_4⟩ := xf5 (w := w24) BK256))
    go_ret
    exact ⟨by first | rfl | (simp [errW_none, errW_some] <;> rfl) | (simp [*, errW_none, errW_some] <;> rfl), xbg⟩
  ·rw [if_neg c4] at H
   have c4b0 : (a0_1 == a1_1) = false := beq_eq_false_iff_ne.mpr c4; have c4b1 : (a0_1 != a1_1) = true := bne_iff_ne.mpr c4
   obtain rfl := Option.some.inj H
   go_enter Try.func168, Try.ntmps168
   go_wp2_with (first | ((with_reducible refine gate_dst (N := 2) rfl ?_); refine box_event ?hg (N := 2) ?hd (cs := #[.int .i64 a0_0, .int .i64 a0_1, .int .i64 a0_2, .int .i64 a0_3, .string a0_4]) (t := 34) ?hr ?_; (case hd => rfl); (case hg => rfl); (case hr => first | (go_simp; done) | (go_simp; rfl)); intro gb255 hg w28 hbox hb; have BK255 := aM (hbox); have GW255 := aM (xge hg); have GE255 := aM (xge hg); replace HB := xbs hb; clear hb hbox hg) | ((with_reducible refine gate_dst (N := 3) rfl ?_); refine box_event ?hg (N := 3) ?hd (cs := #[.int .i64 a1_0, .int .i64 a1_1, .int .i64 a1_2, .int .i64 a1_3, .string a1_4]) (t := 34) ?hr ?_; (case hd => rfl); (case hg => rfl); (case hr => first | (go_simp; done) | (go_simp; rfl)); intro gb256 hg w29 hbox hb; have GW256 := aM (xge hg); have GE256 := aM (xge hg); replace HB := xbs hb; have NB255_256 := aM ((by rw [hg]; exact Nat.ne_of_lt (blk_lt (g := gb255) (o := .cells #[.int .i64 a0_0, .int .i64 a0_1, .int .i64 a0_2, .int .i64 a0_3, .string a0_4] 34 (0, 0)) xblk) : gb255 ≠ gb256)); have NB256_255 := aM ((by rw [hg]; exact Nat.ne_of_gt (blk_lt (g := gb255) (o := .cells #[.int .i64 a0_0, .int .i64 a0_1, .int .i64 a0_2, .int .i64 a0_3, .string a0_4] 34 (0, 0)) xblk) : gb256 ≠ gb255)); replace BK255 := xbb BK255 hb; have BK256 := aM (hbox); clear hb hbox hg; have hnb30 := NB255_256.out; have hnc30 := NB256_255.out; obtain ⟨hcz31_0, hcz31_1, hcz31_2, hcz31_3, hcz31_4, hfz31_0, hfz31_1, hfz31_2, hfz31_3, hfz31_4⟩ := xf5 (w := w29) BK255; obtain ⟨hcz32_0, hcz32_1, hcz32_2, hcz32_3, hcz32_4, hfz32_0, hfz32_1, hfz32_2, hfz32_3, hfz32_4⟩ := xf5 (w := w29) BK256))
   go_ret
   exact ⟨by first | rfl | (simp [errW_none, errW_some] <;> rfl) | (simp [*, errW_none, errW_some] <;> rfl), xbg⟩
 ·rw [if_neg c3] at H
  have c3b0 : (a0_0 == a1_0) = false := beq_eq_false_iff_ne.mpr c3; have c3b1 : (a0_0 != a1_0) = true := bne_iff_ne.mpr c3
  obtain rfl := Option.some.inj H
  go_enter Try.func168, Try.ntmps168
  go_wp2_with (first | ((with_reducible refine gate_dst (N := 2) rfl ?_); refine box_event ?hg (N := 2) ?hd (cs := #[.int .i64 a0_0, .int .i64 a0_1, .int .i64 a0_2, .int .i64 a0_3, .string a0_4]) (t := 34) ?hr ?_; (case hd => rfl); (case hg => rfl); (case hr => first | (go_simp; done) | (go_simp; rfl)); intro gb255 hg w33 hbox hb; have BK255 := aM (hbox); have GW255 := aM (xge hg); have GE255 := aM (xge hg); replace HB := xbs hb; clear hb hbox hg) | ((with_reducible refine gate_dst (N := 3) rfl ?_); refine box_event ?hg (N := 3) ?hd (cs := #[.int .i64 a1_0, .int .i64 a1_1, .int .i64 a1_2, .int .i64 a1_3, .string a1_4]) (t := 34) ?hr ?_; (case hd => rfl); (case hg => rfl); (case hr => first | (go_simp; done) | (go_simp; rfl)); intro gb256 hg w34 hbox hb; have GW256 := aM (xge hg); have GE256 := aM (xge hg); replace HB := xbs hb; have NB255_256 := aM ((by rw [hg]; exact Nat.ne_of_lt (blk_lt (g := gb255) (o := .cells #[.int .i64 a0_0, .int .i64 a0_1, .int .i64 a0_2, .int .i64 a0_3, .string a0_4] 34 (0, 0)) xblk) : gb255 ≠ gb256)); have NB256_255 := aM ((by rw [hg]; exact Nat.ne_of_gt (blk_lt (g := gb255) (o := .cells #[.int .i64 a0_0, .int .i64 a0_1, .int .i64 a0_2, .int .i64 a0_3, .string a0_4] 34 (0, 0)) xblk) : gb256 ≠ gb255)); replace BK255 := xbb BK255 hb; have BK256 := aM (hbox); clear hb hbox hg; have hnb35 := NB255_256.out; have hnc35 := NB256_255.out; obtain ⟨hcz36_0, hcz36_1, hcz36_2, hcz36_3, hcz36_4, hfz36_0, hfz36_1, hfz36_2, hfz36_3, hfz36_4⟩ := xf5 (w := w34) BK255; obtain ⟨hcz37_0, hcz37_1, hcz37_2, hcz37_3, hcz37_4, hfz37_0, hfz37_1, hfz37_2, hfz37_3, hfz37_4⟩ := xf5 (w := w34) BK256))
  go_ret
  exact ⟨by first | rfl | (simp [errW_none, errW_some] <;> rfl) | (simp [*, errW_none, errW_some] <;> rfl), xbg⟩

/-! ### laws_eqEntry: function 151 -/
def laws_eqEntry.f (a0_0 : Int) (a0_1 : Int) (a0_2 : Int) (a0_3 : Int) (a0_4 : Int) (a0_5 : ByteArray) (a1_0 : Int) (a1_1 : Int) (a1_2 : Int) (a1_3 : Int) (a1_4 : Int) (a1_5 : ByteArray) : Option (Bool) := if a0_0 = a1_0 then ((laws_eqCmd.f a0_1 a0_2 a0_3 a0_4 a0_5 a1_1 a1_2 a1_3 a1_4 a1_5).bind fun t259 => (if t259 = true then (some true) else (some false))) else (some false)
set_option maxHeartbeats 8000000 in
set_option maxRecDepth 100000 in
theorem laws_eqEntry.calls (a0_0 : Int) (a0_1 : Int) (a0_2 : Int) (a0_3 : Int) (a0_4 : Int) (a0_5 : ByteArray) (a1_0 : Int) (a1_1 : Int) (a1_2 : Int) (a1_3 : Int) (a1_4 : Int) (a1_5 : ByteArray) (r : Bool) (w : World) (h : laws_eqEntry.f a0_0 a0_1 a0_2 a0_3 a0_4 a0_5 a1_0 a1_1 a1_2 a1_3 a1_4 a1_5 = some r) :
 Calls Try.prog 151 #[.agg #[.int .i64 a0_0, .int .i64 a0_1, .int .i64 a0_2, .int .i64 a0_3, .int .i64 a0_4, .string a0_5], .agg #[.int .i64 a1_0, .int .i64 a1_1, .int .i64 a1_2, .int .i64 a1_3, .int .i64 a1_4, .string a1_5]] w fun e w' => e = .returned (.bool r) ∧ Below w.heap.size w w' := by
 have hu36 := Try.underlying36
 have hu34 := Try.underlying34
 have HB := aM (Below.refl w.heap.size w)
 have H : (if a0_0 = a1_0 then ((laws_eqCmd.f a0_1 a0_2 a0_3 a0_4 a0_5 a1_1 a1_2 a1_3 a1_4 a1_5).bind fun t259 => (if t259 = true then (some true) else (some false))) else (some false)) = some r := h
 clear h
 by_cases c3 : a0_0 = a1_0
 ·rw [if_pos c3] at H
  have c3b0 : (a0_0 == a1_0) = true := beq_iff_eq.mpr c3; have c3b1 : (a0_0 != a1_0) = false := bne_eq_false_iff_eq.mpr c3; clear c3; replace H := Option.bind_eq_some_iff.mp H
  obtain ⟨t259, A40, H⟩ := H
  replace H : (if t259 = true then (some true) else (some false)) = some r := H; have A4 := aM A40; clear A40
  by_cases c5 : t259 = true
  ·subst c5
   have H1 : (some true) = some r := by rw [if_pos rfl] at H; exact H
   clear H; have H := H1; clear H1
   obtain rfl := Option.some.inj H
   go_enter Try.func151, Try.ntmps151
   go_wp2_with (first | ((with_reducible refine gate_dst (N := 2) rfl ?_); refine box_event ?hg (N := 2) ?hd (cs := #[.int .i64 a0_0, .int .i64 a0_1, .int .i64 a0_2, .int .i64 a0_3, .int .i64 a0_4, .string a0_5]) (t := 36) ?hr ?_; (case hd => rfl); (case hg => rfl); (case hr => first | (go_simp; done) | (go_simp; rfl)); intro gb257 hg w6 hbox hb; have BK257 := aM (hbox); have GW257 := aM (xge hg); have GE257 := aM (xge hg); replace HB := xbs hb; clear hb hbox hg) | ((with_reducible refine gate_dst (N := 3) rfl ?_); refine box_event ?hg (N := 3) ?hd (cs := #[.int .i64 a1_0, .int .i64 a1_1, .int .i64 a1_2, .int .i64 a1_3, .int .i64 a1_4, .string a1_5]) (t := 36) ?hr ?_; (case hd => rfl); (case hg => rfl); (case hr => first | (go_simp; done) | (go_simp; rfl)); intro gb258 hg w7 hbox hb; have GW258 := aM (xge hg); have GE258 := aM (xge hg); replace HB := xbs hb; have NB257_258 := aM ((by rw [hg]; exact Nat.ne_of_lt (blk_lt (g := gb257) (o := .cells #[.int .i64 a0_0, .int .i64 a0_1, .int .i64 a0_2, .int .i64 a0_3, .int .i64 a0_4, .string a0_5] 36 (0, 0)) xblk) : gb257 ≠ gb258)); have NB258_257 := aM ((by rw [hg]; exact Nat.ne_of_gt (blk_lt (g := gb257) (o := .cells #[.int .i64 a0_0, .int .i64 a0_1, .int .i64 a0_2, .int .i64 a0_3, .int .i64 a0_4, .string a0_5] 36 (0, 0)) xblk) : gb258 ≠ gb257)); replace BK257 := xbb BK257 hb; have BK258 := aM (hbox); clear hb hbox hg; have hnb8 := NB257_258.out; have hnc8 := NB258_257.out; obtain ⟨hcz9_0, hcz9_1, hcz9_2, hcz9_3, hcz9_4, hcz9_5, hfz9_0, hfz9_1, hfz9_2, hfz9_3, hfz9_4, hfz9_5⟩ := xf6 (w := w7) BK257; obtain ⟨hcz10_0, hcz10_1, hcz10_2, hcz10_3, hcz10_4, hcz10_5, hfz10_0, hfz10_1, hfz10_2, hfz10_3, hfz10_4, hfz10_5⟩ := xf6 (w := w7) BK258) | ((with_reducible refine gate_callee (f := 168) rfl ?_); refine goesL_ (some 14) rfl rfl Try.func168 (by kernel_rfl) rfl #[.agg #[.int .i64 a0_1, .int .i64 a0_2, .int .i64 a0_3, .int .i64 a0_4, .string a0_5], .agg #[.int .i64 a1_1, .int .i64 a1_2, .int .i64 a1_3, .int .i64 a1_4, .string a1_5]] rfl (by (try simp only [List.map_toArray, List.map_cons, List.map_nil]); first | done | rfl | (simp only [List.length_drop, List.length_take]; rfl)) ?_; (with_reducible refine (laws_eqCmd.calls a0_1 a0_2 a0_3 a0_4 a0_5 a1_1 a1_2 a1_3 a1_4 a1_5 true _ A4.out).mono ?_); rintro e w11 ⟨rfl, hb⟩; refine ⟨_, rfl, ?_⟩; replace BK257 := xbb BK257 hb; replace BK258 := xbb BK258 hb; replace HB := xbs hb; (try clear hb); (try clear hb2); (try clear hk); (try clear hi)))
   go_ret
   exact ⟨by first | rfl | (simp [errW_none, errW_some] <;> rfl) | (simp [*, errW_none, errW_some] <;> rfl), xbg⟩
  ·replace c5 := Bool.eq_false_iff.mpr c5
   subst c5
   have H1 : (some false) = some r := by rw [if_neg (show ¬ (false = true) by decide)] at H; exact H
   clear H; have H := H1; clear H1
   obtain rfl := Option.some.inj H
   go_enter Try.func151, Try.ntmps151
   go_wp2_with (first | ((with_reducible refine gate_dst (N := 2) rfl ?_); refine box_event ?hg (N := 2) ?hd (cs := #[.int .i64 a0_0, .int .i64 a0_1, .int .i64 a0_2, .int .i64 a0_3, .int .i64 a0_4, .string a0_5]) (t := 36) ?hr ?_; (case hd => rfl); (case hg => rfl); (case hr => first | (go_simp; done) | (go_simp; rfl)); intro gb257 hg w12 hbox hb; have BK257 := aM (hbox); have GW257 := aM (xge hg); have GE257 := aM (xge hg); replace HB := xbs hb; clear hb hbox hg) | ((with_reducible refine gate_dst (N := 3) rfl ?_); refine box_event ?hg (N := 3) ?hd (cs := #[.int .i64 a1_0, .int .i64 a1_1, .int .i64 a1_2, .int .i64 a1_3, .int .i64 a1_4, .string a1_5]) (t := 36) ?hr ?_; (case hd => rfl); (case hg => rfl); (case hr => first | (go_simp; done) | (go_simp; rfl)); intro gb258 hg w13 hbox hb; have GW258 := aM (xge hg); have GE258 := aM (xge hg); replace HB := xbs hb; have NB257_258 := aM ((by rw [hg]; exact Nat.ne_of_lt (blk_lt (g := gb257) (o := .cells #[.int .i64 a0_0, .int .i64 a0_1, .int .i64 a0_2, .int .i64 a0_3, .int .i64 a0_4, .string a0_5] 36 (0, 0)) xblk) : gb257 ≠ gb258)); have NB258_257 := aM ((by rw [hg]; exact Nat.ne_of_gt (blk_lt (g := gb257) (o := .cells #[.int .i64 a0_0, .int .i64 a0_1, .int .i64 a0_2, .int .i64 a0_3, .int .i64 a0_4, .string a0_5] 36 (0, 0)) xblk) : gb258 ≠ gb257)); replace BK257 := xbb BK257 hb; have BK258 := aM (hbox); clear hb hbox hg; have hnb14 := NB257_258.out; have hnc14 := NB258_257.out; obtain ⟨hcz15_0, hcz15_1, hcz15_2, hcz15_3, hcz15_4, hcz15_5, hfz15_0, hfz15_1, hfz15_2, hfz15_3, hfz15_4, hfz15_5⟩ := xf6 (w := w13) BK257; obtain ⟨hcz16_0, hcz16_1, hcz16_2, hcz16_3, hcz16_4, hcz16_5, hfz16_0, hfz16_1, hfz16_2, hfz16_3, hfz16_4, hfz16_5⟩ := xf6 (w := w13) BK258) | ((with_reducible refine gate_callee (f := 168) rfl ?_); refine goesL_ (some 14) rfl rfl Try.func168 (by kernel_rfl) rfl #[.agg #[.int .i64 a0_1, .int .i64 a0_2, .int .i64 a0_3, .int .i64 a0_4, .string a0_5], .agg #[.int .i64 a1_1, .int .i64 a1_2, .int .i64 a1_3, .int .i64 a1_4, .string a1_5]] rfl (by (try simp only [List.map_toArray, List.map_cons, List.map_nil]); first | done | rfl | (simp only [List.length_drop, List.length_take]; rfl)) ?_; (with_reducible refine (laws_eqCmd.calls a0_1 a0_2 a0_3 a0_4 a0_5 a1_1 a1_2 a1_3 a1_4 a1_5 false _ A4.out).mono ?_); rintro e w17 ⟨rfl, hb⟩; refine ⟨_, rfl, ?_⟩; replace BK257 := xbb BK257 hb; replace BK258 := xbb BK258 hb; replace HB := xbs hb; (try clear hb); (try clear hb2); (try clear hk); (try clear hi)))
   go_ret
   exact ⟨by first | rfl | (simp [errW_none, errW_some] <;> rfl) | (simp [*, errW_none, errW_some] <;> rfl), xbg⟩
 ·rw [if_neg c3] at H
  have c3b0 : (a0_0 == a1_0) = false := beq_eq_false_iff_ne.mpr c3; have c3b1 : (a0_0 != a1_0) = true := bne_iff_ne.mpr c3
  obtain rfl := Option.some.inj H
  go_enter Try.func151, Try.ntmps151
  go_wp2_with (first | ((with_reducible refine gate_dst (N := 2) rfl ?_); refine box_event ?hg (N := 2) ?hd (cs := #[.int .i64 a0_0, .int .i64 a0_1, .int .i64 a0_2, .int .i64 a0_3, .int .i64 a0_4, .string a0_5]) (t := 36) ?hr ?_; (case hd => rfl); (case hg => rfl); (case hr => first | (go_simp; done) | (go_simp; rfl)); intro gb257 hg w18 hbox hb; have BK257 := aM (hbox); have GW257 := aM (xge hg); have GE257 := aM (xge hg); replace HB := xbs hb; clear hb hbox hg) | ((with_reducible refine gate_dst (N := 3) rfl ?_); refine box_event ?hg (N := 3) ?hd (cs := #[.int .i64 a1_0, .int .i64 a1_1, .int .i64 a1_2, .int .i64 a1_3, .int .i64 a1_4, .string a1_5]) (t := 36) ?hr ?_; (case hd => rfl); (case hg => rfl); (case hr => first | (go_simp; done) | (go_simp; rfl)); intro gb258 hg w19 hbox hb; have GW258 := aM (xge hg); have GE258 := aM (xge hg); replace HB := xbs hb; have NB257_258 := aM ((by rw [hg]; exact Nat.ne_of_lt (blk_lt (g := gb257) (o := .cells #[.int .i64 a0_0, .int .i64 a0_1, .int .i64 a0_2, .int .i64 a0_3, .int .i64 a0_4, .string a0_5] 36 (0, 0)) xblk) : gb257 ≠ gb258)); have NB258_257 := aM ((by rw [hg]; exact Nat.ne_of_gt (blk_lt (g := gb257) (o := .cells #[.int .i64 a0_0, .int .i64 a0_1, .int .i64 a0_2, .int .i64 a0_3, .int .i64 a0_4, .string a0_5] 36 (0, 0)) xblk) : gb258 ≠ gb257)); replace BK257 := xbb BK257 hb; have BK258 := aM (hbox); clear hb hbox hg; have hnb20 := NB257_258.out; have hnc20 := NB258_257.out; obtain ⟨hcz21_0, hcz21_1, hcz21_2, hcz21_3, hcz21_4, hcz21_5, hfz21_0, hfz21_1, hfz21_2, hfz21_3, hfz21_4, hfz21_5⟩ := xf6 (w := w19) BK257; obtain ⟨hcz22_0, hcz22_1, hcz22_2, hcz22_3, hcz22_4, hcz22_5, hfz22_0, hfz22_1, hfz22_2, hfz22_3, hfz22_4, hfz22_5⟩ := xf6 (w := w19) BK258))
  go_ret
  exact ⟨by first | rfl | (simp [errW_none, errW_some] <;> rfl) | (simp [*, errW_none, errW_some] <;> rfl), xbg⟩

/-! ### laws_eqEntryS: function 102 -/
def laws_eqEntryS.l0 : Nat → List (S36) → List (S36) → Int → Option (Bool)
 | 0, _, _, _ => none
 | k + 1, x0, x1, x5 => if x5 < (x0.length : Int) then (if 0 ≤ x5 then (if x5 < (x1.length : Int) then ((laws_eqEntry.f ((rd_T36 x0 x5).f0) ((rd_T36 x0 x5).f1.f0) ((rd_T36 x0 x5).f1.f1) ((rd_T36 x0 x5).f1.f2) ((rd_T36 x0 x5).f1.f3) ((rd_T36 x0 x5).f1.f4) ((rd_T36 x1 x5).f0) ((rd_T36 x1 x5).f1.f0) ((rd_T36 x1 x5).f1.f1) ((rd_T36 x1 x5).f1.f2) ((rd_T36 x1 x5).f1.f3) ((rd_T36 x1 x5).f1.f4)).bind fun t262 => (if t262 = true then (laws_eqEntryS.l0 k x0 x1 (wrap64 (x5 + 1))) else (some false))) else (none)) else (none)) else (some true)
def laws_eqEntryS.f (k : Nat) (l0 : List (S36)) (l1 : List (S36)) : Option (Bool) := if (l0.length : Int) = (l1.length : Int) then (laws_eqEntryS.l0 k l0 l1 0) else (some false)
set_option maxRecDepth 100000 in
theorem laws_eqEntryS.mono_l : ∀ k, (∀ y0 y1 y2, LeO (laws_eqEntryS.l0 k y0 y1 y2) (laws_eqEntryS.l0 (k + 1) y0 y1 y2))
 | 0 => fun _ _ _ r h => by simp [laws_eqEntryS.l0] at h
 | k + 1 => by
  have ih0 := laws_eqEntryS.mono_l k
  ·intro y0 y1 y2
   unfold laws_eqEntryS.l0
   repeat' first
   | (with_reducible exact ih0 _ _ _)
   | (with_reducible exact LeO.refl _)
   | (with_reducible exact LeO.none _)
   | (with_reducible refine LeO.ite ?_ ?_)
   | (with_reducible refine LeO.bind ?_ (fun _ => ?_))
   | exact ih0 _ _ _
   | exact LeO.none _
   | refine LeO.ite ?_ ?_
   | refine LeO.bind ?_ (fun _ => ?_)
theorem laws_eqEntryS.mono : ∀ a0 a1 k, LeO (laws_eqEntryS.f k a0 a1) (laws_eqEntryS.f (k + 1) a0 a1) := by
 intro a0 a1 k
 have ih0 := laws_eqEntryS.mono_l k
 unfold laws_eqEntryS.f
 repeat' first
  | (with_reducible exact ih0 _ _ _)
  | (with_reducible exact LeO.refl _)
  | (with_reducible exact LeO.none _)
  | (with_reducible refine LeO.ite ?_ ?_)
  | (with_reducible refine LeO.bind ?_ (fun _ => ?_))
  | exact ih0 _ _ _
  | exact LeO.none _
  | refine LeO.ite ?_ ?_
  | refine LeO.bind ?_ (fun _ => ?_)
def laws_eqEntryS.T6 : Bool × List (List Nat × List Nat) := (true, [([], []), ([], []), ([0, 1], [0, 1]), ([2], [2]), ([], []), ([], []), ([4, 5], [4, 5]), ([6], [6]), ([3, 7], [3, 7]), ([8], [8])])
def laws_eqEntryS.B6 : List Nat := [0, 0, 3, 7, 0, 0, 48, 112, 255, 511]
theorem laws_eqEntryS.tab6 : rtab .any (opsOf Try.f102 6) = laws_eqEntryS.T6 := by kernel_rfl
theorem laws_eqEntryS.bits6 : waitsOk laws_eqEntryS.T6.2 laws_eqEntryS.B6 = true := by kernel_rfl
set_option maxHeartbeats 8000000 in
set_option maxRecDepth 100000 in
theorem laws_eqEntryS.calls (k : Nat) (A0 : Option Addr) (c0 : Nat) (l0 : List (S36)) (A1 : Option Addr) (c1 : Nat) (l1 : List (S36)) (r : Bool) (w : World) (hr0 : Kd.C k36 w A0 l0.length l0) (hc0 : l0.length ≤ c0) (hr1 : Kd.C k36 w A1 l1.length l1) (hc1 : l1.length ≤ c1) (h : laws_eqEntryS.f k l0 l1 = some r) :
 Calls Try.prog 102 #[.slice A0 l0.length c0, .slice A1 l1.length c1] w fun e w' => e = .returned (.bool r) ∧ Below w.heap.size w w' := by
 have hu36 := Try.underlying36
 have HR0 := aM hr0
 have HC0 := aM hc0
 clear hr0 hc0
 have HR1 := aM hr1
 have HC1 := aM hc1
 clear hr1 hc1
 have HB := aM (Below.refl w.heap.size w)
 have H : (if (l0.length : Int) = (l1.length : Int) then (laws_eqEntryS.l0 k l0 l1 0) else (some false)) = some r := h
 clear h
 by_cases c3 : (l0.length : Int) = (l1.length : Int)
 ·rw [if_pos c3] at H
  have c3b0 : ((l0.length : Int) == (l1.length : Int)) = true := beq_iff_eq.mpr c3; have c3b1 : ((l0.length : Int) != (l1.length : Int)) = false := bne_eq_false_iff_eq.mpr c3
  have c3b2 : (l0.length == l1.length) = true := by first | simpa using c3 | (simp at c3 ⊢; omega)
  clear c3
  have H' := aM H
  clear H
  go_enter Try.func102, Try.ntmps102
  go_wp2
  go_loopg [5] k (fun kq v5 w' => ∃ (x5_1 : Int), v5 = .int .i64 x5_1 ∧ Aside0 (laws_eqEntryS.l0 kq l0 l1 x5_1 = some r) ∧ Aside0 (kq ≤ k) ∧ Aside0 (Below w.heap.size w w'))
  case atStart => exact ⟨(0), (by first | rfl | (simp; done) | (simp [*]; done)), H', ⟨Nat.le_refl _⟩, ⟨xbel⟩⟩
  case round =>
   clear H'
   try clear c1
   try clear p2
   try clear c3
   try clear c3b0
   try clear c3b1
   try clear c3b2
   obtain ⟨x5_1, rfl, HA, HK1, HB⟩ := hrel
   cases gk with
   | zero => exact absurd HA.out (by simp [laws_eqEntryS.l0])
   | succ k1 =>
    have H := HA.out; clear HA
    simp only [laws_eqEntryS.l0] at H
    by_cases c4 : x5_1 < (l0.length : Int)
    ·rw [if_pos c4] at H
     have c4b0 : decide (x5_1 < (l0.length : Int)) = true := decide_eq_true c4; clear c4
     by_cases c5 : 0 ≤ x5_1
     ·rw [if_pos c5] at H
      have c5b0 : decide (0 ≤ x5_1) = true := decide_eq_true c5; clear c5
      by_cases c6 : x5_1 < (l1.length : Int)
      ·rw [if_pos c6] at H
       have c6b0 : decide (x5_1 < (l1.length : Int)) = true := decide_eq_true c6; clear c6; replace H := Option.bind_eq_some_iff.mp H
       obtain ⟨t262, A70, H⟩ := H
       replace H : (if t262 = true then (laws_eqEntryS.l0 k1 l0 l1 (wrap64 (x5_1 + 1))) else (some false)) = some r := H; have A7 := aM A70; clear A70
       by_cases c8 : t262 = true
       ·subst c8
        have H1 : (laws_eqEntryS.l0 k1 l0 l1 (wrap64 (x5_1 + 1))) = some r := by rw [if_pos rfl] at H; exact H
        clear H; have H := H1; clear H1
        have H' := aM H
        clear H
        try go_wp2
        replace HB := aM (below_drew1 HB.out); have p260 : 0 ≤ (x5_1 : Int) := oda; have q260 : x5_1 < (l0.length : Int) := oda
        obtain ⟨ad260, e260, hx260_0, hx260_1, hx260_2, hx260_3, hx260_4, hx260_5⟩ := at_T36 HR0.out x5_1 p260 q260
        have hw260_5 := hx260_5; have hw260_4 := hx260_4; have hw260_3 := hx260_3; have hw260_2 := hx260_2; have hw260_1 := hx260_1; have hw260_0 := hx260_0
        cases e260
        replace hx260_0 := xce HB hx260_0; replace hx260_1 := xce HB hx260_1; replace hx260_2 := xce HB hx260_2; replace hx260_3 := xce HB hx260_3; replace hx260_4 := xce HB hx260_4; replace hx260_5 := xce HB hx260_5; replace p260 := eq_true p260; replace q260 := eq_true q260; have p261 : 0 ≤ (x5_1 : Int) := oda; have q261 : x5_1 < (l1.length : Int) := oda
        obtain ⟨ad261, e261, hx261_0, hx261_1, hx261_2, hx261_3, hx261_4, hx261_5⟩ := at_T36 HR1.out x5_1 p261 q261
        have hw261_5 := hx261_5; have hw261_4 := hx261_4; have hw261_3 := hx261_3; have hw261_2 := hx261_2; have hw261_1 := hx261_1; have hw261_0 := hx261_0
        cases e261
        replace hx261_0 := xce HB hx261_0; replace hx261_1 := xce HB hx261_1; replace hx261_2 := xce HB hx261_2; replace hx261_3 := xce HB hx261_3; replace hx261_4 := xce HB hx261_4; replace hx261_5 := xce HB hx261_5; replace p261 := eq_true p261; replace q261 := eq_true q261
        refine start_ (n := 10) (S := fun w' => w'.cell? (ad260.add ((x5_1).toNat * 6)) = some (.int .i64 ((rd_T36 l0 x5_1).f0)) ∧ w'.cell? ⟨(ad260.add ((x5_1).toNat * 6)).block, (ad260.add ((x5_1).toNat * 6)).off + 1, none⟩ = some (.int .i64 ((rd_T36 l0 x5_1).f1.f0)) ∧ w'.cell? ⟨(ad260.add ((x5_1).toNat * 6)).block, (ad260.add ((x5_1).toNat * 6)).off + 2, none⟩ = some (.int .i64 ((rd_T36 l0 x5_1).f1.f1)) ∧ w'.cell? ⟨(ad260.add ((x5_1).toNat * 6)).block, (ad260.add ((x5_1).toNat * 6)).off + 3, none⟩ = some (.int .i64 ((rd_T36 l0 x5_1).f1.f2)) ∧ w'.cell? ⟨(ad260.add ((x5_1).toNat * 6)).block, (ad260.add ((x5_1).toNat * 6)).off + 4, none⟩ = some (.int .i64 ((rd_T36 l0 x5_1).f1.f3)) ∧ w'.cell? ⟨(ad260.add ((x5_1).toNat * 6)).block, (ad260.add ((x5_1).toNat * 6)).off + 5, none⟩ = some (.string ((rd_T36 l0 x5_1).f1.f4)) ∧ w'.cell? (ad261.add ((x5_1).toNat * 6)) = some (.int .i64 ((rd_T36 l1 x5_1).f0)) ∧ w'.cell? ⟨(ad261.add ((x5_1).toNat * 6)).block, (ad261.add ((x5_1).toNat * 6)).off + 1, none⟩ = some (.int .i64 ((rd_T36 l1 x5_1).f1.f0)) ∧ w'.cell? ⟨(ad261.add ((x5_1).toNat * 6)).block, (ad261.add ((x5_1).toNat * 6)).off + 2, none⟩ = some (.int .i64 ((rd_T36 l1 x5_1).f1.f1)) ∧ w'.cell? ⟨(ad261.add ((x5_1).toNat * 6)).block, (ad261.add ((x5_1).toNat * 6)).off + 3, none⟩ = some (.int .i64 ((rd_T36 l1 x5_1).f1.f2)) ∧ w'.cell? ⟨(ad261.add ((x5_1).toNat * 6)).block, (ad261.add ((x5_1).toNat * 6)).off + 4, none⟩ = some (.int .i64 ((rd_T36 l1 x5_1).f1.f3)) ∧ w'.cell? ⟨(ad261.add ((x5_1).toNat * 6)).block, (ad261.add ((x5_1).toNat * 6)).off + 5, none⟩ = some (.string ((rd_T36 l1 x5_1).f1.f4))) (ds := []) #[false, false, false, false, false, false, false, false, false, false] (by kernel_rfl) rfl rfl ⟨(xce HB hw260_0), (xce HB hw260_1), (xce HB hw260_2), (xce HB hw260_3), (xce HB hw260_4), (xce HB hw260_5), (xce HB hw261_0), (xce HB hw261_1), (xce HB hw261_2), (xce HB hw261_3), (xce HB hw261_4), (xce HB hw261_5)⟩ (fun hHeld => ?_); refine with_tabW laws_eqEntryS.tab6 laws_eqEntryS.bits6 (fun HT_ HW_ => ?_)
        generalize wr.drew = w9 at HB hx260_0 hx260_1 hx260_2 hx260_3 hx260_4 hx260_5 hx261_0 hx261_1 hx261_2 hx261_3 hx261_4 hx261_5 hHeld ⊢
        refine pv_ 0 17 (h := ?_)
        refine pv_ 1 18 (h := ?_)
        refine pv_ 2 19 (h := ?_)
        refine pv_ 4 21 (h := ?_)
        refine pv_ 5 22 (h := ?_)
        refine pv_ 6 23 (h := ?_)
        refine tk_ 3 20 (h := ?_)
        refine tk_ 7 24 (h := ?_)
        refine on_ 8 25 (h := fun K hK => ?_)
        refine goesY Try.func151 #[.agg #[.int .i64 ((rd_T36 l0 x5_1).f0), .int .i64 ((rd_T36 l0 x5_1).f1.f0), .int .i64 ((rd_T36 l0 x5_1).f1.f1), .int .i64 ((rd_T36 l0 x5_1).f1.f2), .int .i64 ((rd_T36 l0 x5_1).f1.f3), .string ((rd_T36 l0 x5_1).f1.f4)], .agg #[.int .i64 ((rd_T36 l1 x5_1).f0), .int .i64 ((rd_T36 l1 x5_1).f1.f0), .int .i64 ((rd_T36 l1 x5_1).f1.f1), .int .i64 ((rd_T36 l1 x5_1).f1.f2), .int .i64 ((rd_T36 l1 x5_1).f1.f3), .string ((rd_T36 l1 x5_1).f1.f4)]] ?_
        with_reducible refine (laws_eqEntry.calls ((rd_T36 l0 x5_1).f0) ((rd_T36 l0 x5_1).f1.f0) ((rd_T36 l0 x5_1).f1.f1) ((rd_T36 l0 x5_1).f1.f2) ((rd_T36 l0 x5_1).f1.f3) ((rd_T36 l0 x5_1).f1.f4) ((rd_T36 l1 x5_1).f0) ((rd_T36 l1 x5_1).f1.f0) ((rd_T36 l1 x5_1).f1.f1) ((rd_T36 l1 x5_1).f1.f2) ((rd_T36 l1 x5_1).f1.f3) ((rd_T36 l1 x5_1).f1.f4) true _ A7.out).mono ?_
        rintro e w10 ⟨rfl, hb⟩
        refine ⟨_, rfl, ?_⟩
        replace HB := xbs hb
        (try clear hb); (try clear hb2); (try clear hk); (try clear hi)
        refine hK.out _ _ ⟨(xce HB hw260_0), (xce HB hw260_1), (xce HB hw260_2), (xce HB hw260_3), (xce HB hw260_4), (xce HB hw260_5), (xce HB hw261_0), (xce HB hw261_1), (xce HB hw261_2), (xce HB hw261_3), (xce HB hw261_4), (xce HB hw261_5)⟩ (fun hHeld => ?_)
        clear hK K
        refine norm_ (a' := ?_) ?_ ?_
        rotate_left
        ·show Act.put _ (some 25) _ = _
         simp only [Act.put, List.setIfInBounds_toArray, List.set_cons_zero, List.set_cons_succ, i64_w, i32_w]
         rfl
        refine pv_ 9 26 (h := ?_)
        refine done_ (done_of HT_.out (by kernel_rfl)) ?_
        try go_wp2
        go_roundg k1
        case measure => have := HK1.out; omega
        case rel => exact ⟨(wrap64 (x5_1 + 1)), (by first | rfl | (simp; done) | (simp [*]; done)), H', ⟨by have := HK1.out; omega⟩, ⟨xbel⟩⟩
       ·replace c8 := Bool.eq_false_iff.mpr c8
        subst c8
        have H1 : (some false) = some r := by rw [if_neg (show ¬ (false = true) by decide)] at H; exact H
        clear H; have H := H1; clear H1
        obtain rfl := Option.some.inj H
        try go_wp2
        replace HB := aM (below_drew1 HB.out); have p260 : 0 ≤ (x5_1 : Int) := oda; have q260 : x5_1 < (l0.length : Int) := oda
        obtain ⟨ad260, e260, hx260_0, hx260_1, hx260_2, hx260_3, hx260_4, hx260_5⟩ := at_T36 HR0.out x5_1 p260 q260
        have hw260_5 := hx260_5; have hw260_4 := hx260_4; have hw260_3 := hx260_3; have hw260_2 := hx260_2; have hw260_1 := hx260_1; have hw260_0 := hx260_0
        cases e260
        replace hx260_0 := xce HB hx260_0; replace hx260_1 := xce HB hx260_1; replace hx260_2 := xce HB hx260_2; replace hx260_3 := xce HB hx260_3; replace hx260_4 := xce HB hx260_4; replace hx260_5 := xce HB hx260_5; replace p260 := eq_true p260; replace q260 := eq_true q260; have p261 : 0 ≤ (x5_1 : Int) := oda; have q261 : x5_1 < (l1.length : Int) := oda
        obtain ⟨ad261, e261, hx261_0, hx261_1, hx261_2, hx261_3, hx261_4, hx261_5⟩ := at_T36 HR1.out x5_1 p261 q261
        have hw261_5 := hx261_5; have hw261_4 := hx261_4; have hw261_3 := hx261_3; have hw261_2 := hx261_2; have hw261_1 := hx261_1; have hw261_0 := hx261_0
        cases e261
        replace hx261_0 := xce HB hx261_0; replace hx261_1 := xce HB hx261_1; replace hx261_2 := xce HB hx261_2; replace hx261_3 := xce HB hx261_3; replace hx261_4 := xce HB hx261_4; replace hx261_5 := xce HB hx261_5; replace p261 := eq_true p261; replace q261 := eq_true q261
        refine start_ (n := 10) (S := fun w' => w'.cell? (ad260.add ((x5_1).toNat * 6)) = some (.int .i64 ((rd_T36 l0 x5_1).f0)) ∧ w'.cell? ⟨(ad260.add ((x5_1).toNat * 6)).block, (ad260.add ((x5_1).toNat * 6)).off + 1, none⟩ = some (.int .i64 ((rd_T36 l0 x5_1).f1.f0)) ∧ w'.cell? ⟨(ad260.add ((x5_1).toNat * 6)).block, (ad260.add ((x5_1).toNat * 6)).off + 2, none⟩ = some (.int .i64 ((rd_T36 l0 x5_1).f1.f1)) ∧ w'.cell? ⟨(ad260.add ((x5_1).toNat * 6)).block, (ad260.add ((x5_1).toNat * 6)).off + 3, none⟩ = some (.int .i64 ((rd_T36 l0 x5_1).f1.f2)) ∧ w'.cell? ⟨(ad260.add ((x5_1).toNat * 6)).block, (ad260.add ((x5_1).toNat * 6)).off + 4, none⟩ = some (.int .i64 ((rd_T36 l0 x5_1).f1.f3)) ∧ w'.cell? ⟨(ad260.add ((x5_1).toNat * 6)).block, (ad260.add ((x5_1).toNat * 6)).off + 5, none⟩ = some (.string ((rd_T36 l0 x5_1).f1.f4)) ∧ w'.cell? (ad261.add ((x5_1).toNat * 6)) = some (.int .i64 ((rd_T36 l1 x5_1).f0)) ∧ w'.cell? ⟨(ad261.add ((x5_1).toNat * 6)).block, (ad261.add ((x5_1).toNat * 6)).off + 1, none⟩ = some (.int .i64 ((rd_T36 l1 x5_1).f1.f0)) ∧ w'.cell? ⟨(ad261.add ((x5_1).toNat * 6)).block, (ad261.add ((x5_1).toNat * 6)).off + 2, none⟩ = some (.int .i64 ((rd_T36 l1 x5_1).f1.f1)) ∧ w'.cell? ⟨(ad261.add ((x5_1).toNat * 6)).block, (ad261.add ((x5_1).toNat * 6)).off + 3, none⟩ = some (.int .i64 ((rd_T36 l1 x5_1).f1.f2)) ∧ w'.cell? ⟨(ad261.add ((x5_1).toNat * 6)).block, (ad261.add ((x5_1).toNat * 6)).off + 4, none⟩ = some (.int .i64 ((rd_T36 l1 x5_1).f1.f3)) ∧ w'.cell? ⟨(ad261.add ((x5_1).toNat * 6)).block, (ad261.add ((x5_1).toNat * 6)).off + 5, none⟩ = some (.string ((rd_T36 l1 x5_1).f1.f4))) (ds := []) #[false, false, false, false, false, false, false, false, false, false] (by kernel_rfl) rfl rfl ⟨(xce HB hw260_0), (xce HB hw260_1), (xce HB hw260_2), (xce HB hw260_3), (xce HB hw260_4), (xce HB hw260_5), (xce HB hw261_0), (xce HB hw261_1), (xce HB hw261_2), (xce HB hw261_3), (xce HB hw261_4), (xce HB hw261_5)⟩ (fun hHeld => ?_); refine with_tabW laws_eqEntryS.tab6 laws_eqEntryS.bits6 (fun HT_ HW_ => ?_)
        generalize wr.drew = w11 at HB hx260_0 hx260_1 hx260_2 hx260_3 hx260_4 hx260_5 hx261_0 hx261_1 hx261_2 hx261_3 hx261_4 hx261_5 hHeld ⊢
        refine pv_ 0 17 (h := ?_)
        refine pv_ 1 18 (h := ?_)
        refine pv_ 2 19 (h := ?_)
        refine pv_ 4 21 (h := ?_)
        refine pv_ 5 22 (h := ?_)
        refine pv_ 6 23 (h := ?_)
        refine tk_ 3 20 (h := ?_)
        refine tk_ 7 24 (h := ?_)
        refine on_ 8 25 (h := fun K hK => ?_)
        refine goesY Try.func151 #[.agg #[.int .i64 ((rd_T36 l0 x5_1).f0), .int .i64 ((rd_T36 l0 x5_1).f1.f0), .int .i64 ((rd_T36 l0 x5_1).f1.f1), .int .i64 ((rd_T36 l0 x5_1).f1.f2), .int .i64 ((rd_T36 l0 x5_1).f1.f3), .string ((rd_T36 l0 x5_1).f1.f4)], .agg #[.int .i64 ((rd_T36 l1 x5_1).f0), .int .i64 ((rd_T36 l1 x5_1).f1.f0), .int .i64 ((rd_T36 l1 x5_1).f1.f1), .int .i64 ((rd_T36 l1 x5_1).f1.f2), .int .i64 ((rd_T36 l1 x5_1).f1.f3), .string ((rd_T36 l1 x5_1).f1.f4)]] ?_
        with_reducible refine (laws_eqEntry.calls ((rd_T36 l0 x5_1).f0) ((rd_T36 l0 x5_1).f1.f0) ((rd_T36 l0 x5_1).f1.f1) ((rd_T36 l0 x5_1).f1.f2) ((rd_T36 l0 x5_1).f1.f3) ((rd_T36 l0 x5_1).f1.f4) ((rd_T36 l1 x5_1).f0) ((rd_T36 l1 x5_1).f1.f0) ((rd_T36 l1 x5_1).f1.f1) ((rd_T36 l1 x5_1).f1.f2) ((rd_T36 l1 x5_1).f1.f3) ((rd_T36 l1 x5_1).f1.f4) false _ A7.out).mono ?_
        rintro e w12 ⟨rfl, hb⟩
        refine ⟨_, rfl, ?_⟩
        replace HB := xbs hb
        (try clear hb); (try clear hb2); (try clear hk); (try clear hi)
        refine hK.out _ _ ⟨(xce HB hw260_0), (xce HB hw260_1), (xce HB hw260_2), (xce HB hw260_3), (xce HB hw260_4), (xce HB hw260_5), (xce HB hw261_0), (xce HB hw261_1), (xce HB hw261_2), (xce HB hw261_3), (xce HB hw261_4), (xce HB hw261_5)⟩ (fun hHeld => ?_)
        clear hK K
        refine norm_ (a' := ?_) ?_ ?_
        rotate_left
        ·show Act.put _ (some 25) _ = _
         simp only [Act.put, List.setIfInBounds_toArray, List.set_cons_zero, List.set_cons_succ, i64_w, i32_w]
         rfl
        refine pv_ 9 26 (h := ?_)
        refine done_ (done_of HT_.out (by kernel_rfl)) ?_
        try go_wp2
        go_ret
        exact ⟨by first | rfl | (simp [errW_none, errW_some] <;> rfl) | (simp [*, errW_none, errW_some] <;> rfl), xbel⟩
      ·rw [if_neg c6] at H
       exact absurd H (by simp)
     ·rw [if_neg c5] at H
      exact absurd H (by simp)
    ·rw [if_neg c4] at H
     have c4b0 : decide (x5_1 < (l0.length : Int)) = false := decide_eq_false c4; clear c4
     obtain rfl := Option.some.inj H
     go_wp2
     go_ret
     exact ⟨by first | rfl | (simp [errW_none, errW_some] <;> rfl) | (simp [*, errW_none, errW_some] <;> rfl), xbel⟩
 ·rw [if_neg c3] at H
  have c3b0 : ((l0.length : Int) == (l1.length : Int)) = false := beq_eq_false_iff_ne.mpr c3; have c3b1 : ((l0.length : Int) != (l1.length : Int)) = true := bne_iff_ne.mpr c3
  have c3b2 : (l0.length == l1.length) = false := by first | simpa using c3 | (simp at c3 ⊢; omega)
  obtain rfl := Option.some.inj H
  go_enter Try.func102, Try.ntmps102
  go_wp2
  go_ret
  exact ⟨by first | rfl | (simp [errW_none, errW_some] <;> rfl) | (simp [*, errW_none, errW_some] <;> rfl), xbel⟩

end Go.Proofs.Ytnjpfllmcmomoaa.QFnExactHardOf
