-- A walk, by a program of this session.
import Derived.Test.YtnjpfllmcmomoaaQFnExactDiskMovex0
namespace Go.Proofs.Ytnjpfllmcmomoaa.QFnExactDiskMove
open Go.RowKit Go.Proofs.YtnjpfllmcmomoaaW.PrintWords Go.Proofs.YtnjpfllmcmomoaaW.PrintLast Go.Proofs.YtnjpfllmcmomoaaW.PrintMore
attribute [local go_sem] max2_int min2_int max_two min_two max_three min_three max_four min_four   -- for this text's walks alone
set_option linter.unusedVariables false
set_option linter.unusedSimpArgs false

/-! ### spec_l3Put: function 111 -/
mutual
def spec_l3Put.l0 : Nat → Bool → Int → Int → List (S134) → Int → ByteArray → ByteArray → Int → List (S134) → Option (Int × (List (S134)))
 | 0, _, _, _, _, _, _, _, _, _ => none
 | k + 1, x6, x7, x171000, x171001, x172000, x172001, x172002, x174000, x174001 => if x7 < (x171001.length : Int) then (if x6 = true then (spec_l3Put.j1 k x6 x7 false x171000 x171001 x172000 x172001 x172002 x174000 x174001) else (if 0 ≤ x7 then (spec_l3Put.j1 k x6 x7 (decide (((rd_T134 x171001 x7).f0) ≥ x172000)) x171000 x171001 x172000 x172001 x172002 x174000 x174001) else (none))) else (if x6 = true then (some (x174000, x174001)) else (if x174001.length < 3518437208883 then (some (x174000, (x174001 ++ [(⟨x172000, x172001, x172002⟩ : S134)]))) else (none)))
def spec_l3Put.j1 : Nat → Bool → Int → Bool → Int → List (S134) → Int → ByteArray → ByteArray → Int → List (S134) → Option (Int × (List (S134)))
 | 0, _, _, _, _, _, _, _, _, _, _ => none
 | k + 1, x6, x7, x30, x171000, x171001, x172000, x172001, x172002, x174000, x174001 => if x30 = true then (if x174001.length < 3518437208883 then ((some (x174001 ++ [(⟨x172000, x172001, x172002⟩ : S134)] : List (S134))).bind fun y178 => (if 0 ≤ x7 then (if x7 < (x171001.length : Int) then (if ((rd_T134 x171001 x7).f0) = x172000 then (spec_l3Put.l0 k true (wrap64 (x7 + 1)) x171000 x171001 x172000 x172001 x172002 x174000 y178) else (if y178.length < 3518437208883 then (spec_l3Put.l0 k true (wrap64 (x7 + 1)) x171000 x171001 x172000 x172001 x172002 x174000 (y178 ++ [(⟨(rd_T134 x171001 x7).f0, (rd_T134 x171001 x7).f1, (rd_T134 x171001 x7).f2⟩ : S134)])) else (none))) else (none)) else (none))) else (none)) else (if 0 ≤ x7 then (if x7 < (x171001.length : Int) then (if ((rd_T134 x171001 x7).f0) = x172000 then (spec_l3Put.l0 k x6 (wrap64 (x7 + 1)) x171000 x171001 x172000 x172001 x172002 x174000 x174001) else (if x174001.length < 3518437208883 then (spec_l3Put.l0 k x6 (wrap64 (x7 + 1)) x171000 x171001 x172000 x172001 x172002 x174000 (x174001 ++ [(⟨(rd_T134 x171001 x7).f0, (rd_T134 x171001 x7).f1, (rd_T134 x171001 x7).f2⟩ : S134)])) else (none))) else (none)) else (none))
end
def spec_l3Put.f (k : Nat) (a0_0 : Int) (l0_1 : List (S134)) (a1_0 : Int) (a1_1 : ByteArray) (a1_2 : ByteArray) : Option (Int × (List (S134))) := spec_l3Put.l0 k false 0 a0_0 l0_1 a1_0 a1_1 a1_2 a0_0 ([] : List (S134))
set_option maxRecDepth 100000 in
theorem spec_l3Put.mono_l : ∀ k, (∀ y0 y1 y2 y3 y4 y5 y6 y7 y8, LeO (spec_l3Put.l0 k y0 y1 y2 y3 y4 y5 y6 y7 y8) (spec_l3Put.l0 (k + 1) y0 y1 y2 y3 y4 y5 y6 y7 y8)) ∧ (∀ y0 y1 y2 y3 y4 y5 y6 y7 y8 y9, LeO (spec_l3Put.j1 k y0 y1 y2 y3 y4 y5 y6 y7 y8 y9) (spec_l3Put.j1 (k + 1) y0 y1 y2 y3 y4 y5 y6 y7 y8 y9))
 | 0 => ⟨fun _ _ _ _ _ _ _ _ _ r h => by simp [spec_l3Put.l0] at h, fun _ _ _ _ _ _ _ _ _ _ r h => by simp [spec_l3Put.j1] at h⟩
 | k + 1 => by
  obtain ⟨ih0, ih1⟩ := spec_l3Put.mono_l k
  refine ⟨?_, ?_⟩
  ·intro y0 y1 y2 y3 y4 y5 y6 y7 y8
   unfold spec_l3Put.l0
   repeat' first
   | (with_reducible exact ih0 _ _ _ _ _ _ _ _ _)
   | (with_reducible exact ih1 _ _ _ _ _ _ _ _ _ _)
   | (with_reducible exact LeO.refl _)
   | (with_reducible exact LeO.none _)
   | (with_reducible refine LeO.ite ?_ ?_)
   | (with_reducible refine LeO.bind ?_ (fun _ => ?_))
   | exact ih0 _ _ _ _ _ _ _ _ _
   | exact ih1 _ _ _ _ _ _ _ _ _ _
   | exact LeO.none _
   | refine LeO.ite ?_ ?_
   | refine LeO.bind ?_ (fun _ => ?_)
  ·intro y0 y1 y2 y3 y4 y5 y6 y7 y8 y9
   unfold spec_l3Put.j1
   repeat' first
   | (with_reducible exact ih0 _ _ _ _ _ _ _ _ _)
   | (with_reducible exact ih1 _ _ _ _ _ _ _ _ _ _)
   | (with_reducible exact LeO.refl _)
   | (with_reducible exact LeO.none _)
   | (with_reducible refine LeO.ite ?_ ?_)
   | (with_reducible refine LeO.bind ?_ (fun _ => ?_))
   | exact ih0 _ _ _ _ _ _ _ _ _
   | exact ih1 _ _ _ _ _ _ _ _ _ _
   | exact LeO.none _
   | refine LeO.ite ?_ ?_
   | refine LeO.bind ?_ (fun _ => ?_)
theorem spec_l3Put.mono : ∀ a0 a1 a2 a3 a4 k, LeO (spec_l3Put.f k a0 a1 a2 a3 a4) (spec_l3Put.f (k + 1) a0 a1 a2 a3 a4) := by
 intro a0 a1 a2 a3 a4 k
 obtain ⟨ih0, ih1⟩ := spec_l3Put.mono_l k
 unfold spec_l3Put.f
 repeat' first
  | (with_reducible exact ih0 _ _ _ _ _ _ _ _ _)
  | (with_reducible exact ih1 _ _ _ _ _ _ _ _ _ _)
  | (with_reducible exact LeO.refl _)
  | (with_reducible exact LeO.none _)
  | (with_reducible refine LeO.ite ?_ ?_)
  | (with_reducible refine LeO.bind ?_ (fun _ => ?_))
  | exact ih0 _ _ _ _ _ _ _ _ _
  | exact ih1 _ _ _ _ _ _ _ _ _ _
  | exact LeO.none _
  | refine LeO.ite ?_ ?_
  | refine LeO.bind ?_ (fun _ => ?_)
def spec_l3Put.T6 : Bool × List (List Nat × List Nat) := (true, [([], []), ([0], [0]), ([1], [1]), ([2], [2]), ([3, 2], [2, 3]), ([2], [2]), ([4, 5, 2], [2, 4, 5]), ([6, 2], [2, 6]), ([7, 2], [2, 7]), ([2], [2]), ([9, 2], [2, 9]), ([8, 10, 2], [2, 8, 10]), ([2, 11], [2, 11])])
def spec_l3Put.B6 : List Nat := [0, 1, 3, 7, 15, 7, 63, 127, 255, 7, 519, 2047, 4095]
theorem spec_l3Put.tab6 : rtab .any (opsOf Try.f111 6) = spec_l3Put.T6 := by kernel_rfl
theorem spec_l3Put.bits6 : waitsOk spec_l3Put.T6.2 spec_l3Put.B6 = true := by kernel_rfl
def spec_l3Put.T9 : Bool × List (List Nat × List Nat) := (true, [([], []), ([0], [0]), ([], []), ([1, 2], [1, 2]), ([3], [3]), ([4], [4]), ([], []), ([6], [6]), ([5, 7], [5, 7])])
def spec_l3Put.B9 : List Nat := [0, 1, 0, 7, 15, 31, 0, 64, 255]
theorem spec_l3Put.tab9 : rtab .any (opsOf Try.f111 9) = spec_l3Put.T9 := by kernel_rfl
theorem spec_l3Put.bits9 : waitsOk spec_l3Put.T9.2 spec_l3Put.B9 = true := by kernel_rfl
def spec_l3Put.T10 : Bool × List (List Nat × List Nat) := (true, [([], []), ([0], [0]), ([], []), ([2], [2]), ([], []), ([3, 4], [3, 4]), ([5], [5]), ([6], [6]), ([1, 7], [1, 7]), ([0, 1, 2, 3, 4, 5, 6, 7, 8], []), ([9, 8, 8, 0, 1, 2, 3, 4, 5, 6, 7, 8], [8, 9])])
def spec_l3Put.B10 : List Nat := [0, 1, 0, 4, 0, 28, 60, 124, 255, 511, 1023]
theorem spec_l3Put.tab10 : rtab .any (opsOf Try.f111 10) = spec_l3Put.T10 := by kernel_rfl
theorem spec_l3Put.bits10 : waitsOk spec_l3Put.T10.2 spec_l3Put.B10 = true := by kernel_rfl
set_option maxHeartbeats 8000000 in
set_option maxRecDepth 100000 in
theorem spec_l3Put.calls (k : Nat) (a0_0 : Int) (A0_1 : Option Addr) (c0_1 : Nat) (l0_1 : List (S134)) (a1_0 : Int) (a1_1 : ByteArray) (a1_2 : ByteArray) (r1 : Int) (r2 : List (S134)) (w : World) (hr0_1 : Kd.C k134 w A0_1 l0_1.length l0_1) (hc0_1 : l0_1.length ≤ c0_1) (h : spec_l3Put.f k a0_0 l0_1 a1_0 a1_1 a1_2 = some (r1, r2)) :
 Calls Try.prog 111 #[.agg #[.int .i64 a0_0, .slice A0_1 l0_1.length c0_1], .agg #[.int .i64 a1_0, .string a1_1, .string a1_2]] w fun e w' => ∃ v1_ : Value, e = .returned (.agg #[.int .i64 r1, v1_]) ∧ Kd.R k134 134 w' w.heap.size (fun _ => True) v1_ r2 ∧ Below w.heap.size w w' := by
 have hu70 := Try.underlying70
 have hu134 := Try.underlying134
 have HR0_1 := aM hr0_1
 have HC0_1 := aM hc0_1
 clear hr0_1 hc0_1
 have HB := aM (Below.refl w.heap.size w)
 have H : (spec_l3Put.l0 k false 0 a0_0 l0_1 a1_0 a1_1 a1_2 a0_0 ([] : List (S134))) = some (r1, r2) := h
 clear h
 have H' := aM H
 clear H
 go_enter Try.func111, Try.ntmps111
 go_wp2_with (first | ((with_reducible refine gate_dst (N := 2) rfl ?_); refine box_event ?hg (N := 2) ?hd (cs := #[.int .i64 a0_0, .slice A0_1 l0_1.length c0_1]) (t := 70) ?hr ?_; (case hd => rfl); (case hg => rfl); (case hr => first | (go_simp; done) | (go_simp; rfl)); intro gb170 hg w3 hbox hb; have BK170 := aM (hbox); have GW170 := aM (xge hg); have GE170 := aM (xge hg); replace HB := xbs hb; clear hb hbox hg) | ((with_reducible refine gate_dst (N := 3) rfl ?_); refine box_event ?hg (N := 3) ?hd (cs := #[.int .i64 a1_0, .string a1_1, .string a1_2]) (t := 134) ?hr ?_; (case hd => rfl); (case hg => rfl); (case hr => first | (go_simp; done) | (go_simp; rfl)); intro gb171 hg w4 hbox hb; have GW171 := aM (xge hg); have GE171 := aM (xge hg); replace HB := xbs hb; have NB170_171 := aM ((by rw [hg]; exact Nat.ne_of_lt (blk_lt (g := gb170) (o := .cells #[.int .i64 a0_0, .slice A0_1 l0_1.length c0_1] 70 (0, 0)) xblk) : gb170 ≠ gb171)); have NB171_170 := aM ((by rw [hg]; exact Nat.ne_of_gt (blk_lt (g := gb170) (o := .cells #[.int .i64 a0_0, .slice A0_1 l0_1.length c0_1] 70 (0, 0)) xblk) : gb171 ≠ gb170)); replace BK170 := xbb BK170 hb; have BK171 := aM (hbox); clear hb hbox hg) | ((with_reducible refine gate_dst (N := 4) rfl ?_); refine box_event ?hg (N := 4) ?hd (cs := #[.int .i64 0, .slice none 0 0]) (t := 70) ?hr ?_; (case hd => rfl); (case hg => rfl); (case hr => first | (go_simp; done) | (go_simp; rfl)); intro gb172 hg w5 hbox hb; have GW172 := aM (xge hg); have GE172 := aM (xge hg); replace HB := xbs hb; have NB170_172 := aM ((by rw [hg]; exact Nat.ne_of_lt (blk_lt (g := gb170) (o := .cells #[.int .i64 a0_0, .slice A0_1 l0_1.length c0_1] 70 (0, 0)) xblk) : gb170 ≠ gb172)); have NB172_170 := aM ((by rw [hg]; exact Nat.ne_of_gt (blk_lt (g := gb170) (o := .cells #[.int .i64 a0_0, .slice A0_1 l0_1.length c0_1] 70 (0, 0)) xblk) : gb172 ≠ gb170)); have NB171_172 := aM ((by rw [hg]; exact Nat.ne_of_lt (blk_lt (g := gb171) (o := .cells #[.int .i64 a1_0, .string a1_1, .string a1_2] 134 (0, 0)) xblk) : gb171 ≠ gb172)); have NB172_171 := aM ((by rw [hg]; exact Nat.ne_of_gt (blk_lt (g := gb171) (o := .cells #[.int .i64 a1_0, .string a1_1, .string a1_2] 134 (0, 0)) xblk) : gb172 ≠ gb171)); replace BK170 := xbb BK170 hb; replace BK171 := xbb BK171 hb; have BK172 := aM (hbox); clear hb hbox hg; have hnb6 := NB170_171.out; have hnc6 := NB171_170.out; have hnb7 := NB170_172.out; have hnc7 := NB172_170.out; obtain ⟨hcz8_0, hcz8_1, hfz8_0, hfz8_1⟩ := xf2 (w := w5) BK170) | ((with_reducible refine gate_dst (N := 5) rfl ?_); refine box_event ?hg (N := 5) ?hd (cs := #[.int .i64 0, .slice none 0 0]) (t := 70) ?hr ?_; (case hd => rfl); (case hg => rfl); (case hr => first | (go_simp; done) | (go_simp; rfl)); intro gb173 hg w9 hbox hb; have GW173 := aM (xge hg); have GE173 := aM (xge hg); replace HB := xbs hb; have NB170_173 := aM ((by rw [hg]; exact Nat.ne_of_lt (blk_lt (g := gb170) (o := .cells #[.int .i64 a0_0, .slice A0_1 l0_1.length c0_1] 70 (0, 0)) xblk) : gb170 ≠ gb173)); have NB173_170 := aM ((by rw [hg]; exact Nat.ne_of_gt (blk_lt (g := gb170) (o := .cells #[.int .i64 a0_0, .slice A0_1 l0_1.length c0_1] 70 (0, 0)) xblk) : gb173 ≠ gb170)); have NB171_173 := aM ((by rw [hg]; exact Nat.ne_of_lt (blk_lt (g := gb171) (o := .cells #[.int .i64 a1_0, .string a1_1, .string a1_2] 134 (0, 0)) xblk) : gb171 ≠ gb173)); have NB173_171 := aM ((by rw [hg]; exact Nat.ne_of_gt (blk_lt (g := gb171) (o := .cells #[.int .i64 a1_0, .string a1_1, .string a1_2] 134 (0, 0)) xblk) : gb173 ≠ gb171)); have NB172_173 := aM ((by rw [hg]; exact Nat.ne_of_lt (blk_lt (g := gb172) (o := .cells #[.int .i64 0, .slice none 0 0] 70 (0, 0)) xblk) : gb172 ≠ gb173)); have NB173_172 := aM ((by rw [hg]; exact Nat.ne_of_gt (blk_lt (g := gb172) (o := .cells #[.int .i64 0, .slice none 0 0] 70 (0, 0)) xblk) : gb173 ≠ gb172)); replace BK170 := xbb BK170 hb; replace BK171 := xbb BK171 hb; replace BK172 := xbb BK172 hb; have BK173 := aM (hbox); clear hb hbox hg; have hnb10 := NB173_170.out; have hnc10 := NB170_173.out; have hnb11 := NB173_171.out; have hnc11 := NB171_173.out; have hnb12 := NB173_172.out; have hnc12 := NB172_173.out; obtain ⟨hcz13_0, hcz13_1, hfz13_0, hfz13_1⟩ := xf2 (w := w9) BK173))
 go_loopg [6, 7] k (fun kq v6 v7 w' => ∃ (x6_1 : Bool) (x7_1 : Int) (x174001_1 : List (S134)) (u174001 : Value), v6 = .bool x6_1 ∧ v7 = .int .i64 x7_1 ∧ Aside0 (spec_l3Put.l0 kq x6_1 x7_1 a0_0 l0_1 a1_0 a1_1 a1_2 a0_0 x174001_1 = some (r1, r2)) ∧ Aside0 (kq ≤ k) ∧ Aside0 (Kd.R k134 134 w' w.heap.size (fun k_ => k_ ≠ gb171) u174001 x174001_1) ∧ Aside0 (w'.heap[gb170]? = some (.cells #[.int .i64 a0_0, (.slice A0_1 l0_1.length c0_1)] 70 (0, 0))) ∧ Aside0 (w'.heap[gb171]? = some (.cells #[.int .i64 a1_0, .string a1_1, .string a1_2] 134 (0, 0))) ∧ Aside0 (w'.heap[gb172]? = some (.cells #[.int .i64 0, (.slice none 0 0)] 70 (0, 0))) ∧ Aside0 (w'.heap[gb173]? = some (.cells #[.int .i64 a0_0, u174001] 70 (0, 0))) ∧ Aside0 (Below w.heap.size w w'))
 case atStart => exact ⟨(false), (0), (([] : List (S134))), (.slice none 0 0), (by first | rfl | (simp; done) | (simp [*]; done)), (by first | rfl | (simp; done) | (simp [*]; done)), H', ⟨Nat.le_refl _⟩, ⟨by first | exact Kd.R_nil _ _ _ _ _ | exact Kd.N_nil _ _ _ _ _ | exact Kd.V_nil _ _ _ _ _ | exact Kd.Q_nil _ _ _ _ _ | exact Kd.S_nil _ _ _ _ _⟩, ⟨by (with_reducible repeat (first | refine blk_drewN ?_ _ | refine blk_drew ?_ | refine blk_alloc ?_ _)); refine blk_far ?_ NB170_173.out _; (with_reducible repeat (first | refine blk_drewN ?_ _ | refine blk_drew ?_ | refine blk_alloc ?_ _)); refine blk_far ?_ NB170_173.out _; (with_reducible repeat (first | refine blk_drewN ?_ _ | refine blk_drew ?_ | refine blk_alloc ?_ _)); exact BK170.out⟩, ⟨by (with_reducible repeat (first | refine blk_drewN ?_ _ | refine blk_drew ?_ | refine blk_alloc ?_ _)); refine blk_far ?_ NB171_173.out _; (with_reducible repeat (first | refine blk_drewN ?_ _ | refine blk_drew ?_ | refine blk_alloc ?_ _)); refine blk_far ?_ NB171_173.out _; (with_reducible repeat (first | refine blk_drewN ?_ _ | refine blk_drew ?_ | refine blk_alloc ?_ _)); exact BK171.out⟩, ⟨by (with_reducible repeat (first | refine blk_drewN ?_ _ | refine blk_drew ?_ | refine blk_alloc ?_ _)); refine blk_far ?_ NB172_173.out _; (with_reducible repeat (first | refine blk_drewN ?_ _ | refine blk_drew ?_ | refine blk_alloc ?_ _)); refine blk_far ?_ NB172_173.out _; (with_reducible repeat (first | refine blk_drewN ?_ _ | refine blk_drew ?_ | refine blk_alloc ?_ _)); exact BK172.out⟩, ⟨by (with_reducible repeat (first | refine blk_drewN ?_ _ | refine blk_drew ?_ | refine blk_alloc ?_ _)); refine blk_put (cs := #[.int .i64 a0_0, .slice none 0 0]) ?_ 1 _ rfl; (with_reducible repeat (first | refine blk_drewN ?_ _ | refine blk_drew ?_ | refine blk_alloc ?_ _)); refine blk_put (cs := #[.int .i64 0, .slice none 0 0]) ?_ 0 _ rfl; (with_reducible repeat (first | refine blk_drewN ?_ _ | refine blk_drew ?_ | refine blk_alloc ?_ _)); exact BK173.out⟩, ⟨xbg⟩⟩
 case round =>
  clear H'
  try clear c1
  try clear p2
  try clear c6
  try clear c7
  try clear c10
  try clear c11
  try clear c12
  try clear hcz13_0
  try clear hcz13_1
  try clear hcz8_0
  try clear hcz8_1
  try clear hfz13_0
  try clear hfz13_1
  try clear hfz8_0
  try clear hfz8_1
  obtain ⟨x6_1, x7_1, x174001_1, u174001, rfl, rfl, HA, HK1, HO_174001, BK170, BK171, BK172, BK173, HB⟩ := hrel
  cases gk with
  | zero => exact absurd HA.out (by simp [spec_l3Put.l0])
  | succ k1 =>
   have H := HA.out; clear HA
   simp only [spec_l3Put.l0] at H
   by_cases c14 : x7_1 < (l0_1.length : Int)
   ·rw [if_pos c14] at H
    have c14b0 : decide (x7_1 < (l0_1.length : Int)) = true := decide_eq_true c14; clear c14; have HC15 := aM H; clear H; have hnb16 := NB170_171.out; have hnc16 := NB171_170.out; have hnb17 := NB170_172.out; have hnc17 := NB172_170.out; have hnb18 := NB170_173.out; have hnc18 := NB173_170.out; obtain ⟨hcz19_0, hcz19_1, hfz19_0, hfz19_1⟩ := xf2 (w := wr) BK170
    go_upto_region 6 with (fail)
    go_cut [30] (fun v30 wc => ∃ (kq : Nat) (x30_14 : Bool), v30 = .bool x30_14 ∧ Aside0 (spec_l3Put.j1 kq x6_1 x7_1 x30_14 a0_0 l0_1 a1_0 a1_1 a1_2 a0_0 x174001_1 = some (r1, r2)) ∧ Aside0 (kq ≤ k1) ∧ Aside0 (Kd.R k134 134 wc w.heap.size (fun k_ => k_ ≠ gb171) u174001 x174001_1) ∧ Aside0 (wc.heap[gb170]? = some (.cells #[.int .i64 a0_0, (.slice A0_1 l0_1.length c0_1)] 70 (0, 0))) ∧ Aside0 (wc.heap[gb171]? = some (.cells #[.int .i64 a1_0, .string a1_1, .string a1_2] 134 (0, 0))) ∧ Aside0 (wc.heap[gb172]? = some (.cells #[.int .i64 0, (.slice none 0 0)] 70 (0, 0))) ∧ Aside0 (wc.heap[gb173]? = some (.cells #[.int .i64 a0_0, u174001] 70 (0, 0))) ∧ Aside0 (Below w.heap.size w wc))
    case first =>
     have H := HC15.out; clear HC15
     by_cases c20 : x6_1 = true
     ·subst c20
      have H1 : (spec_l3Put.j1 k1 true x7_1 false a0_0 l0_1 a1_0 a1_1 a1_2 a0_0 x174001_1) = some (r1, r2) := by rw [if_pos rfl] at H; exact H
      clear H; have H := H1; clear H1
      have H' := aM H
      clear H
      try go_wp2
      replace HO_174001 := aM (Kd.R_drew HO_174001.out); replace BK170 := aM (blk_drew BK170.out); replace BK171 := aM (blk_drew BK171.out); replace BK172 := aM (blk_drew BK172.out); replace BK173 := aM (blk_drew BK173.out); replace HB := aM (below_drew1 HB.out)
      refine start_ (n := 13) (S := fun w' => True) (ds := []) #[false, false, false, false, false, false, false, false, false, false, false, false, false] (by kernel_rfl) rfl rfl trivial (fun hHeld => ?_); refine with_tabW spec_l3Put.tab6 spec_l3Put.bits6 (fun HT_ HW_ => ?_)
      generalize wr.drew = w21 at HO_174001 BK170 BK171 BK172 BK173 HB hHeld ⊢
      refine pv_ 0 18 (h := ?_)
      refine pv_ 1 19 (h := ?_)
      refine pv_ 2 20 (h := ?_)
      refine pu_ 3 21 (h := ?_)
      refine pu_ 4 22 (h := ?_)
      refine pu_ 5 23 (h := ?_)
      refine pu_ 6 24 (h := ?_)
      refine pu_ 7 25 (h := ?_)
      refine pu_ 8 26 (h := ?_)
      refine pu_ 9 27 (h := ?_)
      refine pu_ 10 28 (h := ?_)
      refine pu_ 11 29 (h := ?_)
      refine pv_ 12 30 (h := ?_)
      refine done_ (done_of HT_.out (by kernel_rfl)) ?_
      try go_wp2
      go_meet
      case rel => exact ⟨_, (false), (by first | rfl | (simp; done) | (simp [*]; done)), H', ⟨by have := HK1.out; first | omega | exact Nat.le_refl _⟩, ⟨by (with_reducible repeat (first | apply Kd.R_alloc | apply Kd.R_drewN | apply Kd.R_drew)); exact HO_174001.out⟩, ⟨xblk⟩, ⟨xblk⟩, ⟨xblk⟩, ⟨xblk⟩, ⟨xbg⟩⟩
     ·replace c20 := Bool.eq_false_iff.mpr c20
      subst c20
      have H1 : (if 0 ≤ x7_1 then (spec_l3Put.j1 k1 false x7_1 (decide (((rd_T134 l0_1 x7_1).f0) ≥ a1_0)) a0_0 l0_1 a1_0 a1_1 a1_2 a0_0 x174001_1) else (none)) = some (r1, r2) := by rw [if_neg (show ¬ (false = true) by decide)] at H; exact H
      clear H; have H := H1; clear H1
      by_cases c22 : 0 ≤ x7_1
      ·rw [if_pos c22] at H
       have c22b0 : decide (0 ≤ x7_1) = true := decide_eq_true c22; clear c22
       (first | rw [c22b0] | (simp only [i64_w, i32_w]; rw [c22b0]) | skip)
       have H' := aM H
       clear H
       try go_wp2
       replace HO_174001 := aM (Kd.R_drew HO_174001.out); replace BK170 := aM (blk_drew BK170.out); replace BK171 := aM (blk_drew BK171.out); replace BK172 := aM (blk_drew BK172.out); replace BK173 := aM (blk_drew BK173.out); replace HB := aM (below_drew1 HB.out); have p177 : 0 ≤ (x7_1 : Int) := oda; have q177 : x7_1 < (l0_1.length : Int) := oda
       obtain ⟨ad177, e177, hx177_0, hx177_1, hx177_2⟩ := at_T134 HR0_1.out x7_1 p177 q177
       have hw177_2 := hx177_2; have hw177_1 := hx177_1; have hw177_0 := hx177_0
       cases e177
       replace hx177_0 := xce HB hx177_0; replace hx177_1 := xce HB hx177_1; replace hx177_2 := xce HB hx177_2; replace p177 := eq_true p177; replace q177 := eq_true q177
       refine start_ (n := 13) (S := fun w' => w'.cell? ⟨gb170, 0, none⟩ = some (.int .i64 a0_0) ∧ w'.cell? ⟨gb170, 1, none⟩ = some (.slice (some ad177) l0_1.length c0_1) ∧ w'.cell? ⟨gb171, 0, none⟩ = some (.int .i64 a1_0) ∧ w'.cell? ⟨gb171, 1, none⟩ = some (.string a1_1) ∧ w'.cell? ⟨gb171, 2, none⟩ = some (.string a1_2) ∧ w'.cell? (ad177.add ((x7_1).toNat * 3)) = some (.int .i64 ((rd_T134 l0_1 x7_1).f0)) ∧ w'.cell? ⟨(ad177.add ((x7_1).toNat * 3)).block, (ad177.add ((x7_1).toNat * 3)).off + 1, none⟩ = some (.string ((rd_T134 l0_1 x7_1).f1)) ∧ w'.cell? ⟨(ad177.add ((x7_1).toNat * 3)).block, (ad177.add ((x7_1).toNat * 3)).off + 2, none⟩ = some (.string ((rd_T134 l0_1 x7_1).f2))) (ds := []) #[false, false, false, false, false, false, false, false, false, false, false, false, false] (by kernel_rfl) rfl rfl ⟨xc BK170 0 rfl, xc BK170 1 rfl, xc BK171 0 rfl, xc BK171 1 rfl, xc BK171 2 rfl, (xce HB hw177_0), (xce HB hw177_1), (xce HB hw177_2)⟩ (fun hHeld => ?_); refine with_tabW spec_l3Put.tab6 spec_l3Put.bits6 (fun HT_ HW_ => ?_)
       generalize wr.drew = w23 at HO_174001 BK170 BK171 BK172 BK173 HB hx177_0 hx177_1 hx177_2 hHeld ⊢
       refine pv_ 0 18 (h := ?_)
       refine pv_ 1 19 (h := ?_)
       refine pv_ 2 20 (h := ?_)
       refine pv_ 3 21 (h := ?_)
       refine pv_ 5 23 (h := ?_)
       refine pv_ 9 27 (h := ?_)
       refine tk_ 4 22 (h := ?_)
       refine pv_ 6 24 (h := ?_)
       refine pv_ 7 25 (h := ?_)
       refine tk_ 8 26 (h := ?_)
       refine tk_ 10 28 (h := ?_)
       refine pv_ 11 29 (h := ?_)
       refine pv_ 12 30 (h := ?_)
       refine done_ (done_of HT_.out (by kernel_rfl)) ?_
       try go_wp2
       go_meet
       case rel => exact ⟨_, (decide (((rd_T134 l0_1 x7_1).f0) ≥ a1_0)), (by first | rfl | (simp; done) | (simp [*]; done)), H', ⟨by have := HK1.out; first | omega | exact Nat.le_refl _⟩, ⟨by (with_reducible repeat (first | apply Kd.R_alloc | apply Kd.R_drewN | apply Kd.R_drew)); exact HO_174001.out⟩, ⟨xblk⟩, ⟨xblk⟩, ⟨xblk⟩, ⟨xblk⟩, ⟨xbg⟩⟩
      ·rw [if_neg c22] at H
       exact absurd H (by simp)
    case rest =>
     clear HC15
     try clear c1
     try clear p1
     try clear q1
     try clear hx1
     try clear c2
     try clear p2
     try clear c6
     try clear c7
     try clear c10
     try clear c11
     try clear c12
     try clear c14
     try clear c14b0
     try clear c16
     try clear c17
     try clear p17
     try clear q17
     try clear hx17
     try clear c18
     try clear c20
     try clear c22
     try clear c22b0
     try clear hcz13_0
     try clear hcz13_1
     try clear hcz19_0
     try clear hcz19_1
     try clear hcz8_0
     try clear hcz8_1
     try clear hfz13_0
     try clear hfz13_1
     try clear hfz19_0
     try clear hfz19_1
     try clear hfz8_0
     try clear hfz8_1
     try clear hx177_0
     try clear hx177_1
     try clear hx177_2
     try clear p177
     try clear p2
     try clear q177
     obtain ⟨kq, x30_14, rfl, HA, HJ14, HO_174001, BK170, BK171, BK172, BK173, HB⟩ := hcut
     cases kq with
     | zero => exact absurd HA.out (by simp [spec_l3Put.j1])
     | succ kj14 =>
      have H := HA.out; clear HA
      simp only [spec_l3Put.j1] at H
      by_cases c24 : x30_14 = true
      ·subst c24
       have H1 : (if x174001_1.length < 3518437208883 then ((some (x174001_1 ++ [(⟨a1_0, a1_1, a1_2⟩ : S134)] : List (S134))).bind fun y178 => (if 0 ≤ x7_1 then (if x7_1 < (l0_1.length : Int) then (if ((rd_T134 l0_1 x7_1).f0) = a1_0 then (spec_l3Put.l0 kj14 true (wrap64 (x7_1 + 1)) a0_0 l0_1 a1_0 a1_1 a1_2 a0_0 y178) else (if y178.length < 3518437208883 then (spec_l3Put.l0 kj14 true (wrap64 (x7_1 + 1)) a0_0 l0_1 a1_0 a1_1 a1_2 a0_0 (y178 ++ [(⟨(rd_T134 l0_1 x7_1).f0, (rd_T134 l0_1 x7_1).f1, (rd_T134 l0_1 x7_1).f2⟩ : S134)])) else (none))) else (none)) else (none))) else (none)) = some (r1, r2) := by rw [if_pos rfl] at H; exact H
       clear H; have H := H1; clear H1
       by_cases c25 : x174001_1.length < 3518437208883
       ·rw [if_pos c25] at H
        have LMc25 := aM c25; clear c25
        obtain ⟨y178, hy178⟩ : ∃ y_ : List (S134), y_ = (x174001_1 ++ [(⟨a1_0, a1_1, a1_2⟩ : S134)]) := ⟨_, rfl⟩
        replace H : (if 0 ≤ x7_1 then (if x7_1 < (l0_1.length : Int) then (if ((rd_T134 l0_1 x7_1).f0) = a1_0 then (spec_l3Put.l0 kj14 true (wrap64 (x7_1 + 1)) a0_0 l0_1 a1_0 a1_1 a1_2 a0_0 y178) else (if y178.length < 3518437208883 then (spec_l3Put.l0 kj14 true (wrap64 (x7_1 + 1)) a0_0 l0_1 a1_0 a1_1 a1_2 a0_0 (y178 ++ [(⟨(rd_T134 l0_1 x7_1).f0, (rd_T134 l0_1 x7_1).f1, (rd_T134 l0_1 x7_1).f2⟩ : S134)])) else (none))) else (none)) else (none)) = some (r1, r2) := by first | (rw [hy178]; with_reducible exact H) | (have H2_ := (Option.bind_some _ _).symm.trans H; rw [hy178]; with_reducible exact H2_) | (have H2_ := (Option.bind_some _ _).symm.trans H; with_reducible exact H2_) | with_reducible exact H | (rw [hy178]; exact H) | exact H
        have Ny178 := aM hy178; clear hy178
        by_cases c26 : 0 ≤ x7_1
        ·rw [if_pos c26] at H
         have c26b0 : decide (0 ≤ x7_1) = true := decide_eq_true c26; clear c26
         by_cases c27 : x7_1 < (l0_1.length : Int)
         ·rw [if_pos c27] at H
          have c27b0 : decide (x7_1 < (l0_1.length : Int)) = true := decide_eq_true c27; clear c27
          by_cases c28 : ((rd_T134 l0_1 x7_1).f0) = a1_0
          ·rw [if_pos c28] at H
           have c28b0 : (((rd_T134 l0_1 x7_1).f0) == a1_0) = true := beq_iff_eq.mpr c28; have c28b1 : (((rd_T134 l0_1 x7_1).f0) != a1_0) = false := bne_eq_false_iff_eq.mpr c28; clear c28
           have H' := aM H
           clear H; have hnb29 := NB173_170.out; have hnc29 := NB170_173.out; have hnb30 := NB173_171.out; have hnc30 := NB171_173.out; have hnb31 := NB173_172.out; have hnc31 := NB172_173.out; obtain ⟨hcz32_0, hcz32_1, hfz32_0, hfz32_1⟩ := xf2 (w := wc) BK173; have hnb33 := NB171_170.out; have hnc33 := NB170_171.out; have hnb34 := NB171_172.out; have hnc34 := NB172_171.out; obtain ⟨hcz35_0, hcz35_1, hcz35_2, hfz35_0, hfz35_1, hfz35_2⟩ := xf3 (w := wc) BK171
           try go_wp2_with (first | ((with_reducible refine gate_builtin (b := .append) (xs := #[.tmp 32, .tmp 34]) rfl ?_); at_builtin; refine Kd.R_append k134 (w0 := w) w.heap.size rfl (.tmp 32) (.tmp 34) 68 134 (.agg #[(.int .i64 0), (.string ⟨#[]⟩), (.string ⟨#[]⟩)]) 40 rfl Try.underlying68 info134 rfl (by decide) (by omega) u174001 x174001_1 (⟨a1_0, a1_1, a1_2⟩ : S134) [.int .i64 a1_0, .string a1_1, .string a1_2] (fun k_ => k_ ≠ gb171) (fun _ => False) rfl rfl ?aP (fun _ hk => hk.elim) ?aF ?aO ?aB ?aS ?aL ?_; (case aP => exact k134_mkM _ _ _ (⟨a1_0, a1_1, a1_2⟩ : S134)); (case aB => exact xbg); (case aF => exact (fun k_ hk => Kd.freshB (g := gb171) (o := .cells #[.int .i64 a1_0, .string a1_1, .string a1_2] 134 (0, 0)) xblk k_ hk)); (case aO => exact (xr HO_174001)); (case aS => exact (below_size xbg)); (case aL => have := LMc25.out; omega); intro v179 w36 ho hb hg hat; rw [← Ny178.out] at ho; have n0_ := aM (blk_grown (g := gb170) (o := .cells #[.int .i64 a0_0, .slice A0_1 l0_1.length c0_1] 70 (0, 0)) xblk hg (Kd.R_ne HO_174001.out BK170.out (by decide))); have n1_ := aM (blk_grown (g := gb171) (o := .cells #[.int .i64 a1_0, .string a1_1, .string a1_2] 134 (0, 0)) xblk hg (Kd.R_away HO_174001.out (fun _ hk => hk))); have n2_ := aM (blk_grown (g := gb172) (o := .cells #[.int .i64 0, .slice none 0 0] 70 (0, 0)) xblk hg (Kd.R_ne HO_174001.out BK172.out (by decide))); have n3_ := aM (blk_grown (g := gb173) (o := .cells #[.int .i64 a0_0, u174001] 70 (0, 0)) xblk hg (Kd.R_ne HO_174001.out BK173.out (by decide))); have n4_ := aM (hb); have n5_ := aM (ho); clear BK170; clear BK171; clear BK172; clear BK173; clear HB; clear HO_174001; have BK170 := n0_; have BK171 := n1_; have BK172 := n2_; have BK173 := n3_; have HB := n4_; have HO180 := n5_; clear n0_ n1_ n2_ n3_ n4_ n5_; clear ho hb hg hat; obtain ⟨Ao37, co37, eo37⟩ := Kd.R_slice HO180.out; subst eo37; obtain ⟨hcz38_0, hcz38_1, hfz38_0, hfz38_1⟩ := xf2 (w := w36) BK173))
           have n0_ : Aside0 (Kd.R k134 134 (w36.setCell ⟨gb173, 1, none⟩ (.slice Ao37 y178.length co37)) w.heap.size (fun k_ => k_ ≠ gb171) (.slice Ao37 y178.length co37) y178) := ⟨by (with_reducible repeat (first | apply Kd.R_alloc | apply Kd.R_drewN | apply Kd.R_drew)); exact Kd.R_mono (Kd.R_far (p := ⟨gb173, 1, none⟩) (Kd.R_types HO180.out BK173.out (by decide)) (fun _ hk => hk.2) (.slice Ao37 y178.length co37)) (fun _ hk => hk.1)⟩; have n1_ : Aside0 ((w36.setCell ⟨gb173, 1, none⟩ (.slice Ao37 y178.length co37)).heap[gb170]? = some (.cells #[.int .i64 a0_0, .slice A0_1 l0_1.length c0_1] 70 (0, 0))) := ⟨by (with_reducible repeat (first | refine blk_drewN ?_ _ | refine blk_drew ?_ | refine blk_alloc ?_ _)); refine blk_far ?_ NB170_173.out _; (with_reducible repeat (first | refine blk_drewN ?_ _ | refine blk_drew ?_ | refine blk_alloc ?_ _)); exact BK170.out⟩; have n2_ : Aside0 ((w36.setCell ⟨gb173, 1, none⟩ (.slice Ao37 y178.length co37)).heap[gb171]? = some (.cells #[.int .i64 a1_0, .string a1_1, .string a1_2] 134 (0, 0))) := ⟨by (with_reducible repeat (first | refine blk_drewN ?_ _ | refine blk_drew ?_ | refine blk_alloc ?_ _)); refine blk_far ?_ NB171_173.out _; (with_reducible repeat (first | refine blk_drewN ?_ _ | refine blk_drew ?_ | refine blk_alloc ?_ _)); exact BK171.out⟩; have n3_ : Aside0 ((w36.setCell ⟨gb173, 1, none⟩ (.slice Ao37 y178.length co37)).heap[gb172]? = some (.cells #[.int .i64 0, .slice none 0 0] 70 (0, 0))) := ⟨by (with_reducible repeat (first | refine blk_drewN ?_ _ | refine blk_drew ?_ | refine blk_alloc ?_ _)); refine blk_far ?_ NB172_173.out _; (with_reducible repeat (first | refine blk_drewN ?_ _ | refine blk_drew ?_ | refine blk_alloc ?_ _)); exact BK172.out⟩
           have n4_ : Aside0 ((w36.setCell ⟨gb173, 1, none⟩ (.slice Ao37 y178.length co37)).heap[gb173]? = some (.cells #[.int .i64 a0_0, .slice Ao37 y178.length co37] 70 (0, 0))) := ⟨by (with_reducible repeat (first | refine blk_drewN ?_ _ | refine blk_drew ?_ | refine blk_alloc ?_ _)); refine blk_put (cs := #[.int .i64 a0_0, u174001]) ?_ 1 _ rfl; (with_reducible repeat (first | refine blk_drewN ?_ _ | refine blk_drew ?_ | refine blk_alloc ?_ _)); exact BK173.out⟩; have n5_ : Aside0 (Below w.heap.size w (w36.setCell ⟨gb173, 1, none⟩ (.slice Ao37 y178.length co37))) := ⟨xbg⟩
           (try clear HO180); (try clear BK170); (try clear BK171); (try clear BK172); (try clear BK173); (try clear HB)
           generalize (w36.setCell ⟨gb173, 1, none⟩ (.slice Ao37 y178.length co37)) = w39 at n0_ n1_ n2_ n3_ n4_ n5_ ⊢
           have HO180 := n0_; have BK170 := n1_; have BK171 := n2_; have BK172 := n3_; have BK173 := n4_; have HB := n5_; clear n0_ n1_ n2_ n3_ n4_ n5_; replace HO180 := aM (Kd.R_drew HO180.out); replace BK170 := aM (blk_drew BK170.out); replace BK171 := aM (blk_drew BK171.out); replace BK172 := aM (blk_drew BK172.out); replace BK173 := aM (blk_drew BK173.out); replace HB := aM (below_drew1 HB.out); have p181 : 0 ≤ (x7_1 : Int) := oda; have q181 : x7_1 < (l0_1.length : Int) := oda
           obtain ⟨ad181, e181, hx181_0, hx181_1, hx181_2⟩ := at_T134 HR0_1.out x7_1 p181 q181
           have hw181_2 := hx181_2; have hw181_1 := hx181_1; have hw181_0 := hx181_0
           cases e181
           replace hx181_0 := xce HB hx181_0; replace hx181_1 := xce HB hx181_1; replace hx181_2 := xce HB hx181_2; replace p181 := eq_true p181; replace q181 := eq_true q181
           refine start_ (n := 9) (S := fun w' => w'.cell? ⟨gb170, 0, none⟩ = some (.int .i64 a0_0) ∧ w'.cell? ⟨gb170, 1, none⟩ = some (.slice (some ad181) l0_1.length c0_1) ∧ w'.cell? ⟨gb171, 0, none⟩ = some (.int .i64 a1_0) ∧ w'.cell? ⟨gb171, 1, none⟩ = some (.string a1_1) ∧ w'.cell? ⟨gb171, 2, none⟩ = some (.string a1_2) ∧ w'.cell? (ad181.add ((x7_1).toNat * 3)) = some (.int .i64 ((rd_T134 l0_1 x7_1).f0)) ∧ w'.cell? ⟨(ad181.add ((x7_1).toNat * 3)).block, (ad181.add ((x7_1).toNat * 3)).off + 1, none⟩ = some (.string ((rd_T134 l0_1 x7_1).f1)) ∧ w'.cell? ⟨(ad181.add ((x7_1).toNat * 3)).block, (ad181.add ((x7_1).toNat * 3)).off + 2, none⟩ = some (.string ((rd_T134 l0_1 x7_1).f2))) (ds := []) #[false, false, false, false, false, false, false, false, false] (by kernel_rfl) rfl rfl ⟨xc BK170 0 rfl, xc BK170 1 rfl, xc BK171 0 rfl, xc BK171 1 rfl, xc BK171 2 rfl, (xce HB hw181_0), (xce HB hw181_1), (xce HB hw181_2)⟩ (fun hHeld => ?_); refine with_tabW spec_l3Put.tab9 spec_l3Put.bits9 (fun HT_ HW_ => ?_)
           generalize w39.drew = w40 at HO180 BK170 BK171 BK172 BK173 HB hx181_0 hx181_1 hx181_2 hHeld ⊢
           refine pv_ 0 37 (h := ?_)
           refine pv_ 2 39 (h := ?_)
           refine pv_ 6 43 (h := ?_)
           refine tk_ 1 38 (h := ?_)
           refine pv_ 3 40 (h := ?_)
           refine pv_ 4 41 (h := ?_)
           refine tk_ 5 42 (h := ?_)
           refine tk_ 7 44 (h := ?_)
           refine pv_ 8 45 (h := ?_)
           refine done_ (done_of HT_.out (by kernel_rfl)) ?_
           try go_wp2
           go_roundg kj14
           case measure => have := HK1.out; have := HJ14.out; omega
           case rel => exact ⟨(true), (wrap64 (x7_1 + 1)), (y178), (.slice Ao37 y178.length co37), (by first | rfl | (simp; done) | (simp [*]; done)), (by first | rfl | (simp; done) | (simp [*]; done)), H', ⟨by have := HK1.out; have := HJ14.out; omega⟩, ⟨by (with_reducible repeat (first | apply Kd.R_alloc | apply Kd.R_drewN | apply Kd.R_drew)); exact HO180.out⟩, ⟨xblk⟩, ⟨xblk⟩, ⟨xblk⟩, ⟨xblk⟩, ⟨xbg⟩⟩
          ·rw [if_neg c28] at H
           have c28b0 : (((rd_T134 l0_1 x7_1).f0) == a1_0) = false := beq_eq_false_iff_ne.mpr c28; have c28b1 : (((rd_T134 l0_1 x7_1).f0) != a1_0) = true := bne_iff_ne.mpr c28
           by_cases c41 : y178.length < 3518437208883
           ·rw [if_pos c41] at H
            have LMc41 := aM c41; clear c41
            obtain ⟨y183, hy183⟩ : ∃ y_ : List (S134), y_ = (y178 ++ [(⟨(rd_T134 l0_1 x7_1).f0, (rd_T134 l0_1 x7_1).f1, (rd_T134 l0_1 x7_1).f2⟩ : S134)]) := ⟨_, rfl⟩
            replace H : (spec_l3Put.l0 kj14 true (wrap64 (x7_1 + 1)) a0_0 l0_1 a1_0 a1_1 a1_2 a0_0 y183) = some (r1, r2) := by first | (rw [hy183]; with_reducible exact H) | (have H2_ := (Option.bind_some _ _).symm.trans H; rw [hy183]; with_reducible exact H2_) | (have H2_ := (Option.bind_some _ _).symm.trans H; with_reducible exact H2_) | with_reducible exact H | (rw [hy183]; exact H) | exact H
            have Ny183 := aM hy183; clear hy183
            have H' := aM H
            clear H; have hnb42 := NB173_170.out; have hnc42 := NB170_173.out; have hnb43 := NB173_171.out; have hnc43 := NB171_173.out; have hnb44 := NB173_172.out; have hnc44 := NB172_173.out; obtain ⟨hcz45_0, hcz45_1, hfz45_0, hfz45_1⟩ := xf2 (w := wc) BK173; have hnb46 := NB171_170.out; have hnc46 := NB170_171.out; have hnb47 := NB171_172.out; have hnc47 := NB172_171.out; obtain ⟨hcz48_0, hcz48_1, hcz48_2, hfz48_0, hfz48_1, hfz48_2⟩ := xf3 (w := wc) BK171
            try go_wp2_with (first | ((with_reducible refine gate_builtin (b := .append) (xs := #[.tmp 32, .tmp 34]) rfl ?_); at_builtin; refine Kd.R_append k134 (w0 := w) w.heap.size rfl (.tmp 32) (.tmp 34) 68 134 (.agg #[(.int .i64 0), (.string ⟨#[]⟩), (.string ⟨#[]⟩)]) 40 rfl Try.underlying68 info134 rfl (by decide) (by omega) u174001 x174001_1 (⟨a1_0, a1_1, a1_2⟩ : S134) [.int .i64 a1_0, .string a1_1, .string a1_2] (fun k_ => k_ ≠ gb171) (fun _ => False) rfl rfl ?aP (fun _ hk => hk.elim) ?aF ?aO ?aB ?aS ?aL ?_; (case aP => exact k134_mkM _ _ _ (⟨a1_0, a1_1, a1_2⟩ : S134)); (case aB => exact xbg); (case aF => exact (fun k_ hk => Kd.freshB (g := gb171) (o := .cells #[.int .i64 a1_0, .string a1_1, .string a1_2] 134 (0, 0)) xblk k_ hk)); (case aO => exact (xr HO_174001)); (case aS => exact (below_size xbg)); (case aL => have := LMc25.out; omega); intro v179 w49 ho hb hg hat; rw [← Ny178.out] at ho; have n0_ := aM (blk_grown (g := gb170) (o := .cells #[.int .i64 a0_0, .slice A0_1 l0_1.length c0_1] 70 (0, 0)) xblk hg (Kd.R_ne HO_174001.out BK170.out (by decide))); have n1_ := aM (blk_grown (g := gb171) (o := .cells #[.int .i64 a1_0, .string a1_1, .string a1_2] 134 (0, 0)) xblk hg (Kd.R_away HO_174001.out (fun _ hk => hk))); have n2_ := aM (blk_grown (g := gb172) (o := .cells #[.int .i64 0, .slice none 0 0] 70 (0, 0)) xblk hg (Kd.R_ne HO_174001.out BK172.out (by decide))); have n3_ := aM (blk_grown (g := gb173) (o := .cells #[.int .i64 a0_0, u174001] 70 (0, 0)) xblk hg (Kd.R_ne HO_174001.out BK173.out (by decide))); have n4_ := aM (hb); have n5_ := aM (ho); clear BK170; clear BK171; clear BK172; clear BK173; clear HB; clear HO_174001; have BK170 := n0_; have BK171 := n1_; have BK172 := n2_; have BK173 := n3_; have HB := n4_; have HO180 := n5_; clear n0_ n1_ n2_ n3_ n4_ n5_; clear ho hb hg hat; obtain ⟨Ao50, co50, eo50⟩ := Kd.R_slice HO180.out; subst eo50; obtain ⟨hcz51_0, hcz51_1, hfz51_0, hfz51_1⟩ := xf2 (w := w49) BK173))
            have n0_ : Aside0 (Kd.R k134 134 (w49.setCell ⟨gb173, 1, none⟩ (.slice Ao50 y178.length co50)) w.heap.size (fun k_ => k_ ≠ gb171) (.slice Ao50 y178.length co50) y178) := ⟨by (with_reducible repeat (first | apply Kd.R_alloc | apply Kd.R_drewN | apply Kd.R_drew)); exact Kd.R_mono (Kd.R_far (p := ⟨gb173, 1, none⟩) (Kd.R_types HO180.out BK173.out (by decide)) (fun _ hk => hk.2) (.slice Ao50 y178.length co50)) (fun _ hk => hk.1)⟩; have n1_ : Aside0 ((w49.setCell ⟨gb173, 1, none⟩ (.slice Ao50 y178.length co50)).heap[gb170]? = some (.cells #[.int .i64 a0_0, .slice A0_1 l0_1.length c0_1] 70 (0, 0))) := ⟨by (with_reducible repeat (first | refine blk_drewN ?_ _ | refine blk_drew ?_ | refine blk_alloc ?_ _)); refine blk_far ?_ NB170_173.out _; (with_reducible repeat (first | refine blk_drewN ?_ _ | refine blk_drew ?_ | refine blk_alloc ?_ _)); exact BK170.out⟩; have n2_ : Aside0 ((w49.setCell ⟨gb173, 1, none⟩ (.slice Ao50 y178.length co50)).heap[gb171]? = some (.cells #[.int .i64 a1_0, .string a1_1, .string a1_2] 134 (0, 0))) := ⟨by (with_reducible repeat (first | refine blk_drewN ?_ _ | refine blk_drew ?_ | refine blk_alloc ?_ _)); refine blk_far ?_ NB171_173.out _; (with_reducible repeat (first | refine blk_drewN ?_ _ | refine blk_drew ?_ | refine blk_alloc ?_ _)); exact BK171.out⟩; have n3_ : Aside0 ((w49.setCell ⟨gb173, 1, none⟩ (.slice Ao50 y178.length co50)).heap[gb172]? = some (.cells #[.int .i64 0, .slice none 0 0] 70 (0, 0))) := ⟨by (with_reducible repeat (first | refine blk_drewN ?_ _ | refine blk_drew ?_ | refine blk_alloc ?_ _)); refine blk_far ?_ NB172_173.out _; (with_reducible repeat (first | refine blk_drewN ?_ _ | refine blk_drew ?_ | refine blk_alloc ?_ _)); exact BK172.out⟩
            have n4_ : Aside0 ((w49.setCell ⟨gb173, 1, none⟩ (.slice Ao50 y178.length co50)).heap[gb173]? = some (.cells #[.int .i64 a0_0, .slice Ao50 y178.length co50] 70 (0, 0))) := ⟨by (with_reducible repeat (first | refine blk_drewN ?_ _ | refine blk_drew ?_ | refine blk_alloc ?_ _)); refine blk_put (cs := #[.int .i64 a0_0, u174001]) ?_ 1 _ rfl; (with_reducible repeat (first | refine blk_drewN ?_ _ | refine blk_drew ?_ | refine blk_alloc ?_ _)); exact BK173.out⟩; have n5_ : Aside0 (Below w.heap.size w (w49.setCell ⟨gb173, 1, none⟩ (.slice Ao50 y178.length co50))) := ⟨xbg⟩
            (try clear HO180); (try clear BK170); (try clear BK171); (try clear BK172); (try clear BK173); (try clear HB)
            generalize (w49.setCell ⟨gb173, 1, none⟩ (.slice Ao50 y178.length co50)) = w52 at n0_ n1_ n2_ n3_ n4_ n5_ ⊢
            have HO180 := n0_; have BK170 := n1_; have BK171 := n2_; have BK172 := n3_; have BK173 := n4_; have HB := n5_; clear n0_ n1_ n2_ n3_ n4_ n5_; replace HO180 := aM (Kd.R_drew HO180.out); replace BK170 := aM (blk_drew BK170.out); replace BK171 := aM (blk_drew BK171.out); replace BK172 := aM (blk_drew BK172.out); replace BK173 := aM (blk_drew BK173.out); replace HB := aM (below_drew1 HB.out); have p181 : 0 ≤ (x7_1 : Int) := oda; have q181 : x7_1 < (l0_1.length : Int) := oda
            obtain ⟨ad181, e181, hx181_0, hx181_1, hx181_2⟩ := at_T134 HR0_1.out x7_1 p181 q181
            have hw181_2 := hx181_2; have hw181_1 := hx181_1; have hw181_0 := hx181_0
            cases e181
            replace hx181_0 := xce HB hx181_0; replace hx181_1 := xce HB hx181_1; replace hx181_2 := xce HB hx181_2; replace p181 := eq_true p181; replace q181 := eq_true q181
            refine start_ (n := 9) (S := fun w' => w'.cell? ⟨gb170, 0, none⟩ = some (.int .i64 a0_0) ∧ w'.cell? ⟨gb170, 1, none⟩ = some (.slice (some ad181) l0_1.length c0_1) ∧ w'.cell? ⟨gb171, 0, none⟩ = some (.int .i64 a1_0) ∧ w'.cell? ⟨gb171, 1, none⟩ = some (.string a1_1) ∧ w'.cell? ⟨gb171, 2, none⟩ = some (.string a1_2) ∧ w'.cell? (ad181.add ((x7_1).toNat * 3)) = some (.int .i64 ((rd_T134 l0_1 x7_1).f0)) ∧ w'.cell? ⟨(ad181.add ((x7_1).toNat * 3)).block, (ad181.add ((x7_1).toNat * 3)).off + 1, none⟩ = some (.string ((rd_T134 l0_1 x7_1).f1)) ∧ w'.cell? ⟨(ad181.add ((x7_1).toNat * 3)).block, (ad181.add ((x7_1).toNat * 3)).off + 2, none⟩ = some (.string ((rd_T134 l0_1 x7_1).f2))) (ds := []) #[false, false, false, false, false, false, false, false, false] (by kernel_rfl) rfl rfl ⟨xc BK170 0 rfl, xc BK170 1 rfl, xc BK171 0 rfl, xc BK171 1 rfl, xc BK171 2 rfl, (xce HB hw181_0), (xce HB hw181_1), (xce HB hw181_2)⟩ (fun hHeld => ?_); refine with_tabW spec_l3Put.tab9 spec_l3Put.bits9 (fun HT_ HW_ => ?_)
            generalize w52.drew = w53 at HO180 BK170 BK171 BK172 BK173 HB hx181_0 hx181_1 hx181_2 hHeld ⊢
            refine pv_ 0 37 (h := ?_)
            refine pv_ 2 39 (h := ?_)
            refine pv_ 6 43 (h := ?_)
            refine tk_ 1 38 (h := ?_)
            refine pv_ 3 40 (h := ?_)
            refine pv_ 4 41 (h := ?_)
            refine tk_ 5 42 (h := ?_)
            refine tk_ 7 44 (h := ?_)
            refine pv_ 8 45 (h := ?_)
            refine done_ (done_of HT_.out (by kernel_rfl)) ?_
            try go_wp2
            replace HO180 := aM (Kd.R_drew HO180.out); replace BK170 := aM (blk_drew BK170.out); replace BK171 := aM (blk_drew BK171.out); replace BK172 := aM (blk_drew BK172.out); replace BK173 := aM (blk_drew BK173.out); replace HB := aM (below_drew1 HB.out); have p182 : 0 ≤ (x7_1 : Int) := oda; have q182 : x7_1 < (l0_1.length : Int) := oda
            obtain ⟨ad182, e182, hx182_0, hx182_1, hx182_2⟩ := at_T134 HR0_1.out x7_1 p182 q182
            have hw182_2 := hx182_2; have hw182_1 := hx182_1; have hw182_0 := hx182_0
            obtain rfl : ad181 = ad182 := (by injection e182)
            replace hx182_0 := xce HB hx182_0; replace hx182_1 := xce HB hx182_1; replace hx182_2 := xce HB hx182_2; replace p182 := eq_true p182; replace q182 := eq_true q182
            refine start_ (n := 11) (S := fun w' => w'.cell? ⟨gb173, 0, none⟩ = some (.int .i64 a0_0) ∧ w'.cell? ⟨gb173, 1, none⟩ = some (.slice Ao50 y178.length co50) ∧ w'.cell? ⟨gb170, 0, none⟩ = some (.int .i64 a0_0) ∧ w'.cell? ⟨gb170, 1, none⟩ = some (.slice (some ad181) l0_1.length c0_1) ∧ w'.cell? (ad181.add ((x7_1).toNat * 3)) = some (.int .i64 ((rd_T134 l0_1 x7_1).f0)) ∧ w'.cell? ⟨(ad181.add ((x7_1).toNat * 3)).block, (ad181.add ((x7_1).toNat * 3)).off + 1, none⟩ = some (.string ((rd_T134 l0_1 x7_1).f1)) ∧ w'.cell? ⟨(ad181.add ((x7_1).toNat * 3)).block, (ad181.add ((x7_1).toNat * 3)).off + 2, none⟩ = some (.string ((rd_T134 l0_1 x7_1).f2))) (ds := [10]) #[false, false, false, false, false, false, false, false, false, false, false] (by kernel_rfl) rfl rfl ⟨xc BK173 0 rfl, xc BK173 1 rfl, xc BK170 0 rfl, xc BK170 1 rfl, (xce HB hw182_0), (xce HB hw182_1), (xce HB hw182_2)⟩ (fun hHeld => ?_); refine with_tabW spec_l3Put.tab10 spec_l3Put.bits10 (fun HT_ HW_ => ?_)
            generalize w53.drew = w54 at HO180 BK170 BK171 BK172 BK173 HB hx182_0 hx182_1 hx182_2 hHeld ⊢
            refine pv_ 0 46 (h := ?_)
            refine pv_ 2 48 (h := ?_)
            refine pv_ 4 50 (h := ?_)
            refine tk_ 1 47 (h := ?_)
            refine tk_ 3 49 (h := ?_)
            refine pv_ 5 51 (h := ?_)
            refine tk_ 6 52 (h := ?_)
            refine on_ 7 53 (h := fun K hK => ?_)
            refine value_ (w1 := ?_) (v := ?_) (by rfl) rfl ?_ ?_
            rotate_left 2
            ·go_simp
             constructor
             ·rfl
             ·rfl
            refine hK.out _ _ ⟨(blk_cell (blk_alloc BK173.out _) 0).trans rfl, (blk_cell (blk_alloc BK173.out _) 1).trans rfl, (blk_cell (blk_alloc BK170.out _) 0).trans rfl, (blk_cell (blk_alloc BK170.out _) 1).trans rfl, (World.cell?_alloc_lt _ _ _ (World.block_lt_of_cell? _ _ ((xce HB hw182_0)))).trans ((xce HB hw182_0)), (World.cell?_alloc_lt _ _ _ (World.block_lt_of_cell? _ _ ((xce HB hw182_1)))).trans ((xce HB hw182_1)), (World.cell?_alloc_lt _ _ _ (World.block_lt_of_cell? _ _ ((xce HB hw182_2)))).trans ((xce HB hw182_2))⟩ (fun hHeld => ?_)
            clear hK K
            refine norm_ (a' := ?_) ?_ ?_
            rotate_left
            ·show Act.put _ (some 53) _ = _
             simp only [Act.put, List.setIfInBounds_toArray, List.set_cons_zero, List.set_cons_succ, i64_w, i32_w]
             rfl
            refine on_ 8 54 (h := fun K hK => ?_)
            refine Kd.R_append_step k134 (w0 := w) w.heap.size (by rfl) (.tmp 47) (.tmp 53) 68 134 (.agg #[(.int .i64 0), (.string ⟨#[]⟩), (.string ⟨#[]⟩)]) 40 rfl Try.underlying68 info134 rfl (by decide) (by omega) (.slice Ao50 y178.length co50) y178 (⟨(rd_T134 l0_1 x7_1).f0, (rd_T134 l0_1 x7_1).f1, (rd_T134 l0_1 x7_1).f2⟩ : S134) [.int .i64 ((rd_T134 l0_1 x7_1).f0), .string ((rd_T134 l0_1 x7_1).f1), .string ((rd_T134 l0_1 x7_1).f2)] (fun k_ => k_ ≠ gb171) (fun _ => False) rfl rfl ?aP (fun _ hk => hk.elim) ?aF ?aO ?aB ?aS ?aL ?_
            (case aP => exact k134_mkM _ _ _ (⟨(rd_T134 l0_1 x7_1).f0, (rd_T134 l0_1 x7_1).f1, (rd_T134 l0_1 x7_1).f2⟩ : S134))
            (case aB => exact xbg)
            (case aF => exact (fun k_ hk => Kd.freshB (g := gb171) (o := .cells #[.int .i64 a1_0, .string a1_1, .string a1_2] 134 (0, 0)) xblk k_ hk))
            (case aO => exact (xr HO180))
            (case aS => exact (below_size xbg))
            (case aL => have := LMc41.out; omega)
            intro v184 w55 ho hb hg hat
            rw [← Ny183.out] at ho
            have n0_ := aM (blk_grown (g := gb170) (o := .cells #[.int .i64 a0_0, .slice (some ad181) l0_1.length c0_1] 70 (0, 0)) xblk hg (Kd.R_ne HO180.out BK170.out (by decide))); have n1_ := aM (blk_grown (g := gb171) (o := .cells #[.int .i64 a1_0, .string a1_1, .string a1_2] 134 (0, 0)) xblk hg (Kd.R_away HO180.out (fun _ hk => hk))); have n2_ := aM (blk_grown (g := gb172) (o := .cells #[.int .i64 0, .slice none 0 0] 70 (0, 0)) xblk hg (Kd.R_ne HO180.out BK172.out (by decide))); have n3_ := aM (blk_grown (g := gb173) (o := .cells #[.int .i64 a0_0, .slice Ao50 y178.length co50] 70 (0, 0)) xblk hg (Kd.R_ne HO180.out BK173.out (by decide))); have n4_ := aM (hb); have n5_ := aM (ho); clear BK170 BK171 BK172 BK173 HB HO180; have BK170 := n0_; have BK171 := n1_; have BK172 := n2_; have BK173 := n3_; have HB := n4_; have HO185 := n5_; clear n0_ n1_ n2_ n3_ n4_ n5_ ho hb hg hat
            obtain ⟨Ao56, co56, eo56⟩ := Kd.R_slice HO185.out
            (first | subst eo56 | (injection eo56 with f1_ f2_ f3_; have f4_ := f1_.symm; have f5_ := f3_.symm; clear f1_ f2_ f3_; subst f4_; subst f5_))
            refine hK.out _ _ ⟨xc BK173 0 rfl, xc BK173 1 rfl, xc BK170 0 rfl, xc BK170 1 rfl, (xce HB hw182_0), (xce HB hw182_1), (xce HB hw182_2)⟩ (fun hHeld => ?_)
            clear hK K
            refine norm_ (a' := ?_) ?_ ?_
            rotate_left
            ·show Act.put _ (some 54) _ = _
             simp only [Act.put, List.setIfInBounds_toArray, List.set_cons_zero, List.set_cons_succ, i64_w, i32_w]
             rfl
            refine pv_ 9 55 (h := ?_)
            refine last_ (i := 10) (N := none) #[true, true, true, true, true, true, true, true, true, true, true] rfl rfl (one_of HT_.out (by kernel_rfl)) (by decide) (fun K hK => ?_)
            have hs57 : w55.cell? ⟨gb173, 1, none⟩ = some (.slice Ao50 y178.length co50) := xc BK173 1 rfl; have hfs57 := blk_frozen BK173.out 1; have hns57_0 := NB170_173.out; have hns57_1 := NB171_173.out; have hns57_2 := NB172_173.out; have hms57_0 := NB173_170.out; have hms57_1 := NB173_171.out; have hms57_2 := NB173_172.out
            refine skip_ (w1 := ?_) (by rfl) rfl ?_ ?_
            rotate_left
            ·go_simp
             rfl
            refine hK.out _ _ ?_
            clear hK K
            refine done_ (done_of HT_.out (by kernel_rfl)) ?_
            try go_wp2
            go_roundg kj14
            case measure => have := HK1.out; have := HJ14.out; omega
            case rel => exact ⟨(true), (wrap64 (x7_1 + 1)), (y183), (.slice Ao56 y183.length co56), (by first | rfl | (simp; done) | (simp [*]; done)), (by first | rfl | (simp; done) | (simp [*]; done)), H', ⟨by have := HK1.out; have := HJ14.out; omega⟩, ⟨by (with_reducible repeat (first | apply Kd.R_alloc | apply Kd.R_drewN | apply Kd.R_drew)); exact Kd.R_mono (Kd.R_far (p := ⟨gb173, 1, none⟩) (Kd.R_types HO185.out BK173.out (by decide)) (fun _ hk => hk.2) (.slice Ao56 y183.length co56)) (fun _ hk => hk.1)⟩, ⟨by (with_reducible repeat (first | refine blk_drewN ?_ _ | refine blk_drew ?_ | refine blk_alloc ?_ _)); refine blk_far ?_ NB170_173.out _; (with_reducible repeat (first | refine blk_drewN ?_ _ | refine blk_drew ?_ | refine blk_alloc ?_ _)); exact BK170.out⟩, ⟨by (with_reducible repeat (first | refine blk_drewN ?_ _ | refine blk_drew ?_ | refine blk_alloc ?_ _)); refine blk_far ?_ NB171_173.out _; (with_reducible repeat (first | refine blk_drewN ?_ _ | refine blk_drew ?_ | refine blk_alloc ?_ _)); exact BK171.out⟩, ⟨by (with_reducible repeat (first | refine blk_drewN ?_ _ | refine blk_drew ?_ | refine blk_alloc ?_ _)); refine blk_far ?_ NB172_173.out _; (with_reducible repeat (first | refine blk_drewN ?_ _ | refine blk_drew ?_ | refine blk_alloc ?_ _)); exact BK172.out⟩, ⟨by (with_reducible repeat (first | refine blk_drewN ?_ _ | refine blk_drew ?_ | refine blk_alloc ?_ _)); refine blk_put (cs := #[.int .i64 a0_0, .slice Ao50 y178.length co50]) ?_ 1 _ rfl; (with_reducible repeat (first | refine blk_drewN ?_ _ | refine blk_drew ?_ | refine blk_alloc ?_ _)); exact BK173.out⟩, ⟨xbg⟩⟩
           ·rw [if_neg c41] at H
            exact absurd H (by simp)
         ·rw [if_neg c27] at H
          exact absurd H (by simp)
        ·rw [if_neg c26] at H
         exact absurd H (by simp)
       ·rw [if_neg c25] at H
        exact absurd H (by simp)
      ·replace c24 := Bool.eq_false_iff.mpr c24
       subst c24
       have H1 : (if 0 ≤ x7_1 then (if x7_1 < (l0_1.length : Int) then (if ((rd_T134 l0_1 x7_1).f0) = a1_0 then (spec_l3Put.l0 kj14 x6_1 (wrap64 (x7_1 + 1)) a0_0 l0_1 a1_0 a1_1 a1_2 a0_0 x174001_1) else (if x174001_1.length < 3518437208883 then (spec_l3Put.l0 kj14 x6_1 (wrap64 (x7_1 + 1)) a0_0 l0_1 a1_0 a1_1 a1_2 a0_0 (x174001_1 ++ [(⟨(rd_T134 l0_1 x7_1).f0, (rd_T134 l0_1 x7_1).f1, (rd_T134 l0_1 x7_1).f2⟩ : S134)])) else (none))) else (none)) else (none)) = some (r1, r2) := by rw [if_neg (show ¬ (false = true) by decide)] at H; exact H
       clear H; have H := H1; clear H1
       by_cases c58 : 0 ≤ x7_1
       ·rw [if_pos c58] at H
        have c58b0 : decide (0 ≤ x7_1) = true := decide_eq_true c58; clear c58
        by_cases c59 : x7_1 < (l0_1.length : Int)
        ·rw [if_pos c59] at H
         have c59b0 : decide (x7_1 < (l0_1.length : Int)) = true := decide_eq_true c59; clear c59
         by_cases c60 : ((rd_T134 l0_1 x7_1).f0) = a1_0
         ·rw [if_pos c60] at H
          have c60b0 : (((rd_T134 l0_1 x7_1).f0) == a1_0) = true := beq_iff_eq.mpr c60; have c60b1 : (((rd_T134 l0_1 x7_1).f0) != a1_0) = false := bne_eq_false_iff_eq.mpr c60; clear c60
          have H' := aM H
          clear H
          try go_wp2
          replace HO_174001 := aM (Kd.R_drew HO_174001.out); replace BK170 := aM (blk_drew BK170.out); replace BK171 := aM (blk_drew BK171.out); replace BK172 := aM (blk_drew BK172.out); replace BK173 := aM (blk_drew BK173.out); replace HB := aM (below_drew1 HB.out); have p186 : 0 ≤ (x7_1 : Int) := oda; have q186 : x7_1 < (l0_1.length : Int) := oda
          obtain ⟨ad186, e186, hx186_0, hx186_1, hx186_2⟩ := at_T134 HR0_1.out x7_1 p186 q186
          have hw186_2 := hx186_2; have hw186_1 := hx186_1; have hw186_0 := hx186_0
          cases e186
          replace hx186_0 := xce HB hx186_0; replace hx186_1 := xce HB hx186_1; replace hx186_2 := xce HB hx186_2; replace p186 := eq_true p186; replace q186 := eq_true q186
          refine start_ (n := 9) (S := fun w' => w'.cell? ⟨gb170, 0, none⟩ = some (.int .i64 a0_0) ∧ w'.cell? ⟨gb170, 1, none⟩ = some (.slice (some ad186) l0_1.length c0_1) ∧ w'.cell? ⟨gb171, 0, none⟩ = some (.int .i64 a1_0) ∧ w'.cell? ⟨gb171, 1, none⟩ = some (.string a1_1) ∧ w'.cell? ⟨gb171, 2, none⟩ = some (.string a1_2) ∧ w'.cell? (ad186.add ((x7_1).toNat * 3)) = some (.int .i64 ((rd_T134 l0_1 x7_1).f0)) ∧ w'.cell? ⟨(ad186.add ((x7_1).toNat * 3)).block, (ad186.add ((x7_1).toNat * 3)).off + 1, none⟩ = some (.string ((rd_T134 l0_1 x7_1).f1)) ∧ w'.cell? ⟨(ad186.add ((x7_1).toNat * 3)).block, (ad186.add ((x7_1).toNat * 3)).off + 2, none⟩ = some (.string ((rd_T134 l0_1 x7_1).f2))) (ds := []) #[false, false, false, false, false, false, false, false, false] (by kernel_rfl) rfl rfl ⟨xc BK170 0 rfl, xc BK170 1 rfl, xc BK171 0 rfl, xc BK171 1 rfl, xc BK171 2 rfl, (xce HB hw186_0), (xce HB hw186_1), (xce HB hw186_2)⟩ (fun hHeld => ?_); refine with_tabW spec_l3Put.tab9 spec_l3Put.bits9 (fun HT_ HW_ => ?_)
          generalize wc.drew = w61 at HO_174001 BK170 BK171 BK172 BK173 HB hx186_0 hx186_1 hx186_2 hHeld ⊢
          refine pv_ 0 37 (h := ?_)
          refine pv_ 2 39 (h := ?_)
          refine pv_ 6 43 (h := ?_)
          refine tk_ 1 38 (h := ?_)
          refine pv_ 3 40 (h := ?_)
          refine pv_ 4 41 (h := ?_)
          refine tk_ 5 42 (h := ?_)
          refine tk_ 7 44 (h := ?_)
          refine pv_ 8 45 (h := ?_)
          refine done_ (done_of HT_.out (by kernel_rfl)) ?_
          try go_wp2
          go_roundg kj14
          case measure => have := HK1.out; have := HJ14.out; omega
          case rel => exact ⟨(x6_1), (wrap64 (x7_1 + 1)), (x174001_1), (u174001), (by first | rfl | (simp; done) | (simp [*]; done)), (by first | rfl | (simp; done) | (simp [*]; done)), H', ⟨by have := HK1.out; have := HJ14.out; omega⟩, ⟨by (with_reducible repeat (first | apply Kd.R_alloc | apply Kd.R_drewN | apply Kd.R_drew)); exact HO_174001.out⟩, ⟨xblk⟩, ⟨xblk⟩, ⟨xblk⟩, ⟨xblk⟩, ⟨xbg⟩⟩
         ·rw [if_neg c60] at H
          have c60b0 : (((rd_T134 l0_1 x7_1).f0) == a1_0) = false := beq_eq_false_iff_ne.mpr c60; have c60b1 : (((rd_T134 l0_1 x7_1).f0) != a1_0) = true := bne_iff_ne.mpr c60
          by_cases c62 : x174001_1.length < 3518437208883
          ·rw [if_pos c62] at H
           have LMc62 := aM c62; clear c62
           obtain ⟨y188, hy188⟩ : ∃ y_ : List (S134), y_ = (x174001_1 ++ [(⟨(rd_T134 l0_1 x7_1).f0, (rd_T134 l0_1 x7_1).f1, (rd_T134 l0_1 x7_1).f2⟩ : S134)]) := ⟨_, rfl⟩
           replace H : (spec_l3Put.l0 kj14 x6_1 (wrap64 (x7_1 + 1)) a0_0 l0_1 a1_0 a1_1 a1_2 a0_0 y188) = some (r1, r2) := by first | (rw [hy188]; with_reducible exact H) | (have H2_ := (Option.bind_some _ _).symm.trans H; rw [hy188]; with_reducible exact H2_) | (have H2_ := (Option.bind_some _ _).symm.trans H; with_reducible exact H2_) | with_reducible exact H | (rw [hy188]; exact H) | exact H
           have Ny188 := aM hy188; clear hy188
           have H' := aM H
           clear H
           try go_wp2
           replace HO_174001 := aM (Kd.R_drew HO_174001.out); replace BK170 := aM (blk_drew BK170.out); replace BK171 := aM (blk_drew BK171.out); replace BK172 := aM (blk_drew BK172.out); replace BK173 := aM (blk_drew BK173.out); replace HB := aM (below_drew1 HB.out); have p186 : 0 ≤ (x7_1 : Int) := oda; have q186 : x7_1 < (l0_1.length : Int) := oda
           obtain ⟨ad186, e186, hx186_0, hx186_1, hx186_2⟩ := at_T134 HR0_1.out x7_1 p186 q186
           have hw186_2 := hx186_2; have hw186_1 := hx186_1; have hw186_0 := hx186_0
           cases e186
           replace hx186_0 := xce HB hx186_0; replace hx186_1 := xce HB hx186_1; replace hx186_2 := xce HB hx186_2; replace p186 := eq_true p186; replace q186 := eq_true q186
           refine start_ (n := 9) (S := fun w' => w'.cell? ⟨gb170, 0, none⟩ = some (.int .i64 a0_0) ∧ w'.cell? ⟨gb170, 1, none⟩ = some (.slice (some ad186) l0_1.length c0_1) ∧ w'.cell? ⟨gb171, 0, none⟩ = some (.int .i64 a1_0) ∧ w'.cell? ⟨gb171, 1, none⟩ = some (.string a1_1) ∧ w'.cell? ⟨gb171, 2, none⟩ = some (.string a1_2) ∧ w'.cell? (ad186.add ((x7_1).toNat * 3)) = some (.int .i64 ((rd_T134 l0_1 x7_1).f0)) ∧ w'.cell? ⟨(ad186.add ((x7_1).toNat * 3)).block, (ad186.add ((x7_1).toNat * 3)).off + 1, none⟩ = some (.string ((rd_T134 l0_1 x7_1).f1)) ∧ w'.cell? ⟨(ad186.add ((x7_1).toNat * 3)).block, (ad186.add ((x7_1).toNat * 3)).off + 2, none⟩ = some (.string ((rd_T134 l0_1 x7_1).f2))) (ds := []) #[false, false, false, false, false, false, false, false, false] (by kernel_rfl) rfl rfl ⟨xc BK170 0 rfl, xc BK170 1 rfl, xc BK171 0 rfl, xc BK171 1 rfl, xc BK171 2 rfl, (xce HB hw186_0), (xce HB hw186_1), (xce HB hw186_2)⟩ (fun hHeld => ?_); refine with_tabW spec_l3Put.tab9 spec_l3Put.bits9 (fun HT_ HW_ => ?_)
           generalize wc.drew = w63 at HO_174001 BK170 BK171 BK172 BK173 HB hx186_0 hx186_1 hx186_2 hHeld ⊢
           refine pv_ 0 37 (h := ?_)
           refine pv_ 2 39 (h := ?_)
           refine pv_ 6 43 (h := ?_)
           refine tk_ 1 38 (h := ?_)
           refine pv_ 3 40 (h := ?_)
           refine pv_ 4 41 (h := ?_)
           refine tk_ 5 42 (h := ?_)
           refine tk_ 7 44 (h := ?_)
           refine pv_ 8 45 (h := ?_)
           refine done_ (done_of HT_.out (by kernel_rfl)) ?_
           try go_wp2
           replace HO_174001 := aM (Kd.R_drew HO_174001.out); replace BK170 := aM (blk_drew BK170.out); replace BK171 := aM (blk_drew BK171.out); replace BK172 := aM (blk_drew BK172.out); replace BK173 := aM (blk_drew BK173.out); replace HB := aM (below_drew1 HB.out); have p187 : 0 ≤ (x7_1 : Int) := oda; have q187 : x7_1 < (l0_1.length : Int) := oda
           obtain ⟨ad187, e187, hx187_0, hx187_1, hx187_2⟩ := at_T134 HR0_1.out x7_1 p187 q187
           have hw187_2 := hx187_2; have hw187_1 := hx187_1; have hw187_0 := hx187_0
           obtain rfl : ad186 = ad187 := (by injection e187)
           replace hx187_0 := xce HB hx187_0; replace hx187_1 := xce HB hx187_1; replace hx187_2 := xce HB hx187_2; replace p187 := eq_true p187; replace q187 := eq_true q187
           refine start_ (n := 11) (S := fun w' => w'.cell? ⟨gb173, 0, none⟩ = some (.int .i64 a0_0) ∧ w'.cell? ⟨gb173, 1, none⟩ = some (u174001) ∧ w'.cell? ⟨gb170, 0, none⟩ = some (.int .i64 a0_0) ∧ w'.cell? ⟨gb170, 1, none⟩ = some (.slice (some ad186) l0_1.length c0_1) ∧ w'.cell? (ad186.add ((x7_1).toNat * 3)) = some (.int .i64 ((rd_T134 l0_1 x7_1).f0)) ∧ w'.cell? ⟨(ad186.add ((x7_1).toNat * 3)).block, (ad186.add ((x7_1).toNat * 3)).off + 1, none⟩ = some (.string ((rd_T134 l0_1 x7_1).f1)) ∧ w'.cell? ⟨(ad186.add ((x7_1).toNat * 3)).block, (ad186.add ((x7_1).toNat * 3)).off + 2, none⟩ = some (.string ((rd_T134 l0_1 x7_1).f2))) (ds := [10]) #[false, false, false, false, false, false, false, false, false, false, false] (by kernel_rfl) rfl rfl ⟨xc BK173 0 rfl, xc BK173 1 rfl, xc BK170 0 rfl, xc BK170 1 rfl, (xce HB hw187_0), (xce HB hw187_1), (xce HB hw187_2)⟩ (fun hHeld => ?_); refine with_tabW spec_l3Put.tab10 spec_l3Put.bits10 (fun HT_ HW_ => ?_)
           generalize w63.drew = w64 at HO_174001 BK170 BK171 BK172 BK173 HB hx187_0 hx187_1 hx187_2 hHeld ⊢
           refine pv_ 0 46 (h := ?_)
           refine pv_ 2 48 (h := ?_)
           refine pv_ 4 50 (h := ?_)
           refine tk_ 1 47 (h := ?_)
           refine tk_ 3 49 (h := ?_)
           refine pv_ 5 51 (h := ?_)
           refine tk_ 6 52 (h := ?_)
           refine on_ 7 53 (h := fun K hK => ?_)
           refine value_ (w1 := ?_) (v := ?_) (by rfl) rfl ?_ ?_
           rotate_left 2
           ·go_simp
            constructor
            ·rfl
            ·rfl
           refine hK.out _ _ ⟨(blk_cell (blk_alloc BK173.out _) 0).trans rfl, (blk_cell (blk_alloc BK173.out _) 1).trans rfl, (blk_cell (blk_alloc BK170.out _) 0).trans rfl, (blk_cell (blk_alloc BK170.out _) 1).trans rfl, (World.cell?_alloc_lt _ _ _ (World.block_lt_of_cell? _ _ ((xce HB hw187_0)))).trans ((xce HB hw187_0)), (World.cell?_alloc_lt _ _ _ (World.block_lt_of_cell? _ _ ((xce HB hw187_1)))).trans ((xce HB hw187_1)), (World.cell?_alloc_lt _ _ _ (World.block_lt_of_cell? _ _ ((xce HB hw187_2)))).trans ((xce HB hw187_2))⟩ (fun hHeld => ?_)
           clear hK K
           refine norm_ (a' := ?_) ?_ ?_
           rotate_left
           ·show Act.put _ (some 53) _ = _
            simp only [Act.put, List.setIfInBounds_toArray, List.set_cons_zero, List.set_cons_succ, i64_w, i32_w]
            rfl
           refine on_ 8 54 (h := fun K hK => ?_)
           refine Kd.R_append_step k134 (w0 := w) w.heap.size (by rfl) (.tmp 47) (.tmp 53) 68 134 (.agg #[(.int .i64 0), (.string ⟨#[]⟩), (.string ⟨#[]⟩)]) 40 rfl Try.underlying68 info134 rfl (by decide) (by omega) u174001 x174001_1 (⟨(rd_T134 l0_1 x7_1).f0, (rd_T134 l0_1 x7_1).f1, (rd_T134 l0_1 x7_1).f2⟩ : S134) [.int .i64 ((rd_T134 l0_1 x7_1).f0), .string ((rd_T134 l0_1 x7_1).f1), .string ((rd_T134 l0_1 x7_1).f2)] (fun k_ => k_ ≠ gb171) (fun _ => False) rfl rfl ?aP (fun _ hk => hk.elim) ?aF ?aO ?aB ?aS ?aL ?_
           (case aP => exact k134_mkM _ _ _ (⟨(rd_T134 l0_1 x7_1).f0, (rd_T134 l0_1 x7_1).f1, (rd_T134 l0_1 x7_1).f2⟩ : S134))
           (case aB => exact xbg)
           (case aF => exact (fun k_ hk => Kd.freshB (g := gb171) (o := .cells #[.int .i64 a1_0, .string a1_1, .string a1_2] 134 (0, 0)) xblk k_ hk))
           (case aO => exact (xr HO_174001))
           (case aS => exact (below_size xbg))
           (case aL => have := LMc62.out; omega)
           intro v189 w65 ho hb hg hat
           rw [← Ny188.out] at ho
           have n0_ := aM (blk_grown (g := gb170) (o := .cells #[.int .i64 a0_0, .slice (some ad186) l0_1.length c0_1] 70 (0, 0)) xblk hg (Kd.R_ne HO_174001.out BK170.out (by decide))); have n1_ := aM (blk_grown (g := gb171) (o := .cells #[.int .i64 a1_0, .string a1_1, .string a1_2] 134 (0, 0)) xblk hg (Kd.R_away HO_174001.out (fun _ hk => hk))); have n2_ := aM (blk_grown (g := gb172) (o := .cells #[.int .i64 0, .slice none 0 0] 70 (0, 0)) xblk hg (Kd.R_ne HO_174001.out BK172.out (by decide))); have n3_ := aM (blk_grown (g := gb173) (o := .cells #[.int .i64 a0_0, u174001] 70 (0, 0)) xblk hg (Kd.R_ne HO_174001.out BK173.out (by decide))); have n4_ := aM (hb); have n5_ := aM (ho); clear BK170 BK171 BK172 BK173 HB HO_174001; have BK170 := n0_; have BK171 := n1_; have BK172 := n2_; have BK173 := n3_; have HB := n4_; have HO190 := n5_; clear n0_ n1_ n2_ n3_ n4_ n5_ ho hb hg hat
           obtain ⟨Ao66, co66, eo66⟩ := Kd.R_slice HO190.out
           (first | subst eo66 | (injection eo66 with f1_ f2_ f3_; have f4_ := f1_.symm; have f5_ := f3_.symm; clear f1_ f2_ f3_; subst f4_; subst f5_))
           refine hK.out _ _ ⟨xc BK173 0 rfl, xc BK173 1 rfl, xc BK170 0 rfl, xc BK170 1 rfl, (xce HB hw187_0), (xce HB hw187_1), (xce HB hw187_2)⟩ (fun hHeld => ?_)
           clear hK K
           refine norm_ (a' := ?_) ?_ ?_
           rotate_left
           ·show Act.put _ (some 54) _ = _
            simp only [Act.put, List.setIfInBounds_toArray, List.set_cons_zero, List.set_cons_succ, i64_w, i32_w]
            rfl
           refine pv_ 9 55 (h := ?_)
           refine last_ (i := 10) (N := none) #[true, true, true, true, true, true, true, true, true, true, true] rfl rfl (one_of HT_.out (by kernel_rfl)) (by decide) (fun K hK => ?_)
           have hs67 : w65.cell? ⟨gb173, 1, none⟩ = some (u174001) := xc BK173 1 rfl; have hfs67 := blk_frozen BK173.out 1; have hns67_0 := NB170_173.out; have hns67_1 := NB171_173.out; have hns67_2 := NB172_173.out; have hms67_0 := NB173_170.out; have hms67_1 := NB173_171.out; have hms67_2 := NB173_172.out
           refine skip_ (w1 := ?_) (by rfl) rfl ?_ ?_
           rotate_left
           ·go_simp
            rfl
           refine hK.out _ _ ?_
           clear hK K
           refine done_ (done_of HT_.out (by kernel_rfl)) ?_
           try go_wp2
           go_roundg kj14
           case measure => have := HK1.out; have := HJ14.out; omega
           case rel => exact ⟨(x6_1), (wrap64 (x7_1 + 1)), (y188), (.slice Ao66 y188.length co66), (by first | rfl | (simp; done) | (simp [*]; done)), (by first | rfl | (simp; done) | (simp [*]; done)), H', ⟨by have := HK1.out; have := HJ14.out; omega⟩, ⟨by (with_reducible repeat (first | apply Kd.R_alloc | apply Kd.R_drewN | apply Kd.R_drew)); exact Kd.R_mono (Kd.R_far (p := ⟨gb173, 1, none⟩) (Kd.R_types HO190.out BK173.out (by decide)) (fun _ hk => hk.2) (.slice Ao66 y188.length co66)) (fun _ hk => hk.1)⟩, ⟨by (with_reducible repeat (first | refine blk_drewN ?_ _ | refine blk_drew ?_ | refine blk_alloc ?_ _)); refine blk_far ?_ NB170_173.out _; (with_reducible repeat (first | refine blk_drewN ?_ _ | refine blk_drew ?_ | refine blk_alloc ?_ _)); exact BK170.out⟩, ⟨by (with_reducible repeat (first | refine blk_drewN ?_ _ | refine blk_drew ?_ | refine blk_alloc ?_ _)); refine blk_far ?_ NB171_173.out _; (with_reducible repeat (first | refine blk_drewN ?_ _ | refine blk_drew ?_ | refine blk_alloc ?_ _)); exact BK171.out⟩, ⟨by (with_reducible repeat (first | refine blk_drewN ?_ _ | refine blk_drew ?_ | refine blk_alloc ?_ _)); refine blk_far ?_ NB172_173.out _; (with_reducible repeat (first | refine blk_drewN ?_ _ | refine blk_drew ?_ | refine blk_alloc ?_ _)); exact BK172.out⟩, ⟨by (with_reducible repeat (first | refine blk_drewN ?_ _ | refine blk_drew ?_ | refine blk_alloc ?_ _)); refine blk_put (cs := #[.int .i64 a0_0, u174001]) ?_ 1 _ rfl; (with_reducible repeat (first | refine blk_drewN ?_ _ | refine blk_drew ?_ | refine blk_alloc ?_ _)); exact BK173.out⟩, ⟨xbg⟩⟩
          ·rw [if_neg c62] at H
           exact absurd H (by simp)
        ·rw [if_neg c59] at H
         exact absurd H (by simp)
       ·rw [if_neg c58] at H
        exact absurd H (by simp)
   ·rw [if_neg c14] at H
    have c14b0 : decide (x7_1 < (l0_1.length : Int)) = false := decide_eq_false c14; clear c14
    by_cases c68 : x6_1 = true
    ·subst c68
     have H1 : (some (a0_0, x174001_1)) = some (r1, r2) := by rw [if_pos rfl] at H; exact H
     clear H; have H := H1; clear H1
     simp only [Option.some.injEq, Prod.mk.injEq] at H
     obtain ⟨rfl, rfl⟩ := H
     have hnb69 := NB170_171.out; have hnc69 := NB171_170.out; have hnb70 := NB170_172.out; have hnc70 := NB172_170.out; have hnb71 := NB170_173.out; have hnc71 := NB173_170.out; obtain ⟨hcz72_0, hcz72_1, hfz72_0, hfz72_1⟩ := xf2 (w := wr) BK170; have hnb73 := NB173_171.out; have hnc73 := NB171_173.out; have hnb74 := NB173_172.out; have hnc74 := NB172_173.out; obtain ⟨hcz75_0, hcz75_1, hfz75_0, hfz75_1⟩ := xf2 (w := wr) BK173; have hnb76 := NB172_171.out; have hnc76 := NB171_172.out; obtain ⟨hcz77_0, hcz77_1, hfz77_0, hfz77_1⟩ := xf2 (w := wr) BK172
     obtain ⟨Ao78, co78, eo78⟩ := Kd.R_slice HO_174001.out
     subst eo78
     go_wp2
     refine bodyPost_ret (results_cell_row rfl _ _ gb172 70 #[.int .i64 a0_0, .slice Ao78 x174001_1.length co78] (0, 0) _ rfl (by (with_reducible repeat (first | refine blk_drewN ?_ _ | refine blk_drew ?_ | refine blk_alloc ?_ _)); refine blk_put (cs := #[.int .i64 a0_0, .slice none 0 0]) ?_ 1 _ rfl; (with_reducible repeat (first | refine blk_drewN ?_ _ | refine blk_drew ?_ | refine blk_alloc ?_ _)); refine blk_put (cs := #[.int .i64 0, .slice none 0 0]) ?_ 0 _ rfl; (with_reducible repeat (first | refine blk_drewN ?_ _ | refine blk_drew ?_ | refine blk_alloc ?_ _)); exact BK172.out) Try.underlying70 rfl (by kernel_rfl)) rfl ?_
     exact ⟨_, by first | rfl | (simp [errW_none, errW_some] <;> rfl) | (simp [*, errW_none, errW_some] <;> rfl), by (with_reducible repeat (first | apply Kd.R_alloc | apply Kd.R_drewN | apply Kd.R_drew)); exact Kd.R_mono (Kd.R_far (p := ⟨gb172, 1, none⟩) (Kd.R_far (p := ⟨gb172, 0, none⟩) (Kd.R_types HO_174001.out BK172.out (by decide)) (fun _ hk => hk.2) (.int .i64 a0_0)) (fun _ hk => hk.2) (.slice Ao78 x174001_1.length co78)) (fun _ hk => trivial), xbg⟩
    ·replace c68 := Bool.eq_false_iff.mpr c68
     subst c68
     have H1 : (if x174001_1.length < 3518437208883 then (some (a0_0, (x174001_1 ++ [(⟨a1_0, a1_1, a1_2⟩ : S134)]))) else (none)) = some (r1, r2) := by rw [if_neg (show ¬ (false = true) by decide)] at H; exact H
     clear H; have H := H1; clear H1
     by_cases c79 : x174001_1.length < 3518437208883
     ·rw [if_pos c79] at H
      have LMc79 := aM c79; clear c79
      obtain ⟨y174, hy174⟩ : ∃ y_ : List (S134), y_ = (x174001_1 ++ [(⟨a1_0, a1_1, a1_2⟩ : S134)]) := ⟨_, rfl⟩
      replace H : (some (a0_0, y174)) = some (r1, r2) := by first | (rw [hy174]; with_reducible exact H) | (have H2_ := (Option.bind_some _ _).symm.trans H; rw [hy174]; with_reducible exact H2_) | (have H2_ := (Option.bind_some _ _).symm.trans H; with_reducible exact H2_) | with_reducible exact H | (rw [hy174]; exact H) | exact H
      have Ny174 := aM hy174; clear hy174
      simp only [Option.some.injEq, Prod.mk.injEq] at H
      obtain ⟨rfl, rfl⟩ := H
      have hnb80 := NB170_171.out; have hnc80 := NB171_170.out; have hnb81 := NB170_172.out; have hnc81 := NB172_170.out; have hnb82 := NB170_173.out; have hnc82 := NB173_170.out; obtain ⟨hcz83_0, hcz83_1, hfz83_0, hfz83_1⟩ := xf2 (w := wr) BK170; have hnb84 := NB173_171.out; have hnc84 := NB171_173.out; have hnb85 := NB173_172.out; have hnc85 := NB172_173.out; obtain ⟨hcz86_0, hcz86_1, hfz86_0, hfz86_1⟩ := xf2 (w := wr) BK173; have hnb87 := NB171_172.out; have hnc87 := NB172_171.out; obtain ⟨hcz88_0, hcz88_1, hcz88_2, hfz88_0, hfz88_1, hfz88_2⟩ := xf3 (w := wr) BK171
      go_wp2_with (first | ((with_reducible refine gate_builtin (b := .append) (xs := #[.tmp 59, .tmp 61]) rfl ?_); at_builtin; refine Kd.R_append k134 (w0 := w) w.heap.size rfl (.tmp 59) (.tmp 61) 68 134 (.agg #[(.int .i64 0), (.string ⟨#[]⟩), (.string ⟨#[]⟩)]) 40 rfl Try.underlying68 info134 rfl (by decide) (by omega) u174001 x174001_1 (⟨a1_0, a1_1, a1_2⟩ : S134) [.int .i64 a1_0, .string a1_1, .string a1_2] (fun k_ => k_ ≠ gb171) (fun _ => False) rfl rfl ?aP (fun _ hk => hk.elim) ?aF ?aO ?aB ?aS ?aL ?_; (case aP => exact k134_mkM _ _ _ (⟨a1_0, a1_1, a1_2⟩ : S134)); (case aB => exact xbg); (case aF => exact (fun k_ hk => Kd.freshB (g := gb171) (o := .cells #[.int .i64 a1_0, .string a1_1, .string a1_2] 134 (0, 0)) xblk k_ hk)); (case aO => exact (xr HO_174001)); (case aS => exact (below_size xbg)); (case aL => have := LMc79.out; omega); intro v175 w89 ho hb hg hat; rw [← Ny174.out] at ho; have n0_ := aM (blk_grown (g := gb170) (o := .cells #[.int .i64 a0_0, .slice A0_1 l0_1.length c0_1] 70 (0, 0)) xblk hg (Kd.R_ne HO_174001.out BK170.out (by decide))); have n1_ := aM (blk_grown (g := gb171) (o := .cells #[.int .i64 a1_0, .string a1_1, .string a1_2] 134 (0, 0)) xblk hg (Kd.R_away HO_174001.out (fun _ hk => hk))); have n2_ := aM (blk_grown (g := gb172) (o := .cells #[.int .i64 0, .slice none 0 0] 70 (0, 0)) xblk hg (Kd.R_ne HO_174001.out BK172.out (by decide))); have n3_ := aM (blk_grown (g := gb173) (o := .cells #[.int .i64 a0_0, u174001] 70 (0, 0)) xblk hg (Kd.R_ne HO_174001.out BK173.out (by decide))); have n4_ := aM (hb); have n5_ := aM (ho); clear BK170; clear BK171; clear BK172; clear BK173; clear HB; clear HO_174001; have BK170 := n0_; have BK171 := n1_; have BK172 := n2_; have BK173 := n3_; have HB := n4_; have HO176 := n5_; clear n0_ n1_ n2_ n3_ n4_ n5_; clear ho hb hg hat; obtain ⟨Ao90, co90, eo90⟩ := Kd.R_slice HO176.out; subst eo90; obtain ⟨hcz91_0, hcz91_1, hfz91_0, hfz91_1⟩ := xf2 (w := w89) BK173; obtain ⟨hcz92_0, hcz92_1, hfz92_0, hfz92_1⟩ := xf2 (w := w89) BK172))
      refine bodyPost_ret (results_cell_row rfl _ _ gb172 70 #[.int .i64 a0_0, .slice Ao90 y174.length co90] (0, 0) _ rfl (by (with_reducible repeat (first | refine blk_drewN ?_ _ | refine blk_drew ?_ | refine blk_alloc ?_ _)); refine blk_put (cs := #[.int .i64 a0_0, .slice none 0 0]) ?_ 1 _ rfl; (with_reducible repeat (first | refine blk_drewN ?_ _ | refine blk_drew ?_ | refine blk_alloc ?_ _)); refine blk_put (cs := #[.int .i64 0, .slice none 0 0]) ?_ 0 _ rfl; (with_reducible repeat (first | refine blk_drewN ?_ _ | refine blk_drew ?_ | refine blk_alloc ?_ _)); refine blk_far ?_ NB172_173.out _; (with_reducible repeat (first | refine blk_drewN ?_ _ | refine blk_drew ?_ | refine blk_alloc ?_ _)); exact BK172.out) Try.underlying70 rfl (by kernel_rfl)) rfl ?_
      exact ⟨_, by first | rfl | (simp [errW_none, errW_some] <;> rfl) | (simp [*, errW_none, errW_some] <;> rfl), by (with_reducible repeat (first | apply Kd.R_alloc | apply Kd.R_drewN | apply Kd.R_drew)); exact Kd.R_mono (Kd.R_far (p := ⟨gb172, 1, none⟩) (Kd.R_far (p := ⟨gb172, 0, none⟩) (Kd.R_far (p := ⟨gb173, 1, none⟩) (Kd.R_types (Kd.R_types HO176.out BK173.out (by decide)) BK172.out (by decide)) (fun _ hk => hk.1.2) (.slice Ao90 y174.length co90)) (fun _ hk => hk.2) (.int .i64 a0_0)) (fun _ hk => hk.2) (.slice Ao90 y174.length co90)) (fun _ hk => trivial), xbg⟩
     ·rw [if_neg c79] at H
      exact absurd H (by simp)

end Go.Proofs.Ytnjpfllmcmomoaa.QFnExactDiskMove
