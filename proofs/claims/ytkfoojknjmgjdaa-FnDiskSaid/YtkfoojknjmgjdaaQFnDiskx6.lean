-- A walk, by a program of this session.
import Derived.Test.YtkfoojknjmgjdaaQFnDiskx0
namespace Go.Proofs.Ytkfoojknjmgjdaa.QFnDisk
open Go.RowKit Go.Proofs.YtkfoojknjmgjdaaW.PrintWords Go.Proofs.YtkfoojknjmgjdaaW.PrintLast Go.Proofs.YtkfoojknjmgjdaaW.PrintMore
attribute [local go_sem] max2_int min2_int max_two min_two max_three min_three max_four min_four   -- for this text's walks alone
set_option linter.unusedVariables false
set_option linter.unusedSimpArgs false

/-! ### spec_l3Put: function 107 -/
mutual
def spec_l3Put.l0 : Nat → Bool → Int → Int → List (S81) → Int → ByteArray → ByteArray → Int → List (S81) → Option (Int × (List (S81)))
 | 0, _, _, _, _, _, _, _, _, _ => none
 | k + 1, x6, x7, x194000, x194001, x195000, x195001, x195002, x197000, x197001 => if x7 < (x194001.length : Int) then (if x6 = true then (spec_l3Put.j1 k x6 x7 false x194000 x194001 x195000 x195001 x195002 x197000 x197001) else (if 0 ≤ x7 then (spec_l3Put.j1 k x6 x7 (decide (((rd_T81 x194001 x7).f0) ≥ x195000)) x194000 x194001 x195000 x195001 x195002 x197000 x197001) else (none))) else (if x6 = true then (some (x197000, x197001)) else (if x197001.length < 3518437208883 then (some (x197000, (x197001 ++ [(⟨x195000, x195001, x195002⟩ : S81)]))) else (none)))
def spec_l3Put.j1 : Nat → Bool → Int → Bool → Int → List (S81) → Int → ByteArray → ByteArray → Int → List (S81) → Option (Int × (List (S81)))
 | 0, _, _, _, _, _, _, _, _, _, _ => none
 | k + 1, x6, x7, x30, x194000, x194001, x195000, x195001, x195002, x197000, x197001 => if x30 = true then (if x197001.length < 3518437208883 then ((some (x197001 ++ [(⟨x195000, x195001, x195002⟩ : S81)] : List (S81))).bind fun y201 => (if 0 ≤ x7 then (if x7 < (x194001.length : Int) then (if ((rd_T81 x194001 x7).f0) = x195000 then (spec_l3Put.l0 k true (wrap64 (x7 + 1)) x194000 x194001 x195000 x195001 x195002 x197000 y201) else (if y201.length < 3518437208883 then (spec_l3Put.l0 k true (wrap64 (x7 + 1)) x194000 x194001 x195000 x195001 x195002 x197000 (y201 ++ [(⟨(rd_T81 x194001 x7).f0, (rd_T81 x194001 x7).f1, (rd_T81 x194001 x7).f2⟩ : S81)])) else (none))) else (none)) else (none))) else (none)) else (if 0 ≤ x7 then (if x7 < (x194001.length : Int) then (if ((rd_T81 x194001 x7).f0) = x195000 then (spec_l3Put.l0 k x6 (wrap64 (x7 + 1)) x194000 x194001 x195000 x195001 x195002 x197000 x197001) else (if x197001.length < 3518437208883 then (spec_l3Put.l0 k x6 (wrap64 (x7 + 1)) x194000 x194001 x195000 x195001 x195002 x197000 (x197001 ++ [(⟨(rd_T81 x194001 x7).f0, (rd_T81 x194001 x7).f1, (rd_T81 x194001 x7).f2⟩ : S81)])) else (none))) else (none)) else (none))
end
def spec_l3Put.f (k : Nat) (a0_0 : Int) (l0_1 : List (S81)) (a1_0 : Int) (a1_1 : ByteArray) (a1_2 : ByteArray) : Option (Int × (List (S81))) := spec_l3Put.l0 k false 0 a0_0 l0_1 a1_0 a1_1 a1_2 a0_0 ([] : List (S81))
set_option maxRecDepth 100000 in
theorem spec_l3Put.mono_l : ∀ k, (∀ y0 y1 y2 y3 y4 y5 y6 y7 y8, LeO (spec_l3Put.l0 k y0 y1 y2 y3 y4 y5 y6 y7 y8) (spec_l3Put.l0 (k + 1) y0 y1 y2 y3 y4 y5 y6 y7 y8)) ∧ (∀ y0 y1 y2 y3 y4 y5 y6 y7 y8 y9, LeO (spec_l3Put.j1 k y0 y1 y2 y3 y4 y5 y6 y7 y8 y9) (spec_l3Put.j1 (k + 1) y0 y1 y2 y3 y4 y5 y6 y7 y8 y9))
 | 0 => ⟨fun _ _ _ _ _ _ _ _ _ r h => by simp [spec_l3Put.l0] at h, fun _ _ _ _ _ _ _ _ _ _ r h => by simp [spec_l3Put.j1] at h⟩
 | k + 1 => by
  obtain ⟨ih0, ih1⟩ := spec_l3Put.mono_l k
  refine ⟨?_, ?_⟩
  ·intro y0 y1 y2 y3 y4 y5 y6 y7 y8
   unfold spec_l3Put.l0
   repeat' first
   | (with_reducible exact ih0 _ _ _ _ _ _ _ _ _)
   | (with_reducible exact ih1 _ _ _ _ _ _ _ _ _ _)
   | (with_reducible exact LeO.refl _)
   | (with_reducible exact LeO.none _)
   | (with_reducible refine LeO.ite ?_ ?_)
   | (with_reducible refine LeO.bind ?_ (fun _ => ?_))
   | exact ih0 _ _ _ _ _ _ _ _ _
   | exact ih1 _ _ _ _ _ _ _ _ _ _
   | exact LeO.none _
   | refine LeO.ite ?_ ?_
   | refine LeO.bind ?_ (fun _ => ?_)
  ·intro y0 y1 y2 y3 y4 y5 y6 y7 y8 y9
   unfold spec_l3Put.j1
   repeat' first
   | (with_reducible exact ih0 _ _ _ _ _ _ _ _ _)
   | (with_reducible exact ih1 _ _ _ _ _ _ _ _ _ _)
   | (with_reducible exact LeO.refl _)
   | (with_reducible exact LeO.none _)
   | (with_reducible refine LeO.ite ?_ ?_)
   | (with_reducible refine LeO.bind ?_ (fun _ => ?_))
   | exact ih0 _ _ _ _ _ _ _ _ _
   | exact ih1 _ _ _ _ _ _ _ _ _ _
   | exact LeO.none _
   | refine LeO.ite ?_ ?_
   | refine LeO.bind ?_ (fun _ => ?_)
theorem spec_l3Put.mono : ∀ a0 a1 a2 a3 a4 k, LeO (spec_l3Put.f k a0 a1 a2 a3 a4) (spec_l3Put.f (k + 1) a0 a1 a2 a3 a4) := by
 intro a0 a1 a2 a3 a4 k
 obtain ⟨ih0, ih1⟩ := spec_l3Put.mono_l k
 unfold spec_l3Put.f
 repeat' first
  | (with_reducible exact ih0 _ _ _ _ _ _ _ _ _)
  | (with_reducible exact ih1 _ _ _ _ _ _ _ _ _ _)
  | (with_reducible exact LeO.refl _)
  | (with_reducible exact LeO.none _)
  | (with_reducible refine LeO.ite ?_ ?_)
  | (with_reducible refine LeO.bind ?_ (fun _ => ?_))
  | exact ih0 _ _ _ _ _ _ _ _ _
  | exact ih1 _ _ _ _ _ _ _ _ _ _
  | exact LeO.none _
  | refine LeO.ite ?_ ?_
  | refine LeO.bind ?_ (fun _ => ?_)
def spec_l3Put.T6 : Bool × List (List Nat × List Nat) := (true, [([], []), ([0], [0]), ([1], [1]), ([2], [2]), ([3, 2], [2, 3]), ([2], [2]), ([4, 5, 2], [2, 4, 5]), ([6, 2], [2, 6]), ([7, 2], [2, 7]), ([2], [2]), ([9, 2], [2, 9]), ([8, 10, 2], [2, 8, 10]), ([2, 11], [2, 11])])
def spec_l3Put.B6 : List Nat := [0, 1, 3, 7, 15, 7, 63, 127, 255, 7, 519, 2047, 4095]
theorem spec_l3Put.tab6 : rtab .any (opsOf Try.f107 6) = spec_l3Put.T6 := by kernel_rfl
theorem spec_l3Put.bits6 : waitsOk spec_l3Put.T6.2 spec_l3Put.B6 = true := by kernel_rfl
def spec_l3Put.T9 : Bool × List (List Nat × List Nat) := (true, [([], []), ([0], [0]), ([], []), ([1, 2], [1, 2]), ([3], [3]), ([4], [4]), ([], []), ([6], [6]), ([5, 7], [5, 7])])
def spec_l3Put.B9 : List Nat := [0, 1, 0, 7, 15, 31, 0, 64, 255]
theorem spec_l3Put.tab9 : rtab .any (opsOf Try.f107 9) = spec_l3Put.T9 := by kernel_rfl
theorem spec_l3Put.bits9 : waitsOk spec_l3Put.T9.2 spec_l3Put.B9 = true := by kernel_rfl
def spec_l3Put.T10 : Bool × List (List Nat × List Nat) := (true, [([], []), ([0], [0]), ([], []), ([2], [2]), ([], []), ([3, 4], [3, 4]), ([5], [5]), ([6], [6]), ([1, 7], [1, 7]), ([0, 1, 2, 3, 4, 5, 6, 7, 8], []), ([9, 8, 8, 0, 1, 2, 3, 4, 5, 6, 7, 8], [8, 9])])
def spec_l3Put.B10 : List Nat := [0, 1, 0, 4, 0, 28, 60, 124, 255, 511, 1023]
theorem spec_l3Put.tab10 : rtab .any (opsOf Try.f107 10) = spec_l3Put.T10 := by kernel_rfl
theorem spec_l3Put.bits10 : waitsOk spec_l3Put.T10.2 spec_l3Put.B10 = true := by kernel_rfl
set_option maxHeartbeats 8000000 in
set_option maxRecDepth 100000 in
theorem spec_l3Put.calls (k : Nat) (a0_0 : Int) (A0_1 : Option Addr) (c0_1 : Nat) (l0_1 : List (S81)) (a1_0 : Int) (a1_1 : ByteArray) (a1_2 : ByteArray) (r1 : Int) (r2 : List (S81)) (w : World) (hr0_1 : Kd.C k81 w A0_1 l0_1.length l0_1) (hc0_1 : l0_1.length ≤ c0_1) (h : spec_l3Put.f k a0_0 l0_1 a1_0 a1_1 a1_2 = some (r1, r2)) :
 Calls Try.prog 107 #[.agg #[.int .i64 a0_0, .slice A0_1 l0_1.length c0_1], .agg #[.int .i64 a1_0, .string a1_1, .string a1_2]] w fun e w' => ∃ v1_ : Value, e = .returned (.agg #[.int .i64 r1, v1_]) ∧ Kd.R k81 81 w' w.heap.size (fun _ => True) v1_ r2 ∧ Below w.heap.size w w' := by
 have hu63 := Try.underlying63
 have hu81 := Try.underlying81
 have HR0_1 := Aside0.mk hr0_1
 have HC0_1 := Aside0.mk hc0_1
 clear hr0_1 hc0_1
 have HB := Aside0.mk (Below.refl w.heap.size w)
 have H : (spec_l3Put.l0 k false 0 a0_0 l0_1 a1_0 a1_1 a1_2 a0_0 ([] : List (S81))) = some (r1, r2) := h
 clear h
 have H' := Aside0.mk H
 clear H
 go_enter Try.func107, Try.ntmps107
 go_wp2_with (first | ((with_reducible refine gate_dst (N := 2) rfl ?_); refine box_event ?hg (N := 2) ?hd (cs := #[.int .i64 a0_0, .slice A0_1 l0_1.length c0_1]) (t := 63) ?hr ?_; (case hd => rfl); (case hg => rfl); (case hr => first | (go_simp; done) | (go_simp; rfl)); intro gb193 hg w3 hbox hb; have BK193 := Aside0.mk (hbox); have GW193 := Aside0.mk (xge hg); have GE193 := Aside0.mk (xge hg); replace HB := xbs hb; clear hb hbox hg) | ((with_reducible refine gate_dst (N := 3) rfl ?_); refine box_event ?hg (N := 3) ?hd (cs := #[.int .i64 a1_0, .string a1_1, .string a1_2]) (t := 81) ?hr ?_; (case hd => rfl); (case hg => rfl); (case hr => first | (go_simp; done) | (go_simp; rfl)); intro gb194 hg w4 hbox hb; have GW194 := Aside0.mk (xge hg); have GE194 := Aside0.mk (xge hg); replace HB := xbs hb; have NB193_194 := Aside0.mk ((by rw [hg]; exact Nat.ne_of_lt (blk_lt (g := gb193) (o := .cells #[.int .i64 a0_0, .slice A0_1 l0_1.length c0_1] 63 (0, 0)) xblk) : gb193 ≠ gb194)); have NB194_193 := Aside0.mk ((by rw [hg]; exact Nat.ne_of_gt (blk_lt (g := gb193) (o := .cells #[.int .i64 a0_0, .slice A0_1 l0_1.length c0_1] 63 (0, 0)) xblk) : gb194 ≠ gb193)); replace BK193 := xbb BK193 hb; have BK194 := Aside0.mk (hbox); clear hb hbox hg) | ((with_reducible refine gate_dst (N := 4) rfl ?_); refine box_event ?hg (N := 4) ?hd (cs := #[.int .i64 0, .slice none 0 0]) (t := 63) ?hr ?_; (case hd => rfl); (case hg => rfl); (case hr => first | (go_simp; done) | (go_simp; rfl)); intro gb195 hg w5 hbox hb; have GW195 := Aside0.mk (xge hg); have GE195 := Aside0.mk (xge hg); replace HB := xbs hb; have NB193_195 := Aside0.mk ((by rw [hg]; exact Nat.ne_of_lt (blk_lt (g := gb193) (o := .cells #[.int .i64 a0_0, .slice A0_1 l0_1.length c0_1] 63 (0, 0)) xblk) : gb193 ≠ gb195)); have NB195_193 := Aside0.mk ((by rw [hg]; exact Nat.ne_of_gt (blk_lt (g := gb193) (o := .cells #[.int .i64 a0_0, .slice A0_1 l0_1.length c0_1] 63 (0, 0)) xblk) : gb195 ≠ gb193)); have NB194_195 := Aside0.mk ((by rw [hg]; exact Nat.ne_of_lt (blk_lt (g := gb194) (o := .cells #[.int .i64 a1_0, .string a1_1, .string a1_2] 81 (0, 0)) xblk) : gb194 ≠ gb195)); have NB195_194 := Aside0.mk ((by rw [hg]; exact Nat.ne_of_gt (blk_lt (g := gb194) (o := .cells #[.int .i64 a1_0, .string a1_1, .string a1_2] 81 (0, 0)) xblk) : gb195 ≠ gb194)); replace BK193 := xbb BK193 hb; replace BK194 := xbb BK194 hb; have BK195 := Aside0.mk (hbox); clear hb hbox hg; have hnb6 := NB193_194.out; have hnc6 := NB194_193.out; have hnb7 := NB193_195.out; have hnc7 := NB195_193.out; have hcz8_0 : w5.cell? ⟨gb193, 0, none⟩ = some (.int .i64 a0_0) := (blk_cell BK193.out 0).trans rfl; have hcz8_1 : w5.cell? ⟨gb193, 1, none⟩ = some (.slice A0_1 l0_1.length c0_1) := (blk_cell BK193.out 1).trans rfl; have hfz8_0 := blk_frozen BK193.out 0; have hfz8_1 := blk_frozen BK193.out 1) | ((with_reducible refine gate_dst (N := 5) rfl ?_); refine box_event ?hg (N := 5) ?hd (cs := #[.int .i64 0, .slice none 0 0]) (t := 63) ?hr ?_; (case hd => rfl); (case hg => rfl); (case hr => first | (go_simp; done) | (go_simp; rfl)); intro gb196 hg w9 hbox hb; have GW196 := Aside0.mk (xge hg); have GE196 := Aside0.mk (xge hg); replace HB := xbs hb; have NB193_196 := Aside0.mk ((by rw [hg]; exact Nat.ne_of_lt (blk_lt (g := gb193) (o := .cells #[.int .i64 a0_0, .slice A0_1 l0_1.length c0_1] 63 (0, 0)) xblk) : gb193 ≠ gb196)); have NB196_193 := Aside0.mk ((by rw [hg]; exact Nat.ne_of_gt (blk_lt (g := gb193) (o := .cells #[.int .i64 a0_0, .slice A0_1 l0_1.length c0_1] 63 (0, 0)) xblk) : gb196 ≠ gb193)); have NB194_196 := Aside0.mk ((by rw [hg]; exact Nat.ne_of_lt (blk_lt (g := gb194) (o := .cells #[.int .i64 a1_0, .string a1_1, .string a1_2] 81 (0, 0)) xblk) : gb194 ≠ gb196)); have NB196_194 := Aside0.mk ((by rw [hg]; exact Nat.ne_of_gt (blk_lt (g := gb194) (o := .cells #[.int .i64 a1_0, .string a1_1, .string a1_2] 81 (0, 0)) xblk) : gb196 ≠ gb194)); have NB195_196 := Aside0.mk ((by rw [hg]; exact Nat.ne_of_lt (blk_lt (g := gb195) (o := .cells #[.int .i64 0, .slice none 0 0] 63 (0, 0)) xblk) : gb195 ≠ gb196)); have NB196_195 := Aside0.mk ((by rw [hg]; exact Nat.ne_of_gt (blk_lt (g := gb195) (o := .cells #[.int .i64 0, .slice none 0 0] 63 (0, 0)) xblk) : gb196 ≠ gb195)); replace BK193 := xbb BK193 hb; replace BK194 := xbb BK194 hb; replace BK195 := xbb BK195 hb; have BK196 := Aside0.mk (hbox); clear hb hbox hg; have hnb10 := NB196_193.out; have hnc10 := NB193_196.out; have hnb11 := NB196_194.out; have hnc11 := NB194_196.out; have hnb12 := NB196_195.out; have hnc12 := NB195_196.out; have hcz13_0 : w9.cell? ⟨gb196, 0, none⟩ = some (.int .i64 0) := (blk_cell BK196.out 0).trans rfl; have hcz13_1 : w9.cell? ⟨gb196, 1, none⟩ = some (.slice none 0 0) := (blk_cell BK196.out 1).trans rfl; have hfz13_0 := blk_frozen BK196.out 0; have hfz13_1 := blk_frozen BK196.out 1))
 go_loopg [6, 7] k (fun kq v6 v7 w' => ∃ (x6_1 : Bool) (x7_1 : Int) (x197001_1 : List (S81)) (u197001 : Value), v6 = .bool x6_1 ∧ v7 = .int .i64 x7_1 ∧ Aside0 (spec_l3Put.l0 kq x6_1 x7_1 a0_0 l0_1 a1_0 a1_1 a1_2 a0_0 x197001_1 = some (r1, r2)) ∧ Aside0 (kq ≤ k) ∧ Aside0 (Kd.R k81 81 w' w.heap.size (fun k_ => k_ ≠ gb194) u197001 x197001_1) ∧ Aside0 (w'.heap[gb193]? = some (.cells #[.int .i64 a0_0, (.slice A0_1 l0_1.length c0_1)] 63 (0, 0))) ∧ Aside0 (w'.heap[gb194]? = some (.cells #[.int .i64 a1_0, .string a1_1, .string a1_2] 81 (0, 0))) ∧ Aside0 (w'.heap[gb195]? = some (.cells #[.int .i64 0, (.slice none 0 0)] 63 (0, 0))) ∧ Aside0 (w'.heap[gb196]? = some (.cells #[.int .i64 a0_0, u197001] 63 (0, 0))) ∧ Aside0 (Below w.heap.size w w'))
 case atStart => exact ⟨(false), (0), (([] : List (S81))), (.slice none 0 0), (by first | rfl | (simp; done) | (simp [*]; done)), (by first | rfl | (simp; done) | (simp [*]; done)), H', ⟨Nat.le_refl _⟩, ⟨by first | exact Kd.R_nil _ _ _ _ _ | exact Kd.N_nil _ _ _ _ _ | exact Kd.V_nil _ _ _ _ _ | exact Kd.Q_nil _ _ _ _ _ | exact Kd.S_nil _ _ _ _ _⟩, ⟨by (with_reducible repeat (first | refine blk_drewN ?_ _ | refine blk_drew ?_ | refine blk_alloc ?_ _)); refine blk_far ?_ NB193_196.out _; (with_reducible repeat (first | refine blk_drewN ?_ _ | refine blk_drew ?_ | refine blk_alloc ?_ _)); refine blk_far ?_ NB193_196.out _; (with_reducible repeat (first | refine blk_drewN ?_ _ | refine blk_drew ?_ | refine blk_alloc ?_ _)); exact BK193.out⟩, ⟨by (with_reducible repeat (first | refine blk_drewN ?_ _ | refine blk_drew ?_ | refine blk_alloc ?_ _)); refine blk_far ?_ NB194_196.out _; (with_reducible repeat (first | refine blk_drewN ?_ _ | refine blk_drew ?_ | refine blk_alloc ?_ _)); refine blk_far ?_ NB194_196.out _; (with_reducible repeat (first | refine blk_drewN ?_ _ | refine blk_drew ?_ | refine blk_alloc ?_ _)); exact BK194.out⟩, ⟨by (with_reducible repeat (first | refine blk_drewN ?_ _ | refine blk_drew ?_ | refine blk_alloc ?_ _)); refine blk_far ?_ NB195_196.out _; (with_reducible repeat (first | refine blk_drewN ?_ _ | refine blk_drew ?_ | refine blk_alloc ?_ _)); refine blk_far ?_ NB195_196.out _; (with_reducible repeat (first | refine blk_drewN ?_ _ | refine blk_drew ?_ | refine blk_alloc ?_ _)); exact BK195.out⟩, ⟨by (with_reducible repeat (first | refine blk_drewN ?_ _ | refine blk_drew ?_ | refine blk_alloc ?_ _)); refine blk_put (cs := #[.int .i64 a0_0, .slice none 0 0]) ?_ 1 _ rfl; (with_reducible repeat (first | refine blk_drewN ?_ _ | refine blk_drew ?_ | refine blk_alloc ?_ _)); refine blk_put (cs := #[.int .i64 0, .slice none 0 0]) ?_ 0 _ rfl; (with_reducible repeat (first | refine blk_drewN ?_ _ | refine blk_drew ?_ | refine blk_alloc ?_ _)); exact BK196.out⟩, ⟨xbg⟩⟩
 case round =>
  clear H'
  try clear c1
  try clear p2
  try clear c6
  try clear c7
  try clear c10
  try clear c11
  try clear c12
  try clear hcz13_0
  try clear hcz13_1
  try clear hcz8_0
  try clear hcz8_1
  try clear hfz13_0
  try clear hfz13_1
  try clear hfz8_0
  try clear hfz8_1
  obtain ⟨x6_1, x7_1, x197001_1, u197001, rfl, rfl, HA, HK1, HO_197001, BK193, BK194, BK195, BK196, HB⟩ := hrel
  cases gk with
  | zero => exact absurd HA.out (by simp [spec_l3Put.l0])
  | succ k1 =>
   have H := HA.out
   clear HA
   simp only [spec_l3Put.l0] at H
   by_cases c14 : x7_1 < (l0_1.length : Int)
   ·rw [if_pos c14] at H
    have c14b0 : decide (x7_1 < (l0_1.length : Int)) = true := decide_eq_true c14
    clear c14
    have HC15 := Aside0.mk H
    clear H
    have hnb16 := NB193_194.out
    have hnc16 := NB194_193.out
    have hnb17 := NB193_195.out
    have hnc17 := NB195_193.out
    have hnb18 := NB193_196.out
    have hnc18 := NB196_193.out
    have hcz19_0 : wr.cell? ⟨gb193, 0, none⟩ = some (.int .i64 a0_0) := (blk_cell BK193.out 0).trans rfl
    have hcz19_1 : wr.cell? ⟨gb193, 1, none⟩ = some (.slice A0_1 l0_1.length c0_1) := (blk_cell BK193.out 1).trans rfl
    have hfz19_0 := blk_frozen BK193.out 0
    have hfz19_1 := blk_frozen BK193.out 1
    go_upto_region 6 with (fail)
    go_cut [30] (fun v30 wc => ∃ (kq : Nat) (x30_14 : Bool), v30 = .bool x30_14 ∧ Aside0 (spec_l3Put.j1 kq x6_1 x7_1 x30_14 a0_0 l0_1 a1_0 a1_1 a1_2 a0_0 x197001_1 = some (r1, r2)) ∧ Aside0 (kq ≤ k1) ∧ Aside0 (Kd.R k81 81 wc w.heap.size (fun k_ => k_ ≠ gb194) u197001 x197001_1) ∧ Aside0 (wc.heap[gb193]? = some (.cells #[.int .i64 a0_0, (.slice A0_1 l0_1.length c0_1)] 63 (0, 0))) ∧ Aside0 (wc.heap[gb194]? = some (.cells #[.int .i64 a1_0, .string a1_1, .string a1_2] 81 (0, 0))) ∧ Aside0 (wc.heap[gb195]? = some (.cells #[.int .i64 0, (.slice none 0 0)] 63 (0, 0))) ∧ Aside0 (wc.heap[gb196]? = some (.cells #[.int .i64 a0_0, u197001] 63 (0, 0))) ∧ Aside0 (Below w.heap.size w wc))
    case first =>
     have H := HC15.out
     clear HC15
     by_cases c20 : x6_1 = true
     ·subst c20
      have H1 : (spec_l3Put.j1 k1 true x7_1 false a0_0 l0_1 a1_0 a1_1 a1_2 a0_0 x197001_1) = some (r1, r2) := by rw [if_pos rfl] at H; exact H
      clear H
      have H := H1
      clear H1
      have H' := Aside0.mk H
      clear H
      try go_wp2
      replace HO_197001 := Aside0.mk (Kd.R_drew HO_197001.out)
      replace BK193 := Aside0.mk (blk_drew BK193.out)
      replace BK194 := Aside0.mk (blk_drew BK194.out)
      replace BK195 := Aside0.mk (blk_drew BK195.out)
      replace BK196 := Aside0.mk (blk_drew BK196.out)
      replace HB := Aside0.mk (below_drew1 HB.out)
      refine start_ (n := 13) (S := fun w' => True) (ds := []) #[false, false, false, false, false, false, false, false, false, false, false, false, false] (by kernel_rfl) rfl rfl trivial (fun hHeld => ?_); refine with_tabW spec_l3Put.tab6 spec_l3Put.bits6 (fun HT_ HW_ => ?_)
      generalize wr.drew = w21 at HO_197001 BK193 BK194 BK195 BK196 HB hHeld ⊢
      refine pv_ 0 18 (h := ?_)
      refine pv_ 1 19 (h := ?_)
      refine pv_ 2 20 (h := ?_)
      refine pu_ 3 21 (h := ?_)
      refine pu_ 4 22 (h := ?_)
      refine pu_ 5 23 (h := ?_)
      refine pu_ 6 24 (h := ?_)
      refine pu_ 7 25 (h := ?_)
      refine pu_ 8 26 (h := ?_)
      refine pu_ 9 27 (h := ?_)
      refine pu_ 10 28 (h := ?_)
      refine pu_ 11 29 (h := ?_)
      refine pv_ 12 30 (h := ?_)
      refine done_ (done_of HT_.out (by kernel_rfl)) ?_
      try go_wp2
      go_meet
      case rel => exact ⟨_, (false), (by first | rfl | (simp; done) | (simp [*]; done)), H', ⟨by have := HK1.out; first | omega | exact Nat.le_refl _⟩, ⟨by (with_reducible repeat (first | apply Kd.R_alloc | apply Kd.R_drewN | apply Kd.R_drew)); exact HO_197001.out⟩, ⟨xblk⟩, ⟨xblk⟩, ⟨xblk⟩, ⟨xblk⟩, ⟨xbg⟩⟩
     ·replace c20 := Bool.eq_false_iff.mpr c20
      subst c20
      have H1 : (if 0 ≤ x7_1 then (spec_l3Put.j1 k1 false x7_1 (decide (((rd_T81 l0_1 x7_1).f0) ≥ a1_0)) a0_0 l0_1 a1_0 a1_1 a1_2 a0_0 x197001_1) else (none)) = some (r1, r2) := by rw [if_neg (show ¬ (false = true) by decide)] at H; exact H
      clear H
      have H := H1
      clear H1
      by_cases c22 : 0 ≤ x7_1
      ·rw [if_pos c22] at H
       have c22b0 : decide (0 ≤ x7_1) = true := decide_eq_true c22
       clear c22
       (first | rw [c22b0] | (simp only [i64_w, i32_w]; rw [c22b0]) | skip)
       have H' := Aside0.mk H
       clear H
       try go_wp2
       replace HO_197001 := Aside0.mk (Kd.R_drew HO_197001.out)
       replace BK193 := Aside0.mk (blk_drew BK193.out)
       replace BK194 := Aside0.mk (blk_drew BK194.out)
       replace BK195 := Aside0.mk (blk_drew BK195.out)
       replace BK196 := Aside0.mk (blk_drew BK196.out)
       replace HB := Aside0.mk (below_drew1 HB.out)
       have p200 : 0 ≤ (x7_1 : Int) := of_decide_eq_true (by first | (with_reducible assumption) | assumption)
       have q200 : x7_1 < (l0_1.length : Int) := of_decide_eq_true (by first | (with_reducible assumption) | assumption)
       obtain ⟨ad200, e200, hx200_0, hx200_1, hx200_2⟩ := at_T81 HR0_1.out x7_1 p200 q200
       have hw200_2 := hx200_2
       have hw200_1 := hx200_1
       have hw200_0 := hx200_0
       cases e200
       replace hx200_0 := xce HB hx200_0
       replace hx200_1 := xce HB hx200_1
       replace hx200_2 := xce HB hx200_2
       replace p200 := eq_true p200
       replace q200 := eq_true q200
       refine start_ (n := 13) (S := fun w' => w'.cell? ⟨gb193, 0, none⟩ = some (.int .i64 a0_0) ∧ w'.cell? ⟨gb193, 1, none⟩ = some (.slice (some ad200) l0_1.length c0_1) ∧ w'.cell? ⟨gb194, 0, none⟩ = some (.int .i64 a1_0) ∧ w'.cell? ⟨gb194, 1, none⟩ = some (.string a1_1) ∧ w'.cell? ⟨gb194, 2, none⟩ = some (.string a1_2) ∧ w'.cell? (ad200.add ((x7_1).toNat * 3)) = some (.int .i64 ((rd_T81 l0_1 x7_1).f0)) ∧ w'.cell? ⟨(ad200.add ((x7_1).toNat * 3)).block, (ad200.add ((x7_1).toNat * 3)).off + 1, none⟩ = some (.string ((rd_T81 l0_1 x7_1).f1)) ∧ w'.cell? ⟨(ad200.add ((x7_1).toNat * 3)).block, (ad200.add ((x7_1).toNat * 3)).off + 2, none⟩ = some (.string ((rd_T81 l0_1 x7_1).f2))) (ds := []) #[false, false, false, false, false, false, false, false, false, false, false, false, false] (by kernel_rfl) rfl rfl ⟨(blk_cell BK193.out 0).trans rfl, (blk_cell BK193.out 1).trans rfl, (blk_cell BK194.out 0).trans rfl, (blk_cell BK194.out 1).trans rfl, (blk_cell BK194.out 2).trans rfl, (xce HB hw200_0), (xce HB hw200_1), (xce HB hw200_2)⟩ (fun hHeld => ?_); refine with_tabW spec_l3Put.tab6 spec_l3Put.bits6 (fun HT_ HW_ => ?_)
       generalize wr.drew = w23 at HO_197001 BK193 BK194 BK195 BK196 HB hx200_0 hx200_1 hx200_2 hHeld ⊢
       refine pv_ 0 18 (h := ?_)
       refine pv_ 1 19 (h := ?_)
       refine pv_ 2 20 (h := ?_)
       refine pv_ 3 21 (h := ?_)
       refine pv_ 5 23 (h := ?_)
       refine pv_ 9 27 (h := ?_)
       refine tk_ 4 22 (h := ?_)
       refine pv_ 6 24 (h := ?_)
       refine pv_ 7 25 (h := ?_)
       refine tk_ 8 26 (h := ?_)
       refine tk_ 10 28 (h := ?_)
       refine pv_ 11 29 (h := ?_)
       refine pv_ 12 30 (h := ?_)
       refine done_ (done_of HT_.out (by kernel_rfl)) ?_
       try go_wp2
       go_meet
       case rel => exact ⟨_, (decide (((rd_T81 l0_1 x7_1).f0) ≥ a1_0)), (by first | rfl | (simp; done) | (simp [*]; done)), H', ⟨by have := HK1.out; first | omega | exact Nat.le_refl _⟩, ⟨by (with_reducible repeat (first | apply Kd.R_alloc | apply Kd.R_drewN | apply Kd.R_drew)); exact HO_197001.out⟩, ⟨xblk⟩, ⟨xblk⟩, ⟨xblk⟩, ⟨xblk⟩, ⟨xbg⟩⟩
      ·rw [if_neg c22] at H
       exact absurd H (by simp)
    case rest =>
     clear HC15
     try clear c1
     try clear c2
     try clear p2
     try clear q2
     try clear hx2
     try clear c6
     try clear c7
     try clear c10
     try clear c11
     try clear c12
     try clear c14
     try clear c14b0
     try clear c16
     try clear c17
     try clear c18
     try clear c20
     try clear p20
     try clear q20
     try clear hx20
     try clear c22
     try clear c22b0
     try clear hcz13_0
     try clear hcz13_1
     try clear hcz19_0
     try clear hcz19_1
     try clear hcz8_0
     try clear hcz8_1
     try clear hfz13_0
     try clear hfz13_1
     try clear hfz19_0
     try clear hfz19_1
     try clear hfz8_0
     try clear hfz8_1
     try clear hx200_0
     try clear hx200_1
     try clear hx200_2
     try clear p2
     try clear p200
     try clear q200
     obtain ⟨kq, x30_14, rfl, HA, HJ14, HO_197001, BK193, BK194, BK195, BK196, HB⟩ := hcut
     cases kq with
     | zero => exact absurd HA.out (by simp [spec_l3Put.j1])
     | succ kj14 =>
      have H := HA.out
      clear HA
      simp only [spec_l3Put.j1] at H
      by_cases c24 : x30_14 = true
      ·subst c24
       have H1 : (if x197001_1.length < 3518437208883 then ((some (x197001_1 ++ [(⟨a1_0, a1_1, a1_2⟩ : S81)] : List (S81))).bind fun y201 => (if 0 ≤ x7_1 then (if x7_1 < (l0_1.length : Int) then (if ((rd_T81 l0_1 x7_1).f0) = a1_0 then (spec_l3Put.l0 kj14 true (wrap64 (x7_1 + 1)) a0_0 l0_1 a1_0 a1_1 a1_2 a0_0 y201) else (if y201.length < 3518437208883 then (spec_l3Put.l0 kj14 true (wrap64 (x7_1 + 1)) a0_0 l0_1 a1_0 a1_1 a1_2 a0_0 (y201 ++ [(⟨(rd_T81 l0_1 x7_1).f0, (rd_T81 l0_1 x7_1).f1, (rd_T81 l0_1 x7_1).f2⟩ : S81)])) else (none))) else (none)) else (none))) else (none)) = some (r1, r2) := by rw [if_pos rfl] at H; exact H
       clear H
       have H := H1
       clear H1
       by_cases c25 : x197001_1.length < 3518437208883
       ·rw [if_pos c25] at H
        have LMc25 := Aside0.mk c25
        clear c25
        obtain ⟨y201, hy201⟩ : ∃ y_ : List (S81), y_ = (x197001_1 ++ [(⟨a1_0, a1_1, a1_2⟩ : S81)]) := ⟨_, rfl⟩
        replace H : (if 0 ≤ x7_1 then (if x7_1 < (l0_1.length : Int) then (if ((rd_T81 l0_1 x7_1).f0) = a1_0 then (spec_l3Put.l0 kj14 true (wrap64 (x7_1 + 1)) a0_0 l0_1 a1_0 a1_1 a1_2 a0_0 y201) else (if y201.length < 3518437208883 then (spec_l3Put.l0 kj14 true (wrap64 (x7_1 + 1)) a0_0 l0_1 a1_0 a1_1 a1_2 a0_0 (y201 ++ [(⟨(rd_T81 l0_1 x7_1).f0, (rd_T81 l0_1 x7_1).f1, (rd_T81 l0_1 x7_1).f2⟩ : S81)])) else (none))) else (none)) else (none)) = some (r1, r2) := by first | (rw [hy201]; with_reducible exact H) | (have H2_ := (Option.bind_some _ _).symm.trans H; rw [hy201]; with_reducible exact H2_) | (have H2_ := (Option.bind_some _ _).symm.trans H; with_reducible exact H2_) | with_reducible exact H | (rw [hy201]; exact H) | exact H
        have Ny201 := Aside0.mk hy201
        clear hy201
        by_cases c26 : 0 ≤ x7_1
        ·rw [if_pos c26] at H
         have c26b0 : decide (0 ≤ x7_1) = true := decide_eq_true c26
         clear c26
         by_cases c27 : x7_1 < (l0_1.length : Int)
         ·rw [if_pos c27] at H
          have c27b0 : decide (x7_1 < (l0_1.length : Int)) = true := decide_eq_true c27
          clear c27
          by_cases c28 : ((rd_T81 l0_1 x7_1).f0) = a1_0
          ·rw [if_pos c28] at H
           have c28b0 : (((rd_T81 l0_1 x7_1).f0) == a1_0) = true := beq_iff_eq.mpr c28
           have c28b1 : (((rd_T81 l0_1 x7_1).f0) != a1_0) = false := bne_eq_false_iff_eq.mpr c28
           clear c28
           have H' := Aside0.mk H
           clear H
           have hnb29 := NB196_193.out
           have hnc29 := NB193_196.out
           have hnb30 := NB196_194.out
           have hnc30 := NB194_196.out
           have hnb31 := NB196_195.out
           have hnc31 := NB195_196.out
           have hcz32_0 : wc.cell? ⟨gb196, 0, none⟩ = some (.int .i64 a0_0) := (blk_cell BK196.out 0).trans rfl
           have hcz32_1 : wc.cell? ⟨gb196, 1, none⟩ = some (u197001) := (blk_cell BK196.out 1).trans rfl
           have hfz32_0 := blk_frozen BK196.out 0
           have hfz32_1 := blk_frozen BK196.out 1
           have hnb33 := NB194_193.out
           have hnc33 := NB193_194.out
           have hnb34 := NB194_195.out
           have hnc34 := NB195_194.out
           have hcz35_0 : wc.cell? ⟨gb194, 0, none⟩ = some (.int .i64 a1_0) := (blk_cell BK194.out 0).trans rfl
           have hcz35_1 : wc.cell? ⟨gb194, 1, none⟩ = some (.string a1_1) := (blk_cell BK194.out 1).trans rfl
           have hcz35_2 : wc.cell? ⟨gb194, 2, none⟩ = some (.string a1_2) := (blk_cell BK194.out 2).trans rfl
           have hfz35_0 := blk_frozen BK194.out 0
           have hfz35_1 := blk_frozen BK194.out 1
           have hfz35_2 := blk_frozen BK194.out 2
           try go_wp2_with (first | ((with_reducible refine gate_builtin (b := .append) (xs := #[.tmp 32, .tmp 34]) rfl ?_); at_builtin; refine Kd.R_append k81 (w0 := w) w.heap.size rfl (.tmp 32) (.tmp 34) 61 81 (.agg #[(.int .i64 0), (.string ⟨#[]⟩), (.string ⟨#[]⟩)]) 40 rfl Try.underlying61 info81 rfl (by decide) (by omega) u197001 x197001_1 (⟨a1_0, a1_1, a1_2⟩ : S81) [.int .i64 a1_0, .string a1_1, .string a1_2] (fun k_ => k_ ≠ gb194) (fun _ => False) rfl rfl ?aP (fun _ hk => hk.elim) ?aF ?aO ?aB ?aS ?aL ?_; (case aP => exact k81_mkM _ _ _ (⟨a1_0, a1_1, a1_2⟩ : S81)); (case aB => exact xbg); (case aF => exact (fun k_ hk => Kd.freshB (g := gb194) (o := .cells #[.int .i64 a1_0, .string a1_1, .string a1_2] 81 (0, 0)) xblk k_ hk)); (case aO => exact (by (with_reducible repeat (first | apply Kd.R_alloc | apply Kd.R_drewN | apply Kd.R_drew)); exact HO_197001.out)); (case aS => exact (below_size xbg)); (case aL => have := LMc25.out; omega); intro v202 w36 ho hb hg hat; rw [← Ny201.out] at ho; have n0_ := Aside0.mk (blk_grown (g := gb193) (o := .cells #[.int .i64 a0_0, .slice A0_1 l0_1.length c0_1] 63 (0, 0)) xblk hg (Kd.R_ne HO_197001.out BK193.out (by decide))); have n1_ := Aside0.mk (blk_grown (g := gb194) (o := .cells #[.int .i64 a1_0, .string a1_1, .string a1_2] 81 (0, 0)) xblk hg (Kd.R_away HO_197001.out (fun _ hk => hk))); have n2_ := Aside0.mk (blk_grown (g := gb195) (o := .cells #[.int .i64 0, .slice none 0 0] 63 (0, 0)) xblk hg (Kd.R_ne HO_197001.out BK195.out (by decide))); have n3_ := Aside0.mk (blk_grown (g := gb196) (o := .cells #[.int .i64 a0_0, u197001] 63 (0, 0)) xblk hg (Kd.R_ne HO_197001.out BK196.out (by decide))); have n4_ := Aside0.mk (hb); have n5_ := Aside0.mk (ho); clear BK193; clear BK194; clear BK195; clear BK196; clear HB; clear HO_197001; have BK193 := n0_; have BK194 := n1_; have BK195 := n2_; have BK196 := n3_; have HB := n4_; have HO203 := n5_; clear n0_ n1_ n2_ n3_ n4_ n5_; clear ho hb hg hat; obtain ⟨Ao37, co37, eo37⟩ := Kd.R_slice HO203.out; subst eo37; have hcz38_0 : w36.cell? ⟨gb196, 0, none⟩ = some (.int .i64 a0_0) := (blk_cell BK196.out 0).trans rfl; have hcz38_1 : w36.cell? ⟨gb196, 1, none⟩ = some (u197001) := (blk_cell BK196.out 1).trans rfl; have hfz38_0 := blk_frozen BK196.out 0; have hfz38_1 := blk_frozen BK196.out 1))
           have n0_ : Aside0 (Kd.R k81 81 (w36.setCell ⟨gb196, 1, none⟩ (.slice Ao37 y201.length co37)) w.heap.size (fun k_ => k_ ≠ gb194) (.slice Ao37 y201.length co37) y201) := ⟨by (with_reducible repeat (first | apply Kd.R_alloc | apply Kd.R_drewN | apply Kd.R_drew)); exact Kd.R_mono (Kd.R_far (p := ⟨gb196, 1, none⟩) (Kd.R_types HO203.out BK196.out (by decide)) (fun _ hk => hk.2) (.slice Ao37 y201.length co37)) (fun _ hk => hk.1)⟩
           have n1_ : Aside0 ((w36.setCell ⟨gb196, 1, none⟩ (.slice Ao37 y201.length co37)).heap[gb193]? = some (.cells #[.int .i64 a0_0, .slice A0_1 l0_1.length c0_1] 63 (0, 0))) := ⟨by (with_reducible repeat (first | refine blk_drewN ?_ _ | refine blk_drew ?_ | refine blk_alloc ?_ _)); refine blk_far ?_ NB193_196.out _; (with_reducible repeat (first | refine blk_drewN ?_ _ | refine blk_drew ?_ | refine blk_alloc ?_ _)); exact BK193.out⟩
           have n2_ : Aside0 ((w36.setCell ⟨gb196, 1, none⟩ (.slice Ao37 y201.length co37)).heap[gb194]? = some (.cells #[.int .i64 a1_0, .string a1_1, .string a1_2] 81 (0, 0))) := ⟨by (with_reducible repeat (first | refine blk_drewN ?_ _ | refine blk_drew ?_ | refine blk_alloc ?_ _)); refine blk_far ?_ NB194_196.out _; (with_reducible repeat (first | refine blk_drewN ?_ _ | refine blk_drew ?_ | refine blk_alloc ?_ _)); exact BK194.out⟩
           have n3_ : Aside0 ((w36.setCell ⟨gb196, 1, none⟩ (.slice Ao37 y201.length co37)).heap[gb195]? = some (.cells #[.int .i64 0, .slice none 0 0] 63 (0, 0))) := ⟨by (with_reducible repeat (first | refine blk_drewN ?_ _ | refine blk_drew ?_ | refine blk_alloc ?_ _)); refine blk_far ?_ NB195_196.out _; (with_reducible repeat (first | refine blk_drewN ?_ _ | refine blk_drew ?_ | refine blk_alloc ?_ _)); exact BK195.out⟩
           have n4_ : Aside0 ((w36.setCell ⟨gb196, 1, none⟩ (.slice Ao37 y201.length co37)).heap[gb196]? = some (.cells #[.int .i64 a0_0, .slice Ao37 y201.length co37] 63 (0, 0))) := ⟨by (with_reducible repeat (first | refine blk_drewN ?_ _ | refine blk_drew ?_ | refine blk_alloc ?_ _)); refine blk_put (cs := #[.int .i64 a0_0, u197001]) ?_ 1 _ rfl; (with_reducible repeat (first | refine blk_drewN ?_ _ | refine blk_drew ?_ | refine blk_alloc ?_ _)); exact BK196.out⟩
           have n5_ : Aside0 (Below w.heap.size w (w36.setCell ⟨gb196, 1, none⟩ (.slice Ao37 y201.length co37))) := ⟨xbg⟩
           (try clear HO203); (try clear BK193); (try clear BK194); (try clear BK195); (try clear BK196); (try clear HB)
           generalize (w36.setCell ⟨gb196, 1, none⟩ (.slice Ao37 y201.length co37)) = w39 at n0_ n1_ n2_ n3_ n4_ n5_ ⊢
           have HO203 := n0_
           have BK193 := n1_
           have BK194 := n2_
           have BK195 := n3_
           have BK196 := n4_
           have HB := n5_
           clear n0_ n1_ n2_ n3_ n4_ n5_
           replace HO203 := Aside0.mk (Kd.R_drew HO203.out)
           replace BK193 := Aside0.mk (blk_drew BK193.out)
           replace BK194 := Aside0.mk (blk_drew BK194.out)
           replace BK195 := Aside0.mk (blk_drew BK195.out)
           replace BK196 := Aside0.mk (blk_drew BK196.out)
           replace HB := Aside0.mk (below_drew1 HB.out)
           have p204 : 0 ≤ (x7_1 : Int) := of_decide_eq_true (by first | (with_reducible assumption) | assumption)
           have q204 : x7_1 < (l0_1.length : Int) := of_decide_eq_true (by first | (with_reducible assumption) | assumption)
           obtain ⟨ad204, e204, hx204_0, hx204_1, hx204_2⟩ := at_T81 HR0_1.out x7_1 p204 q204
           have hw204_2 := hx204_2
           have hw204_1 := hx204_1
           have hw204_0 := hx204_0
           cases e204
           replace hx204_0 := xce HB hx204_0
           replace hx204_1 := xce HB hx204_1
           replace hx204_2 := xce HB hx204_2
           replace p204 := eq_true p204
           replace q204 := eq_true q204
           refine start_ (n := 9) (S := fun w' => w'.cell? ⟨gb193, 0, none⟩ = some (.int .i64 a0_0) ∧ w'.cell? ⟨gb193, 1, none⟩ = some (.slice (some ad204) l0_1.length c0_1) ∧ w'.cell? ⟨gb194, 0, none⟩ = some (.int .i64 a1_0) ∧ w'.cell? ⟨gb194, 1, none⟩ = some (.string a1_1) ∧ w'.cell? ⟨gb194, 2, none⟩ = some (.string a1_2) ∧ w'.cell? (ad204.add ((x7_1).toNat * 3)) = some (.int .i64 ((rd_T81 l0_1 x7_1).f0)) ∧ w'.cell? ⟨(ad204.add ((x7_1).toNat * 3)).block, (ad204.add ((x7_1).toNat * 3)).off + 1, none⟩ = some (.string ((rd_T81 l0_1 x7_1).f1)) ∧ w'.cell? ⟨(ad204.add ((x7_1).toNat * 3)).block, (ad204.add ((x7_1).toNat * 3)).off + 2, none⟩ = some (.string ((rd_T81 l0_1 x7_1).f2))) (ds := []) #[false, false, false, false, false, false, false, false, false] (by kernel_rfl) rfl rfl ⟨(blk_cell BK193.out 0).trans rfl, (blk_cell BK193.out 1).trans rfl, (blk_cell BK194.out 0).trans rfl, (blk_cell BK194.out 1).trans rfl, (blk_cell BK194.out 2).trans rfl, (xce HB hw204_0), (xce HB hw204_1), (xce HB hw204_2)⟩ (fun hHeld => ?_); refine with_tabW spec_l3Put.tab9 spec_l3Put.bits9 (fun HT_ HW_ => ?_)
           generalize w39.drew = w40 at HO203 BK193 BK194 BK195 BK196 HB hx204_0 hx204_1 hx204_2 hHeld ⊢
           refine pv_ 0 37 (h := ?_)
           refine pv_ 2 39 (h := ?_)
           refine pv_ 6 43 (h := ?_)
           refine tk_ 1 38 (h := ?_)
           refine pv_ 3 40 (h := ?_)
           refine pv_ 4 41 (h := ?_)
           refine tk_ 5 42 (h := ?_)
           refine tk_ 7 44 (h := ?_)
           refine pv_ 8 45 (h := ?_)
           refine done_ (done_of HT_.out (by kernel_rfl)) ?_
           try go_wp2
           go_roundg kj14
           case measure => have := HK1.out; have := HJ14.out; omega
           case rel => exact ⟨(true), (wrap64 (x7_1 + 1)), (y201), (.slice Ao37 y201.length co37), (by first | rfl | (simp; done) | (simp [*]; done)), (by first | rfl | (simp; done) | (simp [*]; done)), H', ⟨by have := HK1.out; have := HJ14.out; omega⟩, ⟨by (with_reducible repeat (first | apply Kd.R_alloc | apply Kd.R_drewN | apply Kd.R_drew)); exact HO203.out⟩, ⟨xblk⟩, ⟨xblk⟩, ⟨xblk⟩, ⟨xblk⟩, ⟨xbg⟩⟩
          ·rw [if_neg c28] at H
           have c28b0 : (((rd_T81 l0_1 x7_1).f0) == a1_0) = false := beq_eq_false_iff_ne.mpr c28
           have c28b1 : (((rd_T81 l0_1 x7_1).f0) != a1_0) = true := bne_iff_ne.mpr c28
           by_cases c41 : y201.length < 3518437208883
           ·rw [if_pos c41] at H
            have LMc41 := Aside0.mk c41
            clear c41
            obtain ⟨y206, hy206⟩ : ∃ y_ : List (S81), y_ = (y201 ++ [(⟨(rd_T81 l0_1 x7_1).f0, (rd_T81 l0_1 x7_1).f1, (rd_T81 l0_1 x7_1).f2⟩ : S81)]) := ⟨_, rfl⟩
            replace H : (spec_l3Put.l0 kj14 true (wrap64 (x7_1 + 1)) a0_0 l0_1 a1_0 a1_1 a1_2 a0_0 y206) = some (r1, r2) := by first | (rw [hy206]; with_reducible exact H) | (have H2_ := (Option.bind_some _ _).symm.trans H; rw [hy206]; with_reducible exact H2_) | (have H2_ := (Option.bind_some _ _).symm.trans H; with_reducible exact H2_) | with_reducible exact H | (rw [hy206]; exact H) | exact H
            have Ny206 := Aside0.mk hy206
            clear hy206
            have H' := Aside0.mk H
            clear H
            have hnb42 := NB196_193.out
            have hnc42 := NB193_196.out
            have hnb43 := NB196_194.out
            have hnc43 := NB194_196.out
            have hnb44 := NB196_195.out
            have hnc44 := NB195_196.out
            have hcz45_0 : wc.cell? ⟨gb196, 0, none⟩ = some (.int .i64 a0_0) := (blk_cell BK196.out 0).trans rfl
            have hcz45_1 : wc.cell? ⟨gb196, 1, none⟩ = some (u197001) := (blk_cell BK196.out 1).trans rfl
            have hfz45_0 := blk_frozen BK196.out 0
            have hfz45_1 := blk_frozen BK196.out 1
            have hnb46 := NB194_193.out
            have hnc46 := NB193_194.out
            have hnb47 := NB194_195.out
            have hnc47 := NB195_194.out
            have hcz48_0 : wc.cell? ⟨gb194, 0, none⟩ = some (.int .i64 a1_0) := (blk_cell BK194.out 0).trans rfl
            have hcz48_1 : wc.cell? ⟨gb194, 1, none⟩ = some (.string a1_1) := (blk_cell BK194.out 1).trans rfl
            have hcz48_2 : wc.cell? ⟨gb194, 2, none⟩ = some (.string a1_2) := (blk_cell BK194.out 2).trans rfl
            have hfz48_0 := blk_frozen BK194.out 0
            have hfz48_1 := blk_frozen BK194.out 1
            have hfz48_2 := blk_frozen BK194.out 2
            try go_wp2_with (first | ((with_reducible refine gate_builtin (b := .append) (xs := #[.tmp 32, .tmp 34]) rfl ?_); at_builtin; refine Kd.R_append k81 (w0 := w) w.heap.size rfl (.tmp 32) (.tmp 34) 61 81 (.agg #[(.int .i64 0), (.string ⟨#[]⟩), (.string ⟨#[]⟩)]) 40 rfl Try.underlying61 info81 rfl (by decide) (by omega) u197001 x197001_1 (⟨a1_0, a1_1, a1_2⟩ : S81) [.int .i64 a1_0, .string a1_1, .string a1_2] (fun k_ => k_ ≠ gb194) (fun _ => False) rfl rfl ?aP (fun _ hk => hk.elim) ?aF ?aO ?aB ?aS ?aL ?_; (case aP => exact k81_mkM _ _ _ (⟨a1_0, a1_1, a1_2⟩ : S81)); (case aB => exact xbg); (case aF => exact (fun k_ hk => Kd.freshB (g := gb194) (o := .cells #[.int .i64 a1_0, .string a1_1, .string a1_2] 81 (0, 0)) xblk k_ hk)); (case aO => exact (by (with_reducible repeat (first | apply Kd.R_alloc | apply Kd.R_drewN | apply Kd.R_drew)); exact HO_197001.out)); (case aS => exact (below_size xbg)); (case aL => have := LMc25.out; omega); intro v202 w49 ho hb hg hat; rw [← Ny201.out] at ho; have n0_ := Aside0.mk (blk_grown (g := gb193) (o := .cells #[.int .i64 a0_0, .slice A0_1 l0_1.length c0_1] 63 (0, 0)) xblk hg (Kd.R_ne HO_197001.out BK193.out (by decide))); have n1_ := Aside0.mk (blk_grown (g := gb194) (o := .cells #[.int .i64 a1_0, .string a1_1, .string a1_2] 81 (0, 0)) xblk hg (Kd.R_away HO_197001.out (fun _ hk => hk))); have n2_ := Aside0.mk (blk_grown (g := gb195) (o := .cells #[.int .i64 0, .slice none 0 0] 63 (0, 0)) xblk hg (Kd.R_ne HO_197001.out BK195.out (by decide))); have n3_ := Aside0.mk (blk_grown (g := gb196) (o := .cells #[.int .i64 a0_0, u197001] 63 (0, 0)) xblk hg (Kd.R_ne HO_197001.out BK196.out (by decide))); have n4_ := Aside0.mk (hb); have n5_ := Aside0.mk (ho); clear BK193; clear BK194; clear BK195; clear BK196; clear HB; clear HO_197001; have BK193 := n0_; have BK194 := n1_; have BK195 := n2_; have BK196 := n3_; have HB := n4_; have HO203 := n5_; clear n0_ n1_ n2_ n3_ n4_ n5_; clear ho hb hg hat; obtain ⟨Ao50, co50, eo50⟩ := Kd.R_slice HO203.out; subst eo50; have hcz51_0 : w49.cell? ⟨gb196, 0, none⟩ = some (.int .i64 a0_0) := (blk_cell BK196.out 0).trans rfl; have hcz51_1 : w49.cell? ⟨gb196, 1, none⟩ = some (u197001) := (blk_cell BK196.out 1).trans rfl; have hfz51_0 := blk_frozen BK196.out 0; have hfz51_1 := blk_frozen BK196.out 1))
            have n0_ : Aside0 (Kd.R k81 81 (w49.setCell ⟨gb196, 1, none⟩ (.slice Ao50 y201.length co50)) w.heap.size (fun k_ => k_ ≠ gb194) (.slice Ao50 y201.length co50) y201) := ⟨by (with_reducible repeat (first | apply Kd.R_alloc | apply Kd.R_drewN | apply Kd.R_drew)); exact Kd.R_mono (Kd.R_far (p := ⟨gb196, 1, none⟩) (Kd.R_types HO203.out BK196.out (by decide)) (fun _ hk => hk.2) (.slice Ao50 y201.length co50)) (fun _ hk => hk.1)⟩
            have n1_ : Aside0 ((w49.setCell ⟨gb196, 1, none⟩ (.slice Ao50 y201.length co50)).heap[gb193]? = some (.cells #[.int .i64 a0_0, .slice A0_1 l0_1.length c0_1] 63 (0, 0))) := ⟨by (with_reducible repeat (first | refine blk_drewN ?_ _ | refine blk_drew ?_ | refine blk_alloc ?_ _)); refine blk_far ?_ NB193_196.out _; (with_reducible repeat (first | refine blk_drewN ?_ _ | refine blk_drew ?_ | refine blk_alloc ?_ _)); exact BK193.out⟩
            have n2_ : Aside0 ((w49.setCell ⟨gb196, 1, none⟩ (.slice Ao50 y201.length co50)).heap[gb194]? = some (.cells #[.int .i64 a1_0, .string a1_1, .string a1_2] 81 (0, 0))) := ⟨by (with_reducible repeat (first | refine blk_drewN ?_ _ | refine blk_drew ?_ | refine blk_alloc ?_ _)); refine blk_far ?_ NB194_196.out _; (with_reducible repeat (first | refine blk_drewN ?_ _ | refine blk_drew ?_ | refine blk_alloc ?_ _)); exact BK194.out⟩
            have n3_ : Aside0 ((w49.setCell ⟨gb196, 1, none⟩ (.slice Ao50 y201.length co50)).heap[gb195]? = some (.cells #[.int .i64 0, .slice none 0 0] 63 (0, 0))) := ⟨by (with_reducible repeat (first | refine blk_drewN ?_ _ | refine blk_drew ?_ | refine blk_alloc ?_ _)); refine blk_far ?_ NB195_196.out _; (with_reducible repeat (first | refine blk_drewN ?_ _ | refine blk_drew ?_ | refine blk_alloc ?_ _)); exact BK195.out⟩
            have n4_ : Aside0 ((w49.setCell ⟨gb196, 1, none⟩ (.slice Ao50 y201.length co50)).heap[gb196]? = some (.cells #[.int .i64 a0_0, .slice Ao50 y201.length co50] 63 (0, 0))) := ⟨by (with_reducible repeat (first | refine blk_drewN ?_ _ | refine blk_drew ?_ | refine blk_alloc ?_ _)); refine blk_put (cs := #[.int .i64 a0_0, u197001]) ?_ 1 _ rfl; (with_reducible repeat (first | refine blk_drewN ?_ _ | refine blk_drew ?_ | refine blk_alloc ?_ _)); exact BK196.out⟩
            have n5_ : Aside0 (Below w.heap.size w (w49.setCell ⟨gb196, 1, none⟩ (.slice Ao50 y201.length co50))) := ⟨xbg⟩
            (try clear HO203); (try clear BK193); (try clear BK194); (try clear BK195); (try clear BK196); (try clear HB)
            generalize (w49.setCell ⟨gb196, 1, none⟩ (.slice Ao50 y201.length co50)) = w52 at n0_ n1_ n2_ n3_ n4_ n5_ ⊢
            have HO203 := n0_
            have BK193 := n1_
            have BK194 := n2_
            have BK195 := n3_
            have BK196 := n4_
            have HB := n5_
            clear n0_ n1_ n2_ n3_ n4_ n5_
            replace HO203 := Aside0.mk (Kd.R_drew HO203.out)
            replace BK193 := Aside0.mk (blk_drew BK193.out)
            replace BK194 := Aside0.mk (blk_drew BK194.out)
            replace BK195 := Aside0.mk (blk_drew BK195.out)
            replace BK196 := Aside0.mk (blk_drew BK196.out)
            replace HB := Aside0.mk (below_drew1 HB.out)
            have p204 : 0 ≤ (x7_1 : Int) := of_decide_eq_true (by first | (with_reducible assumption) | assumption)
            have q204 : x7_1 < (l0_1.length : Int) := of_decide_eq_true (by first | (with_reducible assumption) | assumption)
            obtain ⟨ad204, e204, hx204_0, hx204_1, hx204_2⟩ := at_T81 HR0_1.out x7_1 p204 q204
            have hw204_2 := hx204_2
            have hw204_1 := hx204_1
            have hw204_0 := hx204_0
            cases e204
            replace hx204_0 := xce HB hx204_0
            replace hx204_1 := xce HB hx204_1
            replace hx204_2 := xce HB hx204_2
            replace p204 := eq_true p204
            replace q204 := eq_true q204
            refine start_ (n := 9) (S := fun w' => w'.cell? ⟨gb193, 0, none⟩ = some (.int .i64 a0_0) ∧ w'.cell? ⟨gb193, 1, none⟩ = some (.slice (some ad204) l0_1.length c0_1) ∧ w'.cell? ⟨gb194, 0, none⟩ = some (.int .i64 a1_0) ∧ w'.cell? ⟨gb194, 1, none⟩ = some (.string a1_1) ∧ w'.cell? ⟨gb194, 2, none⟩ = some (.string a1_2) ∧ w'.cell? (ad204.add ((x7_1).toNat * 3)) = some (.int .i64 ((rd_T81 l0_1 x7_1).f0)) ∧ w'.cell? ⟨(ad204.add ((x7_1).toNat * 3)).block, (ad204.add ((x7_1).toNat * 3)).off + 1, none⟩ = some (.string ((rd_T81 l0_1 x7_1).f1)) ∧ w'.cell? ⟨(ad204.add ((x7_1).toNat * 3)).block, (ad204.add ((x7_1).toNat * 3)).off + 2, none⟩ = some (.string ((rd_T81 l0_1 x7_1).f2))) (ds := []) #[false, false, false, false, false, false, false, false, false] (by kernel_rfl) rfl rfl ⟨(blk_cell BK193.out 0).trans rfl, (blk_cell BK193.out 1).trans rfl, (blk_cell BK194.out 0).trans rfl, (blk_cell BK194.out 1).trans rfl, (blk_cell BK194.out 2).trans rfl, (xce HB hw204_0), (xce HB hw204_1), (xce HB hw204_2)⟩ (fun hHeld => ?_); refine with_tabW spec_l3Put.tab9 spec_l3Put.bits9 (fun HT_ HW_ => ?_)
            generalize w52.drew = w53 at HO203 BK193 BK194 BK195 BK196 HB hx204_0 hx204_1 hx204_2 hHeld ⊢
            refine pv_ 0 37 (h := ?_)
            refine pv_ 2 39 (h := ?_)
            refine pv_ 6 43 (h := ?_)
            refine tk_ 1 38 (h := ?_)
            refine pv_ 3 40 (h := ?_)
            refine pv_ 4 41 (h := ?_)
            refine tk_ 5 42 (h := ?_)
            refine tk_ 7 44 (h := ?_)
            refine pv_ 8 45 (h := ?_)
            refine done_ (done_of HT_.out (by kernel_rfl)) ?_
            try go_wp2
            replace HO203 := Aside0.mk (Kd.R_drew HO203.out)
            replace BK193 := Aside0.mk (blk_drew BK193.out)
            replace BK194 := Aside0.mk (blk_drew BK194.out)
            replace BK195 := Aside0.mk (blk_drew BK195.out)
            replace BK196 := Aside0.mk (blk_drew BK196.out)
            replace HB := Aside0.mk (below_drew1 HB.out)
            have p205 : 0 ≤ (x7_1 : Int) := of_decide_eq_true (by first | (with_reducible assumption) | assumption)
            have q205 : x7_1 < (l0_1.length : Int) := of_decide_eq_true (by first | (with_reducible assumption) | assumption)
            obtain ⟨ad205, e205, hx205_0, hx205_1, hx205_2⟩ := at_T81 HR0_1.out x7_1 p205 q205
            have hw205_2 := hx205_2
            have hw205_1 := hx205_1
            have hw205_0 := hx205_0
            obtain rfl : ad204 = ad205 := (by injection e205)
            replace hx205_0 := xce HB hx205_0
            replace hx205_1 := xce HB hx205_1
            replace hx205_2 := xce HB hx205_2
            replace p205 := eq_true p205
            replace q205 := eq_true q205
            refine start_ (n := 11) (S := fun w' => w'.cell? ⟨gb196, 0, none⟩ = some (.int .i64 a0_0) ∧ w'.cell? ⟨gb196, 1, none⟩ = some (.slice Ao50 y201.length co50) ∧ w'.cell? ⟨gb193, 0, none⟩ = some (.int .i64 a0_0) ∧ w'.cell? ⟨gb193, 1, none⟩ = some (.slice (some ad204) l0_1.length c0_1) ∧ w'.cell? (ad204.add ((x7_1).toNat * 3)) = some (.int .i64 ((rd_T81 l0_1 x7_1).f0)) ∧ w'.cell? ⟨(ad204.add ((x7_1).toNat * 3)).block, (ad204.add ((x7_1).toNat * 3)).off + 1, none⟩ = some (.string ((rd_T81 l0_1 x7_1).f1)) ∧ w'.cell? ⟨(ad204.add ((x7_1).toNat * 3)).block, (ad204.add ((x7_1).toNat * 3)).off + 2, none⟩ = some (.string ((rd_T81 l0_1 x7_1).f2))) (ds := [10]) #[false, false, false, false, false, false, false, false, false, false, false] (by kernel_rfl) rfl rfl ⟨(blk_cell BK196.out 0).trans rfl, (blk_cell BK196.out 1).trans rfl, (blk_cell BK193.out 0).trans rfl, (blk_cell BK193.out 1).trans rfl, (xce HB hw205_0), (xce HB hw205_1), (xce HB hw205_2)⟩ (fun hHeld => ?_); refine with_tabW spec_l3Put.tab10 spec_l3Put.bits10 (fun HT_ HW_ => ?_)
            generalize w53.drew = w54 at HO203 BK193 BK194 BK195 BK196 HB hx205_0 hx205_1 hx205_2 hHeld ⊢
            refine pv_ 0 46 (h := ?_)
            refine pv_ 2 48 (h := ?_)
            refine pv_ 4 50 (h := ?_)
            refine tk_ 1 47 (h := ?_)
            refine tk_ 3 49 (h := ?_)
            refine pv_ 5 51 (h := ?_)
            refine tk_ 6 52 (h := ?_)
            refine on_ 7 53 (h := fun K hK => ?_)
            refine value_ (w1 := ?_) (v := ?_) (by rfl) rfl ?_ ?_
            rotate_left 2
            ·go_simp
             constructor
             ·rfl
             ·rfl
            refine hK.out _ _ ⟨(blk_cell (blk_alloc BK196.out _) 0).trans rfl, (blk_cell (blk_alloc BK196.out _) 1).trans rfl, (blk_cell (blk_alloc BK193.out _) 0).trans rfl, (blk_cell (blk_alloc BK193.out _) 1).trans rfl, (World.cell?_alloc_lt _ _ _ (World.block_lt_of_cell? _ _ ((xce HB hw205_0)))).trans ((xce HB hw205_0)), (World.cell?_alloc_lt _ _ _ (World.block_lt_of_cell? _ _ ((xce HB hw205_1)))).trans ((xce HB hw205_1)), (World.cell?_alloc_lt _ _ _ (World.block_lt_of_cell? _ _ ((xce HB hw205_2)))).trans ((xce HB hw205_2))⟩ (fun hHeld => ?_)
            clear hK K
            refine norm_ (a' := ?_) ?_ ?_
            rotate_left
            ·show Act.put _ (some 53) _ = _
             simp only [Act.put, List.setIfInBounds_toArray, List.set_cons_zero, List.set_cons_succ, i64_w, i32_w]
             rfl
            refine on_ 8 54 (h := fun K hK => ?_)
            refine Kd.R_append_step k81 (w0 := w) w.heap.size (by rfl) (.tmp 47) (.tmp 53) 61 81 (.agg #[(.int .i64 0), (.string ⟨#[]⟩), (.string ⟨#[]⟩)]) 40 rfl Try.underlying61 info81 rfl (by decide) (by omega) (.slice Ao50 y201.length co50) y201 (⟨(rd_T81 l0_1 x7_1).f0, (rd_T81 l0_1 x7_1).f1, (rd_T81 l0_1 x7_1).f2⟩ : S81) [.int .i64 ((rd_T81 l0_1 x7_1).f0), .string ((rd_T81 l0_1 x7_1).f1), .string ((rd_T81 l0_1 x7_1).f2)] (fun k_ => k_ ≠ gb194) (fun _ => False) rfl rfl ?aP (fun _ hk => hk.elim) ?aF ?aO ?aB ?aS ?aL ?_
            (case aP => exact k81_mkM _ _ _ (⟨(rd_T81 l0_1 x7_1).f0, (rd_T81 l0_1 x7_1).f1, (rd_T81 l0_1 x7_1).f2⟩ : S81))
            (case aB => exact xbg)
            (case aF => exact (fun k_ hk => Kd.freshB (g := gb194) (o := .cells #[.int .i64 a1_0, .string a1_1, .string a1_2] 81 (0, 0)) xblk k_ hk))
            (case aO => exact (by (with_reducible repeat (first | apply Kd.R_alloc | apply Kd.R_drewN | apply Kd.R_drew)); exact HO203.out))
            (case aS => exact (below_size xbg))
            (case aL => have := LMc41.out; omega)
            intro v207 w55 ho hb hg hat
            rw [← Ny206.out] at ho
            have n0_ := Aside0.mk (blk_grown (g := gb193) (o := .cells #[.int .i64 a0_0, .slice (some ad204) l0_1.length c0_1] 63 (0, 0)) xblk hg (Kd.R_ne HO203.out BK193.out (by decide)))
            have n1_ := Aside0.mk (blk_grown (g := gb194) (o := .cells #[.int .i64 a1_0, .string a1_1, .string a1_2] 81 (0, 0)) xblk hg (Kd.R_away HO203.out (fun _ hk => hk)))
            have n2_ := Aside0.mk (blk_grown (g := gb195) (o := .cells #[.int .i64 0, .slice none 0 0] 63 (0, 0)) xblk hg (Kd.R_ne HO203.out BK195.out (by decide)))
            have n3_ := Aside0.mk (blk_grown (g := gb196) (o := .cells #[.int .i64 a0_0, .slice Ao50 y201.length co50] 63 (0, 0)) xblk hg (Kd.R_ne HO203.out BK196.out (by decide)))
            have n4_ := Aside0.mk (hb)
            have n5_ := Aside0.mk (ho)
            clear BK193
            clear BK194
            clear BK195
            clear BK196
            clear HB
            clear HO203
            have BK193 := n0_
            have BK194 := n1_
            have BK195 := n2_
            have BK196 := n3_
            have HB := n4_
            have HO208 := n5_
            clear n0_ n1_ n2_ n3_ n4_ n5_
            clear ho hb hg hat
            obtain ⟨Ao56, co56, eo56⟩ := Kd.R_slice HO208.out
            (first | subst eo56 | (injection eo56 with f1_ f2_ f3_; have f4_ := f1_.symm; have f5_ := f3_.symm; clear f1_ f2_ f3_; subst f4_; subst f5_))
            refine hK.out _ _ ⟨(blk_cell BK196.out 0).trans rfl, (blk_cell BK196.out 1).trans rfl, (blk_cell BK193.out 0).trans rfl, (blk_cell BK193.out 1).trans rfl, (xce HB hw205_0), (xce HB hw205_1), (xce HB hw205_2)⟩ (fun hHeld => ?_)
            clear hK K
            refine norm_ (a' := ?_) ?_ ?_
            rotate_left
            ·show Act.put _ (some 54) _ = _
             simp only [Act.put, List.setIfInBounds_toArray, List.set_cons_zero, List.set_cons_succ, i64_w, i32_w]
             rfl
            refine pv_ 9 55 (h := ?_)
            refine last_ (i := 10) (N := none) #[true, true, true, true, true, true, true, true, true, true, true] rfl rfl (one_of HT_.out (by kernel_rfl)) (by decide) (fun K hK => ?_)
            have hs57 : w55.cell? ⟨gb196, 1, none⟩ = some (.slice Ao50 y201.length co50) := (blk_cell BK196.out 1).trans rfl
            have hfs57 := blk_frozen BK196.out 1
            have hns57_0 := NB193_196.out
            have hns57_1 := NB194_196.out
            have hns57_2 := NB195_196.out
            have hms57_0 := NB196_193.out
            have hms57_1 := NB196_194.out
            have hms57_2 := NB196_195.out
            refine skip_ (w1 := ?_) (by rfl) rfl ?_ ?_
            rotate_left
            ·go_simp
             rfl
            refine hK.out _ _ ?_
            clear hK K
            refine done_ (done_of HT_.out (by kernel_rfl)) ?_
            try go_wp2
            go_roundg kj14
            case measure => have := HK1.out; have := HJ14.out; omega
            case rel => exact ⟨(true), (wrap64 (x7_1 + 1)), (y206), (.slice Ao56 y206.length co56), (by first | rfl | (simp; done) | (simp [*]; done)), (by first | rfl | (simp; done) | (simp [*]; done)), H', ⟨by have := HK1.out; have := HJ14.out; omega⟩, ⟨by (with_reducible repeat (first | apply Kd.R_alloc | apply Kd.R_drewN | apply Kd.R_drew)); exact Kd.R_mono (Kd.R_far (p := ⟨gb196, 1, none⟩) (Kd.R_types HO208.out BK196.out (by decide)) (fun _ hk => hk.2) (.slice Ao56 y206.length co56)) (fun _ hk => hk.1)⟩, ⟨by (with_reducible repeat (first | refine blk_drewN ?_ _ | refine blk_drew ?_ | refine blk_alloc ?_ _)); refine blk_far ?_ NB193_196.out _; (with_reducible repeat (first | refine blk_drewN ?_ _ | refine blk_drew ?_ | refine blk_alloc ?_ _)); exact BK193.out⟩, ⟨by (with_reducible repeat (first | refine blk_drewN ?_ _ | refine blk_drew ?_ | refine blk_alloc ?_ _)); refine blk_far ?_ NB194_196.out _; (with_reducible repeat (first | refine blk_drewN ?_ _ | refine blk_drew ?_ | refine blk_alloc ?_ _)); exact BK194.out⟩, ⟨by (with_reducible repeat (first | refine blk_drewN ?_ _ | refine blk_drew ?_ | refine blk_alloc ?_ _)); refine blk_far ?_ NB195_196.out _; (with_reducible repeat (first | refine blk_drewN ?_ _ | refine blk_drew ?_ | refine blk_alloc ?_ _)); exact BK195.out⟩, ⟨by (with_reducible repeat (first | refine blk_drewN ?_ _ | refine blk_drew ?_ | refine blk_alloc ?_ _)); refine blk_put (cs := #[.int .i64 a0_0, .slice Ao50 y201.length co50]) ?_ 1 _ rfl; (with_reducible repeat (first | refine blk_drewN ?_ _ | refine blk_drew ?_ | refine blk_alloc ?_ _)); exact BK196.out⟩, ⟨xbg⟩⟩
           ·rw [if_neg c41] at H
            exact absurd H (by simp)
         ·rw [if_neg c27] at H
          exact absurd H (by simp)
        ·rw [if_neg c26] at H
         exact absurd H (by simp)
       ·rw [if_neg c25] at H
        exact absurd H (by simp)
      ·replace c24 := Bool.eq_false_iff.mpr c24
       subst c24
       have H1 : (if 0 ≤ x7_1 then (if x7_1 < (l0_1.length : Int) then (if ((rd_T81 l0_1 x7_1).f0) = a1_0 then (spec_l3Put.l0 kj14 x6_1 (wrap64 (x7_1 + 1)) a0_0 l0_1 a1_0 a1_1 a1_2 a0_0 x197001_1) else (if x197001_1.length < 3518437208883 then (spec_l3Put.l0 kj14 x6_1 (wrap64 (x7_1 + 1)) a0_0 l0_1 a1_0 a1_1 a1_2 a0_0 (x197001_1 ++ [(⟨(rd_T81 l0_1 x7_1).f0, (rd_T81 l0_1 x7_1).f1, (rd_T81 l0_1 x7_1).f2⟩ : S81)])) else (none))) else (none)) else (none)) = some (r1, r2) := by rw [if_neg (show ¬ (false = true) by decide)] at H; exact H
       clear H
       have H := H1
       clear H1
       by_cases c58 : 0 ≤ x7_1
       ·rw [if_pos c58] at H
        have c58b0 : decide (0 ≤ x7_1) = true := decide_eq_true c58
        clear c58
        by_cases c59 : x7_1 < (l0_1.length : Int)
        ·rw [if_pos c59] at H
         have c59b0 : decide (x7_1 < (l0_1.length : Int)) = true := decide_eq_true c59
         clear c59
         by_cases c60 : ((rd_T81 l0_1 x7_1).f0) = a1_0
         ·rw [if_pos c60] at H
          have c60b0 : (((rd_T81 l0_1 x7_1).f0) == a1_0) = true := beq_iff_eq.mpr c60
          have c60b1 : (((rd_T81 l0_1 x7_1).f0) != a1_0) = false := bne_eq_false_iff_eq.mpr c60
          clear c60
          have H' := Aside0.mk H
          clear H
          try go_wp2
          replace HO_197001 := Aside0.mk (Kd.R_drew HO_197001.out)
          replace BK193 := Aside0.mk (blk_drew BK193.out)
          replace BK194 := Aside0.mk (blk_drew BK194.out)
          replace BK195 := Aside0.mk (blk_drew BK195.out)
          replace BK196 := Aside0.mk (blk_drew BK196.out)
          replace HB := Aside0.mk (below_drew1 HB.out)
          have p209 : 0 ≤ (x7_1 : Int) := of_decide_eq_true (by first | (with_reducible assumption) | assumption)
          have q209 : x7_1 < (l0_1.length : Int) := of_decide_eq_true (by first | (with_reducible assumption) | assumption)
          obtain ⟨ad209, e209, hx209_0, hx209_1, hx209_2⟩ := at_T81 HR0_1.out x7_1 p209 q209
          have hw209_2 := hx209_2
          have hw209_1 := hx209_1
          have hw209_0 := hx209_0
          cases e209
          replace hx209_0 := xce HB hx209_0
          replace hx209_1 := xce HB hx209_1
          replace hx209_2 := xce HB hx209_2
          replace p209 := eq_true p209
          replace q209 := eq_true q209
          refine start_ (n := 9) (S := fun w' => w'.cell? ⟨gb193, 0, none⟩ = some (.int .i64 a0_0) ∧ w'.cell? ⟨gb193, 1, none⟩ = some (.slice (some ad209) l0_1.length c0_1) ∧ w'.cell? ⟨gb194, 0, none⟩ = some (.int .i64 a1_0) ∧ w'.cell? ⟨gb194, 1, none⟩ = some (.string a1_1) ∧ w'.cell? ⟨gb194, 2, none⟩ = some (.string a1_2) ∧ w'.cell? (ad209.add ((x7_1).toNat * 3)) = some (.int .i64 ((rd_T81 l0_1 x7_1).f0)) ∧ w'.cell? ⟨(ad209.add ((x7_1).toNat * 3)).block, (ad209.add ((x7_1).toNat * 3)).off + 1, none⟩ = some (.string ((rd_T81 l0_1 x7_1).f1)) ∧ w'.cell? ⟨(ad209.add ((x7_1).toNat * 3)).block, (ad209.add ((x7_1).toNat * 3)).off + 2, none⟩ = some (.string ((rd_T81 l0_1 x7_1).f2))) (ds := []) #[false, false, false, false, false, false, false, false, false] (by kernel_rfl) rfl rfl ⟨(blk_cell BK193.out 0).trans rfl, (blk_cell BK193.out 1).trans rfl, (blk_cell BK194.out 0).trans rfl, (blk_cell BK194.out 1).trans rfl, (blk_cell BK194.out 2).trans rfl, (xce HB hw209_0), (xce HB hw209_1), (xce HB hw209_2)⟩ (fun hHeld => ?_); refine with_tabW spec_l3Put.tab9 spec_l3Put.bits9 (fun HT_ HW_ => ?_)
          generalize wc.drew = w61 at HO_197001 BK193 BK194 BK195 BK196 HB hx209_0 hx209_1 hx209_2 hHeld ⊢
          refine pv_ 0 37 (h := ?_)
          refine pv_ 2 39 (h := ?_)
          refine pv_ 6 43 (h := ?_)
          refine tk_ 1 38 (h := ?_)
          refine pv_ 3 40 (h := ?_)
          refine pv_ 4 41 (h := ?_)
          refine tk_ 5 42 (h := ?_)
          refine tk_ 7 44 (h := ?_)
          refine pv_ 8 45 (h := ?_)
          refine done_ (done_of HT_.out (by kernel_rfl)) ?_
          try go_wp2
          go_roundg kj14
          case measure => have := HK1.out; have := HJ14.out; omega
          case rel => exact ⟨(x6_1), (wrap64 (x7_1 + 1)), (x197001_1), (u197001), (by first | rfl | (simp; done) | (simp [*]; done)), (by first | rfl | (simp; done) | (simp [*]; done)), H', ⟨by have := HK1.out; have := HJ14.out; omega⟩, ⟨by (with_reducible repeat (first | apply Kd.R_alloc | apply Kd.R_drewN | apply Kd.R_drew)); exact HO_197001.out⟩, ⟨xblk⟩, ⟨xblk⟩, ⟨xblk⟩, ⟨xblk⟩, ⟨xbg⟩⟩
         ·rw [if_neg c60] at H
          have c60b0 : (((rd_T81 l0_1 x7_1).f0) == a1_0) = false := beq_eq_false_iff_ne.mpr c60
          have c60b1 : (((rd_T81 l0_1 x7_1).f0) != a1_0) = true := bne_iff_ne.mpr c60
          by_cases c62 : x197001_1.length < 3518437208883
          ·rw [if_pos c62] at H
           have LMc62 := Aside0.mk c62
           clear c62
           obtain ⟨y211, hy211⟩ : ∃ y_ : List (S81), y_ = (x197001_1 ++ [(⟨(rd_T81 l0_1 x7_1).f0, (rd_T81 l0_1 x7_1).f1, (rd_T81 l0_1 x7_1).f2⟩ : S81)]) := ⟨_, rfl⟩
           replace H : (spec_l3Put.l0 kj14 x6_1 (wrap64 (x7_1 + 1)) a0_0 l0_1 a1_0 a1_1 a1_2 a0_0 y211) = some (r1, r2) := by first | (rw [hy211]; with_reducible exact H) | (have H2_ := (Option.bind_some _ _).symm.trans H; rw [hy211]; with_reducible exact H2_) | (have H2_ := (Option.bind_some _ _).symm.trans H; with_reducible exact H2_) | with_reducible exact H | (rw [hy211]; exact H) | exact H
           have Ny211 := Aside0.mk hy211
           clear hy211
           have H' := Aside0.mk H
           clear H
           try go_wp2
           replace HO_197001 := Aside0.mk (Kd.R_drew HO_197001.out)
           replace BK193 := Aside0.mk (blk_drew BK193.out)
           replace BK194 := Aside0.mk (blk_drew BK194.out)
           replace BK195 := Aside0.mk (blk_drew BK195.out)
           replace BK196 := Aside0.mk (blk_drew BK196.out)
           replace HB := Aside0.mk (below_drew1 HB.out)
           have p209 : 0 ≤ (x7_1 : Int) := of_decide_eq_true (by first | (with_reducible assumption) | assumption)
           have q209 : x7_1 < (l0_1.length : Int) := of_decide_eq_true (by first | (with_reducible assumption) | assumption)
           obtain ⟨ad209, e209, hx209_0, hx209_1, hx209_2⟩ := at_T81 HR0_1.out x7_1 p209 q209
           have hw209_2 := hx209_2
           have hw209_1 := hx209_1
           have hw209_0 := hx209_0
           cases e209
           replace hx209_0 := xce HB hx209_0
           replace hx209_1 := xce HB hx209_1
           replace hx209_2 := xce HB hx209_2
           replace p209 := eq_true p209
           replace q209 := eq_true q209
           refine start_ (n := 9) (S := fun w' => w'.cell? ⟨gb193, 0, none⟩ = some (.int .i64 a0_0) ∧ w'.cell? ⟨gb193, 1, none⟩ = some (.slice (some ad209) l0_1.length c0_1) ∧ w'.cell? ⟨gb194, 0, none⟩ = some (.int .i64 a1_0) ∧ w'.cell? ⟨gb194, 1, none⟩ = some (.string a1_1) ∧ w'.cell? ⟨gb194, 2, none⟩ = some (.string a1_2) ∧ w'.cell? (ad209.add ((x7_1).toNat * 3)) = some (.int .i64 ((rd_T81 l0_1 x7_1).f0)) ∧ w'.cell? ⟨(ad209.add ((x7_1).toNat * 3)).block, (ad209.add ((x7_1).toNat * 3)).off + 1, none⟩ = some (.string ((rd_T81 l0_1 x7_1).f1)) ∧ w'.cell? ⟨(ad209.add ((x7_1).toNat * 3)).block, (ad209.add ((x7_1).toNat * 3)).off + 2, none⟩ = some (.string ((rd_T81 l0_1 x7_1).f2))) (ds := []) #[false, false, false, false, false, false, false, false, false] (by kernel_rfl) rfl rfl ⟨(blk_cell BK193.out 0).trans rfl, (blk_cell BK193.out 1).trans rfl, (blk_cell BK194.out 0).trans rfl, (blk_cell BK194.out 1).trans rfl, (blk_cell BK194.out 2).trans rfl, (xce HB hw209_0), (xce HB hw209_1), (xce HB hw209_2)⟩ (fun hHeld => ?_); refine with_tabW spec_l3Put.tab9 spec_l3Put.bits9 (fun HT_ HW_ => ?_)
           generalize wc.drew = w63 at HO_197001 BK193 BK194 BK195 BK196 HB hx209_0 hx209_1 hx209_2 hHeld ⊢
           refine pv_ 0 37 (h := ?_)
           refine pv_ 2 39 (h := ?_)
           refine pv_ 6 43 (h := ?_)
           refine tk_ 1 38 (h := ?_)
           refine pv_ 3 40 (h := ?_)
           refine pv_ 4 41 (h := ?_)
           refine tk_ 5 42 (h := ?_)
           refine tk_ 7 44 (h := ?_)
           refine pv_ 8 45 (h := ?_)
           refine done_ (done_of HT_.out (by kernel_rfl)) ?_
           try go_wp2
           replace HO_197001 := Aside0.mk (Kd.R_drew HO_197001.out)
           replace BK193 := Aside0.mk (blk_drew BK193.out)
           replace BK194 := Aside0.mk (blk_drew BK194.out)
           replace BK195 := Aside0.mk (blk_drew BK195.out)
           replace BK196 := Aside0.mk (blk_drew BK196.out)
           replace HB := Aside0.mk (below_drew1 HB.out)
           have p210 : 0 ≤ (x7_1 : Int) := of_decide_eq_true (by first | (with_reducible assumption) | assumption)
           have q210 : x7_1 < (l0_1.length : Int) := of_decide_eq_true (by first | (with_reducible assumption) | assumption)
           obtain ⟨ad210, e210, hx210_0, hx210_1, hx210_2⟩ := at_T81 HR0_1.out x7_1 p210 q210
           have hw210_2 := hx210_2
           have hw210_1 := hx210_1
           have hw210_0 := hx210_0
           obtain rfl : ad209 = ad210 := (by injection e210)
           replace hx210_0 := xce HB hx210_0
           replace hx210_1 := xce HB hx210_1
           replace hx210_2 := xce HB hx210_2
           replace p210 := eq_true p210
           replace q210 := eq_true q210
           refine start_ (n := 11) (S := fun w' => w'.cell? ⟨gb196, 0, none⟩ = some (.int .i64 a0_0) ∧ w'.cell? ⟨gb196, 1, none⟩ = some (u197001) ∧ w'.cell? ⟨gb193, 0, none⟩ = some (.int .i64 a0_0) ∧ w'.cell? ⟨gb193, 1, none⟩ = some (.slice (some ad209) l0_1.length c0_1) ∧ w'.cell? (ad209.add ((x7_1).toNat * 3)) = some (.int .i64 ((rd_T81 l0_1 x7_1).f0)) ∧ w'.cell? ⟨(ad209.add ((x7_1).toNat * 3)).block, (ad209.add ((x7_1).toNat * 3)).off + 1, none⟩ = some (.string ((rd_T81 l0_1 x7_1).f1)) ∧ w'.cell? ⟨(ad209.add ((x7_1).toNat * 3)).block, (ad209.add ((x7_1).toNat * 3)).off + 2, none⟩ = some (.string ((rd_T81 l0_1 x7_1).f2))) (ds := [10]) #[false, false, false, false, false, false, false, false, false, false, false] (by kernel_rfl) rfl rfl ⟨(blk_cell BK196.out 0).trans rfl, (blk_cell BK196.out 1).trans rfl, (blk_cell BK193.out 0).trans rfl, (blk_cell BK193.out 1).trans rfl, (xce HB hw210_0), (xce HB hw210_1), (xce HB hw210_2)⟩ (fun hHeld => ?_); refine with_tabW spec_l3Put.tab10 spec_l3Put.bits10 (fun HT_ HW_ => ?_)
           generalize w63.drew = w64 at HO_197001 BK193 BK194 BK195 BK196 HB hx210_0 hx210_1 hx210_2 hHeld ⊢
           refine pv_ 0 46 (h := ?_)
           refine pv_ 2 48 (h := ?_)
           refine pv_ 4 50 (h := ?_)
           refine tk_ 1 47 (h := ?_)
           refine tk_ 3 49 (h := ?_)
           refine pv_ 5 51 (h := ?_)
           refine tk_ 6 52 (h := ?_)
           refine on_ 7 53 (h := fun K hK => ?_)
           refine value_ (w1 := ?_) (v := ?_) (by rfl) rfl ?_ ?_
           rotate_left 2
           ·go_simp
            constructor
            ·rfl
            ·rfl
           refine hK.out _ _ ⟨(blk_cell (blk_alloc BK196.out _) 0).trans rfl, (blk_cell (blk_alloc BK196.out _) 1).trans rfl, (blk_cell (blk_alloc BK193.out _) 0).trans rfl, (blk_cell (blk_alloc BK193.out _) 1).trans rfl, (World.cell?_alloc_lt _ _ _ (World.block_lt_of_cell? _ _ ((xce HB hw210_0)))).trans ((xce HB hw210_0)), (World.cell?_alloc_lt _ _ _ (World.block_lt_of_cell? _ _ ((xce HB hw210_1)))).trans ((xce HB hw210_1)), (World.cell?_alloc_lt _ _ _ (World.block_lt_of_cell? _ _ ((xce HB hw210_2)))).trans ((xce HB hw210_2))⟩ (fun hHeld => ?_)
           clear hK K
           refine norm_ (a' := ?_) ?_ ?_
           rotate_left
           ·show Act.put _ (some 53) _ = _
            simp only [Act.put, List.setIfInBounds_toArray, List.set_cons_zero, List.set_cons_succ, i64_w, i32_w]
            rfl
           refine on_ 8 54 (h := fun K hK => ?_)
           refine Kd.R_append_step k81 (w0 := w) w.heap.size (by rfl) (.tmp 47) (.tmp 53) 61 81 (.agg #[(.int .i64 0), (.string ⟨#[]⟩), (.string ⟨#[]⟩)]) 40 rfl Try.underlying61 info81 rfl (by decide) (by omega) u197001 x197001_1 (⟨(rd_T81 l0_1 x7_1).f0, (rd_T81 l0_1 x7_1).f1, (rd_T81 l0_1 x7_1).f2⟩ : S81) [.int .i64 ((rd_T81 l0_1 x7_1).f0), .string ((rd_T81 l0_1 x7_1).f1), .string ((rd_T81 l0_1 x7_1).f2)] (fun k_ => k_ ≠ gb194) (fun _ => False) rfl rfl ?aP (fun _ hk => hk.elim) ?aF ?aO ?aB ?aS ?aL ?_
           (case aP => exact k81_mkM _ _ _ (⟨(rd_T81 l0_1 x7_1).f0, (rd_T81 l0_1 x7_1).f1, (rd_T81 l0_1 x7_1).f2⟩ : S81))
           (case aB => exact xbg)
           (case aF => exact (fun k_ hk => Kd.freshB (g := gb194) (o := .cells #[.int .i64 a1_0, .string a1_1, .string a1_2] 81 (0, 0)) xblk k_ hk))
           (case aO => exact (by (with_reducible repeat (first | apply Kd.R_alloc | apply Kd.R_drewN | apply Kd.R_drew)); exact HO_197001.out))
           (case aS => exact (below_size xbg))
           (case aL => have := LMc62.out; omega)
           intro v212 w65 ho hb hg hat
           rw [← Ny211.out] at ho
           have n0_ := Aside0.mk (blk_grown (g := gb193) (o := .cells #[.int .i64 a0_0, .slice (some ad209) l0_1.length c0_1] 63 (0, 0)) xblk hg (Kd.R_ne HO_197001.out BK193.out (by decide)))
           have n1_ := Aside0.mk (blk_grown (g := gb194) (o := .cells #[.int .i64 a1_0, .string a1_1, .string a1_2] 81 (0, 0)) xblk hg (Kd.R_away HO_197001.out (fun _ hk => hk)))
           have n2_ := Aside0.mk (blk_grown (g := gb195) (o := .cells #[.int .i64 0, .slice none 0 0] 63 (0, 0)) xblk hg (Kd.R_ne HO_197001.out BK195.out (by decide)))
           have n3_ := Aside0.mk (blk_grown (g := gb196) (o := .cells #[.int .i64 a0_0, u197001] 63 (0, 0)) xblk hg (Kd.R_ne HO_197001.out BK196.out (by decide)))
           have n4_ := Aside0.mk (hb)
           have n5_ := Aside0.mk (ho)
           clear BK193
           clear BK194
           clear BK195
           clear BK196
           clear HB
           clear HO_197001
           have BK193 := n0_
           have BK194 := n1_
           have BK195 := n2_
           have BK196 := n3_
           have HB := n4_
           have HO213 := n5_
           clear n0_ n1_ n2_ n3_ n4_ n5_
           clear ho hb hg hat
           obtain ⟨Ao66, co66, eo66⟩ := Kd.R_slice HO213.out
           (first | subst eo66 | (injection eo66 with f1_ f2_ f3_; have f4_ := f1_.symm; have f5_ := f3_.symm; clear f1_ f2_ f3_; subst f4_; subst f5_))
           refine hK.out _ _ ⟨(blk_cell BK196.out 0).trans rfl, (blk_cell BK196.out 1).trans rfl, (blk_cell BK193.out 0).trans rfl, (blk_cell BK193.out 1).trans rfl, (xce HB hw210_0), (xce HB hw210_1), (xce HB hw210_2)⟩ (fun hHeld => ?_)
           clear hK K
           refine norm_ (a' := ?_) ?_ ?_
           rotate_left
           ·show Act.put _ (some 54) _ = _
            simp only [Act.put, List.setIfInBounds_toArray, List.set_cons_zero, List.set_cons_succ, i64_w, i32_w]
            rfl
           refine pv_ 9 55 (h := ?_)
           refine last_ (i := 10) (N := none) #[true, true, true, true, true, true, true, true, true, true, true] rfl rfl (one_of HT_.out (by kernel_rfl)) (by decide) (fun K hK => ?_)
           have hs67 : w65.cell? ⟨gb196, 1, none⟩ = some (u197001) := (blk_cell BK196.out 1).trans rfl
           have hfs67 := blk_frozen BK196.out 1
           have hns67_0 := NB193_196.out
           have hns67_1 := NB194_196.out
           have hns67_2 := NB195_196.out
           have hms67_0 := NB196_193.out
           have hms67_1 := NB196_194.out
           have hms67_2 := NB196_195.out
           refine skip_ (w1 := ?_) (by rfl) rfl ?_ ?_
           rotate_left
           ·go_simp
            rfl
           refine hK.out _ _ ?_
           clear hK K
           refine done_ (done_of HT_.out (by kernel_rfl)) ?_
           try go_wp2
           go_roundg kj14
           case measure => have := HK1.out; have := HJ14.out; omega
           case rel => exact ⟨(x6_1), (wrap64 (x7_1 + 1)), (y211), (.slice Ao66 y211.length co66), (by first | rfl | (simp; done) | (simp [*]; done)), (by first | rfl | (simp; done) | (simp [*]; done)), H', ⟨by have := HK1.out; have := HJ14.out; omega⟩, ⟨by (with_reducible repeat (first | apply Kd.R_alloc | apply Kd.R_drewN | apply Kd.R_drew)); exact Kd.R_mono (Kd.R_far (p := ⟨gb196, 1, none⟩) (Kd.R_types HO213.out BK196.out (by decide)) (fun _ hk => hk.2) (.slice Ao66 y211.length co66)) (fun _ hk => hk.1)⟩, ⟨by (with_reducible repeat (first | refine blk_drewN ?_ _ | refine blk_drew ?_ | refine blk_alloc ?_ _)); refine blk_far ?_ NB193_196.out _; (with_reducible repeat (first | refine blk_drewN ?_ _ | refine blk_drew ?_ | refine blk_alloc ?_ _)); exact BK193.out⟩, ⟨by (with_reducible repeat (first | refine blk_drewN ?_ _ | refine blk_drew ?_ | refine blk_alloc ?_ _)); refine blk_far ?_ NB194_196.out _; (with_reducible repeat (first | refine blk_drewN ?_ _ | refine blk_drew ?_ | refine blk_alloc ?_ _)); exact BK194.out⟩, ⟨by (with_reducible repeat (first | refine blk_drewN ?_ _ | refine blk_drew ?_ | refine blk_alloc ?_ _)); refine blk_far ?_ NB195_196.out _; (with_reducible repeat (first | refine blk_drewN ?_ _ | refine blk_drew ?_ | refine blk_alloc ?_ _)); exact BK195.out⟩, ⟨by (with_reducible repeat (first | refine blk_drewN ?_ _ | refine blk_drew ?_ | refine blk_alloc ?_ _)); refine blk_put (cs := #[.int .i64 a0_0, u197001]) ?_ 1 _ rfl; (with_reducible repeat (first | refine blk_drewN ?_ _ | refine blk_drew ?_ | refine blk_alloc ?_ _)); exact BK196.out⟩, ⟨xbg⟩⟩
          ·rw [if_neg c62] at H
           exact absurd H (by simp)
        ·rw [if_neg c59] at H
         exact absurd H (by simp)
       ·rw [if_neg c58] at H
        exact absurd H (by simp)
   ·rw [if_neg c14] at H
    have c14b0 : decide (x7_1 < (l0_1.length : Int)) = false := decide_eq_false c14
    clear c14
    by_cases c68 : x6_1 = true
    ·subst c68
     have H1 : (some (a0_0, x197001_1)) = some (r1, r2) := by rw [if_pos rfl] at H; exact H
     clear H
     have H := H1
     clear H1
     simp only [Option.some.injEq, Prod.mk.injEq] at H
     obtain ⟨rfl, rfl⟩ := H
     have hnb69 := NB193_194.out
     have hnc69 := NB194_193.out
     have hnb70 := NB193_195.out
     have hnc70 := NB195_193.out
     have hnb71 := NB193_196.out
     have hnc71 := NB196_193.out
     have hcz72_0 : wr.cell? ⟨gb193, 0, none⟩ = some (.int .i64 a0_0) := (blk_cell BK193.out 0).trans rfl
     have hcz72_1 : wr.cell? ⟨gb193, 1, none⟩ = some (.slice A0_1 l0_1.length c0_1) := (blk_cell BK193.out 1).trans rfl
     have hfz72_0 := blk_frozen BK193.out 0
     have hfz72_1 := blk_frozen BK193.out 1
     have hnb73 := NB196_194.out
     have hnc73 := NB194_196.out
     have hnb74 := NB196_195.out
     have hnc74 := NB195_196.out
     have hcz75_0 : wr.cell? ⟨gb196, 0, none⟩ = some (.int .i64 a0_0) := (blk_cell BK196.out 0).trans rfl
     have hcz75_1 : wr.cell? ⟨gb196, 1, none⟩ = some (u197001) := (blk_cell BK196.out 1).trans rfl
     have hfz75_0 := blk_frozen BK196.out 0
     have hfz75_1 := blk_frozen BK196.out 1
     have hnb76 := NB195_194.out
     have hnc76 := NB194_195.out
     have hcz77_0 : wr.cell? ⟨gb195, 0, none⟩ = some (.int .i64 0) := (blk_cell BK195.out 0).trans rfl
     have hcz77_1 : wr.cell? ⟨gb195, 1, none⟩ = some (.slice none 0 0) := (blk_cell BK195.out 1).trans rfl
     have hfz77_0 := blk_frozen BK195.out 0
     have hfz77_1 := blk_frozen BK195.out 1
     obtain ⟨Ao78, co78, eo78⟩ := Kd.R_slice HO_197001.out
     subst eo78
     go_wp2
     refine bodyPost_ret (results_cell_row rfl _ _ gb195 63 #[.int .i64 a0_0, .slice Ao78 x197001_1.length co78] (0, 0) _ rfl (by (with_reducible repeat (first | refine blk_drewN ?_ _ | refine blk_drew ?_ | refine blk_alloc ?_ _)); refine blk_put (cs := #[.int .i64 a0_0, .slice none 0 0]) ?_ 1 _ rfl; (with_reducible repeat (first | refine blk_drewN ?_ _ | refine blk_drew ?_ | refine blk_alloc ?_ _)); refine blk_put (cs := #[.int .i64 0, .slice none 0 0]) ?_ 0 _ rfl; (with_reducible repeat (first | refine blk_drewN ?_ _ | refine blk_drew ?_ | refine blk_alloc ?_ _)); exact BK195.out) Try.underlying63 rfl (by kernel_rfl)) rfl ?_
     exact ⟨_, by first | rfl | (simp [errW_none, errW_some] <;> rfl) | (simp [*, errW_none, errW_some] <;> rfl), by (with_reducible repeat (first | apply Kd.R_alloc | apply Kd.R_drewN | apply Kd.R_drew)); exact Kd.R_mono (Kd.R_far (p := ⟨gb195, 1, none⟩) (Kd.R_far (p := ⟨gb195, 0, none⟩) (Kd.R_types HO_197001.out BK195.out (by decide)) (fun _ hk => hk.2) (.int .i64 a0_0)) (fun _ hk => hk.2) (.slice Ao78 x197001_1.length co78)) (fun _ hk => trivial), xbg⟩
    ·replace c68 := Bool.eq_false_iff.mpr c68
     subst c68
     have H1 : (if x197001_1.length < 3518437208883 then (some (a0_0, (x197001_1 ++ [(⟨a1_0, a1_1, a1_2⟩ : S81)]))) else (none)) = some (r1, r2) := by rw [if_neg (show ¬ (false = true) by decide)] at H; exact H
     clear H
     have H := H1
     clear H1
     by_cases c79 : x197001_1.length < 3518437208883
     ·rw [if_pos c79] at H
      have LMc79 := Aside0.mk c79
      clear c79
      obtain ⟨y197, hy197⟩ : ∃ y_ : List (S81), y_ = (x197001_1 ++ [(⟨a1_0, a1_1, a1_2⟩ : S81)]) := ⟨_, rfl⟩
      replace H : (some (a0_0, y197)) = some (r1, r2) := by first | (rw [hy197]; with_reducible exact H) | (have H2_ := (Option.bind_some _ _).symm.trans H; rw [hy197]; with_reducible exact H2_) | (have H2_ := (Option.bind_some _ _).symm.trans H; with_reducible exact H2_) | with_reducible exact H | (rw [hy197]; exact H) | exact H
      have Ny197 := Aside0.mk hy197
      clear hy197
      simp only [Option.some.injEq, Prod.mk.injEq] at H
      obtain ⟨rfl, rfl⟩ := H
      have hnb80 := NB193_194.out
      have hnc80 := NB194_193.out
      have hnb81 := NB193_195.out
      have hnc81 := NB195_193.out
      have hnb82 := NB193_196.out
      have hnc82 := NB196_193.out
      have hcz83_0 : wr.cell? ⟨gb193, 0, none⟩ = some (.int .i64 a0_0) := (blk_cell BK193.out 0).trans rfl
      have hcz83_1 : wr.cell? ⟨gb193, 1, none⟩ = some (.slice A0_1 l0_1.length c0_1) := (blk_cell BK193.out 1).trans rfl
      have hfz83_0 := blk_frozen BK193.out 0
      have hfz83_1 := blk_frozen BK193.out 1
      have hnb84 := NB196_194.out
      have hnc84 := NB194_196.out
      have hnb85 := NB196_195.out
      have hnc85 := NB195_196.out
      have hcz86_0 : wr.cell? ⟨gb196, 0, none⟩ = some (.int .i64 a0_0) := (blk_cell BK196.out 0).trans rfl
      have hcz86_1 : wr.cell? ⟨gb196, 1, none⟩ = some (u197001) := (blk_cell BK196.out 1).trans rfl
      have hfz86_0 := blk_frozen BK196.out 0
      have hfz86_1 := blk_frozen BK196.out 1
      have hnb87 := NB194_195.out
      have hnc87 := NB195_194.out
      have hcz88_0 : wr.cell? ⟨gb194, 0, none⟩ = some (.int .i64 a1_0) := (blk_cell BK194.out 0).trans rfl
      have hcz88_1 : wr.cell? ⟨gb194, 1, none⟩ = some (.string a1_1) := (blk_cell BK194.out 1).trans rfl
      have hcz88_2 : wr.cell? ⟨gb194, 2, none⟩ = some (.string a1_2) := (blk_cell BK194.out 2).trans rfl
      have hfz88_0 := blk_frozen BK194.out 0
      have hfz88_1 := blk_frozen BK194.out 1
      have hfz88_2 := blk_frozen BK194.out 2
      go_wp2_with (first | ((with_reducible refine gate_builtin (b := .append) (xs := #[.tmp 59, .tmp 61]) rfl ?_); at_builtin; refine Kd.R_append k81 (w0 := w) w.heap.size rfl (.tmp 59) (.tmp 61) 61 81 (.agg #[(.int .i64 0), (.string ⟨#[]⟩), (.string ⟨#[]⟩)]) 40 rfl Try.underlying61 info81 rfl (by decide) (by omega) u197001 x197001_1 (⟨a1_0, a1_1, a1_2⟩ : S81) [.int .i64 a1_0, .string a1_1, .string a1_2] (fun k_ => k_ ≠ gb194) (fun _ => False) rfl rfl ?aP (fun _ hk => hk.elim) ?aF ?aO ?aB ?aS ?aL ?_; (case aP => exact k81_mkM _ _ _ (⟨a1_0, a1_1, a1_2⟩ : S81)); (case aB => exact xbg); (case aF => exact (fun k_ hk => Kd.freshB (g := gb194) (o := .cells #[.int .i64 a1_0, .string a1_1, .string a1_2] 81 (0, 0)) xblk k_ hk)); (case aO => exact (by (with_reducible repeat (first | apply Kd.R_alloc | apply Kd.R_drewN | apply Kd.R_drew)); exact HO_197001.out)); (case aS => exact (below_size xbg)); (case aL => have := LMc79.out; omega); intro v198 w89 ho hb hg hat; rw [← Ny197.out] at ho; have n0_ := Aside0.mk (blk_grown (g := gb193) (o := .cells #[.int .i64 a0_0, .slice A0_1 l0_1.length c0_1] 63 (0, 0)) xblk hg (Kd.R_ne HO_197001.out BK193.out (by decide))); have n1_ := Aside0.mk (blk_grown (g := gb194) (o := .cells #[.int .i64 a1_0, .string a1_1, .string a1_2] 81 (0, 0)) xblk hg (Kd.R_away HO_197001.out (fun _ hk => hk))); have n2_ := Aside0.mk (blk_grown (g := gb195) (o := .cells #[.int .i64 0, .slice none 0 0] 63 (0, 0)) xblk hg (Kd.R_ne HO_197001.out BK195.out (by decide))); have n3_ := Aside0.mk (blk_grown (g := gb196) (o := .cells #[.int .i64 a0_0, u197001] 63 (0, 0)) xblk hg (Kd.R_ne HO_197001.out BK196.out (by decide))); have n4_ := Aside0.mk (hb); have n5_ := Aside0.mk (ho); clear BK193; clear BK194; clear BK195; clear BK196; clear HB; clear HO_197001; have BK193 := n0_; have BK194 := n1_; have BK195 := n2_; have BK196 := n3_; have HB := n4_; have HO199 := n5_; clear n0_ n1_ n2_ n3_ n4_ n5_; clear ho hb hg hat; obtain ⟨Ao90, co90, eo90⟩ := Kd.R_slice HO199.out; subst eo90; have hcz91_0 : w89.cell? ⟨gb196, 0, none⟩ = some (.int .i64 a0_0) := (blk_cell BK196.out 0).trans rfl; have hcz91_1 : w89.cell? ⟨gb196, 1, none⟩ = some (u197001) := (blk_cell BK196.out 1).trans rfl; have hfz91_0 := blk_frozen BK196.out 0; have hfz91_1 := blk_frozen BK196.out 1; have hcz92_0 : w89.cell? ⟨gb195, 0, none⟩ = some (.int .i64 0) := (blk_cell BK195.out 0).trans rfl; have hcz92_1 : w89.cell? ⟨gb195, 1, none⟩ = some (.slice none 0 0) := (blk_cell BK195.out 1).trans rfl; have hfz92_0 := blk_frozen BK195.out 0; have hfz92_1 := blk_frozen BK195.out 1))
      refine bodyPost_ret (results_cell_row rfl _ _ gb195 63 #[.int .i64 a0_0, .slice Ao90 y197.length co90] (0, 0) _ rfl (by (with_reducible repeat (first | refine blk_drewN ?_ _ | refine blk_drew ?_ | refine blk_alloc ?_ _)); refine blk_put (cs := #[.int .i64 a0_0, .slice none 0 0]) ?_ 1 _ rfl; (with_reducible repeat (first | refine blk_drewN ?_ _ | refine blk_drew ?_ | refine blk_alloc ?_ _)); refine blk_put (cs := #[.int .i64 0, .slice none 0 0]) ?_ 0 _ rfl; (with_reducible repeat (first | refine blk_drewN ?_ _ | refine blk_drew ?_ | refine blk_alloc ?_ _)); refine blk_far ?_ NB195_196.out _; (with_reducible repeat (first | refine blk_drewN ?_ _ | refine blk_drew ?_ | refine blk_alloc ?_ _)); exact BK195.out) Try.underlying63 rfl (by kernel_rfl)) rfl ?_
      exact ⟨_, by first | rfl | (simp [errW_none, errW_some] <;> rfl) | (simp [*, errW_none, errW_some] <;> rfl), by (with_reducible repeat (first | apply Kd.R_alloc | apply Kd.R_drewN | apply Kd.R_drew)); exact Kd.R_mono (Kd.R_far (p := ⟨gb195, 1, none⟩) (Kd.R_far (p := ⟨gb195, 0, none⟩) (Kd.R_far (p := ⟨gb196, 1, none⟩) (Kd.R_types (Kd.R_types HO199.out BK196.out (by decide)) BK195.out (by decide)) (fun _ hk => hk.1.2) (.slice Ao90 y197.length co90)) (fun _ hk => hk.2) (.int .i64 a0_0)) (fun _ hk => hk.2) (.slice Ao90 y197.length co90)) (fun _ hk => trivial), xbg⟩
     ·rw [if_neg c79] at H
      exact absurd H (by simp)

end Go.Proofs.Ytkfoojknjmgjdaa.QFnDisk
