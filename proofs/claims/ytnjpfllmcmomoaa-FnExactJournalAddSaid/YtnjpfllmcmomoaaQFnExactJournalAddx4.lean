-- A walk, by a program of this session.
import Derived.Test.YtnjpfllmcmomoaaQFnExactJournalAddx0
import Derived.Test.YtnjpfllmcmomoaaQFnExactJournalAddx2
import Derived.Test.YtnjpfllmcmomoaaQFnExactJournalAddx3
namespace Go.Proofs.Ytnjpfllmcmomoaa.QFnExactJournalAdd
open Go.RowKit Go.Proofs.YtnjpfllmcmomoaaW.PrintWords Go.Proofs.YtnjpfllmcmomoaaW.PrintLast Go.Proofs.YtnjpfllmcmomoaaW.PrintMore
attribute [local go_sem] max2_int min2_int max_two min_two max_three min_three max_four min_four   -- for this text's walks alone
set_option linter.unusedVariables false
set_option linter.unusedSimpArgs false

/-! ### spec_l3Put: function 111 -/
mutual
def spec_l3Put.l0 : Nat → Bool → Int → Int → List (S134) → Int → ByteArray → ByteArray → Int → List (S134) → Option (Int × (List (S134)))
 | 0, _, _, _, _, _, _, _, _, _ => none
 | k + 1, x6, x7, x181000, x181001, x182000, x182001, x182002, x184000, x184001 => if x7 < (x181001.length : Int) then (if x6 = true then (spec_l3Put.j1 k x6 x7 false x181000 x181001 x182000 x182001 x182002 x184000 x184001) else (if 0 ≤ x7 then (spec_l3Put.j1 k x6 x7 (decide (((rd_T134 x181001 x7).f0) ≥ x182000)) x181000 x181001 x182000 x182001 x182002 x184000 x184001) else (none))) else (if x6 = true then (some (x184000, x184001)) else (if x184001.length < 3518437208883 then (some (x184000, (x184001 ++ [(⟨x182000, x182001, x182002⟩ : S134)]))) else (none)))
def spec_l3Put.j1 : Nat → Bool → Int → Bool → Int → List (S134) → Int → ByteArray → ByteArray → Int → List (S134) → Option (Int × (List (S134)))
 | 0, _, _, _, _, _, _, _, _, _, _ => none
 | k + 1, x6, x7, x30, x181000, x181001, x182000, x182001, x182002, x184000, x184001 => if x30 = true then (if x184001.length < 3518437208883 then ((some (x184001 ++ [(⟨x182000, x182001, x182002⟩ : S134)] : List (S134))).bind fun y188 => (if 0 ≤ x7 then (if x7 < (x181001.length : Int) then (if ((rd_T134 x181001 x7).f0) = x182000 then (spec_l3Put.l0 k true (wrap64 (x7 + 1)) x181000 x181001 x182000 x182001 x182002 x184000 y188) else (if y188.length < 3518437208883 then (spec_l3Put.l0 k true (wrap64 (x7 + 1)) x181000 x181001 x182000 x182001 x182002 x184000 (y188 ++ [(⟨(rd_T134 x181001 x7).f0, (rd_T134 x181001 x7).f1, (rd_T134 x181001 x7).f2⟩ : S134)])) else (none))) else (none)) else (none))) else (none)) else (if 0 ≤ x7 then (if x7 < (x181001.length : Int) then (if ((rd_T134 x181001 x7).f0) = x182000 then (spec_l3Put.l0 k x6 (wrap64 (x7 + 1)) x181000 x181001 x182000 x182001 x182002 x184000 x184001) else (if x184001.length < 3518437208883 then (spec_l3Put.l0 k x6 (wrap64 (x7 + 1)) x181000 x181001 x182000 x182001 x182002 x184000 (x184001 ++ [(⟨(rd_T134 x181001 x7).f0, (rd_T134 x181001 x7).f1, (rd_T134 x181001 x7).f2⟩ : S134)])) else (none))) else (none)) else (none))
end
def spec_l3Put.f (k : Nat) (a0_0 : Int) (l0_1 : List (S134)) (a1_0 : Int) (a1_1 : ByteArray) (a1_2 : ByteArray) : Option (Int × (List (S134))) := spec_l3Put.l0 k false 0 a0_0 l0_1 a1_0 a1_1 a1_2 a0_0 ([] : List (S134))
set_option maxRecDepth 100000 in
theorem spec_l3Put.mono_l : ∀ k, (∀ y0 y1 y2 y3 y4 y5 y6 y7 y8, LeO (spec_l3Put.l0 k y0 y1 y2 y3 y4 y5 y6 y7 y8) (spec_l3Put.l0 (k + 1) y0 y1 y2 y3 y4 y5 y6 y7 y8)) ∧ (∀ y0 y1 y2 y3 y4 y5 y6 y7 y8 y9, LeO (spec_l3Put.j1 k y0 y1 y2 y3 y4 y5 y6 y7 y8 y9) (spec_l3Put.j1 (k + 1) y0 y1 y2 y3 y4 y5 y6 y7 y8 y9))
 | 0 => ⟨fun _ _ _ _ _ _ _ _ _ r h => by simp [spec_l3Put.l0] at h, fun _ _ _ _ _ _ _ _ _ _ r h => by simp [spec_l3Put.j1] at h⟩
 | k + 1 => by
  obtain ⟨ih0, ih1⟩ := spec_l3Put.mono_l k
  refine ⟨?_, ?_⟩
  ·intro y0 y1 y2 y3 y4 y5 y6 y7 y8
   unfold spec_l3Put.l0
   repeat' first
   | (with_reducible exact ih0 _ _ _ _ _ _ _ _ _)
   | (with_reducible exact ih1 _ _ _ _ _ _ _ _ _ _)
   | (with_reducible exact LeO.refl _)
   | (with_reducible exact LeO.none _)
   | (with_reducible refine LeO.ite ?_ ?_)
   | (with_reducible refine LeO.bind ?_ (fun _ => ?_))
   | exact ih0 _ _ _ _ _ _ _ _ _
   | exact ih1 _ _ _ _ _ _ _ _ _ _
   | exact LeO.none _
   | refine LeO.ite ?_ ?_
   | refine LeO.bind ?_ (fun _ => ?_)
  ·intro y0 y1 y2 y3 y4 y5 y6 y7 y8 y9
   unfold spec_l3Put.j1
   repeat' first
   | (with_reducible exact ih0 _ _ _ _ _ _ _ _ _)
   | (with_reducible exact ih1 _ _ _ _ _ _ _ _ _ _)
   | (with_reducible exact LeO.refl _)
   | (with_reducible exact LeO.none _)
   | (with_reducible refine LeO.ite ?_ ?_)
   | (with_reducible refine LeO.bind ?_ (fun _ => ?_))
   | exact ih0 _ _ _ _ _ _ _ _ _
   | exact ih1 _ _ _ _ _ _ _ _ _ _
   | exact LeO.none _
   | refine LeO.ite ?_ ?_
   | refine LeO.bind ?_ (fun _ => ?_)
theorem spec_l3Put.mono : ∀ a0 a1 a2 a3 a4 k, LeO (spec_l3Put.f k a0 a1 a2 a3 a4) (spec_l3Put.f (k + 1) a0 a1 a2 a3 a4) := by
 intro a0 a1 a2 a3 a4 k
 obtain ⟨ih0, ih1⟩ := spec_l3Put.mono_l k
 unfold spec_l3Put.f
 repeat' first
  | (with_reducible exact ih0 _ _ _ _ _ _ _ _ _)
  | (with_reducible exact ih1 _ _ _ _ _ _ _ _ _ _)
  | (with_reducible exact LeO.refl _)
  | (with_reducible exact LeO.none _)
  | (with_reducible refine LeO.ite ?_ ?_)
  | (with_reducible refine LeO.bind ?_ (fun _ => ?_))
  | exact ih0 _ _ _ _ _ _ _ _ _
  | exact ih1 _ _ _ _ _ _ _ _ _ _
  | exact LeO.none _
  | refine LeO.ite ?_ ?_
  | refine LeO.bind ?_ (fun _ => ?_)
def spec_l3Put.T6 : Bool × List (List Nat × List Nat) := (true, [([], []), ([0], [0]), ([1], [1]), ([2], [2]), ([3, 2], [2, 3]), ([2], [2]), ([4, 5, 2], [2, 4, 5]), ([6, 2], [2, 6]), ([7, 2], [2, 7]), ([2], [2]), ([9, 2], [2, 9]), ([8, 10, 2], [2, 8, 10]), ([2, 11], [2, 11])])
def spec_l3Put.B6 : List Nat := [0, 1, 3, 7, 15, 7, 63, 127, 255, 7, 519, 2047, 4095]
theorem spec_l3Put.tab6 : rtab .any (opsOf Try.f111 6) = spec_l3Put.T6 := by kernel_rfl
theorem spec_l3Put.bits6 : waitsOk spec_l3Put.T6.2 spec_l3Put.B6 = true := by kernel_rfl
def spec_l3Put.T9 : Bool × List (List Nat × List Nat) := (true, [([], []), ([0], [0]), ([], []), ([1, 2], [1, 2]), ([3], [3]), ([4], [4]), ([], []), ([6], [6]), ([5, 7], [5, 7])])
def spec_l3Put.B9 : List Nat := [0, 1, 0, 7, 15, 31, 0, 64, 255]
theorem spec_l3Put.tab9 : rtab .any (opsOf Try.f111 9) = spec_l3Put.T9 := by kernel_rfl
theorem spec_l3Put.bits9 : waitsOk spec_l3Put.T9.2 spec_l3Put.B9 = true := by kernel_rfl
def spec_l3Put.T10 : Bool × List (List Nat × List Nat) := (true, [([], []), ([0], [0]), ([], []), ([2], [2]), ([], []), ([3, 4], [3, 4]), ([5], [5]), ([6], [6]), ([1, 7], [1, 7]), ([0, 1, 2, 3, 4, 5, 6, 7, 8], []), ([9, 8, 8, 0, 1, 2, 3, 4, 5, 6, 7, 8], [8, 9])])
def spec_l3Put.B10 : List Nat := [0, 1, 0, 4, 0, 28, 60, 124, 255, 511, 1023]
theorem spec_l3Put.tab10 : rtab .any (opsOf Try.f111 10) = spec_l3Put.T10 := by kernel_rfl
theorem spec_l3Put.bits10 : waitsOk spec_l3Put.T10.2 spec_l3Put.B10 = true := by kernel_rfl
set_option maxHeartbeats 8000000 in
set_option maxRecDepth 100000 in
theorem spec_l3Put.calls (k : Nat) (a0_0 : Int) (A0_1 : Option Addr) (c0_1 : Nat) (l0_1 : List (S134)) (a1_0 : Int) (a1_1 : ByteArray) (a1_2 : ByteArray) (r1 : Int) (r2 : List (S134)) (w : World) (hr0_1 : Kd.C k134 w A0_1 l0_1.length l0_1) (hc0_1 : l0_1.length ≤ c0_1) (h : spec_l3Put.f k a0_0 l0_1 a1_0 a1_1 a1_2 = some (r1, r2)) :
 Calls Try.prog 111 #[.agg #[.int .i64 a0_0, .slice A0_1 l0_1.length c0_1], .agg #[.int .i64 a1_0, .string a1_1, .string a1_2]] w fun e w' => ∃ v1_ : Value, e = .returned (.agg #[.int .i64 r1, v1_]) ∧ Kd.R k134 134 w' w.heap.size (fun _ => True) v1_ r2 ∧ Below w.heap.size w w' := by
 have hu70 := Try.underlying70
 have hu134 := Try.underlying134
 have HR0_1 := aM hr0_1
 have HC0_1 := aM hc0_1
 clear hr0_1 hc0_1
 have HB := aM (Below.refl w.heap.size w)
 have H : (spec_l3Put.l0 k false 0 a0_0 l0_1 a1_0 a1_1 a1_2 a0_0 ([] : List (S134))) = some (r1, r2) := h
 clear h
 have H' := aM H
 clear H
 go_enter Try.func111, Try.ntmps111
 go_wp2_with (first | ((with_reducible refine gate_dst (N := 2) rfl ?_); refine box_event ?hg (N := 2) ?hd (cs := #[.int .i64 a0_0, .slice A0_1 l0_1.length c0_1]) (t := 70) ?hr ?_; (case hd => rfl); (case hg => rfl); (case hr => first | (go_simp; done) | (go_simp; rfl)); intro gb180 hg w3 hbox hb; have BK180 := aM (hbox); have GW180 := aM (xge hg); have GE180 := aM (xge hg); replace HB := xbs hb; clear hb hbox hg) | ((with_reducible refine gate_dst (N := 3) rfl ?_); refine box_event ?hg (N := 3) ?hd (cs := #[.int .i64 a1_0, .string a1_1, .string a1_2]) (t := 134) ?hr ?_; (case hd => rfl); (case hg => rfl); (case hr => first | (go_simp; done) | (go_simp; rfl)); intro gb181 hg w4 hbox hb; have GW181 := aM (xge hg); have GE181 := aM (xge hg); replace HB := xbs hb; have NB180_181 := aM ((by rw [hg]; exact Nat.ne_of_lt (blk_lt (g := gb180) (o := .cells #[.int .i64 a0_0, .slice A0_1 l0_1.length c0_1] 70 (0, 0)) xblk) : gb180 ≠ gb181)); have NB181_180 := aM ((by rw [hg]; exact Nat.ne_of_gt (blk_lt (g := gb180) (o := .cells #[.int .i64 a0_0, .slice A0_1 l0_1.length c0_1] 70 (0, 0)) xblk) : gb181 ≠ gb180)); replace BK180 := xbb BK180 hb; have BK181 := aM (hbox); clear hb hbox hg) | ((with_reducible refine gate_dst (N := 4) rfl ?_); refine box_event ?hg (N := 4) ?hd (cs := #[.int .i64 0, .slice none 0 0]) (t := 70) ?hr ?_; (case hd => rfl); (case hg => rfl); (case hr => first | (go_simp; done) | (go_simp; rfl)); intro gb182 hg w5 hbox hb; have GW182 := aM (xge hg); have GE182 := aM (xge hg); replace HB := xbs hb; have NB180_182 := aM ((by rw [hg]; exact Nat.ne_of_lt (blk_lt (g := gb180) (o := .cells #[.int .i64 a0_0, .slice A0_1 l0_1.length c0_1] 70 (0, 0)) xblk) : gb180 ≠ gb182)); have NB182_180 := aM ((by rw [hg]; exact Nat.ne_of_gt (blk_lt (g := gb180) (o := .cells #[.int .i64 a0_0, .slice A0_1 l0_1.length c0_1] 70 (0, 0)) xblk) : gb182 ≠ gb180)); have NB181_182 := aM ((by rw [hg]; exact Nat.ne_of_lt (blk_lt (g := gb181) (o := .cells #[.int .i64 a1_0, .string a1_1, .string a1_2] 134 (0, 0)) xblk) : gb181 ≠ gb182)); have NB182_181 := aM ((by rw [hg]; exact Nat.ne_of_gt (blk_lt (g := gb181) (o := .cells #[.int .i64 a1_0, .string a1_1, .string a1_2] 134 (0, 0)) xblk) : gb182 ≠ gb181)); replace BK180 := xbb BK180 hb; replace BK181 := xbb BK181 hb; have BK182 := aM (hbox); clear hb hbox hg; have hnb6 := NB180_181.out; have hnc6 := NB181_180.out; have hnb7 := NB180_182.out; have hnc7 := NB182_180.out; have hcz8_0 : w5.cell? ⟨gb180, 0, none⟩ = some (.int .i64 a0_0) := xc BK180 0 rfl; have hcz8_1 : w5.cell? ⟨gb180, 1, none⟩ = some (.slice A0_1 l0_1.length c0_1) := xc BK180 1 rfl; have hfz8_0 := blk_frozen BK180.out 0; have hfz8_1 := blk_frozen BK180.out 1) | ((with_reducible refine gate_dst (N := 5) rfl ?_); refine box_event ?hg (N := 5) ?hd (cs := #[.int .i64 0, .slice none 0 0]) (t := 70) ?hr ?_; (case hd => rfl); (case hg => rfl); (case hr => first | (go_simp; done) | (go_simp; rfl)); intro gb183 hg w9 hbox hb; have GW183 := aM (xge hg); have GE183 := aM (xge hg); replace HB := xbs hb; have NB180_183 := aM ((by rw [hg]; exact Nat.ne_of_lt (blk_lt (g := gb180) (o := .cells #[.int .i64 a0_0, .slice A0_1 l0_1.length c0_1] 70 (0, 0)) xblk) : gb180 ≠ gb183)); have NB183_180 := aM ((by rw [hg]; exact Nat.ne_of_gt (blk_lt (g := gb180) (o := .cells #[.int .i64 a0_0, .slice A0_1 l0_1.length c0_1] 70 (0, 0)) xblk) : gb183 ≠ gb180)); have NB181_183 := aM ((by rw [hg]; exact Nat.ne_of_lt (blk_lt (g := gb181) (o := .cells #[.int .i64 a1_0, .string a1_1, .string a1_2] 134 (0, 0)) xblk) : gb181 ≠ gb183)); have NB183_181 := aM ((by rw [hg]; exact Nat.ne_of_gt (blk_lt (g := gb181) (o := .cells #[.int .i64 a1_0, .string a1_1, .string a1_2] 134 (0, 0)) xblk) : gb183 ≠ gb181)); have NB182_183 := aM ((by rw [hg]; exact Nat.ne_of_lt (blk_lt (g := gb182) (o := .cells #[.int .i64 0, .slice none 0 0] 70 (0, 0)) xblk) : gb182 ≠ gb183)); have NB183_182 := aM ((by rw [hg]; exact Nat.ne_of_gt (blk_lt (g := gb182) (o := .cells #[.int .i64 0, .slice none 0 0] 70 (0, 0)) xblk) : gb183 ≠ gb182)); replace BK180 := xbb BK180 hb; replace BK181 := xbb BK181 hb; replace BK182 := xbb BK182 hb; have BK183 := aM (hbox); clear hb hbox hg; have hnb10 := NB183_180.out; have hnc10 := NB180_183.out; have hnb11 := NB183_181.out; have hnc11 := NB181_183.out; have hnb12 := NB183_182.out; have hnc12 := NB182_183.out; have hcz13_0 : w9.cell? ⟨gb183, 0, none⟩ = some (.int .i64 0) := xc BK183 0 rfl; have hcz13_1 : w9.cell? ⟨gb183, 1, none⟩ = some (.slice none 0 0) := xc BK183 1 rfl; have hfz13_0 := blk_frozen BK183.out 0; have hfz13_1 := blk_frozen BK183.out 1))
 go_loopg [6, 7] k (fun kq v6 v7 w' => ∃ (x6_1 : Bool) (x7_1 : Int) (x184001_1 : List (S134)) (u184001 : Value), v6 = .bool x6_1 ∧ v7 = .int .i64 x7_1 ∧ Aside0 (spec_l3Put.l0 kq x6_1 x7_1 a0_0 l0_1 a1_0 a1_1 a1_2 a0_0 x184001_1 = some (r1, r2)) ∧ Aside0 (kq ≤ k) ∧ Aside0 (Kd.R k134 134 w' w.heap.size (fun k_ => k_ ≠ gb181) u184001 x184001_1) ∧ Aside0 (w'.heap[gb180]? = some (.cells #[.int .i64 a0_0, (.slice A0_1 l0_1.length c0_1)] 70 (0, 0))) ∧ Aside0 (w'.heap[gb181]? = some (.cells #[.int .i64 a1_0, .string a1_1, .string a1_2] 134 (0, 0))) ∧ Aside0 (w'.heap[gb182]? = some (.cells #[.int .i64 0, (.slice none 0 0)] 70 (0, 0))) ∧ Aside0 (w'.heap[gb183]? = some (.cells #[.int .i64 a0_0, u184001] 70 (0, 0))) ∧ Aside0 (Below w.heap.size w w'))
 case atStart => exact ⟨(false), (0), (([] : List (S134))), (.slice none 0 0), (by first | rfl | (simp; done) | (simp [*]; done)), (by first | rfl | (simp; done) | (simp [*]; done)), H', ⟨Nat.le_refl _⟩, ⟨by first | exact Kd.R_nil _ _ _ _ _ | exact Kd.N_nil _ _ _ _ _ | exact Kd.V_nil _ _ _ _ _ | exact Kd.Q_nil _ _ _ _ _ | exact Kd.S_nil _ _ _ _ _⟩, ⟨by (with_reducible repeat (first | refine blk_drewN ?_ _ | refine blk_drew ?_ | refine blk_alloc ?_ _)); refine blk_far ?_ NB180_183.out _; (with_reducible repeat (first | refine blk_drewN ?_ _ | refine blk_drew ?_ | refine blk_alloc ?_ _)); refine blk_far ?_ NB180_183.out _; (with_reducible repeat (first | refine blk_drewN ?_ _ | refine blk_drew ?_ | refine blk_alloc ?_ _)); exact BK180.out⟩, ⟨by (with_reducible repeat (first | refine blk_drewN ?_ _ | refine blk_drew ?_ | refine blk_alloc ?_ _)); refine blk_far ?_ NB181_183.out _; (with_reducible repeat (first | refine blk_drewN ?_ _ | refine blk_drew ?_ | refine blk_alloc ?_ _)); refine blk_far ?_ NB181_183.out _; (with_reducible repeat (first | refine blk_drewN ?_ _ | refine blk_drew ?_ | refine blk_alloc ?_ _)); exact BK181.out⟩, ⟨by (with_reducible repeat (first | refine blk_drewN ?_ _ | refine blk_drew ?_ | refine blk_alloc ?_ _)); refine blk_far ?_ NB182_183.out _; (with_reducible repeat (first | refine blk_drewN ?_ _ | refine blk_drew ?_ | refine blk_alloc ?_ _)); refine blk_far ?_ NB182_183.out _; (with_reducible repeat (first | refine blk_drewN ?_ _ | refine blk_drew ?_ | refine blk_alloc ?_ _)); exact BK182.out⟩, ⟨by (with_reducible repeat (first | refine blk_drewN ?_ _ | refine blk_drew ?_ | refine blk_alloc ?_ _)); refine blk_put (cs := #[.int .i64 a0_0, .slice none 0 0]) ?_ 1 _ rfl; (with_reducible repeat (first | refine blk_drewN ?_ _ | refine blk_drew ?_ | refine blk_alloc ?_ _)); refine blk_put (cs := #[.int .i64 0, .slice none 0 0]) ?_ 0 _ rfl; (with_reducible repeat (first | refine blk_drewN ?_ _ | refine blk_drew ?_ | refine blk_alloc ?_ _)); exact BK183.out⟩, ⟨xbg⟩⟩
 case round =>
  clear H'
  try clear c1
  try clear p2
  try clear c6
  try clear c7
  try clear c10
  try clear c11
  try clear c12
  try clear hcz13_0
  try clear hcz13_1
  try clear hcz8_0
  try clear hcz8_1
  try clear hfz13_0
  try clear hfz13_1
  try clear hfz8_0
  try clear hfz8_1
  obtain ⟨x6_1, x7_1, x184001_1, u184001, rfl, rfl, HA, HK1, HO_184001, BK180, BK181, BK182, BK183, HB⟩ := hrel
  cases gk with
  | zero => exact absurd HA.out (by simp [spec_l3Put.l0])
  | succ k1 =>
   have H := HA.out; clear HA
   simp only [spec_l3Put.l0] at H
   by_cases c14 : x7_1 < (l0_1.length : Int)
   ·rw [if_pos c14] at H
    have c14b0 : decide (x7_1 < (l0_1.length : Int)) = true := decide_eq_true c14; clear c14; have HC15 := aM H; clear H; have hnb16 := NB180_181.out; have hnc16 := NB181_180.out; have hnb17 := NB180_182.out; have hnc17 := NB182_180.out; have hnb18 := NB180_183.out; have hnc18 := NB183_180.out; have hcz19_0 : wr.cell? ⟨gb180, 0, none⟩ = some (.int .i64 a0_0) := xc BK180 0 rfl; have hcz19_1 : wr.cell? ⟨gb180, 1, none⟩ = some (.slice A0_1 l0_1.length c0_1) := xc BK180 1 rfl; have hfz19_0 := blk_frozen BK180.out 0; have hfz19_1 := blk_frozen BK180.out 1
    go_upto_region 6 with (fail)
    go_cut [30] (fun v30 wc => ∃ (kq : Nat) (x30_14 : Bool), v30 = .bool x30_14 ∧ Aside0 (spec_l3Put.j1 kq x6_1 x7_1 x30_14 a0_0 l0_1 a1_0 a1_1 a1_2 a0_0 x184001_1 = some (r1, r2)) ∧ Aside0 (kq ≤ k1) ∧ Aside0 (Kd.R k134 134 wc w.heap.size (fun k_ => k_ ≠ gb181) u184001 x184001_1) ∧ Aside0 (wc.heap[gb180]? = some (.cells #[.int .i64 a0_0, (.slice A0_1 l0_1.length c0_1)] 70 (0, 0))) ∧ Aside0 (wc.heap[gb181]? = some (.cells #[.int .i64 a1_0, .string a1_1, .string a1_2] 134 (0, 0))) ∧ Aside0 (wc.heap[gb182]? = some (.cells #[.int .i64 0, (.slice none 0 0)] 70 (0, 0))) ∧ Aside0 (wc.heap[gb183]? = some (.cells #[.int .i64 a0_0, u184001] 70 (0, 0))) ∧ Aside0 (Below w.heap.size w wc))
    case first =>
     have H := HC15.out; clear HC15
     by_cases c20 : x6_1 = true
     ·subst c20
      have H1 : (spec_l3Put.j1 k1 true x7_1 false a0_0 l0_1 a1_0 a1_1 a1_2 a0_0 x184001_1) = some (r1, r2) := by rw [if_pos rfl] at H; exact H
      clear H; have H := H1; clear H1
      have H' := aM H
      clear H
      try go_wp2
      replace HO_184001 := aM (Kd.R_drew HO_184001.out); replace BK180 := aM (blk_drew BK180.out); replace BK181 := aM (blk_drew BK181.out); replace BK182 := aM (blk_drew BK182.out); replace BK183 := aM (blk_drew BK183.out); replace HB := aM (below_drew1 HB.out)
      refine start_ (n := 13) (S := fun w' => True) (ds := []) #[false, false, false, false, false, false, false, false, false, false, false, false, false] (by kernel_rfl) rfl rfl trivial (fun hHeld => ?_); refine with_tabW spec_l3Put.tab6 spec_l3Put.bits6 (fun HT_ HW_ => ?_)
      generalize wr.drew = w21 at HO_184001 BK180 BK181 BK182 BK183 HB hHeld ⊢
      refine pv_ 0 18 (h := ?_)
      refine pv_ 1 19 (h := ?_)
      refine pv_ 2 20 (h := ?_)
      refine pu_ 3 21 (h := ?_)
      refine pu_ 4 22 (h := ?_)
      refine pu_ 5 23 (h := ?_)
      refine pu_ 6 24 (h := ?_)
      refine pu_ 7 25 (h := ?_)
      refine pu_ 8 26 (h := ?_)
      refine pu_ 9 27 (h := ?_)
      refine pu_ 10 28 (h := ?_)
      refine pu_ 11 29 (h := ?_)
      refine pv_ 12 30 (h := ?_)
      refine done_ (done_of HT_.out (by kernel_rfl)) ?_
      try go_wp2
      go_meet
      case rel => exact ⟨_, (false), (by first | rfl | (simp; done) | (simp [*]; done)), H', ⟨by have := HK1.out; first | omega | exact Nat.le_refl _⟩, ⟨by (with_reducible repeat (first | apply Kd.R_alloc | apply Kd.R_drewN | apply Kd.R_drew)); exact HO_184001.out⟩, ⟨xblk⟩, ⟨xblk⟩, ⟨xblk⟩, ⟨xblk⟩, ⟨xbg⟩⟩
     ·replace c20 := Bool.eq_false_iff.mpr c20
      subst c20
      have H1 : (if 0 ≤ x7_1 then (spec_l3Put.j1 k1 false x7_1 (decide (((rd_T134 l0_1 x7_1).f0) ≥ a1_0)) a0_0 l0_1 a1_0 a1_1 a1_2 a0_0 x184001_1) else (none)) = some (r1, r2) := by rw [if_neg (show ¬ (false = true) by decide)] at H; exact H
      clear H; have H := H1; clear H1
      by_cases c22 : 0 ≤ x7_1
      ·rw [if_pos c22] at H
       have c22b0 : decide (0 ≤ x7_1) = true := decide_eq_true c22; clear c22
       (first | rw [c22b0] | (simp only [i64_w, i32_w]; rw [c22b0]) | skip)
       have H' := aM H
       clear H
       try go_wp2
       replace HO_184001 := aM (Kd.R_drew HO_184001.out); replace BK180 := aM (blk_drew BK180.out); replace BK181 := aM (blk_drew BK181.out); replace BK182 := aM (blk_drew BK182.out); replace BK183 := aM (blk_drew BK183.out); replace HB := aM (below_drew1 HB.out); have p187 : 0 ≤ (x7_1 : Int) := of_decide_eq_true (by first | (with_reducible assumption) | assumption); have q187 : x7_1 < (l0_1.length : Int) := of_decide_eq_true (by first | (with_reducible assumption) | assumption)
       obtain ⟨ad187, e187, hx187_0, hx187_1, hx187_2⟩ := at_T134 HR0_1.out x7_1 p187 q187
       have hw187_2 := hx187_2; have hw187_1 := hx187_1; have hw187_0 := hx187_0
       cases e187
       replace hx187_0 := xce HB hx187_0; replace hx187_1 := xce HB hx187_1; replace hx187_2 := xce HB hx187_2; replace p187 := eq_true p187; replace q187 := eq_true q187
       refine start_ (n := 13) (S := fun w' => w'.cell? ⟨gb180, 0, none⟩ = some (.int .i64 a0_0) ∧ w'.cell? ⟨gb180, 1, none⟩ = some (.slice (some ad187) l0_1.length c0_1) ∧ w'.cell? ⟨gb181, 0, none⟩ = some (.int .i64 a1_0) ∧ w'.cell? ⟨gb181, 1, none⟩ = some (.string a1_1) ∧ w'.cell? ⟨gb181, 2, none⟩ = some (.string a1_2) ∧ w'.cell? (ad187.add ((x7_1).toNat * 3)) = some (.int .i64 ((rd_T134 l0_1 x7_1).f0)) ∧ w'.cell? ⟨(ad187.add ((x7_1).toNat * 3)).block, (ad187.add ((x7_1).toNat * 3)).off + 1, none⟩ = some (.string ((rd_T134 l0_1 x7_1).f1)) ∧ w'.cell? ⟨(ad187.add ((x7_1).toNat * 3)).block, (ad187.add ((x7_1).toNat * 3)).off + 2, none⟩ = some (.string ((rd_T134 l0_1 x7_1).f2))) (ds := []) #[false, false, false, false, false, false, false, false, false, false, false, false, false] (by kernel_rfl) rfl rfl ⟨xc BK180 0 rfl, xc BK180 1 rfl, xc BK181 0 rfl, xc BK181 1 rfl, xc BK181 2 rfl, (xce HB hw187_0), (xce HB hw187_1), (xce HB hw187_2)⟩ (fun hHeld => ?_); refine with_tabW spec_l3Put.tab6 spec_l3Put.bits6 (fun HT_ HW_ => ?_)
       generalize wr.drew = w23 at HO_184001 BK180 BK181 BK182 BK183 HB hx187_0 hx187_1 hx187_2 hHeld ⊢
       refine pv_ 0 18 (h := ?_)
       refine pv_ 1 19 (h := ?_)
       refine pv_ 2 20 (h := ?_)
       refine pv_ 3 21 (h := ?_)
       refine pv_ 5 23 (h := ?_)
       refine pv_ 9 27 (h := ?_)
       refine tk_ 4 22 (h := ?_)
       refine pv_ 6 24 (h := ?_)
       refine pv_ 7 25 (h := ?_)
       refine tk_ 8 26 (h := ?_)
       refine tk_ 10 28 (h := ?_)
       refine pv_ 11 29 (h := ?_)
       refine pv_ 12 30 (h := ?_)
       refine done_ (done_of HT_.out (by kernel_rfl)) ?_
       try go_wp2
       go_meet
       case rel => exact ⟨_, (decide (((rd_T134 l0_1 x7_1).f0) ≥ a1_0)), (by first | rfl | (simp; done) | (simp [*]; done)), H', ⟨by have := HK1.out; first | omega | exact Nat.le_refl _⟩, ⟨by (with_reducible repeat (first | apply Kd.R_alloc | apply Kd.R_drewN | apply Kd.R_drew)); exact HO_184001.out⟩, ⟨xblk⟩, ⟨xblk⟩, ⟨xblk⟩, ⟨xblk⟩, ⟨xbg⟩⟩
      ·rw [if_neg c22] at H
       exact absurd H (by simp)
    case rest =>
     clear HC15
     try clear c1
     try clear p1
     try clear q1
     try clear hx1
     try clear c2
     try clear p2
     try clear c6
     try clear c7
     try clear c10
     try clear c11
     try clear c12
     try clear c14
     try clear c14b0
     try clear c16
     try clear c17
     try clear c18
     try clear p18
     try clear q18
     try clear hx18
     try clear c20
     try clear c22
     try clear c22b0
     try clear hcz13_0
     try clear hcz13_1
     try clear hcz19_0
     try clear hcz19_1
     try clear hcz8_0
     try clear hcz8_1
     try clear hfz13_0
     try clear hfz13_1
     try clear hfz19_0
     try clear hfz19_1
     try clear hfz8_0
     try clear hfz8_1
     try clear hx187_0
     try clear hx187_1
     try clear hx187_2
     try clear p187
     try clear p2
     try clear q187
     obtain ⟨kq, x30_14, rfl, HA, HJ14, HO_184001, BK180, BK181, BK182, BK183, HB⟩ := hcut
     cases kq with
     | zero => exact absurd HA.out (by simp [spec_l3Put.j1])
     | succ kj14 =>
      have H := HA.out; clear HA
      simp only [spec_l3Put.j1] at H
      by_cases c24 : x30_14 = true
      ·subst c24
       have H1 : (if x184001_1.length < 3518437208883 then ((some (x184001_1 ++ [(⟨a1_0, a1_1, a1_2⟩ : S134)] : List (S134))).bind fun y188 => (if 0 ≤ x7_1 then (if x7_1 < (l0_1.length : Int) then (if ((rd_T134 l0_1 x7_1).f0) = a1_0 then (spec_l3Put.l0 kj14 true (wrap64 (x7_1 + 1)) a0_0 l0_1 a1_0 a1_1 a1_2 a0_0 y188) else (if y188.length < 3518437208883 then (spec_l3Put.l0 kj14 true (wrap64 (x7_1 + 1)) a0_0 l0_1 a1_0 a1_1 a1_2 a0_0 (y188 ++ [(⟨(rd_T134 l0_1 x7_1).f0, (rd_T134 l0_1 x7_1).f1, (rd_T134 l0_1 x7_1).f2⟩ : S134)])) else (none))) else (none)) else (none))) else (none)) = some (r1, r2) := by rw [if_pos rfl] at H; exact H
       clear H; have H := H1; clear H1
       by_cases c25 : x184001_1.length < 3518437208883
       ·rw [if_pos c25] at H
        have LMc25 := aM c25; clear c25
        obtain ⟨y188, hy188⟩ : ∃ y_ : List (S134), y_ = (x184001_1 ++ [(⟨a1_0, a1_1, a1_2⟩ : S134)]) := ⟨_, rfl⟩
        replace H : (if 0 ≤ x7_1 then (if x7_1 < (l0_1.length : Int) then (if ((rd_T134 l0_1 x7_1).f0) = a1_0 then (spec_l3Put.l0 kj14 true (wrap64 (x7_1 + 1)) a0_0 l0_1 a1_0 a1_1 a1_2 a0_0 y188) else (if y188.length < 3518437208883 then (spec_l3Put.l0 kj14 true (wrap64 (x7_1 + 1)) a0_0 l0_1 a1_0 a1_1 a1_2 a0_0 (y188 ++ [(⟨(rd_T134 l0_1 x7_1).f0, (rd_T134 l0_1 x7_1).f1, (rd_T134 l0_1 x7_1).f2⟩ : S134)])) else (none))) else (none)) else (none)) = some (r1, r2) := by first | (rw [hy188]; with_reducible exact H) | (have H2_ := (Option.bind_some _ _).symm.trans H; rw [hy188]; with_reducible exact H2_) | (have H2_ := (Option.bind_some _ _).symm.trans H; with_reducible exact H2_) | with_reducible exact H | (rw [hy188]; exact H) | exact H
        have Ny188 := aM hy188; clear hy188
        by_cases c26 : 0 ≤ x7_1
        ·rw [if_pos c26] at H
         have c26b0 : decide (0 ≤ x7_1) = true := decide_eq_true c26; clear c26
         by_cases c27 : x7_1 < (l0_1.length : Int)
         ·rw [if_pos c27] at H
          have c27b0 : decide (x7_1 < (l0_1.length : Int)) = true := decide_eq_true c27; clear c27
          by_cases c28 : ((rd_T134 l0_1 x7_1).f0) = a1_0
          ·rw [if_pos c28] at H
           have c28b0 : (((rd_T134 l0_1 x7_1).f0) == a1_0) = true := beq_iff_eq.mpr c28; have c28b1 : (((rd_T134 l0_1 x7_1).f0) != a1_0) = false := bne_eq_false_iff_eq.mpr c28; clear c28
           have H' := aM H
           clear H; have hnb29 := NB183_180.out; have hnc29 := NB180_183.out; have hnb30 := NB183_181.out; have hnc30 := NB181_183.out; have hnb31 := NB183_182.out; have hnc31 := NB182_183.out; have hcz32_0 : wc.cell? ⟨gb183, 0, none⟩ = some (.int .i64 a0_0) := xc BK183 0 rfl; have hcz32_1 : wc.cell? ⟨gb183, 1, none⟩ = some (u184001) := xc BK183 1 rfl; have hfz32_0 := blk_frozen BK183.out 0; have hfz32_1 := blk_frozen BK183.out 1; have hnb33 := NB181_180.out; have hnc33 := NB180_181.out; have hnb34 := NB181_182.out; have hnc34 := NB182_181.out; have hcz35_0 : wc.cell? ⟨gb181, 0, none⟩ = some (.int .i64 a1_0) := xc BK181 0 rfl; have hcz35_1 : wc.cell? ⟨gb181, 1, none⟩ = some (.string a1_1) := xc BK181 1 rfl; have hcz35_2 : wc.cell? ⟨gb181, 2, none⟩ = some (.string a1_2) := xc BK181 2 rfl; have hfz35_0 := blk_frozen BK181.out 0; have hfz35_1 := blk_frozen BK181.out 1; have hfz35_2 := blk_frozen BK181.out 2
           try go_wp2_with (first | ((with_reducible refine gate_builtin (b := .append) (xs := #[.tmp 32, .tmp 34]) rfl ?_); at_builtin; refine Kd.R_append k134 (w0 := w) w.heap.size rfl (.tmp 32) (.tmp 34) 68 134 (.agg #[(.int .i64 0), (.string ⟨#[]⟩), (.string ⟨#[]⟩)]) 40 rfl Try.underlying68 info134 rfl (by decide) (by omega) u184001 x184001_1 (⟨a1_0, a1_1, a1_2⟩ : S134) [.int .i64 a1_0, .string a1_1, .string a1_2] (fun k_ => k_ ≠ gb181) (fun _ => False) rfl rfl ?aP (fun _ hk => hk.elim) ?aF ?aO ?aB ?aS ?aL ?_; (case aP => exact k134_mkM _ _ _ (⟨a1_0, a1_1, a1_2⟩ : S134)); (case aB => exact xbg); (case aF => exact (fun k_ hk => Kd.freshB (g := gb181) (o := .cells #[.int .i64 a1_0, .string a1_1, .string a1_2] 134 (0, 0)) xblk k_ hk)); (case aO => exact (xr HO_184001)); (case aS => exact (below_size xbg)); (case aL => have := LMc25.out; omega); intro v189 w36 ho hb hg hat; rw [← Ny188.out] at ho; have n0_ := aM (blk_grown (g := gb180) (o := .cells #[.int .i64 a0_0, .slice A0_1 l0_1.length c0_1] 70 (0, 0)) xblk hg (Kd.R_ne HO_184001.out BK180.out (by decide))); have n1_ := aM (blk_grown (g := gb181) (o := .cells #[.int .i64 a1_0, .string a1_1, .string a1_2] 134 (0, 0)) xblk hg (Kd.R_away HO_184001.out (fun _ hk => hk))); have n2_ := aM (blk_grown (g := gb182) (o := .cells #[.int .i64 0, .slice none 0 0] 70 (0, 0)) xblk hg (Kd.R_ne HO_184001.out BK182.out (by decide))); have n3_ := aM (blk_grown (g := gb183) (o := .cells #[.int .i64 a0_0, u184001] 70 (0, 0)) xblk hg (Kd.R_ne HO_184001.out BK183.out (by decide))); have n4_ := aM (hb); have n5_ := aM (ho); clear BK180; clear BK181; clear BK182; clear BK183; clear HB; clear HO_184001; have BK180 := n0_; have BK181 := n1_; have BK182 := n2_; have BK183 := n3_; have HB := n4_; have HO190 := n5_; clear n0_ n1_ n2_ n3_ n4_ n5_; clear ho hb hg hat; obtain ⟨Ao37, co37, eo37⟩ := Kd.R_slice HO190.out; subst eo37; have hcz38_0 : w36.cell? ⟨gb183, 0, none⟩ = some (.int .i64 a0_0) := xc BK183 0 rfl; have hcz38_1 : w36.cell? ⟨gb183, 1, none⟩ = some (u184001) := xc BK183 1 rfl; have hfz38_0 := blk_frozen BK183.out 0; have hfz38_1 := blk_frozen BK183.out 1))
           have n0_ : Aside0 (Kd.R k134 134 (w36.setCell ⟨gb183, 1, none⟩ (.slice Ao37 y188.length co37)) w.heap.size (fun k_ => k_ ≠ gb181) (.slice Ao37 y188.length co37) y188) := ⟨by (with_reducible repeat (first | apply Kd.R_alloc | apply Kd.R_drewN | apply Kd.R_drew)); exact Kd.R_mono (Kd.R_far (p := ⟨gb183, 1, none⟩) (Kd.R_types HO190.out BK183.out (by decide)) (fun _ hk => hk.2) (.slice Ao37 y188.length co37)) (fun _ hk => hk.1)⟩; have n1_ : Aside0 ((w36.setCell ⟨gb183, 1, none⟩ (.slice Ao37 y188.length co37)).heap[gb180]? = some (.cells #[.int .i64 a0_0, .slice A0_1 l0_1.length c0_1] 70 (0, 0))) := ⟨by (with_reducible repeat (first | refine blk_drewN ?_ _ | refine blk_drew ?_ | refine blk_alloc ?_ _)); refine blk_far ?_ NB180_183.out _; (with_reducible repeat (first | refine blk_drewN ?_ _ | refine blk_drew ?_ | refine blk_alloc ?_ _)); exact BK180.out⟩; have n2_ : Aside0 ((w36.setCell ⟨gb183, 1, none⟩ (.slice Ao37 y188.length co37)).heap[gb181]? = some (.cells #[.int .i64 a1_0, .string a1_1, .string a1_2] 134 (0, 0))) := ⟨by (with_reducible repeat (first | refine blk_drewN ?_ _ | refine blk_drew ?_ | refine blk_alloc ?_ _)); refine blk_far ?_ NB181_183.out _; (with_reducible repeat (first | refine blk_drewN ?_ _ | refine blk_drew ?_ | refine blk_alloc ?_ _)); exact BK181.out⟩; have n3_ : Aside0 ((w36.setCell ⟨gb183, 1, none⟩ (.slice Ao37 y188.length co37)).heap[gb182]? = some (.cells #[.int .i64 0, .slice none 0 0] 70 (0, 0))) := ⟨by (with_reducible repeat (first | refine blk_drewN ?_ _ | refine blk_drew ?_ | refine blk_alloc ?_ _)); refine blk_far ?_ NB182_183.out _; (with_reducible repeat (first | refine blk_drewN ?_ _ | refine blk_drew ?_ | refine blk_alloc ?_ _)); exact BK182.out⟩
           have n4_ : Aside0 ((w36.setCell ⟨gb183, 1, none⟩ (.slice Ao37 y188.length co37)).heap[gb183]? = some (.cells #[.int .i64 a0_0, .slice Ao37 y188.length co37] 70 (0, 0))) := ⟨by (with_reducible repeat (first | refine blk_drewN ?_ _ | refine blk_drew ?_ | refine blk_alloc ?_ _)); refine blk_put (cs := #[.int .i64 a0_0, u184001]) ?_ 1 _ rfl; (with_reducible repeat (first | refine blk_drewN ?_ _ | refine blk_drew ?_ | refine blk_alloc ?_ _)); exact BK183.out⟩; have n5_ : Aside0 (Below w.heap.size w (w36.setCell ⟨gb183, 1, none⟩ (.slice Ao37 y188.length co37))) := ⟨xbg⟩
           (try clear HO190); (try clear BK180); (try clear BK181); (try clear BK182); (try clear BK183); (try clear HB)
           generalize (w36.setCell ⟨gb183, 1, none⟩ (.slice Ao37 y188.length co37)) = w39 at n0_ n1_ n2_ n3_ n4_ n5_ ⊢
           have HO190 := n0_; have BK180 := n1_; have BK181 := n2_; have BK182 := n3_; have BK183 := n4_; have HB := n5_; clear n0_ n1_ n2_ n3_ n4_ n5_; replace HO190 := aM (Kd.R_drew HO190.out); replace BK180 := aM (blk_drew BK180.out); replace BK181 := aM (blk_drew BK181.out); replace BK182 := aM (blk_drew BK182.out); replace BK183 := aM (blk_drew BK183.out); replace HB := aM (below_drew1 HB.out); have p191 : 0 ≤ (x7_1 : Int) := of_decide_eq_true (by first | (with_reducible assumption) | assumption); have q191 : x7_1 < (l0_1.length : Int) := of_decide_eq_true (by first | (with_reducible assumption) | assumption)
           obtain ⟨ad191, e191, hx191_0, hx191_1, hx191_2⟩ := at_T134 HR0_1.out x7_1 p191 q191
           have hw191_2 := hx191_2; have hw191_1 := hx191_1; have hw191_0 := hx191_0
           cases e191
           replace hx191_0 := xce HB hx191_0; replace hx191_1 := xce HB hx191_1; replace hx191_2 := xce HB hx191_2; replace p191 := eq_true p191; replace q191 := eq_true q191
           refine start_ (n := 9) (S := fun w' => w'.cell? ⟨gb180, 0, none⟩ = some (.int .i64 a0_0) ∧ w'.cell? ⟨gb180, 1, none⟩ = some (.slice (some ad191) l0_1.length c0_1) ∧ w'.cell? ⟨gb181, 0, none⟩ = some (.int .i64 a1_0) ∧ w'.cell? ⟨gb181, 1, none⟩ = some (.string a1_1) ∧ w'.cell? ⟨gb181, 2, none⟩ = some (.string a1_2) ∧ w'.cell? (ad191.add ((x7_1).toNat * 3)) = some (.int .i64 ((rd_T134 l0_1 x7_1).f0)) ∧ w'.cell? ⟨(ad191.add ((x7_1).toNat * 3)).block, (ad191.add ((x7_1).toNat * 3)).off + 1, none⟩ = some (.string ((rd_T134 l0_1 x7_1).f1)) ∧ w'.cell? ⟨(ad191.add ((x7_1).toNat * 3)).block, (ad191.add ((x7_1).toNat * 3)).off + 2, none⟩ = some (.string ((rd_T134 l0_1 x7_1).f2))) (ds := []) #[false, false, false, false, false, false, false, false, false] (by kernel_rfl) rfl rfl ⟨xc BK180 0 rfl, xc BK180 1 rfl, xc BK181 0 rfl, xc BK181 1 rfl, xc BK181 2 rfl, (xce HB hw191_0), (xce HB hw191_1), (xce HB hw191_2)⟩ (fun hHeld => ?_); refine with_tabW spec_l3Put.tab9 spec_l3Put.bits9 (fun HT_ HW_ => ?_)
           generalize w39.drew = w40 at HO190 BK180 BK181 BK182 BK183 HB hx191_0 hx191_1 hx191_2 hHeld ⊢
           refine pv_ 0 37 (h := ?_)
           refine pv_ 2 39 (h := ?_)
           refine pv_ 6 43 (h := ?_)
           refine tk_ 1 38 (h := ?_)
           refine pv_ 3 40 (h := ?_)
           refine pv_ 4 41 (h := ?_)
           refine tk_ 5 42 (h := ?_)
           refine tk_ 7 44 (h := ?_)
           refine pv_ 8 45 (h := ?_)
           refine done_ (done_of HT_.out (by kernel_rfl)) ?_
           try go_wp2
           go_roundg kj14
           case measure => have := HK1.out; have := HJ14.out; omega
           case rel => exact ⟨(true), (wrap64 (x7_1 + 1)), (y188), (.slice Ao37 y188.length co37), (by first | rfl | (simp; done) | (simp [*]; done)), (by first | rfl | (simp; done) | (simp [*]; done)), H', ⟨by have := HK1.out; have := HJ14.out; omega⟩, ⟨by (with_reducible repeat (first | apply Kd.R_alloc | apply Kd.R_drewN | apply Kd.R_drew)); exact HO190.out⟩, ⟨xblk⟩, ⟨xblk⟩, ⟨xblk⟩, ⟨xblk⟩, ⟨xbg⟩⟩
          ·rw [if_neg c28] at H
           have c28b0 : (((rd_T134 l0_1 x7_1).f0) == a1_0) = false := beq_eq_false_iff_ne.mpr c28; have c28b1 : (((rd_T134 l0_1 x7_1).f0) != a1_0) = true := bne_iff_ne.mpr c28
           by_cases c41 : y188.length < 3518437208883
           ·rw [if_pos c41] at H
            have LMc41 := aM c41; clear c41
            obtain ⟨y193, hy193⟩ : ∃ y_ : List (S134), y_ = (y188 ++ [(⟨(rd_T134 l0_1 x7_1).f0, (rd_T134 l0_1 x7_1).f1, (rd_T134 l0_1 x7_1).f2⟩ : S134)]) := ⟨_, rfl⟩
            replace H : (spec_l3Put.l0 kj14 true (wrap64 (x7_1 + 1)) a0_0 l0_1 a1_0 a1_1 a1_2 a0_0 y193) = some (r1, r2) := by first | (rw [hy193]; with_reducible exact H) | (have H2_ := (Option.bind_some _ _).symm.trans H; rw [hy193]; with_reducible exact H2_) | (have H2_ := (Option.bind_some _ _).symm.trans H; with_reducible exact H2_) | with_reducible exact H | (rw [hy193]; exact H) | exact H
            have Ny193 := aM hy193; clear hy193
            have H' := aM H
            clear H; have hnb42 := NB183_180.out; have hnc42 := NB180_183.out; have hnb43 := NB183_181.out; have hnc43 := NB181_183.out; have hnb44 := NB183_182.out; have hnc44 := NB182_183.out; have hcz45_0 : wc.cell? ⟨gb183, 0, none⟩ = some (.int .i64 a0_0) := xc BK183 0 rfl; have hcz45_1 : wc.cell? ⟨gb183, 1, none⟩ = some (u184001) := xc BK183 1 rfl; have hfz45_0 := blk_frozen BK183.out 0; have hfz45_1 := blk_frozen BK183.out 1; have hnb46 := NB181_180.out; have hnc46 := NB180_181.out; have hnb47 := NB181_182.out; have hnc47 := NB182_181.out; have hcz48_0 : wc.cell? ⟨gb181, 0, none⟩ = some (.int .i64 a1_0) := xc BK181 0 rfl; have hcz48_1 : wc.cell? ⟨gb181, 1, none⟩ = some (.string a1_1) := xc BK181 1 rfl; have hcz48_2 : wc.cell? ⟨gb181, 2, none⟩ = some (.string a1_2) := xc BK181 2 rfl; have hfz48_0 := blk_frozen BK181.out 0; have hfz48_1 := blk_frozen BK181.out 1; have hfz48_2 := blk_frozen BK181.out 2
            try go_wp2_with (first | ((with_reducible refine gate_builtin (b := .append) (xs := #[.tmp 32, .tmp 34]) rfl ?_); at_builtin; refine Kd.R_append k134 (w0 := w) w.heap.size rfl (.tmp 32) (.tmp 34) 68 134 (.agg #[(.int .i64 0), (.string ⟨#[]⟩), (.string ⟨#[]⟩)]) 40 rfl Try.underlying68 info134 rfl (by decide) (by omega) u184001 x184001_1 (⟨a1_0, a1_1, a1_2⟩ : S134) [.int .i64 a1_0, .string a1_1, .string a1_2] (fun k_ => k_ ≠ gb181) (fun _ => False) rfl rfl ?aP (fun _ hk => hk.elim) ?aF ?aO ?aB ?aS ?aL ?_; (case aP => exact k134_mkM _ _ _ (⟨a1_0, a1_1, a1_2⟩ : S134)); (case aB => exact xbg); (case aF => exact (fun k_ hk => Kd.freshB (g := gb181) (o := .cells #[.int .i64 a1_0, .string a1_1, .string a1_2] 134 (0, 0)) xblk k_ hk)); (case aO => exact (xr HO_184001)); (case aS => exact (below_size xbg)); (case aL => have := LMc25.out; omega); intro v189 w49 ho hb hg hat; rw [← Ny188.out] at ho; have n0_ := aM (blk_grown (g := gb180) (o := .cells #[.int .i64 a0_0, .slice A0_1 l0_1.length c0_1] 70 (0, 0)) xblk hg (Kd.R_ne HO_184001.out BK180.out (by decide))); have n1_ := aM (blk_grown (g := gb181) (o := .cells #[.int .i64 a1_0, .string a1_1, .string a1_2] 134 (0, 0)) xblk hg (Kd.R_away HO_184001.out (fun _ hk => hk))); have n2_ := aM (blk_grown (g := gb182) (o := .cells #[.int .i64 0, .slice none 0 0] 70 (0, 0)) xblk hg (Kd.R_ne HO_184001.out BK182.out (by decide))); have n3_ := aM (blk_grown (g := gb183) (o := .cells #[.int .i64 a0_0, u184001] 70 (0, 0)) xblk hg (Kd.R_ne HO_184001.out BK183.out (by decide))); have n4_ := aM (hb); have n5_ := aM (ho); clear BK180; clear BK181; clear BK182; clear BK183; clear HB; clear HO_184001; have BK180 := n0_; have BK181 := n1_; have BK182 := n2_; have BK183 := n3_; have HB := n4_; have HO190 := n5_; clear n0_ n1_ n2_ n3_ n4_ n5_; clear ho hb hg hat; obtain ⟨Ao50, co50, eo50⟩ := Kd.R_slice HO190.out; subst eo50; have hcz51_0 : w49.cell? ⟨gb183, 0, none⟩ = some (.int .i64 a0_0) := xc BK183 0 rfl; have hcz51_1 : w49.cell? ⟨gb183, 1, none⟩ = some (u184001) := xc BK183 1 rfl; have hfz51_0 := blk_frozen BK183.out 0; have hfz51_1 := blk_frozen BK183.out 1))
            have n0_ : Aside0 (Kd.R k134 134 (w49.setCell ⟨gb183, 1, none⟩ (.slice Ao50 y188.length co50)) w.heap.size (fun k_ => k_ ≠ gb181) (.slice Ao50 y188.length co50) y188) := ⟨by (with_reducible repeat (first | apply Kd.R_alloc | apply Kd.R_drewN | apply Kd.R_drew)); exact Kd.R_mono (Kd.R_far (p := ⟨gb183, 1, none⟩) (Kd.R_types HO190.out BK183.out (by decide)) (fun _ hk => hk.2) (.slice Ao50 y188.length co50)) (fun _ hk => hk.1)⟩; have n1_ : Aside0 ((w49.setCell ⟨gb183, 1, none⟩ (.slice Ao50 y188.length co50)).heap[gb180]? = some (.cells #[.int .i64 a0_0, .slice A0_1 l0_1.length c0_1] 70 (0, 0))) := ⟨by (with_reducible repeat (first | refine blk_drewN ?_ _ | refine blk_drew ?_ | refine blk_alloc ?_ _)); refine blk_far ?_ NB180_183.out _; (with_reducible repeat (first | refine blk_drewN ?_ _ | refine blk_drew ?_ | refine blk_alloc ?_ _)); exact BK180.out⟩; have n2_ : Aside0 ((w49.setCell ⟨gb183, 1, none⟩ (.slice Ao50 y188.length co50)).heap[gb181]? = some (.cells #[.int .i64 a1_0, .string a1_1, .string a1_2] 134 (0, 0))) := ⟨by (with_reducible repeat (first | refine blk_drewN ?_ _ | refine blk_drew ?_ | refine blk_alloc ?_ _)); refine blk_far ?_ NB181_183.out _; (with_reducible repeat (first | refine blk_drewN ?_ _ | refine blk_drew ?_ | refine blk_alloc ?_ _)); exact BK181.out⟩; have n3_ : Aside0 ((w49.setCell ⟨gb183, 1, none⟩ (.slice Ao50 y188.length co50)).heap[gb182]? = some (.cells #[.int .i64 0, .slice none 0 0] 70 (0, 0))) := ⟨by (with_reducible repeat (first | refine blk_drewN ?_ _ | refine blk_drew ?_ | refine blk_alloc ?_ _)); refine blk_far ?_ NB182_183.out _; (with_reducible repeat (first | refine blk_drewN ?_ _ | refine blk_drew ?_ | refine blk_alloc ?_ _)); exact BK182.out⟩
            have n4_ : Aside0 ((w49.setCell ⟨gb183, 1, none⟩ (.slice Ao50 y188.length co50)).heap[gb183]? = some (.cells #[.int .i64 a0_0, .slice Ao50 y188.length co50] 70 (0, 0))) := ⟨by (with_reducible repeat (first | refine blk_drewN ?_ _ | refine blk_drew ?_ | refine blk_alloc ?_ _)); refine blk_put (cs := #[.int .i64 a0_0, u184001]) ?_ 1 _ rfl; (with_reducible repeat (first | refine blk_drewN ?_ _ | refine blk_drew ?_ | refine blk_alloc ?_ _)); exact BK183.out⟩; have n5_ : Aside0 (Below w.heap.size w (w49.setCell ⟨gb183, 1, none⟩ (.slice Ao50 y188.length co50))) := ⟨xbg⟩
            (try clear HO190); (try clear BK180); (try clear BK181); (try clear BK182); (try clear BK183); (try clear HB)
            generalize (w49.setCell ⟨gb183, 1, none⟩ (.slice Ao50 y188.length co50)) = w52 at n0_ n1_ n2_ n3_ n4_ n5_ ⊢
            have HO190 := n0_; have BK180 := n1_; have BK181 := n2_; have BK182 := n3_; have BK183 := n4_; have HB := n5_; clear n0_ n1_ n2_ n3_ n4_ n5_; replace HO190 := aM (Kd.R_drew HO190.out); replace BK180 := aM (blk_drew BK180.out); replace BK181 := aM (blk_drew BK181.out); replace BK182 := aM (blk_drew BK182.out); replace BK183 := aM (blk_drew BK183.out); replace HB := aM (below_drew1 HB.out); have p191 : 0 ≤ (x7_1 : Int) := of_decide_eq_true (by first | (with_reducible assumption) | assumption); have q191 : x7_1 < (l0_1.length : Int) := of_decide_eq_true (by first | (with_reducible assumption) | assumption)
            obtain ⟨ad191, e191, hx191_0, hx191_1, hx191_2⟩ := at_T134 HR0_1.out x7_1 p191 q191
            have hw191_2 := hx191_2; have hw191_1 := hx191_1; have hw191_0 := hx191_0
            cases e191
            replace hx191_0 := xce HB hx191_0; replace hx191_1 := xce HB hx191_1; replace hx191_2 := xce HB hx191_2; replace p191 := eq_true p191; replace q191 := eq_true q191
            refine start_ (n := 9) (S := fun w' => w'.cell? ⟨gb180, 0, none⟩ = some (.int .i64 a0_0) ∧ w'.cell? ⟨gb180, 1, none⟩ = some (.slice (some ad191) l0_1.length c0_1) ∧ w'.cell? ⟨gb181, 0, none⟩ = some (.int .i64 a1_0) ∧ w'.cell? ⟨gb181, 1, none⟩ = some (.string a1_1) ∧ w'.cell? ⟨gb181, 2, none⟩ = some (.string a1_2) ∧ w'.cell? (ad191.add ((x7_1).toNat * 3)) = some (.int .i64 ((rd_T134 l0_1 x7_1).f0)) ∧ w'.cell? ⟨(ad191.add ((x7_1).toNat * 3)).block, (ad191.add ((x7_1).toNat * 3)).off + 1, none⟩ = some (.string ((rd_T134 l0_1 x7_1).f1)) ∧ w'.cell? ⟨(ad191.add ((x7_1).toNat * 3)).block, (ad191.add ((x7_1).toNat * 3)).off + 2, none⟩ = some (.string ((rd_T134 l0_1 x7_1).f2))) (ds := []) #[false, false, false, false, false, false, false, false, false] (by kernel_rfl) rfl rfl ⟨xc BK180 0 rfl, xc BK180 1 rfl, xc BK181 0 rfl, xc BK181 1 rfl, xc BK181 2 rfl, (xce HB hw191_0), (xce HB hw191_1), (xce HB hw191_2)⟩ (fun hHeld => ?_); refine with_tabW spec_l3Put.tab9 spec_l3Put.bits9 (fun HT_ HW_ => ?_)
            generalize w52.drew = w53 at HO190 BK180 BK181 BK182 BK183 HB hx191_0 hx191_1 hx191_2 hHeld ⊢
            refine pv_ 0 37 (h := ?_)
            refine pv_ 2 39 (h := ?_)
            refine pv_ 6 43 (h := ?_)
            refine tk_ 1 38 (h := ?_)
            refine pv_ 3 40 (h := ?_)
            refine pv_ 4 41 (h := ?_)
            refine tk_ 5 42 (h := ?_)
            refine tk_ 7 44 (h := ?_)
            refine pv_ 8 45 (h := ?_)
            refine done_ (done_of HT_.out (by kernel_rfl)) ?_
            try go_wp2
            replace HO190 := aM (Kd.R_drew HO190.out); replace BK180 := aM (blk_drew BK180.out); replace BK181 := aM (blk_drew BK181.out); replace BK182 := aM (blk_drew BK182.out); replace BK183 := aM (blk_drew BK183.out); replace HB := aM (below_drew1 HB.out); have p192 : 0 ≤ (x7_1 : Int) := of_decide_eq_true (by first | (with_reducible assumption) | assumption); have q192 : x7_1 < (l0_1.length : Int) := of_decide_eq_true (by first | (with_reducible assumption) | assumption)
            obtain ⟨ad192, e192, hx192_0, hx192_1, hx192_2⟩ := at_T134 HR0_1.out x7_1 p192 q192
            have hw192_2 := hx192_2; have hw192_1 := hx192_1; have hw192_0 := hx192_0
            obtain rfl : ad191 = ad192 := (by injection e192)
            replace hx192_0 := xce HB hx192_0; replace hx192_1 := xce HB hx192_1; replace hx192_2 := xce HB hx192_2; replace p192 := eq_true p192; replace q192 := eq_true q192
            refine start_ (n := 11) (S := fun w' => w'.cell? ⟨gb183, 0, none⟩ = some (.int .i64 a0_0) ∧ w'.cell? ⟨gb183, 1, none⟩ = some (.slice Ao50 y188.length co50) ∧ w'.cell? ⟨gb180, 0, none⟩ = some (.int .i64 a0_0) ∧ w'.cell? ⟨gb180, 1, none⟩ = some (.slice (some ad191) l0_1.length c0_1) ∧ w'.cell? (ad191.add ((x7_1).toNat * 3)) = some (.int .i64 ((rd_T134 l0_1 x7_1).f0)) ∧ w'.cell? ⟨(ad191.add ((x7_1).toNat * 3)).block, (ad191.add ((x7_1).toNat * 3)).off + 1, none⟩ = some (.string ((rd_T134 l0_1 x7_1).f1)) ∧ w'.cell? ⟨(ad191.add ((x7_1).toNat * 3)).block, (ad191.add ((x7_1).toNat * 3)).off + 2, none⟩ = some (.string ((rd_T134 l0_1 x7_1).f2))) (ds := [10]) #[false, false, false, false, false, false, false, false, false, false, false] (by kernel_rfl) rfl rfl ⟨xc BK183 0 rfl, xc BK183 1 rfl, xc BK180 0 rfl, xc BK180 1 rfl, (xce HB hw192_0), (xce HB hw192_1), (xce HB hw192_2)⟩ (fun hHeld => ?_); refine with_tabW spec_l3Put.tab10 spec_l3Put.bits10 (fun HT_ HW_ => ?_)
            generalize w53.drew = w54 at HO190 BK180 BK181 BK182 BK183 HB hx192_0 hx192_1 hx192_2 hHeld ⊢
            refine pv_ 0 46 (h := ?_)
            refine pv_ 2 48 (h := ?_)
            refine pv_ 4 50 (h := ?_)
            refine tk_ 1 47 (h := ?_)
            refine tk_ 3 49 (h := ?_)
            refine pv_ 5 51 (h := ?_)
            refine tk_ 6 52 (h := ?_)
            refine on_ 7 53 (h := fun K hK => ?_)
            refine value_ (w1 := ?_) (v := ?_) (by rfl) rfl ?_ ?_
            rotate_left 2
            ·go_simp
             constructor
             ·rfl
             ·rfl
            refine hK.out _ _ ⟨(blk_cell (blk_alloc BK183.out _) 0).trans rfl, (blk_cell (blk_alloc BK183.out _) 1).trans rfl, (blk_cell (blk_alloc BK180.out _) 0).trans rfl, (blk_cell (blk_alloc BK180.out _) 1).trans rfl, (World.cell?_alloc_lt _ _ _ (World.block_lt_of_cell? _ _ ((xce HB hw192_0)))).trans ((xce HB hw192_0)), (World.cell?_alloc_lt _ _ _ (World.block_lt_of_cell? _ _ ((xce HB hw192_1)))).trans ((xce HB hw192_1)), (World.cell?_alloc_lt _ _ _ (World.block_lt_of_cell? _ _ ((xce HB hw192_2)))).trans ((xce HB hw192_2))⟩ (fun hHeld => ?_)
            clear hK K
            refine norm_ (a' := ?_) ?_ ?_
            rotate_left
            ·show Act.put _ (some 53) _ = _
             simp only [Act.put, List.setIfInBounds_toArray, List.set_cons_zero, List.set_cons_succ, i64_w, i32_w]
             rfl
            refine on_ 8 54 (h := fun K hK => ?_)
            refine Kd.R_append_step k134 (w0 := w) w.heap.size (by rfl) (.tmp 47) (.tmp 53) 68 134 (.agg #[(.int .i64 0), (.string ⟨#[]⟩), (.string ⟨#[]⟩)]) 40 rfl Try.underlying68 info134 rfl (by decide) (by omega) (.slice Ao50 y188.length co50) y188 (⟨(rd_T134 l0_1 x7_1).f0, (rd_T134 l0_1 x7_1).f1, (rd_T134 l0_1 x7_1).f2⟩ : S134) [.int .i64 ((rd_T134 l0_1 x7_1).f0), .string ((rd_T134 l0_1 x7_1).f1), .string ((rd_T134 l0_1 x7_1).f2)] (fun k_ => k_ ≠ gb181) (fun _ => False) rfl rfl ?aP (fun _ hk => hk.elim) ?aF ?aO ?aB ?aS ?aL ?_
            (case aP => exact k134_mkM _ _ _ (⟨(rd_T134 l0_1 x7_1).f0, (rd_T134 l0_1 x7_1).f1, (rd_T134 l0_1 x7_1).f2⟩ : S134))
            (case aB => exact xbg)
            (case aF => exact (fun k_ hk => Kd.freshB (g := gb181) (o := .cells #[.int .i64 a1_0, .string a1_1, .string a1_2] 134 (0, 0)) xblk k_ hk))
            (case aO => exact (xr HO190))
            (case aS => exact (below_size xbg))
            (case aL => have := LMc41.out; omega)
            intro v194 w55 ho hb hg hat
            rw [← Ny193.out] at ho
            have n0_ := aM (blk_grown (g := gb180) (o := .cells #[.int .i64 a0_0, .slice (some ad191) l0_1.length c0_1] 70 (0, 0)) xblk hg (Kd.R_ne HO190.out BK180.out (by decide))); have n1_ := aM (blk_grown (g := gb181) (o := .cells #[.int .i64 a1_0, .string a1_1, .string a1_2] 134 (0, 0)) xblk hg (Kd.R_away HO190.out (fun _ hk => hk))); have n2_ := aM (blk_grown (g := gb182) (o := .cells #[.int .i64 0, .slice none 0 0] 70 (0, 0)) xblk hg (Kd.R_ne HO190.out BK182.out (by decide))); have n3_ := aM (blk_grown (g := gb183) (o := .cells #[.int .i64 a0_0, .slice Ao50 y188.length co50] 70 (0, 0)) xblk hg (Kd.R_ne HO190.out BK183.out (by decide))); have n4_ := aM (hb); have n5_ := aM (ho); clear BK180 BK181 BK182 BK183 HB HO190; have BK180 := n0_; have BK181 := n1_; have BK182 := n2_; have BK183 := n3_; have HB := n4_; have HO195 := n5_; clear n0_ n1_ n2_ n3_ n4_ n5_ ho hb hg hat
            obtain ⟨Ao56, co56, eo56⟩ := Kd.R_slice HO195.out
            (first | subst eo56 | (injection eo56 with f1_ f2_ f3_; have f4_ := f1_.symm; have f5_ := f3_.symm; clear f1_ f2_ f3_; subst f4_; subst f5_))
            refine hK.out _ _ ⟨xc BK183 0 rfl, xc BK183 1 rfl, xc BK180 0 rfl, xc BK180 1 rfl, (xce HB hw192_0), (xce HB hw192_1), (xce HB hw192_2)⟩ (fun hHeld => ?_)
            clear hK K
            refine norm_ (a' := ?_) ?_ ?_
            rotate_left
            ·show Act.put _ (some 54) _ = _
             simp only [Act.put, List.setIfInBounds_toArray, List.set_cons_zero, List.set_cons_succ, i64_w, i32_w]
             rfl
            refine pv_ 9 55 (h := ?_)
            refine last_ (i := 10) (N := none) #[true, true, true, true, true, true, true, true, true, true, true] rfl rfl (one_of HT_.out (by kernel_rfl)) (by decide) (fun K hK => ?_)
            have hs57 : w55.cell? ⟨gb183, 1, none⟩ = some (.slice Ao50 y188.length co50) := xc BK183 1 rfl; have hfs57 := blk_frozen BK183.out 1; have hns57_0 := NB180_183.out; have hns57_1 := NB181_183.out; have hns57_2 := NB182_183.out; have hms57_0 := NB183_180.out; have hms57_1 := NB183_181.out; have hms57_2 := NB183_182.out
            refine skip_ (w1 := ?_) (by rfl) rfl ?_ ?_
            rotate_left
            ·go_simp
             rfl
            refine hK.out _ _ ?_
            clear hK K
            refine done_ (done_of HT_.out (by kernel_rfl)) ?_
            try go_wp2
            go_roundg kj14
            case measure => have := HK1.out; have := HJ14.out; omega
            case rel => exact ⟨(true), (wrap64 (x7_1 + 1)), (y193), (.slice Ao56 y193.length co56), (by first | rfl | (simp; done) | (simp [*]; done)), (by first | rfl | (simp; done) | (simp [*]; done)), H', ⟨by have := HK1.out; have := HJ14.out; omega⟩, ⟨by (with_reducible repeat (first | apply Kd.R_alloc | apply Kd.R_drewN | apply Kd.R_drew)); exact Kd.R_mono (Kd.R_far (p := ⟨gb183, 1, none⟩) (Kd.R_types HO195.out BK183.out (by decide)) (fun _ hk => hk.2) (.slice Ao56 y193.length co56)) (fun _ hk => hk.1)⟩, ⟨by (with_reducible repeat (first | refine blk_drewN ?_ _ | refine blk_drew ?_ | refine blk_alloc ?_ _)); refine blk_far ?_ NB180_183.out _; (with_reducible repeat (first | refine blk_drewN ?_ _ | refine blk_drew ?_ | refine blk_alloc ?_ _)); exact BK180.out⟩, ⟨by (with_reducible repeat (first | refine blk_drewN ?_ _ | refine blk_drew ?_ | refine blk_alloc ?_ _)); refine blk_far ?_ NB181_183.out _; (with_reducible repeat (first | refine blk_drewN ?_ _ | refine blk_drew ?_ | refine blk_alloc ?_ _)); exact BK181.out⟩, ⟨by (with_reducible repeat (first | refine blk_drewN ?_ _ | refine blk_drew ?_ | refine blk_alloc ?_ _)); refine blk_far ?_ NB182_183.out _; (with_reducible repeat (first | refine blk_drewN ?_ _ | refine blk_drew ?_ | refine blk_alloc ?_ _)); exact BK182.out⟩, ⟨by (with_reducible repeat (first | refine blk_drewN ?_ _ | refine blk_drew ?_ | refine blk_alloc ?_ _)); refine blk_put (cs := #[.int .i64 a0_0, .slice Ao50 y188.length co50]) ?_ 1 _ rfl; (with_reducible repeat (first | refine blk_drewN ?_ _ | refine blk_drew ?_ | refine blk_alloc ?_ _)); exact BK183.out⟩, ⟨xbg⟩⟩
           ·rw [if_neg c41] at H
            exact absurd H (by simp)
         ·rw [if_neg c27] at H
          exact absurd H (by simp)
        ·rw [if_neg c26] at H
         exact absurd H (by simp)
       ·rw [if_neg c25] at H
        exact absurd H (by simp)
      ·replace c24 := Bool.eq_false_iff.mpr c24
       subst c24
       have H1 : (if 0 ≤ x7_1 then (if x7_1 < (l0_1.length : Int) then (if ((rd_T134 l0_1 x7_1).f0) = a1_0 then (spec_l3Put.l0 kj14 x6_1 (wrap64 (x7_1 + 1)) a0_0 l0_1 a1_0 a1_1 a1_2 a0_0 x184001_1) else (if x184001_1.length < 3518437208883 then (spec_l3Put.l0 kj14 x6_1 (wrap64 (x7_1 + 1)) a0_0 l0_1 a1_0 a1_1 a1_2 a0_0 (x184001_1 ++ [(⟨(rd_T134 l0_1 x7_1).f0, (rd_T134 l0_1 x7_1).f1, (rd_T134 l0_1 x7_1).f2⟩ : S134)])) else (none))) else (none)) else (none)) = some (r1, r2) := by rw [if_neg (show ¬ (false = true) by decide)] at H; exact H
       clear H; have H := H1; clear H1
       by_cases c58 : 0 ≤ x7_1
       ·rw [if_pos c58] at H
        have c58b0 : decide (0 ≤ x7_1) = true := decide_eq_true c58; clear c58
        by_cases c59 : x7_1 < (l0_1.length : Int)
        ·rw [if_pos c59] at H
         have c59b0 : decide (x7_1 < (l0_1.length : Int)) = true := decide_eq_true c59; clear c59
         by_cases c60 : ((rd_T134 l0_1 x7_1).f0) = a1_0
         ·rw [if_pos c60] at H
          have c60b0 : (((rd_T134 l0_1 x7_1).f0) == a1_0) = true := beq_iff_eq.mpr c60; have c60b1 : (((rd_T134 l0_1 x7_1).f0) != a1_0) = false := bne_eq_false_iff_eq.mpr c60; clear c60
          have H' := aM H
          clear H
          try go_wp2
          replace HO_184001 := aM (Kd.R_drew HO_184001.out); replace BK180 := aM (blk_drew BK180.out); replace BK181 := aM (blk_drew BK181.out); replace BK182 := aM (blk_drew BK182.out); replace BK183 := aM (blk_drew BK183.out); replace HB := aM (below_drew1 HB.out); have p196 : 0 ≤ (x7_1 : Int) := of_decide_eq_true (by first | (with_reducible assumption) | assumption); have q196 : x7_1 < (l0_1.length : Int) := of_decide_eq_true (by first | (with_reducible assumption) | assumption)
          obtain ⟨ad196, e196, hx196_0, hx196_1, hx196_2⟩ := at_T134 HR0_1.out x7_1 p196 q196
          have hw196_2 := hx196_2; have hw196_1 := hx196_1; have hw196_0 := hx196_0
          cases e196
          replace hx196_0 := xce HB hx196_0; replace hx196_1 := xce HB hx196_1; replace hx196_2 := xce HB hx196_2; replace p196 := eq_true p196; replace q196 := eq_true q196
          refine start_ (n := 9) (S := fun w' => w'.cell? ⟨gb180, 0, none⟩ = some (.int .i64 a0_0) ∧ w'.cell? ⟨gb180, 1, none⟩ = some (.slice (some ad196) l0_1.length c0_1) ∧ w'.cell? ⟨gb181, 0, none⟩ = some (.int .i64 a1_0) ∧ w'.cell? ⟨gb181, 1, none⟩ = some (.string a1_1) ∧ w'.cell? ⟨gb181, 2, none⟩ = some (.string a1_2) ∧ w'.cell? (ad196.add ((x7_1).toNat * 3)) = some (.int .i64 ((rd_T134 l0_1 x7_1).f0)) ∧ w'.cell? ⟨(ad196.add ((x7_1).toNat * 3)).block, (ad196.add ((x7_1).toNat * 3)).off + 1, none⟩ = some (.string ((rd_T134 l0_1 x7_1).f1)) ∧ w'.cell? ⟨(ad196.add ((x7_1).toNat * 3)).block, (ad196.add ((x7_1).toNat * 3)).off + 2, none⟩ = some (.string ((rd_T134 l0_1 x7_1).f2))) (ds := []) #[false, false, false, false, false, false, false, false, false] (by kernel_rfl) rfl rfl ⟨xc BK180 0 rfl, xc BK180 1 rfl, xc BK181 0 rfl, xc BK181 1 rfl, xc BK181 2 rfl, (xce HB hw196_0), (xce HB hw196_1), (xce HB hw196_2)⟩ (fun hHeld => ?_); refine with_tabW spec_l3Put.tab9 spec_l3Put.bits9 (fun HT_ HW_ => ?_)
          generalize wc.drew = w61 at HO_184001 BK180 BK181 BK182 BK183 HB hx196_0 hx196_1 hx196_2 hHeld ⊢
          refine pv_ 0 37 (h := ?_)
          refine pv_ 2 39 (h := ?_)
          refine pv_ 6 43 (h := ?_)
          refine tk_ 1 38 (h := ?_)
          refine pv_ 3 40 (h := ?_)
          refine pv_ 4 41 (h := ?_)
          refine tk_ 5 42 (h := ?_)
          refine tk_ 7 44 (h := ?_)
          refine pv_ 8 45 (h := ?_)
          refine done_ (done_of HT_.out (by kernel_rfl)) ?_
          try go_wp2
          go_roundg kj14
          case measure => have := HK1.out; have := HJ14.out; omega
          case rel => exact ⟨(x6_1), (wrap64 (x7_1 + 1)), (x184001_1), (u184001), (by first | rfl | (simp; done) | (simp [*]; done)), (by first | rfl | (simp; done) | (simp [*]; done)), H', ⟨by have := HK1.out; have := HJ14.out; omega⟩, ⟨by (with_reducible repeat (first | apply Kd.R_alloc | apply Kd.R_drewN | apply Kd.R_drew)); exact HO_184001.out⟩, ⟨xblk⟩, ⟨xblk⟩, ⟨xblk⟩, ⟨xblk⟩, ⟨xbg⟩⟩
         ·rw [if_neg c60] at H
          have c60b0 : (((rd_T134 l0_1 x7_1).f0) == a1_0) = false := beq_eq_false_iff_ne.mpr c60; have c60b1 : (((rd_T134 l0_1 x7_1).f0) != a1_0) = true := bne_iff_ne.mpr c60
          by_cases c62 : x184001_1.length < 3518437208883
          ·rw [if_pos c62] at H
           have LMc62 := aM c62; clear c62
           obtain ⟨y198, hy198⟩ : ∃ y_ : List (S134), y_ = (x184001_1 ++ [(⟨(rd_T134 l0_1 x7_1).f0, (rd_T134 l0_1 x7_1).f1, (rd_T134 l0_1 x7_1).f2⟩ : S134)]) := ⟨_, rfl⟩
           replace H : (spec_l3Put.l0 kj14 x6_1 (wrap64 (x7_1 + 1)) a0_0 l0_1 a1_0 a1_1 a1_2 a0_0 y198) = some (r1, r2) := by first | (rw [hy198]; with_reducible exact H) | (have H2_ := (Option.bind_some _ _).symm.trans H; rw [hy198]; with_reducible exact H2_) | (have H2_ := (Option.bind_some _ _).symm.trans H; with_reducible exact H2_) | with_reducible exact H | (rw [hy198]; exact H) | exact H
           have Ny198 := aM hy198; clear hy198
           have H' := aM H
           clear H
           try go_wp2
           replace HO_184001 := aM (Kd.R_drew HO_184001.out); replace BK180 := aM (blk_drew BK180.out); replace BK181 := aM (blk_drew BK181.out); replace BK182 := aM (blk_drew BK182.out); replace BK183 := aM (blk_drew BK183.out); replace HB := aM (below_drew1 HB.out); have p196 : 0 ≤ (x7_1 : Int) := of_decide_eq_true (by first | (with_reducible assumption) | assumption); have q196 : x7_1 < (l0_1.length : Int) := of_decide_eq_true (by first | (with_reducible assumption) | assumption)
           obtain ⟨ad196, e196, hx196_0, hx196_1, hx196_2⟩ := at_T134 HR0_1.out x7_1 p196 q196
           have hw196_2 := hx196_2; have hw196_1 := hx196_1; have hw196_0 := hx196_0
           cases e196
           replace hx196_0 := xce HB hx196_0; replace hx196_1 := xce HB hx196_1; replace hx196_2 := xce HB hx196_2; replace p196 := eq_true p196; replace q196 := eq_true q196
           refine start_ (n := 9) (S := fun w' => w'.cell? ⟨gb180, 0, none⟩ = some (.int .i64 a0_0) ∧ w'.cell? ⟨gb180, 1, none⟩ = some (.slice (some ad196) l0_1.length c0_1) ∧ w'.cell? ⟨gb181, 0, none⟩ = some (.int .i64 a1_0) ∧ w'.cell? ⟨gb181, 1, none⟩ = some (.string a1_1) ∧ w'.cell? ⟨gb181, 2, none⟩ = some (.string a1_2) ∧ w'.cell? (ad196.add ((x7_1).toNat * 3)) = some (.int .i64 ((rd_T134 l0_1 x7_1).f0)) ∧ w'.cell? ⟨(ad196.add ((x7_1).toNat * 3)).block, (ad196.add ((x7_1).toNat * 3)).off + 1, none⟩ = some (.string ((rd_T134 l0_1 x7_1).f1)) ∧ w'.cell? ⟨(ad196.add ((x7_1).toNat * 3)).block, (ad196.add ((x7_1).toNat * 3)).off + 2, none⟩ = some (.string ((rd_T134 l0_1 x7_1).f2))) (ds := []) #[false, false, false, false, false, false, false, false, false] (by kernel_rfl) rfl rfl ⟨xc BK180 0 rfl, xc BK180 1 rfl, xc BK181 0 rfl, xc BK181 1 rfl, xc BK181 2 rfl, (xce HB hw196_0), (xce HB hw196_1), (xce HB hw196_2)⟩ (fun hHeld => ?_); refine with_tabW spec_l3Put.tab9 spec_l3Put.bits9 (fun HT_ HW_ => ?_)
           generalize wc.drew = w63 at HO_184001 BK180 BK181 BK182 BK183 HB hx196_0 hx196_1 hx196_2 hHeld ⊢
           refine pv_ 0 37 (h := ?_)
           refine pv_ 2 39 (h := ?_)
           refine pv_ 6 43 (h := ?_)
           refine tk_ 1 38 (h := ?_)
           refine pv_ 3 40 (h := ?_)
           refine pv_ 4 41 (h := ?_)
           refine tk_ 5 42 (h := ?_)
           refine tk_ 7 44 (h := ?_)
           refine pv_ 8 45 (h := ?_)
           refine done_ (done_of HT_.out (by kernel_rfl)) ?_
           try go_wp2
           replace HO_184001 := aM (Kd.R_drew HO_184001.out); replace BK180 := aM (blk_drew BK180.out); replace BK181 := aM (blk_drew BK181.out); replace BK182 := aM (blk_drew BK182.out); replace BK183 := aM (blk_drew BK183.out); replace HB := aM (below_drew1 HB.out); have p197 : 0 ≤ (x7_1 : Int) := of_decide_eq_true (by first | (with_reducible assumption) | assumption); have q197 : x7_1 < (l0_1.length : Int) := of_decide_eq_true (by first | (with_reducible assumption) | assumption)
           obtain ⟨ad197, e197, hx197_0, hx197_1, hx197_2⟩ := at_T134 HR0_1.out x7_1 p197 q197
           have hw197_2 := hx197_2; have hw197_1 := hx197_1; have hw197_0 := hx197_0
           obtain rfl : ad196 = ad197 := (by injection e197)
           replace hx197_0 := xce HB hx197_0; replace hx197_1 := xce HB hx197_1; replace hx197_2 := xce HB hx197_2; replace p197 := eq_true p197; replace q197 := eq_true q197
           refine start_ (n := 11) (S := fun w' => w'.cell? ⟨gb183, 0, none⟩ = some (.int .i64 a0_0) ∧ w'.cell? ⟨gb183, 1, none⟩ = some (u184001) ∧ w'.cell? ⟨gb180, 0, none⟩ = some (.int .i64 a0_0) ∧ w'.cell? ⟨gb180, 1, none⟩ = some (.slice (some ad196) l0_1.length c0_1) ∧ w'.cell? (ad196.add ((x7_1).toNat * 3)) = some (.int .i64 ((rd_T134 l0_1 x7_1).f0)) ∧ w'.cell? ⟨(ad196.add ((x7_1).toNat * 3)).block, (ad196.add ((x7_1).toNat * 3)).off + 1, none⟩ = some (.string ((rd_T134 l0_1 x7_1).f1)) ∧ w'.cell? ⟨(ad196.add ((x7_1).toNat * 3)).block, (ad196.add ((x7_1).toNat * 3)).off + 2, none⟩ = some (.string ((rd_T134 l0_1 x7_1).f2))) (ds := [10]) #[false, false, false, false, false, false, false, false, false, false, false] (by kernel_rfl) rfl rfl ⟨xc BK183 0 rfl, xc BK183 1 rfl, xc BK180 0 rfl, xc BK180 1 rfl, (xce HB hw197_0), (xce HB hw197_1), (xce HB hw197_2)⟩ (fun hHeld => ?_); refine with_tabW spec_l3Put.tab10 spec_l3Put.bits10 (fun HT_ HW_ => ?_)
           generalize w63.drew = w64 at HO_184001 BK180 BK181 BK182 BK183 HB hx197_0 hx197_1 hx197_2 hHeld ⊢
           refine pv_ 0 46 (h := ?_)
           refine pv_ 2 48 (h := ?_)
           refine pv_ 4 50 (h := ?_)
           refine tk_ 1 47 (h := ?_)
           refine tk_ 3 49 (h := ?_)
           refine pv_ 5 51 (h := ?_)
           refine tk_ 6 52 (h := ?_)
           refine on_ 7 53 (h := fun K hK => ?_)
           refine value_ (w1 := ?_) (v := ?_) (by rfl) rfl ?_ ?_
           rotate_left 2
           ·go_simp
            constructor
            ·rfl
            ·rfl
           refine hK.out _ _ ⟨(blk_cell (blk_alloc BK183.out _) 0).trans rfl, (blk_cell (blk_alloc BK183.out _) 1).trans rfl, (blk_cell (blk_alloc BK180.out _) 0).trans rfl, (blk_cell (blk_alloc BK180.out _) 1).trans rfl, (World.cell?_alloc_lt _ _ _ (World.block_lt_of_cell? _ _ ((xce HB hw197_0)))).trans ((xce HB hw197_0)), (World.cell?_alloc_lt _ _ _ (World.block_lt_of_cell? _ _ ((xce HB hw197_1)))).trans ((xce HB hw197_1)), (World.cell?_alloc_lt _ _ _ (World.block_lt_of_cell? _ _ ((xce HB hw197_2)))).trans ((xce HB hw197_2))⟩ (fun hHeld => ?_)
           clear hK K
           refine norm_ (a' := ?_) ?_ ?_
           rotate_left
           ·show Act.put _ (some 53) _ = _
            simp only [Act.put, List.setIfInBounds_toArray, List.set_cons_zero, List.set_cons_succ, i64_w, i32_w]
            rfl
           refine on_ 8 54 (h := fun K hK => ?_)
           refine Kd.R_append_step k134 (w0 := w) w.heap.size (by rfl) (.tmp 47) (.tmp 53) 68 134 (.agg #[(.int .i64 0), (.string ⟨#[]⟩), (.string ⟨#[]⟩)]) 40 rfl Try.underlying68 info134 rfl (by decide) (by omega) u184001 x184001_1 (⟨(rd_T134 l0_1 x7_1).f0, (rd_T134 l0_1 x7_1).f1, (rd_T134 l0_1 x7_1).f2⟩ : S134) [.int .i64 ((rd_T134 l0_1 x7_1).f0), .string ((rd_T134 l0_1 x7_1).f1), .string ((rd_T134 l0_1 x7_1).f2)] (fun k_ => k_ ≠ gb181) (fun _ => False) rfl rfl ?aP (fun _ hk => hk.elim) ?aF ?aO ?aB ?aS ?aL ?_
           (case aP => exact k134_mkM _ _ _ (⟨(rd_T134 l0_1 x7_1).f0, (rd_T134 l0_1 x7_1).f1, (rd_T134 l0_1 x7_1).f2⟩ : S134))
           (case aB => exact xbg)
           (case aF => exact (fun k_ hk => Kd.freshB (g := gb181) (o := .cells #[.int .i64 a1_0, .string a1_1, .string a1_2] 134 (0, 0)) xblk k_ hk))
           (case aO => exact (xr HO_184001))
           (case aS => exact (below_size xbg))
           (case aL => have := LMc62.out; omega)
           intro v199 w65 ho hb hg hat
           rw [← Ny198.out] at ho
           have n0_ := aM (blk_grown (g := gb180) (o := .cells #[.int .i64 a0_0, .slice (some ad196) l0_1.length c0_1] 70 (0, 0)) xblk hg (Kd.R_ne HO_184001.out BK180.out (by decide))); have n1_ := aM (blk_grown (g := gb181) (o := .cells #[.int .i64 a1_0, .string a1_1, .string a1_2] 134 (0, 0)) xblk hg (Kd.R_away HO_184001.out (fun _ hk => hk))); have n2_ := aM (blk_grown (g := gb182) (o := .cells #[.int .i64 0, .slice none 0 0] 70 (0, 0)) xblk hg (Kd.R_ne HO_184001.out BK182.out (by decide))); have n3_ := aM (blk_grown (g := gb183) (o := .cells #[.int .i64 a0_0, u184001] 70 (0, 0)) xblk hg (Kd.R_ne HO_184001.out BK183.out (by decide))); have n4_ := aM (hb); have n5_ := aM (ho); clear BK180 BK181 BK182 BK183 HB HO_184001; have BK180 := n0_; have BK181 := n1_; have BK182 := n2_; have BK183 := n3_; have HB := n4_; have HO200 := n5_; clear n0_ n1_ n2_ n3_ n4_ n5_ ho hb hg hat
           obtain ⟨Ao66, co66, eo66⟩ := Kd.R_slice HO200.out
           (first | subst eo66 | (injection eo66 with f1_ f2_ f3_; have f4_ := f1_.symm; have f5_ := f3_.symm; clear f1_ f2_ f3_; subst f4_; subst f5_))
           refine hK.out _ _ ⟨xc BK183 0 rfl, xc BK183 1 rfl, xc BK180 0 rfl, xc BK180 1 rfl, (xce HB hw197_0), (xce HB hw197_1), (xce HB hw197_2)⟩ (fun hHeld => ?_)
           clear hK K
           refine norm_ (a' := ?_) ?_ ?_
           rotate_left
           ·show Act.put _ (some 54) _ = _
            simp only [Act.put, List.setIfInBounds_toArray, List.set_cons_zero, List.set_cons_succ, i64_w, i32_w]
            rfl
           refine pv_ 9 55 (h := ?_)
           refine last_ (i := 10) (N := none) #[true, true, true, true, true, true, true, true, true, true, true] rfl rfl (one_of HT_.out (by kernel_rfl)) (by decide) (fun K hK => ?_)
           have hs67 : w65.cell? ⟨gb183, 1, none⟩ = some (u184001) := xc BK183 1 rfl; have hfs67 := blk_frozen BK183.out 1; have hns67_0 := NB180_183.out; have hns67_1 := NB181_183.out; have hns67_2 := NB182_183.out; have hms67_0 := NB183_180.out; have hms67_1 := NB183_181.out; have hms67_2 := NB183_182.out
           refine skip_ (w1 := ?_) (by rfl) rfl ?_ ?_
           rotate_left
           ·go_simp
            rfl
           refine hK.out _ _ ?_
           clear hK K
           refine done_ (done_of HT_.out (by kernel_rfl)) ?_
           try go_wp2
           go_roundg kj14
           case measure => have := HK1.out; have := HJ14.out; omega
           case rel => exact ⟨(x6_1), (wrap64 (x7_1 + 1)), (y198), (.slice Ao66 y198.length co66), (by first | rfl | (simp; done) | (simp [*]; done)), (by first | rfl | (simp; done) | (simp [*]; done)), H', ⟨by have := HK1.out; have := HJ14.out; omega⟩, ⟨by (with_reducible repeat (first | apply Kd.R_alloc | apply Kd.R_drewN | apply Kd.R_drew)); exact Kd.R_mono (Kd.R_far (p := ⟨gb183, 1, none⟩) (Kd.R_types HO200.out BK183.out (by decide)) (fun _ hk => hk.2) (.slice Ao66 y198.length co66)) (fun _ hk => hk.1)⟩, ⟨by (with_reducible repeat (first | refine blk_drewN ?_ _ | refine blk_drew ?_ | refine blk_alloc ?_ _)); refine blk_far ?_ NB180_183.out _; (with_reducible repeat (first | refine blk_drewN ?_ _ | refine blk_drew ?_ | refine blk_alloc ?_ _)); exact BK180.out⟩, ⟨by (with_reducible repeat (first | refine blk_drewN ?_ _ | refine blk_drew ?_ | refine blk_alloc ?_ _)); refine blk_far ?_ NB181_183.out _; (with_reducible repeat (first | refine blk_drewN ?_ _ | refine blk_drew ?_ | refine blk_alloc ?_ _)); exact BK181.out⟩, ⟨by (with_reducible repeat (first | refine blk_drewN ?_ _ | refine blk_drew ?_ | refine blk_alloc ?_ _)); refine blk_far ?_ NB182_183.out _; (with_reducible repeat (first | refine blk_drewN ?_ _ | refine blk_drew ?_ | refine blk_alloc ?_ _)); exact BK182.out⟩, ⟨by (with_reducible repeat (first | refine blk_drewN ?_ _ | refine blk_drew ?_ | refine blk_alloc ?_ _)); refine blk_put (cs := #[.int .i64 a0_0, u184001]) ?_ 1 _ rfl; (with_reducible repeat (first | refine blk_drewN ?_ _ | refine blk_drew ?_ | refine blk_alloc ?_ _)); exact BK183.out⟩, ⟨xbg⟩⟩
          ·rw [if_neg c62] at H
           exact absurd H (by simp)
        ·rw [if_neg c59] at H
         exact absurd H (by simp)
       ·rw [if_neg c58] at H
        exact absurd H (by simp)
   ·rw [if_neg c14] at H
    have c14b0 : decide (x7_1 < (l0_1.length : Int)) = false := decide_eq_false c14; clear c14
    by_cases c68 : x6_1 = true
    ·subst c68
     have H1 : (some (a0_0, x184001_1)) = some (r1, r2) := by rw [if_pos rfl] at H; exact H
     clear H; have H := H1; clear H1
     simp only [Option.some.injEq, Prod.mk.injEq] at H
     obtain ⟨rfl, rfl⟩ := H
     have hnb69 := NB180_181.out; have hnc69 := NB181_180.out; have hnb70 := NB180_182.out; have hnc70 := NB182_180.out; have hnb71 := NB180_183.out; have hnc71 := NB183_180.out; have hcz72_0 : wr.cell? ⟨gb180, 0, none⟩ = some (.int .i64 a0_0) := xc BK180 0 rfl; have hcz72_1 : wr.cell? ⟨gb180, 1, none⟩ = some (.slice A0_1 l0_1.length c0_1) := xc BK180 1 rfl; have hfz72_0 := blk_frozen BK180.out 0; have hfz72_1 := blk_frozen BK180.out 1; have hnb73 := NB183_181.out; have hnc73 := NB181_183.out; have hnb74 := NB183_182.out; have hnc74 := NB182_183.out; have hcz75_0 : wr.cell? ⟨gb183, 0, none⟩ = some (.int .i64 a0_0) := xc BK183 0 rfl; have hcz75_1 : wr.cell? ⟨gb183, 1, none⟩ = some (u184001) := xc BK183 1 rfl; have hfz75_0 := blk_frozen BK183.out 0; have hfz75_1 := blk_frozen BK183.out 1; have hnb76 := NB182_181.out; have hnc76 := NB181_182.out; have hcz77_0 : wr.cell? ⟨gb182, 0, none⟩ = some (.int .i64 0) := xc BK182 0 rfl; have hcz77_1 : wr.cell? ⟨gb182, 1, none⟩ = some (.slice none 0 0) := xc BK182 1 rfl; have hfz77_0 := blk_frozen BK182.out 0; have hfz77_1 := blk_frozen BK182.out 1
     obtain ⟨Ao78, co78, eo78⟩ := Kd.R_slice HO_184001.out
     subst eo78
     go_wp2
     refine bodyPost_ret (results_cell_row rfl _ _ gb182 70 #[.int .i64 a0_0, .slice Ao78 x184001_1.length co78] (0, 0) _ rfl (by (with_reducible repeat (first | refine blk_drewN ?_ _ | refine blk_drew ?_ | refine blk_alloc ?_ _)); refine blk_put (cs := #[.int .i64 a0_0, .slice none 0 0]) ?_ 1 _ rfl; (with_reducible repeat (first | refine blk_drewN ?_ _ | refine blk_drew ?_ | refine blk_alloc ?_ _)); refine blk_put (cs := #[.int .i64 0, .slice none 0 0]) ?_ 0 _ rfl; (with_reducible repeat (first | refine blk_drewN ?_ _ | refine blk_drew ?_ | refine blk_alloc ?_ _)); exact BK182.out) Try.underlying70 rfl (by kernel_rfl)) rfl ?_
     exact ⟨_, by first | rfl | (simp [errW_none, errW_some] <;> rfl) | (simp [*, errW_none, errW_some] <;> rfl), by (with_reducible repeat (first | apply Kd.R_alloc | apply Kd.R_drewN | apply Kd.R_drew)); exact Kd.R_mono (Kd.R_far (p := ⟨gb182, 1, none⟩) (Kd.R_far (p := ⟨gb182, 0, none⟩) (Kd.R_types HO_184001.out BK182.out (by decide)) (fun _ hk => hk.2) (.int .i64 a0_0)) (fun _ hk => hk.2) (.slice Ao78 x184001_1.length co78)) (fun _ hk => trivial), xbg⟩
    ·replace c68 := Bool.eq_false_iff.mpr c68
     subst c68
     have H1 : (if x184001_1.length < 3518437208883 then (some (a0_0, (x184001_1 ++ [(⟨a1_0, a1_1, a1_2⟩ : S134)]))) else (none)) = some (r1, r2) := by rw [if_neg (show ¬ (false = true) by decide)] at H; exact H
     clear H; have H := H1; clear H1
     by_cases c79 : x184001_1.length < 3518437208883
     ·rw [if_pos c79] at H
      have LMc79 := aM c79; clear c79
      obtain ⟨y184, hy184⟩ : ∃ y_ : List (S134), y_ = (x184001_1 ++ [(⟨a1_0, a1_1, a1_2⟩ : S134)]) := ⟨_, rfl⟩
      replace H : (some (a0_0, y184)) = some (r1, r2) := by first | (rw [hy184]; with_reducible exact H) | (have H2_ := (Option.bind_some _ _).symm.trans H; rw [hy184]; with_reducible exact H2_) | (have H2_ := (Option.bind_some _ _).symm.trans H; with_reducible exact H2_) | with_reducible exact H | (rw [hy184]; exact H) | exact H
      have Ny184 := aM hy184; clear hy184
      simp only [Option.some.injEq, Prod.mk.injEq] at H
      obtain ⟨rfl, rfl⟩ := H
      have hnb80 := NB180_181.out; have hnc80 := NB181_180.out; have hnb81 := NB180_182.out; have hnc81 := NB182_180.out; have hnb82 := NB180_183.out; have hnc82 := NB183_180.out; have hcz83_0 : wr.cell? ⟨gb180, 0, none⟩ = some (.int .i64 a0_0) := xc BK180 0 rfl; have hcz83_1 : wr.cell? ⟨gb180, 1, none⟩ = some (.slice A0_1 l0_1.length c0_1) := xc BK180 1 rfl; have hfz83_0 := blk_frozen BK180.out 0; have hfz83_1 := blk_frozen BK180.out 1; have hnb84 := NB183_181.out; have hnc84 := NB181_183.out; have hnb85 := NB183_182.out; have hnc85 := NB182_183.out; have hcz86_0 : wr.cell? ⟨gb183, 0, none⟩ = some (.int .i64 a0_0) := xc BK183 0 rfl; have hcz86_1 : wr.cell? ⟨gb183, 1, none⟩ = some (u184001) := xc BK183 1 rfl; have hfz86_0 := blk_frozen BK183.out 0; have hfz86_1 := blk_frozen BK183.out 1; have hnb87 := NB181_182.out; have hnc87 := NB182_181.out; have hcz88_0 : wr.cell? ⟨gb181, 0, none⟩ = some (.int .i64 a1_0) := xc BK181 0 rfl; have hcz88_1 : wr.cell? ⟨gb181, 1, none⟩ = some (.string a1_1) := xc BK181 1 rfl; have hcz88_2 : wr.cell? ⟨gb181, 2, none⟩ = some (.string a1_2) := xc BK181 2 rfl; have hfz88_0 := blk_frozen BK181.out 0; have hfz88_1 := blk_frozen BK181.out 1; have hfz88_2 := blk_frozen BK181.out 2
      go_wp2_with (first | ((with_reducible refine gate_builtin (b := .append) (xs := #[.tmp 59, .tmp 61]) rfl ?_); at_builtin; refine Kd.R_append k134 (w0 := w) w.heap.size rfl (.tmp 59) (.tmp 61) 68 134 (.agg #[(.int .i64 0), (.string ⟨#[]⟩), (.string ⟨#[]⟩)]) 40 rfl Try.underlying68 info134 rfl (by decide) (by omega) u184001 x184001_1 (⟨a1_0, a1_1, a1_2⟩ : S134) [.int .i64 a1_0, .string a1_1, .string a1_2] (fun k_ => k_ ≠ gb181) (fun _ => False) rfl rfl ?aP (fun _ hk => hk.elim) ?aF ?aO ?aB ?aS ?aL ?_; (case aP => exact k134_mkM _ _ _ (⟨a1_0, a1_1, a1_2⟩ : S134)); (case aB => exact xbg); (case aF => exact (fun k_ hk => Kd.freshB (g := gb181) (o := .cells #[.int .i64 a1_0, .string a1_1, .string a1_2] 134 (0, 0)) xblk k_ hk)); (case aO => exact (xr HO_184001)); (case aS => exact (below_size xbg)); (case aL => have := LMc79.out; omega); intro v185 w89 ho hb hg hat; rw [← Ny184.out] at ho; have n0_ := aM (blk_grown (g := gb180) (o := .cells #[.int .i64 a0_0, .slice A0_1 l0_1.length c0_1] 70 (0, 0)) xblk hg (Kd.R_ne HO_184001.out BK180.out (by decide))); have n1_ := aM (blk_grown (g := gb181) (o := .cells #[.int .i64 a1_0, .string a1_1, .string a1_2] 134 (0, 0)) xblk hg (Kd.R_away HO_184001.out (fun _ hk => hk))); have n2_ := aM (blk_grown (g := gb182) (o := .cells #[.int .i64 0, .slice none 0 0] 70 (0, 0)) xblk hg (Kd.R_ne HO_184001.out BK182.out (by decide))); have n3_ := aM (blk_grown (g := gb183) (o := .cells #[.int .i64 a0_0, u184001] 70 (0, 0)) xblk hg (Kd.R_ne HO_184001.out BK183.out (by decide))); have n4_ := aM (hb); have n5_ := aM (ho); clear BK180; clear BK181; clear BK182; clear BK183; clear HB; clear HO_184001; have BK180 := n0_; have BK181 := n1_; have BK182 := n2_; have BK183 := n3_; have HB := n4_; have HO186 := n5_; clear n0_ n1_ n2_ n3_ n4_ n5_; clear ho hb hg hat; obtain ⟨Ao90, co90, eo90⟩ := Kd.R_slice HO186.out; subst eo90; have hcz91_0 : w89.cell? ⟨gb183, 0, none⟩ = some (.int .i64 a0_0) := xc BK183 0 rfl; have hcz91_1 : w89.cell? ⟨gb183, 1, none⟩ = some (u184001) := xc BK183 1 rfl; have hfz91_0 := blk_frozen BK183.out 0; have hfz91_1 := blk_frozen BK183.out 1; have hcz92_0 : w89.cell? ⟨gb182, 0, none⟩ = some (.int .i64 0) := xc BK182 0 rfl; have hcz92_1 : w89.cell? ⟨gb182, 1, none⟩ = some (.slice none 0 0) := xc BK182 1 rfl; have hfz92_0 := blk_frozen BK182.out 0; have hfz92_1 := blk_frozen BK182.out 1))
      refine bodyPost_ret (results_cell_row rfl _ _ gb182 70 #[.int .i64 a0_0, .slice Ao90 y184.length co90] (0, 0) _ rfl (by (with_reducible repeat (first | refine blk_drewN ?_ _ | refine blk_drew ?_ | refine blk_alloc ?_ _)); refine blk_put (cs := #[.int .i64 a0_0, .slice none 0 0]) ?_ 1 _ rfl; (with_reducible repeat (first | refine blk_drewN ?_ _ | refine blk_drew ?_ | refine blk_alloc ?_ _)); refine blk_put (cs := #[.int .i64 0, .slice none 0 0]) ?_ 0 _ rfl; (with_reducible repeat (first | refine blk_drewN ?_ _ | refine blk_drew ?_ | refine blk_alloc ?_ _)); refine blk_far ?_ NB182_183.out _; (with_reducible repeat (first | refine blk_drewN ?_ _ | refine blk_drew ?_ | refine blk_alloc ?_ _)); exact BK182.out) Try.underlying70 rfl (by kernel_rfl)) rfl ?_
      exact ⟨_, by first | rfl | (simp [errW_none, errW_some] <;> rfl) | (simp [*, errW_none, errW_some] <;> rfl), by (with_reducible repeat (first | apply Kd.R_alloc | apply Kd.R_drewN | apply Kd.R_drew)); exact Kd.R_mono (Kd.R_far (p := ⟨gb182, 1, none⟩) (Kd.R_far (p := ⟨gb182, 0, none⟩) (Kd.R_far (p := ⟨gb183, 1, none⟩) (Kd.R_types (Kd.R_types HO186.out BK183.out (by decide)) BK182.out (by decide)) (fun _ hk => hk.1.2) (.slice Ao90 y184.length co90)) (fun _ hk => hk.2) (.int .i64 a0_0)) (fun _ hk => hk.2) (.slice Ao90 y184.length co90)) (fun _ hk => trivial), xbg⟩
     ·rw [if_neg c79] at H
      exact absurd H (by simp)

/-! ### spec_DiskAppend: function 38 -/
def spec_DiskAppend.j0 : Nat → Int → ByteArray → Bool → Int → List (S134) → Option (Int × (List (S134)) × Int)
 | 0, _, _, _, _, _ => none
 | k + 1, x1, x2, x10, x202000, x202001 => if x10 = true then (some (0, ([] : List (S134)), 1)) else ((spec_l3Size.f k x202000 x202001).bind fun t205 => (if (x2.size : Int) > (wrap64 (x202000 - t205)) then ((spec_l3Copy.f x202000 x202001).bind fun bt206 => (some (bt206.1, bt206.2, 3))) else ((spec_l3Find.f k x202000 x202001 x1).bind fun t211 => (if t211 ≥ 0 then (if 0 ≤ t211 then (if t211 < (x202001.length : Int) then (if ((rd_T134 x202001 t211).f2).size + x2.size ≤ 9223372036854775807 then ((spec_l3Put.f k x202000 x202001 ((rd_T134 x202001 t211).f0) ((rd_T134 x202001 t211).f1) (((rd_T134 x202001 t211).f2) ++ x2)).bind fun bt213 => (some (bt213.1, bt213.2, 0))) else (none)) else (none)) else (none)) else (if 0 + x2.size ≤ 9223372036854775807 then ((spec_l3Put.f k x202000 x202001 x1 (⟨#[]⟩ : ByteArray) ((⟨#[]⟩ : ByteArray) ++ x2)).bind fun bt217 => (some (bt217.1, bt217.2, 0))) else (none))))))
def spec_DiskAppend.f (k : Nat) (a0_0 : Int) (l0_1 : List (S134)) (a1 : Int) (a2 : ByteArray) : Option (Int × (List (S134)) × Int) := (spec_DiskOk.f k a0_0 l0_1).bind fun t203 => (if t203 = true then ((spec_l3Name.f a1).bind fun t204 => (spec_DiskAppend.j0 k a1 a2 (!t204) a0_0 l0_1)) else (spec_DiskAppend.j0 k a1 a2 true a0_0 l0_1))
set_option maxRecDepth 100000 in
theorem spec_DiskAppend.mono_l : ∀ k, (∀ y0 y1 y2 y3 y4, LeO (spec_DiskAppend.j0 k y0 y1 y2 y3 y4) (spec_DiskAppend.j0 (k + 1) y0 y1 y2 y3 y4))
 | 0 => fun _ _ _ _ _ r h => by simp [spec_DiskAppend.j0] at h
 | k + 1 => by
  have ih0 := spec_DiskAppend.mono_l k
  ·intro y0 y1 y2 y3 y4
   unfold spec_DiskAppend.j0
   repeat' first
   | (with_reducible exact ih0 _ _ _ _ _)
   | (with_reducible exact spec_DiskOk.mono _ _ _)
   | (with_reducible exact spec_l3Find.mono _ _ _ _)
   | (with_reducible exact spec_l3Put.mono _ _ _ _ _ _)
   | (with_reducible exact spec_l3Size.mono _ _ _)
   | (with_reducible exact LeO.refl _)
   | (with_reducible exact LeO.none _)
   | (with_reducible refine LeO.ite ?_ ?_)
   | (with_reducible refine LeO.bind ?_ (fun _ => ?_))
   | exact ih0 _ _ _ _ _
   | exact spec_DiskOk.mono _ _ _
   | exact spec_l3Find.mono _ _ _ _
   | exact spec_l3Put.mono _ _ _ _ _ _
   | exact spec_l3Size.mono _ _ _
   | exact LeO.none _
   | refine LeO.ite ?_ ?_
   | refine LeO.bind ?_ (fun _ => ?_)
theorem spec_DiskAppend.mono : ∀ a0 a1 a2 a3 k, LeO (spec_DiskAppend.f k a0 a1 a2 a3) (spec_DiskAppend.f (k + 1) a0 a1 a2 a3) := by
 intro a0 a1 a2 a3 k
 have ih0 := spec_DiskAppend.mono_l k
 unfold spec_DiskAppend.f
 repeat' first
  | (with_reducible exact ih0 _ _ _ _ _)
  | (with_reducible exact spec_DiskOk.mono _ _ _)
  | (with_reducible exact spec_l3Find.mono _ _ _ _)
  | (with_reducible exact spec_l3Put.mono _ _ _ _ _ _)
  | (with_reducible exact spec_l3Size.mono _ _ _)
  | (with_reducible exact LeO.refl _)
  | (with_reducible exact LeO.none _)
  | (with_reducible refine LeO.ite ?_ ?_)
  | (with_reducible refine LeO.bind ?_ (fun _ => ?_))
  | exact ih0 _ _ _ _ _
  | exact spec_DiskOk.mono _ _ _
  | exact spec_l3Find.mono _ _ _ _
  | exact spec_l3Put.mono _ _ _ _ _ _
  | exact spec_l3Size.mono _ _ _
  | exact LeO.none _
  | refine LeO.ite ?_ ?_
  | refine LeO.bind ?_ (fun _ => ?_)
def spec_DiskAppend.T3 : Bool × List (List Nat × List Nat) := (true, [([], []), ([0], [0]), ([], []), ([2], [2]), ([], []), ([4], [4]), ([3, 5], [3, 5]), ([1, 6], [1, 6]), ([7, 5], [7])])
def spec_DiskAppend.B3 : List Nat := [0, 1, 0, 4, 0, 16, 60, 127, 255]
theorem spec_DiskAppend.tab3 : rtab .any (opsOf Try.f38 3) = spec_DiskAppend.T3 := by kernel_rfl
theorem spec_DiskAppend.bits3 : waitsOk spec_DiskAppend.T3.2 spec_DiskAppend.B3 = true := by kernel_rfl
set_option maxHeartbeats 8000000 in
set_option maxRecDepth 100000 in
theorem spec_DiskAppend.calls (k : Nat) (a0_0 : Int) (A0_1 : Option Addr) (c0_1 : Nat) (l0_1 : List (S134)) (a1 : Int) (a2 : ByteArray) (r1 : Int) (r2 : List (S134)) (r3 : Int) (w : World) (hr0_1 : Kd.C k134 w A0_1 l0_1.length l0_1) (hc0_1 : l0_1.length ≤ c0_1) (h : spec_DiskAppend.f k a0_0 l0_1 a1 a2 = some (r1, r2, r3)) :
 Calls Try.prog 38 #[.agg #[.int .i64 a0_0, .slice A0_1 l0_1.length c0_1], .int .i64 a1, .string a2] w fun e w' => ∃ v1_ : Value, e = .returned (.tuple #[.agg #[.int .i64 r1, v1_], .int .i64 r3]) ∧ Kd.R k134 134 w' w.heap.size (fun _ => True) v1_ r2 ∧ Below w.heap.size w w' := by
 have hu70 := Try.underlying70
 have hu134 := Try.underlying134
 have HR0_1 := aM hr0_1
 have HC0_1 := aM hc0_1
 clear hr0_1 hc0_1
 have HB := aM (Below.refl w.heap.size w)
 have H : ((spec_DiskOk.f k a0_0 l0_1).bind fun t203 => (if t203 = true then ((spec_l3Name.f a1).bind fun t204 => (spec_DiskAppend.j0 k a1 a2 (!t204) a0_0 l0_1)) else (spec_DiskAppend.j0 k a1 a2 true a0_0 l0_1))) = some (r1, r2, r3) := h
 clear h
 have HC4 := aM H
 clear H
 go_enter Try.func38, Try.ntmps38
 go_upto_region 1 with (first | ((with_reducible refine gate_dst (N := 3) rfl ?_); refine box_event ?hg (N := 3) ?hd (cs := #[.int .i64 a0_0, .slice A0_1 l0_1.length c0_1]) (t := 70) ?hr ?_; (case hd => rfl); (case hg => rfl); (case hr => first | (go_simp; done) | (go_simp; rfl)); intro gb201 hg w5 hbox hb; have BK201 := aM (hbox); have GW201 := aM (xge hg); have GE201 := aM (xge hg); replace HB := xbs hb; clear hb hbox hg) | ((with_reducible refine gate_dst (N := 6) rfl ?_); refine box_event ?hg (N := 6) ?hd (cs := #[.int .i64 0, .slice none 0 0]) (t := 70) ?hr ?_; (case hd => rfl); (case hg => rfl); (case hr => first | (go_simp; done) | (go_simp; rfl)); intro gb202 hg w6 hbox hb; have GW202 := aM (xge hg); have GE202 := aM (xge hg); replace HB := xbs hb; have NB201_202 := aM ((by rw [hg]; exact Nat.ne_of_lt (blk_lt (g := gb201) (o := .cells #[.int .i64 a0_0, .slice A0_1 l0_1.length c0_1] 70 (0, 0)) xblk) : gb201 ≠ gb202)); have NB202_201 := aM ((by rw [hg]; exact Nat.ne_of_gt (blk_lt (g := gb201) (o := .cells #[.int .i64 a0_0, .slice A0_1 l0_1.length c0_1] 70 (0, 0)) xblk) : gb202 ≠ gb201)); replace BK201 := xbb BK201 hb; have BK202 := aM (hbox); clear hb hbox hg))
 (try simp only [Act.put, List.setIfInBounds_toArray, List.set_cons_zero, List.set_cons_succ])
 go_cut [10] (fun v10 wc => ∃ (kq : Nat) (x10_3 : Bool), v10 = .bool x10_3 ∧ Aside0 (spec_DiskAppend.j0 kq a1 a2 x10_3 a0_0 l0_1 = some (r1, r2, r3)) ∧ Aside0 (kq ≤ k) ∧ Aside0 (wc.heap[gb201]? = some (.cells #[.int .i64 a0_0, (.slice A0_1 l0_1.length c0_1)] 70 (0, 0))) ∧ Aside0 (wc.heap[gb202]? = some (.cells #[.int .i64 0, (.slice none 0 0)] 70 (0, 0))) ∧ Aside0 (Below w.heap.size w wc))
 case first =>
  have H := HC4.out; clear HC4; replace H := Option.bind_eq_some_iff.mp H
  obtain ⟨t203, A70, H⟩ := H
  replace H : (if t203 = true then ((spec_l3Name.f a1).bind fun t204 => (spec_DiskAppend.j0 k a1 a2 (!t204) a0_0 l0_1)) else (spec_DiskAppend.j0 k a1 a2 true a0_0 l0_1)) = some (r1, r2, r3) := H; have A7 := aM A70; clear A70
  by_cases c8 : t203 = true
  ·subst c8
   have H1 : ((spec_l3Name.f a1).bind fun t204 => (spec_DiskAppend.j0 k a1 a2 (!t204) a0_0 l0_1)) = some (r1, r2, r3) := by rw [if_pos rfl] at H; exact H
   clear H; have H := H1; clear H1; replace H := Option.bind_eq_some_iff.mp H
   obtain ⟨t204, A90, H⟩ := H
   replace H : (spec_DiskAppend.j0 k a1 a2 (!t204) a0_0 l0_1) = some (r1, r2, r3) := H; have A9 := aM A90; clear A90
   have H' := aM H
   clear H; have hnb10 := NB201_202.out; have hnc10 := NB202_201.out; have hcz11_0 : w6.cell? ⟨gb201, 0, none⟩ = some (.int .i64 a0_0) := xc BK201 0 rfl; have hcz11_1 : w6.cell? ⟨gb201, 1, none⟩ = some (.slice A0_1 l0_1.length c0_1) := xc BK201 1 rfl; have hfz11_0 := blk_frozen BK201.out 0; have hfz11_1 := blk_frozen BK201.out 1
   go_wp2_with (first | ((with_reducible refine gate_callee (f := 106) rfl ?_); refine goesL_ (some 12) rfl rfl Try.func106 (by kernel_rfl) rfl #[.agg #[.int .i64 a0_0, .slice A0_1 l0_1.length c0_1]] rfl (by (try simp only [List.map_toArray, List.map_cons, List.map_nil]); first | done | rfl | (simp only [List.length_drop, List.length_take]; rfl)) ?_; (with_reducible refine (spec_DiskOk.calls k a0_0 _ _ l0_1 true _ ?side1 ?side2 A7.out).mono ?_); (case side1 => exact xcb HR0_1); (case side2 => exact HC0_1.out); rintro e w12 ⟨rfl, hb⟩; refine ⟨_, rfl, ?_⟩; replace BK201 := xbb BK201 hb; replace BK202 := xbb BK202 hb; replace HB := xbs hb; (try clear hb); (try clear hb2); (try clear hk); (try clear hi)) | (go_at_call 107; (with_reducible refine (spec_l3Name.calls a1 t204 _ A9.out).mono ?_); rintro e w' ⟨rfl, ⟨nd, rfl⟩⟩))
   go_meet
   case rel => exact ⟨_, (!t204), (by first | rfl | (simp; done) | (simp [*]; done)), H', ⟨by first | omega | exact Nat.le_refl _⟩, ⟨xblk⟩, ⟨xblk⟩, ⟨xbg⟩⟩
  ·replace c8 := Bool.eq_false_iff.mpr c8
   subst c8
   have H1 : (spec_DiskAppend.j0 k a1 a2 true a0_0 l0_1) = some (r1, r2, r3) := by rw [if_neg (show ¬ (false = true) by decide)] at H; exact H
   clear H; have H := H1; clear H1
   have H' := aM H
   clear H; have hnb13 := NB201_202.out; have hnc13 := NB202_201.out; have hcz14_0 : w6.cell? ⟨gb201, 0, none⟩ = some (.int .i64 a0_0) := xc BK201 0 rfl; have hcz14_1 : w6.cell? ⟨gb201, 1, none⟩ = some (.slice A0_1 l0_1.length c0_1) := xc BK201 1 rfl; have hfz14_0 := blk_frozen BK201.out 0; have hfz14_1 := blk_frozen BK201.out 1
   go_wp2_with (first | ((with_reducible refine gate_callee (f := 106) rfl ?_); refine goesL_ (some 12) rfl rfl Try.func106 (by kernel_rfl) rfl #[.agg #[.int .i64 a0_0, .slice A0_1 l0_1.length c0_1]] rfl (by (try simp only [List.map_toArray, List.map_cons, List.map_nil]); first | done | rfl | (simp only [List.length_drop, List.length_take]; rfl)) ?_; (with_reducible refine (spec_DiskOk.calls k a0_0 _ _ l0_1 false _ ?side1 ?side2 A7.out).mono ?_); (case side1 => exact xcb HR0_1); (case side2 => exact HC0_1.out); rintro e w15 ⟨rfl, hb⟩; refine ⟨_, rfl, ?_⟩; replace BK201 := xbb BK201 hb; replace BK202 := xbb BK202 hb; replace HB := xbs hb; (try clear hb); (try clear hb2); (try clear hk); (try clear hi)))
   go_meet
   case rel => exact ⟨_, (true), (by first | rfl | (simp; done) | (simp [*]; done)), H', ⟨by first | omega | exact Nat.le_refl _⟩, ⟨xblk⟩, ⟨xblk⟩, ⟨xbg⟩⟩
 case rest =>
  clear HC4
  try clear c1
  try clear p2
  try clear c3
  try clear c8
  try clear c10
  try clear c13
  try clear hcz11_0
  try clear hcz11_1
  try clear hcz14_0
  try clear hcz14_1
  try clear hfz11_0
  try clear hfz11_1
  try clear hfz14_0
  try clear hfz14_1
  obtain ⟨kq, x10_3, rfl, HA, HJ3, BK201, BK202, HB⟩ := hcut
  cases kq with
  | zero => exact absurd HA.out (by simp [spec_DiskAppend.j0])
  | succ kj3 =>
   have H := HA.out; clear HA
   simp only [spec_DiskAppend.j0] at H
   by_cases c16 : x10_3 = true
   ·subst c16
    have H1 : (some (0, ([] : List (S134)), 1)) = some (r1, r2, r3) := by rw [if_pos rfl] at H; exact H
    clear H; have H := H1; clear H1
    simp only [Option.some.injEq, Prod.mk.injEq] at H
    obtain ⟨rfl, rfl, rfl⟩ := H
    have hnb17 := NB202_201.out; have hnc17 := NB201_202.out; have hcz18_0 : wc.cell? ⟨gb202, 0, none⟩ = some (.int .i64 0) := xc BK202 0 rfl; have hcz18_1 : wc.cell? ⟨gb202, 1, none⟩ = some (.slice none 0 0) := xc BK202 1 rfl; have hfz18_0 := blk_frozen BK202.out 0; have hfz18_1 := blk_frozen BK202.out 1
    go_wp2
    refine bodyPost_ret (results_ct rfl _ _ gb202 70 #[.int .i64 0, .slice none 0 0] (0, 0) _ rfl (by (with_reducible repeat (first | refine blk_drewN ?_ _ | refine blk_drew ?_ | refine blk_alloc ?_ _)); refine blk_put (cs := #[.int .i64 0, .slice none 0 0]) ?_ 1 _ rfl; (with_reducible repeat (first | refine blk_drewN ?_ _ | refine blk_drew ?_ | refine blk_alloc ?_ _)); refine blk_put (cs := #[.int .i64 0, .slice none 0 0]) ?_ 0 _ rfl; (with_reducible repeat (first | refine blk_drewN ?_ _ | refine blk_drew ?_ | refine blk_alloc ?_ _)); exact BK202.out) Try.underlying70 rfl (by kernel_rfl)) rfl ?_
    exact ⟨_, by first | rfl | (simp [errW_none, errW_some] <;> rfl) | (simp [*, errW_none, errW_some] <;> rfl), by first | exact Kd.R_nil _ _ _ _ _ | exact Kd.N_nil _ _ _ _ _ | exact Kd.V_nil _ _ _ _ _ | exact Kd.Q_nil _ _ _ _ _ | exact Kd.S_nil _ _ _ _ _, xbg⟩
   ·replace c16 := Bool.eq_false_iff.mpr c16
    subst c16
    have H1 : ((spec_l3Size.f kj3 a0_0 l0_1).bind fun t205 => (if (a2.size : Int) > (wrap64 (a0_0 - t205)) then ((spec_l3Copy.f a0_0 l0_1).bind fun bt206 => (some (bt206.1, bt206.2, 3))) else ((spec_l3Find.f kj3 a0_0 l0_1 a1).bind fun t211 => (if t211 ≥ 0 then (if 0 ≤ t211 then (if t211 < (l0_1.length : Int) then (if ((rd_T134 l0_1 t211).f2).size + a2.size ≤ 9223372036854775807 then ((spec_l3Put.f kj3 a0_0 l0_1 ((rd_T134 l0_1 t211).f0) ((rd_T134 l0_1 t211).f1) (((rd_T134 l0_1 t211).f2) ++ a2)).bind fun bt213 => (some (bt213.1, bt213.2, 0))) else (none)) else (none)) else (none)) else (if 0 + a2.size ≤ 9223372036854775807 then ((spec_l3Put.f kj3 a0_0 l0_1 a1 (⟨#[]⟩ : ByteArray) ((⟨#[]⟩ : ByteArray) ++ a2)).bind fun bt217 => (some (bt217.1, bt217.2, 0))) else (none)))))) = some (r1, r2, r3) := by rw [if_neg (show ¬ (false = true) by decide)] at H; exact H
    clear H; have H := H1; clear H1; replace H := Option.bind_eq_some_iff.mp H
    obtain ⟨t205, A190, H⟩ := H
    replace H : (if (a2.size : Int) > (wrap64 (a0_0 - t205)) then ((spec_l3Copy.f a0_0 l0_1).bind fun bt206 => (some (bt206.1, bt206.2, 3))) else ((spec_l3Find.f kj3 a0_0 l0_1 a1).bind fun t211 => (if t211 ≥ 0 then (if 0 ≤ t211 then (if t211 < (l0_1.length : Int) then (if ((rd_T134 l0_1 t211).f2).size + a2.size ≤ 9223372036854775807 then ((spec_l3Put.f kj3 a0_0 l0_1 ((rd_T134 l0_1 t211).f0) ((rd_T134 l0_1 t211).f1) (((rd_T134 l0_1 t211).f2) ++ a2)).bind fun bt213 => (some (bt213.1, bt213.2, 0))) else (none)) else (none)) else (none)) else (if 0 + a2.size ≤ 9223372036854775807 then ((spec_l3Put.f kj3 a0_0 l0_1 a1 (⟨#[]⟩ : ByteArray) ((⟨#[]⟩ : ByteArray) ++ a2)).bind fun bt217 => (some (bt217.1, bt217.2, 0))) else (none))))) = some (r1, r2, r3) := H; have A19 := aM A190; clear A190
    by_cases c20 : (a2.size : Int) > (wrap64 (a0_0 - t205))
    ·rw [if_pos c20] at H
     have c20b0 : decide ((wrap64 (a0_0 - t205)) < (a2.size : Int)) = true := decide_eq_true c20; clear c20; replace H := Option.bind_eq_some_iff.mp H
     obtain ⟨⟨t206, t207⟩, A210, H⟩ := H
     replace H : (some (t206, t207, 3)) = some (r1, r2, r3) := H; have A21 := aM A210; clear A210
     simp only [Option.some.injEq, Prod.mk.injEq] at H
     obtain ⟨rfl, rfl, rfl⟩ := H
     try go_wp2
     replace BK201 := aM (blk_drew BK201.out); replace BK202 := aM (blk_drew BK202.out); replace HB := aM (below_drew1 HB.out)
     refine start_ (n := 9) (S := fun w' => w'.cell? ⟨gb201, 0, none⟩ = some (.int .i64 a0_0) ∧ w'.cell? ⟨gb201, 1, none⟩ = some (.slice A0_1 l0_1.length c0_1)) (ds := []) #[false, false, false, false, false, false, false, false, false] (by kernel_rfl) rfl rfl ⟨xc BK201 0 rfl, xc BK201 1 rfl⟩ (fun hHeld => ?_); refine with_tabW spec_DiskAppend.tab3 spec_DiskAppend.bits3 (fun HT_ HW_ => ?_)
     generalize wc.drew = w22 at BK201 BK202 HB hHeld ⊢
     refine pv_ 0 21 (h := ?_)
     refine pv_ 1 22 (h := ?_)
     refine pv_ 2 23 (h := ?_)
     refine tk_ 3 24 (h := ?_)
     refine tk_ 4 25 (h := ?_)
     refine on_ 5 26 (h := fun K hK => ?_)
     refine goesY Try.func108 #[.agg #[.int .i64 a0_0, .slice A0_1 l0_1.length c0_1]] ?_
     with_reducible refine (spec_l3Size.calls kj3 a0_0 _ _ l0_1 t205 _ ?side1 ?side2 A19.out).mono ?_
     (case side1 => exact xcb HR0_1)
     (case side2 => exact HC0_1.out)
     rintro e w23 ⟨rfl, hb⟩
     refine ⟨_, rfl, ?_⟩
     replace BK201 := xbb BK201 hb; replace BK202 := xbb BK202 hb; replace HB := xbs hb
     (try clear hb); (try clear hb2); (try clear hk); (try clear hi)
     refine hK.out _ _ ⟨xc BK201 0 rfl, xc BK201 1 rfl⟩ (fun hHeld => ?_)
     clear hK K
     refine norm_ (a' := ?_) ?_ ?_
     rotate_left
     ·show Act.put _ (some 26) _ = _
      simp only [Act.put, List.setIfInBounds_toArray, List.set_cons_zero, List.set_cons_succ, i64_w, i32_w]
      rfl
     refine pv_ 6 27 (h := ?_)
     refine pv_ 7 28 (h := ?_)
     refine pv_ 8 20 (h := ?_)
     refine done_ (done_of HT_.out (by kernel_rfl)) ?_
     have hnb24 := NB201_202.out; have hnc24 := NB202_201.out; have hcz25_0 : w23.cell? ⟨gb201, 0, none⟩ = some (.int .i64 a0_0) := xc BK201 0 rfl; have hcz25_1 : w23.cell? ⟨gb201, 1, none⟩ = some (.slice A0_1 l0_1.length c0_1) := xc BK201 1 rfl; have hfz25_0 := blk_frozen BK201.out 0; have hfz25_1 := blk_frozen BK201.out 1
     try go_wp2_with (first | ((with_reducible refine gate_callee (f := 109) rfl ?_); refine goesL_ (some 30) rfl rfl Try.func109 (by kernel_rfl) rfl #[.agg #[.int .i64 a0_0, .slice A0_1 l0_1.length c0_1]] rfl (by (try simp only [List.map_toArray, List.map_cons, List.map_nil]); first | done | rfl | (simp only [List.length_drop, List.length_take]; rfl)) ?_; (with_reducible refine (spec_l3Copy.calls a0_0 _ _ l0_1 t206 t207 _ ?side1 ?side2 A21.out).mono ?_); (case side1 => exact xcb HR0_1); (case side2 => exact HC0_1.out); rintro e w26 ⟨v208, rfl, ho0, hb⟩; refine ⟨_, rfl, ?_⟩; have HO209 := aM (Kd.R_lower ho0 (below_size xbg)); replace BK201 := xbb BK201 hb; replace BK202 := xbb BK202 hb; replace HB := xbs hb; (try clear hb); (try clear hb2); (try clear hk); (try clear hi); (try clear ho0); have hcz27_0 : w26.cell? ⟨gb202, 0, none⟩ = some (.int .i64 0) := xc BK202 0 rfl; have hcz27_1 : w26.cell? ⟨gb202, 1, none⟩ = some (.slice none 0 0) := xc BK202 1 rfl; have hfz27_0 := blk_frozen BK202.out 0; have hfz27_1 := blk_frozen BK202.out 1; obtain ⟨Ao28, co28, eo28⟩ := Kd.R_slice HO209.out; subst eo28))
     refine bodyPost_ret (results_ct rfl _ _ gb202 70 #[.int .i64 t206, .slice Ao28 t207.length co28] (0, 0) _ rfl (by (with_reducible repeat (first | refine blk_drewN ?_ _ | refine blk_drew ?_ | refine blk_alloc ?_ _)); refine blk_put (cs := #[.int .i64 t206, .slice none 0 0]) ?_ 1 _ rfl; (with_reducible repeat (first | refine blk_drewN ?_ _ | refine blk_drew ?_ | refine blk_alloc ?_ _)); refine blk_put (cs := #[.int .i64 0, .slice none 0 0]) ?_ 0 _ rfl; (with_reducible repeat (first | refine blk_drewN ?_ _ | refine blk_drew ?_ | refine blk_alloc ?_ _)); exact BK202.out) Try.underlying70 rfl (by kernel_rfl)) rfl ?_
     exact ⟨_, by first | rfl | (simp [errW_none, errW_some] <;> rfl) | (simp [*, errW_none, errW_some] <;> rfl), by (with_reducible repeat (first | apply Kd.R_alloc | apply Kd.R_drewN | apply Kd.R_drew)); exact Kd.R_mono (Kd.R_far (p := ⟨gb202, 1, none⟩) (Kd.R_far (p := ⟨gb202, 0, none⟩) (Kd.R_types HO209.out BK202.out (by decide)) (fun _ hk => hk.2) (.int .i64 t206)) (fun _ hk => hk.2) (.slice Ao28 t207.length co28)) (fun _ hk => trivial), xbg⟩
    ·rw [if_neg c20] at H
     have c20b0 : decide ((wrap64 (a0_0 - t205)) < (a2.size : Int)) = false := decide_eq_false c20; clear c20; replace H := Option.bind_eq_some_iff.mp H
     obtain ⟨t211, A290, H⟩ := H
     replace H : (if t211 ≥ 0 then (if 0 ≤ t211 then (if t211 < (l0_1.length : Int) then (if ((rd_T134 l0_1 t211).f2).size + a2.size ≤ 9223372036854775807 then ((spec_l3Put.f kj3 a0_0 l0_1 ((rd_T134 l0_1 t211).f0) ((rd_T134 l0_1 t211).f1) (((rd_T134 l0_1 t211).f2) ++ a2)).bind fun bt213 => (some (bt213.1, bt213.2, 0))) else (none)) else (none)) else (none)) else (if 0 + a2.size ≤ 9223372036854775807 then ((spec_l3Put.f kj3 a0_0 l0_1 a1 (⟨#[]⟩ : ByteArray) ((⟨#[]⟩ : ByteArray) ++ a2)).bind fun bt217 => (some (bt217.1, bt217.2, 0))) else (none))) = some (r1, r2, r3) := H; have A29 := aM A290; clear A290
     by_cases c30 : t211 ≥ 0
     ·rw [if_pos c30] at H
      have c30b0 : decide (0 ≤ t211) = true := decide_eq_true c30; clear c30
      by_cases c31 : 0 ≤ t211
      ·rw [if_pos c31] at H
       have c31b0 : decide (0 ≤ t211) = true := decide_eq_true c31; clear c31
       by_cases c32 : t211 < (l0_1.length : Int)
       ·rw [if_pos c32] at H
        have c32b0 : decide (t211 < (l0_1.length : Int)) = true := decide_eq_true c32; clear c32
        by_cases c33 : ((rd_T134 l0_1 t211).f2).size + a2.size ≤ 9223372036854775807
        ·rw [if_pos c33] at H
         have c33b0 := eq_true c33; have c33b1 : decide (((rd_T134 l0_1 t211).f2).size + a2.size ≤ 9223372036854775807) = true := decide_eq_true c33
         try have c33b2 : (9223372036854775807 < ((rd_T134 l0_1 t211).f2).size + a2.size) = False := eq_false (Nat.not_lt.2 c33)
         replace H := Option.bind_eq_some_iff.mp H
         obtain ⟨⟨t213, t214⟩, A340, H⟩ := H
         replace H : (some (t213, t214, 0)) = some (r1, r2, r3) := H; have A34 := aM A340; clear A340
         simp only [Option.some.injEq, Prod.mk.injEq] at H
         obtain ⟨rfl, rfl, rfl⟩ := H
         try go_wp2
         replace BK201 := aM (blk_drew BK201.out); replace BK202 := aM (blk_drew BK202.out); replace HB := aM (below_drew1 HB.out)
         refine start_ (n := 9) (S := fun w' => w'.cell? ⟨gb201, 0, none⟩ = some (.int .i64 a0_0) ∧ w'.cell? ⟨gb201, 1, none⟩ = some (.slice A0_1 l0_1.length c0_1)) (ds := []) #[false, false, false, false, false, false, false, false, false] (by kernel_rfl) rfl rfl ⟨xc BK201 0 rfl, xc BK201 1 rfl⟩ (fun hHeld => ?_); refine with_tabW spec_DiskAppend.tab3 spec_DiskAppend.bits3 (fun HT_ HW_ => ?_)
         generalize wc.drew = w35 at BK201 BK202 HB hHeld ⊢
         refine pv_ 0 21 (h := ?_)
         refine pv_ 1 22 (h := ?_)
         refine pv_ 2 23 (h := ?_)
         refine tk_ 3 24 (h := ?_)
         refine tk_ 4 25 (h := ?_)
         refine on_ 5 26 (h := fun K hK => ?_)
         refine goesY Try.func108 #[.agg #[.int .i64 a0_0, .slice A0_1 l0_1.length c0_1]] ?_
         with_reducible refine (spec_l3Size.calls kj3 a0_0 _ _ l0_1 t205 _ ?side1 ?side2 A19.out).mono ?_
         (case side1 => exact xcb HR0_1)
         (case side2 => exact HC0_1.out)
         rintro e w36 ⟨rfl, hb⟩
         refine ⟨_, rfl, ?_⟩
         replace BK201 := xbb BK201 hb; replace BK202 := xbb BK202 hb; replace HB := xbs hb
         (try clear hb); (try clear hb2); (try clear hk); (try clear hi)
         refine hK.out _ _ ⟨xc BK201 0 rfl, xc BK201 1 rfl⟩ (fun hHeld => ?_)
         clear hK K
         refine norm_ (a' := ?_) ?_ ?_
         rotate_left
         ·show Act.put _ (some 26) _ = _
          simp only [Act.put, List.setIfInBounds_toArray, List.set_cons_zero, List.set_cons_succ, i64_w, i32_w]
          rfl
         refine pv_ 6 27 (h := ?_)
         refine pv_ 7 28 (h := ?_)
         refine pv_ 8 20 (h := ?_)
         refine done_ (done_of HT_.out (by kernel_rfl)) ?_
         try go_wp2_with (first | ((with_reducible refine gate_dst (N := 8) rfl ?_); refine box_event ?hg (N := 8) ?hd (cs := #[.int .i64 0, .string (⟨#[]⟩ : ByteArray), .string (⟨#[]⟩ : ByteArray)]) (t := 134) ?hr ?_; (case hd => rfl); (case hg => rfl); (case hr => first | (go_simp; done) | (go_simp; rfl)); intro gb210 hg w37 hbox hb; have GW210 := aM (xge hg); have GE210 := aM (xge hg); replace HB := xbs hb; have NB201_210 := aM ((by rw [hg]; exact Nat.ne_of_lt (blk_lt (g := gb201) (o := .cells #[.int .i64 a0_0, .slice A0_1 l0_1.length c0_1] 70 (0, 0)) xblk) : gb201 ≠ gb210)); have NB210_201 := aM ((by rw [hg]; exact Nat.ne_of_gt (blk_lt (g := gb201) (o := .cells #[.int .i64 a0_0, .slice A0_1 l0_1.length c0_1] 70 (0, 0)) xblk) : gb210 ≠ gb201)); have NB202_210 := aM ((by rw [hg]; exact Nat.ne_of_lt (blk_lt (g := gb202) (o := .cells #[.int .i64 0, .slice none 0 0] 70 (0, 0)) xblk) : gb202 ≠ gb210)); have NB210_202 := aM ((by rw [hg]; exact Nat.ne_of_gt (blk_lt (g := gb202) (o := .cells #[.int .i64 0, .slice none 0 0] 70 (0, 0)) xblk) : gb210 ≠ gb202)); replace BK201 := xbb BK201 hb; replace BK202 := xbb BK202 hb; have BK210 := aM (hbox); clear hb hbox hg; have hnb38 := NB210_201.out; have hnc38 := NB201_210.out; have hnb39 := NB210_202.out; have hnc39 := NB202_210.out; have hcz40_0 : w37.cell? ⟨gb210, 0, none⟩ = some (.int .i64 0) := xc BK210 0 rfl; have hcz40_1 : w37.cell? ⟨gb210, 1, none⟩ = some (.string (⟨#[]⟩ : ByteArray)) := xc BK210 1 rfl; have hcz40_2 : w37.cell? ⟨gb210, 2, none⟩ = some (.string (⟨#[]⟩ : ByteArray)) := xc BK210 2 rfl; have hfz40_0 := blk_frozen BK210.out 0; have hfz40_1 := blk_frozen BK210.out 1; have hfz40_2 := blk_frozen BK210.out 2; have hnb41 := NB201_202.out; have hnc41 := NB202_201.out; have hcz42_0 : w37.cell? ⟨gb201, 0, none⟩ = some (.int .i64 a0_0) := xc BK201 0 rfl; have hcz42_1 : w37.cell? ⟨gb201, 1, none⟩ = some (.slice A0_1 l0_1.length c0_1) := xc BK201 1 rfl; have hfz42_0 := blk_frozen BK201.out 0; have hfz42_1 := blk_frozen BK201.out 1) | ((with_reducible refine gate_callee (f := 110) rfl ?_); refine goesL_ (some 35) rfl rfl Try.func110 (by kernel_rfl) rfl #[.agg #[.int .i64 a0_0, .slice A0_1 l0_1.length c0_1], .int .i64 a1] rfl (by (try simp only [List.map_toArray, List.map_cons, List.map_nil]); first | done | rfl | (simp only [List.length_drop, List.length_take]; rfl)) ?_; (with_reducible refine (spec_l3Find.calls kj3 a0_0 _ _ l0_1 a1 t211 _ ?side1 ?side2 A29.out).mono ?_); (case side1 => exact Kd.C_below HR0_1.out xbg); (case side2 => exact HC0_1.out); rintro e w43 ⟨rfl, hb⟩; refine ⟨_, rfl, ?_⟩; replace BK201 := aM (blk_below (g := gb201) (o := .cells #[.int .i64 a0_0, .slice A0_1 l0_1.length c0_1] 70 (0, 0)) (by (with_reducible repeat (first | refine blk_drewN ?_ _ | refine blk_drew ?_ | refine blk_alloc ?_ _)); refine blk_far ?_ NB201_210.out _; (with_reducible repeat (first | refine blk_drewN ?_ _ | refine blk_drew ?_ | refine blk_alloc ?_ _)); refine blk_far ?_ NB201_210.out _; (with_reducible repeat (first | refine blk_drewN ?_ _ | refine blk_drew ?_ | refine blk_alloc ?_ _)); refine blk_far ?_ NB201_210.out _; (with_reducible repeat (first | refine blk_drewN ?_ _ | refine blk_drew ?_ | refine blk_alloc ?_ _)); exact BK201.out) hb); replace BK202 := aM (blk_below (g := gb202) (o := .cells #[.int .i64 0, .slice none 0 0] 70 (0, 0)) (by (with_reducible repeat (first | refine blk_drewN ?_ _ | refine blk_drew ?_ | refine blk_alloc ?_ _)); refine blk_far ?_ NB202_210.out _; (with_reducible repeat (first | refine blk_drewN ?_ _ | refine blk_drew ?_ | refine blk_alloc ?_ _)); refine blk_far ?_ NB202_210.out _; (with_reducible repeat (first | refine blk_drewN ?_ _ | refine blk_drew ?_ | refine blk_alloc ?_ _)); refine blk_far ?_ NB202_210.out _; (with_reducible repeat (first | refine blk_drewN ?_ _ | refine blk_drew ?_ | refine blk_alloc ?_ _)); exact BK202.out) hb); replace BK210 := aM (blk_below (g := gb210) (o := .cells #[.int .i64 a1, .string (⟨#[]⟩ : ByteArray), .string (⟨#[]⟩ : ByteArray)] 134 (0, 0)) (by (with_reducible repeat (first | refine blk_drewN ?_ _ | refine blk_drew ?_ | refine blk_alloc ?_ _)); refine blk_put (cs := #[.int .i64 a1, .string (⟨#[]⟩ : ByteArray), .string (⟨#[]⟩ : ByteArray)]) ?_ 2 _ rfl; (with_reducible repeat (first | refine blk_drewN ?_ _ | refine blk_drew ?_ | refine blk_alloc ?_ _)); refine blk_put (cs := #[.int .i64 a1, .string (⟨#[]⟩ : ByteArray), .string (⟨#[]⟩ : ByteArray)]) ?_ 1 _ rfl; (with_reducible repeat (first | refine blk_drewN ?_ _ | refine blk_drew ?_ | refine blk_alloc ?_ _)); refine blk_put (cs := #[.int .i64 0, .string (⟨#[]⟩ : ByteArray), .string (⟨#[]⟩ : ByteArray)]) ?_ 0 _ rfl; (with_reducible repeat (first | refine blk_drewN ?_ _ | refine blk_drew ?_ | refine blk_alloc ?_ _)); exact BK210.out) hb); replace HB := xbs hb; (try clear hb); (try clear hb2); (try clear hk); (try clear hi); have hcz44_0 : w43.cell? ⟨gb201, 0, none⟩ = some (.int .i64 a0_0) := xc BK201 0 rfl; have hcz44_1 : w43.cell? ⟨gb201, 1, none⟩ = some (.slice A0_1 l0_1.length c0_1) := xc BK201 1 rfl; have hfz44_0 := blk_frozen BK201.out 0; have hfz44_1 := blk_frozen BK201.out 1; have p212 : 0 ≤ (t211 : Int) := of_decide_eq_true (by first | (with_reducible assumption) | assumption); have q212 : t211 < (l0_1.length : Int) := of_decide_eq_true (by first | (with_reducible assumption) | assumption); obtain ⟨ad212, e212, hx212_0, hx212_1, hx212_2⟩ := at_T134 HR0_1.out t211 p212 q212; cases e212; replace hx212_0 := xce HB hx212_0; replace hx212_1 := xce HB hx212_1; replace hx212_2 := xce HB hx212_2; replace p212 := eq_true p212; replace q212 := eq_true q212; have hcz45_0 : w43.cell? ⟨gb210, 0, none⟩ = some (.int .i64 a1) := xc BK210 0 rfl; have hcz45_1 : w43.cell? ⟨gb210, 1, none⟩ = some (.string (⟨#[]⟩ : ByteArray)) := xc BK210 1 rfl; have hcz45_2 : w43.cell? ⟨gb210, 2, none⟩ = some (.string (⟨#[]⟩ : ByteArray)) := xc BK210 2 rfl; have hfz45_0 := blk_frozen BK210.out 0; have hfz45_1 := blk_frozen BK210.out 1; have hfz45_2 := blk_frozen BK210.out 2) | ((with_reducible refine gate_store (t := 9) (p := 47) rfl ?_); refine store_event (t := 9) (p := 47) (v := ?vo_w46) (w1 := ((((w43.setCell ⟨gb210, 0, none⟩ (.int .i64 ((rd_T134 l0_1 t211).f0))).setCell ⟨gb210, 1, none⟩ (.string ((rd_T134 l0_1 t211).f1))).setCell ⟨gb210, 2, none⟩ (.string ((rd_T134 l0_1 t211).f2))).setCell ⟨gb210, 2, none⟩ (.string (((rd_T134 l0_1 t211).f2) ++ a2)))) ?hg ?ho ?hn ?hr ?_; (case ho => rfl); (case hg => rfl); (case hn => rfl); (case hr => first | (go_simp; done) | (go_simp; rfl)); intro w46 hw; replace BK201 : Aside0 (w46.heap[gb201]? = some (.cells #[.int .i64 a0_0, .slice (some ad212) l0_1.length c0_1] 70 (0, 0))) := ⟨(by rw [hw]; exact (by (with_reducible repeat (first | refine blk_drewN ?_ _ | refine blk_drew ?_ | refine blk_alloc ?_ _)); refine blk_far ?_ NB201_210.out _; (with_reducible repeat (first | refine blk_drewN ?_ _ | refine blk_drew ?_ | refine blk_alloc ?_ _)); refine blk_far ?_ NB201_210.out _; (with_reducible repeat (first | refine blk_drewN ?_ _ | refine blk_drew ?_ | refine blk_alloc ?_ _)); refine blk_far ?_ NB201_210.out _; (with_reducible repeat (first | refine blk_drewN ?_ _ | refine blk_drew ?_ | refine blk_alloc ?_ _)); refine blk_far ?_ NB201_210.out _; (with_reducible repeat (first | refine blk_drewN ?_ _ | refine blk_drew ?_ | refine blk_alloc ?_ _)); exact BK201.out))⟩; replace BK202 : Aside0 (w46.heap[gb202]? = some (.cells #[.int .i64 0, .slice none 0 0] 70 (0, 0))) := ⟨(by rw [hw]; exact (by (with_reducible repeat (first | refine blk_drewN ?_ _ | refine blk_drew ?_ | refine blk_alloc ?_ _)); refine blk_far ?_ NB202_210.out _; (with_reducible repeat (first | refine blk_drewN ?_ _ | refine blk_drew ?_ | refine blk_alloc ?_ _)); refine blk_far ?_ NB202_210.out _; (with_reducible repeat (first | refine blk_drewN ?_ _ | refine blk_drew ?_ | refine blk_alloc ?_ _)); refine blk_far ?_ NB202_210.out _; (with_reducible repeat (first | refine blk_drewN ?_ _ | refine blk_drew ?_ | refine blk_alloc ?_ _)); refine blk_far ?_ NB202_210.out _; (with_reducible repeat (first | refine blk_drewN ?_ _ | refine blk_drew ?_ | refine blk_alloc ?_ _)); exact BK202.out))⟩; replace BK210 : Aside0 (w46.heap[gb210]? = some (.cells #[.int .i64 ((rd_T134 l0_1 t211).f0), .string ((rd_T134 l0_1 t211).f1), .string (((rd_T134 l0_1 t211).f2) ++ a2)] 134 (0, 0))) := ⟨(by rw [hw]; exact (by (with_reducible repeat (first | refine blk_drewN ?_ _ | refine blk_drew ?_ | refine blk_alloc ?_ _)); refine blk_put (cs := #[.int .i64 ((rd_T134 l0_1 t211).f0), .string ((rd_T134 l0_1 t211).f1), .string ((rd_T134 l0_1 t211).f2)]) ?_ 2 _ rfl; (with_reducible repeat (first | refine blk_drewN ?_ _ | refine blk_drew ?_ | refine blk_alloc ?_ _)); refine blk_put (cs := #[.int .i64 ((rd_T134 l0_1 t211).f0), .string ((rd_T134 l0_1 t211).f1), .string (⟨#[]⟩ : ByteArray)]) ?_ 2 _ rfl; (with_reducible repeat (first | refine blk_drewN ?_ _ | refine blk_drew ?_ | refine blk_alloc ?_ _)); refine blk_put (cs := #[.int .i64 ((rd_T134 l0_1 t211).f0), .string (⟨#[]⟩ : ByteArray), .string (⟨#[]⟩ : ByteArray)]) ?_ 1 _ rfl; (with_reducible repeat (first | refine blk_drewN ?_ _ | refine blk_drew ?_ | refine blk_alloc ?_ _)); refine blk_put (cs := #[.int .i64 a1, .string (⟨#[]⟩ : ByteArray), .string (⟨#[]⟩ : ByteArray)]) ?_ 0 _ rfl; (with_reducible repeat (first | refine blk_drewN ?_ _ | refine blk_drew ?_ | refine blk_alloc ?_ _)); exact BK210.out))⟩; replace HB : Aside0 (Below w.heap.size w w46) := ⟨(by rw [hw]; exact xbg)⟩; clear hw; have hcz47_0 : w46.cell? ⟨gb201, 0, none⟩ = some (.int .i64 a0_0) := xc BK201 0 rfl; have hcz47_1 : w46.cell? ⟨gb201, 1, none⟩ = some (.slice (some ad212) l0_1.length c0_1) := xc BK201 1 rfl; have hfz47_0 := blk_frozen BK201.out 0; have hfz47_1 := blk_frozen BK201.out 1; have hcz48_0 : w46.cell? ⟨gb210, 0, none⟩ = some (.int .i64 ((rd_T134 l0_1 t211).f0)) := xc BK210 0 rfl; have hcz48_1 : w46.cell? ⟨gb210, 1, none⟩ = some (.string ((rd_T134 l0_1 t211).f1)) := xc BK210 1 rfl; have hcz48_2 : w46.cell? ⟨gb210, 2, none⟩ = some (.string (((rd_T134 l0_1 t211).f2) ++ a2)) := xc BK210 2 rfl; have hfz48_0 := blk_frozen BK210.out 0; have hfz48_1 := blk_frozen BK210.out 1; have hfz48_2 := blk_frozen BK210.out 2) | ((with_reducible refine gate_callee (f := 111) rfl ?_); refine goesL_ (some 50) rfl rfl Try.func111 (by kernel_rfl) rfl #[.agg #[.int .i64 a0_0, .slice (some ad212) l0_1.length c0_1], .agg #[.int .i64 ((rd_T134 l0_1 t211).f0), .string ((rd_T134 l0_1 t211).f1), .string (((rd_T134 l0_1 t211).f2) ++ a2)]] rfl (by (try simp only [List.map_toArray, List.map_cons, List.map_nil]); first | done | rfl | (simp only [List.length_drop, List.length_take]; rfl)) ?_; (with_reducible refine (spec_l3Put.calls kj3 a0_0 _ _ l0_1 ((rd_T134 l0_1 t211).f0) ((rd_T134 l0_1 t211).f1) (((rd_T134 l0_1 t211).f2) ++ a2) t213 t214 _ ?side1 ?side2 A34.out).mono ?_); (case side1 => exact xcb HR0_1); (case side2 => exact HC0_1.out); rintro e w49 ⟨v215, rfl, ho0, hb⟩; refine ⟨_, rfl, ?_⟩; have HO216 := aM (Kd.R_lower (Kd.R_newB ho0 (g := gb210) (o := .cells #[.int .i64 ((rd_T134 l0_1 t211).f0), .string ((rd_T134 l0_1 t211).f1), .string (((rd_T134 l0_1 t211).f2) ++ a2)] 134 (0, 0)) xblk) (below_size xbg)); replace BK201 := xbb BK201 hb; replace BK202 := xbb BK202 hb; replace BK210 := xbb BK210 hb; replace HB := xbs hb; (try clear hb); (try clear hb2); (try clear hk); (try clear hi); (try clear ho0); have hcz50_0 : w49.cell? ⟨gb202, 0, none⟩ = some (.int .i64 0) := xc BK202 0 rfl; have hcz50_1 : w49.cell? ⟨gb202, 1, none⟩ = some (.slice none 0 0) := xc BK202 1 rfl; have hfz50_0 := blk_frozen BK202.out 0; have hfz50_1 := blk_frozen BK202.out 1; obtain ⟨Ao51, co51, eo51⟩ := Kd.R_slice HO216.out; subst eo51))
         refine bodyPost_ret (results_ct rfl _ _ gb202 70 #[.int .i64 t213, .slice Ao51 t214.length co51] (0, 0) _ rfl (by (with_reducible repeat (first | refine blk_drewN ?_ _ | refine blk_drew ?_ | refine blk_alloc ?_ _)); refine blk_put (cs := #[.int .i64 t213, .slice none 0 0]) ?_ 1 _ rfl; (with_reducible repeat (first | refine blk_drewN ?_ _ | refine blk_drew ?_ | refine blk_alloc ?_ _)); refine blk_put (cs := #[.int .i64 0, .slice none 0 0]) ?_ 0 _ rfl; (with_reducible repeat (first | refine blk_drewN ?_ _ | refine blk_drew ?_ | refine blk_alloc ?_ _)); exact BK202.out) Try.underlying70 rfl (by kernel_rfl)) rfl ?_
         exact ⟨_, by first | rfl | (simp [errW_none, errW_some] <;> rfl) | (simp [*, errW_none, errW_some] <;> rfl), by (with_reducible repeat (first | apply Kd.R_alloc | apply Kd.R_drewN | apply Kd.R_drew)); exact Kd.R_mono (Kd.R_far (p := ⟨gb202, 1, none⟩) (Kd.R_far (p := ⟨gb202, 0, none⟩) (Kd.R_types HO216.out BK202.out (by decide)) (fun _ hk => hk.2) (.int .i64 t213)) (fun _ hk => hk.2) (.slice Ao51 t214.length co51)) (fun _ hk => trivial), xbg⟩
        ·rw [if_neg c33] at H
         exact absurd H (by simp)
       ·rw [if_neg c32] at H
        exact absurd H (by simp)
      ·rw [if_neg c31] at H
       exact absurd H (by simp)
     ·rw [if_neg c30] at H
      have c30b0 : decide (0 ≤ t211) = false := decide_eq_false c30; clear c30
      by_cases c52 : 0 + a2.size ≤ 9223372036854775807
      ·rw [if_pos c52] at H
       have c52b0 := eq_true c52; have c52b1 : decide (0 + a2.size ≤ 9223372036854775807) = true := decide_eq_true c52
       try have c52b2 : (9223372036854775807 < 0 + a2.size) = False := eq_false (Nat.not_lt.2 c52)
       replace H := Option.bind_eq_some_iff.mp H
       obtain ⟨⟨t217, t218⟩, A530, H⟩ := H
       replace H : (some (t217, t218, 0)) = some (r1, r2, r3) := H; have A53 := aM A530; clear A530
       simp only [Option.some.injEq, Prod.mk.injEq] at H
       obtain ⟨rfl, rfl, rfl⟩ := H
       try go_wp2
       replace BK201 := aM (blk_drew BK201.out); replace BK202 := aM (blk_drew BK202.out); replace HB := aM (below_drew1 HB.out)
       refine start_ (n := 9) (S := fun w' => w'.cell? ⟨gb201, 0, none⟩ = some (.int .i64 a0_0) ∧ w'.cell? ⟨gb201, 1, none⟩ = some (.slice A0_1 l0_1.length c0_1)) (ds := []) #[false, false, false, false, false, false, false, false, false] (by kernel_rfl) rfl rfl ⟨xc BK201 0 rfl, xc BK201 1 rfl⟩ (fun hHeld => ?_); refine with_tabW spec_DiskAppend.tab3 spec_DiskAppend.bits3 (fun HT_ HW_ => ?_)
       generalize wc.drew = w54 at BK201 BK202 HB hHeld ⊢
       refine pv_ 0 21 (h := ?_)
       refine pv_ 1 22 (h := ?_)
       refine pv_ 2 23 (h := ?_)
       refine tk_ 3 24 (h := ?_)
       refine tk_ 4 25 (h := ?_)
       refine on_ 5 26 (h := fun K hK => ?_)
       refine goesY Try.func108 #[.agg #[.int .i64 a0_0, .slice A0_1 l0_1.length c0_1]] ?_
       with_reducible refine (spec_l3Size.calls kj3 a0_0 _ _ l0_1 t205 _ ?side1 ?side2 A19.out).mono ?_
       (case side1 => exact xcb HR0_1)
       (case side2 => exact HC0_1.out)
       rintro e w55 ⟨rfl, hb⟩
       refine ⟨_, rfl, ?_⟩
       replace BK201 := xbb BK201 hb; replace BK202 := xbb BK202 hb; replace HB := xbs hb
       (try clear hb); (try clear hb2); (try clear hk); (try clear hi)
       refine hK.out _ _ ⟨xc BK201 0 rfl, xc BK201 1 rfl⟩ (fun hHeld => ?_)
       clear hK K
       refine norm_ (a' := ?_) ?_ ?_
       rotate_left
       ·show Act.put _ (some 26) _ = _
        simp only [Act.put, List.setIfInBounds_toArray, List.set_cons_zero, List.set_cons_succ, i64_w, i32_w]
        rfl
       refine pv_ 6 27 (h := ?_)
       refine pv_ 7 28 (h := ?_)
       refine pv_ 8 20 (h := ?_)
       refine done_ (done_of HT_.out (by kernel_rfl)) ?_
       try go_wp2_with (first | ((with_reducible refine gate_dst (N := 8) rfl ?_); refine box_event ?hg (N := 8) ?hd (cs := #[.int .i64 0, .string (⟨#[]⟩ : ByteArray), .string (⟨#[]⟩ : ByteArray)]) (t := 134) ?hr ?_; (case hd => rfl); (case hg => rfl); (case hr => first | (go_simp; done) | (go_simp; rfl)); intro gb210 hg w56 hbox hb; have GW210 := aM (xge hg); have GE210 := aM (xge hg); replace HB := xbs hb; have NB201_210 := aM ((by rw [hg]; exact Nat.ne_of_lt (blk_lt (g := gb201) (o := .cells #[.int .i64 a0_0, .slice A0_1 l0_1.length c0_1] 70 (0, 0)) xblk) : gb201 ≠ gb210)); have NB210_201 := aM ((by rw [hg]; exact Nat.ne_of_gt (blk_lt (g := gb201) (o := .cells #[.int .i64 a0_0, .slice A0_1 l0_1.length c0_1] 70 (0, 0)) xblk) : gb210 ≠ gb201)); have NB202_210 := aM ((by rw [hg]; exact Nat.ne_of_lt (blk_lt (g := gb202) (o := .cells #[.int .i64 0, .slice none 0 0] 70 (0, 0)) xblk) : gb202 ≠ gb210)); have NB210_202 := aM ((by rw [hg]; exact Nat.ne_of_gt (blk_lt (g := gb202) (o := .cells #[.int .i64 0, .slice none 0 0] 70 (0, 0)) xblk) : gb210 ≠ gb202)); replace BK201 := xbb BK201 hb; replace BK202 := xbb BK202 hb; have BK210 := aM (hbox); clear hb hbox hg; have hnb57 := NB210_201.out; have hnc57 := NB201_210.out; have hnb58 := NB210_202.out; have hnc58 := NB202_210.out; have hcz59_0 : w56.cell? ⟨gb210, 0, none⟩ = some (.int .i64 0) := xc BK210 0 rfl; have hcz59_1 : w56.cell? ⟨gb210, 1, none⟩ = some (.string (⟨#[]⟩ : ByteArray)) := xc BK210 1 rfl; have hcz59_2 : w56.cell? ⟨gb210, 2, none⟩ = some (.string (⟨#[]⟩ : ByteArray)) := xc BK210 2 rfl; have hfz59_0 := blk_frozen BK210.out 0; have hfz59_1 := blk_frozen BK210.out 1; have hfz59_2 := blk_frozen BK210.out 2; have hnb60 := NB201_202.out; have hnc60 := NB202_201.out; have hcz61_0 : w56.cell? ⟨gb201, 0, none⟩ = some (.int .i64 a0_0) := xc BK201 0 rfl; have hcz61_1 : w56.cell? ⟨gb201, 1, none⟩ = some (.slice A0_1 l0_1.length c0_1) := xc BK201 1 rfl; have hfz61_0 := blk_frozen BK201.out 0; have hfz61_1 := blk_frozen BK201.out 1) | ((with_reducible refine gate_callee (f := 110) rfl ?_); refine goesL_ (some 35) rfl rfl Try.func110 (by kernel_rfl) rfl #[.agg #[.int .i64 a0_0, .slice A0_1 l0_1.length c0_1], .int .i64 a1] rfl (by (try simp only [List.map_toArray, List.map_cons, List.map_nil]); first | done | rfl | (simp only [List.length_drop, List.length_take]; rfl)) ?_; (with_reducible refine (spec_l3Find.calls kj3 a0_0 _ _ l0_1 a1 t211 _ ?side1 ?side2 A29.out).mono ?_); (case side1 => exact Kd.C_below HR0_1.out xbg); (case side2 => exact HC0_1.out); rintro e w62 ⟨rfl, hb⟩; refine ⟨_, rfl, ?_⟩; replace BK201 := aM (blk_below (g := gb201) (o := .cells #[.int .i64 a0_0, .slice A0_1 l0_1.length c0_1] 70 (0, 0)) (by (with_reducible repeat (first | refine blk_drewN ?_ _ | refine blk_drew ?_ | refine blk_alloc ?_ _)); refine blk_far ?_ NB201_210.out _; (with_reducible repeat (first | refine blk_drewN ?_ _ | refine blk_drew ?_ | refine blk_alloc ?_ _)); refine blk_far ?_ NB201_210.out _; (with_reducible repeat (first | refine blk_drewN ?_ _ | refine blk_drew ?_ | refine blk_alloc ?_ _)); refine blk_far ?_ NB201_210.out _; (with_reducible repeat (first | refine blk_drewN ?_ _ | refine blk_drew ?_ | refine blk_alloc ?_ _)); exact BK201.out) hb); replace BK202 := aM (blk_below (g := gb202) (o := .cells #[.int .i64 0, .slice none 0 0] 70 (0, 0)) (by (with_reducible repeat (first | refine blk_drewN ?_ _ | refine blk_drew ?_ | refine blk_alloc ?_ _)); refine blk_far ?_ NB202_210.out _; (with_reducible repeat (first | refine blk_drewN ?_ _ | refine blk_drew ?_ | refine blk_alloc ?_ _)); refine blk_far ?_ NB202_210.out _; (with_reducible repeat (first | refine blk_drewN ?_ _ | refine blk_drew ?_ | refine blk_alloc ?_ _)); refine blk_far ?_ NB202_210.out _; (with_reducible repeat (first | refine blk_drewN ?_ _ | refine blk_drew ?_ | refine blk_alloc ?_ _)); exact BK202.out) hb); replace BK210 := aM (blk_below (g := gb210) (o := .cells #[.int .i64 a1, .string (⟨#[]⟩ : ByteArray), .string (⟨#[]⟩ : ByteArray)] 134 (0, 0)) (by (with_reducible repeat (first | refine blk_drewN ?_ _ | refine blk_drew ?_ | refine blk_alloc ?_ _)); refine blk_put (cs := #[.int .i64 a1, .string (⟨#[]⟩ : ByteArray), .string (⟨#[]⟩ : ByteArray)]) ?_ 2 _ rfl; (with_reducible repeat (first | refine blk_drewN ?_ _ | refine blk_drew ?_ | refine blk_alloc ?_ _)); refine blk_put (cs := #[.int .i64 a1, .string (⟨#[]⟩ : ByteArray), .string (⟨#[]⟩ : ByteArray)]) ?_ 1 _ rfl; (with_reducible repeat (first | refine blk_drewN ?_ _ | refine blk_drew ?_ | refine blk_alloc ?_ _)); refine blk_put (cs := #[.int .i64 0, .string (⟨#[]⟩ : ByteArray), .string (⟨#[]⟩ : ByteArray)]) ?_ 0 _ rfl; (with_reducible repeat (first | refine blk_drewN ?_ _ | refine blk_drew ?_ | refine blk_alloc ?_ _)); exact BK210.out) hb); replace HB := xbs hb; (try clear hb); (try clear hb2); (try clear hk); (try clear hi); have hcz63_0 : w62.cell? ⟨gb210, 0, none⟩ = some (.int .i64 a1) := xc BK210 0 rfl; have hcz63_1 : w62.cell? ⟨gb210, 1, none⟩ = some (.string (⟨#[]⟩ : ByteArray)) := xc BK210 1 rfl; have hcz63_2 : w62.cell? ⟨gb210, 2, none⟩ = some (.string (⟨#[]⟩ : ByteArray)) := xc BK210 2 rfl; have hfz63_0 := blk_frozen BK210.out 0; have hfz63_1 := blk_frozen BK210.out 1; have hfz63_2 := blk_frozen BK210.out 2; have hcz64_0 : w62.cell? ⟨gb201, 0, none⟩ = some (.int .i64 a0_0) := xc BK201 0 rfl; have hcz64_1 : w62.cell? ⟨gb201, 1, none⟩ = some (.slice A0_1 l0_1.length c0_1) := xc BK201 1 rfl; have hfz64_0 := blk_frozen BK201.out 0; have hfz64_1 := blk_frozen BK201.out 1) | ((with_reducible refine gate_callee (f := 111) rfl ?_); refine goesL_ (some 50) rfl rfl Try.func111 (by kernel_rfl) rfl #[.agg #[.int .i64 a0_0, .slice A0_1 l0_1.length c0_1], .agg #[.int .i64 a1, .string (⟨#[]⟩ : ByteArray), .string ((⟨#[]⟩ : ByteArray) ++ a2)]] rfl (by (try simp only [List.map_toArray, List.map_cons, List.map_nil]); first | done | rfl | (simp only [List.length_drop, List.length_take]; rfl)) ?_; (with_reducible refine (spec_l3Put.calls kj3 a0_0 _ _ l0_1 a1 (⟨#[]⟩ : ByteArray) ((⟨#[]⟩ : ByteArray) ++ a2) t217 t218 _ ?side1 ?side2 A53.out).mono ?_); (case side1 => exact Kd.C_below HR0_1.out xbg); (case side2 => exact HC0_1.out); rintro e w65 ⟨v219, rfl, ho0, hb⟩; refine ⟨_, rfl, ?_⟩; have HO220 := aM (Kd.R_lower (Kd.R_newB ho0 (g := gb210) (o := .cells #[.int .i64 a1, .string (⟨#[]⟩ : ByteArray), .string ((⟨#[]⟩ : ByteArray) ++ a2)] 134 (0, 0)) (by (with_reducible repeat (first | refine blk_drewN ?_ _ | refine blk_drew ?_ | refine blk_alloc ?_ _)); refine blk_put (cs := #[.int .i64 a1, .string (⟨#[]⟩ : ByteArray), .string (⟨#[]⟩ : ByteArray)]) ?_ 2 _ rfl; (with_reducible repeat (first | refine blk_drewN ?_ _ | refine blk_drew ?_ | refine blk_alloc ?_ _)); exact BK210.out)) (below_size xbg)); replace BK201 := aM (blk_below (g := gb201) (o := .cells #[.int .i64 a0_0, .slice A0_1 l0_1.length c0_1] 70 (0, 0)) (by (with_reducible repeat (first | refine blk_drewN ?_ _ | refine blk_drew ?_ | refine blk_alloc ?_ _)); refine blk_far ?_ NB201_210.out _; (with_reducible repeat (first | refine blk_drewN ?_ _ | refine blk_drew ?_ | refine blk_alloc ?_ _)); exact BK201.out) hb); replace BK202 := aM (blk_below (g := gb202) (o := .cells #[.int .i64 0, .slice none 0 0] 70 (0, 0)) (by (with_reducible repeat (first | refine blk_drewN ?_ _ | refine blk_drew ?_ | refine blk_alloc ?_ _)); refine blk_far ?_ NB202_210.out _; (with_reducible repeat (first | refine blk_drewN ?_ _ | refine blk_drew ?_ | refine blk_alloc ?_ _)); exact BK202.out) hb); replace BK210 := aM (blk_below (g := gb210) (o := .cells #[.int .i64 a1, .string (⟨#[]⟩ : ByteArray), .string ((⟨#[]⟩ : ByteArray) ++ a2)] 134 (0, 0)) (by (with_reducible repeat (first | refine blk_drewN ?_ _ | refine blk_drew ?_ | refine blk_alloc ?_ _)); refine blk_put (cs := #[.int .i64 a1, .string (⟨#[]⟩ : ByteArray), .string (⟨#[]⟩ : ByteArray)]) ?_ 2 _ rfl; (with_reducible repeat (first | refine blk_drewN ?_ _ | refine blk_drew ?_ | refine blk_alloc ?_ _)); exact BK210.out) hb); replace HB := xbs hb; (try clear hb); (try clear hb2); (try clear hk); (try clear hi); (try clear ho0); have hcz66_0 : w65.cell? ⟨gb202, 0, none⟩ = some (.int .i64 0) := xc BK202 0 rfl; have hcz66_1 : w65.cell? ⟨gb202, 1, none⟩ = some (.slice none 0 0) := xc BK202 1 rfl; have hfz66_0 := blk_frozen BK202.out 0; have hfz66_1 := blk_frozen BK202.out 1; obtain ⟨Ao67, co67, eo67⟩ := Kd.R_slice HO220.out; subst eo67))
       refine bodyPost_ret (results_ct rfl _ _ gb202 70 #[.int .i64 t217, .slice Ao67 t218.length co67] (0, 0) _ rfl (by (with_reducible repeat (first | refine blk_drewN ?_ _ | refine blk_drew ?_ | refine blk_alloc ?_ _)); refine blk_put (cs := #[.int .i64 t217, .slice none 0 0]) ?_ 1 _ rfl; (with_reducible repeat (first | refine blk_drewN ?_ _ | refine blk_drew ?_ | refine blk_alloc ?_ _)); refine blk_put (cs := #[.int .i64 0, .slice none 0 0]) ?_ 0 _ rfl; (with_reducible repeat (first | refine blk_drewN ?_ _ | refine blk_drew ?_ | refine blk_alloc ?_ _)); exact BK202.out) Try.underlying70 rfl (by kernel_rfl)) rfl ?_
       exact ⟨_, by first | rfl | (simp [errW_none, errW_some] <;> rfl) | (simp [*, errW_none, errW_some] <;> rfl), by (with_reducible repeat (first | apply Kd.R_alloc | apply Kd.R_drewN | apply Kd.R_drew)); exact Kd.R_mono (Kd.R_far (p := ⟨gb202, 1, none⟩) (Kd.R_far (p := ⟨gb202, 0, none⟩) (Kd.R_types HO220.out BK202.out (by decide)) (fun _ hk => hk.2) (.int .i64 t217)) (fun _ hk => hk.2) (.slice Ao67 t218.length co67)) (fun _ hk => trivial), xbg⟩
      ·rw [if_neg c52] at H
       exact absurd H (by simp)

end Go.Proofs.Ytnjpfllmcmomoaa.QFnExactJournalAdd
