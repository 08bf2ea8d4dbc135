-- A walk, by a program of this session.
import Derived.Test.YtnjpfllmcmomoaaQFnFilesx0
namespace Go.Proofs.Ytnjpfllmcmomoaa.QFnFiles
open Go.RowKit Go.Proofs.YtnjpfllmcmomoaaW.PrintWords Go.Proofs.YtnjpfllmcmomoaaW.PrintLast Go.Proofs.YtnjpfllmcmomoaaW.PrintMore
attribute [local go_sem] max2_int min2_int max_two min_two max_three min_three max_four min_four   -- for this text's walks alone
set_option linter.unusedVariables false
set_option linter.unusedSimpArgs false

/-! ### spec_l3Find: function 110 -/
def spec_l3Find.l0 : Nat → Int → Int → Int → List (S134) → Option (Int)
 | 0, _, _, _, _ => none
 | k + 1, x1, x5, x121000, x121001 => if x5 < (x121001.length : Int) then (if 0 ≤ x5 then (if ((rd_T134 x121001 x5).f0) = x1 then (some x5) else (spec_l3Find.l0 k x1 (wrap64 (x5 + 1)) x121000 x121001)) else (none)) else (some (-1))
def spec_l3Find.f (k : Nat) (a0_0 : Int) (l0_1 : List (S134)) (a1 : Int) : Option (Int) := spec_l3Find.l0 k a1 0 a0_0 l0_1
set_option maxRecDepth 100000 in
theorem spec_l3Find.mono_l : ∀ k, (∀ y0 y1 y2 y3, LeO (spec_l3Find.l0 k y0 y1 y2 y3) (spec_l3Find.l0 (k + 1) y0 y1 y2 y3))
 | 0 => fun _ _ _ _ r h => by simp [spec_l3Find.l0] at h
 | k + 1 => by
  have ih0 := spec_l3Find.mono_l k
  ·intro y0 y1 y2 y3
   unfold spec_l3Find.l0
   repeat' first
   | (with_reducible exact ih0 _ _ _ _)
   | (with_reducible exact LeO.refl _)
   | (with_reducible exact LeO.none _)
   | (with_reducible refine LeO.ite ?_ ?_)
   | (with_reducible refine LeO.bind ?_ (fun _ => ?_))
   | exact ih0 _ _ _ _
   | exact LeO.none _
   | refine LeO.ite ?_ ?_
   | refine LeO.bind ?_ (fun _ => ?_)
theorem spec_l3Find.mono : ∀ a0 a1 a2 k, LeO (spec_l3Find.f k a0 a1 a2) (spec_l3Find.f (k + 1) a0 a1 a2) := by
 intro a0 a1 a2 k
 have ih0 := spec_l3Find.mono_l k
 unfold spec_l3Find.f
 repeat' first
  | (with_reducible exact ih0 _ _ _ _)
  | (with_reducible exact LeO.refl _)
  | (with_reducible exact LeO.none _)
  | (with_reducible refine LeO.ite ?_ ?_)
  | (with_reducible refine LeO.bind ?_ (fun _ => ?_))
  | exact ih0 _ _ _ _
  | exact LeO.none _
  | refine LeO.ite ?_ ?_
  | refine LeO.bind ?_ (fun _ => ?_)
set_option maxHeartbeats 8000000 in
set_option maxRecDepth 100000 in
theorem spec_l3Find.calls (k : Nat) (a0_0 : Int) (A0_1 : Option Addr) (c0_1 : Nat) (l0_1 : List (S134)) (a1 : Int) (r : Int) (w : World) (hr0_1 : Kd.C k134 w A0_1 l0_1.length l0_1) (hc0_1 : l0_1.length ≤ c0_1) (h : spec_l3Find.f k a0_0 l0_1 a1 = some r) :
 Calls Try.prog 110 #[.agg #[.int .i64 a0_0, .slice A0_1 l0_1.length c0_1], .int .i64 a1] w fun e w' => e = .returned (.int .i64 r) ∧ Below w.heap.size w w' := by
 have hu70 := Try.underlying70
 have HR0_1 := aM hr0_1
 have HC0_1 := aM hc0_1
 clear hr0_1 hc0_1
 have HB := aM (Below.refl w.heap.size w)
 have H : (spec_l3Find.l0 k a1 0 a0_0 l0_1) = some r := h
 clear h
 have H' := aM H
 clear H
 go_enter Try.func110, Try.ntmps110
 go_wp2_with (first | ((with_reducible refine gate_dst (N := 2) rfl ?_); refine box_event ?hg (N := 2) ?hd (cs := #[.int .i64 a0_0, .slice A0_1 l0_1.length c0_1]) (t := 70) ?hr ?_; (case hd => rfl); (case hg => rfl); (case hr => first | (go_simp; done) | (go_simp; rfl)); intro gb120 hg w3 hbox hb; have BK120 := aM (hbox); have GW120 := aM (xge hg); have GE120 := aM (xge hg); replace HB := xbs hb; clear hb hbox hg))
 go_loopg [5] k (fun kq v5 w' => ∃ (x5_1 : Int), v5 = .int .i64 x5_1 ∧ Aside0 (spec_l3Find.l0 kq a1 x5_1 a0_0 l0_1 = some r) ∧ Aside0 (kq ≤ k) ∧ Aside0 (w'.heap[gb120]? = some (.cells #[.int .i64 a0_0, (.slice A0_1 l0_1.length c0_1)] 70 (0, 0))) ∧ Aside0 (Below w.heap.size w w'))
 case atStart => exact ⟨(0), (by first | rfl | (simp; done) | (simp [*]; done)), H', ⟨Nat.le_refl _⟩, ⟨xblk⟩, ⟨xbg⟩⟩
 case round =>
  clear H'
  try clear c1
  try clear p2
  obtain ⟨x5_1, rfl, HA, HK1, BK120, HB⟩ := hrel
  cases gk with
  | zero => exact absurd HA.out (by simp [spec_l3Find.l0])
  | succ k1 =>
   have H := HA.out; clear HA
   simp only [spec_l3Find.l0] at H
   by_cases c4 : x5_1 < (l0_1.length : Int)
   ·rw [if_pos c4] at H
    have c4b0 : decide (x5_1 < (l0_1.length : Int)) = true := decide_eq_true c4; clear c4
    by_cases c5 : 0 ≤ x5_1
    ·rw [if_pos c5] at H
     have c5b0 : decide (0 ≤ x5_1) = true := decide_eq_true c5; clear c5
     by_cases c6 : ((rd_T134 l0_1 x5_1).f0) = a1
     ·rw [if_pos c6] at H
      have c6b0 : (((rd_T134 l0_1 x5_1).f0) == a1) = true := beq_iff_eq.mpr c6; have c6b1 : (((rd_T134 l0_1 x5_1).f0) != a1) = false := bne_eq_false_iff_eq.mpr c6; clear c6
      obtain rfl := Option.some.inj H
      obtain ⟨hcz7_0, hcz7_1, hfz7_0, hfz7_1⟩ := xf2 (w := wr) BK120; have p121 : 0 ≤ (x5_1 : Int) := oda; have q121 : x5_1 < (l0_1.length : Int) := oda
      obtain ⟨ad121, e121, hx121_0, hx121_1, hx121_2⟩ := at_T134 HR0_1.out x5_1 p121 q121
      cases e121
      replace hx121_0 := xce HB hx121_0; replace hx121_1 := xce HB hx121_1; replace hx121_2 := xce HB hx121_2; replace p121 := eq_true p121; replace q121 := eq_true q121
      go_wp2
      go_ret
      exact ⟨by first | rfl | (simp [errW_none, errW_some] <;> rfl) | (simp [*, errW_none, errW_some] <;> rfl), xbg⟩
     ·rw [if_neg c6] at H
      have c6b0 : (((rd_T134 l0_1 x5_1).f0) == a1) = false := beq_eq_false_iff_ne.mpr c6; have c6b1 : (((rd_T134 l0_1 x5_1).f0) != a1) = true := bne_iff_ne.mpr c6
      have H' := aM H
      clear H; obtain ⟨hcz8_0, hcz8_1, hfz8_0, hfz8_1⟩ := xf2 (w := wr) BK120; have p121 : 0 ≤ (x5_1 : Int) := oda; have q121 : x5_1 < (l0_1.length : Int) := oda
      obtain ⟨ad121, e121, hx121_0, hx121_1, hx121_2⟩ := at_T134 HR0_1.out x5_1 p121 q121
      cases e121
      replace hx121_0 := xce HB hx121_0; replace hx121_1 := xce HB hx121_1; replace hx121_2 := xce HB hx121_2; replace p121 := eq_true p121; replace q121 := eq_true q121
      go_wp2
      go_roundg k1
      case measure => have := HK1.out; omega
      case rel => exact ⟨(wrap64 (x5_1 + 1)), (by first | rfl | (simp; done) | (simp [*]; done)), H', ⟨by have := HK1.out; omega⟩, ⟨xblk⟩, ⟨xbg⟩⟩
    ·rw [if_neg c5] at H
     exact absurd H (by simp)
   ·rw [if_neg c4] at H
    have c4b0 : decide (x5_1 < (l0_1.length : Int)) = false := decide_eq_false c4; clear c4
    obtain rfl := Option.some.inj H
    obtain ⟨hcz9_0, hcz9_1, hfz9_0, hfz9_1⟩ := xf2 (w := wr) BK120
    go_wp2
    go_ret
    exact ⟨by first | rfl | (simp [errW_none, errW_some] <;> rfl) | (simp [*, errW_none, errW_some] <;> rfl), xbg⟩

/-! ### spec_l3Put: function 111 -/
mutual
def spec_l3Put.l0 : Nat → Bool → Int → Int → List (S134) → Int → ByteArray → ByteArray → Int → List (S134) → Option (Int × (List (S134)))
 | 0, _, _, _, _, _, _, _, _, _ => none
 | k + 1, x6, x7, x123000, x123001, x124000, x124001, x124002, x126000, x126001 => if x7 < (x123001.length : Int) then (if x6 = true then (spec_l3Put.j1 k x6 x7 false x123000 x123001 x124000 x124001 x124002 x126000 x126001) else (if 0 ≤ x7 then (spec_l3Put.j1 k x6 x7 (decide (((rd_T134 x123001 x7).f0) ≥ x124000)) x123000 x123001 x124000 x124001 x124002 x126000 x126001) else (none))) else (if x6 = true then (some (x126000, x126001)) else (if x126001.length < 3518437208883 then (some (x126000, (x126001 ++ [(⟨x124000, x124001, x124002⟩ : S134)]))) else (none)))
def spec_l3Put.j1 : Nat → Bool → Int → Bool → Int → List (S134) → Int → ByteArray → ByteArray → Int → List (S134) → Option (Int × (List (S134)))
 | 0, _, _, _, _, _, _, _, _, _, _ => none
 | k + 1, x6, x7, x30, x123000, x123001, x124000, x124001, x124002, x126000, x126001 => if x30 = true then (if x126001.length < 3518437208883 then ((some (x126001 ++ [(⟨x124000, x124001, x124002⟩ : S134)] : List (S134))).bind fun y130 => (if 0 ≤ x7 then (if x7 < (x123001.length : Int) then (if ((rd_T134 x123001 x7).f0) = x124000 then (spec_l3Put.l0 k true (wrap64 (x7 + 1)) x123000 x123001 x124000 x124001 x124002 x126000 y130) else (if y130.length < 3518437208883 then (spec_l3Put.l0 k true (wrap64 (x7 + 1)) x123000 x123001 x124000 x124001 x124002 x126000 (y130 ++ [(⟨(rd_T134 x123001 x7).f0, (rd_T134 x123001 x7).f1, (rd_T134 x123001 x7).f2⟩ : S134)])) else (none))) else (none)) else (none))) else (none)) else (if 0 ≤ x7 then (if x7 < (x123001.length : Int) then (if ((rd_T134 x123001 x7).f0) = x124000 then (spec_l3Put.l0 k x6 (wrap64 (x7 + 1)) x123000 x123001 x124000 x124001 x124002 x126000 x126001) else (if x126001.length < 3518437208883 then (spec_l3Put.l0 k x6 (wrap64 (x7 + 1)) x123000 x123001 x124000 x124001 x124002 x126000 (x126001 ++ [(⟨(rd_T134 x123001 x7).f0, (rd_T134 x123001 x7).f1, (rd_T134 x123001 x7).f2⟩ : S134)])) else (none))) else (none)) else (none))
end
def spec_l3Put.f (k : Nat) (a0_0 : Int) (l0_1 : List (S134)) (a1_0 : Int) (a1_1 : ByteArray) (a1_2 : ByteArray) : Option (Int × (List (S134))) := spec_l3Put.l0 k false 0 a0_0 l0_1 a1_0 a1_1 a1_2 a0_0 ([] : List (S134))
set_option maxRecDepth 100000 in
theorem spec_l3Put.mono_l : ∀ k, (∀ y0 y1 y2 y3 y4 y5 y6 y7 y8, LeO (spec_l3Put.l0 k y0 y1 y2 y3 y4 y5 y6 y7 y8) (spec_l3Put.l0 (k + 1) y0 y1 y2 y3 y4 y5 y6 y7 y8)) ∧ (∀ y0 y1 y2 y3 y4 y5 y6 y7 y8 y9, LeO (spec_l3Put.j1 k y0 y1 y2 y3 y4 y5 y6 y7 y8 y9) (spec_l3Put.j1 (k + 1) y0 y1 y2 y3 y4 y5 y6 y7 y8 y9))
 | 0 => ⟨fun _ _ _ _ _ _ _ _ _ r h => by simp [spec_l3Put.l0] at h, fun _ _ _ _ _ _ _ _ _ _ r h => by simp [spec_l3Put.j1] at h⟩
 | k + 1 => by
  obtain ⟨ih0, ih1⟩ := spec_l3Put.mono_l k
  refine ⟨?_, ?_⟩
  ·intro y0 y1 y2 y3 y4 y5 y6 y7 y8
   unfold spec_l3Put.l0
   repeat' first
   | (with_reducible exact ih0 _ _ _ _ _ _ _ _ _)
   | (with_reducible exact ih1 _ _ _ _ _ _ _ _ _ _)
   | (with_reducible exact LeO.refl _)
   | (with_reducible exact LeO.none _)
   | (with_reducible refine LeO.ite ?_ ?_)
   | (with_reducible refine LeO.bind ?_ (fun _ => ?_))
   | exact ih0 _ _ _ _ _ _ _ _ _
   | exact ih1 _ _ _ _ _ _ _ _ _ _
   | exact LeO.none _
   | refine LeO.ite ?_ ?_
   | refine LeO.bind ?_ (fun _ => ?_)
  ·intro y0 y1 y2 y3 y4 y5 y6 y7 y8 y9
   unfold spec_l3Put.j1
   repeat' first
   | (with_reducible exact ih0 _ _ _ _ _ _ _ _ _)
   | (with_reducible exact ih1 _ _ _ _ _ _ _ _ _ _)
   | (with_reducible exact LeO.refl _)
   | (with_reducible exact LeO.none _)
   | (with_reducible refine LeO.ite ?_ ?_)
   | (with_reducible refine LeO.bind ?_ (fun _ => ?_))
   | exact ih0 _ _ _ _ _ _ _ _ _
   | exact ih1 _ _ _ _ _ _ _ _ _ _
   | exact LeO.none _
   | refine LeO.ite ?_ ?_
   | refine LeO.bind ?_ (fun _ => ?_)
theorem spec_l3Put.mono : ∀ a0 a1 a2 a3 a4 k, LeO (spec_l3Put.f k a0 a1 a2 a3 a4) (spec_l3Put.f (k + 1) a0 a1 a2 a3 a4) := by
 intro a0 a1 a2 a3 a4 k
 obtain ⟨ih0, ih1⟩ := spec_l3Put.mono_l k
 unfold spec_l3Put.f
 repeat' first
  | (with_reducible exact ih0 _ _ _ _ _ _ _ _ _)
  | (with_reducible exact ih1 _ _ _ _ _ _ _ _ _ _)
  | (with_reducible exact LeO.refl _)
  | (with_reducible exact LeO.none _)
  | (with_reducible refine LeO.ite ?_ ?_)
  | (with_reducible refine LeO.bind ?_ (fun _ => ?_))
  | exact ih0 _ _ _ _ _ _ _ _ _
  | exact ih1 _ _ _ _ _ _ _ _ _ _
  | exact LeO.none _
  | refine LeO.ite ?_ ?_
  | refine LeO.bind ?_ (fun _ => ?_)
def spec_l3Put.T6 : Bool × List (List Nat × List Nat) := (true, [([], []), ([0], [0]), ([1], [1]), ([2], [2]), ([3, 2], [2, 3]), ([2], [2]), ([4, 5, 2], [2, 4, 5]), ([6, 2], [2, 6]), ([7, 2], [2, 7]), ([2], [2]), ([9, 2], [2, 9]), ([8, 10, 2], [2, 8, 10]), ([2, 11], [2, 11])])
def spec_l3Put.B6 : List Nat := [0, 1, 3, 7, 15, 7, 63, 127, 255, 7, 519, 2047, 4095]
theorem spec_l3Put.tab6 : rtab .any (opsOf Try.f111 6) = spec_l3Put.T6 := by kernel_rfl
theorem spec_l3Put.bits6 : waitsOk spec_l3Put.T6.2 spec_l3Put.B6 = true := by kernel_rfl
def spec_l3Put.T9 : Bool × List (List Nat × List Nat) := (true, [([], []), ([0], [0]), ([], []), ([1, 2], [1, 2]), ([3], [3]), ([4], [4]), ([], []), ([6], [6]), ([5, 7], [5, 7])])
def spec_l3Put.B9 : List Nat := [0, 1, 0, 7, 15, 31, 0, 64, 255]
theorem spec_l3Put.tab9 : rtab .any (opsOf Try.f111 9) = spec_l3Put.T9 := by kernel_rfl
theorem spec_l3Put.bits9 : waitsOk spec_l3Put.T9.2 spec_l3Put.B9 = true := by kernel_rfl
def spec_l3Put.T10 : Bool × List (List Nat × List Nat) := (true, [([], []), ([0], [0]), ([], []), ([2], [2]), ([], []), ([3, 4], [3, 4]), ([5], [5]), ([6], [6]), ([1, 7], [1, 7]), ([0, 1, 2, 3, 4, 5, 6, 7, 8], []), ([9, 8, 8, 0, 1, 2, 3, 4, 5, 6, 7, 8], [8, 9])])
def spec_l3Put.B10 : List Nat := [0, 1, 0, 4, 0, 28, 60, 124, 255, 511, 1023]
theorem spec_l3Put.tab10 : rtab .any (opsOf Try.f111 10) = spec_l3Put.T10 := by kernel_rfl
theorem spec_l3Put.bits10 : waitsOk spec_l3Put.T10.2 spec_l3Put.B10 = true := by kernel_rfl
set_option maxHeartbeats 8000000 in
set_option maxRecDepth 100000 in
theorem spec_l3Put.calls (k : Nat) (a0_0 : Int) (A0_1 : Option Addr) (c0_1 : Nat) (l0_1 : List (S134)) (a1_0 : Int) (a1_1 : ByteArray) (a1_2 : ByteArray) (r1 : Int) (r2 : List (S134)) (w : World) (hr0_1 : Kd.C k134 w A0_1 l0_1.length l0_1) (hc0_1 : l0_1.length ≤ c0_1) (h : spec_l3Put.f k a0_0 l0_1 a1_0 a1_1 a1_2 = some (r1, r2)) :
 Calls Try.prog 111 #[.agg #[.int .i64 a0_0, .slice A0_1 l0_1.length c0_1], .agg #[.int .i64 a1_0, .string a1_1, .string a1_2]] w fun e w' => ∃ v1_ : Value, e = .returned (.agg #[.int .i64 r1, v1_]) ∧ Kd.R k134 134 w' w.heap.size (fun _ => True) v1_ r2 ∧ Below w.heap.size w w' := by
 have hu70 := Try.underlying70
 have hu134 := Try.underlying134
 have HR0_1 := aM hr0_1
 have HC0_1 := aM hc0_1
 clear hr0_1 hc0_1
 have HB := aM (Below.refl w.heap.size w)
 have H : (spec_l3Put.l0 k false 0 a0_0 l0_1 a1_0 a1_1 a1_2 a0_0 ([] : List (S134))) = some (r1, r2) := h
 clear h
 have H' := aM H
 clear H
 go_enter Try.func111, Try.ntmps111
 go_wp2_with (first | ((with_reducible refine gate_dst (N := 2) rfl ?_); refine box_event ?hg (N := 2) ?hd (cs := #[.int .i64 a0_0, .slice A0_1 l0_1.length c0_1]) (t := 70) ?hr ?_; (case hd => rfl); (case hg => rfl); (case hr => first | (go_simp; done) | (go_simp; rfl)); intro gb122 hg w3 hbox hb; have BK122 := aM (hbox); have GW122 := aM (xge hg); have GE122 := aM (xge hg); replace HB := xbs hb; clear hb hbox hg) | ((with_reducible refine gate_dst (N := 3) rfl ?_); refine box_event ?hg (N := 3) ?hd (cs := #[.int .i64 a1_0, .string a1_1, .string a1_2]) (t := 134) ?hr ?_; (case hd => rfl); (case hg => rfl); (case hr => first | (go_simp; done) | (go_simp; rfl)); intro gb123 hg w4 hbox hb; have GW123 := aM (xge hg); have GE123 := aM (xge hg); replace HB := xbs hb; have NB122_123 := aM ((by rw [hg]; exact Nat.ne_of_lt (blk_lt (g := gb122) (o := .cells #[.int .i64 a0_0, .slice A0_1 l0_1.length c0_1] 70 (0, 0)) xblk) : gb122 ≠ gb123)); have NB123_122 := aM ((by rw [hg]; exact Nat.ne_of_gt (blk_lt (g := gb122) (o := .cells #[.int .i64 a0_0, .slice A0_1 l0_1.length c0_1] 70 (0, 0)) xblk) : gb123 ≠ gb122)); replace BK122 := xbb BK122 hb; have BK123 := aM (hbox); clear hb hbox hg) | ((with_reducible refine gate_dst (N := 4) rfl ?_); refine box_event ?hg (N := 4) ?hd (cs := #[.int .i64 0, .slice none 0 0]) (t := 70) ?hr ?_; (case hd => rfl); (case hg => rfl); (case hr => first | (go_simp; done) | (go_simp; rfl)); intro gb124 hg w5 hbox hb; have GW124 := aM (xge hg); have GE124 := aM (xge hg); replace HB := xbs hb; have NB122_124 := aM ((by rw [hg]; exact Nat.ne_of_lt (blk_lt (g := gb122) (o := .cells #[.int .i64 a0_0, .slice A0_1 l0_1.length c0_1] 70 (0, 0)) xblk) : gb122 ≠ gb124)); have NB124_122 := aM ((by rw [hg]; exact Nat.ne_of_gt (blk_lt (g := gb122) (o := .cells #[.int .i64 a0_0, .slice A0_1 l0_1.length c0_1] 70 (0, 0)) xblk) : gb124 ≠ gb122)); have NB123_124 := aM ((by rw [hg]; exact Nat.ne_of_lt (blk_lt (g := gb123) (o := .cells #[.int .i64 a1_0, .string a1_1, .string a1_2] 134 (0, 0)) xblk) : gb123 ≠ gb124)); have NB124_123 := aM ((by rw [hg]; exact Nat.ne_of_gt (blk_lt (g := gb123) (o := .cells #[.int .i64 a1_0, .string a1_1, .string a1_2] 134 (0, 0)) xblk) : gb124 ≠ gb123)); replace BK122 := xbb BK122 hb; replace BK123 := xbb BK123 hb; have BK124 := aM (hbox); clear hb hbox hg; have hnb6 := NB122_123.out; have hnc6 := NB123_122.out; have hnb7 := NB122_124.out; have hnc7 := NB124_122.out; obtain ⟨hcz8_0, hcz8_1, hfz8_0, hfz8_1⟩ := xf2 (w := w5) BK122) | ((with_reducible refine gate_dst (N := 5) rfl ?_); refine box_event ?hg (N := 5) ?hd (cs := #[.int .i64 0, .slice none 0 0]) (t := 70) ?hr ?_; (case hd => rfl); (case hg => rfl); (case hr => first | (go_simp; done) | (go_simp; rfl)); intro gb125 hg w9 hbox hb; have GW125 := aM (xge hg); have GE125 := aM (xge hg); replace HB := xbs hb; have NB122_125 := aM ((by rw [hg]; exact Nat.ne_of_lt (blk_lt (g := gb122) (o := .cells #[.int .i64 a0_0, .slice A0_1 l0_1.length c0_1] 70 (0, 0)) xblk) : gb122 ≠ gb125)); have NB125_122 := aM ((by rw [hg]; exact Nat.ne_of_gt (blk_lt (g := gb122) (o := .cells #[.int .i64 a0_0, .slice A0_1 l0_1.length c0_1] 70 (0, 0)) xblk) : gb125 ≠ gb122)); have NB123_125 := aM ((by rw [hg]; exact Nat.ne_of_lt (blk_lt (g := gb123) (o := .cells #[.int .i64 a1_0, .string a1_1, .string a1_2] 134 (0, 0)) xblk) : gb123 ≠ gb125)); have NB125_123 := aM ((by rw [hg]; exact Nat.ne_of_gt (blk_lt (g := gb123) (o := .cells #[.int .i64 a1_0, .string a1_1, .string a1_2] 134 (0, 0)) xblk) : gb125 ≠ gb123)); have NB124_125 := aM ((by rw [hg]; exact Nat.ne_of_lt (blk_lt (g := gb124) (o := .cells #[.int .i64 0, .slice none 0 0] 70 (0, 0)) xblk) : gb124 ≠ gb125)); have NB125_124 := aM ((by rw [hg]; exact Nat.ne_of_gt (blk_lt (g := gb124) (o := .cells #[.int .i64 0, .slice none 0 0] 70 (0, 0)) xblk) : gb125 ≠ gb124)); replace BK122 := xbb BK122 hb; replace BK123 := xbb BK123 hb; replace BK124 := xbb BK124 hb; have BK125 := aM (hbox); clear hb hbox hg; have hnb10 := NB125_122.out; have hnc10 := NB122_125.out; have hnb11 := NB125_123.out; have hnc11 := NB123_125.out; have hnb12 := NB125_124.out; have hnc12 := NB124_125.out; obtain ⟨hcz13_0, hcz13_1, hfz13_0, hfz13_1⟩ := xf2 (w := w9) BK125))
 go_loopg [6, 7] k (fun kq v6 v7 w' => ∃ (x6_1 : Bool) (x7_1 : Int) (x126001_1 : List (S134)) (u126001 : Value), v6 = .bool x6_1 ∧ v7 = .int .i64 x7_1 ∧ Aside0 (spec_l3Put.l0 kq x6_1 x7_1 a0_0 l0_1 a1_0 a1_1 a1_2 a0_0 x126001_1 = some (r1, r2)) ∧ Aside0 (kq ≤ k) ∧ Aside0 (Kd.R k134 134 w' w.heap.size (fun k_ => k_ ≠ gb123) u126001 x126001_1) ∧ Aside0 (w'.heap[gb122]? = some (.cells #[.int .i64 a0_0, (.slice A0_1 l0_1.length c0_1)] 70 (0, 0))) ∧ Aside0 (w'.heap[gb123]? = some (.cells #[.int .i64 a1_0, .string a1_1, .string a1_2] 134 (0, 0))) ∧ Aside0 (w'.heap[gb124]? = some (.cells #[.int .i64 0, (.slice none 0 0)] 70 (0, 0))) ∧ Aside0 (w'.heap[gb125]? = some (.cells #[.int .i64 a0_0, u126001] 70 (0, 0))) ∧ Aside0 (Below w.heap.size w w'))
 case atStart => exact ⟨(false), (0), (([] : List (S134))), (.slice none 0 0), (by first | rfl | (simp; done) | (simp [*]; done)), (by first | rfl | (simp; done) | (simp [*]; done)), H', ⟨Nat.le_refl _⟩, ⟨by first | exact Kd.R_nil _ _ _ _ _ | exact Kd.N_nil _ _ _ _ _ | exact Kd.V_nil _ _ _ _ _ | exact Kd.Q_nil _ _ _ _ _ | exact Kd.S_nil _ _ _ _ _⟩, ⟨by (with_reducible repeat (first | refine blk_drewN ?_ _ | refine blk_drew ?_ | refine blk_alloc ?_ _)); refine blk_far ?_ NB122_125.out _; (with_reducible repeat (first | refine blk_drewN ?_ _ | refine blk_drew ?_ | refine blk_alloc ?_ _)); refine blk_far ?_ NB122_125.out _; (with_reducible repeat (first | refine blk_drewN ?_ _ | refine blk_drew ?_ | refine blk_alloc ?_ _)); exact BK122.out⟩, ⟨by (with_reducible repeat (first | refine blk_drewN ?_ _ | refine blk_drew ?_ | refine blk_alloc ?_ _)); refine blk_far ?_ NB123_125.out _; (with_reducible repeat (first | refine blk_drewN ?_ _ | refine blk_drew ?_ | refine blk_alloc ?_ _)); refine blk_far ?_ NB123_125.out _; (with_reducible repeat (first | refine blk_drewN ?_ _ | refine blk_drew ?_ | refine blk_alloc ?_ _)); exact BK123.out⟩, ⟨by (with_reducible repeat (first | refine blk_drewN ?_ _ | refine blk_drew ?_ | refine blk_alloc ?_ _)); refine blk_far ?_ NB124_125.out _; (with_reducible repeat (first | refine blk_drewN ?_ _ | refine blk_drew ?_ | refine blk_alloc ?_ _)); refine blk_far ?_ NB124_125.out _; (with_reducible repeat (first | refine blk_drewN ?_ _ | refine blk_drew ?_ | refine blk_alloc ?_ _)); exact BK124.out⟩, ⟨by (with_reducible repeat (first | refine blk_drewN ?_ _ | refine blk_drew ?_ | refine blk_alloc ?_ _)); refine blk_put (cs := #[.int .i64 a0_0, .slice none 0 0]) ?_ 1 _ rfl; (with_reducible repeat (first | refine blk_drewN ?_ _ | refine blk_drew ?_ | refine blk_alloc ?_ _)); refine blk_put (cs := #[.int .i64 0, .slice none 0 0]) ?_ 0 _ rfl; (with_reducible repeat (first | refine blk_drewN ?_ _ | refine blk_drew ?_ | refine blk_alloc ?_ _)); exact BK125.out⟩, ⟨xbg⟩⟩
 case round =>
  clear H'
  try clear c1
  try clear p2
  try clear c6
  try clear c7
  try clear c10
  try clear c11
  try clear c12
  try clear hcz13_0
  try clear hcz13_1
  try clear hcz8_0
  try clear hcz8_1
  try clear hfz13_0
  try clear hfz13_1
  try clear hfz8_0
  try clear hfz8_1
  obtain ⟨x6_1, x7_1, x126001_1, u126001, rfl, rfl, HA, HK1, HO_126001, BK122, BK123, BK124, BK125, HB⟩ := hrel
  cases gk with
  | zero => exact absurd HA.out (by simp [spec_l3Put.l0])
  | succ k1 =>
   have H := HA.out; clear HA
   simp only [spec_l3Put.l0] at H
   by_cases c14 : x7_1 < (l0_1.length : Int)
   ·rw [if_pos c14] at H
    have c14b0 : decide (x7_1 < (l0_1.length : Int)) = true := decide_eq_true c14; clear c14; have HC15 := aM H; clear H; have hnb16 := NB122_123.out; have hnc16 := NB123_122.out; have hnb17 := NB122_124.out; have hnc17 := NB124_122.out; have hnb18 := NB122_125.out; have hnc18 := NB125_122.out; obtain ⟨hcz19_0, hcz19_1, hfz19_0, hfz19_1⟩ := xf2 (w := wr) BK122
    go_upto_region 6 with (fail)
    go_cut [30] (fun v30 wc => ∃ (kq : Nat) (x30_14 : Bool), v30 = .bool x30_14 ∧ Aside0 (spec_l3Put.j1 kq x6_1 x7_1 x30_14 a0_0 l0_1 a1_0 a1_1 a1_2 a0_0 x126001_1 = some (r1, r2)) ∧ Aside0 (kq ≤ k1) ∧ Aside0 (Kd.R k134 134 wc w.heap.size (fun k_ => k_ ≠ gb123) u126001 x126001_1) ∧ Aside0 (wc.heap[gb122]? = some (.cells #[.int .i64 a0_0, (.slice A0_1 l0_1.length c0_1)] 70 (0, 0))) ∧ Aside0 (wc.heap[gb123]? = some (.cells #[.int .i64 a1_0, .string a1_1, .string a1_2] 134 (0, 0))) ∧ Aside0 (wc.heap[gb124]? = some (.cells #[.int .i64 0, (.slice none 0 0)] 70 (0, 0))) ∧ Aside0 (wc.heap[gb125]? = some (.cells #[.int .i64 a0_0, u126001] 70 (0, 0))) ∧ Aside0 (Below w.heap.size w wc))
    case first =>
     have H := HC15.out; clear HC15
     by_cases c20 : x6_1 = true
     ·subst c20
      have H1 : (spec_l3Put.j1 k1 true x7_1 false a0_0 l0_1 a1_0 a1_1 a1_2 a0_0 x126001_1) = some (r1, r2) := by rw [if_pos rfl] at H; exact H
      clear H; have H := H1; clear H1
      have H' := aM H
      clear H
      try go_wp2
      replace HO_126001 := aM (Kd.R_drew HO_126001.out); replace BK122 := aM (blk_drew BK122.out); replace BK123 := aM (blk_drew BK123.out); replace BK124 := aM (blk_drew BK124.out); replace BK125 := aM (blk_drew BK125.out); replace HB := aM (below_drew1 HB.out)
      refine start_ (n := 13) (S := fun w' => True) (ds := []) #[false, false, false, false, false, false, false, false, false, false, false, false, false] (by kernel_rfl) rfl rfl trivial (fun hHeld => ?_); refine with_tabW spec_l3Put.tab6 spec_l3Put.bits6 (fun HT_ HW_ => ?_)
      generalize wr.drew = w21 at HO_126001 BK122 BK123 BK124 BK125 HB hHeld ⊢
      refine pv_ 0 18 (h := ?_)
      refine pv_ 1 19 (h := ?_)
      refine pv_ 2 20 (h := ?_)
      refine pu_ 3 21 (h := ?_)
      refine pu_ 4 22 (h := ?_)
      refine pu_ 5 23 (h := ?_)
      refine pu_ 6 24 (h := ?_)
      refine pu_ 7 25 (h := ?_)
      refine pu_ 8 26 (h := ?_)
      refine pu_ 9 27 (h := ?_)
      refine pu_ 10 28 (h := ?_)
      refine pu_ 11 29 (h := ?_)
      refine pv_ 12 30 (h := ?_)
      refine done_ (done_of HT_.out (by kernel_rfl)) ?_
      try go_wp2
      go_meet
      case rel => exact ⟨_, (false), (by first | rfl | (simp; done) | (simp [*]; done)), H', ⟨by have := HK1.out; first | omega | exact Nat.le_refl _⟩, ⟨by (with_reducible repeat (first | apply Kd.R_alloc | apply Kd.R_drewN | apply Kd.R_drew)); exact HO_126001.out⟩, ⟨xblk⟩, ⟨xblk⟩, ⟨xblk⟩, ⟨xblk⟩, ⟨xbg⟩⟩
     ·replace c20 := Bool.eq_false_iff.mpr c20
      subst c20
      have H1 : (if 0 ≤ x7_1 then (spec_l3Put.j1 k1 false x7_1 (decide (((rd_T134 l0_1 x7_1).f0) ≥ a1_0)) a0_0 l0_1 a1_0 a1_1 a1_2 a0_0 x126001_1) else (none)) = some (r1, r2) := by rw [if_neg (show ¬ (false = true) by decide)] at H; exact H
      clear H; have H := H1; clear H1
      by_cases c22 : 0 ≤ x7_1
      ·rw [if_pos c22] at H
       have c22b0 : decide (0 ≤ x7_1) = true := decide_eq_true c22; clear c22
       (first | rw [c22b0] | (simp only [i64_w, i32_w]; rw [c22b0]) | skip)
       have H' := aM H
       clear H
       try go_wp2
       replace HO_126001 := aM (Kd.R_drew HO_126001.out); replace BK122 := aM (blk_drew BK122.out); replace BK123 := aM (blk_drew BK123.out); replace BK124 := aM (blk_drew BK124.out); replace BK125 := aM (blk_drew BK125.out); replace HB := aM (below_drew1 HB.out); have p129 : 0 ≤ (x7_1 : Int) := oda; have q129 : x7_1 < (l0_1.length : Int) := oda
       obtain ⟨ad129, e129, hx129_0, hx129_1, hx129_2⟩ := at_T134 HR0_1.out x7_1 p129 q129
       have hw129_2 := hx129_2; have hw129_1 := hx129_1; have hw129_0 := hx129_0
       cases e129
       replace hx129_0 := xce HB hx129_0; replace hx129_1 := xce HB hx129_1; replace hx129_2 := xce HB hx129_2; replace p129 := eq_true p129; replace q129 := eq_true q129
       refine start_ (n := 13) (S := fun w' => w'.cell? ⟨gb122, 0, none⟩ = some (.int .i64 a0_0) ∧ w'.cell? ⟨gb122, 1, none⟩ = some (.slice (some ad129) l0_1.length c0_1) ∧ w'.cell? ⟨gb123, 0, none⟩ = some (.int .i64 a1_0) ∧ w'.cell? ⟨gb123, 1, none⟩ = some (.string a1_1) ∧ w'.cell? ⟨gb123, 2, none⟩ = some (.string a1_2) ∧ w'.cell? (ad129.add ((x7_1).toNat * 3)) = some (.int .i64 ((rd_T134 l0_1 x7_1).f0)) ∧ w'.cell? ⟨(ad129.add ((x7_1).toNat * 3)).block, (ad129.add ((x7_1).toNat * 3)).off + 1, none⟩ = some (.string ((rd_T134 l0_1 x7_1).f1)) ∧ w'.cell? ⟨(ad129.add ((x7_1).toNat * 3)).block, (ad129.add ((x7_1).toNat * 3)).off + 2, none⟩ = some (.string ((rd_T134 l0_1 x7_1).f2))) (ds := []) #[false, false, false, false, false, false, false, false, false, false, false, false, false] (by kernel_rfl) rfl rfl ⟨xc BK122 0 rfl, xc BK122 1 rfl, xc BK123 0 rfl, xc BK123 1 rfl, xc BK123 2 rfl, (xce HB hw129_0), (xce HB hw129_1), (xce HB hw129_2)⟩ (fun hHeld => ?_); refine with_tabW spec_l3Put.tab6 spec_l3Put.bits6 (fun HT_ HW_ => ?_)
       generalize wr.drew = w23 at HO_126001 BK122 BK123 BK124 BK125 HB hx129_0 hx129_1 hx129_2 hHeld ⊢
       refine pv_ 0 18 (h := ?_)
       refine pv_ 1 19 (h := ?_)
       refine pv_ 2 20 (h := ?_)
       refine pv_ 3 21 (h := ?_)
       refine pv_ 5 23 (h := ?_)
       refine pv_ 9 27 (h := ?_)
       refine tk_ 4 22 (h := ?_)
       refine pv_ 6 24 (h := ?_)
       refine pv_ 7 25 (h := ?_)
       refine tk_ 8 26 (h := ?_)
       refine tk_ 10 28 (h := ?_)
       refine pv_ 11 29 (h := ?_)
       refine pv_ 12 30 (h := ?_)
       refine done_ (done_of HT_.out (by kernel_rfl)) ?_
       try go_wp2
       go_meet
       case rel => exact ⟨_, (decide (((rd_T134 l0_1 x7_1).f0) ≥ a1_0)), (by first | rfl | (simp; done) | (simp [*]; done)), H', ⟨by have := HK1.out; first | omega | exact Nat.le_refl _⟩, ⟨by (with_reducible repeat (first | apply Kd.R_alloc | apply Kd.R_drewN | apply Kd.R_drew)); exact HO_126001.out⟩, ⟨xblk⟩, ⟨xblk⟩, ⟨xblk⟩, ⟨xblk⟩, ⟨xbg⟩⟩
      ·rw [if_neg c22] at H
       exact absurd H (by simp)
    case rest =>
     clear HC15
     try clear c1
     try clear p1
     try clear q1
     try clear hx1
     try clear c2
     try clear p2
     try clear c6
     try clear c7
     try clear c10
     try clear c11
     try clear c12
     try clear p12
     try clear q12
     try clear hx12
     try clear c14
     try clear c14b0
     try clear c16
     try clear c17
     try clear c18
     try clear c20
     try clear c22
     try clear c22b0
     try clear hcz13_0
     try clear hcz13_1
     try clear hcz19_0
     try clear hcz19_1
     try clear hcz8_0
     try clear hcz8_1
     try clear hfz13_0
     try clear hfz13_1
     try clear hfz19_0
     try clear hfz19_1
     try clear hfz8_0
     try clear hfz8_1
     try clear hx129_0
     try clear hx129_1
     try clear hx129_2
     try clear p129
     try clear p2
     try clear q129
     obtain ⟨kq, x30_14, rfl, HA, HJ14, HO_126001, BK122, BK123, BK124, BK125, HB⟩ := hcut
     cases kq with
     | zero => exact absurd HA.out (by simp [spec_l3Put.j1])
     | succ kj14 =>
      have H := HA.out; clear HA
      simp only [spec_l3Put.j1] at H
      by_cases c24 : x30_14 = true
      ·subst c24
       have H1 : (if x126001_1.length < 3518437208883 then ((some (x126001_1 ++ [(⟨a1_0, a1_1, a1_2⟩ : S134)] : List (S134))).bind fun y130 => (if 0 ≤ x7_1 then (if x7_1 < (l0_1.length : Int) then (if ((rd_T134 l0_1 x7_1).f0) = a1_0 then (spec_l3Put.l0 kj14 true (wrap64 (x7_1 + 1)) a0_0 l0_1 a1_0 a1_1 a1_2 a0_0 y130) else (if y130.length < 3518437208883 then (spec_l3Put.l0 kj14 true (wrap64 (x7_1 + 1)) a0_0 l0_1 a1_0 a1_1 a1_2 a0_0 (y130 ++ [(⟨(rd_T134 l0_1 x7_1).f0, (rd_T134 l0_1 x7_1).f1, (rd_T134 l0_1 x7_1).f2⟩ : S134)])) else (none))) else (none)) else (none))) else (none)) = some (r1, r2) := by rw [if_pos rfl] at H; exact H
       clear H; have H := H1; clear H1
       by_cases c25 : x126001_1.length < 3518437208883
       ·rw [if_pos c25] at H
        have LMc25 := aM c25; clear c25
        obtain ⟨y130, hy130⟩ : ∃ y_ : List (S134), y_ = (x126001_1 ++ [(⟨a1_0, a1_1, a1_2⟩ : S134)]) := ⟨_, rfl⟩
        replace H : (if 0 ≤ x7_1 then (if x7_1 < (l0_1.length : Int) then (if ((rd_T134 l0_1 x7_1).f0) = a1_0 then (spec_l3Put.l0 kj14 true (wrap64 (x7_1 + 1)) a0_0 l0_1 a1_0 a1_1 a1_2 a0_0 y130) else (if y130.length < 3518437208883 then (spec_l3Put.l0 kj14 true (wrap64 (x7_1 + 1)) a0_0 l0_1 a1_0 a1_1 a1_2 a0_0 (y130 ++ [(⟨(rd_T134 l0_1 x7_1).f0, (rd_T134 l0_1 x7_1).f1, (rd_T134 l0_1 x7_1).f2⟩ : S134)])) else (none))) else (none)) else (none)) = some (r1, r2) := by first | (rw [hy130]; with_reducible exact H) | (have H2_ := (Option.bind_some _ _).symm.trans H; rw [hy130]; with_reducible exact H2_) | (have H2_ := (Option.bind_some _ _).symm.trans H; with_reducible exact H2_) | with_reducible exact H | (rw [hy130]; exact H) | exact H
        have Ny130 := aM hy130; clear hy130
        by_cases c26 : 0 ≤ x7_1
        ·rw [if_pos c26] at H
         have c26b0 : decide (0 ≤ x7_1) = true := decide_eq_true c26; clear c26
         by_cases c27 : x7_1 < (l0_1.length : Int)
         ·rw [if_pos c27] at H
          have c27b0 : decide (x7_1 < (l0_1.length : Int)) = true := decide_eq_true c27; clear c27
          by_cases c28 : ((rd_T134 l0_1 x7_1).f0) = a1_0
          ·rw [if_pos c28] at H
           have c28b0 : (((rd_T134 l0_1 x7_1).f0) == a1_0) = true := beq_iff_eq.mpr c28; have c28b1 : (((rd_T134 l0_1 x7_1).f0) != a1_0) = false := bne_eq_false_iff_eq.mpr c28; clear c28
           have H' := aM H
           clear H; have hnb29 := NB125_122.out; have hnc29 := NB122_125.out; have hnb30 := NB125_123.out; have hnc30 := NB123_125.out; have hnb31 := NB125_124.out; have hnc31 := NB124_125.out; obtain ⟨hcz32_0, hcz32_1, hfz32_0, hfz32_1⟩ := xf2 (w := wc) BK125; have hnb33 := NB123_122.out; have hnc33 := NB122_123.out; have hnb34 := NB123_124.out; have hnc34 := NB124_123.out; obtain ⟨hcz35_0, hcz35_1, hcz35_2, hfz35_0, hfz35_1, hfz35_2⟩ := xf3 (w := wc) BK123
           try go_wp2_with (first | ((with_reducible refine gate_builtin (b := .append) (xs := #[.tmp 32, .tmp 34]) rfl ?_); at_builtin; refine Kd.R_append k134 (w0 := w) w.heap.size rfl (.tmp 32) (.tmp 34) 68 134 (.agg #[(.int .i64 0), (.string ⟨#[]⟩), (.string ⟨#[]⟩)]) 40 rfl Try.underlying68 info134 rfl (by decide) (by omega) u126001 x126001_1 (⟨a1_0, a1_1, a1_2⟩ : S134) [.int .i64 a1_0, .string a1_1, .string a1_2] (fun k_ => k_ ≠ gb123) (fun _ => False) rfl rfl ?aP (fun _ hk => hk.elim) ?aF ?aO ?aB ?aS ?aL ?_; (case aP => exact k134_mkM _ _ _ (⟨a1_0, a1_1, a1_2⟩ : S134)); (case aB => exact xbg); (case aF => exact (fun k_ hk => Kd.freshB (g := gb123) (o := .cells #[.int .i64 a1_0, .string a1_1, .string a1_2] 134 (0, 0)) xblk k_ hk)); (case aO => exact (xr HO_126001)); (case aS => exact (below_size xbg)); (case aL => have := LMc25.out; omega); intro v131 w36 ho hb hg hat; rw [← Ny130.out] at ho; have n0_ := aM (blk_grown (g := gb122) (o := .cells #[.int .i64 a0_0, .slice A0_1 l0_1.length c0_1] 70 (0, 0)) xblk hg (Kd.R_ne HO_126001.out BK122.out (by decide))); have n1_ := aM (blk_grown (g := gb123) (o := .cells #[.int .i64 a1_0, .string a1_1, .string a1_2] 134 (0, 0)) xblk hg (Kd.R_away HO_126001.out (fun _ hk => hk))); have n2_ := aM (blk_grown (g := gb124) (o := .cells #[.int .i64 0, .slice none 0 0] 70 (0, 0)) xblk hg (Kd.R_ne HO_126001.out BK124.out (by decide))); have n3_ := aM (blk_grown (g := gb125) (o := .cells #[.int .i64 a0_0, u126001] 70 (0, 0)) xblk hg (Kd.R_ne HO_126001.out BK125.out (by decide))); have n4_ := aM (hb); have n5_ := aM (ho); clear BK122; clear BK123; clear BK124; clear BK125; clear HB; clear HO_126001; have BK122 := n0_; have BK123 := n1_; have BK124 := n2_; have BK125 := n3_; have HB := n4_; have HO132 := n5_; clear n0_ n1_ n2_ n3_ n4_ n5_; clear ho hb hg hat; obtain ⟨Ao37, co37, eo37⟩ := Kd.R_slice HO132.out; subst eo37; obtain ⟨hcz38_0, hcz38_1, hfz38_0, hfz38_1⟩ := xf2 (w := w36) BK125))
           have n0_ : Aside0 (Kd.R k134 134 (w36.setCell ⟨gb125, 1, none⟩ (.slice Ao37 y130.length co37)) w.heap.size (fun k_ => k_ ≠ gb123) (.slice Ao37 y130.length co37) y130) := ⟨by (with_reducible repeat (first | apply Kd.R_alloc | apply Kd.R_drewN | apply Kd.R_drew)); exact Kd.R_mono (Kd.R_far (p := ⟨gb125, 1, none⟩) (Kd.R_types HO132.out BK125.out (by decide)) (fun _ hk => hk.2) (.slice Ao37 y130.length co37)) (fun _ hk => hk.1)⟩; have n1_ : Aside0 ((w36.setCell ⟨gb125, 1, none⟩ (.slice Ao37 y130.length co37)).heap[gb122]? = some (.cells #[.int .i64 a0_0, .slice A0_1 l0_1.length c0_1] 70 (0, 0))) := ⟨by (with_reducible repeat (first | refine blk_drewN ?_ _ | refine blk_drew ?_ | refine blk_alloc ?_ _)); refine blk_far ?_ NB122_125.out _; (with_reducible repeat (first | refine blk_drewN ?_ _ | refine blk_drew ?_ | refine blk_alloc ?_ _)); exact BK122.out⟩; have n2_ : Aside0 ((w36.setCell ⟨gb125, 1, none⟩ (.slice Ao37 y130.length co37)).heap[gb123]? = some (.cells #[.int .i64 a1_0, .string a1_1, .string a1_2] 134 (0, 0))) := ⟨by (with_reducible repeat (first | refine blk_drewN ?_ _ | refine blk_drew ?_ | refine blk_alloc ?_ _)); refine blk_far ?_ NB123_125.out _; (with_reducible repeat (first | refine blk_drewN ?_ _ | refine blk_drew ?_ | refine blk_alloc ?_ _)); exact BK123.out⟩; have n3_ : Aside0 ((w36.setCell ⟨gb125, 1, none⟩ (.slice Ao37 y130.length co37)).heap[gb124]? = some (.cells #[.int .i64 0, .slice none 0 0] 70 (0, 0))) := ⟨by (with_reducible repeat (first | refine blk_drewN ?_ _ | refine blk_drew ?_ | refine blk_alloc ?_ _)); refine blk_far ?_ NB124_125.out _; (with_reducible repeat (first | refine blk_drewN ?_ _ | refine blk_drew ?_ | refine blk_alloc ?_ _)); exact BK124.out⟩
           have n4_ : Aside0 ((w36.setCell ⟨gb125, 1, none⟩ (.slice Ao37 y130.length co37)).heap[gb125]? = some (.cells #[.int .i64 a0_0, .slice Ao37 y130.length co37] 70 (0, 0))) := ⟨by (with_reducible repeat (first | refine blk_drewN ?_ _ | refine blk_drew ?_ | refine blk_alloc ?_ _)); refine blk_put (cs := #[.int .i64 a0_0, u126001]) ?_ 1 _ rfl; (with_reducible repeat (first | refine blk_drewN ?_ _ | refine blk_drew ?_ | refine blk_alloc ?_ _)); exact BK125.out⟩; have n5_ : Aside0 (Below w.heap.size w (w36.setCell ⟨gb125, 1, none⟩ (.slice Ao37 y130.length co37))) := ⟨xbg⟩
           (try clear HO132); (try clear BK122); (try clear BK123); (try clear BK124); (try clear BK125); (try clear HB)
           generalize (w36.setCell ⟨gb125, 1, none⟩ (.slice Ao37 y130.length co37)) = w39 at n0_ n1_ n2_ n3_ n4_ n5_ ⊢
           have HO132 := n0_; have BK122 := n1_; have BK123 := n2_; have BK124 := n3_; have BK125 := n4_; have HB := n5_; clear n0_ n1_ n2_ n3_ n4_ n5_; replace HO132 := aM (Kd.R_drew HO132.out); replace BK122 := aM (blk_drew BK122.out); replace BK123 := aM (blk_drew BK123.out); replace BK124 := aM (blk_drew BK124.out); replace BK125 := aM (blk_drew BK125.out); replace HB := aM (below_drew1 HB.out); have p133 : 0 ≤ (x7_1 : Int) := oda; have q133 : x7_1 < (l0_1.length : Int) := oda
           obtain ⟨ad133, e133, hx133_0, hx133_1, hx133_2⟩ := at_T134 HR0_1.out x7_1 p133 q133
           have hw133_2 := hx133_2; have hw133_1 := hx133_1; have hw133_0 := hx133_0
           cases e133
           replace hx133_0 := xce HB hx133_0; replace hx133_1 := xce HB hx133_1; replace hx133_2 := xce HB hx133_2; replace p133 := eq_true p133; replace q133 := eq_true q133
           refine start_ (n := 9) (S := fun w' => w'.cell? ⟨gb122, 0, none⟩ = some (.int .i64 a0_0) ∧ w'.cell? ⟨gb122, 1, none⟩ = some (.slice (some ad133) l0_1.length c0_1) ∧ w'.cell? ⟨gb123, 0, none⟩ = some (.int .i64 a1_0) ∧ w'.cell? ⟨gb123, 1, none⟩ = some (.string a1_1) ∧ w'.cell? ⟨gb123, 2, none⟩ = some (.string a1_2) ∧ w'.cell? (ad133.add ((x7_1).toNat * 3)) = some (.int .i64 ((rd_T134 l0_1 x7_1).f0)) ∧ w'.cell? ⟨(ad133.add ((x7_1).toNat * 3)).block, (ad133.add ((x7_1).toNat * 3)).off + 1, none⟩ = some (.string ((rd_T134 l0_1 x7_1).f1)) ∧ w'.cell? ⟨(ad133.add ((x7_1).toNat * 3)).block, (ad133.add ((x7_1).toNat * 3)).off + 2, none⟩ = some (.string ((rd_T134 l0_1 x7_1).f2))) (ds := []) #[false, false, false, false, false, false, false, false, false] (by kernel_rfl) rfl rfl ⟨xc BK122 0 rfl, xc BK122 1 rfl, xc BK123 0 rfl, xc BK123 1 rfl, xc BK123 2 rfl, (xce HB hw133_0), (xce HB hw133_1), (xce HB hw133_2)⟩ (fun hHeld => ?_); refine with_tabW spec_l3Put.tab9 spec_l3Put.bits9 (fun HT_ HW_ => ?_)
           generalize w39.drew = w40 at HO132 BK122 BK123 BK124 BK125 HB hx133_0 hx133_1 hx133_2 hHeld ⊢
           refine pv_ 0 37 (h := ?_)
           refine pv_ 2 39 (h := ?_)
           refine pv_ 6 43 (h := ?_)
           refine tk_ 1 38 (h := ?_)
           refine pv_ 3 40 (h := ?_)
           refine pv_ 4 41 (h := ?_)
           refine tk_ 5 42 (h := ?_)
           refine tk_ 7 44 (h := ?_)
           refine pv_ 8 45 (h := ?_)
           refine done_ (done_of HT_.out (by kernel_rfl)) ?_
           try go_wp2
           go_roundg kj14
           case measure => have := HK1.out; have := HJ14.out; omega
           case rel => exact ⟨(true), (wrap64 (x7_1 + 1)), (y130), (.slice Ao37 y130.length co37), (by first | rfl | (simp; done) | (simp [*]; done)), (by first | rfl | (simp; done) | (simp [*]; done)), H', ⟨by have := HK1.out; have := HJ14.out; omega⟩, ⟨by (with_reducible repeat (first | apply Kd.R_alloc | apply Kd.R_drewN | apply Kd.R_drew)); exact HO132.out⟩, ⟨xblk⟩, ⟨xblk⟩, ⟨xblk⟩, ⟨xblk⟩, ⟨xbg⟩⟩
          ·rw [if_neg c28] at H
           have c28b0 : (((rd_T134 l0_1 x7_1).f0) == a1_0) = false := beq_eq_false_iff_ne.mpr c28; have c28b1 : (((rd_T134 l0_1 x7_1).f0) != a1_0) = true := bne_iff_ne.mpr c28
           by_cases c41 : y130.length < 3518437208883
           ·rw [if_pos c41] at H
            have LMc41 := aM c41; clear c41
            obtain ⟨y135, hy135⟩ : ∃ y_ : List (S134), y_ = (y130 ++ [(⟨(rd_T134 l0_1 x7_1).f0, (rd_T134 l0_1 x7_1).f1, (rd_T134 l0_1 x7_1).f2⟩ : S134)]) := ⟨_, rfl⟩
            replace H : (spec_l3Put.l0 kj14 true (wrap64 (x7_1 + 1)) a0_0 l0_1 a1_0 a1_1 a1_2 a0_0 y135) = some (r1, r2) := by first | (rw [hy135]; with_reducible exact H) | (have H2_ := (Option.bind_some _ _).symm.trans H; rw [hy135]; with_reducible exact H2_) | (have H2_ := (Option.bind_some _ _).symm.trans H; with_reducible exact H2_) | with_reducible exact H | (rw [hy135]; exact H) | exact H
            have Ny135 := aM hy135; clear hy135
            have H' := aM H
            clear H; have hnb42 := NB125_122.out; have hnc42 := NB122_125.out; have hnb43 := NB125_123.out; have hnc43 := NB123_125.out; have hnb44 := NB125_124.out; have hnc44 := NB124_125.out; obtain ⟨hcz45_0, hcz45_1, hfz45_0, hfz45_1⟩ := xf2 (w := wc) BK125; have hnb46 := NB123_122.out; have hnc46 := NB122_123.out; have hnb47 := NB123_124.out; have hnc47 := NB124_123.out; obtain ⟨hcz48_0, hcz48_1, hcz48_2, hfz48_0, hfz48_1, hfz48_2⟩ := xf3 (w := wc) BK123
            try go_wp2_with (first | ((with_reducible refine gate_builtin (b := .append) (xs := #[.tmp 32, .tmp 34]) rfl ?_); at_builtin; refine Kd.R_append k134 (w0 := w) w.heap.size rfl (.tmp 32) (.tmp 34) 68 134 (.agg #[(.int .i64 0), (.string ⟨#[]⟩), (.string ⟨#[]⟩)]) 40 rfl Try.underlying68 info134 rfl (by decide) (by omega) u126001 x126001_1 (⟨a1_0, a1_1, a1_2⟩ : S134) [.int .i64 a1_0, .string a1_1, .string a1_2] (fun k_ => k_ ≠ gb123) (fun _ => False) rfl rfl ?aP (fun _ hk => hk.elim) ?aF ?aO ?aB ?aS ?aL ?_; (case aP => exact k134_mkM _ _ _ (⟨a1_0, a1_1, a1_2⟩ : S134)); (case aB => exact xbg); (case aF => exact (fun k_ hk => Kd.freshB (g := gb123) (o := .cells #[.int .i64 a1_0, .string a1_1, .string a1_2] 134 (0, 0)) xblk k_ hk)); (case aO => exact (xr HO_126001)); (case aS => exact (below_size xbg)); (case aL => have := LMc25.out; omega); intro v131 w49 ho hb hg hat; rw [← Ny130.out] at ho; have n0_ := aM (blk_grown (g := gb122) (o := .cells #[.int .i64 a0_0, .slice A0_1 l0_1.length c0_1] 70 (0, 0)) xblk hg (Kd.R_ne HO_126001.out BK122.out (by decide))); have n1_ := aM (blk_grown (g := gb123) (o := .cells #[.int .i64 a1_0, .string a1_1, .string a1_2] 134 (0, 0)) xblk hg (Kd.R_away HO_126001.out (fun _ hk => hk))); have n2_ := aM (blk_grown (g := gb124) (o := .cells #[.int .i64 0, .slice none 0 0] 70 (0, 0)) xblk hg (Kd.R_ne HO_126001.out BK124.out (by decide))); have n3_ := aM (blk_grown (g := gb125) (o := .cells #[.int .i64 a0_0, u126001] 70 (0, 0)) xblk hg (Kd.R_ne HO_126001.out BK125.out (by decide))); have n4_ := aM (hb); have n5_ := aM (ho); clear BK122; clear BK123; clear BK124; clear BK125; clear HB; clear HO_126001; have BK122 := n0_; have BK123 := n1_; have BK124 := n2_; have BK125 := n3_; have HB := n4_; have HO132 := n5_; clear n0_ n1_ n2_ n3_ n4_ n5_; clear ho hb hg hat; obtain ⟨Ao50, co50, eo50⟩ := Kd.R_slice HO132.out; subst eo50; obtain ⟨hcz51_0, hcz51_1, hfz51_0, hfz51_1⟩ := xf2 (w := w49) BK125))
            have n0_ : Aside0 (Kd.R k134 134 (w49.setCell ⟨gb125, 1, none⟩ (.slice Ao50 y130.length co50)) w.heap.size (fun k_ => k_ ≠ gb123) (.slice Ao50 y130.length co50) y130) := ⟨by (with_reducible repeat (first | apply Kd.R_alloc | apply Kd.R_drewN | apply Kd.R_drew)); exact Kd.R_mono (Kd.R_far (p := ⟨gb125, 1, none⟩) (Kd.R_types HO132.out BK125.out (by decide)) (fun _ hk => hk.2) (.slice Ao50 y130.length co50)) (fun _ hk => hk.1)⟩; have n1_ : Aside0 ((w49.setCell ⟨gb125, 1, none⟩ (.slice Ao50 y130.length co50)).heap[gb122]? = some (.cells #[.int .i64 a0_0, .slice A0_1 l0_1.length c0_1] 70 (0, 0))) := ⟨by (with_reducible repeat (first | refine blk_drewN ?_ _ | refine blk_drew ?_ | refine blk_alloc ?_ _)); refine blk_far ?_ NB122_125.out _; (with_reducible repeat (first | refine blk_drewN ?_ _ | refine blk_drew ?_ | refine blk_alloc ?_ _)); exact BK122.out⟩; have n2_ : Aside0 ((w49.setCell ⟨gb125, 1, none⟩ (.slice Ao50 y130.length co50)).heap[gb123]? = some (.cells #[.int .i64 a1_0, .string a1_1, .string a1_2] 134 (0, 0))) := ⟨by (with_reducible repeat (first | refine blk_drewN ?_ _ | refine blk_drew ?_ | refine blk_alloc ?_ _)); refine blk_far ?_ NB123_125.out _; (with_reducible repeat (first | refine blk_drewN ?_ _ | refine blk_drew ?_ | refine blk_alloc ?_ _)); exact BK123.out⟩; have n3_ : Aside0 ((w49.setCell ⟨gb125, 1, none⟩ (.slice Ao50 y130.length co50)).heap[gb124]? = some (.cells #[.int .i64 0, .slice none 0 0] 70 (0, 0))) := ⟨by (with_reducible repeat (first | refine blk_drewN ?_ _ | refine blk_drew ?_ | refine blk_alloc ?_ _)); refine blk_far ?_ NB124_125.out _; (with_reducible repeat (first | refine blk_drewN ?_ _ | refine blk_drew ?_ | refine blk_alloc ?_ _)); exact BK124.out⟩
            have n4_ : Aside0 ((w49.setCell ⟨gb125, 1, none⟩ (.slice Ao50 y130.length co50)).heap[gb125]? = some (.cells #[.int .i64 a0_0, .slice Ao50 y130.length co50] 70 (0, 0))) := ⟨by (with_reducible repeat (first | refine blk_drewN ?_ _ | refine blk_drew ?_ | refine blk_alloc ?_ _)); refine blk_put (cs := #[.int .i64 a0_0, u126001]) ?_ 1 _ rfl; (with_reducible repeat (first | refine blk_drewN ?_ _ | refine blk_drew ?_ | refine blk_alloc ?_ _)); exact BK125.out⟩; have n5_ : Aside0 (Below w.heap.size w (w49.setCell ⟨gb125, 1, none⟩ (.slice Ao50 y130.length co50))) := ⟨xbg⟩
            (try clear HO132); (try clear BK122); (try clear BK123); (try clear BK124); (try clear BK125); (try clear HB)
            generalize (w49.setCell ⟨gb125, 1, none⟩ (.slice Ao50 y130.length co50)) = w52 at n0_ n1_ n2_ n3_ n4_ n5_ ⊢
            have HO132 := n0_; have BK122 := n1_; have BK123 := n2_; have BK124 := n3_; have BK125 := n4_; have HB := n5_; clear n0_ n1_ n2_ n3_ n4_ n5_; replace HO132 := aM (Kd.R_drew HO132.out); replace BK122 := aM (blk_drew BK122.out); replace BK123 := aM (blk_drew BK123.out); replace BK124 := aM (blk_drew BK124.out); replace BK125 := aM (blk_drew BK125.out); replace HB := aM (below_drew1 HB.out); have p133 : 0 ≤ (x7_1 : Int) := oda; have q133 : x7_1 < (l0_1.length : Int) := oda
            obtain ⟨ad133, e133, hx133_0, hx133_1, hx133_2⟩ := at_T134 HR0_1.out x7_1 p133 q133
            have hw133_2 := hx133_2; have hw133_1 := hx133_1; have hw133_0 := hx133_0
            cases e133
            replace hx133_0 := xce HB hx133_0; replace hx133_1 := xce HB hx133_1; replace hx133_2 := xce HB hx133_2; replace p133 := eq_true p133; replace q133 := eq_true q133
            refine start_ (n := 9) (S := fun w' => w'.cell? ⟨gb122, 0, none⟩ = some (.int .i64 a0_0) ∧ w'.cell? ⟨gb122, 1, none⟩ = some (.slice (some ad133) l0_1.length c0_1) ∧ w'.cell? ⟨gb123, 0, none⟩ = some (.int .i64 a1_0) ∧ w'.cell? ⟨gb123, 1, none⟩ = some (.string a1_1) ∧ w'.cell? ⟨gb123, 2, none⟩ = some (.string a1_2) ∧ w'.cell? (ad133.add ((x7_1).toNat * 3)) = some (.int .i64 ((rd_T134 l0_1 x7_1).f0)) ∧ w'.cell? ⟨(ad133.add ((x7_1).toNat * 3)).block, (ad133.add ((x7_1).toNat * 3)).off + 1, none⟩ = some (.string ((rd_T134 l0_1 x7_1).f1)) ∧ w'.cell? ⟨(ad133.add ((x7_1).toNat * 3)).block, (ad133.add ((x7_1).toNat * 3)).off + 2, none⟩ = some (.string ((rd_T134 l0_1 x7_1).f2))) (ds := []) #[false, false, false, false, false, false, false, false, false] (by kernel_rfl) rfl rfl ⟨xc BK122 0 rfl, xc BK122 1 rfl, xc BK123 0 rfl, xc BK123 1 rfl, xc BK123 2 rfl, (xce HB hw133_0), (xce HB hw133_1), (xce HB hw133_2)⟩ (fun hHeld => ?_); refine with_tabW spec_l3Put.tab9 spec_l3Put.bits9 (fun HT_ HW_ => ?_)
            generalize w52.drew = w53 at HO132 BK122 BK123 BK124 BK125 HB hx133_0 hx133_1 hx133_2 hHeld ⊢
            refine pv_ 0 37 (h := ?_)
            refine pv_ 2 39 (h := ?_)
            refine pv_ 6 43 (h := ?_)
            refine tk_ 1 38 (h := ?_)
            refine pv_ 3 40 (h := ?_)
            refine pv_ 4 41 (h := ?_)
            refine tk_ 5 42 (h := ?_)
            refine tk_ 7 44 (h := ?_)
            refine pv_ 8 45 (h := ?_)
            refine done_ (done_of HT_.out (by kernel_rfl)) ?_
            try go_wp2
            replace HO132 := aM (Kd.R_drew HO132.out); replace BK122 := aM (blk_drew BK122.out); replace BK123 := aM (blk_drew BK123.out); replace BK124 := aM (blk_drew BK124.out); replace BK125 := aM (blk_drew BK125.out); replace HB := aM (below_drew1 HB.out); have p134 : 0 ≤ (x7_1 : Int) := oda; have q134 : x7_1 < (l0_1.length : Int) := oda
            obtain ⟨ad134, e134, hx134_0, hx134_1, hx134_2⟩ := at_T134 HR0_1.out x7_1 p134 q134
            have hw134_2 := hx134_2; have hw134_1 := hx134_1; have hw134_0 := hx134_0
            obtain rfl : ad133 = ad134 := (by injection e134)
            replace hx134_0 := xce HB hx134_0; replace hx134_1 := xce HB hx134_1; replace hx134_2 := xce HB hx134_2; replace p134 := eq_true p134; replace q134 := eq_true q134
            refine start_ (n := 11) (S := fun w' => w'.cell? ⟨gb125, 0, none⟩ = some (.int .i64 a0_0) ∧ w'.cell? ⟨gb125, 1, none⟩ = some (.slice Ao50 y130.length co50) ∧ w'.cell? ⟨gb122, 0, none⟩ = some (.int .i64 a0_0) ∧ w'.cell? ⟨gb122, 1, none⟩ = some (.slice (some ad133) l0_1.length c0_1) ∧ w'.cell? (ad133.add ((x7_1).toNat * 3)) = some (.int .i64 ((rd_T134 l0_1 x7_1).f0)) ∧ w'.cell? ⟨(ad133.add ((x7_1).toNat * 3)).block, (ad133.add ((x7_1).toNat * 3)).off + 1, none⟩ = some (.string ((rd_T134 l0_1 x7_1).f1)) ∧ w'.cell? ⟨(ad133.add ((x7_1).toNat * 3)).block, (ad133.add ((x7_1).toNat * 3)).off + 2, none⟩ = some (.string ((rd_T134 l0_1 x7_1).f2))) (ds := [10]) #[false, false, false, false, false, false, false, false, false, false, false] (by kernel_rfl) rfl rfl ⟨xc BK125 0 rfl, xc BK125 1 rfl, xc BK122 0 rfl, xc BK122 1 rfl, (xce HB hw134_0), (xce HB hw134_1), (xce HB hw134_2)⟩ (fun hHeld => ?_); refine with_tabW spec_l3Put.tab10 spec_l3Put.bits10 (fun HT_ HW_ => ?_)
            generalize w53.drew = w54 at HO132 BK122 BK123 BK124 BK125 HB hx134_0 hx134_1 hx134_2 hHeld ⊢
            refine pv_ 0 46 (h := ?_)
            refine pv_ 2 48 (h := ?_)
            refine pv_ 4 50 (h := ?_)
            refine tk_ 1 47 (h := ?_)
            refine tk_ 3 49 (h := ?_)
            refine pv_ 5 51 (h := ?_)
            refine tk_ 6 52 (h := ?_)
            refine on_ 7 53 (h := fun K hK => ?_)
            refine value_ (w1 := ?_) (v := ?_) (by rfl) rfl ?_ ?_
            rotate_left 2
            ·go_simp
             constructor
             ·rfl
             ·rfl
            refine hK.out _ _ ⟨(blk_cell (blk_alloc BK125.out _) 0).trans rfl, (blk_cell (blk_alloc BK125.out _) 1).trans rfl, (blk_cell (blk_alloc BK122.out _) 0).trans rfl, (blk_cell (blk_alloc BK122.out _) 1).trans rfl, (World.cell?_alloc_lt _ _ _ (World.block_lt_of_cell? _ _ ((xce HB hw134_0)))).trans ((xce HB hw134_0)), (World.cell?_alloc_lt _ _ _ (World.block_lt_of_cell? _ _ ((xce HB hw134_1)))).trans ((xce HB hw134_1)), (World.cell?_alloc_lt _ _ _ (World.block_lt_of_cell? _ _ ((xce HB hw134_2)))).trans ((xce HB hw134_2))⟩ (fun hHeld => ?_)
            clear hK K
            refine norm_ (a' := ?_) ?_ ?_
            rotate_left
            ·show Act.put _ (some 53) _ = _
             simp only [Act.put, List.setIfInBounds_toArray, List.set_cons_zero, List.set_cons_succ, i64_w, i32_w]
             rfl
            refine on_ 8 54 (h := fun K hK => ?_)
            refine Kd.R_append_step k134 (w0 := w) w.heap.size (by rfl) (.tmp 47) (.tmp 53) 68 134 (.agg #[(.int .i64 0), (.string ⟨#[]⟩), (.string ⟨#[]⟩)]) 40 rfl Try.underlying68 info134 rfl (by decide) (by omega) (.slice Ao50 y130.length co50) y130 (⟨(rd_T134 l0_1 x7_1).f0, (rd_T134 l0_1 x7_1).f1, (rd_T134 l0_1 x7_1).f2⟩ : S134) [.int .i64 ((rd_T134 l0_1 x7_1).f0), .string ((rd_T134 l0_1 x7_1).f1), .string ((rd_T134 l0_1 x7_1).f2)] (fun k_ => k_ ≠ gb123) (fun _ => False) rfl rfl ?aP (fun _ hk => hk.elim) ?aF ?aO ?aB ?aS ?aL ?_
            (case aP => exact k134_mkM _ _ _ (⟨(rd_T134 l0_1 x7_1).f0, (rd_T134 l0_1 x7_1).f1, (rd_T134 l0_1 x7_1).f2⟩ : S134))
            (case aB => exact xbg)
            (case aF => exact (fun k_ hk => Kd.freshB (g := gb123) (o := .cells #[.int .i64 a1_0, .string a1_1, .string a1_2] 134 (0, 0)) xblk k_ hk))
            (case aO => exact (xr HO132))
            (case aS => exact (below_size xbg))
            (case aL => have := LMc41.out; omega)
            intro v136 w55 ho hb hg hat
            rw [← Ny135.out] at ho
            have n0_ := aM (blk_grown (g := gb122) (o := .cells #[.int .i64 a0_0, .slice (some ad133) l0_1.length c0_1] 70 (0, 0)) xblk hg (Kd.R_ne HO132.out BK122.out (by decide))); have n1_ := aM (blk_grown (g := gb123) (o := .cells #[.int .i64 a1_0, .string a1_1, .string a1_2] 134 (0, 0)) xblk hg (Kd.R_away HO132.out (fun _ hk => hk))); have n2_ := aM (blk_grown (g := gb124) (o := .cells #[.int .i64 0, .slice none 0 0] 70 (0, 0)) xblk hg (Kd.R_ne HO132.out BK124.out (by decide))); have n3_ := aM (blk_grown (g := gb125) (o := .cells #[.int .i64 a0_0, .slice Ao50 y130.length co50] 70 (0, 0)) xblk hg (Kd.R_ne HO132.out BK125.out (by decide))); have n4_ := aM (hb); have n5_ := aM (ho); clear BK122 BK123 BK124 BK125 HB HO132; have BK122 := n0_; have BK123 := n1_; have BK124 := n2_; have BK125 := n3_; have HB := n4_; have HO137 := n5_; clear n0_ n1_ n2_ n3_ n4_ n5_ ho hb hg hat
            obtain ⟨Ao56, co56, eo56⟩ := Kd.R_slice HO137.out
            (first | subst eo56 | (injection eo56 with f1_ f2_ f3_; have f4_ := f1_.symm; have f5_ := f3_.symm; clear f1_ f2_ f3_; subst f4_; subst f5_))
            refine hK.out _ _ ⟨xc BK125 0 rfl, xc BK125 1 rfl, xc BK122 0 rfl, xc BK122 1 rfl, (xce HB hw134_0), (xce HB hw134_1), (xce HB hw134_2)⟩ (fun hHeld => ?_)
            clear hK K
            refine norm_ (a' := ?_) ?_ ?_
            rotate_left
            ·show Act.put _ (some 54) _ = _
             simp only [Act.put, List.setIfInBounds_toArray, List.set_cons_zero, List.set_cons_succ, i64_w, i32_w]
             rfl
            refine pv_ 9 55 (h := ?_)
            refine last_ (i := 10) (N := none) #[true, true, true, true, true, true, true, true, true, true, true] rfl rfl (one_of HT_.out (by kernel_rfl)) (by decide) (fun K hK => ?_)
            have hs57 : w55.cell? ⟨gb125, 1, none⟩ = some (.slice Ao50 y130.length co50) := xc BK125 1 rfl; have hfs57 := blk_frozen BK125.out 1; have hns57_0 := NB122_125.out; have hns57_1 := NB123_125.out; have hns57_2 := NB124_125.out; have hms57_0 := NB125_122.out; have hms57_1 := NB125_123.out; have hms57_2 := NB125_124.out
            refine skip_ (w1 := ?_) (by rfl) rfl ?_ ?_
            rotate_left
            ·go_simp
             rfl
            refine hK.out _ _ ?_
            clear hK K
            refine done_ (done_of HT_.out (by kernel_rfl)) ?_
            try go_wp2
            go_roundg kj14
            case measure => have := HK1.out; have := HJ14.out; omega
            case rel => exact ⟨(true), (wrap64 (x7_1 + 1)), (y135), (.slice Ao56 y135.length co56), (by first | rfl | (simp; done) | (simp [*]; done)), (by first | rfl | (simp; done) | (simp [*]; done)), H', ⟨by have := HK1.out; have := HJ14.out; omega⟩, ⟨by (with_reducible repeat (first | apply Kd.R_alloc | apply Kd.R_drewN | apply Kd.R_drew)); exact Kd.R_mono (Kd.R_far (p := ⟨gb125, 1, none⟩) (Kd.R_types HO137.out BK125.out (by decide)) (fun _ hk => hk.2) (.slice Ao56 y135.length co56)) (fun _ hk => hk.1)⟩, ⟨by (with_reducible repeat (first | refine blk_drewN ?_ _ | refine blk_drew ?_ | refine blk_alloc ?_ _)); refine blk_far ?_ NB122_125.out _; (with_reducible repeat (first | refine blk_drewN ?_ _ | refine blk_drew ?_ | refine blk_alloc ?_ _)); exact BK122.out⟩, ⟨by (with_reducible repeat (first | refine blk_drewN ?_ _ | refine blk_drew ?_ | refine blk_alloc ?_ _)); refine blk_far ?_ NB123_125.out _; (with_reducible repeat (first | refine blk_drewN ?_ _ | refine blk_drew ?_ | refine blk_alloc ?_ _)); exact BK123.out⟩, ⟨by (with_reducible repeat (first | refine blk_drewN ?_ _ | refine blk_drew ?_ | refine blk_alloc ?_ _)); refine blk_far ?_ NB124_125.out _; (with_reducible repeat (first | refine blk_drewN ?_ _ | refine blk_drew ?_ | refine blk_alloc ?_ _)); exact BK124.out⟩, ⟨by (with_reducible repeat (first | refine blk_drewN ?_ _ | refine blk_drew ?_ | refine blk_alloc ?_ _)); refine blk_put (cs := #[.int .i64 a0_0, .slice Ao50 y130.length co50]) ?_ 1 _ rfl; (with_reducible repeat (first | refine blk_drewN ?_ _ | refine blk_drew ?_ | refine blk_alloc ?_ _)); exact BK125.out⟩, ⟨xbg⟩⟩
           ·rw [if_neg c41] at H
            exact absurd H (by simp)
         ·rw [if_neg c27] at H
          exact absurd H (by simp)
        ·rw [if_neg c26] at H
         exact absurd H (by simp)
       ·rw [if_neg c25] at H
        exact absurd H (by simp)
      ·replace c24 := Bool.eq_false_iff.mpr c24
       subst c24
       have H1 : (if 0 ≤ x7_1 then (if x7_1 < (l0_1.length : Int) then (if ((rd_T134 l0_1 x7_1).f0) = a1_0 then (spec_l3Put.l0 kj14 x6_1 (wrap64 (x7_1 + 1)) a0_0 l0_1 a1_0 a1_1 a1_2 a0_0 x126001_1) else (if x126001_1.length < 3518437208883 then (spec_l3Put.l0 kj14 x6_1 (wrap64 (x7_1 + 1)) a0_0 l0_1 a1_0 a1_1 a1_2 a0_0 (x126001_1 ++ [(⟨(rd_T134 l0_1 x7_1).f0, (rd_T134 l0_1 x7_1).f1, (rd_T134 l0_1 x7_1).f2⟩ : S134)])) else (none))) else (none)) else (none)) = some (r1, r2) := by rw [if_neg (show ¬ (false = true) by decide)] at H; exact H
       clear H; have H := H1; clear H1
       by_cases c58 : 0 ≤ x7_1
       ·rw [if_pos c58] at H
        have c58b0 : decide (0 ≤ x7_1) = true := decide_eq_true c58; clear c58
        by_cases c59 : x7_1 < (l0_1.length : Int)
        ·rw [if_pos c59] at H
         have c59b0 : decide (x7_1 < (l0_1.length : Int)) = true := decide_eq_true c59; clear c59
         by_cases c60 : ((rd_T134 l0_1 x7_1).f0) = a1_0
         ·rw [if_pos c60] at H
          have c60b0 : (((rd_T134 l0_1 x7_1).f0) == a1_0) = true := beq_iff_eq.mpr c60; have c60b1 : (((rd_T134 l0_1 x7_1).f0) != a1_0) = false := bne_eq_false_iff_eq.mpr c60; clear c60
          have H' := aM H
          clear H
          try go_wp2
          replace HO_126001 := aM (Kd.R_drew HO_126001.out); replace BK122 := aM (blk_drew BK122.out); replace BK123 := aM (blk_drew BK123.out); replace BK124 := aM (blk_drew BK124.out); replace BK125 := aM (blk_drew BK125.out); replace HB := aM (below_drew1 HB.out); have p138 : 0 ≤ (x7_1 : Int) := oda; have q138 : x7_1 < (l0_1.length : Int) := oda
          obtain ⟨ad138, e138, hx138_0, hx138_1, hx138_2⟩ := at_T134 HR0_1.out x7_1 p138 q138
          have hw138_2 := hx138_2; have hw138_1 := hx138_1; have hw138_0 := hx138_0
          cases e138
          replace hx138_0 := xce HB hx138_0; replace hx138_1 := xce HB hx138_1; replace hx138_2 := xce HB hx138_2; replace p138 := eq_true p138; replace q138 := eq_true q138
          refine start_ (n := 9) (S := fun w' => w'.cell? ⟨gb122, 0, none⟩ = some (.int .i64 a0_0) ∧ w'.cell? ⟨gb122, 1, none⟩ = some (.slice (some ad138) l0_1.length c0_1) ∧ w'.cell? ⟨gb123, 0, none⟩ = some (.int .i64 a1_0) ∧ w'.cell? ⟨gb123, 1, none⟩ = some (.string a1_1) ∧ w'.cell? ⟨gb123, 2, none⟩ = some (.string a1_2) ∧ w'.cell? (ad138.add ((x7_1).toNat * 3)) = some (.int .i64 ((rd_T134 l0_1 x7_1).f0)) ∧ w'.cell? ⟨(ad138.add ((x7_1).toNat * 3)).block, (ad138.add ((x7_1).toNat * 3)).off + 1, none⟩ = some (.string ((rd_T134 l0_1 x7_1).f1)) ∧ w'.cell? ⟨(ad138.add ((x7_1).toNat * 3)).block, (ad138.add ((x7_1).toNat * 3)).off + 2, none⟩ = some (.string ((rd_T134 l0_1 x7_1).f2))) (ds := []) #[false, false, false, false, false, false, false, false, false] (by kernel_rfl) rfl rfl ⟨xc BK122 0 rfl, xc BK122 1 rfl, xc BK123 0 rfl, xc BK123 1 rfl, xc BK123 2 rfl, (xce HB hw138_0), (xce HB hw138_1), (xce HB hw138_2)⟩ (fun hHeld => ?_); refine with_tabW spec_l3Put.tab9 spec_l3Put.bits9 (fun HT_ HW_ => ?_)
          generalize wc.drew = w61 at HO_126001 BK122 BK123 BK124 BK125 HB hx138_0 hx138_1 hx138_2 hHeld ⊢
          refine pv_ 0 37 (h := ?_)
          refine pv_ 2 39 (h := ?_)
          refine pv_ 6 43 (h := ?_)
          refine tk_ 1 38 (h := ?_)
          refine pv_ 3 40 (h := ?_)
          refine pv_ 4 41 (h := ?_)
          refine tk_ 5 42 (h := ?_)
          refine tk_ 7 44 (h := ?_)
          refine pv_ 8 45 (h := ?_)
          refine done_ (done_of HT_.out (by kernel_rfl)) ?_
          try go_wp2
          go_roundg kj14
          case measure => have := HK1.out; have := HJ14.out; omega
          case rel => exact ⟨(x6_1), (wrap64 (x7_1 + 1)), (x126001_1), (u126001), (by first | rfl | (simp; done) | (simp [*]; done)), (by first | rfl | (simp; done) | (simp [*]; done)), H', ⟨by have := HK1.out; have := HJ14.out; omega⟩, ⟨by (with_reducible repeat (first | apply Kd.R_alloc | apply Kd.R_drewN | apply Kd.R_drew)); exact HO_126001.out⟩, ⟨xblk⟩, ⟨xblk⟩, ⟨xblk⟩, ⟨xblk⟩, ⟨xbg⟩⟩
         ·rw [if_neg c60] at H
          have c60b0 : (((rd_T134 l0_1 x7_1).f0) == a1_0) = false := beq_eq_false_iff_ne.mpr c60; have c60b1 : (((rd_T134 l0_1 x7_1).f0) != a1_0) = true := bne_iff_ne.mpr c60
          by_cases c62 : x126001_1.length < 3518437208883
          ·rw [if_pos c62] at H
           have LMc62 := aM c62; clear c62
           obtain ⟨y140, hy140⟩ : ∃ y_ : List (S134), y_ = (x126001_1 ++ [(⟨(rd_T134 l0_1 x7_1).f0, (rd_T134 l0_1 x7_1).f1, (rd_T134 l0_1 x7_1).f2⟩ : S134)]) := ⟨_, rfl⟩
           replace H : (spec_l3Put.l0 kj14 x6_1 (wrap64 (x7_1 + 1)) a0_0 l0_1 a1_0 a1_1 a1_2 a0_0 y140) = some (r1, r2) := by first | (rw [hy140]; with_reducible exact H) | (have H2_ := (Option.bind_some _ _).symm.trans H; rw [hy140]; with_reducible exact H2_) | (have H2_ := (Option.bind_some _ _).symm.trans H; with_reducible exact H2_) | with_reducible exact H | (rw [hy140]; exact H) | exact H
           have Ny140 := aM hy140; clear hy140
           have H' := aM H
           clear H
           try go_wp2
           replace HO_126001 := aM (Kd.R_drew HO_126001.out); replace BK122 := aM (blk_drew BK122.out); replace BK123 := aM (blk_drew BK123.out); replace BK124 := aM (blk_drew BK124.out); replace BK125 := aM (blk_drew BK125.out); replace HB := aM (below_drew1 HB.out); have p138 : 0 ≤ (x7_1 : Int) := oda; have q138 : x7_1 < (l0_1.length : Int) := oda
           obtain ⟨ad138, e138, hx138_0, hx138_1, hx138_2⟩ := at_T134 HR0_1.out x7_1 p138 q138
           have hw138_2 := hx138_2; have hw138_1 := hx138_1; have hw138_0 := hx138_0
           cases e138
           replace hx138_0 := xce HB hx138_0; replace hx138_1 := xce HB hx138_1; replace hx138_2 := xce HB hx138_2; replace p138 := eq_true p138; replace q138 := eq_true q138
           refine start_ (n := 9) (S := fun w' => w'.cell? ⟨gb122, 0, none⟩ = some (.int .i64 a0_0) ∧ w'.cell? ⟨gb122, 1, none⟩ = some (.slice (some ad138) l0_1.length c0_1) ∧ w'.cell? ⟨gb123, 0, none⟩ = some (.int .i64 a1_0) ∧ w'.cell? ⟨gb123, 1, none⟩ = some (.string a1_1) ∧ w'.cell? ⟨gb123, 2, none⟩ = some (.string a1_2) ∧ w'.cell? (ad138.add ((x7_1).toNat * 3)) = some (.int .i64 ((rd_T134 l0_1 x7_1).f0)) ∧ w'.cell? ⟨(ad138.add ((x7_1).toNat * 3)).block, (ad138.add ((x7_1).toNat * 3)).off + 1, none⟩ = some (.string ((rd_T134 l0_1 x7_1).f1)) ∧ w'.cell? ⟨(ad138.add ((x7_1).toNat * 3)).block, (ad138.add ((x7_1).toNat * 3)).off + 2, none⟩ = some (.string ((rd_T134 l0_1 x7_1).f2))) (ds := []) #[false, false, false, false, false, false, false, false, false] (by kernel_rfl) rfl rfl ⟨xc BK122 0 rfl, xc BK122 1 rfl, xc BK123 0 rfl, xc BK123 1 rfl, xc BK123 2 rfl, (xce HB hw138_0), (xce HB hw138_1), (xce HB hw138_2)⟩ (fun hHeld => ?_); refine with_tabW spec_l3Put.tab9 spec_l3Put.bits9 (fun HT_ HW_ => ?_)
           generalize wc.drew = w63 at HO_126001 BK122 BK123 BK124 BK125 HB hx138_0 hx138_1 hx138_2 hHeld ⊢
           refine pv_ 0 37 (h := ?_)
           refine pv_ 2 39 (h := ?_)
           refine pv_ 6 43 (h := ?_)
           refine tk_ 1 38 (h := ?_)
           refine pv_ 3 40 (h := ?_)
           refine pv_ 4 41 (h := ?_)
           refine tk_ 5 42 (h := ?_)
           refine tk_ 7 44 (h := ?_)
           refine pv_ 8 45 (h := ?_)
           refine done_ (done_of HT_.out (by kernel_rfl)) ?_
           try go_wp2
           replace HO_126001 := aM (Kd.R_drew HO_126001.out); replace BK122 := aM (blk_drew BK122.out); replace BK123 := aM (blk_drew BK123.out); replace BK124 := aM (blk_drew BK124.out); replace BK125 := aM (blk_drew BK125.out); replace HB := aM (below_drew1 HB.out); have p139 : 0 ≤ (x7_1 : Int) := oda; have q139 : x7_1 < (l0_1.length : Int) := oda
           obtain ⟨ad139, e139, hx139_0, hx139_1, hx139_2⟩ := at_T134 HR0_1.out x7_1 p139 q139
           have hw139_2 := hx139_2; have hw139_1 := hx139_1; have hw139_0 := hx139_0
           obtain rfl : ad138 = ad139 := (by injection e139)
           replace hx139_0 := xce HB hx139_0; replace hx139_1 := xce HB hx139_1; replace hx139_2 := xce HB hx139_2; replace p139 := eq_true p139; replace q139 := eq_true q139
           refine start_ (n := 11) (S := fun w' => w'.cell? ⟨gb125, 0, none⟩ = some (.int .i64 a0_0) ∧ w'.cell? ⟨gb125, 1, none⟩ = some (u126001) ∧ w'.cell? ⟨gb122, 0, none⟩ = some (.int .i64 a0_0) ∧ w'.cell? ⟨gb122, 1, none⟩ = some (.slice (some ad138) l0_1.length c0_1) ∧ w'.cell? (ad138.add ((x7_1).toNat * 3)) = some (.int .i64 ((rd_T134 l0_1 x7_1).f0)) ∧ w'.cell? ⟨(ad138.add ((x7_1).toNat * 3)).block, (ad138.add ((x7_1).toNat * 3)).off + 1, none⟩ = some (.string ((rd_T134 l0_1 x7_1).f1)) ∧ w'.cell? ⟨(ad138.add ((x7_1).toNat * 3)).block, (ad138.add ((x7_1).toNat * 3)).off + 2, none⟩ = some (.string ((rd_T134 l0_1 x7_1).f2))) (ds := [10]) #[false, false, false, false, false, false, false, false, false, false, false] (by kernel_rfl) rfl rfl ⟨xc BK125 0 rfl, xc BK125 1 rfl, xc BK122 0 rfl, xc BK122 1 rfl, (xce HB hw139_0), (xce HB hw139_1), (xce HB hw139_2)⟩ (fun hHeld => ?_); refine with_tabW spec_l3Put.tab10 spec_l3Put.bits10 (fun HT_ HW_ => ?_)
           generalize w63.drew = w64 at HO_126001 BK122 BK123 BK124 BK125 HB hx139_0 hx139_1 hx139_2 hHeld ⊢
           refine pv_ 0 46 (h := ?_)
           refine pv_ 2 48 (h := ?_)
           refine pv_ 4 50 (h := ?_)
           refine tk_ 1 47 (h := ?_)
           refine tk_ 3 49 (h := ?_)
           refine pv_ 5 51 (h := ?_)
           refine tk_ 6 52 (h := ?_)
           refine on_ 7 53 (h := fun K hK => ?_)
           refine value_ (w1 := ?_) (v := ?_) (by rfl) rfl ?_ ?_
           rotate_left 2
           ·go_simp
            constructor
            ·rfl
            ·rfl
           refine hK.out _ _ ⟨(blk_cell (blk_alloc BK125.out _) 0).trans rfl, (blk_cell (blk_alloc BK125.out _) 1).trans rfl, (blk_cell (blk_alloc BK122.out _) 0).trans rfl, (blk_cell (blk_alloc BK122.out _) 1).trans rfl, (World.cell?_alloc_lt _ _ _ (World.block_lt_of_cell? _ _ ((xce HB hw139_0)))).trans ((xce HB hw139_0)), (World.cell?_alloc_lt _ _ _ (World.block_lt_of_cell? _ _ ((xce HB hw139_1)))).trans ((xce HB hw139_1)), (World.cell?_alloc_lt _ _ _ (World.block_lt_of_cell? _ _ ((xce HB hw139_2)))).trans ((xce HB hw139_2))⟩ (fun hHeld => ?_)
           clear hK K
           refine norm_ (a' := ?_) ?_ ?_
           rotate_left
           ·show Act.put _ (some 53) _ = _
            simp only [Act.put, List.setIfInBounds_toArray, List.set_cons_zero, List.set_cons_succ, i64_w, i32_w]
            rfl
           refine on_ 8 54 (h := fun K hK => ?_)
           refine Kd.R_append_step k134 (w0 := w) w.heap.size (by rfl) (.tmp 47) (.tmp 53) 68 134 (.agg #[(.int .i64 0), (.string ⟨#[]⟩), (.string ⟨#[]⟩)]) 40 rfl Try.underlying68 info134 rfl (by decide) (by omega) u126001 x126001_1 (⟨(rd_T134 l0_1 x7_1).f0, (rd_T134 l0_1 x7_1).f1, (rd_T134 l0_1 x7_1).f2⟩ : S134) [.int .i64 ((rd_T134 l0_1 x7_1).f0), .string ((rd_T134 l0_1 x7_1).f1), .string ((rd_T134 l0_1 x7_1).f2)] (fun k_ => k_ ≠ gb123) (fun _ => False) rfl rfl ?aP (fun _ hk => hk.elim) ?aF ?aO ?aB ?aS ?aL ?_
           (case aP => exact k134_mkM _ _ _ (⟨(rd_T134 l0_1 x7_1).f0, (rd_T134 l0_1 x7_1).f1, (rd_T134 l0_1 x7_1).f2⟩ : S134))
           (case aB => exact xbg)
           (case aF => exact (fun k_ hk => Kd.freshB (g := gb123) (o := .cells #[.int .i64 a1_0, .string a1_1, .string a1_2] 134 (0, 0)) xblk k_ hk))
           (case aO => exact (xr HO_126001))
           (case aS => exact (below_size xbg))
           (case aL => have := LMc62.out; omega)
           intro v141 w65 ho hb hg hat
           rw [← Ny140.out] at ho
           have n0_ := aM (blk_grown (g := gb122) (o := .cells #[.int .i64 a0_0, .slice (some ad138) l0_1.length c0_1] 70 (0, 0)) xblk hg (Kd.R_ne HO_126001.out BK122.out (by decide))); have n1_ := aM (blk_grown (g := gb123) (o := .cells #[.int .i64 a1_0, .string a1_1, .string a1_2] 134 (0, 0)) xblk hg (Kd.R_away HO_126001.out (fun _ hk => hk))); have n2_ := aM (blk_grown (g := gb124) (o := .cells #[.int .i64 0, .slice none 0 0] 70 (0, 0)) xblk hg (Kd.R_ne HO_126001.out BK124.out (by decide))); have n3_ := aM (blk_grown (g := gb125) (o := .cells #[.int .i64 a0_0, u126001] 70 (0, 0)) xblk hg (Kd.R_ne HO_126001.out BK125.out (by decide))); have n4_ := aM (hb); have n5_ := aM (ho); clear BK122 BK123 BK124 BK125 HB HO_126001; have BK122 := n0_; have BK123 := n1_; have BK124 := n2_; have BK125 := n3_; have HB := n4_; have HO142 := n5_; clear n0_ n1_ n2_ n3_ n4_ n5_ ho hb hg hat
           obtain ⟨Ao66, co66, eo66⟩ := Kd.R_slice HO142.out
           (first | subst eo66 | (injection eo66 with f1_ f2_ f3_; have f4_ := f1_.symm; have f5_ := f3_.symm; clear f1_ f2_ f3_; subst f4_; subst f5_))
           refine hK.out _ _ ⟨xc BK125 0 rfl, xc BK125 1 rfl, xc BK122 0 rfl, xc BK122 1 rfl, (xce HB hw139_0), (xce HB hw139_1), (xce HB hw139_2)⟩ (fun hHeld => ?_)
           clear hK K
           refine norm_ (a' := ?_) ?_ ?_
           rotate_left
           ·show Act.put _ (some 54) _ = _
            simp only [Act.put, List.setIfInBounds_toArray, List.set_cons_zero, List.set_cons_succ, i64_w, i32_w]
            rfl
           refine pv_ 9 55 (h := ?_)
           refine last_ (i := 10) (N := none) #[true, true, true, true, true, true, true, true, true, true, true] rfl rfl (one_of HT_.out (by kernel_rfl)) (by decide) (fun K hK => ?_)
           have hs67 : w65.cell? ⟨gb125, 1, none⟩ = some (u126001) := xc BK125 1 rfl; have hfs67 := blk_frozen BK125.out 1; have hns67_0 := NB122_125.out; have hns67_1 := NB123_125.out; have hns67_2 := NB124_125.out; have hms67_0 := NB125_122.out; have hms67_1 := NB125_123.out; have hms67_2 := NB125_124.out
           refine skip_ (w1 := ?_) (by rfl) rfl ?_ ?_
           rotate_left
           ·go_simp
            rfl
           refine hK.out _ _ ?_
           clear hK K
           refine done_ (done_of HT_.out (by kernel_rfl)) ?_
           try go_wp2
           go_roundg kj14
           case measure => have := HK1.out; have := HJ14.out; omega
           case rel => exact ⟨(x6_1), (wrap64 (x7_1 + 1)), (y140), (.slice Ao66 y140.length co66), (by first | rfl | (simp; done) | (simp [*]; done)), (by first | rfl | (simp; done) | (simp [*]; done)), H', ⟨by have := HK1.out; have := HJ14.out; omega⟩, ⟨by (with_reducible repeat (first | apply Kd.R_alloc | apply Kd.R_drewN | apply Kd.R_drew)); exact Kd.R_mono (Kd.R_far (p := ⟨gb125, 1, none⟩) (Kd.R_types HO142.out BK125.out (by decide)) (fun _ hk => hk.2) (.slice Ao66 y140.length co66)) (fun _ hk => hk.1)⟩, ⟨by (with_reducible repeat (first | refine blk_drewN ?_ _ | refine blk_drew ?_ | refine blk_alloc ?_ _)); refine blk_far ?_ NB122_125.out _; (with_reducible repeat (first | refine blk_drewN ?_ _ | refine blk_drew ?_ | refine blk_alloc ?_ _)); exact BK122.out⟩, ⟨by (with_reducible repeat (first | refine blk_drewN ?_ _ | refine blk_drew ?_ | refine blk_alloc ?_ _)); refine blk_far ?_ NB123_125.out _; (with_reducible repeat (first | refine blk_drewN ?_ _ | refine blk_drew ?_ | refine blk_alloc ?_ _)); exact BK123.out⟩, ⟨by (with_reducible repeat (first | refine blk_drewN ?_ _ | refine blk_drew ?_ | refine blk_alloc ?_ _)); refine blk_far ?_ NB124_125.out _; (with_reducible repeat (first | refine blk_drewN ?_ _ | refine blk_drew ?_ | refine blk_alloc ?_ _)); exact BK124.out⟩, ⟨by (with_reducible repeat (first | refine blk_drewN ?_ _ | refine blk_drew ?_ | refine blk_alloc ?_ _)); refine blk_put (cs := #[.int .i64 a0_0, u126001]) ?_ 1 _ rfl; (with_reducible repeat (first | refine blk_drewN ?_ _ | refine blk_drew ?_ | refine blk_alloc ?_ _)); exact BK125.out⟩, ⟨xbg⟩⟩
          ·rw [if_neg c62] at H
           exact absurd H (by simp)
        ·rw [if_neg c59] at H
         exact absurd H (by simp)
       ·rw [if_neg c58] at H
        exact absurd H (by simp)
   ·rw [if_neg c14] at H
    have c14b0 : decide (x7_1 < (l0_1.length : Int)) = false := decide_eq_false c14; clear c14
    by_cases c68 : x6_1 = true
    ·subst c68
     have H1 : (some (a0_0, x126001_1)) = some (r1, r2) := by rw [if_pos rfl] at H; exact H
     clear H; have H := H1; clear H1
     simp only [Option.some.injEq, Prod.mk.injEq] at H
     obtain ⟨rfl, rfl⟩ := H
     have hnb69 := NB122_123.out; have hnc69 := NB123_122.out; have hnb70 := NB122_124.out; have hnc70 := NB124_122.out; have hnb71 := NB122_125.out; have hnc71 := NB125_122.out; obtain ⟨hcz72_0, hcz72_1, hfz72_0, hfz72_1⟩ := xf2 (w := wr) BK122; have hnb73 := NB125_123.out; have hnc73 := NB123_125.out; have hnb74 := NB125_124.out; have hnc74 := NB124_125.out; obtain ⟨hcz75_0, hcz75_1, hfz75_0, hfz75_1⟩ := xf2 (w := wr) BK125; have hnb76 := NB124_123.out; have hnc76 := NB123_124.out; obtain ⟨hcz77_0, hcz77_1, hfz77_0, hfz77_1⟩ := xf2 (w := wr) BK124
     obtain ⟨Ao78, co78, eo78⟩ := Kd.R_slice HO_126001.out
     subst eo78
     go_wp2
     refine bodyPost_ret (results_cell_row rfl _ _ gb124 70 #[.int .i64 a0_0, .slice Ao78 x126001_1.length co78] (0, 0) _ rfl (by (with_reducible repeat (first | refine blk_drewN ?_ _ | refine blk_drew ?_ | refine blk_alloc ?_ _)); refine blk_put (cs := #[.int .i64 a0_0, .slice none 0 0]) ?_ 1 _ rfl; (with_reducible repeat (first | refine blk_drewN ?_ _ | refine blk_drew ?_ | refine blk_alloc ?_ _)); refine blk_put (cs := #[.int .i64 0, .slice none 0 0]) ?_ 0 _ rfl; (with_reducible repeat (first | refine blk_drewN ?_ _ | refine blk_drew ?_ | refine blk_alloc ?_ _)); exact BK124.out) Try.underlying70 rfl (by kernel_rfl)) rfl ?_
     exact ⟨_, by first | rfl | (simp [errW_none, errW_some] <;> rfl) | (simp [*, errW_none, errW_some] <;> rfl), by (with_reducible repeat (first | apply Kd.R_alloc | apply Kd.R_drewN | apply Kd.R_drew)); exact Kd.R_mono (Kd.R_far (p := ⟨gb124, 1, none⟩) (Kd.R_far (p := ⟨gb124, 0, none⟩) (Kd.R_types HO_126001.out BK124.out (by decide)) (fun _ hk => hk.2) (.int .i64 a0_0)) (fun _ hk => hk.2) (.slice Ao78 x126001_1.length co78)) (fun _ hk => trivial), xbg⟩
    ·replace c68 := Bool.eq_false_iff.mpr c68
     subst c68
     have H1 : (if x126001_1.length < 3518437208883 then (some (a0_0, (x126001_1 ++ [(⟨a1_0, a1_1, a1_2⟩ : S134)]))) else (none)) = some (r1, r2) := by rw [if_neg (show ¬ (false = true) by decide)] at H; exact H
     clear H; have H := H1; clear H1
     by_cases c79 : x126001_1.length < 3518437208883
     ·rw [if_pos c79] at H
      have LMc79 := aM c79; clear c79
      obtain ⟨y126, hy126⟩ : ∃ y_ : List (S134), y_ = (x126001_1 ++ [(⟨a1_0, a1_1, a1_2⟩ : S134)]) := ⟨_, rfl⟩
      replace H : (some (a0_0, y126)) = some (r1, r2) := by first | (rw [hy126]; with_reducible exact H) | (have H2_ := (Option.bind_some _ _).symm.trans H; rw [hy126]; with_reducible exact H2_) | (have H2_ := (Option.bind_some _ _).symm.trans H; with_reducible exact H2_) | with_reducible exact H | (rw [hy126]; exact H) | exact H
      have Ny126 := aM hy126; clear hy126
      simp only [Option.some.injEq, Prod.mk.injEq] at H
      obtain ⟨rfl, rfl⟩ := H
      have hnb80 := NB122_123.out; have hnc80 := NB123_122.out; have hnb81 := NB122_124.out; have hnc81 := NB124_122.out; have hnb82 := NB122_125.out; have hnc82 := NB125_122.out; obtain ⟨hcz83_0, hcz83_1, hfz83_0, hfz83_1⟩ := xf2 (w := wr) BK122; have hnb84 := NB125_123.out; have hnc84 := NB123_125.out; have hnb85 := NB125_124.out; have hnc85 := NB124_125.out; obtain ⟨hcz86_0, hcz86_1, hfz86_0, hfz86_1⟩ := xf2 (w := wr) BK125; have hnb87 := NB123_124.out; have hnc87 := NB124_123.out; obtain ⟨hcz88_0, hcz88_1, hcz88_2, hfz88_0, hfz88_1, hfz88_2⟩ := xf3 (w := wr) BK123
      go_wp2_with (first | ((with_reducible refine gate_builtin (b := .append) (xs := #[.tmp 59, .tmp 61]) rfl ?_); at_builtin; refine Kd.R_append k134 (w0 := w) w.heap.size rfl (.tmp 59) (.tmp 61) 68 134 (.agg #[(.int .i64 0), (.string ⟨#[]⟩), (.string ⟨#[]⟩)]) 40 rfl Try.underlying68 info134 rfl (by decide) (by omega) u126001 x126001_1 (⟨a1_0, a1_1, a1_2⟩ : S134) [.int .i64 a1_0, .string a1_1, .string a1_2] (fun k_ => k_ ≠ gb123) (fun _ => False) rfl rfl ?aP (fun _ hk => hk.elim) ?aF ?aO ?aB ?aS ?aL ?_; (case aP => exact k134_mkM _ _ _ (⟨a1_0, a1_1, a1_2⟩ : S134)); (case aB => exact xbg); (case aF => exact (fun k_ hk => Kd.freshB (g := gb123) (o := .cells #[.int .i64 a1_0, .string a1_1, .string a1_2] 134 (0, 0)) xblk k_ hk)); (case aO => exact (xr HO_126001)); (case aS => exact (below_size xbg)); (case aL => have := LMc79.out; omega); intro v127 w89 ho hb hg hat; rw [← Ny126.out] at ho; have n0_ := aM (blk_grown (g := gb122) (o := .cells #[.int .i64 a0_0, .slice A0_1 l0_1.length c0_1] 70 (0, 0)) xblk hg (Kd.R_ne HO_126001.out BK122.out (by decide))); have n1_ := aM (blk_grown (g := gb123) (o := .cells #[.int .i64 a1_0, .string a1_1, .string a1_2] 134 (0, 0)) xblk hg (Kd.R_away HO_126001.out (fun _ hk => hk))); have n2_ := aM (blk_grown (g := gb124) (o := .cells #[.int .i64 0, .slice none 0 0] 70 (0, 0)) xblk hg (Kd.R_ne HO_126001.out BK124.out (by decide))); have n3_ := aM (blk_grown (g := gb125) (o := .cells #[.int .i64 a0_0, u126001] 70 (0, 0)) xblk hg (Kd.R_ne HO_126001.out BK125.out (by decide))); have n4_ := aM (hb); have n5_ := aM (ho); clear BK122; clear BK123; clear BK124; clear BK125; clear HB; clear HO_126001; have BK122 := n0_; have BK123 := n1_; have BK124 := n2_; have BK125 := n3_; have HB := n4_; have HO128 := n5_; clear n0_ n1_ n2_ n3_ n4_ n5_; clear ho hb hg hat; obtain ⟨Ao90, co90, eo90⟩ := Kd.R_slice HO128.out; subst eo90; obtain ⟨hcz91_0, hcz91_1, hfz91_0, hfz91_1⟩ := xf2 (w := w89) BK125; obtain ⟨hcz92_0, hcz92_1, hfz92_0, hfz92_1⟩ := xf2 (w := w89) BK124))
      refine bodyPost_ret (results_cell_row rfl _ _ gb124 70 #[.int .i64 a0_0, .slice Ao90 y126.length co90] (0, 0) _ rfl (by (with_reducible repeat (first | refine blk_drewN ?_ _ | refine blk_drew ?_ | refine blk_alloc ?_ _)); refine blk_put (cs := #[.int .i64 a0_0, .slice none 0 0]) ?_ 1 _ rfl; (with_reducible repeat (first | refine blk_drewN ?_ _ | refine blk_drew ?_ | refine blk_alloc ?_ _)); refine blk_put (cs := #[.int .i64 0, .slice none 0 0]) ?_ 0 _ rfl; (with_reducible repeat (first | refine blk_drewN ?_ _ | refine blk_drew ?_ | refine blk_alloc ?_ _)); refine blk_far ?_ NB124_125.out _; (with_reducible repeat (first | refine blk_drewN ?_ _ | refine blk_drew ?_ | refine blk_alloc ?_ _)); exact BK124.out) Try.underlying70 rfl (by kernel_rfl)) rfl ?_
      exact ⟨_, by first | rfl | (simp [errW_none, errW_some] <;> rfl) | (simp [*, errW_none, errW_some] <;> rfl), by (with_reducible repeat (first | apply Kd.R_alloc | apply Kd.R_drewN | apply Kd.R_drew)); exact Kd.R_mono (Kd.R_far (p := ⟨gb124, 1, none⟩) (Kd.R_far (p := ⟨gb124, 0, none⟩) (Kd.R_far (p := ⟨gb125, 1, none⟩) (Kd.R_types (Kd.R_types HO128.out BK125.out (by decide)) BK124.out (by decide)) (fun _ hk => hk.1.2) (.slice Ao90 y126.length co90)) (fun _ hk => hk.2) (.int .i64 a0_0)) (fun _ hk => hk.2) (.slice Ao90 y126.length co90)) (fun _ hk => trivial), xbg⟩
     ·rw [if_neg c79] at H
      exact absurd H (by simp)

end Go.Proofs.Ytnjpfllmcmomoaa.QFnFiles
