-- A walk, by a program of this session.
import Derived.Test.YtkfoojknjmgjdaaQFnDiskx0
import Derived.Test.YtkfoojknjmgjdaaQFnDiskx3
namespace Go.Proofs.Ytkfoojknjmgjdaa.QFnDisk
open Go.RowKit Go.Proofs.YtkfoojknjmgjdaaW.PrintWords Go.Proofs.YtkfoojknjmgjdaaW.PrintLast Go.Proofs.YtkfoojknjmgjdaaW.PrintMore
attribute [local go_sem] max2_int min2_int max_two min_two max_three min_three max_four min_four   -- for this text's walks alone
set_option linter.unusedVariables false
set_option linter.unusedSimpArgs false

/-! ### spec_DiskOk: function 47 -/
mutual
def spec_DiskOk.j0 : Nat → Bool → Int → List (S81) → Option (Bool)
 | 0, _, _, _ => none
 | k + 1, x20, x177000, x177001 => if x20 = true then (some false) else (spec_DiskOk.l0 k 0 x177000 x177001)
def spec_DiskOk.l0 : Nat → Int → Int → List (S81) → Option (Bool)
 | 0, _, _, _ => none
 | k + 1, x3, x177000, x177001 => if x3 < (x177001.length : Int) then (if 0 ≤ x3 then ((spec_l3Name.f ((rd_T81 x177001 x3).f0)).bind fun t180 => (if t180 = true then (if x3 > 0 then (if 0 ≤ (wrap64 (x3 - 1)) then (if (wrap64 (x3 - 1)) < (x177001.length : Int) then (if ((rd_T81 x177001 (wrap64 (x3 - 1))).f0) ≥ ((rd_T81 x177001 x3).f0) then (some false) else (spec_DiskOk.l0 k (wrap64 (x3 + 1)) x177000 x177001)) else (none)) else (none)) else (spec_DiskOk.l0 k (wrap64 (x3 + 1)) x177000 x177001)) else (some false))) else (none)) else (some true)
end
def spec_DiskOk.f (k : Nat) (a0_0 : Int) (l0_1 : List (S81)) : Option (Bool) := (spec_l1In.f a0_0 0 40000).bind fun t177 => (if t177 = true then (if (l0_1.length : Int) > 8 then (spec_DiskOk.j0 k true a0_0 l0_1) else ((spec_l3Size.f k a0_0 l0_1).bind fun t178 => (spec_DiskOk.j0 k (decide (t178 > a0_0)) a0_0 l0_1))) else (spec_DiskOk.j0 k true a0_0 l0_1))
set_option maxRecDepth 100000 in
theorem spec_DiskOk.mono_l : ∀ k, (∀ y0 y1 y2, LeO (spec_DiskOk.j0 k y0 y1 y2) (spec_DiskOk.j0 (k + 1) y0 y1 y2)) ∧ (∀ y0 y1 y2, LeO (spec_DiskOk.l0 k y0 y1 y2) (spec_DiskOk.l0 (k + 1) y0 y1 y2))
 | 0 => ⟨fun _ _ _ r h => by simp [spec_DiskOk.j0] at h, fun _ _ _ r h => by simp [spec_DiskOk.l0] at h⟩
 | k + 1 => by
  obtain ⟨ih0, ih1⟩ := spec_DiskOk.mono_l k
  refine ⟨?_, ?_⟩
  ·intro y0 y1 y2
   unfold spec_DiskOk.j0
   repeat' first
   | (with_reducible exact ih0 _ _ _)
   | (with_reducible exact ih1 _ _ _)
   | (with_reducible exact spec_l3Size.mono _ _ _)
   | (with_reducible exact LeO.refl _)
   | (with_reducible exact LeO.none _)
   | (with_reducible refine LeO.ite ?_ ?_)
   | (with_reducible refine LeO.bind ?_ (fun _ => ?_))
   | exact ih0 _ _ _
   | exact ih1 _ _ _
   | exact spec_l3Size.mono _ _ _
   | exact LeO.none _
   | refine LeO.ite ?_ ?_
   | refine LeO.bind ?_ (fun _ => ?_)
  ·intro y0 y1 y2
   unfold spec_DiskOk.l0
   repeat' first
   | (with_reducible exact ih0 _ _ _)
   | (with_reducible exact ih1 _ _ _)
   | (with_reducible exact spec_l3Size.mono _ _ _)
   | (with_reducible exact LeO.refl _)
   | (with_reducible exact LeO.none _)
   | (with_reducible refine LeO.ite ?_ ?_)
   | (with_reducible refine LeO.bind ?_ (fun _ => ?_))
   | exact ih0 _ _ _
   | exact ih1 _ _ _
   | exact spec_l3Size.mono _ _ _
   | exact LeO.none _
   | refine LeO.ite ?_ ?_
   | refine LeO.bind ?_ (fun _ => ?_)
theorem spec_DiskOk.mono : ∀ a0 a1 k, LeO (spec_DiskOk.f k a0 a1) (spec_DiskOk.f (k + 1) a0 a1) := by
 intro a0 a1 k
 obtain ⟨ih0, ih1⟩ := spec_DiskOk.mono_l k
 unfold spec_DiskOk.f
 repeat' first
  | (with_reducible exact ih0 _ _ _)
  | (with_reducible exact ih1 _ _ _)
  | (with_reducible exact spec_l3Size.mono _ _ _)
  | (with_reducible exact LeO.refl _)
  | (with_reducible exact LeO.none _)
  | (with_reducible refine LeO.ite ?_ ?_)
  | (with_reducible refine LeO.bind ?_ (fun _ => ?_))
  | exact ih0 _ _ _
  | exact ih1 _ _ _
  | exact spec_l3Size.mono _ _ _
  | exact LeO.none _
  | refine LeO.ite ?_ ?_
  | refine LeO.bind ?_ (fun _ => ?_)
def spec_DiskOk.T1 : Bool × List (List Nat × List Nat) := (true, [([], []), ([0], [0]), ([1], [1]), ([2], [2]), ([3, 2], [3]), ([4], [4]), ([5, 4], [4, 5]), ([6, 4], [4, 6]), ([7, 4], [4, 7]), ([4, 8], [4, 8]), ([9, 4], [9]), ([10], [10]), ([11, 10, 10], [10, 11]), ([10], [10]), ([13, 10], [10, 13]), ([12, 14, 10], [10, 12, 14]), ([10, 15], [10, 15])])
def spec_DiskOk.B1 : List Nat := [0, 1, 3, 7, 15, 31, 63, 127, 255, 511, 1023, 2047, 4095, 2047, 10239, 32767, 65535]
theorem spec_DiskOk.tab1 : rtab .any (opsOf Try.f47 1) = spec_DiskOk.T1 := by kernel_rfl
theorem spec_DiskOk.bits1 : waitsOk spec_DiskOk.T1.2 spec_DiskOk.B1 = true := by kernel_rfl
def spec_DiskOk.T6 : Bool × List (List Nat × List Nat) := (true, [([], []), ([0], [0]), ([], []), ([1, 2], [1, 2]), ([3], [3]), ([4], [4]), ([5], [5]), ([6], [6]), ([7, 6], [7]), ([8], [8]), ([9, 8], [8, 9]), ([10, 8, 8], [8, 10]), ([11], [11]), ([12, 11], [11, 12]), ([11], [11]), ([14, 11], [11, 14]), ([13, 15, 11], [11, 13, 15]), ([16, 11], [11, 16]), ([17, 11], [11, 17]), ([11], [11]), ([19, 11], [11, 19]), ([11], [11]), ([20, 21, 11], [11, 20, 21]), ([22, 11], [11, 22]), ([23, 11], [11, 23]), ([18, 24, 11], [11, 18, 24]), ([11, 25, 8], [8, 11, 25]), ([8, 26], [8, 26])])
def spec_DiskOk.B6 : List Nat := [0, 1, 0, 7, 15, 31, 63, 127, 255, 511, 1023, 2047, 4095, 8191, 4095, 20479, 65535, 131071, 262143, 4095, 528383, 4095, 3674111, 7868415, 16257023, 33554431, 67108863, 134217727]
theorem spec_DiskOk.tab6 : rtab .any (opsOf Try.f47 6) = spec_DiskOk.T6 := by kernel_rfl
theorem spec_DiskOk.bits6 : waitsOk spec_DiskOk.T6.2 spec_DiskOk.B6 = true := by kernel_rfl
set_option maxHeartbeats 8000000 in
set_option maxRecDepth 100000 in
theorem spec_DiskOk.calls (k : Nat) (a0_0 : Int) (A0_1 : Option Addr) (c0_1 : Nat) (l0_1 : List (S81)) (r : Bool) (w : World) (hr0_1 : Kd.C k81 w A0_1 l0_1.length l0_1) (hc0_1 : l0_1.length ≤ c0_1) (h : spec_DiskOk.f k a0_0 l0_1 = some r) :
 Calls Try.prog 47 #[.agg #[.int .i64 a0_0, .slice A0_1 l0_1.length c0_1]] w fun e w' => e = .returned (.bool r) ∧ Below w.heap.size w w' := by
 have hu63 := Try.underlying63
 have HR0_1 := Aside0.mk hr0_1
 have HC0_1 := Aside0.mk hc0_1
 clear hr0_1 hc0_1
 have HB := Aside0.mk (Below.refl w.heap.size w)
 have H : ((spec_l1In.f a0_0 0 40000).bind fun t177 => (if t177 = true then (if (l0_1.length : Int) > 8 then (spec_DiskOk.j0 k true a0_0 l0_1) else ((spec_l3Size.f k a0_0 l0_1).bind fun t178 => (spec_DiskOk.j0 k (decide (t178 > a0_0)) a0_0 l0_1))) else (spec_DiskOk.j0 k true a0_0 l0_1))) = some r := h
 clear h
 have HC2 := Aside0.mk H
 clear H
 go_enter Try.func47, Try.ntmps47
 go_upto_region 1 with (first | ((with_reducible refine gate_dst (N := 1) rfl ?_); (try (refine gate_guard (by rfl) ?_; dsimp only)); refine box_event ?hg (N := 1) ?hd (cs := #[.int .i64 a0_0, .slice A0_1 l0_1.length c0_1]) (t := 63) ?hr ?_; (case hd => rfl); (case hg => rfl); (case hr => first | (go_simp; done) | (go_simp; rfl)); intro gb176 hg w3 hbox hb; have BK176 := Aside0.mk (hbox); have GW176 := Aside0.mk (xge hg); have GE176 := Aside0.mk (xge hg); replace HB := xbs hb; clear hb hbox hg))
 (try simp only [Act.put, List.setIfInBounds_toArray, List.set_cons_zero, List.set_cons_succ])
 go_cut [20] (fun v20 wc => ∃ (kq : Nat) (x20_1 : Bool), v20 = .bool x20_1 ∧ Aside0 (spec_DiskOk.j0 kq x20_1 a0_0 l0_1 = some r) ∧ Aside0 (kq ≤ k) ∧ Aside0 (wc.heap[gb176]? = some (.cells #[.int .i64 a0_0, (.slice A0_1 l0_1.length c0_1)] 63 (0, 0))) ∧ Aside0 (Below w.heap.size w wc))
 case first =>
  have H := HC2.out
  clear HC2
  replace H := Option.bind_eq_some_iff.mp H
  obtain ⟨t177, A40, H⟩ := H
  replace H : (if t177 = true then (if (l0_1.length : Int) > 8 then (spec_DiskOk.j0 k true a0_0 l0_1) else ((spec_l3Size.f k a0_0 l0_1).bind fun t178 => (spec_DiskOk.j0 k (decide (t178 > a0_0)) a0_0 l0_1))) else (spec_DiskOk.j0 k true a0_0 l0_1)) = some r := H
  have A4 := Aside0.mk A40
  clear A40
  by_cases c5 : t177 = true
  ·subst c5
   have H1 : (if (l0_1.length : Int) > 8 then (spec_DiskOk.j0 k true a0_0 l0_1) else ((spec_l3Size.f k a0_0 l0_1).bind fun t178 => (spec_DiskOk.j0 k (decide (t178 > a0_0)) a0_0 l0_1))) = some r := by rw [if_pos rfl] at H; exact H
   clear H
   have H := H1
   clear H1
   by_cases c6 : (l0_1.length : Int) > 8
   ·rw [if_pos c6] at H
    have c6b0 : decide (8 < (l0_1.length : Int)) = true := decide_eq_true c6
    have c6b1 : decide (8 < l0_1.length) = true := decide_eq_true (by omega)
    clear c6
    (first | rw [c6b0] | (simp only [i64_w, i32_w]; rw [c6b0]) | skip)
    have H' := Aside0.mk H
    clear H
    try go_wp2
    replace BK176 := Aside0.mk (blk_drew BK176.out)
    replace HB := Aside0.mk (below_drew1 HB.out)
    refine start_ (n := 17) (S := fun w' => w'.cell? ⟨gb176, 0, none⟩ = some (.int .i64 a0_0) ∧ w'.cell? ⟨gb176, 1, none⟩ = some (.slice A0_1 l0_1.length c0_1)) (ds := []) #[false, false, false, false, false, false, false, false, false, false, false, false, false, false, false, false, false] (by kernel_rfl) rfl rfl ⟨(blk_cell BK176.out 0).trans rfl, (blk_cell BK176.out 1).trans rfl⟩ (fun hHeld => ?_); refine with_tabW spec_DiskOk.tab1 spec_DiskOk.bits1 (fun HT_ HW_ => ?_)
    generalize w3.drew = w7 at BK176 HB hHeld ⊢
    refine pv_ 0 4 (h := ?_)
    refine tk_ 1 5 (h := ?_)
    refine on_ 2 6 (h := fun K hK => ?_)
    refine goes_ Try.func73 (by kernel_rfl) rfl #[.int .i64 a0_0, .int .i64 0, .int .i64 40000] (by rfl) rfl rfl (by (try simp only [List.map_toArray, List.map_cons, List.map_nil]); first | done | rfl | (simp only [List.length_drop, List.length_take]; rfl)) ?_
    with_reducible refine (spec_l1In.calls a0_0 0 40000 true _ A4.out).mono ?_
    rintro e w' ⟨rfl, ⟨nd, rfl⟩⟩
    refine ⟨_, rfl, ?_⟩
    refine hK.out _ _ ⟨(blk_cell BK176.out 0).trans rfl, (blk_cell BK176.out 1).trans rfl⟩ (fun hHeld => ?_)
    clear hK K
    refine norm_ (a' := ?_) ?_ ?_
    rotate_left
    ·show Act.put _ (some 6) _ = _
     simp only [Act.put, List.setIfInBounds_toArray, List.set_cons_zero, List.set_cons_succ, i64_w, i32_w]
     rfl
    refine pv_ 3 7 (h := ?_)
    refine pv_ 4 8 (h := ?_)
    refine pv_ 5 9 (h := ?_)
    refine tk_ 6 10 (h := ?_)
    refine pv_ 7 11 (h := ?_)
    refine pv_ 8 12 (h := ?_)
    refine pv_ 9 13 (h := ?_)
    refine pv_ 10 14 (h := ?_)
    refine pu_ 11 15 (h := ?_)
    refine pu_ 12 16 (h := ?_)
    refine pu_ 13 17 (h := ?_)
    refine pu_ 14 18 (h := ?_)
    refine pu_ 15 19 (h := ?_)
    refine pv_ 16 20 (h := ?_)
    refine done_ (done_of HT_.out (by kernel_rfl)) ?_
    try go_wp2
    go_meet
    case rel => exact ⟨_, (true), (by first | rfl | (simp; done) | (simp [*]; done)), H', ⟨by first | omega | exact Nat.le_refl _⟩, ⟨xblk⟩, ⟨xbg⟩⟩
   ·rw [if_neg c6] at H
    have c6b0 : decide (8 < (l0_1.length : Int)) = false := decide_eq_false c6
    have c6b1 : decide (8 < l0_1.length) = false := decide_eq_false (by omega)
    clear c6
    (first | rw [c6b0] | (simp only [i64_w, i32_w]; rw [c6b0]) | skip)
    replace H := Option.bind_eq_some_iff.mp H
    obtain ⟨t178, A80, H⟩ := H
    replace H : (spec_DiskOk.j0 k (decide (t178 > a0_0)) a0_0 l0_1) = some r := H
    have A8 := Aside0.mk A80
    clear A80
    have H' := Aside0.mk H
    clear H
    try go_wp2
    replace BK176 := Aside0.mk (blk_drew BK176.out)
    replace HB := Aside0.mk (below_drew1 HB.out)
    refine start_ (n := 17) (S := fun w' => w'.cell? ⟨gb176, 0, none⟩ = some (.int .i64 a0_0) ∧ w'.cell? ⟨gb176, 1, none⟩ = some (.slice A0_1 l0_1.length c0_1)) (ds := []) #[false, false, false, false, false, false, false, false, false, false, false, false, false, false, false, false, false] (by kernel_rfl) rfl rfl ⟨(blk_cell BK176.out 0).trans rfl, (blk_cell BK176.out 1).trans rfl⟩ (fun hHeld => ?_); refine with_tabW spec_DiskOk.tab1 spec_DiskOk.bits1 (fun HT_ HW_ => ?_)
    generalize w3.drew = w9 at BK176 HB hHeld ⊢
    refine pv_ 0 4 (h := ?_)
    refine tk_ 1 5 (h := ?_)
    refine on_ 2 6 (h := fun K hK => ?_)
    refine goes_ Try.func73 (by kernel_rfl) rfl #[.int .i64 a0_0, .int .i64 0, .int .i64 40000] (by rfl) rfl rfl (by (try simp only [List.map_toArray, List.map_cons, List.map_nil]); first | done | rfl | (simp only [List.length_drop, List.length_take]; rfl)) ?_
    with_reducible refine (spec_l1In.calls a0_0 0 40000 true _ A4.out).mono ?_
    rintro e w' ⟨rfl, ⟨nd, rfl⟩⟩
    refine ⟨_, rfl, ?_⟩
    refine hK.out _ _ ⟨(blk_cell BK176.out 0).trans rfl, (blk_cell BK176.out 1).trans rfl⟩ (fun hHeld => ?_)
    clear hK K
    refine norm_ (a' := ?_) ?_ ?_
    rotate_left
    ·show Act.put _ (some 6) _ = _
     simp only [Act.put, List.setIfInBounds_toArray, List.set_cons_zero, List.set_cons_succ, i64_w, i32_w]
     rfl
    refine pv_ 3 7 (h := ?_)
    refine pv_ 4 8 (h := ?_)
    refine pv_ 5 9 (h := ?_)
    refine tk_ 6 10 (h := ?_)
    refine pv_ 7 11 (h := ?_)
    refine pv_ 8 12 (h := ?_)
    refine pv_ 9 13 (h := ?_)
    refine pv_ 10 14 (h := ?_)
    refine pv_ 13 17 (h := ?_)
    refine tk_ 11 15 (h := ?_)
    refine tk_ 14 18 (h := ?_)
    refine on_ 12 16 (h := fun K hK => ?_)
    refine goes_ Try.func118 (by kernel_rfl) rfl #[.agg #[.int .i64 a0_0, .slice A0_1 l0_1.length c0_1]] (by rfl) rfl rfl (by (try simp only [List.map_toArray, List.map_cons, List.map_nil]); first | done | rfl | (simp only [List.length_drop, List.length_take]; rfl)) ?_
    with_reducible refine (spec_l3Size.calls k a0_0 _ _ l0_1 t178 _ ?side1 ?side2 A8.out).mono ?_
    (case side1 => repeat (first | exact (Kd.C_below HR0_1.out xbg) | (with_reducible refine Kd.C_alloc ?_ _) | (with_reducible refine Kd.C_drewN ?_ _) | (with_reducible refine Kd.C_drew ?_)))
    (case side2 => exact HC0_1.out)
    rintro e w10 ⟨rfl, hb⟩
    refine ⟨_, rfl, ?_⟩
    replace BK176 := xbb BK176 hb
    replace HB := xbs hb
    (try clear hb); (try clear hb2); (try clear hk); (try clear hi)
    refine hK.out _ _ ⟨(blk_cell BK176.out 0).trans rfl, (blk_cell BK176.out 1).trans rfl⟩ (fun hHeld => ?_)
    clear hK K
    refine norm_ (a' := ?_) ?_ ?_
    rotate_left
    ·show Act.put _ (some 16) _ = _
     simp only [Act.put, List.setIfInBounds_toArray, List.set_cons_zero, List.set_cons_succ, i64_w, i32_w]
     rfl
    refine pv_ 15 19 (h := ?_)
    refine pv_ 16 20 (h := ?_)
    refine done_ (done_of HT_.out (by kernel_rfl)) ?_
    try go_wp2
    go_meet
    case rel => exact ⟨_, (decide (t178 > a0_0)), (by first | rfl | (simp; done) | (simp [*]; done)), H', ⟨by first | omega | exact Nat.le_refl _⟩, ⟨xblk⟩, ⟨xbg⟩⟩
  ·replace c5 := Bool.eq_false_iff.mpr c5
   subst c5
   have H1 : (spec_DiskOk.j0 k true a0_0 l0_1) = some r := by rw [if_neg (show ¬ (false = true) by decide)] at H; exact H
   clear H
   have H := H1
   clear H1
   have H' := Aside0.mk H
   clear H
   try go_wp2
   replace BK176 := Aside0.mk (blk_drew BK176.out)
   replace HB := Aside0.mk (below_drew1 HB.out)
   refine start_ (n := 17) (S := fun w' => w'.cell? ⟨gb176, 0, none⟩ = some (.int .i64 a0_0) ∧ w'.cell? ⟨gb176, 1, none⟩ = some (.slice A0_1 l0_1.length c0_1)) (ds := []) #[false, false, false, false, false, false, false, false, false, false, false, false, false, false, false, false, false] (by kernel_rfl) rfl rfl ⟨(blk_cell BK176.out 0).trans rfl, (blk_cell BK176.out 1).trans rfl⟩ (fun hHeld => ?_); refine with_tabW spec_DiskOk.tab1 spec_DiskOk.bits1 (fun HT_ HW_ => ?_)
   generalize w3.drew = w11 at BK176 HB hHeld ⊢
   refine pv_ 0 4 (h := ?_)
   refine tk_ 1 5 (h := ?_)
   refine on_ 2 6 (h := fun K hK => ?_)
   refine goes_ Try.func73 (by kernel_rfl) rfl #[.int .i64 a0_0, .int .i64 0, .int .i64 40000] (by rfl) rfl rfl (by (try simp only [List.map_toArray, List.map_cons, List.map_nil]); first | done | rfl | (simp only [List.length_drop, List.length_take]; rfl)) ?_
   with_reducible refine (spec_l1In.calls a0_0 0 40000 false _ A4.out).mono ?_
   rintro e w' ⟨rfl, ⟨nd, rfl⟩⟩
   refine ⟨_, rfl, ?_⟩
   refine hK.out _ _ ⟨(blk_cell BK176.out 0).trans rfl, (blk_cell BK176.out 1).trans rfl⟩ (fun hHeld => ?_)
   clear hK K
   refine norm_ (a' := ?_) ?_ ?_
   rotate_left
   ·show Act.put _ (some 6) _ = _
    simp only [Act.put, List.setIfInBounds_toArray, List.set_cons_zero, List.set_cons_succ, i64_w, i32_w]
    rfl
   refine pv_ 3 7 (h := ?_)
   refine pv_ 4 8 (h := ?_)
   refine pu_ 5 9 (h := ?_)
   refine pu_ 6 10 (h := ?_)
   refine pu_ 7 11 (h := ?_)
   refine pu_ 8 12 (h := ?_)
   refine pv_ 9 13 (h := ?_)
   refine pv_ 10 14 (h := ?_)
   refine pu_ 11 15 (h := ?_)
   refine pu_ 12 16 (h := ?_)
   refine pu_ 13 17 (h := ?_)
   refine pu_ 14 18 (h := ?_)
   refine pu_ 15 19 (h := ?_)
   refine pv_ 16 20 (h := ?_)
   refine done_ (done_of HT_.out (by kernel_rfl)) ?_
   try go_wp2
   go_meet
   case rel => exact ⟨_, (true), (by first | rfl | (simp; done) | (simp [*]; done)), H', ⟨by first | omega | exact Nat.le_refl _⟩, ⟨xblk⟩, ⟨xbg⟩⟩
 case rest =>
  clear HC2
  try clear c1
  try clear p2
  try clear c4
  try clear c5
  try clear c6
  try clear c6b0
  try clear c6b1
  try clear c7
  try clear c11
  obtain ⟨kq, x20_1, rfl, HA, HJ1, BK176, HB⟩ := hcut
  cases kq with
  | zero => exact absurd HA.out (by simp [spec_DiskOk.j0])
  | succ kj1 =>
   have H := HA.out
   clear HA
   simp only [spec_DiskOk.j0] at H
   by_cases c12 : x20_1 = true
   ·subst c12
    have H1 : (some false) = some r := by rw [if_pos rfl] at H; exact H
    clear H
    have H := H1
    clear H1
    obtain rfl := Option.some.inj H
    go_wp2
    go_ret
    exact ⟨by first | rfl | (simp [errW_none, errW_some] <;> rfl) | (simp [*, errW_none, errW_some] <;> rfl), xbg⟩
   ·replace c12 := Bool.eq_false_iff.mpr c12
    subst c12
    have H1 : (spec_DiskOk.l0 kj1 0 a0_0 l0_1) = some r := by rw [if_neg (show ¬ (false = true) by decide)] at H; exact H
    clear H
    have H := H1
    clear H1
    have H' := Aside0.mk H
    clear H
    go_wp2
    go_loopg [3] kj1 (fun kq v3 w' => ∃ (x3_2 : Int), v3 = .int .i64 x3_2 ∧ Aside0 (spec_DiskOk.l0 kq x3_2 a0_0 l0_1 = some r) ∧ Aside0 (kq ≤ kj1) ∧ Aside0 (w'.heap[gb176]? = some (.cells #[.int .i64 a0_0, (.slice A0_1 l0_1.length c0_1)] 63 (0, 0))) ∧ Aside0 (Below w.heap.size w w'))
    case atStart => exact ⟨(0), (by first | rfl | (simp; done) | (simp [*]; done)), H', ⟨Nat.le_refl _⟩, ⟨xblk⟩, ⟨xbg⟩⟩
    case round =>
     clear H'
     try clear c1
     try clear p2
     try clear c4
     try clear c5
     try clear c6
     try clear c6b0
     try clear c6b1
     try clear c7
     try clear c11
     try clear c12
     try clear p2
     obtain ⟨x3_2, rfl, HA, HK2, BK176, HB⟩ := hrel
     cases gk with
     | zero => exact absurd HA.out (by simp [spec_DiskOk.l0])
     | succ k2 =>
      have H := HA.out
      clear HA
      simp only [spec_DiskOk.l0] at H
      by_cases c13 : x3_2 < (l0_1.length : Int)
      ·rw [if_pos c13] at H
       have c13b0 : decide (x3_2 < (l0_1.length : Int)) = true := decide_eq_true c13
       clear c13
       by_cases c14 : 0 ≤ x3_2
       ·rw [if_pos c14] at H
        have c14b0 : decide (0 ≤ x3_2) = true := decide_eq_true c14
        clear c14
        replace H := Option.bind_eq_some_iff.mp H
        obtain ⟨t180, A150, H⟩ := H
        replace H : (if t180 = true then (if x3_2 > 0 then (if 0 ≤ (wrap64 (x3_2 - 1)) then (if (wrap64 (x3_2 - 1)) < (l0_1.length : Int) then (if ((rd_T81 l0_1 (wrap64 (x3_2 - 1))).f0) ≥ ((rd_T81 l0_1 x3_2).f0) then (some false) else (spec_DiskOk.l0 k2 (wrap64 (x3_2 + 1)) a0_0 l0_1)) else (none)) else (none)) else (spec_DiskOk.l0 k2 (wrap64 (x3_2 + 1)) a0_0 l0_1)) else (some false)) = some r := H
        have A15 := Aside0.mk A150
        clear A150
        by_cases c16 : t180 = true
        ·subst c16
         have H1 : (if x3_2 > 0 then (if 0 ≤ (wrap64 (x3_2 - 1)) then (if (wrap64 (x3_2 - 1)) < (l0_1.length : Int) then (if ((rd_T81 l0_1 (wrap64 (x3_2 - 1))).f0) ≥ ((rd_T81 l0_1 x3_2).f0) then (some false) else (spec_DiskOk.l0 k2 (wrap64 (x3_2 + 1)) a0_0 l0_1)) else (none)) else (none)) else (spec_DiskOk.l0 k2 (wrap64 (x3_2 + 1)) a0_0 l0_1)) = some r := by rw [if_pos rfl] at H; exact H
         clear H
         have H := H1
         clear H1
         by_cases c17 : x3_2 > 0
         ·rw [if_pos c17] at H
          have c17b0 : decide (0 < x3_2) = true := decide_eq_true c17
          clear c17
          obtain ⟨ji18, hji18⟩ : ∃ j_ : Int, (wrap64 (x3_2 - 1)) = j_ := ⟨_, rfl⟩
          replace H : (if 0 ≤ (ji18) then (if (ji18) < (l0_1.length : Int) then (if ((rd_T81 l0_1 (ji18)).f0) ≥ ((rd_T81 l0_1 x3_2).f0) then (some false) else (spec_DiskOk.l0 k2 (wrap64 (x3_2 + 1)) a0_0 l0_1)) else (none)) else (none)) = some r := by first | (rw [hji18] at H; exact H) | (simp only [hji18] at H ⊢; exact H)
          (try rw [hji18] at A15)
          have hji18w : (IntKind.i64.wrap (x3_2 - 1)) = ji18 := (i64_w _).trans hji18
          by_cases c19 : 0 ≤ (ji18)
          ·rw [if_pos c19] at H
           have c19b0 : decide (0 ≤ (ji18)) = true := decide_eq_true c19
           clear c19
           by_cases c20 : (ji18) < (l0_1.length : Int)
           ·rw [if_pos c20] at H
            have c20b0 : decide ((ji18) < (l0_1.length : Int)) = true := decide_eq_true c20
            clear c20
            by_cases c21 : ((rd_T81 l0_1 (ji18)).f0) ≥ ((rd_T81 l0_1 x3_2).f0)
            ·rw [if_pos c21] at H
             have c21b0 : decide (((rd_T81 l0_1 x3_2).f0) ≤ ((rd_T81 l0_1 (ji18)).f0)) = true := decide_eq_true c21
             clear c21
             obtain rfl := Option.some.inj H
             have hcz22_0 : wr.cell? ⟨gb176, 0, none⟩ = some (.int .i64 a0_0) := (blk_cell BK176.out 0).trans rfl
             have hcz22_1 : wr.cell? ⟨gb176, 1, none⟩ = some (.slice A0_1 l0_1.length c0_1) := (blk_cell BK176.out 1).trans rfl
             have hfz22_0 := blk_frozen BK176.out 0
             have hfz22_1 := blk_frozen BK176.out 1
             try go_wp2
             replace BK176 := Aside0.mk (blk_drew BK176.out)
             replace HB := Aside0.mk (below_drew1 HB.out)
             have p179 : 0 ≤ (x3_2 : Int) := of_decide_eq_true (by first | (with_reducible assumption) | assumption)
             have q179 : x3_2 < (l0_1.length : Int) := of_decide_eq_true (by first | (with_reducible assumption) | assumption)
             obtain ⟨ad179, e179, hx179_0, hx179_1, hx179_2⟩ := at_T81 HR0_1.out x3_2 p179 q179
             have hw179_2 := hx179_2
             have hw179_1 := hx179_1
             have hw179_0 := hx179_0
             cases e179
             replace hx179_0 := xce HB hx179_0
             replace hx179_1 := xce HB hx179_1
             replace hx179_2 := xce HB hx179_2
             replace p179 := eq_true p179
             replace q179 := eq_true q179
             have p181 : 0 ≤ ((ji18) : Int) := of_decide_eq_true (by first | (with_reducible assumption) | assumption)
             have q181 : (ji18) < (l0_1.length : Int) := of_decide_eq_true (by first | (with_reducible assumption) | assumption)
             obtain ⟨ad181, e181, hx181_0, hx181_1, hx181_2⟩ := at_T81 HR0_1.out (ji18) p181 q181
             have hw181_2 := hx181_2
             have hw181_1 := hx181_1
             have hw181_0 := hx181_0
             obtain rfl : ad179 = ad181 := (by injection e181)
             replace hx181_0 := xce HB hx181_0
             replace hx181_1 := xce HB hx181_1
             replace hx181_2 := xce HB hx181_2
             replace p181 := eq_true p181
             replace q181 := eq_true q181
             have p182 : 0 ≤ (x3_2 : Int) := of_decide_eq_true (by first | (with_reducible assumption) | assumption)
             have q182 : x3_2 < (l0_1.length : Int) := of_decide_eq_true (by first | (with_reducible assumption) | assumption)
             obtain ⟨ad182, e182, hx182_0, hx182_1, hx182_2⟩ := at_T81 HR0_1.out x3_2 p182 q182
             have hw182_2 := hx182_2
             have hw182_1 := hx182_1
             have hw182_0 := hx182_0
             obtain rfl : ad179 = ad182 := (by injection e182)
             replace hx182_0 := xce HB hx182_0
             replace hx182_1 := xce HB hx182_1
             replace hx182_2 := xce HB hx182_2
             replace p182 := eq_true p182
             replace q182 := eq_true q182
             refine start_ (n := 28) (S := fun w' => w'.cell? ⟨gb176, 0, none⟩ = some (.int .i64 a0_0) ∧ w'.cell? ⟨gb176, 1, none⟩ = some (.slice (some ad179) l0_1.length c0_1) ∧ w'.cell? (ad179.add ((x3_2).toNat * 3)) = some (.int .i64 ((rd_T81 l0_1 x3_2).f0)) ∧ w'.cell? ⟨(ad179.add ((x3_2).toNat * 3)).block, (ad179.add ((x3_2).toNat * 3)).off + 1, none⟩ = some (.string ((rd_T81 l0_1 x3_2).f1)) ∧ w'.cell? ⟨(ad179.add ((x3_2).toNat * 3)).block, (ad179.add ((x3_2).toNat * 3)).off + 2, none⟩ = some (.string ((rd_T81 l0_1 x3_2).f2)) ∧ w'.cell? (ad179.add (((ji18)).toNat * 3)) = some (.int .i64 ((rd_T81 l0_1 (ji18)).f0)) ∧ w'.cell? ⟨(ad179.add (((ji18)).toNat * 3)).block, (ad179.add (((ji18)).toNat * 3)).off + 1, none⟩ = some (.string ((rd_T81 l0_1 (ji18)).f1)) ∧ w'.cell? ⟨(ad179.add (((ji18)).toNat * 3)).block, (ad179.add (((ji18)).toNat * 3)).off + 2, none⟩ = some (.string ((rd_T81 l0_1 (ji18)).f2)) ∧ w'.cell? (ad179.add ((x3_2).toNat * 3)) = some (.int .i64 ((rd_T81 l0_1 x3_2).f0)) ∧ w'.cell? ⟨(ad179.add ((x3_2).toNat * 3)).block, (ad179.add ((x3_2).toNat * 3)).off + 1, none⟩ = some (.string ((rd_T81 l0_1 x3_2).f1)) ∧ w'.cell? ⟨(ad179.add ((x3_2).toNat * 3)).block, (ad179.add ((x3_2).toNat * 3)).off + 2, none⟩ = some (.string ((rd_T81 l0_1 x3_2).f2))) (ds := []) #[false, false, false, false, false, false, false, false, false, false, false, false, false, false, false, false, false, false, false, false, false, false, false, false, false, false, false, false] (by kernel_rfl) rfl rfl ⟨(blk_cell BK176.out 0).trans rfl, (blk_cell BK176.out 1).trans rfl, (xce HB hw179_0), (xce HB hw179_1), (xce HB hw179_2), (xce HB hw181_0), (xce HB hw181_1), (xce HB hw181_2), (xce HB hw182_0), (xce HB hw182_1), (xce HB hw182_2)⟩ (fun hHeld => ?_); refine with_tabW spec_DiskOk.tab6 spec_DiskOk.bits6 (fun HT_ HW_ => ?_)
             generalize wr.drew = w23 at BK176 HB hx179_0 hx179_1 hx179_2 hx181_0 hx181_1 hx181_2 hx182_0 hx182_1 hx182_2 hHeld ⊢
             refine pv_ 0 28 (h := ?_)
             refine pv_ 2 30 (h := ?_)
             refine tk_ 1 29 (h := ?_)
             refine pv_ 3 31 (h := ?_)
             refine pv_ 4 32 (h := ?_)
             refine tk_ 5 33 (h := ?_)
             refine on_ 6 34 (h := fun K hK => ?_)
             refine goes_ Try.func104 (by kernel_rfl) rfl #[.int .i64 ((rd_T81 l0_1 x3_2).f0)] (by rfl) rfl rfl (by (try simp only [List.map_toArray, List.map_cons, List.map_nil]); first | done | rfl | (simp only [List.length_drop, List.length_take]; rfl)) ?_
             with_reducible refine (spec_l3Name.calls ((rd_T81 l0_1 x3_2).f0) true _ A15.out).mono ?_
             rintro e w' ⟨rfl, ⟨nd, rfl⟩⟩
             refine ⟨_, rfl, ?_⟩
             refine hK.out _ _ ⟨(blk_cell BK176.out 0).trans rfl, (blk_cell BK176.out 1).trans rfl, (xce HB hw179_0), (xce HB hw179_1), (xce HB hw179_2), (xce HB hw181_0), (xce HB hw181_1), (xce HB hw181_2), (xce HB hw182_0), (xce HB hw182_1), (xce HB hw182_2)⟩ (fun hHeld => ?_)
             clear hK K
             refine norm_ (a' := ?_) ?_ ?_
             rotate_left
             ·show Act.put _ (some 34) _ = _
              simp only [Act.put, List.setIfInBounds_toArray, List.set_cons_zero, List.set_cons_succ, i64_w, i32_w]
              rfl
             refine pv_ 7 35 (h := ?_)
             refine pv_ 8 36 (h := ?_)
             refine pv_ 9 37 (h := ?_)
             refine pv_ 10 38 (h := ?_)
             refine pv_ 11 39 (h := ?_)
             refine pv_ 12 40 (h := ?_)
             refine pv_ 14 42 (h := ?_)
             refine pv_ 15 43 (h := ?_)
             refine pv_ 19 47 (h := ?_)
             refine pv_ 21 49 (h := ?_)
             refine tk_ 13 41 (h := ?_)
             refine pv_ 16 44 (h := ?_)
             refine pv_ 17 45 (h := ?_)
             refine tk_ 18 46 (h := ?_)
             refine tk_ 20 48 (h := ?_)
             refine pv_ 22 50 (h := ?_)
             refine pv_ 23 51 (h := ?_)
             refine tk_ 24 52 (h := ?_)
             refine pv_ 25 53 (h := ?_)
             refine pv_ 26 54 (h := ?_)
             refine pv_ 27 55 (h := ?_)
             refine done_ (done_of HT_.out (by kernel_rfl)) ?_
             try go_wp2
             go_ret
             exact ⟨by first | rfl | (simp [errW_none, errW_some] <;> rfl) | (simp only [← hji18]; first | rfl | (simp [errW_none, errW_some] <;> rfl)) | (simp [*, errW_none, errW_some] <;> rfl), xbg⟩
            ·rw [if_neg c21] at H
             have c21b0 : decide (((rd_T81 l0_1 x3_2).f0) ≤ ((rd_T81 l0_1 (ji18)).f0)) = false := decide_eq_false c21
             clear c21
             have H' := Aside0.mk H
             clear H
             have hcz24_0 : wr.cell? ⟨gb176, 0, none⟩ = some (.int .i64 a0_0) := (blk_cell BK176.out 0).trans rfl
             have hcz24_1 : wr.cell? ⟨gb176, 1, none⟩ = some (.slice A0_1 l0_1.length c0_1) := (blk_cell BK176.out 1).trans rfl
             have hfz24_0 := blk_frozen BK176.out 0
             have hfz24_1 := blk_frozen BK176.out 1
             try go_wp2
             replace BK176 := Aside0.mk (blk_drew BK176.out)
             replace HB := Aside0.mk (below_drew1 HB.out)
             have p179 : 0 ≤ (x3_2 : Int) := of_decide_eq_true (by first | (with_reducible assumption) | assumption)
             have q179 : x3_2 < (l0_1.length : Int) := of_decide_eq_true (by first | (with_reducible assumption) | assumption)
             obtain ⟨ad179, e179, hx179_0, hx179_1, hx179_2⟩ := at_T81 HR0_1.out x3_2 p179 q179
             have hw179_2 := hx179_2
             have hw179_1 := hx179_1
             have hw179_0 := hx179_0
             cases e179
             replace hx179_0 := xce HB hx179_0
             replace hx179_1 := xce HB hx179_1
             replace hx179_2 := xce HB hx179_2
             replace p179 := eq_true p179
             replace q179 := eq_true q179
             have p181 : 0 ≤ ((ji18) : Int) := of_decide_eq_true (by first | (with_reducible assumption) | assumption)
             have q181 : (ji18) < (l0_1.length : Int) := of_decide_eq_true (by first | (with_reducible assumption) | assumption)
             obtain ⟨ad181, e181, hx181_0, hx181_1, hx181_2⟩ := at_T81 HR0_1.out (ji18) p181 q181
             have hw181_2 := hx181_2
             have hw181_1 := hx181_1
             have hw181_0 := hx181_0
             obtain rfl : ad179 = ad181 := (by injection e181)
             replace hx181_0 := xce HB hx181_0
             replace hx181_1 := xce HB hx181_1
             replace hx181_2 := xce HB hx181_2
             replace p181 := eq_true p181
             replace q181 := eq_true q181
             have p182 : 0 ≤ (x3_2 : Int) := of_decide_eq_true (by first | (with_reducible assumption) | assumption)
             have q182 : x3_2 < (l0_1.length : Int) := of_decide_eq_true (by first | (with_reducible assumption) | assumption)
             obtain ⟨ad182, e182, hx182_0, hx182_1, hx182_2⟩ := at_T81 HR0_1.out x3_2 p182 q182
             have hw182_2 := hx182_2
             have hw182_1 := hx182_1
             have hw182_0 := hx182_0
             obtain rfl : ad179 = ad182 := (by injection e182)
             replace hx182_0 := xce HB hx182_0
             replace hx182_1 := xce HB hx182_1
             replace hx182_2 := xce HB hx182_2
             replace p182 := eq_true p182
             replace q182 := eq_true q182
             refine start_ (n := 28) (S := fun w' => w'.cell? ⟨gb176, 0, none⟩ = some (.int .i64 a0_0) ∧ w'.cell? ⟨gb176, 1, none⟩ = some (.slice (some ad179) l0_1.length c0_1) ∧ w'.cell? (ad179.add ((x3_2).toNat * 3)) = some (.int .i64 ((rd_T81 l0_1 x3_2).f0)) ∧ w'.cell? ⟨(ad179.add ((x3_2).toNat * 3)).block, (ad179.add ((x3_2).toNat * 3)).off + 1, none⟩ = some (.string ((rd_T81 l0_1 x3_2).f1)) ∧ w'.cell? ⟨(ad179.add ((x3_2).toNat * 3)).block, (ad179.add ((x3_2).toNat * 3)).off + 2, none⟩ = some (.string ((rd_T81 l0_1 x3_2).f2)) ∧ w'.cell? (ad179.add (((ji18)).toNat * 3)) = some (.int .i64 ((rd_T81 l0_1 (ji18)).f0)) ∧ w'.cell? ⟨(ad179.add (((ji18)).toNat * 3)).block, (ad179.add (((ji18)).toNat * 3)).off + 1, none⟩ = some (.string ((rd_T81 l0_1 (ji18)).f1)) ∧ w'.cell? ⟨(ad179.add (((ji18)).toNat * 3)).block, (ad179.add (((ji18)).toNat * 3)).off + 2, none⟩ = some (.string ((rd_T81 l0_1 (ji18)).f2)) ∧ w'.cell? (ad179.add ((x3_2).toNat * 3)) = some (.int .i64 ((rd_T81 l0_1 x3_2).f0)) ∧ w'.cell? ⟨(ad179.add ((x3_2).toNat * 3)).block, (ad179.add ((x3_2).toNat * 3)).off + 1, none⟩ = some (.string ((rd_T81 l0_1 x3_2).f1)) ∧ w'.cell? ⟨(ad179.add ((x3_2).toNat * 3)).block, (ad179.add ((x3_2).toNat * 3)).off + 2, none⟩ = some (.string ((rd_T81 l0_1 x3_2).f2))) (ds := []) #[false, false, false, false, false, false, false, false, false, false, false, false, false, false, false, false, false, false, false, false, false, false, false, false, false, false, false, false] (by kernel_rfl) rfl rfl ⟨(blk_cell BK176.out 0).trans rfl, (blk_cell BK176.out 1).trans rfl, (xce HB hw179_0), (xce HB hw179_1), (xce HB hw179_2), (xce HB hw181_0), (xce HB hw181_1), (xce HB hw181_2), (xce HB hw182_0), (xce HB hw182_1), (xce HB hw182_2)⟩ (fun hHeld => ?_); refine with_tabW spec_DiskOk.tab6 spec_DiskOk.bits6 (fun HT_ HW_ => ?_)
             generalize wr.drew = w25 at BK176 HB hx179_0 hx179_1 hx179_2 hx181_0 hx181_1 hx181_2 hx182_0 hx182_1 hx182_2 hHeld ⊢
             refine pv_ 0 28 (h := ?_)
             refine pv_ 2 30 (h := ?_)
             refine tk_ 1 29 (h := ?_)
             refine pv_ 3 31 (h := ?_)
             refine pv_ 4 32 (h := ?_)
             refine tk_ 5 33 (h := ?_)
             refine on_ 6 34 (h := fun K hK => ?_)
             refine goes_ Try.func104 (by kernel_rfl) rfl #[.int .i64 ((rd_T81 l0_1 x3_2).f0)] (by rfl) rfl rfl (by (try simp only [List.map_toArray, List.map_cons, List.map_nil]); first | done | rfl | (simp only [List.length_drop, List.length_take]; rfl)) ?_
             with_reducible refine (spec_l3Name.calls ((rd_T81 l0_1 x3_2).f0) true _ A15.out).mono ?_
             rintro e w' ⟨rfl, ⟨nd, rfl⟩⟩
             refine ⟨_, rfl, ?_⟩
             refine hK.out _ _ ⟨(blk_cell BK176.out 0).trans rfl, (blk_cell BK176.out 1).trans rfl, (xce HB hw179_0), (xce HB hw179_1), (xce HB hw179_2), (xce HB hw181_0), (xce HB hw181_1), (xce HB hw181_2), (xce HB hw182_0), (xce HB hw182_1), (xce HB hw182_2)⟩ (fun hHeld => ?_)
             clear hK K
             refine norm_ (a' := ?_) ?_ ?_
             rotate_left
             ·show Act.put _ (some 34) _ = _
              simp only [Act.put, List.setIfInBounds_toArray, List.set_cons_zero, List.set_cons_succ, i64_w, i32_w]
              rfl
             refine pv_ 7 35 (h := ?_)
             refine pv_ 8 36 (h := ?_)
             refine pv_ 9 37 (h := ?_)
             refine pv_ 10 38 (h := ?_)
             refine pv_ 11 39 (h := ?_)
             refine pv_ 12 40 (h := ?_)
             refine pv_ 14 42 (h := ?_)
             refine pv_ 15 43 (h := ?_)
             refine pv_ 19 47 (h := ?_)
             refine pv_ 21 49 (h := ?_)
             refine tk_ 13 41 (h := ?_)
             refine pv_ 16 44 (h := ?_)
             refine pv_ 17 45 (h := ?_)
             refine tk_ 18 46 (h := ?_)
             refine tk_ 20 48 (h := ?_)
             refine pv_ 22 50 (h := ?_)
             refine pv_ 23 51 (h := ?_)
             refine tk_ 24 52 (h := ?_)
             refine pv_ 25 53 (h := ?_)
             refine pv_ 26 54 (h := ?_)
             refine pv_ 27 55 (h := ?_)
             refine done_ (done_of HT_.out (by kernel_rfl)) ?_
             try go_wp2
             go_roundg k2
             case measure => have := HJ1.out; have := HK2.out; omega
             case rel => exact ⟨(wrap64 (x3_2 + 1)), (by first | rfl | (simp; done) | (simp [*]; done)), H', ⟨by have := HJ1.out; have := HK2.out; omega⟩, ⟨xblk⟩, ⟨xbg⟩⟩
           ·rw [if_neg c20] at H
            exact absurd H (by simp)
          ·rw [if_neg c19] at H
           exact absurd H (by simp)
         ·rw [if_neg c17] at H
          have c17b0 : decide (0 < x3_2) = false := decide_eq_false c17
          clear c17
          have H' := Aside0.mk H
          clear H
          have hcz26_0 : wr.cell? ⟨gb176, 0, none⟩ = some (.int .i64 a0_0) := (blk_cell BK176.out 0).trans rfl
          have hcz26_1 : wr.cell? ⟨gb176, 1, none⟩ = some (.slice A0_1 l0_1.length c0_1) := (blk_cell BK176.out 1).trans rfl
          have hfz26_0 := blk_frozen BK176.out 0
          have hfz26_1 := blk_frozen BK176.out 1
          try go_wp2
          replace BK176 := Aside0.mk (blk_drew BK176.out)
          replace HB := Aside0.mk (below_drew1 HB.out)
          have p179 : 0 ≤ (x3_2 : Int) := of_decide_eq_true (by first | (with_reducible assumption) | assumption)
          have q179 : x3_2 < (l0_1.length : Int) := of_decide_eq_true (by first | (with_reducible assumption) | assumption)
          obtain ⟨ad179, e179, hx179_0, hx179_1, hx179_2⟩ := at_T81 HR0_1.out x3_2 p179 q179
          have hw179_2 := hx179_2
          have hw179_1 := hx179_1
          have hw179_0 := hx179_0
          cases e179
          replace hx179_0 := xce HB hx179_0
          replace hx179_1 := xce HB hx179_1
          replace hx179_2 := xce HB hx179_2
          replace p179 := eq_true p179
          replace q179 := eq_true q179
          refine start_ (n := 28) (S := fun w' => w'.cell? ⟨gb176, 0, none⟩ = some (.int .i64 a0_0) ∧ w'.cell? ⟨gb176, 1, none⟩ = some (.slice (some ad179) l0_1.length c0_1) ∧ w'.cell? (ad179.add ((x3_2).toNat * 3)) = some (.int .i64 ((rd_T81 l0_1 x3_2).f0)) ∧ w'.cell? ⟨(ad179.add ((x3_2).toNat * 3)).block, (ad179.add ((x3_2).toNat * 3)).off + 1, none⟩ = some (.string ((rd_T81 l0_1 x3_2).f1)) ∧ w'.cell? ⟨(ad179.add ((x3_2).toNat * 3)).block, (ad179.add ((x3_2).toNat * 3)).off + 2, none⟩ = some (.string ((rd_T81 l0_1 x3_2).f2))) (ds := []) #[false, false, false, false, false, false, false, false, false, false, false, false, false, false, false, false, false, false, false, false, false, false, false, false, false, false, false, false] (by kernel_rfl) rfl rfl ⟨(blk_cell BK176.out 0).trans rfl, (blk_cell BK176.out 1).trans rfl, (xce HB hw179_0), (xce HB hw179_1), (xce HB hw179_2)⟩ (fun hHeld => ?_); refine with_tabW spec_DiskOk.tab6 spec_DiskOk.bits6 (fun HT_ HW_ => ?_)
          generalize wr.drew = w27 at BK176 HB hx179_0 hx179_1 hx179_2 hHeld ⊢
          refine pv_ 0 28 (h := ?_)
          refine pv_ 2 30 (h := ?_)
          refine tk_ 1 29 (h := ?_)
          refine pv_ 3 31 (h := ?_)
          refine pv_ 4 32 (h := ?_)
          refine tk_ 5 33 (h := ?_)
          refine on_ 6 34 (h := fun K hK => ?_)
          refine goes_ Try.func104 (by kernel_rfl) rfl #[.int .i64 ((rd_T81 l0_1 x3_2).f0)] (by rfl) rfl rfl (by (try simp only [List.map_toArray, List.map_cons, List.map_nil]); first | done | rfl | (simp only [List.length_drop, List.length_take]; rfl)) ?_
          with_reducible refine (spec_l3Name.calls ((rd_T81 l0_1 x3_2).f0) true _ A15.out).mono ?_
          rintro e w' ⟨rfl, ⟨nd, rfl⟩⟩
          refine ⟨_, rfl, ?_⟩
          refine hK.out _ _ ⟨(blk_cell BK176.out 0).trans rfl, (blk_cell BK176.out 1).trans rfl, (xce HB hw179_0), (xce HB hw179_1), (xce HB hw179_2)⟩ (fun hHeld => ?_)
          clear hK K
          refine norm_ (a' := ?_) ?_ ?_
          rotate_left
          ·show Act.put _ (some 34) _ = _
           simp only [Act.put, List.setIfInBounds_toArray, List.set_cons_zero, List.set_cons_succ, i64_w, i32_w]
           rfl
          refine pv_ 7 35 (h := ?_)
          refine pv_ 8 36 (h := ?_)
          refine pv_ 9 37 (h := ?_)
          refine pv_ 10 38 (h := ?_)
          refine pv_ 11 39 (h := ?_)
          refine pu_ 12 40 (h := ?_)
          refine pu_ 13 41 (h := ?_)
          refine pu_ 14 42 (h := ?_)
          refine pu_ 15 43 (h := ?_)
          refine pu_ 16 44 (h := ?_)
          refine pu_ 17 45 (h := ?_)
          refine pu_ 18 46 (h := ?_)
          refine pu_ 19 47 (h := ?_)
          refine pu_ 20 48 (h := ?_)
          refine pu_ 21 49 (h := ?_)
          refine pu_ 22 50 (h := ?_)
          refine pu_ 23 51 (h := ?_)
          refine pu_ 24 52 (h := ?_)
          refine pu_ 25 53 (h := ?_)
          refine pv_ 26 54 (h := ?_)
          refine pv_ 27 55 (h := ?_)
          refine done_ (done_of HT_.out (by kernel_rfl)) ?_
          try go_wp2
          go_roundg k2
          case measure => have := HJ1.out; have := HK2.out; omega
          case rel => exact ⟨(wrap64 (x3_2 + 1)), (by first | rfl | (simp; done) | (simp [*]; done)), H', ⟨by have := HJ1.out; have := HK2.out; omega⟩, ⟨xblk⟩, ⟨xbg⟩⟩
        ·replace c16 := Bool.eq_false_iff.mpr c16
         subst c16
         have H1 : (some false) = some r := by rw [if_neg (show ¬ (false = true) by decide)] at H; exact H
         clear H
         have H := H1
         clear H1
         obtain rfl := Option.some.inj H
         have hcz28_0 : wr.cell? ⟨gb176, 0, none⟩ = some (.int .i64 a0_0) := (blk_cell BK176.out 0).trans rfl
         have hcz28_1 : wr.cell? ⟨gb176, 1, none⟩ = some (.slice A0_1 l0_1.length c0_1) := (blk_cell BK176.out 1).trans rfl
         have hfz28_0 := blk_frozen BK176.out 0
         have hfz28_1 := blk_frozen BK176.out 1
         try go_wp2
         replace BK176 := Aside0.mk (blk_drew BK176.out)
         replace HB := Aside0.mk (below_drew1 HB.out)
         have p179 : 0 ≤ (x3_2 : Int) := of_decide_eq_true (by first | (with_reducible assumption) | assumption)
         have q179 : x3_2 < (l0_1.length : Int) := of_decide_eq_true (by first | (with_reducible assumption) | assumption)
         obtain ⟨ad179, e179, hx179_0, hx179_1, hx179_2⟩ := at_T81 HR0_1.out x3_2 p179 q179
         have hw179_2 := hx179_2
         have hw179_1 := hx179_1
         have hw179_0 := hx179_0
         cases e179
         replace hx179_0 := xce HB hx179_0
         replace hx179_1 := xce HB hx179_1
         replace hx179_2 := xce HB hx179_2
         replace p179 := eq_true p179
         replace q179 := eq_true q179
         refine start_ (n := 28) (S := fun w' => w'.cell? ⟨gb176, 0, none⟩ = some (.int .i64 a0_0) ∧ w'.cell? ⟨gb176, 1, none⟩ = some (.slice (some ad179) l0_1.length c0_1) ∧ w'.cell? (ad179.add ((x3_2).toNat * 3)) = some (.int .i64 ((rd_T81 l0_1 x3_2).f0)) ∧ w'.cell? ⟨(ad179.add ((x3_2).toNat * 3)).block, (ad179.add ((x3_2).toNat * 3)).off + 1, none⟩ = some (.string ((rd_T81 l0_1 x3_2).f1)) ∧ w'.cell? ⟨(ad179.add ((x3_2).toNat * 3)).block, (ad179.add ((x3_2).toNat * 3)).off + 2, none⟩ = some (.string ((rd_T81 l0_1 x3_2).f2))) (ds := []) #[false, false, false, false, false, false, false, false, false, false, false, false, false, false, false, false, false, false, false, false, false, false, false, false, false, false, false, false] (by kernel_rfl) rfl rfl ⟨(blk_cell BK176.out 0).trans rfl, (blk_cell BK176.out 1).trans rfl, (xce HB hw179_0), (xce HB hw179_1), (xce HB hw179_2)⟩ (fun hHeld => ?_); refine with_tabW spec_DiskOk.tab6 spec_DiskOk.bits6 (fun HT_ HW_ => ?_)
         generalize wr.drew = w29 at BK176 HB hx179_0 hx179_1 hx179_2 hHeld ⊢
         refine pv_ 0 28 (h := ?_)
         refine pv_ 2 30 (h := ?_)
         refine tk_ 1 29 (h := ?_)
         refine pv_ 3 31 (h := ?_)
         refine pv_ 4 32 (h := ?_)
         refine tk_ 5 33 (h := ?_)
         refine on_ 6 34 (h := fun K hK => ?_)
         refine goes_ Try.func104 (by kernel_rfl) rfl #[.int .i64 ((rd_T81 l0_1 x3_2).f0)] (by rfl) rfl rfl (by (try simp only [List.map_toArray, List.map_cons, List.map_nil]); first | done | rfl | (simp only [List.length_drop, List.length_take]; rfl)) ?_
         with_reducible refine (spec_l3Name.calls ((rd_T81 l0_1 x3_2).f0) false _ A15.out).mono ?_
         rintro e w' ⟨rfl, ⟨nd, rfl⟩⟩
         refine ⟨_, rfl, ?_⟩
         refine hK.out _ _ ⟨(blk_cell BK176.out 0).trans rfl, (blk_cell BK176.out 1).trans rfl, (xce HB hw179_0), (xce HB hw179_1), (xce HB hw179_2)⟩ (fun hHeld => ?_)
         clear hK K
         refine norm_ (a' := ?_) ?_ ?_
         rotate_left
         ·show Act.put _ (some 34) _ = _
          simp only [Act.put, List.setIfInBounds_toArray, List.set_cons_zero, List.set_cons_succ, i64_w, i32_w]
          rfl
         refine pv_ 7 35 (h := ?_)
         refine pv_ 8 36 (h := ?_)
         refine pu_ 9 37 (h := ?_)
         refine pu_ 10 38 (h := ?_)
         refine pu_ 11 39 (h := ?_)
         refine pu_ 12 40 (h := ?_)
         refine pu_ 13 41 (h := ?_)
         refine pu_ 14 42 (h := ?_)
         refine pu_ 15 43 (h := ?_)
         refine pu_ 16 44 (h := ?_)
         refine pu_ 17 45 (h := ?_)
         refine pu_ 18 46 (h := ?_)
         refine pu_ 19 47 (h := ?_)
         refine pu_ 20 48 (h := ?_)
         refine pu_ 21 49 (h := ?_)
         refine pu_ 22 50 (h := ?_)
         refine pu_ 23 51 (h := ?_)
         refine pu_ 24 52 (h := ?_)
         refine pu_ 25 53 (h := ?_)
         refine pu_ 26 54 (h := ?_)
         refine pv_ 27 55 (h := ?_)
         refine done_ (done_of HT_.out (by kernel_rfl)) ?_
         try go_wp2
         go_ret
         exact ⟨by first | rfl | (simp [errW_none, errW_some] <;> rfl) | (simp [*, errW_none, errW_some] <;> rfl), xbg⟩
       ·rw [if_neg c14] at H
        exact absurd H (by simp)
      ·rw [if_neg c13] at H
       have c13b0 : decide (x3_2 < (l0_1.length : Int)) = false := decide_eq_false c13
       clear c13
       obtain rfl := Option.some.inj H
       have hcz30_0 : wr.cell? ⟨gb176, 0, none⟩ = some (.int .i64 a0_0) := (blk_cell BK176.out 0).trans rfl
       have hcz30_1 : wr.cell? ⟨gb176, 1, none⟩ = some (.slice A0_1 l0_1.length c0_1) := (blk_cell BK176.out 1).trans rfl
       have hfz30_0 := blk_frozen BK176.out 0
       have hfz30_1 := blk_frozen BK176.out 1
       go_wp2
       go_ret
       exact ⟨by first | rfl | (simp [errW_none, errW_some] <;> rfl) | (simp [*, errW_none, errW_some] <;> rfl), xbg⟩

/-! ### spec_l3Find: function 105 -/
def spec_l3Find.l0 : Nat → Int → Int → Int → List (S81) → Option (Int)
 | 0, _, _, _, _ => none
 | k + 1, x1, x5, x184000, x184001 => if x5 < (x184001.length : Int) then (if 0 ≤ x5 then (if ((rd_T81 x184001 x5).f0) = x1 then (some x5) else (spec_l3Find.l0 k x1 (wrap64 (x5 + 1)) x184000 x184001)) else (none)) else (some (-1))
def spec_l3Find.f (k : Nat) (a0_0 : Int) (l0_1 : List (S81)) (a1 : Int) : Option (Int) := spec_l3Find.l0 k a1 0 a0_0 l0_1
set_option maxRecDepth 100000 in
theorem spec_l3Find.mono_l : ∀ k, (∀ y0 y1 y2 y3, LeO (spec_l3Find.l0 k y0 y1 y2 y3) (spec_l3Find.l0 (k + 1) y0 y1 y2 y3))
 | 0 => fun _ _ _ _ r h => by simp [spec_l3Find.l0] at h
 | k + 1 => by
  have ih0 := spec_l3Find.mono_l k
  ·intro y0 y1 y2 y3
   unfold spec_l3Find.l0
   repeat' first
   | (with_reducible exact ih0 _ _ _ _)
   | (with_reducible exact LeO.refl _)
   | (with_reducible exact LeO.none _)
   | (with_reducible refine LeO.ite ?_ ?_)
   | (with_reducible refine LeO.bind ?_ (fun _ => ?_))
   | exact ih0 _ _ _ _
   | exact LeO.none _
   | refine LeO.ite ?_ ?_
   | refine LeO.bind ?_ (fun _ => ?_)
theorem spec_l3Find.mono : ∀ a0 a1 a2 k, LeO (spec_l3Find.f k a0 a1 a2) (spec_l3Find.f (k + 1) a0 a1 a2) := by
 intro a0 a1 a2 k
 have ih0 := spec_l3Find.mono_l k
 unfold spec_l3Find.f
 repeat' first
  | (with_reducible exact ih0 _ _ _ _)
  | (with_reducible exact LeO.refl _)
  | (with_reducible exact LeO.none _)
  | (with_reducible refine LeO.ite ?_ ?_)
  | (with_reducible refine LeO.bind ?_ (fun _ => ?_))
  | exact ih0 _ _ _ _
  | exact LeO.none _
  | refine LeO.ite ?_ ?_
  | refine LeO.bind ?_ (fun _ => ?_)
set_option maxHeartbeats 8000000 in
set_option maxRecDepth 100000 in
theorem spec_l3Find.calls (k : Nat) (a0_0 : Int) (A0_1 : Option Addr) (c0_1 : Nat) (l0_1 : List (S81)) (a1 : Int) (r : Int) (w : World) (hr0_1 : Kd.C k81 w A0_1 l0_1.length l0_1) (hc0_1 : l0_1.length ≤ c0_1) (h : spec_l3Find.f k a0_0 l0_1 a1 = some r) :
 Calls Try.prog 105 #[.agg #[.int .i64 a0_0, .slice A0_1 l0_1.length c0_1], .int .i64 a1] w fun e w' => e = .returned (.int .i64 r) ∧ Below w.heap.size w w' := by
 have hu63 := Try.underlying63
 have HR0_1 := Aside0.mk hr0_1
 have HC0_1 := Aside0.mk hc0_1
 clear hr0_1 hc0_1
 have HB := Aside0.mk (Below.refl w.heap.size w)
 have H : (spec_l3Find.l0 k a1 0 a0_0 l0_1) = some r := h
 clear h
 have H' := Aside0.mk H
 clear H
 go_enter Try.func105, Try.ntmps105
 go_wp2_with (first | ((with_reducible refine gate_dst (N := 2) rfl ?_); refine box_event ?hg (N := 2) ?hd (cs := #[.int .i64 a0_0, .slice A0_1 l0_1.length c0_1]) (t := 63) ?hr ?_; (case hd => rfl); (case hg => rfl); (case hr => first | (go_simp; done) | (go_simp; rfl)); intro gb183 hg w3 hbox hb; have BK183 := Aside0.mk (hbox); have GW183 := Aside0.mk (xge hg); have GE183 := Aside0.mk (xge hg); replace HB := xbs hb; clear hb hbox hg))
 go_loopg [5] k (fun kq v5 w' => ∃ (x5_1 : Int), v5 = .int .i64 x5_1 ∧ Aside0 (spec_l3Find.l0 kq a1 x5_1 a0_0 l0_1 = some r) ∧ Aside0 (kq ≤ k) ∧ Aside0 (w'.heap[gb183]? = some (.cells #[.int .i64 a0_0, (.slice A0_1 l0_1.length c0_1)] 63 (0, 0))) ∧ Aside0 (Below w.heap.size w w'))
 case atStart => exact ⟨(0), (by first | rfl | (simp; done) | (simp [*]; done)), H', ⟨Nat.le_refl _⟩, ⟨xblk⟩, ⟨xbg⟩⟩
 case round =>
  clear H'
  try clear c1
  try clear p2
  obtain ⟨x5_1, rfl, HA, HK1, BK183, HB⟩ := hrel
  cases gk with
  | zero => exact absurd HA.out (by simp [spec_l3Find.l0])
  | succ k1 =>
   have H := HA.out
   clear HA
   simp only [spec_l3Find.l0] at H
   by_cases c4 : x5_1 < (l0_1.length : Int)
   ·rw [if_pos c4] at H
    have c4b0 : decide (x5_1 < (l0_1.length : Int)) = true := decide_eq_true c4
    clear c4
    by_cases c5 : 0 ≤ x5_1
    ·rw [if_pos c5] at H
     have c5b0 : decide (0 ≤ x5_1) = true := decide_eq_true c5
     clear c5
     by_cases c6 : ((rd_T81 l0_1 x5_1).f0) = a1
     ·rw [if_pos c6] at H
      have c6b0 : (((rd_T81 l0_1 x5_1).f0) == a1) = true := beq_iff_eq.mpr c6
      have c6b1 : (((rd_T81 l0_1 x5_1).f0) != a1) = false := bne_eq_false_iff_eq.mpr c6
      clear c6
      obtain rfl := Option.some.inj H
      have hcz7_0 : wr.cell? ⟨gb183, 0, none⟩ = some (.int .i64 a0_0) := (blk_cell BK183.out 0).trans rfl
      have hcz7_1 : wr.cell? ⟨gb183, 1, none⟩ = some (.slice A0_1 l0_1.length c0_1) := (blk_cell BK183.out 1).trans rfl
      have hfz7_0 := blk_frozen BK183.out 0
      have hfz7_1 := blk_frozen BK183.out 1
      have p184 : 0 ≤ (x5_1 : Int) := of_decide_eq_true (by first | (with_reducible assumption) | assumption)
      have q184 : x5_1 < (l0_1.length : Int) := of_decide_eq_true (by first | (with_reducible assumption) | assumption)
      obtain ⟨ad184, e184, hx184_0, hx184_1, hx184_2⟩ := at_T81 HR0_1.out x5_1 p184 q184
      cases e184
      replace hx184_0 := xce HB hx184_0
      replace hx184_1 := xce HB hx184_1
      replace hx184_2 := xce HB hx184_2
      replace p184 := eq_true p184
      replace q184 := eq_true q184
      go_wp2
      go_ret
      exact ⟨by first | rfl | (simp [errW_none, errW_some] <;> rfl) | (simp [*, errW_none, errW_some] <;> rfl), xbg⟩
     ·rw [if_neg c6] at H
      have c6b0 : (((rd_T81 l0_1 x5_1).f0) == a1) = false := beq_eq_false_iff_ne.mpr c6
      have c6b1 : (((rd_T81 l0_1 x5_1).f0) != a1) = true := bne_iff_ne.mpr c6
      have H' := Aside0.mk H
      clear H
      have hcz8_0 : wr.cell? ⟨gb183, 0, none⟩ = some (.int .i64 a0_0) := (blk_cell BK183.out 0).trans rfl
      have hcz8_1 : wr.cell? ⟨gb183, 1, none⟩ = some (.slice A0_1 l0_1.length c0_1) := (blk_cell BK183.out 1).trans rfl
      have hfz8_0 := blk_frozen BK183.out 0
      have hfz8_1 := blk_frozen BK183.out 1
      have p184 : 0 ≤ (x5_1 : Int) := of_decide_eq_true (by first | (with_reducible assumption) | assumption)
      have q184 : x5_1 < (l0_1.length : Int) := of_decide_eq_true (by first | (with_reducible assumption) | assumption)
      obtain ⟨ad184, e184, hx184_0, hx184_1, hx184_2⟩ := at_T81 HR0_1.out x5_1 p184 q184
      cases e184
      replace hx184_0 := xce HB hx184_0
      replace hx184_1 := xce HB hx184_1
      replace hx184_2 := xce HB hx184_2
      replace p184 := eq_true p184
      replace q184 := eq_true q184
      go_wp2
      go_roundg k1
      case measure => have := HK1.out; omega
      case rel => exact ⟨(wrap64 (x5_1 + 1)), (by first | rfl | (simp; done) | (simp [*]; done)), H', ⟨by have := HK1.out; omega⟩, ⟨xblk⟩, ⟨xbg⟩⟩
    ·rw [if_neg c5] at H
     exact absurd H (by simp)
   ·rw [if_neg c4] at H
    have c4b0 : decide (x5_1 < (l0_1.length : Int)) = false := decide_eq_false c4
    clear c4
    obtain rfl := Option.some.inj H
    have hcz9_0 : wr.cell? ⟨gb183, 0, none⟩ = some (.int .i64 a0_0) := (blk_cell BK183.out 0).trans rfl
    have hcz9_1 : wr.cell? ⟨gb183, 1, none⟩ = some (.slice A0_1 l0_1.length c0_1) := (blk_cell BK183.out 1).trans rfl
    have hfz9_0 := blk_frozen BK183.out 0
    have hfz9_1 := blk_frozen BK183.out 1
    go_wp2
    go_ret
    exact ⟨by first | rfl | (simp [errW_none, errW_some] <;> rfl) | (simp [*, errW_none, errW_some] <;> rfl), xbg⟩

end Go.Proofs.Ytkfoojknjmgjdaa.QFnDisk
