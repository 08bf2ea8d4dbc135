-- A walk, by a program of this session.
import Derived.Test.YtnjpfllmcmomoaaQFnExactDiskMovex0
import Derived.Test.YtnjpfllmcmomoaaQFnExactDiskMovex2
namespace Go.Proofs.Ytnjpfllmcmomoaa.QFnExactDiskMove
open Go.RowKit Go.Proofs.YtnjpfllmcmomoaaW.PrintWords Go.Proofs.YtnjpfllmcmomoaaW.PrintLast Go.Proofs.YtnjpfllmcmomoaaW.PrintMore
attribute [local go_sem] max2_int min2_int max_two min_two max_three min_three max_four min_four   -- for this text's walks alone
set_option linter.unusedVariables false
set_option linter.unusedSimpArgs false

/-! ### spec_DiskOk: function 106 -/
mutual
def spec_DiskOk.j0 : Nat → Bool → Int → List (S134) → Option (Bool)
 | 0, _, _, _ => none
 | k + 1, x20, x154000, x154001 => if x20 = true then (some false) else (spec_DiskOk.l0 k 0 x154000 x154001)
def spec_DiskOk.l0 : Nat → Int → Int → List (S134) → Option (Bool)
 | 0, _, _, _ => none
 | k + 1, x3, x154000, x154001 => if x3 < (x154001.length : Int) then (if 0 ≤ x3 then ((spec_l3Name.f ((rd_T134 x154001 x3).f0)).bind fun t157 => (if t157 = true then (if x3 > 0 then (if 0 ≤ (wrap64 (x3 - 1)) then (if (wrap64 (x3 - 1)) < (x154001.length : Int) then (if ((rd_T134 x154001 (wrap64 (x3 - 1))).f0) ≥ ((rd_T134 x154001 x3).f0) then (some false) else (spec_DiskOk.l0 k (wrap64 (x3 + 1)) x154000 x154001)) else (none)) else (none)) else (spec_DiskOk.l0 k (wrap64 (x3 + 1)) x154000 x154001)) else (some false))) else (none)) else (some true)
end
def spec_DiskOk.f (k : Nat) (a0_0 : Int) (l0_1 : List (S134)) : Option (Bool) := (spec_l1In.f a0_0 0 40000).bind fun t154 => (if t154 = true then (if (l0_1.length : Int) > 8 then (spec_DiskOk.j0 k true a0_0 l0_1) else ((spec_l3Size.f k a0_0 l0_1).bind fun t155 => (spec_DiskOk.j0 k (decide (t155 > a0_0)) a0_0 l0_1))) else (spec_DiskOk.j0 k true a0_0 l0_1))
set_option maxRecDepth 100000 in
theorem spec_DiskOk.mono_l : ∀ k, (∀ y0 y1 y2, LeO (spec_DiskOk.j0 k y0 y1 y2) (spec_DiskOk.j0 (k + 1) y0 y1 y2)) ∧ (∀ y0 y1 y2, LeO (spec_DiskOk.l0 k y0 y1 y2) (spec_DiskOk.l0 (k + 1) y0 y1 y2))
 | 0 => ⟨fun _ _ _ r h => by simp [spec_DiskOk.j0] at h, fun _ _ _ r h => by simp [spec_DiskOk.l0] at h⟩
 | k + 1 => by
  obtain ⟨ih0, ih1⟩ := spec_DiskOk.mono_l k
  refine ⟨?_, ?_⟩
  ·intro y0 y1 y2
   unfold spec_DiskOk.j0
   repeat' first
   | (with_reducible exact ih0 _ _ _)
   | (with_reducible exact ih1 _ _ _)
   | (with_reducible exact spec_l3Size.mono _ _ _)
   | (with_reducible exact LeO.refl _)
   | (with_reducible exact LeO.none _)
   | (with_reducible refine LeO.ite ?_ ?_)
   | (with_reducible refine LeO.bind ?_ (fun _ => ?_))
   | exact ih0 _ _ _
   | exact ih1 _ _ _
   | exact spec_l3Size.mono _ _ _
   | exact LeO.none _
   | refine LeO.ite ?_ ?_
   | refine LeO.bind ?_ (fun _ => ?_)
  ·intro y0 y1 y2
   unfold spec_DiskOk.l0
   repeat' first
   | (with_reducible exact ih0 _ _ _)
   | (with_reducible exact ih1 _ _ _)
   | (with_reducible exact spec_l3Size.mono _ _ _)
   | (with_reducible exact LeO.refl _)
   | (with_reducible exact LeO.none _)
   | (with_reducible refine LeO.ite ?_ ?_)
   | (with_reducible refine LeO.bind ?_ (fun _ => ?_))
   | exact ih0 _ _ _
   | exact ih1 _ _ _
   | exact spec_l3Size.mono _ _ _
   | exact LeO.none _
   | refine LeO.ite ?_ ?_
   | refine LeO.bind ?_ (fun _ => ?_)
theorem spec_DiskOk.mono : ∀ a0 a1 k, LeO (spec_DiskOk.f k a0 a1) (spec_DiskOk.f (k + 1) a0 a1) := by
 intro a0 a1 k
 obtain ⟨ih0, ih1⟩ := spec_DiskOk.mono_l k
 unfold spec_DiskOk.f
 repeat' first
  | (with_reducible exact ih0 _ _ _)
  | (with_reducible exact ih1 _ _ _)
  | (with_reducible exact spec_l3Size.mono _ _ _)
  | (with_reducible exact LeO.refl _)
  | (with_reducible exact LeO.none _)
  | (with_reducible refine LeO.ite ?_ ?_)
  | (with_reducible refine LeO.bind ?_ (fun _ => ?_))
  | exact ih0 _ _ _
  | exact ih1 _ _ _
  | exact spec_l3Size.mono _ _ _
  | exact LeO.none _
  | refine LeO.ite ?_ ?_
  | refine LeO.bind ?_ (fun _ => ?_)
def spec_DiskOk.T1 : Bool × List (List Nat × List Nat) := (true, [([], []), ([0], [0]), ([1], [1]), ([2], [2]), ([3, 2], [3]), ([4], [4]), ([5, 4], [4, 5]), ([6, 4], [4, 6]), ([7, 4], [4, 7]), ([4, 8], [4, 8]), ([9, 4], [9]), ([10], [10]), ([11, 10, 10], [10, 11]), ([10], [10]), ([13, 10], [10, 13]), ([12, 14, 10], [10, 12, 14]), ([10, 15], [10, 15])])
def spec_DiskOk.B1 : List Nat := [0, 1, 3, 7, 15, 31, 63, 127, 255, 511, 1023, 2047, 4095, 2047, 10239, 32767, 65535]
theorem spec_DiskOk.tab1 : rtab .any (opsOf Try.f106 1) = spec_DiskOk.T1 := by kernel_rfl
theorem spec_DiskOk.bits1 : waitsOk spec_DiskOk.T1.2 spec_DiskOk.B1 = true := by kernel_rfl
def spec_DiskOk.T6 : Bool × List (List Nat × List Nat) := (true, [([], []), ([0], [0]), ([], []), ([1, 2], [1, 2]), ([3], [3]), ([4], [4]), ([5], [5]), ([6], [6]), ([7, 6], [7]), ([8], [8]), ([9, 8], [8, 9]), ([10, 8, 8], [8, 10]), ([11], [11]), ([12, 11], [11, 12]), ([11], [11]), ([14, 11], [11, 14]), ([13, 15, 11], [11, 13, 15]), ([16, 11], [11, 16]), ([17, 11], [11, 17]), ([11], [11]), ([19, 11], [11, 19]), ([11], [11]), ([20, 21, 11], [11, 20, 21]), ([22, 11], [11, 22]), ([23, 11], [11, 23]), ([18, 24, 11], [11, 18, 24]), ([11, 25, 8], [8, 11, 25]), ([8, 26], [8, 26])])
def spec_DiskOk.B6 : List Nat := [0, 1, 0, 7, 15, 31, 63, 127, 255, 511, 1023, 2047, 4095, 8191, 4095, 20479, 65535, 131071, 262143, 4095, 528383, 4095, 3674111, 7868415, 16257023, 33554431, 67108863, 134217727]
theorem spec_DiskOk.tab6 : rtab .any (opsOf Try.f106 6) = spec_DiskOk.T6 := by kernel_rfl
theorem spec_DiskOk.bits6 : waitsOk spec_DiskOk.T6.2 spec_DiskOk.B6 = true := by kernel_rfl
set_option maxHeartbeats 8000000 in
set_option maxRecDepth 100000 in
theorem spec_DiskOk.calls (k : Nat) (a0_0 : Int) (A0_1 : Option Addr) (c0_1 : Nat) (l0_1 : List (S134)) (r : Bool) (w : World) (hr0_1 : Kd.C k134 w A0_1 l0_1.length l0_1) (hc0_1 : l0_1.length ≤ c0_1) (h : spec_DiskOk.f k a0_0 l0_1 = some r) :
 Calls Try.prog 106 #[.agg #[.int .i64 a0_0, .slice A0_1 l0_1.length c0_1]] w fun e w' => e = .returned (.bool r) ∧ Below w.heap.size w w' := by
 have hu70 := Try.underlying70
 have HR0_1 := aM hr0_1
 have HC0_1 := aM hc0_1
 clear hr0_1 hc0_1
 have HB := aM (Below.refl w.heap.size w)
 have H : ((spec_l1In.f a0_0 0 40000).bind fun t154 => (if t154 = true then (if (l0_1.length : Int) > 8 then (spec_DiskOk.j0 k true a0_0 l0_1) else ((spec_l3Size.f k a0_0 l0_1).bind fun t155 => (spec_DiskOk.j0 k (decide (t155 > a0_0)) a0_0 l0_1))) else (spec_DiskOk.j0 k true a0_0 l0_1))) = some r := h
 clear h
 have HC2 := aM H
 clear H
 go_enter Try.func106, Try.ntmps106
 go_upto_region 1 with (first | ((with_reducible refine gate_dst (N := 1) rfl ?_); (try (refine gate_guard (by rfl) ?_; dsimp only)); refine box_event ?hg (N := 1) ?hd (cs := #[.int .i64 a0_0, .slice A0_1 l0_1.length c0_1]) (t := 70) ?hr ?_; (case hd => rfl); (case hg => rfl); (case hr => first | (go_simp; done) | (go_simp; rfl)); intro gb153 hg w3 hbox hb; have BK153 := aM (hbox); have GW153 := aM (xge hg); have GE153 := aM (xge hg); replace HB := xbs hb; clear hb hbox hg))
 (try simp only [Act.put, List.setIfInBounds_toArray, List.set_cons_zero, List.set_cons_succ])
 go_cut [20] (fun v20 wc => ∃ (kq : Nat) (x20_1 : Bool), v20 = .bool x20_1 ∧ Aside0 (spec_DiskOk.j0 kq x20_1 a0_0 l0_1 = some r) ∧ Aside0 (kq ≤ k) ∧ Aside0 (wc.heap[gb153]? = some (.cells #[.int .i64 a0_0, (.slice A0_1 l0_1.length c0_1)] 70 (0, 0))) ∧ Aside0 (Below w.heap.size w wc))
 case first =>
  have H := HC2.out; clear HC2; replace H := Option.bind_eq_some_iff.mp H
  obtain ⟨t154, A40, H⟩ := H
  replace H : (if t154 = true then (if (l0_1.length : Int) > 8 then (spec_DiskOk.j0 k true a0_0 l0_1) else ((spec_l3Size.f k a0_0 l0_1).bind fun t155 => (spec_DiskOk.j0 k (decide (t155 > a0_0)) a0_0 l0_1))) else (spec_DiskOk.j0 k true a0_0 l0_1)) = some r := H; have A4 := aM A40; clear A40
  by_cases c5 : t154 = true
  ·subst c5
   have H1 : (if (l0_1.length : Int) > 8 then (spec_DiskOk.j0 k true a0_0 l0_1) else ((spec_l3Size.f k a0_0 l0_1).bind fun t155 => (spec_DiskOk.j0 k (decide (t155 > a0_0)) a0_0 l0_1))) = some r := by rw [if_pos rfl] at H; exact H
   clear H; have H := H1; clear H1
   by_cases c6 : (l0_1.length : Int) > 8
   ·rw [if_pos c6] at H
    have c6b0 : decide (8 < (l0_1.length : Int)) = true := decide_eq_true c6; have c6b1 : decide (8 < l0_1.length) = true := decide_eq_true (by omega); clear c6
    (first | rw [c6b0] | (simp only [i64_w, i32_w]; rw [c6b0]) | skip)
    have H' := aM H
    clear H
    try go_wp2
    replace BK153 := aM (blk_drew BK153.out); replace HB := aM (below_drew1 HB.out)
    refine start_ (n := 17) (S := fun w' => w'.cell? ⟨gb153, 0, none⟩ = some (.int .i64 a0_0) ∧ w'.cell? ⟨gb153, 1, none⟩ = some (.slice A0_1 l0_1.length c0_1)) (ds := []) #[false, false, false, false, false, false, false, false, false, false, false, false, false, false, false, false, false] (by kernel_rfl) rfl rfl ⟨xc BK153 0 rfl, xc BK153 1 rfl⟩ (fun hHeld => ?_); refine with_tabW spec_DiskOk.tab1 spec_DiskOk.bits1 (fun HT_ HW_ => ?_)
    generalize w3.drew = w7 at BK153 HB hHeld ⊢
    refine pv_ 0 4 (h := ?_)
    refine tk_ 1 5 (h := ?_)
    refine on_ 2 6 (h := fun K hK => ?_)
    refine goesY Try.func87 #[.int .i64 a0_0, .int .i64 0, .int .i64 40000] ?_
    with_reducible refine (spec_l1In.calls a0_0 0 40000 true _ A4.out).mono ?_
    rintro e w' ⟨rfl, ⟨nd, rfl⟩⟩
    refine ⟨_, rfl, ?_⟩
    refine hK.out _ _ ⟨xc BK153 0 rfl, xc BK153 1 rfl⟩ (fun hHeld => ?_)
    clear hK K
    refine norm_ (a' := ?_) ?_ ?_
    rotate_left
    ·show Act.put _ (some 6) _ = _
     simp only [Act.put, List.setIfInBounds_toArray, List.set_cons_zero, List.set_cons_succ, i64_w, i32_w]
     rfl
    refine pv_ 3 7 (h := ?_)
    refine pv_ 4 8 (h := ?_)
    refine pv_ 5 9 (h := ?_)
    refine tk_ 6 10 (h := ?_)
    refine pv_ 7 11 (h := ?_)
    refine pv_ 8 12 (h := ?_)
    refine pv_ 9 13 (h := ?_)
    refine pv_ 10 14 (h := ?_)
    refine pu_ 11 15 (h := ?_)
    refine pu_ 12 16 (h := ?_)
    refine pu_ 13 17 (h := ?_)
    refine pu_ 14 18 (h := ?_)
    refine pu_ 15 19 (h := ?_)
    refine pv_ 16 20 (h := ?_)
    refine done_ (done_of HT_.out (by kernel_rfl)) ?_
    try go_wp2
    go_meet
    case rel => exact ⟨_, (true), (by first | rfl | (simp; done) | (simp [*]; done)), H', ⟨by first | omega | exact Nat.le_refl _⟩, ⟨xblk⟩, ⟨xbg⟩⟩
   ·rw [if_neg c6] at H
    have c6b0 : decide (8 < (l0_1.length : Int)) = false := decide_eq_false c6; have c6b1 : decide (8 < l0_1.length) = false := decide_eq_false (by omega); clear c6
    (first | rw [c6b0] | (simp only [i64_w, i32_w]; rw [c6b0]) | skip)
    replace H := Option.bind_eq_some_iff.mp H
    obtain ⟨t155, A80, H⟩ := H
    replace H : (spec_DiskOk.j0 k (decide (t155 > a0_0)) a0_0 l0_1) = some r := H; have A8 := aM A80; clear A80
    have H' := aM H
    clear H
    try go_wp2
    replace BK153 := aM (blk_drew BK153.out); replace HB := aM (below_drew1 HB.out)
    refine start_ (n := 17) (S := fun w' => w'.cell? ⟨gb153, 0, none⟩ = some (.int .i64 a0_0) ∧ w'.cell? ⟨gb153, 1, none⟩ = some (.slice A0_1 l0_1.length c0_1)) (ds := []) #[false, false, false, false, false, false, false, false, false, false, false, false, false, false, false, false, false] (by kernel_rfl) rfl rfl ⟨xc BK153 0 rfl, xc BK153 1 rfl⟩ (fun hHeld => ?_); refine with_tabW spec_DiskOk.tab1 spec_DiskOk.bits1 (fun HT_ HW_ => ?_)
    generalize w3.drew = w9 at BK153 HB hHeld ⊢
    refine pv_ 0 4 (h := ?_)
    refine tk_ 1 5 (h := ?_)
    refine on_ 2 6 (h := fun K hK => ?_)
    refine goesY Try.func87 #[.int .i64 a0_0, .int .i64 0, .int .i64 40000] ?_
    with_reducible refine (spec_l1In.calls a0_0 0 40000 true _ A4.out).mono ?_
    rintro e w' ⟨rfl, ⟨nd, rfl⟩⟩
    refine ⟨_, rfl, ?_⟩
    refine hK.out _ _ ⟨xc BK153 0 rfl, xc BK153 1 rfl⟩ (fun hHeld => ?_)
    clear hK K
    refine norm_ (a' := ?_) ?_ ?_
    rotate_left
    ·show Act.put _ (some 6) _ = _
     simp only [Act.put, List.setIfInBounds_toArray, List.set_cons_zero, List.set_cons_succ, i64_w, i32_w]
     rfl
    refine pv_ 3 7 (h := ?_)
    refine pv_ 4 8 (h := ?_)
    refine pv_ 5 9 (h := ?_)
    refine tk_ 6 10 (h := ?_)
    refine pv_ 7 11 (h := ?_)
    refine pv_ 8 12 (h := ?_)
    refine pv_ 9 13 (h := ?_)
    refine pv_ 10 14 (h := ?_)
    refine pv_ 13 17 (h := ?_)
    refine tk_ 11 15 (h := ?_)
    refine tk_ 14 18 (h := ?_)
    refine on_ 12 16 (h := fun K hK => ?_)
    refine goesY Try.func108 #[.agg #[.int .i64 a0_0, .slice A0_1 l0_1.length c0_1]] ?_
    with_reducible refine (spec_l3Size.calls k a0_0 _ _ l0_1 t155 _ ?side1 ?side2 A8.out).mono ?_
    (case side1 => repeat (first | exact (Kd.C_below HR0_1.out xbg) | (with_reducible refine Kd.C_alloc ?_ _) | (with_reducible refine Kd.C_drewN ?_ _) | (with_reducible refine Kd.C_drew ?_)))
    (case side2 => exact HC0_1.out)
    rintro e w10 ⟨rfl, hb⟩
    refine ⟨_, rfl, ?_⟩
    replace BK153 := xbb BK153 hb; replace HB := xbs hb
    (try clear hb); (try clear hb2); (try clear hk); (try clear hi)
    refine hK.out _ _ ⟨xc BK153 0 rfl, xc BK153 1 rfl⟩ (fun hHeld => ?_)
    clear hK K
    refine norm_ (a' := ?_) ?_ ?_
    rotate_left
    ·show Act.put _ (some 16) _ = _
     simp only [Act.put, List.setIfInBounds_toArray, List.set_cons_zero, List.set_cons_succ, i64_w, i32_w]
     rfl
    refine pv_ 15 19 (h := ?_)
    refine pv_ 16 20 (h := ?_)
    refine done_ (done_of HT_.out (by kernel_rfl)) ?_
    try go_wp2
    go_meet
    case rel => exact ⟨_, (decide (t155 > a0_0)), (by first | rfl | (simp; done) | (simp [*]; done)), H', ⟨by first | omega | exact Nat.le_refl _⟩, ⟨xblk⟩, ⟨xbg⟩⟩
  ·replace c5 := Bool.eq_false_iff.mpr c5
   subst c5
   have H1 : (spec_DiskOk.j0 k true a0_0 l0_1) = some r := by rw [if_neg (show ¬ (false = true) by decide)] at H; exact H
   clear H; have H := H1; clear H1
   have H' := aM H
   clear H
   try go_wp2
   replace BK153 := aM (blk_drew BK153.out); replace HB := aM (below_drew1 HB.out)
   refine start_ (n := 17) (S := fun w' => w'.cell? ⟨gb153, 0, none⟩ = some (.int .i64 a0_0) ∧ w'.cell? ⟨gb153, 1, none⟩ = some (.slice A0_1 l0_1.length c0_1)) (ds := []) #[false, false, false, false, false, false, false, false, false, false, false, false, false, false, false, false, false] (by kernel_rfl) rfl rfl ⟨xc BK153 0 rfl, xc BK153 1 rfl⟩ (fun hHeld => ?_); refine with_tabW spec_DiskOk.tab1 spec_DiskOk.bits1 (fun HT_ HW_ => ?_)
   generalize w3.drew = w11 at BK153 HB hHeld ⊢
   refine pv_ 0 4 (h := ?_)
   refine tk_ 1 5 (h := ?_)
   refine on_ 2 6 (h := fun K hK => ?_)
   refine goesY Try.func87 #[.int .i64 a0_0, .int .i64 0, .int .i64 40000] ?_
   with_reducible refine (spec_l1In.calls a0_0 0 40000 false _ A4.out).mono ?_
   rintro e w' ⟨rfl, ⟨nd, rfl⟩⟩
   refine ⟨_, rfl, ?_⟩
   refine hK.out _ _ ⟨xc BK153 0 rfl, xc BK153 1 rfl⟩ (fun hHeld => ?_)
   clear hK K
   refine norm_ (a' := ?_) ?_ ?_
   rotate_left
   ·show Act.put _ (some 6) _ = _
    simp only [Act.put, List.setIfInBounds_toArray, List.set_cons_zero, List.set_cons_succ, i64_w, i32_w]
    rfl
   refine pv_ 3 7 (h := ?_)
   refine pv_ 4 8 (h := ?_)
   refine pu_ 5 9 (h := ?_)
   refine pu_ 6 10 (h := ?_)
   refine pu_ 7 11 (h := ?_)
   refine pu_ 8 12 (h := ?_)
   refine pv_ 9 13 (h := ?_)
   refine pv_ 10 14 (h := ?_)
   refine pu_ 11 15 (h := ?_)
   refine pu_ 12 16 (h := ?_)
   refine pu_ 13 17 (h := ?_)
   refine pu_ 14 18 (h := ?_)
   refine pu_ 15 19 (h := ?_)
   refine pv_ 16 20 (h := ?_)
   refine done_ (done_of HT_.out (by kernel_rfl)) ?_
   try go_wp2
   go_meet
   case rel => exact ⟨_, (true), (by first | rfl | (simp; done) | (simp [*]; done)), H', ⟨by first | omega | exact Nat.le_refl _⟩, ⟨xblk⟩, ⟨xbg⟩⟩
 case rest =>
  clear HC2
  try clear c1
  try clear p2
  try clear c5
  try clear c6
  try clear c6b0
  try clear c6b1
  try clear c8
  try clear c10
  obtain ⟨kq, x20_1, rfl, HA, HJ1, BK153, HB⟩ := hcut
  cases kq with
  | zero => exact absurd HA.out (by simp [spec_DiskOk.j0])
  | succ kj1 =>
   have H := HA.out; clear HA
   simp only [spec_DiskOk.j0] at H
   by_cases c12 : x20_1 = true
   ·subst c12
    have H1 : (some false) = some r := by rw [if_pos rfl] at H; exact H
    clear H; have H := H1; clear H1
    obtain rfl := Option.some.inj H
    go_wp2
    go_ret
    exact ⟨by first | rfl | (simp [errW_none, errW_some] <;> rfl) | (simp [*, errW_none, errW_some] <;> rfl), xbg⟩
   ·replace c12 := Bool.eq_false_iff.mpr c12
    subst c12
    have H1 : (spec_DiskOk.l0 kj1 0 a0_0 l0_1) = some r := by rw [if_neg (show ¬ (false = true) by decide)] at H; exact H
    clear H; have H := H1; clear H1
    have H' := aM H
    clear H
    go_wp2
    go_loopg [3] kj1 (fun kq v3 w' => ∃ (x3_2 : Int), v3 = .int .i64 x3_2 ∧ Aside0 (spec_DiskOk.l0 kq x3_2 a0_0 l0_1 = some r) ∧ Aside0 (kq ≤ kj1) ∧ Aside0 (w'.heap[gb153]? = some (.cells #[.int .i64 a0_0, (.slice A0_1 l0_1.length c0_1)] 70 (0, 0))) ∧ Aside0 (Below w.heap.size w w'))
    case atStart => exact ⟨(0), (by first | rfl | (simp; done) | (simp [*]; done)), H', ⟨Nat.le_refl _⟩, ⟨xblk⟩, ⟨xbg⟩⟩
    case round =>
     clear H'
     try clear c1
     try clear p2
     try clear c5
     try clear c6
     try clear c6b0
     try clear c6b1
     try clear c8
     try clear c10
     try clear c12
     try clear p2
     obtain ⟨x3_2, rfl, HA, HK2, BK153, HB⟩ := hrel
     cases gk with
     | zero => exact absurd HA.out (by simp [spec_DiskOk.l0])
     | succ k2 =>
      have H := HA.out; clear HA
      simp only [spec_DiskOk.l0] at H
      by_cases c13 : x3_2 < (l0_1.length : Int)
      ·rw [if_pos c13] at H
       have c13b0 : decide (x3_2 < (l0_1.length : Int)) = true := decide_eq_true c13; clear c13
       by_cases c14 : 0 ≤ x3_2
       ·rw [if_pos c14] at H
        have c14b0 : decide (0 ≤ x3_2) = true := decide_eq_true c14; clear c14; replace H := Option.bind_eq_some_iff.mp H
        obtain ⟨t157, A150, H⟩ := H
        replace H : (if t157 = true then (if x3_2 > 0 then (if 0 ≤ (wrap64 (x3_2 - 1)) then (if (wrap64 (x3_2 - 1)) < (l0_1.length : Int) then (if ((rd_T134 l0_1 (wrap64 (x3_2 - 1))).f0) ≥ ((rd_T134 l0_1 x3_2).f0) then (some false) else (spec_DiskOk.l0 k2 (wrap64 (x3_2 + 1)) a0_0 l0_1)) else (none)) else (none)) else (spec_DiskOk.l0 k2 (wrap64 (x3_2 + 1)) a0_0 l0_1)) else (some false)) = some r := H; have A15 := aM A150; clear A150
        by_cases c16 : t157 = true
        ·subst c16
         have H1 : (if x3_2 > 0 then (if 0 ≤ (wrap64 (x3_2 - 1)) then (if (wrap64 (x3_2 - 1)) < (l0_1.length : Int) then (if ((rd_T134 l0_1 (wrap64 (x3_2 - 1))).f0) ≥ ((rd_T134 l0_1 x3_2).f0) then (some false) else (spec_DiskOk.l0 k2 (wrap64 (x3_2 + 1)) a0_0 l0_1)) else (none)) else (none)) else (spec_DiskOk.l0 k2 (wrap64 (x3_2 + 1)) a0_0 l0_1)) = some r := by rw [if_pos rfl] at H; exact H
         clear H; have H := H1; clear H1
         by_cases c17 : x3_2 > 0
         ·rw [if_pos c17] at H
          have c17b0 : decide (0 < x3_2) = true := decide_eq_true c17; clear c17
          obtain ⟨ji18, hji18⟩ : ∃ j_ : Int, (wrap64 (x3_2 - 1)) = j_ := ⟨_, rfl⟩
          replace H : (if 0 ≤ (ji18) then (if (ji18) < (l0_1.length : Int) then (if ((rd_T134 l0_1 (ji18)).f0) ≥ ((rd_T134 l0_1 x3_2).f0) then (some false) else (spec_DiskOk.l0 k2 (wrap64 (x3_2 + 1)) a0_0 l0_1)) else (none)) else (none)) = some r := by first | (rw [hji18] at H; exact H) | (simp only [hji18] at H ⊢; exact H)
          (try rw [hji18] at A15)
          have hji18w : (IntKind.i64.wrap (x3_2 - 1)) = ji18 := (i64_w _).trans hji18
          by_cases c19 : 0 ≤ (ji18)
          ·rw [if_pos c19] at H
           have c19b0 : decide (0 ≤ (ji18)) = true := decide_eq_true c19; clear c19
           by_cases c20 : (ji18) < (l0_1.length : Int)
           ·rw [if_pos c20] at H
            have c20b0 : decide ((ji18) < (l0_1.length : Int)) = true := decide_eq_true c20; clear c20
            by_cases c21 : ((rd_T134 l0_1 (ji18)).f0) ≥ ((rd_T134 l0_1 x3_2).f0)
            ·rw [if_pos c21] at H
             have c21b0 : decide (((rd_T134 l0_1 x3_2).f0) ≤ ((rd_T134 l0_1 (ji18)).f0)) = true := decide_eq_true c21; clear c21
             obtain rfl := Option.some.inj H
             obtain ⟨hcz22_0, hcz22_1, hfz22_0, hfz22_1⟩ := xf2 (w := wr) BK153
             try go_wp2
             replace BK153 := aM (blk_drew BK153.out); replace HB := aM (below_drew1 HB.out); have p156 : 0 ≤ (x3_2 : Int) := oda; have q156 : x3_2 < (l0_1.length : Int) := oda
             obtain ⟨ad156, e156, hx156_0, hx156_1, hx156_2⟩ := at_T134 HR0_1.out x3_2 p156 q156
             have hw156_2 := hx156_2; have hw156_1 := hx156_1; have hw156_0 := hx156_0
             cases e156
             replace hx156_0 := xce HB hx156_0; replace hx156_1 := xce HB hx156_1; replace hx156_2 := xce HB hx156_2; replace p156 := eq_true p156; replace q156 := eq_true q156; have p158 : 0 ≤ ((ji18) : Int) := oda; have q158 : (ji18) < (l0_1.length : Int) := oda
             obtain ⟨ad158, e158, hx158_0, hx158_1, hx158_2⟩ := at_T134 HR0_1.out (ji18) p158 q158
             have hw158_2 := hx158_2; have hw158_1 := hx158_1; have hw158_0 := hx158_0
             obtain rfl : ad156 = ad158 := (by injection e158)
             replace hx158_0 := xce HB hx158_0; replace hx158_1 := xce HB hx158_1; replace hx158_2 := xce HB hx158_2; replace p158 := eq_true p158; replace q158 := eq_true q158; have p159 : 0 ≤ (x3_2 : Int) := oda; have q159 : x3_2 < (l0_1.length : Int) := oda
             obtain ⟨ad159, e159, hx159_0, hx159_1, hx159_2⟩ := at_T134 HR0_1.out x3_2 p159 q159
             have hw159_2 := hx159_2; have hw159_1 := hx159_1; have hw159_0 := hx159_0
             obtain rfl : ad156 = ad159 := (by injection e159)
             replace hx159_0 := xce HB hx159_0; replace hx159_1 := xce HB hx159_1; replace hx159_2 := xce HB hx159_2; replace p159 := eq_true p159; replace q159 := eq_true q159
             refine start_ (n := 28) (S := fun w' => w'.cell? ⟨gb153, 0, none⟩ = some (.int .i64 a0_0) ∧ w'.cell? ⟨gb153, 1, none⟩ = some (.slice (some ad156) l0_1.length c0_1) ∧ w'.cell? (ad156.add ((x3_2).toNat * 3)) = some (.int .i64 ((rd_T134 l0_1 x3_2).f0)) ∧ w'.cell? ⟨(ad156.add ((x3_2).toNat * 3)).block, (ad156.add ((x3_2).toNat * 3)).off + 1, none⟩ = some (.string ((rd_T134 l0_1 x3_2).f1)) ∧ w'.cell? ⟨(ad156.add ((x3_2).toNat * 3)).block, (ad156.add ((x3_2).toNat * 3)).off + 2, none⟩ = some (.string ((rd_T134 l0_1 x3_2).f2)) ∧ w'.cell? (ad156.add (((ji18)).toNat * 3)) = some (.int .i64 ((rd_T134 l0_1 (ji18)).f0)) ∧ w'.cell? ⟨(ad156.add (((ji18)).toNat * 3)).block, (ad156.add (((ji18)).toNat * 3)).off + 1, none⟩ = some (.string ((rd_T134 l0_1 (ji18)).f1)) ∧ w'.cell? ⟨(ad156.add (((ji18)).toNat * 3)).block, (ad156.add (((ji18)).toNat * 3)).off + 2, none⟩ = some (.string ((rd_T134 l0_1 (ji18)).f2)) ∧ w'.cell? (ad156.add ((x3_2).toNat * 3)) = some (.int .i64 ((rd_T134 l0_1 x3_2).f0)) ∧ w'.cell? ⟨(ad156.add ((x3_2).toNat * 3)).block, (ad156.add ((x3_2).toNat * 3)).off + 1, none⟩ = some (.string ((rd_T134 l0_1 x3_2).f1)) ∧ w'.cell? ⟨(ad156.add ((x3_2).toNat * 3)).block, (ad156.add ((x3_2).toNat * 3)).off + 2, none⟩ = some (.string ((rd_T134 l0_1 x3_2).f2))) (ds := []) #[false, false, false, false, false, false, false, false, false, false, false, false, false, false, false, false, false, false, false, false, false, false, false, false, false, false, false, false] (by kernel_rfl) rfl rfl ⟨xc BK153 0 rfl, xc BK153 1 rfl, (xce HB hw156_0), (xce HB hw156_1), (xce HB hw156_2), (xce HB hw158_0), (xce HB hw158_1), (xce HB hw158_2), (xce HB hw159_0), (xce HB hw159_1), (xce HB hw159_2)⟩ (fun hHeld => ?_); refine with_tabW spec_DiskOk.tab6 spec_DiskOk.bits6 (fun HT_ HW_ => ?_)
             generalize wr.drew = w23 at BK153 HB hx156_0 hx156_1 hx156_2 hx158_0 hx158_1 hx158_2 hx159_0 hx159_1 hx159_2 hHeld ⊢
             refine pv_ 0 28 (h := ?_)
             refine pv_ 2 30 (h := ?_)
             refine tk_ 1 29 (h := ?_)
             refine pv_ 3 31 (h := ?_)
             refine pv_ 4 32 (h := ?_)
             refine tk_ 5 33 (h := ?_)
             refine on_ 6 34 (h := fun K hK => ?_)
             refine goesY Try.func107 #[.int .i64 ((rd_T134 l0_1 x3_2).f0)] ?_
             with_reducible refine (spec_l3Name.calls ((rd_T134 l0_1 x3_2).f0) true _ A15.out).mono ?_
             rintro e w' ⟨rfl, ⟨nd, rfl⟩⟩
             refine ⟨_, rfl, ?_⟩
             refine hK.out _ _ ⟨xc BK153 0 rfl, xc BK153 1 rfl, (xce HB hw156_0), (xce HB hw156_1), (xce HB hw156_2), (xce HB hw158_0), (xce HB hw158_1), (xce HB hw158_2), (xce HB hw159_0), (xce HB hw159_1), (xce HB hw159_2)⟩ (fun hHeld => ?_)
             clear hK K
             refine norm_ (a' := ?_) ?_ ?_
             rotate_left
             ·show Act.put _ (some 34) _ = _
              simp only [Act.put, List.setIfInBounds_toArray, List.set_cons_zero, List.set_cons_succ, i64_w, i32_w]
              rfl
             refine pv_ 7 35 (h := ?_)
             refine pv_ 8 36 (h := ?_)
             refine pv_ 9 37 (h := ?_)
             refine pv_ 10 38 (h := ?_)
             refine pv_ 11 39 (h := ?_)
             refine pv_ 12 40 (h := ?_)
             refine pv_ 14 42 (h := ?_)
             refine pv_ 15 43 (h := ?_)
             refine pv_ 19 47 (h := ?_)
             refine pv_ 21 49 (h := ?_)
             refine tk_ 13 41 (h := ?_)
             refine pv_ 16 44 (h := ?_)
             refine pv_ 17 45 (h := ?_)
             refine tk_ 18 46 (h := ?_)
             refine tk_ 20 48 (h := ?_)
             refine pv_ 22 50 (h := ?_)
             refine pv_ 23 51 (h := ?_)
             refine tk_ 24 52 (h := ?_)
             refine pv_ 25 53 (h := ?_)
             refine pv_ 26 54 (h := ?_)
             refine pv_ 27 55 (h := ?_)
             refine done_ (done_of HT_.out (by kernel_rfl)) ?_
             try go_wp2
             go_ret
             exact ⟨by first | rfl | (simp [errW_none, errW_some] <;> rfl) | (simp only [← hji18]; first | rfl | (simp [errW_none, errW_some] <;> rfl)) | (simp [*, errW_none, errW_some] <;> rfl), xbg⟩
            ·rw [if_neg c21] at H
             have c21b0 : decide (((rd_T134 l0_1 x3_2).f0) ≤ ((rd_T134 l0_1 (ji18)).f0)) = false := decide_eq_false c21; clear c21
             have H' := aM H
             clear H; obtain ⟨hcz24_0, hcz24_1, hfz24_0, hfz24_1⟩ := xf2 (w := wr) BK153
             try go_wp2
             replace BK153 := aM (blk_drew BK153.out); replace HB := aM (below_drew1 HB.out); have p156 : 0 ≤ (x3_2 : Int) := oda; have q156 : x3_2 < (l0_1.length : Int) := oda
             obtain ⟨ad156, e156, hx156_0, hx156_1, hx156_2⟩ := at_T134 HR0_1.out x3_2 p156 q156
             have hw156_2 := hx156_2; have hw156_1 := hx156_1; have hw156_0 := hx156_0
             cases e156
             replace hx156_0 := xce HB hx156_0; replace hx156_1 := xce HB hx156_1; replace hx156_2 := xce HB hx156_2; replace p156 := eq_true p156; replace q156 := eq_true q156; have p158 : 0 ≤ ((ji18) : Int) := oda; have q158 : (ji18) < (l0_1.length : Int) := oda
             obtain ⟨ad158, e158, hx158_0, hx158_1, hx158_2⟩ := at_T134 HR0_1.out (ji18) p158 q158
             have hw158_2 := hx158_2; have hw158_1 := hx158_1; have hw158_0 := hx158_0
             obtain rfl : ad156 = ad158 := (by injection e158)
             replace hx158_0 := xce HB hx158_0; replace hx158_1 := xce HB hx158_1; replace hx158_2 := xce HB hx158_2; replace p158 := eq_true p158; replace q158 := eq_true q158; have p159 : 0 ≤ (x3_2 : Int) := oda; have q159 : x3_2 < (l0_1.length : Int) := oda
             obtain ⟨ad159, e159, hx159_0, hx159_1, hx159_2⟩ := at_T134 HR0_1.out x3_2 p159 q159
             have hw159_2 := hx159_2; have hw159_1 := hx159_1; have hw159_0 := hx159_0
             obtain rfl : ad156 = ad159 := (by injection e159)
             replace hx159_0 := xce HB hx159_0; replace hx159_1 := xce HB hx159_1; replace hx159_2 := xce HB hx159_2; replace p159 := eq_true p159; replace q159 := eq_true q159
             refine start_ (n := 28) (S := fun w' => w'.cell? ⟨gb153, 0, none⟩ = some (.int .i64 a0_0) ∧ w'.cell? ⟨gb153, 1, none⟩ = some (.slice (some ad156) l0_1.length c0_1) ∧ w'.cell? (ad156.add ((x3_2).toNat * 3)) = some (.int .i64 ((rd_T134 l0_1 x3_2).f0)) ∧ w'.cell? ⟨(ad156.add ((x3_2).toNat * 3)).block, (ad156.add ((x3_2).toNat * 3)).off + 1, none⟩ = some (.string ((rd_T134 l0_1 x3_2).f1)) ∧ w'.cell? ⟨(ad156.add ((x3_2).toNat * 3)).block, (ad156.add ((x3_2).toNat * 3)).off + 2, none⟩ = some (.string ((rd_T134 l0_1 x3_2).f2)) ∧ w'.cell? (ad156.add (((ji18)).toNat * 3)) = some (.int .i64 ((rd_T134 l0_1 (ji18)).f0)) ∧ w'.cell? ⟨(ad156.add (((ji18)).toNat * 3)).block, (ad156.add (((ji18)).toNat * 3)).off + 1, none⟩ = some (.string ((rd_T134 l0_1 (ji18)).f1)) ∧ w'.cell? ⟨(ad156.add (((ji18)).toNat * 3)).block, (ad156.add (((ji18)).toNat * 3)).off + 2, none⟩ = some (.string ((rd_T134 l0_1 (ji18)).f2)) ∧ w'.cell? (ad156.add ((x3_2).toNat * 3)) = some (.int .i64 ((rd_T134 l0_1 x3_2).f0)) ∧ w'.cell? ⟨(ad156.add ((x3_2).toNat * 3)).block, (ad156.add ((x3_2).toNat * 3)).off + 1, none⟩ = some (.string ((rd_T134 l0_1 x3_2).f1)) ∧ w'.cell? ⟨(ad156.add ((x3_2).toNat * 3)).block, (ad156.add ((x3_2).toNat * 3)).off + 2, none⟩ = some (.string ((rd_T134 l0_1 x3_2).f2))) (ds := []) #[false, false, false, false, false, false, false, false, false, false, false, false, false, false, false, false, false, false, false, false, false, false, false, false, false, false, false, false] (by kernel_rfl) rfl rfl ⟨xc BK153 0 rfl, xc BK153 1 rfl, (xce HB hw156_0), (xce HB hw156_1), (xce HB hw156_2), (xce HB hw158_0), (xce HB hw158_1), (xce HB hw158_2), (xce HB hw159_0), (xce HB hw159_1), (xce HB hw159_2)⟩ (fun hHeld => ?_); refine with_tabW spec_DiskOk.tab6 spec_DiskOk.bits6 (fun HT_ HW_ => ?_)
             generalize wr.drew = w25 at BK153 HB hx156_0 hx156_1 hx156_2 hx158_0 hx158_1 hx158_2 hx159_0 hx159_1 hx159_2 hHeld ⊢
             refine pv_ 0 28 (h := ?_)
             refine pv_ 2 30 (h := ?_)
             refine tk_ 1 29 (h := ?_)
             refine pv_ 3 31 (h := ?_)
             refine pv_ 4 32 (h := ?_)
             refine tk_ 5 33 (h := ?_)
             refine on_ 6 34 (h := fun K hK => ?_)
             refine goesY Try.func107 #[.int .i64 ((rd_T134 l0_1 x3_2).f0)] ?_
             with_reducible refine (spec_l3Name.calls ((rd_T134 l0_1 x3_2).f0) true _ A15.out).mono ?_
             rintro e w' ⟨rfl, ⟨nd, rfl⟩⟩
             refine ⟨_, rfl, ?_⟩
             refine hK.out _ _ ⟨xc BK153 0 rfl, xc BK153 1 rfl, (xce HB hw156_0), (xce HB hw156_1), (xce HB hw156_2), (xce HB hw158_0), (xce HB hw158_1), (xce HB hw158_2), (xce HB hw159_0), (xce HB hw159_1), (xce HB hw159_2)⟩ (fun hHeld => ?_)
             clear hK K
             refine norm_ (a' := ?_) ?_ ?_
             rotate_left
             ·show Act.put _ (some 34) _ = _
              simp only [Act.put, List.setIfInBounds_toArray, List.set_cons_zero, List.set_cons_succ, i64_w, i32_w]
              rfl
             refine pv_ 7 35 (h := ?_)
             refine pv_ 8 36 (h := ?_)
             refine pv_ 9 37 (h := ?_)
             refine pv_ 10 38 (h := ?_)
             refine pv_ 11 39 (h := ?_)
             refine pv_ 12 40 (h := ?_)
             refine pv_ 14 42 (h := ?_)
             refine pv_ 15 43 (h := ?_)
             refine pv_ 19 47 (h := ?_)
             refine pv_ 21 49 (h := ?_)
             refine tk_ 13 41 (h := ?_)
             refine pv_ 16 44 (h := ?_)
             refine pv_ 17 45 (h := ?_)
             refine tk_ 18 46 (h := ?_)
             refine tk_ 20 48 (h := ?_)
             refine pv_ 22 50 (h := ?_)
             refine pv_ 23 51 (h := ?_)
             refine tk_ 24 52 (h := ?_)
             refine pv_ 25 53 (h := ?_)
             refine pv_ 26 54 (h := ?_)
             refine pv_ 27 55 (h := ?_)
             refine done_ (done_of HT_.out (by kernel_rfl)) ?_
             try go_wp2
             go_roundg k2
             case measure => have := HJ1.out; have := HK2.out; omega
             case rel => exact ⟨(wrap64 (x3_2 + 1)), (by first | rfl | (simp; done) | (simp [*]; done)), H', ⟨by have := HJ1.out; have := HK2.out; omega⟩, ⟨xblk⟩, ⟨xbg⟩⟩
           ·rw [if_neg c20] at H
            exact absurd H (by simp)
          ·rw [if_neg c19] at H
           exact absurd H (by simp)
         ·rw [if_neg c17] at H
          have c17b0 : decide (0 < x3_2) = false := decide_eq_false c17; clear c17
          have H' := aM H
          clear H; obtain ⟨hcz26_0, hcz26_1, hfz26_0, hfz26_1⟩ := xf2 (w := wr) BK153
          try go_wp2
          replace BK153 := aM (blk_drew BK153.out); replace HB := aM (below_drew1 HB.out); have p156 : 0 ≤ (x3_2 : Int) := oda; have q156 : x3_2 < (l0_1.length : Int) := oda
          obtain ⟨ad156, e156, hx156_0, hx156_1, hx156_2⟩ := at_T134 HR0_1.out x3_2 p156 q156
          have hw156_2 := hx156_2; have hw156_1 := hx156_1; have hw156_0 := hx156_0
          cases e156
          replace hx156_0 := xce HB hx156_0; replace hx156_1 := xce HB hx156_1; replace hx156_2 := xce HB hx156_2; replace p156 := eq_true p156; replace q156 := eq_true q156
          refine start_ (n := 28) (S := fun w' => w'.cell? ⟨gb153, 0, none⟩ = some (.int .i64 a0_0) ∧ w'.cell? ⟨gb153, 1, none⟩ = some (.slice (some ad156) l0_1.length c0_1) ∧ w'.cell? (ad156.add ((x3_2).toNat * 3)) = some (.int .i64 ((rd_T134 l0_1 x3_2).f0)) ∧ w'.cell? ⟨(ad156.add ((x3_2).toNat * 3)).block, (ad156.add ((x3_2).toNat * 3)).off + 1, none⟩ = some (.string ((rd_T134 l0_1 x3_2).f1)) ∧ w'.cell? ⟨(ad156.add ((x3_2).toNat * 3)).block, (ad156.add ((x3_2).toNat * 3)).off + 2, none⟩ = some (.string ((rd_T134 l0_1 x3_2).f2))) (ds := []) #[false, false, false, false, false, false, false, false, false, false, false, false, false, false, false, false, false, false, false, false, false, false, false, false, false, false, false, false] (by kernel_rfl) rfl rfl ⟨xc BK153 0 rfl, xc BK153 1 rfl, (xce HB hw156_0), (xce HB hw156_1), (xce HB hw156_2)⟩ (fun hHeld => ?_); refine with_tabW spec_DiskOk.tab6 spec_DiskOk.bits6 (fun HT_ HW_ => ?_)
          generalize wr.drew = w27 at BK153 HB hx156_0 hx156_1 hx156_2 hHeld ⊢
          refine pv_ 0 28 (h := ?_)
          refine pv_ 2 30 (h := ?_)
          refine tk_ 1 29 (h := ?_)
          refine pv_ 3 31 (h := ?_)
          refine pv_ 4 32 (h := ?_)
          refine tk_ 5 33 (h := ?_)
          refine on_ 6 34 (h := fun K hK => ?_)
          refine goesY Try.func107 #[.int .i64 ((rd_T134 l0_1 x3_2).f0)] ?_
          with_reducible refine (spec_l3Name.calls ((rd_T134 l0_1 x3_2).f0) true _ A15.out).mono ?_
          rintro e w' ⟨rfl, ⟨nd, rfl⟩⟩
          refine ⟨_, rfl, ?_⟩
          refine hK.out _ _ ⟨xc BK153 0 rfl, xc BK153 1 rfl, (xce HB hw156_0), (xce HB hw156_1), (xce HB hw156_2)⟩ (fun hHeld => ?_)
          clear hK K
          refine norm_ (a' := ?_) ?_ ?_
          rotate_left
          ·show Act.put _ (some 34) _ = _
           simp only [Act.put, List.setIfInBounds_toArray, List.set_cons_zero, List.set_cons_succ, i64_w, i32_w]
           rfl
          refine pv_ 7 35 (h := ?_)
          refine pv_ 8 36 (h := ?_)
          refine pv_ 9 37 (h := ?_)
          refine pv_ 10 38 (h := ?_)
          refine pv_ 11 39 (h := ?_)
          refine pu_ 12 40 (h := ?_)
          refine pu_ 13 41 (h := ?_)
          refine pu_ 14 42 (h := ?_)
          refine pu_ 15 43 (h := ?_)
          refine pu_ 16 44 (h := ?_)
          refine pu_ 17 45 (h := ?_)
          refine pu_ 18 46 (h := ?_)
          refine pu_ 19 47 (h := ?_)
          refine pu_ 20 48 (h := ?_)
          refine pu_ 21 49 (h := ?_)
          refine pu_ 22 50 (h := ?_)
          refine pu_ 23 51 (h := ?_)
          refine pu_ 24 52 (h := ?_)
          refine pu_ 25 53 (h := ?_)
          refine pv_ 26 54 (h := ?_)
          refine pv_ 27 55 (h := ?_)
          refine done_ (done_of HT_.out (by kernel_rfl)) ?_
          try go_wp2
          go_roundg k2
          case measure => have := HJ1.out; have := HK2.out; omega
          case rel => exact ⟨(wrap64 (x3_2 + 1)), (by first | rfl | (simp; done) | (simp [*]; done)), H', ⟨by have := HJ1.out; have := HK2.out; omega⟩, ⟨xblk⟩, ⟨xbg⟩⟩
        ·replace c16 := Bool.eq_false_iff.mpr c16
         subst c16
         have H1 : (some false) = some r := by rw [if_neg (show ¬ (false = true) by decide)] at H; exact H
         clear H; have H := H1; clear H1
         obtain rfl := Option.some.inj H
         obtain ⟨hcz28_0, hcz28_1, hfz28_0, hfz28_1⟩ := xf2 (w := wr) BK153
         try go_wp2
         replace BK153 := aM (blk_drew BK153.out); replace HB := aM (below_drew1 HB.out); have p156 : 0 ≤ (x3_2 : Int) := oda; have q156 : x3_2 < (l0_1.length : Int) := oda
         obtain ⟨ad156, e156, hx156_0, hx156_1, hx156_2⟩ := at_T134 HR0_1.out x3_2 p156 q156
         have hw156_2 := hx156_2; have hw156_1 := hx156_1; have hw156_0 := hx156_0
         cases e156
         replace hx156_0 := xce HB hx156_0; replace hx156_1 := xce HB hx156_1; replace hx156_2 := xce HB hx156_2; replace p156 := eq_true p156; replace q156 := eq_true q156
         refine start_ (n := 28) (S := fun w' => w'.cell? ⟨gb153, 0, none⟩ = some (.int .i64 a0_0) ∧ w'.cell? ⟨gb153, 1, none⟩ = some (.slice (some ad156) l0_1.length c0_1) ∧ w'.cell? (ad156.add ((x3_2).toNat * 3)) = some (.int .i64 ((rd_T134 l0_1 x3_2).f0)) ∧ w'.cell? ⟨(ad156.add ((x3_2).toNat * 3)).block, (ad156.add ((x3_2).toNat * 3)).off + 1, none⟩ = some (.string ((rd_T134 l0_1 x3_2).f1)) ∧ w'.cell? ⟨(ad156.add ((x3_2).toNat * 3)).block, (ad156.add ((x3_2).toNat * 3)).off + 2, none⟩ = some (.string ((rd_T134 l0_1 x3_2).f2))) (ds := []) #[false, false, false, false, false, false, false, false, false, false, false, false, false, false, false, false, false, false, false, false, false, false, false, false, false, false, false, false] (by kernel_rfl) rfl rfl ⟨xc BK153 0 rfl, xc BK153 1 rfl, (xce HB hw156_0), (xce HB hw156_1), (xce HB hw156_2)⟩ (fun hHeld => ?_); refine with_tabW spec_DiskOk.tab6 spec_DiskOk.bits6 (fun HT_ HW_ => ?_)
         generalize wr.drew = w29 at BK153 HB hx156_0 hx156_1 hx156_2 hHeld ⊢
         refine pv_ 0 28 (h := ?_)
         refine pv_ 2 30 (h := ?_)
         refine tk_ 1 29 (h := ?_)
         refine pv_ 3 31 (h := ?_)
         refine pv_ 4 32 (h := ?_)
         refine tk_ 5 33 (h := ?_)
         refine on_ 6 34 (h := fun K hK => ?_)
         refine goesY Try.func107 #[.int .i64 ((rd_T134 l0_1 x3_2).f0)] ?_
         with_reducible refine (spec_l3Name.calls ((rd_T134 l0_1 x3_2).f0) false _ A15.out).mono ?_
         rintro e w' ⟨rfl, ⟨nd, rfl⟩⟩
         refine ⟨_, rfl, ?_⟩
         refine hK.out _ _ ⟨xc BK153 0 rfl, xc BK153 1 rfl, (xce HB hw156_0), (xce HB hw156_1), (xce HB hw156_2)⟩ (fun hHeld => ?_)
         clear hK K
         refine norm_ (a' := ?_) ?_ ?_
         rotate_left
         ·show Act.put _ (some 34) _ = _
          simp only [Act.put, List.setIfInBounds_toArray, List.set_cons_zero, List.set_cons_succ, i64_w, i32_w]
          rfl
         refine pv_ 7 35 (h := ?_)
         refine pv_ 8 36 (h := ?_)
         refine pu_ 9 37 (h := ?_)
         refine pu_ 10 38 (h := ?_)
         refine pu_ 11 39 (h := ?_)
         refine pu_ 12 40 (h := ?_)
         refine pu_ 13 41 (h := ?_)
         refine pu_ 14 42 (h := ?_)
         refine pu_ 15 43 (h := ?_)
         refine pu_ 16 44 (h := ?_)
         refine pu_ 17 45 (h := ?_)
         refine pu_ 18 46 (h := ?_)
         refine pu_ 19 47 (h := ?_)
         refine pu_ 20 48 (h := ?_)
         refine pu_ 21 49 (h := ?_)
         refine pu_ 22 50 (h := ?_)
         refine pu_ 23 51 (h := ?_)
         refine pu_ 24 52 (h := ?_)
         refine pu_ 25 53 (h := ?_)
         refine pu_ 26 54 (h := ?_)
         refine pv_ 27 55 (h := ?_)
         refine done_ (done_of HT_.out (by kernel_rfl)) ?_
         try go_wp2
         go_ret
         exact ⟨by first | rfl | (simp [errW_none, errW_some] <;> rfl) | (simp [*, errW_none, errW_some] <;> rfl), xbg⟩
       ·rw [if_neg c14] at H
        exact absurd H (by simp)
      ·rw [if_neg c13] at H
       have c13b0 : decide (x3_2 < (l0_1.length : Int)) = false := decide_eq_false c13; clear c13
       obtain rfl := Option.some.inj H
       obtain ⟨hcz30_0, hcz30_1, hfz30_0, hfz30_1⟩ := xf2 (w := wr) BK153
       go_wp2
       go_ret
       exact ⟨by first | rfl | (simp [errW_none, errW_some] <;> rfl) | (simp [*, errW_none, errW_some] <;> rfl), xbg⟩

/-! ### spec_l3Copy: function 109 -/
def spec_l3Copy.f (a0_0 : Int) (l0_1 : List (S134)) : Option (Int × (List (S134))) := (some (([] : List (S134)) : List (S134))).bind fun y162 => (if y162.length + l0_1.length < 3518437208883 then (some (a0_0, (y162 ++ l0_1))) else (none))
def spec_l3Copy.T1 : Bool × List (List Nat × List Nat) := (true, [([], []), ([0], [0]), ([], []), ([], []), ([3], [3]), ([2, 4], [2, 4]), ([1, 5], [1, 5]), ([6, 5, 0, 1, 2, 3, 4, 5, 6], [6])])
def spec_l3Copy.B1 : List Nat := [0, 1, 0, 0, 8, 28, 63, 127]
theorem spec_l3Copy.tab1 : rtab .any (opsOf Try.f109 1) = spec_l3Copy.T1 := by kernel_rfl
theorem spec_l3Copy.bits1 : waitsOk spec_l3Copy.T1.2 spec_l3Copy.B1 = true := by kernel_rfl
set_option maxHeartbeats 8000000 in
set_option maxRecDepth 100000 in
theorem spec_l3Copy.calls (a0_0 : Int) (A0_1 : Option Addr) (c0_1 : Nat) (l0_1 : List (S134)) (r1 : Int) (r2 : List (S134)) (w : World) (hr0_1 : Kd.C k134 w A0_1 l0_1.length l0_1) (hc0_1 : l0_1.length ≤ c0_1) (h : spec_l3Copy.f a0_0 l0_1 = some (r1, r2)) :
 Calls Try.prog 109 #[.agg #[.int .i64 a0_0, .slice A0_1 l0_1.length c0_1]] w fun e w' => ∃ v1_ : Value, e = .returned (.agg #[.int .i64 r1, v1_]) ∧ Kd.R k134 134 w' w.heap.size (fun _ => True) v1_ r2 ∧ Below w.heap.size w w' := by
 have hu70 := Try.underlying70
 have HR0_1 := aM hr0_1
 have HC0_1 := aM hc0_1
 clear hr0_1 hc0_1
 have HB := aM (Below.refl w.heap.size w)
 have H : ((some (([] : List (S134)) : List (S134))).bind fun y162 => (if y162.length + l0_1.length < 3518437208883 then (some (a0_0, (y162 ++ l0_1))) else (none))) = some (r1, r2) := h
 clear h
 obtain ⟨y162, hy162⟩ : ∃ y_ : List (S134), y_ = (([] : List (S134))) := ⟨_, rfl⟩
 replace H : (if y162.length + l0_1.length < 3518437208883 then (some (a0_0, (y162 ++ l0_1))) else (none)) = some (r1, r2) := by first | (rw [hy162]; with_reducible exact H) | (have H2_ := (Option.bind_some _ _).symm.trans H; rw [hy162]; with_reducible exact H2_) | (have H2_ := (Option.bind_some _ _).symm.trans H; with_reducible exact H2_) | with_reducible exact H | (rw [hy162]; exact H) | exact H
 have Ny162 := aM hy162
 clear hy162
 by_cases c2 : y162.length + l0_1.length < 3518437208883
 ·rw [if_pos c2] at H
  have LMc2 := aM c2; clear c2
  obtain ⟨y165, hy165⟩ : ∃ y_ : List (S134), y_ = (y162 ++ l0_1) := ⟨_, rfl⟩
  replace H : (some (a0_0, y165)) = some (r1, r2) := by first | (rw [hy165]; with_reducible exact H) | (have H2_ := (Option.bind_some _ _).symm.trans H; rw [hy165]; with_reducible exact H2_) | (have H2_ := (Option.bind_some _ _).symm.trans H; with_reducible exact H2_) | with_reducible exact H | (rw [hy165]; exact H) | exact H
  have Ny165 := aM hy165; clear hy165
  simp only [Option.some.injEq, Prod.mk.injEq] at H
  obtain ⟨rfl, rfl⟩ := H
  go_enter Try.func109, Try.ntmps109
  try go_wp2_with (first | ((with_reducible refine gate_dst (N := 1) rfl ?_); refine box_event ?hg (N := 1) ?hd (cs := #[.int .i64 a0_0, .slice A0_1 l0_1.length c0_1]) (t := 70) ?hr ?_; (case hd => rfl); (case hg => rfl); (case hr => first | (go_simp; done) | (go_simp; rfl)); intro gb160 hg w3 hbox hb; have BK160 := aM (hbox); have GW160 := aM (xge hg); have GE160 := aM (xge hg); replace HB := xbs hb; clear hb hbox hg) | ((with_reducible refine gate_dst (N := 2) rfl ?_); refine box_event ?hg (N := 2) ?hd (cs := #[.int .i64 0, .slice none 0 0]) (t := 70) ?hr ?_; (case hd => rfl); (case hg => rfl); (case hr => first | (go_simp; done) | (go_simp; rfl)); intro gb161 hg w4 hbox hb; have GW161 := aM (xge hg); have GE161 := aM (xge hg); replace HB := xbs hb; have NB160_161 := aM ((by rw [hg]; exact Nat.ne_of_lt (blk_lt (g := gb160) (o := .cells #[.int .i64 a0_0, .slice A0_1 l0_1.length c0_1] 70 (0, 0)) xblk) : gb160 ≠ gb161)); have NB161_160 := aM ((by rw [hg]; exact Nat.ne_of_gt (blk_lt (g := gb160) (o := .cells #[.int .i64 a0_0, .slice A0_1 l0_1.length c0_1] 70 (0, 0)) xblk) : gb161 ≠ gb160)); replace BK160 := xbb BK160 hb; have BK161 := aM (hbox); clear hb hbox hg))
  replace BK160 := aM (blk_drew BK160.out); replace BK161 := aM (blk_drew BK161.out); replace HB := aM (below_drew1 HB.out)
  refine start_ (n := 8) (S := fun w' => w'.cell? ⟨gb160, 0, none⟩ = some (.int .i64 a0_0) ∧ w'.cell? ⟨gb160, 1, none⟩ = some (.slice A0_1 l0_1.length c0_1)) (ds := []) #[false, false, false, false, false, false, false, false] (by kernel_rfl) rfl rfl ⟨xc BK160 0 rfl, xc BK160 1 rfl⟩ (fun hHeld => ?_); refine with_tabW spec_l3Copy.tab1 spec_l3Copy.bits1 (fun HT_ HW_ => ?_)
  generalize w4.drew = w5 at BK160 BK161 HB hHeld ⊢
  refine pv_ 0 3 (h := ?_)
  refine pv_ 3 6 (h := ?_)
  refine tk_ 1 4 (h := ?_)
  refine tk_ 4 7 (h := ?_)
  refine on_ 2 5 (h := fun K hK => ?_)
  refine Kd.R_lit_step k134 _ 134 ?hg (N := 5) ?hd (xs := ([] : List (S134))) (inner := []) (ok := fun _ => True) (okp := fun _ => True) ?hr ?hp (fun _ hk => hk) trivial (Below.refl _ _) (Nat.le_refl _) (by simp) ?_; (case hd => rfl); (case hg => rfl); (case hr => first | (go_simp; done) | (go_simp; rfl)); (case hp => exact (Reps.none _ _))
  intro v163 w6 ho7 hb hg_ hnew_
  clear hg_ hnew_
  (first | rw [← Ny162.out] at ho7 | (simp only [Int.reduceToNat] at ho7; rw [← Ny162.out] at ho7))
  have HO164 := aM (Kd.R_lower ho7 (below_size xbg)); replace BK160 := xbb BK160 hb; replace BK161 := xbb BK161 hb; replace HB := xbs hb; clear hb ho7
  refine hK.out _ _ ⟨xc BK160 0 rfl, xc BK160 1 rfl⟩ (fun hHeld => ?_)
  clear hK K
  refine norm_ (a' := ?_) ?_ ?_
  rotate_left
  ·show Act.put _ (some 5) _ = _
   simp only [Act.put, List.setIfInBounds_toArray, List.set_cons_zero, List.set_cons_succ, i64_w, i32_w]
   rfl
  refine on_ 5 8 (h := fun K hK => ?_)
  refine Kd.R_append_rows_step k134 (w0 := w) w.heap.size (by rfl) (.tmp 5) (.tmp 7) 68 134 (.agg #[(.int .i64 0), (.string ⟨#[]⟩), (.string ⟨#[]⟩)]) 40 rfl Try.underlying68 info134 rfl (by decide) (by omega) v163 y162 l0_1 _ _ _ (fun _ => True) (fun _ => False) rfl rfl ?aO ?aR (fun _ _ h => h) (fun _ h => h.elim) ?aF ?aB ?aS ?aL ?_
  (case aR => exact xcb HR0_1)
  (case aB => exact xbg)
  (case aF => exact (fun _ _ => trivial))
  (case aO => exact (xr HO164))
  (case aS => exact (below_size xbg))
  (case aL => have := LMc2.out; omega)
  intro v166 w8 ho hb hg hat
  rw [← Ny165.out] at ho
  have n0_ := aM (blk_grown (g := gb160) (o := .cells #[.int .i64 a0_0, .slice A0_1 l0_1.length c0_1] 70 (0, 0)) xblk hg (Kd.R_ne HO164.out BK160.out (by decide))); have n1_ := aM (blk_grown (g := gb161) (o := .cells #[.int .i64 0, .slice none 0 0] 70 (0, 0)) xblk hg (Kd.R_ne HO164.out BK161.out (by decide))); have n2_ := aM (hb); have n3_ := aM (ho); clear BK160 BK161 HB HO164; have BK160 := n0_; have BK161 := n1_; have HB := n2_; have HO167 := n3_; clear n0_ n1_ n2_ n3_ ho hb hg hat
  obtain ⟨Ao9, co9, eo9⟩ := Kd.R_slice HO167.out
  (first | subst eo9 | (injection eo9 with f1_ f2_ f3_; have f4_ := f1_.symm; have f5_ := f3_.symm; clear f1_ f2_ f3_; subst f4_; subst f5_))
  refine hK.out _ _ ⟨xc BK160 0 rfl, xc BK160 1 rfl⟩ (fun hHeld => ?_)
  clear hK K
  refine norm_ (a' := ?_) ?_ ?_
  rotate_left
  ·show Act.put _ (some 8) _ = _
   simp only [Act.put, List.setIfInBounds_toArray, List.set_cons_zero, List.set_cons_succ, i64_w, i32_w]
   rfl
  refine pv_ 6 9 (h := ?_)
  refine one_ (i := 7) (N := none) #[true, true, true, true, true, true, true, true] rfl rfl (one_of HT_.out (by kernel_rfl)) (by decide) (fun K hK => ?_)
  have hs10 : w8.cell? ⟨gb161, 0, none⟩ = some (.int .i64 0) := xc BK161 0 rfl; have hfs10 := blk_frozen BK161.out 0; have hns10_0 := NB160_161.out; have hms10_0 := NB161_160.out; have hs11 : w8.cell? ⟨gb161, 1, none⟩ = some (.slice none 0 0) := xc BK161 1 rfl; have hfs11 := blk_frozen BK161.out 1; have hns11_0 := NB160_161.out; have hms11_0 := NB161_160.out
  refine skip_ (w1 := ?_) (by rfl) rfl ?_ ?_
  rotate_left
  ·go_simp
   rfl
  refine hK.out _ _ ⟨((cell_far (p := ⟨gb161, _, none⟩) NB160_161.out _).trans (((cell_far (p := ⟨gb161, _, none⟩) NB160_161.out _).trans (hHeld.1)))), ((cell_far (p := ⟨gb161, _, none⟩) NB160_161.out _).trans (((cell_far (p := ⟨gb161, _, none⟩) NB160_161.out _).trans (hHeld.2))))⟩ (fun hHeld => ?_)
  clear hK K
  refine done_ (done_of HT_.out (by kernel_rfl)) ?_
  try go_wp2
  refine bodyPost_ret (results_cell_row rfl _ _ gb161 70 #[.int .i64 a0_0, .slice Ao9 y165.length co9] (0, 0) _ rfl (by (with_reducible repeat (first | refine blk_drewN ?_ _ | refine blk_drew ?_ | refine blk_alloc ?_ _)); refine blk_put (cs := #[.int .i64 a0_0, .slice none 0 0]) ?_ 1 _ rfl; (with_reducible repeat (first | refine blk_drewN ?_ _ | refine blk_drew ?_ | refine blk_alloc ?_ _)); refine blk_put (cs := #[.int .i64 0, .slice none 0 0]) ?_ 0 _ rfl; (with_reducible repeat (first | refine blk_drewN ?_ _ | refine blk_drew ?_ | refine blk_alloc ?_ _)); exact BK161.out) Try.underlying70 rfl (by kernel_rfl)) rfl ?_
  exact ⟨_, by first | rfl | (simp [errW_none, errW_some] <;> rfl) | (simp [*, errW_none, errW_some] <;> rfl), by (with_reducible repeat (first | apply Kd.R_alloc | apply Kd.R_drewN | apply Kd.R_drew)); exact Kd.R_mono (Kd.R_far (p := ⟨gb161, 1, none⟩) (Kd.R_far (p := ⟨gb161, 0, none⟩) (Kd.R_types HO167.out BK161.out (by decide)) (fun _ hk => hk.2) (.int .i64 a0_0)) (fun _ hk => hk.2) (.slice Ao9 y165.length co9)) (fun _ hk => trivial), xbg⟩
 ·rw [if_neg c2] at H
  exact absurd H (by simp)

/-! ### spec_l3Find: function 110 -/
def spec_l3Find.l0 : Nat → Int → Int → Int → List (S134) → Option (Int)
 | 0, _, _, _, _ => none
 | k + 1, x1, x5, x169000, x169001 => if x5 < (x169001.length : Int) then (if 0 ≤ x5 then (if ((rd_T134 x169001 x5).f0) = x1 then (some x5) else (spec_l3Find.l0 k x1 (wrap64 (x5 + 1)) x169000 x169001)) else (none)) else (some (-1))
def spec_l3Find.f (k : Nat) (a0_0 : Int) (l0_1 : List (S134)) (a1 : Int) : Option (Int) := spec_l3Find.l0 k a1 0 a0_0 l0_1
set_option maxRecDepth 100000 in
theorem spec_l3Find.mono_l : ∀ k, (∀ y0 y1 y2 y3, LeO (spec_l3Find.l0 k y0 y1 y2 y3) (spec_l3Find.l0 (k + 1) y0 y1 y2 y3))
 | 0 => fun _ _ _ _ r h => by simp [spec_l3Find.l0] at h
 | k + 1 => by
  have ih0 := spec_l3Find.mono_l k
  ·intro y0 y1 y2 y3
   unfold spec_l3Find.l0
   repeat' first
   | (with_reducible exact ih0 _ _ _ _)
   | (with_reducible exact LeO.refl _)
   | (with_reducible exact LeO.none _)
   | (with_reducible refine LeO.ite ?_ ?_)
   | (with_reducible refine LeO.bind ?_ (fun _ => ?_))
   | exact ih0 _ _ _ _
   | exact LeO.none _
   | refine LeO.ite ?_ ?_
   | refine LeO.bind ?_ (fun _ => ?_)
theorem spec_l3Find.mono : ∀ a0 a1 a2 k, LeO (spec_l3Find.f k a0 a1 a2) (spec_l3Find.f (k + 1) a0 a1 a2) := by
 intro a0 a1 a2 k
 have ih0 := spec_l3Find.mono_l k
 unfold spec_l3Find.f
 repeat' first
  | (with_reducible exact ih0 _ _ _ _)
  | (with_reducible exact LeO.refl _)
  | (with_reducible exact LeO.none _)
  | (with_reducible refine LeO.ite ?_ ?_)
  | (with_reducible refine LeO.bind ?_ (fun _ => ?_))
  | exact ih0 _ _ _ _
  | exact LeO.none _
  | refine LeO.ite ?_ ?_
  | refine LeO.bind ?_ (fun _ => ?_)
set_option maxHeartbeats 8000000 in
set_option maxRecDepth 100000 in
theorem spec_l3Find.calls (k : Nat) (a0_0 : Int) (A0_1 : Option Addr) (c0_1 : Nat) (l0_1 : List (S134)) (a1 : Int) (r : Int) (w : World) (hr0_1 : Kd.C k134 w A0_1 l0_1.length l0_1) (hc0_1 : l0_1.length ≤ c0_1) (h : spec_l3Find.f k a0_0 l0_1 a1 = some r) :
 Calls Try.prog 110 #[.agg #[.int .i64 a0_0, .slice A0_1 l0_1.length c0_1], .int .i64 a1] w fun e w' => e = .returned (.int .i64 r) ∧ Below w.heap.size w w' := by
 have hu70 := Try.underlying70
 have HR0_1 := aM hr0_1
 have HC0_1 := aM hc0_1
 clear hr0_1 hc0_1
 have HB := aM (Below.refl w.heap.size w)
 have H : (spec_l3Find.l0 k a1 0 a0_0 l0_1) = some r := h
 clear h
 have H' := aM H
 clear H
 go_enter Try.func110, Try.ntmps110
 go_wp2_with (first | ((with_reducible refine gate_dst (N := 2) rfl ?_); refine box_event ?hg (N := 2) ?hd (cs := #[.int .i64 a0_0, .slice A0_1 l0_1.length c0_1]) (t := 70) ?hr ?_; (case hd => rfl); (case hg => rfl); (case hr => first | (go_simp; done) | (go_simp; rfl)); intro gb168 hg w3 hbox hb; have BK168 := aM (hbox); have GW168 := aM (xge hg); have GE168 := aM (xge hg); replace HB := xbs hb; clear hb hbox hg))
 go_loopg [5] k (fun kq v5 w' => ∃ (x5_1 : Int), v5 = .int .i64 x5_1 ∧ Aside0 (spec_l3Find.l0 kq a1 x5_1 a0_0 l0_1 = some r) ∧ Aside0 (kq ≤ k) ∧ Aside0 (w'.heap[gb168]? = some (.cells #[.int .i64 a0_0, (.slice A0_1 l0_1.length c0_1)] 70 (0, 0))) ∧ Aside0 (Below w.heap.size w w'))
 case atStart => exact ⟨(0), (by first | rfl | (simp; done) | (simp [*]; done)), H', ⟨Nat.le_refl _⟩, ⟨xblk⟩, ⟨xbg⟩⟩
 case round =>
  clear H'
  try clear c1
  try clear p2
  obtain ⟨x5_1, rfl, HA, HK1, BK168, HB⟩ := hrel
  cases gk with
  | zero => exact absurd HA.out (by simp [spec_l3Find.l0])
  | succ k1 =>
   have H := HA.out; clear HA
   simp only [spec_l3Find.l0] at H
   by_cases c4 : x5_1 < (l0_1.length : Int)
   ·rw [if_pos c4] at H
    have c4b0 : decide (x5_1 < (l0_1.length : Int)) = true := decide_eq_true c4; clear c4
    by_cases c5 : 0 ≤ x5_1
    ·rw [if_pos c5] at H
     have c5b0 : decide (0 ≤ x5_1) = true := decide_eq_true c5; clear c5
     by_cases c6 : ((rd_T134 l0_1 x5_1).f0) = a1
     ·rw [if_pos c6] at H
      have c6b0 : (((rd_T134 l0_1 x5_1).f0) == a1) = true := beq_iff_eq.mpr c6; have c6b1 : (((rd_T134 l0_1 x5_1).f0) != a1) = false := bne_eq_false_iff_eq.mpr c6; clear c6
      obtain rfl := Option.some.inj H
      obtain ⟨hcz7_0, hcz7_1, hfz7_0, hfz7_1⟩ := xf2 (w := wr) BK168; have p169 : 0 ≤ (x5_1 : Int) := oda; have q169 : x5_1 < (l0_1.length : Int) := oda
      obtain ⟨ad169, e169, hx169_0, hx169_1, hx169_2⟩ := at_T134 HR0_1.out x5_1 p169 q169
      cases e169
      replace hx169_0 := xce HB hx169_0; replace hx169_1 := xce HB hx169_1; replace hx169_2 := xce HB hx169_2; replace p169 := eq_true p169; replace q169 := eq_true q169
      go_wp2
      go_ret
      exact ⟨by first | rfl | (simp [errW_none, errW_some] <;> rfl) | (simp [*, errW_none, errW_some] <;> rfl), xbg⟩
     ·rw [if_neg c6] at H
      have c6b0 : (((rd_T134 l0_1 x5_1).f0) == a1) = false := beq_eq_false_iff_ne.mpr c6; have c6b1 : (((rd_T134 l0_1 x5_1).f0) != a1) = true := bne_iff_ne.mpr c6
      have H' := aM H
      clear H; obtain ⟨hcz8_0, hcz8_1, hfz8_0, hfz8_1⟩ := xf2 (w := wr) BK168; have p169 : 0 ≤ (x5_1 : Int) := oda; have q169 : x5_1 < (l0_1.length : Int) := oda
      obtain ⟨ad169, e169, hx169_0, hx169_1, hx169_2⟩ := at_T134 HR0_1.out x5_1 p169 q169
      cases e169
      replace hx169_0 := xce HB hx169_0; replace hx169_1 := xce HB hx169_1; replace hx169_2 := xce HB hx169_2; replace p169 := eq_true p169; replace q169 := eq_true q169
      go_wp2
      go_roundg k1
      case measure => have := HK1.out; omega
      case rel => exact ⟨(wrap64 (x5_1 + 1)), (by first | rfl | (simp; done) | (simp [*]; done)), H', ⟨by have := HK1.out; omega⟩, ⟨xblk⟩, ⟨xbg⟩⟩
    ·rw [if_neg c5] at H
     exact absurd H (by simp)
   ·rw [if_neg c4] at H
    have c4b0 : decide (x5_1 < (l0_1.length : Int)) = false := decide_eq_false c4; clear c4
    obtain rfl := Option.some.inj H
    obtain ⟨hcz9_0, hcz9_1, hfz9_0, hfz9_1⟩ := xf2 (w := wr) BK168
    go_wp2
    go_ret
    exact ⟨by first | rfl | (simp [errW_none, errW_some] <;> rfl) | (simp [*, errW_none, errW_some] <;> rfl), xbg⟩

end Go.Proofs.Ytnjpfllmcmomoaa.QFnExactDiskMove
