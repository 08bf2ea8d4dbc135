-- A walk, by a program of this session.
import Derived.Test.YtnjpfllmcmomoaaQFnFilesx0
import Derived.Test.YtnjpfllmcmomoaaQFnFilesx1
import Derived.Test.YtnjpfllmcmomoaaQFnFilesx3
import Derived.Test.YtnjpfllmcmomoaaQFnFilesx4
namespace Go.Proofs.Ytnjpfllmcmomoaa.QFnFiles
open Go.RowKit Go.Proofs.YtnjpfllmcmomoaaW.PrintWords Go.Proofs.YtnjpfllmcmomoaaW.PrintLast Go.Proofs.YtnjpfllmcmomoaaW.PrintMore
attribute [local go_sem] max2_int min2_int max_two min_two max_three min_three max_four min_four   -- for this text's walks alone
set_option linter.unusedVariables false
set_option linter.unusedSimpArgs false

/-! ### impl_DiskCut: function 50 -/
def impl_DiskCut.j0 : Nat → Int → Int → Bool → Int → List (S134) → Option (Int × (List (S134)) × Int)
 | 0, _, _, _, _, _ => none
 | k + 1, x1, x2, x19, x414000, x414001 => if x19 = true then (some (0, ([] : List (S134)), 1)) else ((impl_copyDisk.f x414000 x414001).bind fun bt417 => ((impl_fileAt.f x414000 x414001 x1).bind fun t422 => (if t422 < 0 then (some (bt417.1, bt417.2, 2)) else (if 0 ≤ t422 then (if t422 < (x414001.length : Int) then ((impl_within.f x2 0 (wrap64 ((((rd_T134 x414001 t422).f1).size : Int) + (((rd_T134 x414001 t422).f2).size : Int)))).bind fun t425 => (if t425 = true then (if 0 ≤ (mn x2 (((rd_T134 x414001 t422).f1).size : Int)) then (if (mn x2 (((rd_T134 x414001 t422).f1).size : Int)) ≤ (((rd_T134 x414001 t422).f1).size : Int) then (if 0 ≤ (wrap64 (x2 - (mn x2 (((rd_T134 x414001 t422).f1).size : Int)))) then (if (wrap64 (x2 - (mn x2 (((rd_T134 x414001 t422).f1).size : Int)))) ≤ (((rd_T134 x414001 t422).f2).size : Int) then (if t422 < (bt417.2.length : Int) then (some (bt417.1, (bt417.2.set (t422 : Int).toNat (⟨x1, ((rd_T134 x414001 t422).f1).extract 0 ((mn x2 (((rd_T134 x414001 t422).f1).size : Int)) : Int).toNat, ((rd_T134 x414001 t422).f2).extract 0 ((wrap64 (x2 - (mn x2 (((rd_T134 x414001 t422).f1).size : Int)))) : Int).toNat⟩ : S134)), 0)) else (none)) else (none)) else (none)) else (none)) else (none)) else (some (bt417.1, bt417.2, 2)))) else (none)) else (none)))))
def impl_DiskCut.f (k : Nat) (a0_0 : Int) (l0_1 : List (S134)) (a1 : Int) (a2 : Int) : Option (Int × (List (S134)) × Int) := (impl_DiskOk.f k a0_0 l0_1).bind fun t415 => (if t415 = true then ((impl_isFile.f a1).bind fun t416 => (impl_DiskCut.j0 k a1 a2 (!t416) a0_0 l0_1)) else (impl_DiskCut.j0 k a1 a2 true a0_0 l0_1))
set_option maxRecDepth 100000 in
theorem impl_DiskCut.mono_l : ∀ k, (∀ y0 y1 y2 y3 y4, LeO (impl_DiskCut.j0 k y0 y1 y2 y3 y4) (impl_DiskCut.j0 (k + 1) y0 y1 y2 y3 y4))
 | 0 => fun _ _ _ _ _ r h => by simp [impl_DiskCut.j0] at h
 | k + 1 => by
  have ih0 := impl_DiskCut.mono_l k
  ·intro y0 y1 y2 y3 y4
   unfold impl_DiskCut.j0
   repeat' first
   | (with_reducible exact ih0 _ _ _ _ _)
   | (with_reducible exact impl_DiskOk.mono _ _ _)
   | (with_reducible exact LeO.refl _)
   | (with_reducible exact LeO.none _)
   | (with_reducible refine LeO.ite ?_ ?_)
   | (with_reducible refine LeO.bind ?_ (fun _ => ?_))
   | exact ih0 _ _ _ _ _
   | exact impl_DiskOk.mono _ _ _
   | exact LeO.none _
   | refine LeO.ite ?_ ?_
   | refine LeO.bind ?_ (fun _ => ?_)
theorem impl_DiskCut.mono : ∀ a0 a1 a2 a3 k, LeO (impl_DiskCut.f k a0 a1 a2 a3) (impl_DiskCut.f (k + 1) a0 a1 a2 a3) := by
 intro a0 a1 a2 a3 k
 have ih0 := impl_DiskCut.mono_l k
 unfold impl_DiskCut.f
 repeat' first
  | (with_reducible exact ih0 _ _ _ _ _)
  | (with_reducible exact impl_DiskOk.mono _ _ _)
  | (with_reducible exact LeO.refl _)
  | (with_reducible exact LeO.none _)
  | (with_reducible refine LeO.ite ?_ ?_)
  | (with_reducible refine LeO.bind ?_ (fun _ => ?_))
  | exact ih0 _ _ _ _ _
  | exact impl_DiskOk.mono _ _ _
  | exact LeO.none _
  | refine LeO.ite ?_ ?_
  | refine LeO.bind ?_ (fun _ => ?_)
def impl_DiskCut.T5 : Bool × List (List Nat × List Nat) := (true, [([], []), ([0], [0]), ([1], [1]), ([2], [2]), ([2], [2]), ([4, 2], [2, 4]), ([2], [2]), ([5, 6, 2], [2, 5, 6]), ([7, 2], [2, 7]), ([8, 2], [2, 8]), ([9, 2], [2, 9]), ([2], [2]), ([11, 2], [2, 11]), ([2], [2]), ([12, 13, 2], [2, 12, 13]), ([14, 2], [2, 14]), ([15, 2], [2, 15]), ([16, 2], [2, 16]), ([10, 17, 2], [2, 10, 17]), ([3, 18, 2, 2], [2, 3, 18]), ([19, 2], [2, 19]), ([2, 20], [2, 20])])
def impl_DiskCut.B5 : List Nat := [0, 1, 3, 7, 7, 23, 7, 119, 247, 503, 1015, 7, 2055, 7, 14343, 30727, 63495, 129031, 262135, 524287, 1048575, 2097151]
theorem impl_DiskCut.tab5 : rtab .any (opsOf Try.f50 5) = impl_DiskCut.T5 := by kernel_rfl
theorem impl_DiskCut.bits5 : waitsOk impl_DiskCut.T5.2 impl_DiskCut.B5 = true := by kernel_rfl
def impl_DiskCut.T9 : Bool × List (List Nat × List Nat) := (true, [([], []), ([0], [0]), ([], []), ([], []), ([], []), ([4], [4]), ([], []), ([5, 6], [5, 6]), ([], []), ([8], [8]), ([], []), ([], []), ([10, 11], [10, 11]), ([9, 12], [9, 12]), ([3, 7, 13], [3, 7, 13]), ([1, 2, 0, 1, 2, 3, 4, 5, 6, 7, 8, 9, 10, 11, 12, 13, 14], [1, 2]), ([15, 14, 0, 1, 2, 3, 4, 5, 6, 7, 8, 9, 10, 11, 12, 13, 14], [14, 15])])
def impl_DiskCut.B9 : List Nat := [0, 1, 0, 0, 0, 16, 0, 112, 0, 256, 0, 0, 3072, 7936, 16376, 32767, 65535]
theorem impl_DiskCut.tab9 : rtab .any (opsOf Try.f50 9) = impl_DiskCut.T9 := by kernel_rfl
theorem impl_DiskCut.bits9 : waitsOk impl_DiskCut.T9.2 impl_DiskCut.B9 = true := by kernel_rfl
set_option maxHeartbeats 8000000 in
set_option maxRecDepth 100000 in
theorem impl_DiskCut.calls (k : Nat) (a0_0 : Int) (A0_1 : Option Addr) (c0_1 : Nat) (l0_1 : List (S134)) (a1 : Int) (a2 : Int) (r1 : Int) (r2 : List (S134)) (r3 : Int) (w : World) (hr0_1 : Kd.C k134 w A0_1 l0_1.length l0_1) (hc0_1 : l0_1.length ≤ c0_1) (h : impl_DiskCut.f k a0_0 l0_1 a1 a2 = some (r1, r2, r3)) :
 Calls Try.prog 50 #[.agg #[.int .i64 a0_0, .slice A0_1 l0_1.length c0_1], .int .i64 a1, .int .i64 a2] w fun e w' => ∃ v1_ : Value, e = .returned (.tuple #[.agg #[.int .i64 r1, v1_], .int .i64 r3]) ∧ Kd.R k134 134 w' w.heap.size (fun _ => True) v1_ r2 ∧ Below w.heap.size w w' := by
 have hu70 := Try.underlying70
 have hu134 := Try.underlying134
 have HR0_1 := aM hr0_1
 have HC0_1 := aM hc0_1
 clear hr0_1 hc0_1
 have HB := aM (Below.refl w.heap.size w)
 have H : ((impl_DiskOk.f k a0_0 l0_1).bind fun t415 => (if t415 = true then ((impl_isFile.f a1).bind fun t416 => (impl_DiskCut.j0 k a1 a2 (!t416) a0_0 l0_1)) else (impl_DiskCut.j0 k a1 a2 true a0_0 l0_1))) = some (r1, r2, r3) := h
 clear h
 have HC4 := aM H
 clear H
 go_enter Try.func50, Try.ntmps50
 go_upto_region 1 with (first | ((with_reducible refine gate_dst (N := 3) rfl ?_); (try (refine gate_guard (by rfl) ?_; dsimp only)); refine box_event ?hg (N := 3) ?hd (cs := #[.int .i64 a0_0, .slice A0_1 l0_1.length c0_1]) (t := 70) ?hr ?_; (case hd => rfl); (case hg => rfl); (case hr => first | (go_simp; done) | (go_simp; rfl)); intro gb413 hg w5 hbox hb; have BK413 := aM (hbox); have GW413 := aM (xge hg); have GE413 := aM (xge hg); replace HB := xbs hb; clear hb hbox hg) | ((with_reducible refine gate_dst (N := 6) rfl ?_); (try (refine gate_guard (by rfl) ?_; dsimp only)); refine box_event ?hg (N := 6) ?hd (cs := #[.int .i64 0, .slice none 0 0]) (t := 70) ?hr ?_; (case hd => rfl); (case hg => rfl); (case hr => first | (go_simp; done) | (go_simp; rfl)); intro gb414 hg w6 hbox hb; have GW414 := aM (xge hg); have GE414 := aM (xge hg); replace HB := xbs hb; have NB413_414 := aM ((by rw [hg]; exact Nat.ne_of_lt (blk_lt (g := gb413) (o := .cells #[.int .i64 a0_0, .slice A0_1 l0_1.length c0_1] 70 (0, 0)) xblk) : gb413 ≠ gb414)); have NB414_413 := aM ((by rw [hg]; exact Nat.ne_of_gt (blk_lt (g := gb413) (o := .cells #[.int .i64 a0_0, .slice A0_1 l0_1.length c0_1] 70 (0, 0)) xblk) : gb414 ≠ gb413)); replace BK413 := xbb BK413 hb; have BK414 := aM (hbox); clear hb hbox hg))
 (try simp only [Act.put, List.setIfInBounds_toArray, List.set_cons_zero, List.set_cons_succ])
 go_cut [19] (fun v19 wc => ∃ (kq : Nat) (x19_3 : Bool), v19 = .bool x19_3 ∧ Aside0 (impl_DiskCut.j0 kq a1 a2 x19_3 a0_0 l0_1 = some (r1, r2, r3)) ∧ Aside0 (kq ≤ k) ∧ Aside0 (wc.heap[gb413]? = some (.cells #[.int .i64 a0_0, (.slice A0_1 l0_1.length c0_1)] 70 (0, 0))) ∧ Aside0 (wc.heap[gb414]? = some (.cells #[.int .i64 0, (.slice none 0 0)] 70 (0, 0))) ∧ Aside0 (Below w.heap.size w wc))
 case first =>
  have H := HC4.out; clear HC4; replace H := Option.bind_eq_some_iff.mp H
  obtain ⟨t415, A70, H⟩ := H
  replace H : (if t415 = true then ((impl_isFile.f a1).bind fun t416 => (impl_DiskCut.j0 k a1 a2 (!t416) a0_0 l0_1)) else (impl_DiskCut.j0 k a1 a2 true a0_0 l0_1)) = some (r1, r2, r3) := H; have A7 := aM A70; clear A70
  by_cases c8 : t415 = true
  ·subst c8
   have H1 : ((impl_isFile.f a1).bind fun t416 => (impl_DiskCut.j0 k a1 a2 (!t416) a0_0 l0_1)) = some (r1, r2, r3) := by rw [if_pos rfl] at H; exact H
   clear H; have H := H1; clear H1; replace H := Option.bind_eq_some_iff.mp H
   obtain ⟨t416, A90, H⟩ := H
   replace H : (impl_DiskCut.j0 k a1 a2 (!t416) a0_0 l0_1) = some (r1, r2, r3) := H; have A9 := aM A90; clear A90
   have H' := aM H
   clear H; have hnb10 := NB413_414.out; have hnc10 := NB414_413.out; obtain ⟨hcz11_0, hcz11_1, hfz11_0, hfz11_1⟩ := xf2 (w := w6) BK413
   go_wp2_with (first | ((with_reducible refine gate_callee (f := 52) rfl ?_); refine goesL_ (some 13) rfl rfl Try.func52 (by kernel_rfl) rfl #[.agg #[.int .i64 a0_0, .slice A0_1 l0_1.length c0_1]] rfl (by (try simp only [List.map_toArray, List.map_cons, List.map_nil]); first | done | rfl | (simp only [List.length_drop, List.length_take]; rfl)) ?_; (with_reducible refine (impl_DiskOk.calls k a0_0 _ _ l0_1 true _ ?side1 ?side2 A7.out).mono ?_); (case side1 => exact xcb HR0_1); (case side2 => exact HC0_1.out); rintro e w12 ⟨rfl, hb⟩; refine ⟨_, rfl, ?_⟩; replace BK413 := xbb BK413 hb; replace BK414 := xbb BK414 hb; replace HB := xbs hb; (try clear hb); (try clear hb2); (try clear hk); (try clear hi)) | (go_at_call 113; (with_reducible refine (impl_isFile.calls a1 t416 _ A9.out).mono ?_); rintro e w' ⟨rfl, ⟨nd, rfl⟩⟩))
   go_meet
   case rel => exact ⟨_, (!t416), (by first | rfl | (simp; done) | (simp [*]; done)), H', ⟨by first | omega | exact Nat.le_refl _⟩, ⟨xblk⟩, ⟨xblk⟩, ⟨xbg⟩⟩
  ·replace c8 := Bool.eq_false_iff.mpr c8
   subst c8
   have H1 : (impl_DiskCut.j0 k a1 a2 true a0_0 l0_1) = some (r1, r2, r3) := by rw [if_neg (show ¬ (false = true) by decide)] at H; exact H
   clear H; have H := H1; clear H1
   have H' := aM H
   clear H; have hnb13 := NB413_414.out; have hnc13 := NB414_413.out; obtain ⟨hcz14_0, hcz14_1, hfz14_0, hfz14_1⟩ := xf2 (w := w6) BK413
   go_wp2_with (first | ((with_reducible refine gate_callee (f := 52) rfl ?_); refine goesL_ (some 13) rfl rfl Try.func52 (by kernel_rfl) rfl #[.agg #[.int .i64 a0_0, .slice A0_1 l0_1.length c0_1]] rfl (by (try simp only [List.map_toArray, List.map_cons, List.map_nil]); first | done | rfl | (simp only [List.length_drop, List.length_take]; rfl)) ?_; (with_reducible refine (impl_DiskOk.calls k a0_0 _ _ l0_1 false _ ?side1 ?side2 A7.out).mono ?_); (case side1 => exact xcb HR0_1); (case side2 => exact HC0_1.out); rintro e w15 ⟨rfl, hb⟩; refine ⟨_, rfl, ?_⟩; replace BK413 := xbb BK413 hb; replace BK414 := xbb BK414 hb; replace HB := xbs hb; (try clear hb); (try clear hb2); (try clear hk); (try clear hi)))
   go_meet
   case rel => exact ⟨_, (true), (by first | rfl | (simp; done) | (simp [*]; done)), H', ⟨by first | omega | exact Nat.le_refl _⟩, ⟨xblk⟩, ⟨xblk⟩, ⟨xbg⟩⟩
 case rest =>
  clear HC4
  try clear c1
  try clear p2
  try clear c5
  try clear c8
  try clear c10
  try clear c13
  try clear hcz11_0
  try clear hcz11_1
  try clear hcz14_0
  try clear hcz14_1
  try clear hfz11_0
  try clear hfz11_1
  try clear hfz14_0
  try clear hfz14_1
  obtain ⟨kq, x19_3, rfl, HA, HJ3, BK413, BK414, HB⟩ := hcut
  cases kq with
  | zero => exact absurd HA.out (by simp [impl_DiskCut.j0])
  | succ kj3 =>
   have H := HA.out; clear HA
   simp only [impl_DiskCut.j0] at H
   by_cases c16 : x19_3 = true
   ·subst c16
    have H1 : (some (0, ([] : List (S134)), 1)) = some (r1, r2, r3) := by rw [if_pos rfl] at H; exact H
    clear H; have H := H1; clear H1
    simp only [Option.some.injEq, Prod.mk.injEq] at H
    obtain ⟨rfl, rfl, rfl⟩ := H
    have hnb17 := NB414_413.out; have hnc17 := NB413_414.out; obtain ⟨hcz18_0, hcz18_1, hfz18_0, hfz18_1⟩ := xf2 (w := wc) BK414
    go_wp2
    refine bodyPost_ret (results_ct rfl _ _ gb414 70 #[.int .i64 0, .slice none 0 0] (0, 0) _ rfl (by (with_reducible repeat (first | refine blk_drewN ?_ _ | refine blk_drew ?_ | refine blk_alloc ?_ _)); refine blk_put (cs := #[.int .i64 0, .slice none 0 0]) ?_ 1 _ rfl; (with_reducible repeat (first | refine blk_drewN ?_ _ | refine blk_drew ?_ | refine blk_alloc ?_ _)); refine blk_put (cs := #[.int .i64 0, .slice none 0 0]) ?_ 0 _ rfl; (with_reducible repeat (first | refine blk_drewN ?_ _ | refine blk_drew ?_ | refine blk_alloc ?_ _)); exact BK414.out) Try.underlying70 rfl (by kernel_rfl)) rfl ?_
    exact ⟨_, by first | rfl | (simp [errW_none, errW_some] <;> rfl) | (simp [*, errW_none, errW_some] <;> rfl), by first | exact Kd.R_nil _ _ _ _ _ | exact Kd.N_nil _ _ _ _ _ | exact Kd.V_nil _ _ _ _ _ | exact Kd.Q_nil _ _ _ _ _ | exact Kd.S_nil _ _ _ _ _, xbg⟩
   ·replace c16 := Bool.eq_false_iff.mpr c16
    subst c16
    have H1 : ((impl_copyDisk.f a0_0 l0_1).bind fun bt417 => ((impl_fileAt.f a0_0 l0_1 a1).bind fun t422 => (if t422 < 0 then (some (bt417.1, bt417.2, 2)) else (if 0 ≤ t422 then (if t422 < (l0_1.length : Int) then ((impl_within.f a2 0 (wrap64 ((((rd_T134 l0_1 t422).f1).size : Int) + (((rd_T134 l0_1 t422).f2).size : Int)))).bind fun t425 => (if t425 = true then (if 0 ≤ (mn a2 (((rd_T134 l0_1 t422).f1).size : Int)) then (if (mn a2 (((rd_T134 l0_1 t422).f1).size : Int)) ≤ (((rd_T134 l0_1 t422).f1).size : Int) then (if 0 ≤ (wrap64 (a2 - (mn a2 (((rd_T134 l0_1 t422).f1).size : Int)))) then (if (wrap64 (a2 - (mn a2 (((rd_T134 l0_1 t422).f1).size : Int)))) ≤ (((rd_T134 l0_1 t422).f2).size : Int) then (if t422 < (bt417.2.length : Int) then (some (bt417.1, (bt417.2.set (t422 : Int).toNat (⟨a1, ((rd_T134 l0_1 t422).f1).extract 0 ((mn a2 (((rd_T134 l0_1 t422).f1).size : Int)) : Int).toNat, ((rd_T134 l0_1 t422).f2).extract 0 ((wrap64 (a2 - (mn a2 (((rd_T134 l0_1 t422).f1).size : Int)))) : Int).toNat⟩ : S134)), 0)) else (none)) else (none)) else (none)) else (none)) else (none)) else (some (bt417.1, bt417.2, 2)))) else (none)) else (none))))) = some (r1, r2, r3) := by rw [if_neg (show ¬ (false = true) by decide)] at H; exact H
    clear H; have H := H1; clear H1; replace H := Option.bind_eq_some_iff.mp H
    obtain ⟨⟨t417, t418⟩, A190, H⟩ := H
    replace H : ((impl_fileAt.f a0_0 l0_1 a1).bind fun t422 => (if t422 < 0 then (some (t417, t418, 2)) else (if 0 ≤ t422 then (if t422 < (l0_1.length : Int) then ((impl_within.f a2 0 (wrap64 ((((rd_T134 l0_1 t422).f1).size : Int) + (((rd_T134 l0_1 t422).f2).size : Int)))).bind fun t425 => (if t425 = true then (if 0 ≤ (mn a2 (((rd_T134 l0_1 t422).f1).size : Int)) then (if (mn a2 (((rd_T134 l0_1 t422).f1).size : Int)) ≤ (((rd_T134 l0_1 t422).f1).size : Int) then (if 0 ≤ (wrap64 (a2 - (mn a2 (((rd_T134 l0_1 t422).f1).size : Int)))) then (if (wrap64 (a2 - (mn a2 (((rd_T134 l0_1 t422).f1).size : Int)))) ≤ (((rd_T134 l0_1 t422).f2).size : Int) then (if t422 < (t418.length : Int) then (some (t417, (t418.set (t422 : Int).toNat (⟨a1, ((rd_T134 l0_1 t422).f1).extract 0 ((mn a2 (((rd_T134 l0_1 t422).f1).size : Int)) : Int).toNat, ((rd_T134 l0_1 t422).f2).extract 0 ((wrap64 (a2 - (mn a2 (((rd_T134 l0_1 t422).f1).size : Int)))) : Int).toNat⟩ : S134)), 0)) else (none)) else (none)) else (none)) else (none)) else (none)) else (some (t417, t418, 2)))) else (none)) else (none)))) = some (r1, r2, r3) := H; have A19 := aM A190; clear A190; replace H := Option.bind_eq_some_iff.mp H
    obtain ⟨t422, A200, H⟩ := H
    replace H : (if t422 < 0 then (some (t417, t418, 2)) else (if 0 ≤ t422 then (if t422 < (l0_1.length : Int) then ((impl_within.f a2 0 (wrap64 ((((rd_T134 l0_1 t422).f1).size : Int) + (((rd_T134 l0_1 t422).f2).size : Int)))).bind fun t425 => (if t425 = true then (if 0 ≤ (mn a2 (((rd_T134 l0_1 t422).f1).size : Int)) then (if (mn a2 (((rd_T134 l0_1 t422).f1).size : Int)) ≤ (((rd_T134 l0_1 t422).f1).size : Int) then (if 0 ≤ (wrap64 (a2 - (mn a2 (((rd_T134 l0_1 t422).f1).size : Int)))) then (if (wrap64 (a2 - (mn a2 (((rd_T134 l0_1 t422).f1).size : Int)))) ≤ (((rd_T134 l0_1 t422).f2).size : Int) then (if t422 < (t418.length : Int) then (some (t417, (t418.set (t422 : Int).toNat (⟨a1, ((rd_T134 l0_1 t422).f1).extract 0 ((mn a2 (((rd_T134 l0_1 t422).f1).size : Int)) : Int).toNat, ((rd_T134 l0_1 t422).f2).extract 0 ((wrap64 (a2 - (mn a2 (((rd_T134 l0_1 t422).f1).size : Int)))) : Int).toNat⟩ : S134)), 0)) else (none)) else (none)) else (none)) else (none)) else (none)) else (some (t417, t418, 2)))) else (none)) else (none))) = some (r1, r2, r3) := H; have A20 := aM A200; clear A200
    by_cases c21 : t422 < 0
    ·rw [if_pos c21] at H
     have c21b0 : decide (t422 < 0) = true := decide_eq_true c21; clear c21
     simp only [Option.some.injEq, Prod.mk.injEq] at H
     obtain ⟨rfl, rfl, rfl⟩ := H
     have hnb22 := NB413_414.out; have hnc22 := NB414_413.out; obtain ⟨hcz23_0, hcz23_1, hfz23_0, hfz23_1⟩ := xf2 (w := wc) BK413
     try go_wp2_with (first | ((with_reducible refine gate_callee (f := 115) rfl ?_); refine goesL_ (some 22) rfl rfl Try.func115 (by kernel_rfl) rfl #[.agg #[.int .i64 a0_0, .slice A0_1 l0_1.length c0_1]] rfl (by (try simp only [List.map_toArray, List.map_cons, List.map_nil]); first | done | rfl | (simp only [List.length_drop, List.length_take]; rfl)) ?_; (with_reducible refine (impl_copyDisk.calls a0_0 _ _ l0_1 t417 t418 _ ?side1 ?side2 A19.out).mono ?_); (case side1 => exact xcb HR0_1); (case side2 => exact HC0_1.out); rintro e w24 ⟨v419, rfl, ho0, hb⟩; refine ⟨_, rfl, ?_⟩; have HO420 := aM (Kd.R_lower ho0 (below_size xbg)); replace BK413 := xbb BK413 hb; replace BK414 := xbb BK414 hb; replace HB := xbs hb; (try clear hb); (try clear hb2); (try clear hk); (try clear hi); (try clear ho0)) | ((with_reducible refine gate_dst (N := 8) rfl ?_); (try (refine gate_guard (by rfl) ?_; dsimp only)); refine box_event ?hg (N := 8) ?hd (cs := #[.int .i64 0, .slice none 0 0]) (t := 70) ?hr ?_; (case hd => rfl); (case hg => rfl); (case hr => first | (go_simp; done) | (go_simp; rfl)); intro gb421 hg w25 hbox hb; replace HO420 := aM (Kd.R_below (xr HO420) hb); have GW421 := aM (xge hg); have GE421 := aM (xge hg); replace HB := xbs hb; have NB413_421 := aM ((by rw [hg]; exact Nat.ne_of_lt (blk_lt (g := gb413) (o := .cells #[.int .i64 a0_0, .slice A0_1 l0_1.length c0_1] 70 (0, 0)) xblk) : gb413 ≠ gb421)); have NB421_413 := aM ((by rw [hg]; exact Nat.ne_of_gt (blk_lt (g := gb413) (o := .cells #[.int .i64 a0_0, .slice A0_1 l0_1.length c0_1] 70 (0, 0)) xblk) : gb421 ≠ gb413)); have NB414_421 := aM ((by rw [hg]; exact Nat.ne_of_lt (blk_lt (g := gb414) (o := .cells #[.int .i64 0, .slice none 0 0] 70 (0, 0)) xblk) : gb414 ≠ gb421)); have NB421_414 := aM ((by rw [hg]; exact Nat.ne_of_gt (blk_lt (g := gb414) (o := .cells #[.int .i64 0, .slice none 0 0] 70 (0, 0)) xblk) : gb421 ≠ gb414)); replace BK413 := xbb BK413 hb; replace BK414 := xbb BK414 hb; have BK421 := aM (hbox); clear hb hbox hg; have hnb26 := NB421_413.out; have hnc26 := NB413_421.out; have hnb27 := NB421_414.out; have hnc27 := NB414_421.out; obtain ⟨hcz28_0, hcz28_1, hfz28_0, hfz28_1⟩ := xf2 (w := w25) BK421; obtain ⟨Ao29, co29, eo29⟩ := Kd.R_slice HO420.out; subst eo29; obtain ⟨hcz30_0, hcz30_1, hfz30_0, hfz30_1⟩ := xf2 (w := w25) BK413) | ((with_reducible refine gate_callee (f := 116) rfl ?_); refine goesL_ (some 25) rfl rfl Try.func116 (by kernel_rfl) rfl #[.agg #[.int .i64 a0_0, .slice A0_1 l0_1.length c0_1], .int .i64 a1] rfl (by (try simp only [List.map_toArray, List.map_cons, List.map_nil]); first | done | rfl | (simp only [List.length_drop, List.length_take]; rfl)) ?_; (with_reducible refine (impl_fileAt.calls a0_0 _ _ l0_1 a1 t422 _ ?side1 ?side2 A20.out).mono ?_); (case side1 => exact Kd.C_below HR0_1.out xbg); (case side2 => exact HC0_1.out); rintro e w31 ⟨rfl, hb⟩; refine ⟨_, rfl, ?_⟩; replace HO420 := aM (Kd.R_below (xrt (Kd.R_mono (Kd.R_far (p := ⟨gb421, 1, none⟩) (Kd.R_far (p := ⟨gb421, 0, none⟩) (Kd.R_types HO420.out BK421.out (by decide)) (fun _ hk => hk.2) (.int .i64 t417)) (fun _ hk => hk.2) (.slice Ao29 t418.length co29)) (fun _ h_ => h_.1))) hb); replace BK413 := aM (blk_below (g := gb413) (o := .cells #[.int .i64 a0_0, .slice A0_1 l0_1.length c0_1] 70 (0, 0)) (by (with_reducible repeat (first | refine blk_drewN ?_ _ | refine blk_drew ?_ | refine blk_alloc ?_ _)); refine blk_far ?_ NB413_421.out _; (with_reducible repeat (first | refine blk_drewN ?_ _ | refine blk_drew ?_ | refine blk_alloc ?_ _)); refine blk_far ?_ NB413_421.out _; (with_reducible repeat (first | refine blk_drewN ?_ _ | refine blk_drew ?_ | refine blk_alloc ?_ _)); exact BK413.out) hb); replace BK414 := aM (blk_below (g := gb414) (o := .cells #[.int .i64 0, .slice none 0 0] 70 (0, 0)) (by (with_reducible repeat (first | refine blk_drewN ?_ _ | refine blk_drew ?_ | refine blk_alloc ?_ _)); refine blk_far ?_ NB414_421.out _; (with_reducible repeat (first | refine blk_drewN ?_ _ | refine blk_drew ?_ | refine blk_alloc ?_ _)); refine blk_far ?_ NB414_421.out _; (with_reducible repeat (first | refine blk_drewN ?_ _ | refine blk_drew ?_ | refine blk_alloc ?_ _)); exact BK414.out) hb); replace BK421 := aM (blk_below (g := gb421) (o := .cells #[.int .i64 t417, .slice Ao29 t418.length co29] 70 (0, 0)) (by (with_reducible repeat (first | refine blk_drewN ?_ _ | refine blk_drew ?_ | refine blk_alloc ?_ _)); refine blk_put (cs := #[.int .i64 t417, .slice none 0 0]) ?_ 1 _ rfl; (with_reducible repeat (first | refine blk_drewN ?_ _ | refine blk_drew ?_ | refine blk_alloc ?_ _)); refine blk_put (cs := #[.int .i64 0, .slice none 0 0]) ?_ 0 _ rfl; (with_reducible repeat (first | refine blk_drewN ?_ _ | refine blk_drew ?_ | refine blk_alloc ?_ _)); exact BK421.out) hb); replace HB := xbs hb; (try clear hb); (try clear hb2); (try clear hk); (try clear hi)))
     replace HO420 := aM (Kd.R_drew HO420.out); replace BK413 := aM (blk_drew BK413.out); replace BK414 := aM (blk_drew BK414.out); replace BK421 := aM (blk_drew BK421.out); replace HB := aM (below_drew1 HB.out)
     refine start_ (n := 22) (S := fun w' => True) (ds := []) #[false, false, false, false, false, false, false, false, false, false, false, false, false, false, false, false, false, false, false, false, false, false] (by kernel_rfl) rfl rfl trivial (fun hHeld => ?_); refine with_tabW impl_DiskCut.tab5 impl_DiskCut.bits5 (fun HT_ HW_ => ?_)
     generalize w31.drew = w32 at HO420 BK413 BK414 BK421 HB hHeld ⊢
     refine pv_ 0 26 (h := ?_)
     refine pv_ 1 27 (h := ?_)
     refine pv_ 2 28 (h := ?_)
     refine pu_ 3 29 (h := ?_)
     refine pu_ 4 30 (h := ?_)
     refine pu_ 5 31 (h := ?_)
     refine pu_ 6 32 (h := ?_)
     refine pu_ 7 33 (h := ?_)
     refine pu_ 8 34 (h := ?_)
     refine pu_ 9 35 (h := ?_)
     refine pu_ 10 36 (h := ?_)
     refine pu_ 11 37 (h := ?_)
     refine pu_ 12 38 (h := ?_)
     refine pu_ 13 39 (h := ?_)
     refine pu_ 14 40 (h := ?_)
     refine pu_ 15 41 (h := ?_)
     refine pu_ 16 42 (h := ?_)
     refine pu_ 17 43 (h := ?_)
     refine pu_ 18 44 (h := ?_)
     refine pu_ 19 45 (h := ?_)
     refine pu_ 20 46 (h := ?_)
     refine pv_ 21 47 (h := ?_)
     refine done_ (done_of HT_.out (by kernel_rfl)) ?_
     obtain ⟨hcz33_0, hcz33_1, hfz33_0, hfz33_1⟩ := xf2 (w := w32) BK421; obtain ⟨hcz34_0, hcz34_1, hfz34_0, hfz34_1⟩ := xf2 (w := w32) BK414
     try go_wp2
     refine bodyPost_ret (results_ct rfl _ _ gb414 70 #[.int .i64 t417, .slice Ao29 t418.length co29] (0, 0) _ rfl (by (with_reducible repeat (first | refine blk_drewN ?_ _ | refine blk_drew ?_ | refine blk_alloc ?_ _)); refine blk_put (cs := #[.int .i64 t417, .slice none 0 0]) ?_ 1 _ rfl; (with_reducible repeat (first | refine blk_drewN ?_ _ | refine blk_drew ?_ | refine blk_alloc ?_ _)); refine blk_put (cs := #[.int .i64 0, .slice none 0 0]) ?_ 0 _ rfl; (with_reducible repeat (first | refine blk_drewN ?_ _ | refine blk_drew ?_ | refine blk_alloc ?_ _)); exact BK414.out) Try.underlying70 rfl (by kernel_rfl)) rfl ?_
     exact ⟨_, by first | rfl | (simp [errW_none, errW_some] <;> rfl) | (simp [*, errW_none, errW_some] <;> rfl), by (with_reducible repeat (first | apply Kd.R_alloc | apply Kd.R_drewN | apply Kd.R_drew)); exact Kd.R_mono (Kd.R_far (p := ⟨gb414, 1, none⟩) (Kd.R_far (p := ⟨gb414, 0, none⟩) (Kd.R_types HO420.out BK414.out (by decide)) (fun _ hk => hk.2) (.int .i64 t417)) (fun _ hk => hk.2) (.slice Ao29 t418.length co29)) (fun _ hk => trivial), xbg⟩
    ·rw [if_neg c21] at H
     have c21b0 : decide (t422 < 0) = false := decide_eq_false c21; clear c21
     by_cases c35 : 0 ≤ t422
     ·rw [if_pos c35] at H
      have c35b0 : decide (0 ≤ t422) = true := decide_eq_true c35; clear c35
      by_cases c36 : t422 < (l0_1.length : Int)
      ·rw [if_pos c36] at H
       have c36b0 : decide (t422 < (l0_1.length : Int)) = true := decide_eq_true c36; clear c36; replace H := Option.bind_eq_some_iff.mp H
       obtain ⟨t425, A370, H⟩ := H
       replace H : (if t425 = true then (if 0 ≤ (mn a2 (((rd_T134 l0_1 t422).f1).size : Int)) then (if (mn a2 (((rd_T134 l0_1 t422).f1).size : Int)) ≤ (((rd_T134 l0_1 t422).f1).size : Int) then (if 0 ≤ (wrap64 (a2 - (mn a2 (((rd_T134 l0_1 t422).f1).size : Int)))) then (if (wrap64 (a2 - (mn a2 (((rd_T134 l0_1 t422).f1).size : Int)))) ≤ (((rd_T134 l0_1 t422).f2).size : Int) then (if t422 < (t418.length : Int) then (some (t417, (t418.set (t422 : Int).toNat (⟨a1, ((rd_T134 l0_1 t422).f1).extract 0 ((mn a2 (((rd_T134 l0_1 t422).f1).size : Int)) : Int).toNat, ((rd_T134 l0_1 t422).f2).extract 0 ((wrap64 (a2 - (mn a2 (((rd_T134 l0_1 t422).f1).size : Int)))) : Int).toNat⟩ : S134)), 0)) else (none)) else (none)) else (none)) else (none)) else (none)) else (some (t417, t418, 2))) = some (r1, r2, r3) := H; have A37 := aM A370; clear A370
       by_cases c38 : t425 = true
       ·subst c38
        have H1 : (if 0 ≤ (mn a2 (((rd_T134 l0_1 t422).f1).size : Int)) then (if (mn a2 (((rd_T134 l0_1 t422).f1).size : Int)) ≤ (((rd_T134 l0_1 t422).f1).size : Int) then (if 0 ≤ (wrap64 (a2 - (mn a2 (((rd_T134 l0_1 t422).f1).size : Int)))) then (if (wrap64 (a2 - (mn a2 (((rd_T134 l0_1 t422).f1).size : Int)))) ≤ (((rd_T134 l0_1 t422).f2).size : Int) then (if t422 < (t418.length : Int) then (some (t417, (t418.set (t422 : Int).toNat (⟨a1, ((rd_T134 l0_1 t422).f1).extract 0 ((mn a2 (((rd_T134 l0_1 t422).f1).size : Int)) : Int).toNat, ((rd_T134 l0_1 t422).f2).extract 0 ((wrap64 (a2 - (mn a2 (((rd_T134 l0_1 t422).f1).size : Int)))) : Int).toNat⟩ : S134)), 0)) else (none)) else (none)) else (none)) else (none)) else (none)) = some (r1, r2, r3) := by rw [if_pos rfl] at H; exact H
        clear H; have H := H1; clear H1
        obtain ⟨ji39, hji39⟩ : ∃ j_ : Int, (mn a2 (((rd_T134 l0_1 t422).f1).size : Int)) = j_ := ⟨_, rfl⟩
        replace H : (if 0 ≤ (ji39) then (if (ji39) ≤ (((rd_T134 l0_1 t422).f1).size : Int) then (if 0 ≤ (wrap64 (a2 - (ji39))) then (if (wrap64 (a2 - (ji39))) ≤ (((rd_T134 l0_1 t422).f2).size : Int) then (if t422 < (t418.length : Int) then (some (t417, (t418.set (t422 : Int).toNat (⟨a1, ((rd_T134 l0_1 t422).f1).extract 0 ((ji39) : Int).toNat, ((rd_T134 l0_1 t422).f2).extract 0 ((wrap64 (a2 - (ji39))) : Int).toNat⟩ : S134)), 0)) else (none)) else (none)) else (none)) else (none)) else (none)) = some (r1, r2, r3) := by first | (rw [hji39] at H; exact H) | (simp only [hji39] at H ⊢; exact H)
        (try rw [hji39] at A19)
        (try rw [hji39] at A20)
        (try rw [hji39] at A37)
        have hji39_ : (if (((rd_T134 l0_1 t422).f1).size : Int) < a2 then (((rd_T134 l0_1 t422).f1).size : Int) else a2) = ji39 := hji39
        by_cases c40 : 0 ≤ (ji39)
        ·rw [if_pos c40] at H
         have c40b0 := eq_true c40; have c40b1 : decide (0 ≤ (ji39)) = true := decide_eq_true c40; clear c40
         by_cases c41 : (ji39) ≤ (((rd_T134 l0_1 t422).f1).size : Int)
         ·rw [if_pos c41] at H
          have c41b0 := eq_true c41; have c41b1 : decide ((ji39) ≤ (((rd_T134 l0_1 t422).f1).size : Int)) = true := decide_eq_true c41; clear c41
          obtain ⟨ji42, hji42⟩ : ∃ j_ : Int, (wrap64 (a2 - (ji39))) = j_ := ⟨_, rfl⟩
          replace H : (if 0 ≤ (ji42) then (if (ji42) ≤ (((rd_T134 l0_1 t422).f2).size : Int) then (if t422 < (t418.length : Int) then (some (t417, (t418.set (t422 : Int).toNat (⟨a1, ((rd_T134 l0_1 t422).f1).extract 0 ((ji39) : Int).toNat, ((rd_T134 l0_1 t422).f2).extract 0 ((ji42) : Int).toNat⟩ : S134)), 0)) else (none)) else (none)) else (none)) = some (r1, r2, r3) := by first | (rw [hji42] at H; exact H) | (simp only [hji42] at H ⊢; exact H)
          (try rw [hji42] at A19)
          (try rw [hji42] at A20)
          (try rw [hji42] at A37)
          have hji42w : (IntKind.i64.wrap (a2 - (ji39))) = ji42 := (i64_w _).trans hji42
          by_cases c43 : 0 ≤ (ji42)
          ·rw [if_pos c43] at H
           have c43b0 := eq_true c43; have c43b1 : decide (0 ≤ (ji42)) = true := decide_eq_true c43; clear c43
           by_cases c44 : (ji42) ≤ (((rd_T134 l0_1 t422).f2).size : Int)
           ·rw [if_pos c44] at H
            have c44b0 := eq_true c44; have c44b1 : decide ((ji42) ≤ (((rd_T134 l0_1 t422).f2).size : Int)) = true := decide_eq_true c44; clear c44
            by_cases c45 : t422 < (t418.length : Int)
            ·rw [if_pos c45] at H
             have c45b0 : decide (t422 < (t418.length : Int)) = true := decide_eq_true c45; clear c45
             obtain ⟨y428, hy428⟩ : ∃ y_ : List (S134), y_ = (t418.set (t422 : Int).toNat (⟨a1, ((rd_T134 l0_1 t422).f1).extract 0 ((ji39) : Int).toNat, ((rd_T134 l0_1 t422).f2).extract 0 ((ji42) : Int).toNat⟩ : S134)) := ⟨_, rfl⟩
             replace H : (some (t417, y428, 0)) = some (r1, r2, r3) := by first | (rw [hy428]; with_reducible exact H) | (have H2_ := (Option.bind_some _ _).symm.trans H; rw [hy428]; with_reducible exact H2_) | (have H2_ := (Option.bind_some _ _).symm.trans H; with_reducible exact H2_) | with_reducible exact H | (rw [hy428]; exact H) | exact H
             have Ny428 := aM hy428; clear hy428
             simp only [Option.some.injEq, Prod.mk.injEq] at H
             obtain ⟨rfl, rfl, rfl⟩ := H
             have hnb47 := NB413_414.out; have hnc47 := NB414_413.out; obtain ⟨hcz48_0, hcz48_1, hfz48_0, hfz48_1⟩ := xf2 (w := wc) BK413
             try go_wp2_with (first | ((with_reducible refine gate_callee (f := 115) rfl ?_); refine goesL_ (some 22) rfl rfl Try.func115 (by kernel_rfl) rfl #[.agg #[.int .i64 a0_0, .slice A0_1 l0_1.length c0_1]] rfl (by (try simp only [List.map_toArray, List.map_cons, List.map_nil]); first | done | rfl | (simp only [List.length_drop, List.length_take]; rfl)) ?_; (with_reducible refine (impl_copyDisk.calls a0_0 _ _ l0_1 t417 t418 _ ?side1 ?side2 A19.out).mono ?_); (case side1 => exact xcb HR0_1); (case side2 => exact HC0_1.out); rintro e w49 ⟨v419, rfl, ho0, hb⟩; refine ⟨_, rfl, ?_⟩; have HO420 := aM (Kd.R_lower ho0 (below_size xbg)); replace BK413 := xbb BK413 hb; replace BK414 := xbb BK414 hb; replace HB := xbs hb; (try clear hb); (try clear hb2); (try clear hk); (try clear hi); (try clear ho0)) | ((with_reducible refine gate_dst (N := 8) rfl ?_); (try (refine gate_guard (by rfl) ?_; dsimp only)); refine box_event ?hg (N := 8) ?hd (cs := #[.int .i64 0, .slice none 0 0]) (t := 70) ?hr ?_; (case hd => rfl); (case hg => rfl); (case hr => first | (go_simp; done) | (go_simp; rfl)); intro gb421 hg w50 hbox hb; replace HO420 := aM (Kd.R_below (xr HO420) hb); have GW421 := aM (xge hg); have GE421 := aM (xge hg); replace HB := xbs hb; have NB413_421 := aM ((by rw [hg]; exact Nat.ne_of_lt (blk_lt (g := gb413) (o := .cells #[.int .i64 a0_0, .slice A0_1 l0_1.length c0_1] 70 (0, 0)) xblk) : gb413 ≠ gb421)); have NB421_413 := aM ((by rw [hg]; exact Nat.ne_of_gt (blk_lt (g := gb413) (o := .cells #[.int .i64 a0_0, .slice A0_1 l0_1.length c0_1] 70 (0, 0)) xblk) : gb421 ≠ gb413)); have NB414_421 := aM ((by rw [hg]; exact Nat.ne_of_lt (blk_lt (g := gb414) (o := .cells #[.int .i64 0, .slice none 0 0] 70 (0, 0)) xblk) : gb414 ≠ gb421)); have NB421_414 := aM ((by rw [hg]; exact Nat.ne_of_gt (blk_lt (g := gb414) (o := .cells #[.int .i64 0, .slice none 0 0] 70 (0, 0)) xblk) : gb421 ≠ gb414)); replace BK413 := xbb BK413 hb; replace BK414 := xbb BK414 hb; have BK421 := aM (hbox); clear hb hbox hg; have hnb51 := NB421_413.out; have hnc51 := NB413_421.out; have hnb52 := NB421_414.out; have hnc52 := NB414_421.out; obtain ⟨hcz53_0, hcz53_1, hfz53_0, hfz53_1⟩ := xf2 (w := w50) BK421; obtain ⟨Ao54, co54, eo54⟩ := Kd.R_slice HO420.out; subst eo54; obtain ⟨hcz55_0, hcz55_1, hfz55_0, hfz55_1⟩ := xf2 (w := w50) BK413) | ((with_reducible refine gate_callee (f := 116) rfl ?_); refine goesL_ (some 25) rfl rfl Try.func116 (by kernel_rfl) rfl #[.agg #[.int .i64 a0_0, .slice A0_1 l0_1.length c0_1], .int .i64 a1] rfl (by (try simp only [List.map_toArray, List.map_cons, List.map_nil]); first | done | rfl | (simp only [List.length_drop, List.length_take]; rfl)) ?_; (with_reducible refine (impl_fileAt.calls a0_0 _ _ l0_1 a1 t422 _ ?side1 ?side2 A20.out).mono ?_); (case side1 => exact Kd.C_below HR0_1.out xbg); (case side2 => exact HC0_1.out); rintro e w56 ⟨rfl, hb⟩; refine ⟨_, rfl, ?_⟩; replace HO420 := aM (Kd.R_below (xrt (Kd.R_mono (Kd.R_far (p := ⟨gb421, 1, none⟩) (Kd.R_far (p := ⟨gb421, 0, none⟩) (Kd.R_types HO420.out BK421.out (by decide)) (fun _ hk => hk.2) (.int .i64 t417)) (fun _ hk => hk.2) (.slice Ao54 t418.length co54)) (fun _ h_ => h_.1))) hb); replace BK413 := aM (blk_below (g := gb413) (o := .cells #[.int .i64 a0_0, .slice A0_1 l0_1.length c0_1] 70 (0, 0)) (by (with_reducible repeat (first | refine blk_drewN ?_ _ | refine blk_drew ?_ | refine blk_alloc ?_ _)); refine blk_far ?_ NB413_421.out _; (with_reducible repeat (first | refine blk_drewN ?_ _ | refine blk_drew ?_ | refine blk_alloc ?_ _)); refine blk_far ?_ NB413_421.out _; (with_reducible repeat (first | refine blk_drewN ?_ _ | refine blk_drew ?_ | refine blk_alloc ?_ _)); exact BK413.out) hb); replace BK414 := aM (blk_below (g := gb414) (o := .cells #[.int .i64 0, .slice none 0 0] 70 (0, 0)) (by (with_reducible repeat (first | refine blk_drewN ?_ _ | refine blk_drew ?_ | refine blk_alloc ?_ _)); refine blk_far ?_ NB414_421.out _; (with_reducible repeat (first | refine blk_drewN ?_ _ | refine blk_drew ?_ | refine blk_alloc ?_ _)); refine blk_far ?_ NB414_421.out _; (with_reducible repeat (first | refine blk_drewN ?_ _ | refine blk_drew ?_ | refine blk_alloc ?_ _)); exact BK414.out) hb); replace BK421 := aM (blk_below (g := gb421) (o := .cells #[.int .i64 t417, .slice Ao54 t418.length co54] 70 (0, 0)) (by (with_reducible repeat (first | refine blk_drewN ?_ _ | refine blk_drew ?_ | refine blk_alloc ?_ _)); refine blk_put (cs := #[.int .i64 t417, .slice none 0 0]) ?_ 1 _ rfl; (with_reducible repeat (first | refine blk_drewN ?_ _ | refine blk_drew ?_ | refine blk_alloc ?_ _)); refine blk_put (cs := #[.int .i64 0, .slice none 0 0]) ?_ 0 _ rfl; (with_reducible repeat (first | refine blk_drewN ?_ _ | refine blk_drew ?_ | refine blk_alloc ?_ _)); exact BK421.out) hb); replace HB := xbs hb; (try clear hb); (try clear hb2); (try clear hk); (try clear hi)))
             replace HO420 := aM (Kd.R_drew HO420.out); replace BK413 := aM (blk_drew BK413.out); replace BK414 := aM (blk_drew BK414.out); replace BK421 := aM (blk_drew BK421.out); replace HB := aM (below_drew1 HB.out); have p423 : 0 ≤ (t422 : Int) := oda; have q423 : t422 < (l0_1.length : Int) := oda
             obtain ⟨ad423, e423, hx423_0, hx423_1, hx423_2⟩ := at_T134 HR0_1.out t422 p423 q423
             have hw423_2 := hx423_2; have hw423_1 := hx423_1; have hw423_0 := hx423_0
             cases e423
             replace hx423_0 := xce HB hx423_0; replace hx423_1 := xce HB hx423_1; replace hx423_2 := xce HB hx423_2; replace p423 := eq_true p423; replace q423 := eq_true q423; have p424 : 0 ≤ (t422 : Int) := oda; have q424 : t422 < (l0_1.length : Int) := oda
             obtain ⟨ad424, e424, hx424_0, hx424_1, hx424_2⟩ := at_T134 HR0_1.out t422 p424 q424
             have hw424_2 := hx424_2; have hw424_1 := hx424_1; have hw424_0 := hx424_0
             obtain rfl : ad423 = ad424 := (by injection e424)
             replace hx424_0 := xce HB hx424_0; replace hx424_1 := xce HB hx424_1; replace hx424_2 := xce HB hx424_2; replace p424 := eq_true p424; replace q424 := eq_true q424
             refine start_ (n := 22) (S := fun w' => w'.cell? ⟨gb413, 0, none⟩ = some (.int .i64 a0_0) ∧ w'.cell? ⟨gb413, 1, none⟩ = some (.slice (some ad423) l0_1.length c0_1) ∧ w'.cell? (ad423.add ((t422).toNat * 3)) = some (.int .i64 ((rd_T134 l0_1 t422).f0)) ∧ w'.cell? ⟨(ad423.add ((t422).toNat * 3)).block, (ad423.add ((t422).toNat * 3)).off + 1, none⟩ = some (.string ((rd_T134 l0_1 t422).f1)) ∧ w'.cell? ⟨(ad423.add ((t422).toNat * 3)).block, (ad423.add ((t422).toNat * 3)).off + 2, none⟩ = some (.string ((rd_T134 l0_1 t422).f2)) ∧ w'.cell? (ad423.add ((t422).toNat * 3)) = some (.int .i64 ((rd_T134 l0_1 t422).f0)) ∧ w'.cell? ⟨(ad423.add ((t422).toNat * 3)).block, (ad423.add ((t422).toNat * 3)).off + 1, none⟩ = some (.string ((rd_T134 l0_1 t422).f1)) ∧ w'.cell? ⟨(ad423.add ((t422).toNat * 3)).block, (ad423.add ((t422).toNat * 3)).off + 2, none⟩ = some (.string ((rd_T134 l0_1 t422).f2))) (ds := []) #[false, false, false, false, false, false, false, false, false, false, false, false, false, false, false, false, false, false, false, false, false, false] (by kernel_rfl) rfl rfl ⟨xc BK413 0 rfl, xc BK413 1 rfl, (xce HB hw423_0), (xce HB hw423_1), (xce HB hw423_2), (xce HB hw424_0), (xce HB hw424_1), (xce HB hw424_2)⟩ (fun hHeld => ?_); refine with_tabW impl_DiskCut.tab5 impl_DiskCut.bits5 (fun HT_ HW_ => ?_)
             generalize w56.drew = w57 at HO420 BK413 BK414 BK421 HB hx423_0 hx423_1 hx423_2 hx424_0 hx424_1 hx424_2 hHeld ⊢
             refine pv_ 0 26 (h := ?_)
             refine pv_ 1 27 (h := ?_)
             refine pv_ 2 28 (h := ?_)
             refine pv_ 3 29 (h := ?_)
             refine pv_ 4 30 (h := ?_)
             refine pv_ 6 32 (h := ?_)
             refine pv_ 11 37 (h := ?_)
             refine pv_ 13 39 (h := ?_)
             refine tk_ 5 31 (h := ?_)
             refine pv_ 7 33 (h := ?_)
             refine pv_ 8 34 (h := ?_)
             refine tk_ 9 35 (h := ?_)
             refine pv_ 10 36 (h := ?_)
             refine tk_ 12 38 (h := ?_)
             refine pv_ 14 40 (h := ?_)
             refine pv_ 15 41 (h := ?_)
             refine tk_ 16 42 (h := ?_)
             refine pv_ 17 43 (h := ?_)
             refine pv_ 18 44 (h := ?_)
             refine on_ 19 45 (h := fun K hK => ?_)
             refine goesY Try.func81 #[.int .i64 a2, .int .i64 0, .int .i64 (wrap64 ((((rd_T134 l0_1 t422).f1).size : Int) + (((rd_T134 l0_1 t422).f2).size : Int)))] ?_
             with_reducible refine (impl_within.calls a2 0 (wrap64 ((((rd_T134 l0_1 t422).f1).size : Int) + (((rd_T134 l0_1 t422).f2).size : Int))) true _ A37.out).mono ?_
             rintro e w' ⟨rfl, ⟨nd, rfl⟩⟩
             refine ⟨_, rfl, ?_⟩
             refine hK.out _ _ ⟨xc BK413 0 rfl, xc BK413 1 rfl, (xce HB hw423_0), (xce HB hw423_1), (xce HB hw423_2), (xce HB hw424_0), (xce HB hw424_1), (xce HB hw424_2)⟩ (fun hHeld => ?_)
             clear hK K
             refine norm_ (a' := ?_) ?_ ?_
             rotate_left
             ·show Act.put _ (some 45) _ = _
              simp only [Act.put, List.setIfInBounds_toArray, List.set_cons_zero, List.set_cons_succ, i64_w, i32_w]
              rfl
             refine pv_ 20 46 (h := ?_)
             refine pv_ 21 47 (h := ?_)
             refine done_ (done_of HT_.out (by kernel_rfl)) ?_
             obtain ⟨hcz58_0, hcz58_1, hfz58_0, hfz58_1⟩ := xf2 (w := w57) BK413; have p426 : 0 ≤ (t422 : Int) := oda; have q426 : t422 < (l0_1.length : Int) := oda
             obtain ⟨ad426, e426, hx426_0, hx426_1, hx426_2⟩ := at_T134 HR0_1.out t422 p426 q426
             obtain rfl : ad423 = ad426 := (by injection e426)
             replace hx426_0 := xce HB hx426_0; replace hx426_1 := xce HB hx426_1; replace hx426_2 := xce HB hx426_2; replace p426 := eq_true p426; replace q426 := eq_true q426
             try go_wp2_with (first | ((with_reducible refine gate_dst (N := 10) rfl ?_); (try (refine gate_guard (by rfl) ?_; dsimp only)); refine box_event ?hg (N := 10) ?hd (cs := #[.int .i64 0, .string (⟨#[]⟩ : ByteArray), .string (⟨#[]⟩ : ByteArray)]) (t := 134) ?hr ?_; (case hd => rfl); (case hg => rfl); (case hr => first | (go_simp; done) | (go_simp; rfl)); intro gb427 hg w59 hbox hb; replace HO420 := aM (Kd.R_below (Kd.R_elderB (xr HO420) gb427 (Nat.le_of_eq hg.symm)) hb); have GW427 := aM (xge hg); have GE427 := aM (xge hg); replace HB := xbs hb; have NB413_427 := aM ((by rw [hg]; exact Nat.ne_of_lt (blk_lt (g := gb413) (o := .cells #[.int .i64 a0_0, .slice (some ad423) l0_1.length c0_1] 70 (0, 0)) xblk) : gb413 ≠ gb427)); have NB427_413 := aM ((by rw [hg]; exact Nat.ne_of_gt (blk_lt (g := gb413) (o := .cells #[.int .i64 a0_0, .slice (some ad423) l0_1.length c0_1] 70 (0, 0)) xblk) : gb427 ≠ gb413)); have NB414_427 := aM ((by rw [hg]; exact Nat.ne_of_lt (blk_lt (g := gb414) (o := .cells #[.int .i64 0, .slice none 0 0] 70 (0, 0)) xblk) : gb414 ≠ gb427)); have NB427_414 := aM ((by rw [hg]; exact Nat.ne_of_gt (blk_lt (g := gb414) (o := .cells #[.int .i64 0, .slice none 0 0] 70 (0, 0)) xblk) : gb427 ≠ gb414)); have NB421_427 := aM ((by rw [hg]; exact Nat.ne_of_lt (blk_lt (g := gb421) (o := .cells #[.int .i64 t417, .slice Ao54 t418.length co54] 70 (0, 0)) xblk) : gb421 ≠ gb427)); have NB427_421 := aM ((by rw [hg]; exact Nat.ne_of_gt (blk_lt (g := gb421) (o := .cells #[.int .i64 t417, .slice Ao54 t418.length co54] 70 (0, 0)) xblk) : gb427 ≠ gb421)); replace BK413 := xbb BK413 hb; replace BK414 := xbb BK414 hb; replace BK421 := xbb BK421 hb; have BK427 := aM (hbox); clear hb hbox hg; have hnb60 := NB427_413.out; have hnc60 := NB413_427.out; have hnb61 := NB427_414.out; have hnc61 := NB414_427.out; have hnb62 := NB427_421.out; have hnc62 := NB421_427.out; obtain ⟨hcz63_0, hcz63_1, hcz63_2, hfz63_0, hfz63_1, hfz63_2⟩ := xf3 (w := w59) BK427))
             have n0_ : Aside0 (Kd.R k134 134 (((w59.setCell ⟨gb427, 0, none⟩ (.int .i64 ((rd_T134 l0_1 t422).f0))).setCell ⟨gb427, 1, none⟩ (.string ((rd_T134 l0_1 t422).f1))).setCell ⟨gb427, 2, none⟩ (.string ((rd_T134 l0_1 t422).f2))) w.heap.size (fun k_ => k_ ≠ gb427) (.slice Ao54 t418.length co54) t418) := ⟨by (with_reducible repeat (first | apply Kd.R_alloc | apply Kd.R_drewN | apply Kd.R_drew)); exact Kd.R_mono (Kd.R_far (p := ⟨gb427, 2, none⟩) (Kd.R_far (p := ⟨gb427, 1, none⟩) (Kd.R_far (p := ⟨gb427, 0, none⟩) (Kd.R_mono HO420.out (fun k_ hk => (⟨hk, hk.2⟩ : _ ∧ k_ ≠ gb427))) (fun _ hk => hk.2) (.int .i64 ((rd_T134 l0_1 t422).f0))) (fun _ hk => hk.2) (.string ((rd_T134 l0_1 t422).f1))) (fun _ hk => hk.2) (.string ((rd_T134 l0_1 t422).f2))) (fun _ hk => hk.1.2)⟩; have n1_ : Aside0 ((((w59.setCell ⟨gb427, 0, none⟩ (.int .i64 ((rd_T134 l0_1 t422).f0))).setCell ⟨gb427, 1, none⟩ (.string ((rd_T134 l0_1 t422).f1))).setCell ⟨gb427, 2, none⟩ (.string ((rd_T134 l0_1 t422).f2))).heap[gb413]? = some (.cells #[.int .i64 a0_0, .slice (some ad423) l0_1.length c0_1] 70 (0, 0))) := ⟨by (with_reducible repeat (first | refine blk_drewN ?_ _ | refine blk_drew ?_ | refine blk_alloc ?_ _)); refine blk_far ?_ NB413_427.out _; (with_reducible repeat (first | refine blk_drewN ?_ _ | refine blk_drew ?_ | refine blk_alloc ?_ _)); refine blk_far ?_ NB413_427.out _; (with_reducible repeat (first | refine blk_drewN ?_ _ | refine blk_drew ?_ | refine blk_alloc ?_ _)); refine blk_far ?_ NB413_427.out _; (with_reducible repeat (first | refine blk_drewN ?_ _ | refine blk_drew ?_ | refine blk_alloc ?_ _)); exact BK413.out⟩
             have n2_ : Aside0 ((((w59.setCell ⟨gb427, 0, none⟩ (.int .i64 ((rd_T134 l0_1 t422).f0))).setCell ⟨gb427, 1, none⟩ (.string ((rd_T134 l0_1 t422).f1))).setCell ⟨gb427, 2, none⟩ (.string ((rd_T134 l0_1 t422).f2))).heap[gb414]? = some (.cells #[.int .i64 0, .slice none 0 0] 70 (0, 0))) := ⟨by (with_reducible repeat (first | refine blk_drewN ?_ _ | refine blk_drew ?_ | refine blk_alloc ?_ _)); refine blk_far ?_ NB414_427.out _; (with_reducible repeat (first | refine blk_drewN ?_ _ | refine blk_drew ?_ | refine blk_alloc ?_ _)); refine blk_far ?_ NB414_427.out _; (with_reducible repeat (first | refine blk_drewN ?_ _ | refine blk_drew ?_ | refine blk_alloc ?_ _)); refine blk_far ?_ NB414_427.out _; (with_reducible repeat (first | refine blk_drewN ?_ _ | refine blk_drew ?_ | refine blk_alloc ?_ _)); exact BK414.out⟩; have n3_ : Aside0 ((((w59.setCell ⟨gb427, 0, none⟩ (.int .i64 ((rd_T134 l0_1 t422).f0))).setCell ⟨gb427, 1, none⟩ (.string ((rd_T134 l0_1 t422).f1))).setCell ⟨gb427, 2, none⟩ (.string ((rd_T134 l0_1 t422).f2))).heap[gb421]? = some (.cells #[.int .i64 t417, .slice Ao54 t418.length co54] 70 (0, 0))) := ⟨by (with_reducible repeat (first | refine blk_drewN ?_ _ | refine blk_drew ?_ | refine blk_alloc ?_ _)); refine blk_far ?_ NB421_427.out _; (with_reducible repeat (first | refine blk_drewN ?_ _ | refine blk_drew ?_ | refine blk_alloc ?_ _)); refine blk_far ?_ NB421_427.out _; (with_reducible repeat (first | refine blk_drewN ?_ _ | refine blk_drew ?_ | refine blk_alloc ?_ _)); refine blk_far ?_ NB421_427.out _; (with_reducible repeat (first | refine blk_drewN ?_ _ | refine blk_drew ?_ | refine blk_alloc ?_ _)); exact BK421.out⟩
             have n4_ : Aside0 ((((w59.setCell ⟨gb427, 0, none⟩ (.int .i64 ((rd_T134 l0_1 t422).f0))).setCell ⟨gb427, 1, none⟩ (.string ((rd_T134 l0_1 t422).f1))).setCell ⟨gb427, 2, none⟩ (.string ((rd_T134 l0_1 t422).f2))).heap[gb427]? = some (.cells #[.int .i64 ((rd_T134 l0_1 t422).f0), .string ((rd_T134 l0_1 t422).f1), .string ((rd_T134 l0_1 t422).f2)] 134 (0, 0))) := ⟨by (with_reducible repeat (first | refine blk_drewN ?_ _ | refine blk_drew ?_ | refine blk_alloc ?_ _)); refine blk_put (cs := #[.int .i64 ((rd_T134 l0_1 t422).f0), .string ((rd_T134 l0_1 t422).f1), .string (⟨#[]⟩ : ByteArray)]) ?_ 2 _ rfl; (with_reducible repeat (first | refine blk_drewN ?_ _ | refine blk_drew ?_ | refine blk_alloc ?_ _)); refine blk_put (cs := #[.int .i64 ((rd_T134 l0_1 t422).f0), .string (⟨#[]⟩ : ByteArray), .string (⟨#[]⟩ : ByteArray)]) ?_ 1 _ rfl; (with_reducible repeat (first | refine blk_drewN ?_ _ | refine blk_drew ?_ | refine blk_alloc ?_ _)); refine blk_put (cs := #[.int .i64 0, .string (⟨#[]⟩ : ByteArray), .string (⟨#[]⟩ : ByteArray)]) ?_ 0 _ rfl; (with_reducible repeat (first | refine blk_drewN ?_ _ | refine blk_drew ?_ | refine blk_alloc ?_ _)); exact BK427.out⟩; have n5_ : Aside0 (Below w.heap.size w (((w59.setCell ⟨gb427, 0, none⟩ (.int .i64 ((rd_T134 l0_1 t422).f0))).setCell ⟨gb427, 1, none⟩ (.string ((rd_T134 l0_1 t422).f1))).setCell ⟨gb427, 2, none⟩ (.string ((rd_T134 l0_1 t422).f2)))) := ⟨xbg⟩
             (try clear HO420); (try clear BK413); (try clear BK414); (try clear BK421); (try clear BK427); (try clear HB)
             generalize (((w59.setCell ⟨gb427, 0, none⟩ (.int .i64 ((rd_T134 l0_1 t422).f0))).setCell ⟨gb427, 1, none⟩ (.string ((rd_T134 l0_1 t422).f1))).setCell ⟨gb427, 2, none⟩ (.string ((rd_T134 l0_1 t422).f2))) = w64 at n0_ n1_ n2_ n3_ n4_ n5_ ⊢
             have HO420 := n0_; have BK413 := n1_; have BK414 := n2_; have BK421 := n3_; have BK427 := n4_; have HB := n5_; clear n0_ n1_ n2_ n3_ n4_ n5_; replace HO420 := aM (Kd.R_drew HO420.out); replace BK413 := aM (blk_drew BK413.out); replace BK414 := aM (blk_drew BK414.out); replace BK421 := aM (blk_drew BK421.out); replace BK427 := aM (blk_drew BK427.out); replace HB := aM (below_drew1 HB.out); have p46 : 0 ≤ (t422 : Int) := oda; have q46 : (t422 : Int) < ((t418.length : Int) : Int) := oda
             obtain ⟨go46, co46, eo46, gb46, gl46, cl46, HG46⟩ := Kd.R_form HO420.out (by omega)
             (first | cases eo46 | (injection eo46 with ea_ en_ ec_; (first | subst ea_ | (injection ea_ with ea_; subst ea_)); subst ec_; clear en_))
             have GB46 := aM gb46; have GG46 := aM HG46; clear gb46 gl46 HG46
             obtain ⟨ce46, hcl46, hM46, hcc46, hfr46⟩ := Kd.R_elem HO420.out z134 (t422 : Int) p46 q46
             obtain rfl := k134_openM hM46
             have hx46_0 : World.cell? _ ⟨go46, (t422 : Int).toNat * 3, none⟩ = some (.int .i64 ((rd_T134 t418 t422).f0)) := hcc46 0 _ rfl; have hx46_1 : World.cell? _ ⟨go46, (t422 : Int).toNat * 3 + 1, none⟩ = some (.string ((rd_T134 t418 t422).f1)) := hcc46 1 _ rfl; have hx46_2 : World.cell? _ ⟨go46, (t422 : Int).toNat * 3 + 2, none⟩ = some (.string ((rd_T134 t418 t422).f2)) := hcc46 2 _ rfl; have hf46_0 : World.frozen? _ ⟨go46, (t422 : Int).toNat * 3, none⟩ = false := hfr46 0; have hf46_1 : World.frozen? _ ⟨go46, (t422 : Int).toNat * 3 + 1, none⟩ = false := hfr46 1; have hf46_2 : World.frozen? _ ⟨go46, (t422 : Int).toNat * 3 + 2, none⟩ = false := hfr46 2; clear hcl46 hcc46 hfr46 hM46; replace p46 := eq_true p46; replace q46 := eq_true q46
             obtain ⟨ce66, hcl66, hM66, hcc66, hfr66⟩ := Kd.R_elem HO420.out z134 (t422 : Int) (oda) (by have h_ : (t422 : Int) < ((t418.length : Int) : Int) := oda; first | exact h_ | (have e_ := (Kd.R_reads' HO420.out).1; omega) | simpa using h_)
             obtain rfl := k134_openM hM66
             have HP66 := (Kd.R_seg HO420.out (t422 : Int) (oda) (by have h_ : (t422 : Int) < ((t418.length : Int) : Int) := oda; first | exact h_ | (have e_ := (Kd.R_reads' HO420.out).1; omega) | simpa using h_) (seg := [.int .i64 a1, .string (((rd_T134 l0_1 t422).f1).extract 0 ((ji39) : Int).toNat), .string (((rd_T134 l0_1 t422).f2).extract 0 ((ji42) : Int).toNat)]) (j := 0) hcl66 hcc66 (show 3 ≤ 3 from by decide) (x' := (⟨a1, ((rd_T134 l0_1 t422).f1).extract 0 ((ji39) : Int).toNat, ((rd_T134 l0_1 t422).f2).extract 0 ((ji42) : Int).toNat⟩ : S134)) (k134_mkM _ _ _ (⟨a1, ((rd_T134 l0_1 t422).f1).extract 0 ((ji39) : Int).toNat, ((rd_T134 l0_1 t422).f2).extract 0 ((ji42) : Int).toNat⟩ : S134) ) (fun _ hk => hk)).1
             rw [← Ny428.out] at HP66
             have HQ66 := aM HP66; clear hcl66 hcc66 hfr66 hM66 HP66
             refine start_ (n := 17) (S := fun w' => w'.cell? ⟨gb421, 0, none⟩ = some (.int .i64 t417) ∧ w'.cell? ⟨gb421, 1, none⟩ = some (.slice (some ⟨go46, 0, none⟩) t418.length co54) ∧ w'.cell? ⟨gb427, 0, none⟩ = some (.int .i64 ((rd_T134 l0_1 t422).f0)) ∧ w'.cell? ⟨gb427, 1, none⟩ = some (.string ((rd_T134 l0_1 t422).f1)) ∧ w'.cell? ⟨gb427, 2, none⟩ = some (.string ((rd_T134 l0_1 t422).f2))) (ds := [16]) #[false, false, false, false, false, false, false, false, false, false, false, false, false, false, false, false, false] (by kernel_rfl) rfl rfl ⟨xc BK421 0 rfl, xc BK421 1 rfl, xc BK427 0 rfl, xc BK427 1 rfl, xc BK427 2 rfl⟩ (fun hHeld => ?_); refine with_tabW impl_DiskCut.tab9 impl_DiskCut.bits9 (fun HT_ HW_ => ?_)
             generalize w64.drew = w65 at HO420 BK413 BK414 BK421 BK427 HB GG46 HQ66 hf46_0 hf46_1 hf46_2 hx46_0 hx46_1 hx46_2 hHeld ⊢
             refine pv_ 0 59 (h := ?_)
             refine pv_ 2 61 (h := ?_)
             refine pv_ 3 62 (h := ?_)
             refine pv_ 4 63 (h := ?_)
             refine pv_ 6 65 (h := ?_)
             refine pv_ 8 67 (h := ?_)
             refine pv_ 10 69 (h := ?_)
             refine pv_ 11 70 (h := ?_)
             refine pv_ 12 71 (h := ?_)
             refine tk_ 1 60 (h := ?_)
             refine tk_ 5 64 (h := ?_)
             refine pv_ 7 66 (h := ?_)
             refine tk_ 9 68 (h := ?_)
             refine pv_ 13 72 (h := ?_)
             refine pv_ 14 73 (h := ?_)
             refine pv_ 15 74 (h := ?_)
             refine last_ (i := 16) (N := none) #[true, true, true, true, true, true, true, true, true, true, true, true, true, true, true, true, true] rfl rfl (one_of HT_.out (by kernel_rfl)) (by decide) (fun K hK => ?_)
             refine skip_ (w1 := ?_) (by rfl) rfl ?_ ?_
             rotate_left
             ·go_simp
              rfl
             refine hK.out _ _ ?_
             clear hK K
             refine done_ (done_of HT_.out (by kernel_rfl)) ?_
             have n0_ : Aside0 (Kd.R k134 134 (((w65.setCell ⟨go46, (t422 : Int).toNat * 3, none⟩ (.int .i64 a1)).setCell ⟨go46, (t422 : Int).toNat * 3 + 1, none⟩ (.string (((rd_T134 l0_1 t422).f1).extract 0 ((ji39) : Int).toNat))).setCell ⟨go46, (t422 : Int).toNat * 3 + 2, none⟩ (.string (((rd_T134 l0_1 t422).f2).extract 0 ((ji42) : Int).toNat))) w.heap.size (fun k_ => k_ ≠ gb427) (.slice (some ⟨go46, 0, none⟩) t418.length co54) y428) := ⟨by (with_reducible repeat (first | apply Kd.R_alloc | apply Kd.R_drewN | apply Kd.R_drew)); exact HQ66.out⟩; have n1_ : Aside0 ((((w65.setCell ⟨go46, (t422 : Int).toNat * 3, none⟩ (.int .i64 a1)).setCell ⟨go46, (t422 : Int).toNat * 3 + 1, none⟩ (.string (((rd_T134 l0_1 t422).f1).extract 0 ((ji39) : Int).toNat))).setCell ⟨go46, (t422 : Int).toNat * 3 + 2, none⟩ (.string (((rd_T134 l0_1 t422).f2).extract 0 ((ji42) : Int).toNat))).heap[gb413]? = some (.cells #[.int .i64 a0_0, .slice (some ad423) l0_1.length c0_1] 70 (0, 0))) := ⟨by (with_reducible repeat (first | refine blk_drewN ?_ _ | refine blk_drew ?_ | refine blk_alloc ?_ _)); refine blk_far ?_ (by have h_ := Kd.R_ne HO420.out BK413.out (by decide); intro e_; exact h_ (by rw [e_]; rfl)) _; (with_reducible repeat (first | refine blk_drewN ?_ _ | refine blk_drew ?_ | refine blk_alloc ?_ _)); refine blk_far ?_ (by have h_ := Kd.R_ne HO420.out BK413.out (by decide); intro e_; exact h_ (by rw [e_]; rfl)) _; (with_reducible repeat (first | refine blk_drewN ?_ _ | refine blk_drew ?_ | refine blk_alloc ?_ _)); refine blk_far ?_ (by have h_ := Kd.R_ne HO420.out BK413.out (by decide); intro e_; exact h_ (by rw [e_]; rfl)) _; (with_reducible repeat (first | refine blk_drewN ?_ _ | refine blk_drew ?_ | refine blk_alloc ?_ _)); exact BK413.out⟩
             have n2_ : Aside0 ((((w65.setCell ⟨go46, (t422 : Int).toNat * 3, none⟩ (.int .i64 a1)).setCell ⟨go46, (t422 : Int).toNat * 3 + 1, none⟩ (.string (((rd_T134 l0_1 t422).f1).extract 0 ((ji39) : Int).toNat))).setCell ⟨go46, (t422 : Int).toNat * 3 + 2, none⟩ (.string (((rd_T134 l0_1 t422).f2).extract 0 ((ji42) : Int).toNat))).heap[gb414]? = some (.cells #[.int .i64 0, .slice none 0 0] 70 (0, 0))) := ⟨by (with_reducible repeat (first | refine blk_drewN ?_ _ | refine blk_drew ?_ | refine blk_alloc ?_ _)); refine blk_far ?_ (by have h_ := Kd.R_ne HO420.out BK414.out (by decide); intro e_; exact h_ (by rw [e_]; rfl)) _; (with_reducible repeat (first | refine blk_drewN ?_ _ | refine blk_drew ?_ | refine blk_alloc ?_ _)); refine blk_far ?_ (by have h_ := Kd.R_ne HO420.out BK414.out (by decide); intro e_; exact h_ (by rw [e_]; rfl)) _; (with_reducible repeat (first | refine blk_drewN ?_ _ | refine blk_drew ?_ | refine blk_alloc ?_ _)); refine blk_far ?_ (by have h_ := Kd.R_ne HO420.out BK414.out (by decide); intro e_; exact h_ (by rw [e_]; rfl)) _; (with_reducible repeat (first | refine blk_drewN ?_ _ | refine blk_drew ?_ | refine blk_alloc ?_ _)); exact BK414.out⟩; have n3_ : Aside0 ((((w65.setCell ⟨go46, (t422 : Int).toNat * 3, none⟩ (.int .i64 a1)).setCell ⟨go46, (t422 : Int).toNat * 3 + 1, none⟩ (.string (((rd_T134 l0_1 t422).f1).extract 0 ((ji39) : Int).toNat))).setCell ⟨go46, (t422 : Int).toNat * 3 + 2, none⟩ (.string (((rd_T134 l0_1 t422).f2).extract 0 ((ji42) : Int).toNat))).heap[gb421]? = some (.cells #[.int .i64 t417, .slice (some ⟨go46, 0, none⟩) t418.length co54] 70 (0, 0))) := ⟨by (with_reducible repeat (first | refine blk_drewN ?_ _ | refine blk_drew ?_ | refine blk_alloc ?_ _)); refine blk_far ?_ (by have h_ := Kd.R_ne HO420.out BK421.out (by decide); intro e_; exact h_ (by rw [e_]; rfl)) _; (with_reducible repeat (first | refine blk_drewN ?_ _ | refine blk_drew ?_ | refine blk_alloc ?_ _)); refine blk_far ?_ (by have h_ := Kd.R_ne HO420.out BK421.out (by decide); intro e_; exact h_ (by rw [e_]; rfl)) _; (with_reducible repeat (first | refine blk_drewN ?_ _ | refine blk_drew ?_ | refine blk_alloc ?_ _)); refine blk_far ?_ (by have h_ := Kd.R_ne HO420.out BK421.out (by decide); intro e_; exact h_ (by rw [e_]; rfl)) _; (with_reducible repeat (first | refine blk_drewN ?_ _ | refine blk_drew ?_ | refine blk_alloc ?_ _)); exact BK421.out⟩
             have n4_ : Aside0 ((((w65.setCell ⟨go46, (t422 : Int).toNat * 3, none⟩ (.int .i64 a1)).setCell ⟨go46, (t422 : Int).toNat * 3 + 1, none⟩ (.string (((rd_T134 l0_1 t422).f1).extract 0 ((ji39) : Int).toNat))).setCell ⟨go46, (t422 : Int).toNat * 3 + 2, none⟩ (.string (((rd_T134 l0_1 t422).f2).extract 0 ((ji42) : Int).toNat))).heap[gb427]? = some (.cells #[.int .i64 ((rd_T134 l0_1 t422).f0), .string ((rd_T134 l0_1 t422).f1), .string ((rd_T134 l0_1 t422).f2)] 134 (0, 0))) := ⟨by (with_reducible repeat (first | refine blk_drewN ?_ _ | refine blk_drew ?_ | refine blk_alloc ?_ _)); refine blk_far ?_ (by have h_ := Kd.R_away HO420.out (fun _ hk => hk); intro e_; exact h_ (by rw [e_]; rfl)) _; (with_reducible repeat (first | refine blk_drewN ?_ _ | refine blk_drew ?_ | refine blk_alloc ?_ _)); refine blk_far ?_ (by have h_ := Kd.R_away HO420.out (fun _ hk => hk); intro e_; exact h_ (by rw [e_]; rfl)) _; (with_reducible repeat (first | refine blk_drewN ?_ _ | refine blk_drew ?_ | refine blk_alloc ?_ _)); refine blk_far ?_ (by have h_ := Kd.R_away HO420.out (fun _ hk => hk); intro e_; exact h_ (by rw [e_]; rfl)) _; (with_reducible repeat (first | refine blk_drewN ?_ _ | refine blk_drew ?_ | refine blk_alloc ?_ _)); exact BK427.out⟩; have n5_ : Aside0 (Below w.heap.size w (((w65.setCell ⟨go46, (t422 : Int).toNat * 3, none⟩ (.int .i64 a1)).setCell ⟨go46, (t422 : Int).toNat * 3 + 1, none⟩ (.string (((rd_T134 l0_1 t422).f1).extract 0 ((ji39) : Int).toNat))).setCell ⟨go46, (t422 : Int).toNat * 3 + 2, none⟩ (.string (((rd_T134 l0_1 t422).f2).extract 0 ((ji42) : Int).toNat)))) := ⟨by repeat (first | (with_reducible first | exact HB.out | apply below_alloc | apply pw_below_drewN | apply below_drew1 | refine below_set ?_ GB46.out | refine below_set ?_ GB46.out | refine below_set ?_ GB46.out | refine below_set ?_ GE413.out | refine below_set ?_ GE414.out | refine below_set ?_ GE421.out | refine below_set ?_ GE427.out) | exact HB.out)⟩
             (try clear HO420); (try clear BK413); (try clear BK414); (try clear BK421); (try clear BK427); (try clear HB)
             generalize (((w65.setCell ⟨go46, (t422 : Int).toNat * 3, none⟩ (.int .i64 a1)).setCell ⟨go46, (t422 : Int).toNat * 3 + 1, none⟩ (.string (((rd_T134 l0_1 t422).f1).extract 0 ((ji39) : Int).toNat))).setCell ⟨go46, (t422 : Int).toNat * 3 + 2, none⟩ (.string (((rd_T134 l0_1 t422).f2).extract 0 ((ji42) : Int).toNat))) = w67 at n0_ n1_ n2_ n3_ n4_ n5_ ⊢
             have HO420 := n0_; have BK413 := n1_; have BK414 := n2_; have BK421 := n3_; have BK427 := n4_; have HB := n5_; clear n0_ n1_ n2_ n3_ n4_ n5_; obtain ⟨hcz68_0, hcz68_1, hfz68_0, hfz68_1⟩ := xf2 (w := w67) BK421; obtain ⟨hcz69_0, hcz69_1, hfz69_0, hfz69_1⟩ := xf2 (w := w67) BK414
             try go_wp2
             refine bodyPost_ret (results_ct rfl _ _ gb414 70 #[.int .i64 t417, .slice (some ⟨go46, 0, none⟩) t418.length co54] (0, 0) _ rfl (by (with_reducible repeat (first | refine blk_drewN ?_ _ | refine blk_drew ?_ | refine blk_alloc ?_ _)); refine blk_put (cs := #[.int .i64 t417, .slice none 0 0]) ?_ 1 _ rfl; (with_reducible repeat (first | refine blk_drewN ?_ _ | refine blk_drew ?_ | refine blk_alloc ?_ _)); refine blk_put (cs := #[.int .i64 0, .slice none 0 0]) ?_ 0 _ rfl; (with_reducible repeat (first | refine blk_drewN ?_ _ | refine blk_drew ?_ | refine blk_alloc ?_ _)); exact BK414.out) Try.underlying70 rfl (by kernel_rfl)) rfl ?_
             exact ⟨_, by first | rfl | (simp [errW_none, errW_some] <;> rfl) | (simp only [← hji39, ← hji42]; first | rfl | (simp [errW_none, errW_some] <;> rfl)) | (simp [*, errW_none, errW_some] <;> rfl), by (with_reducible repeat (first | apply Kd.R_alloc | apply Kd.R_drewN | apply Kd.R_drew)); exact Kd.R_mono (Kd.R_far (p := ⟨gb414, 1, none⟩) (Kd.R_far (p := ⟨gb414, 0, none⟩) (Kd.R_types HO420.out BK414.out (by decide)) (fun _ hk => hk.2) (.int .i64 t417)) (fun _ hk => hk.2) (.slice (some ⟨go46, 0, none⟩) t418.length co54)) (fun _ hk => trivial), xbg⟩
            ·rw [if_neg c45] at H
             exact absurd H (by simp)
           ·rw [if_neg c44] at H
            exact absurd H (by simp)
          ·rw [if_neg c43] at H
           exact absurd H (by simp)
         ·rw [if_neg c41] at H
          exact absurd H (by simp)
        ·rw [if_neg c40] at H
         exact absurd H (by simp)
       ·replace c38 := Bool.eq_false_iff.mpr c38
        subst c38
        have H1 : (some (t417, t418, 2)) = some (r1, r2, r3) := by rw [if_neg (show ¬ (false = true) by decide)] at H; exact H
        clear H; have H := H1; clear H1
        simp only [Option.some.injEq, Prod.mk.injEq] at H
        obtain ⟨rfl, rfl, rfl⟩ := H
        have hnb70 := NB413_414.out; have hnc70 := NB414_413.out; obtain ⟨hcz71_0, hcz71_1, hfz71_0, hfz71_1⟩ := xf2 (w := wc) BK413
        try go_wp2_with (first | ((with_reducible refine gate_callee (f := 115) rfl ?_); refine goesL_ (some 22) rfl rfl Try.func115 (by kernel_rfl) rfl #[.agg #[.int .i64 a0_0, .slice A0_1 l0_1.length c0_1]] rfl (by (try simp only [List.map_toArray, List.map_cons, List.map_nil]); first | done | rfl | (simp only [List.length_drop, List.length_take]; rfl)) ?_; (with_reducible refine (impl_copyDisk.calls a0_0 _ _ l0_1 t417 t418 _ ?side1 ?side2 A19.out).mono ?_); (case side1 => exact xcb HR0_1); (case side2 => exact HC0_1.out); rintro e w72 ⟨v419, rfl, ho0, hb⟩; refine ⟨_, rfl, ?_⟩; have HO420 := aM (Kd.R_lower ho0 (below_size xbg)); replace BK413 := xbb BK413 hb; replace BK414 := xbb BK414 hb; replace HB := xbs hb; (try clear hb); (try clear hb2); (try clear hk); (try clear hi); (try clear ho0)) | ((with_reducible refine gate_dst (N := 8) rfl ?_); (try (refine gate_guard (by rfl) ?_; dsimp only)); refine box_event ?hg (N := 8) ?hd (cs := #[.int .i64 0, .slice none 0 0]) (t := 70) ?hr ?_; (case hd => rfl); (case hg => rfl); (case hr => first | (go_simp; done) | (go_simp; rfl)); intro gb421 hg w73 hbox hb; replace HO420 := aM (Kd.R_below (xr HO420) hb); have GW421 := aM (xge hg); have GE421 := aM (xge hg); replace HB := xbs hb; have NB413_421 := aM ((by rw [hg]; exact Nat.ne_of_lt (blk_lt (g := gb413) (o := .cells #[.int .i64 a0_0, .slice A0_1 l0_1.length c0_1] 70 (0, 0)) xblk) : gb413 ≠ gb421)); have NB421_413 := aM ((by rw [hg]; exact Nat.ne_of_gt (blk_lt (g := gb413) (o := .cells #[.int .i64 a0_0, .slice A0_1 l0_1.length c0_1] 70 (0, 0)) xblk) : gb421 ≠ gb413)); have NB414_421 := aM ((by rw [hg]; exact Nat.ne_of_lt (blk_lt (g := gb414) (o := .cells #[.int .i64 0, .slice none 0 0] 70 (0, 0)) xblk) : gb414 ≠ gb421)); have NB421_414 := aM ((by rw [hg]; exact Nat.ne_of_gt (blk_lt (g := gb414) (o := .cells #[.int .i64 0, .slice none 0 0] 70 (0, 0)) xblk) : gb421 ≠ gb414)); replace BK413 := xbb BK413 hb; replace BK414 := xbb BK414 hb; have BK421 := aM (hbox); clear hb hbox hg; have hnb74 := NB421_413.out; have hnc74 := NB413_421.out; have hnb75 := NB421_414.out; have hnc75 := NB414_421.out; obtain ⟨hcz76_0, hcz76_1, hfz76_0, hfz76_1⟩ := xf2 (w := w73) BK421; obtain ⟨Ao77, co77, eo77⟩ := Kd.R_slice HO420.out; subst eo77; obtain ⟨hcz78_0, hcz78_1, hfz78_0, hfz78_1⟩ := xf2 (w := w73) BK413) | ((with_reducible refine gate_callee (f := 116) rfl ?_); refine goesL_ (some 25) rfl rfl Try.func116 (by kernel_rfl) rfl #[.agg #[.int .i64 a0_0, .slice A0_1 l0_1.length c0_1], .int .i64 a1] rfl (by (try simp only [List.map_toArray, List.map_cons, List.map_nil]); first | done | rfl | (simp only [List.length_drop, List.length_take]; rfl)) ?_; (with_reducible refine (impl_fileAt.calls a0_0 _ _ l0_1 a1 t422 _ ?side1 ?side2 A20.out).mono ?_); (case side1 => exact Kd.C_below HR0_1.out xbg); (case side2 => exact HC0_1.out); rintro e w79 ⟨rfl, hb⟩; refine ⟨_, rfl, ?_⟩; replace HO420 := aM (Kd.R_below (xrt (Kd.R_mono (Kd.R_far (p := ⟨gb421, 1, none⟩) (Kd.R_far (p := ⟨gb421, 0, none⟩) (Kd.R_types HO420.out BK421.out (by decide)) (fun _ hk => hk.2) (.int .i64 t417)) (fun _ hk => hk.2) (.slice Ao77 t418.length co77)) (fun _ h_ => h_.1))) hb); replace BK413 := aM (blk_below (g := gb413) (o := .cells #[.int .i64 a0_0, .slice A0_1 l0_1.length c0_1] 70 (0, 0)) (by (with_reducible repeat (first | refine blk_drewN ?_ _ | refine blk_drew ?_ | refine blk_alloc ?_ _)); refine blk_far ?_ NB413_421.out _; (with_reducible repeat (first | refine blk_drewN ?_ _ | refine blk_drew ?_ | refine blk_alloc ?_ _)); refine blk_far ?_ NB413_421.out _; (with_reducible repeat (first | refine blk_drewN ?_ _ | refine blk_drew ?_ | refine blk_alloc ?_ _)); exact BK413.out) hb); replace BK414 := aM (blk_below (g := gb414) (o := .cells #[.int .i64 0, .slice none 0 0] 70 (0, 0)) (by (with_reducible repeat (first | refine blk_drewN ?_ _ | refine blk_drew ?_ | refine blk_alloc ?_ _)); refine blk_far ?_ NB414_421.out _; (with_reducible repeat (first | refine blk_drewN ?_ _ | refine blk_drew ?_ | refine blk_alloc ?_ _)); refine blk_far ?_ NB414_421.out _; (with_reducible repeat (first | refine blk_drewN ?_ _ | refine blk_drew ?_ | refine blk_alloc ?_ _)); exact BK414.out) hb); replace BK421 := aM (blk_below (g := gb421) (o := .cells #[.int .i64 t417, .slice Ao77 t418.length co77] 70 (0, 0)) (by (with_reducible repeat (first | refine blk_drewN ?_ _ | refine blk_drew ?_ | refine blk_alloc ?_ _)); refine blk_put (cs := #[.int .i64 t417, .slice none 0 0]) ?_ 1 _ rfl; (with_reducible repeat (first | refine blk_drewN ?_ _ | refine blk_drew ?_ | refine blk_alloc ?_ _)); refine blk_put (cs := #[.int .i64 0, .slice none 0 0]) ?_ 0 _ rfl; (with_reducible repeat (first | refine blk_drewN ?_ _ | refine blk_drew ?_ | refine blk_alloc ?_ _)); exact BK421.out) hb); replace HB := xbs hb; (try clear hb); (try clear hb2); (try clear hk); (try clear hi)))
        replace HO420 := aM (Kd.R_drew HO420.out); replace BK413 := aM (blk_drew BK413.out); replace BK414 := aM (blk_drew BK414.out); replace BK421 := aM (blk_drew BK421.out); replace HB := aM (below_drew1 HB.out); have p423 : 0 ≤ (t422 : Int) := oda; have q423 : t422 < (l0_1.length : Int) := oda
        obtain ⟨ad423, e423, hx423_0, hx423_1, hx423_2⟩ := at_T134 HR0_1.out t422 p423 q423
        have hw423_2 := hx423_2; have hw423_1 := hx423_1; have hw423_0 := hx423_0
        cases e423
        replace hx423_0 := xce HB hx423_0; replace hx423_1 := xce HB hx423_1; replace hx423_2 := xce HB hx423_2; replace p423 := eq_true p423; replace q423 := eq_true q423; have p424 : 0 ≤ (t422 : Int) := oda; have q424 : t422 < (l0_1.length : Int) := oda
        obtain ⟨ad424, e424, hx424_0, hx424_1, hx424_2⟩ := at_T134 HR0_1.out t422 p424 q424
        have hw424_2 := hx424_2; have hw424_1 := hx424_1; have hw424_0 := hx424_0
        obtain rfl : ad423 = ad424 := (by injection e424)
        replace hx424_0 := xce HB hx424_0; replace hx424_1 := xce HB hx424_1; replace hx424_2 := xce HB hx424_2; replace p424 := eq_true p424; replace q424 := eq_true q424
        refine start_ (n := 22) (S := fun w' => w'.cell? ⟨gb413, 0, none⟩ = some (.int .i64 a0_0) ∧ w'.cell? ⟨gb413, 1, none⟩ = some (.slice (some ad423) l0_1.length c0_1) ∧ w'.cell? (ad423.add ((t422).toNat * 3)) = some (.int .i64 ((rd_T134 l0_1 t422).f0)) ∧ w'.cell? ⟨(ad423.add ((t422).toNat * 3)).block, (ad423.add ((t422).toNat * 3)).off + 1, none⟩ = some (.string ((rd_T134 l0_1 t422).f1)) ∧ w'.cell? ⟨(ad423.add ((t422).toNat * 3)).block, (ad423.add ((t422).toNat * 3)).off + 2, none⟩ = some (.string ((rd_T134 l0_1 t422).f2)) ∧ w'.cell? (ad423.add ((t422).toNat * 3)) = some (.int .i64 ((rd_T134 l0_1 t422).f0)) ∧ w'.cell? ⟨(ad423.add ((t422).toNat * 3)).block, (ad423.add ((t422).toNat * 3)).off + 1, none⟩ = some (.string ((rd_T134 l0_1 t422).f1)) ∧ w'.cell? ⟨(ad423.add ((t422).toNat * 3)).block, (ad423.add ((t422).toNat * 3)).off + 2, none⟩ = some (.string ((rd_T134 l0_1 t422).f2))) (ds := []) #[false, false, false, false, false, false, false, false, false, false, false, false, false, false, false, false, false, false, false, false, false, false] (by kernel_rfl) rfl rfl ⟨xc BK413 0 rfl, xc BK413 1 rfl, (xce HB hw423_0), (xce HB hw423_1), (xce HB hw423_2), (xce HB hw424_0), (xce HB hw424_1), (xce HB hw424_2)⟩ (fun hHeld => ?_); refine with_tabW impl_DiskCut.tab5 impl_DiskCut.bits5 (fun HT_ HW_ => ?_)
        generalize w79.drew = w80 at HO420 BK413 BK414 BK421 HB hx423_0 hx423_1 hx423_2 hx424_0 hx424_1 hx424_2 hHeld ⊢
        refine pv_ 0 26 (h := ?_)
        refine pv_ 1 27 (h := ?_)
        refine pv_ 2 28 (h := ?_)
        refine pv_ 3 29 (h := ?_)
        refine pv_ 4 30 (h := ?_)
        refine pv_ 6 32 (h := ?_)
        refine pv_ 11 37 (h := ?_)
        refine pv_ 13 39 (h := ?_)
        refine tk_ 5 31 (h := ?_)
        refine pv_ 7 33 (h := ?_)
        refine pv_ 8 34 (h := ?_)
        refine tk_ 9 35 (h := ?_)
        refine pv_ 10 36 (h := ?_)
        refine tk_ 12 38 (h := ?_)
        refine pv_ 14 40 (h := ?_)
        refine pv_ 15 41 (h := ?_)
        refine tk_ 16 42 (h := ?_)
        refine pv_ 17 43 (h := ?_)
        refine pv_ 18 44 (h := ?_)
        refine on_ 19 45 (h := fun K hK => ?_)
        refine goesY Try.func81 #[.int .i64 a2, .int .i64 0, .int .i64 (wrap64 ((((rd_T134 l0_1 t422).f1).size : Int) + (((rd_T134 l0_1 t422).f2).size : Int)))] ?_
        with_reducible refine (impl_within.calls a2 0 (wrap64 ((((rd_T134 l0_1 t422).f1).size : Int) + (((rd_T134 l0_1 t422).f2).size : Int))) false _ A37.out).mono ?_
        rintro e w' ⟨rfl, ⟨nd, rfl⟩⟩
        refine ⟨_, rfl, ?_⟩
        refine hK.out _ _ ⟨xc BK413 0 rfl, xc BK413 1 rfl, (xce HB hw423_0), (xce HB hw423_1), (xce HB hw423_2), (xce HB hw424_0), (xce HB hw424_1), (xce HB hw424_2)⟩ (fun hHeld => ?_)
        clear hK K
        refine norm_ (a' := ?_) ?_ ?_
        rotate_left
        ·show Act.put _ (some 45) _ = _
         simp only [Act.put, List.setIfInBounds_toArray, List.set_cons_zero, List.set_cons_succ, i64_w, i32_w]
         rfl
        refine pv_ 20 46 (h := ?_)
        refine pv_ 21 47 (h := ?_)
        refine done_ (done_of HT_.out (by kernel_rfl)) ?_
        obtain ⟨hcz81_0, hcz81_1, hfz81_0, hfz81_1⟩ := xf2 (w := w80) BK421; obtain ⟨hcz82_0, hcz82_1, hfz82_0, hfz82_1⟩ := xf2 (w := w80) BK414
        try go_wp2
        refine bodyPost_ret (results_ct rfl _ _ gb414 70 #[.int .i64 t417, .slice Ao77 t418.length co77] (0, 0) _ rfl (by (with_reducible repeat (first | refine blk_drewN ?_ _ | refine blk_drew ?_ | refine blk_alloc ?_ _)); refine blk_put (cs := #[.int .i64 t417, .slice none 0 0]) ?_ 1 _ rfl; (with_reducible repeat (first | refine blk_drewN ?_ _ | refine blk_drew ?_ | refine blk_alloc ?_ _)); refine blk_put (cs := #[.int .i64 0, .slice none 0 0]) ?_ 0 _ rfl; (with_reducible repeat (first | refine blk_drewN ?_ _ | refine blk_drew ?_ | refine blk_alloc ?_ _)); exact BK414.out) Try.underlying70 rfl (by kernel_rfl)) rfl ?_
        exact ⟨_, by first | rfl | (simp [errW_none, errW_some] <;> rfl) | (simp [*, errW_none, errW_some] <;> rfl), by (with_reducible repeat (first | apply Kd.R_alloc | apply Kd.R_drewN | apply Kd.R_drew)); exact Kd.R_mono (Kd.R_far (p := ⟨gb414, 1, none⟩) (Kd.R_far (p := ⟨gb414, 0, none⟩) (Kd.R_types HO420.out BK414.out (by decide)) (fun _ hk => hk.2) (.int .i64 t417)) (fun _ hk => hk.2) (.slice Ao77 t418.length co77)) (fun _ hk => trivial), xbg⟩
      ·rw [if_neg c36] at H
       exact absurd H (by simp)
     ·rw [if_neg c35] at H
      exact absurd H (by simp)

/-! ### spec_DiskSize: function 51 -/
def spec_DiskSize.f (k : Nat) (a0_0 : Int) (l0_1 : List (S134)) : Option (Int) := (spec_DiskOk.f k a0_0 l0_1).bind fun t430 => (if t430 = true then ((spec_l3Size.f k a0_0 l0_1).bind fun t431 => (some t431)) else (some (-1)))
theorem spec_DiskSize.mono : ∀ a0 a1 k, LeO (spec_DiskSize.f k a0 a1) (spec_DiskSize.f (k + 1) a0 a1) := by
 intro a0 a1 k
 unfold spec_DiskSize.f
 repeat' first
  | (with_reducible exact spec_DiskOk.mono _ _ _)
  | (with_reducible exact spec_l3Size.mono _ _ _)
  | (with_reducible exact LeO.refl _)
  | (with_reducible exact LeO.none _)
  | (with_reducible refine LeO.ite ?_ ?_)
  | (with_reducible refine LeO.bind ?_ (fun _ => ?_))
  | exact spec_DiskOk.mono _ _ _
  | exact spec_l3Size.mono _ _ _
  | exact LeO.none _
  | refine LeO.ite ?_ ?_
  | refine LeO.bind ?_ (fun _ => ?_)
set_option maxHeartbeats 8000000 in
set_option maxRecDepth 100000 in
theorem spec_DiskSize.calls (k : Nat) (a0_0 : Int) (A0_1 : Option Addr) (c0_1 : Nat) (l0_1 : List (S134)) (r : Int) (w : World) (hr0_1 : Kd.C k134 w A0_1 l0_1.length l0_1) (hc0_1 : l0_1.length ≤ c0_1) (h : spec_DiskSize.f k a0_0 l0_1 = some r) :
 Calls Try.prog 51 #[.agg #[.int .i64 a0_0, .slice A0_1 l0_1.length c0_1]] w fun e w' => e = .returned (.int .i64 r) ∧ Below w.heap.size w w' := by
 have hu70 := Try.underlying70
 have HR0_1 := aM hr0_1
 have HC0_1 := aM hc0_1
 clear hr0_1 hc0_1
 have HB := aM (Below.refl w.heap.size w)
 have H : ((spec_DiskOk.f k a0_0 l0_1).bind fun t430 => (if t430 = true then ((spec_l3Size.f k a0_0 l0_1).bind fun t431 => (some t431)) else (some (-1)))) = some r := h
 clear h
 replace H := Option.bind_eq_some_iff.mp H
 obtain ⟨t430, A20, H⟩ := H
 replace H : (if t430 = true then ((spec_l3Size.f k a0_0 l0_1).bind fun t431 => (some t431)) else (some (-1))) = some r := H
 have A2 := aM A20
 clear A20
 by_cases c3 : t430 = true
 ·subst c3
  have H1 : ((spec_l3Size.f k a0_0 l0_1).bind fun t431 => (some t431)) = some r := by rw [if_pos rfl] at H; exact H
  clear H; have H := H1; clear H1; replace H := Option.bind_eq_some_iff.mp H
  obtain ⟨t431, A40, H⟩ := H
  replace H : (some t431) = some r := H; have A4 := aM A40; clear A40
  obtain rfl := Option.some.inj H
  go_enter Try.func51, Try.ntmps51
  go_wp2_with (first | ((with_reducible refine gate_dst (N := 1) rfl ?_); refine box_event ?hg (N := 1) ?hd (cs := #[.int .i64 a0_0, .slice A0_1 l0_1.length c0_1]) (t := 70) ?hr ?_; (case hd => rfl); (case hg => rfl); (case hr => first | (go_simp; done) | (go_simp; rfl)); intro gb429 hg w5 hbox hb; have BK429 := aM (hbox); have GW429 := aM (xge hg); have GE429 := aM (xge hg); replace HB := xbs hb; clear hb hbox hg; obtain ⟨hcz6_0, hcz6_1, hfz6_0, hfz6_1⟩ := xf2 (w := w5) BK429) | ((with_reducible refine gate_callee (f := 106) rfl ?_); refine goesL_ (some 4) rfl rfl Try.func106 (by kernel_rfl) rfl #[.agg #[.int .i64 a0_0, .slice A0_1 l0_1.length c0_1]] rfl (by (try simp only [List.map_toArray, List.map_cons, List.map_nil]); first | done | rfl | (simp only [List.length_drop, List.length_take]; rfl)) ?_; (with_reducible refine (spec_DiskOk.calls k a0_0 _ _ l0_1 true _ ?side1 ?side2 A2.out).mono ?_); (case side1 => exact xcb HR0_1); (case side2 => exact HC0_1.out); rintro e w7 ⟨rfl, hb⟩; refine ⟨_, rfl, ?_⟩; replace BK429 := xbb BK429 hb; replace HB := xbs hb; (try clear hb); (try clear hb2); (try clear hk); (try clear hi); obtain ⟨hcz8_0, hcz8_1, hfz8_0, hfz8_1⟩ := xf2 (w := w7) BK429) | ((with_reducible refine gate_callee (f := 108) rfl ?_); refine goesL_ (some 7) rfl rfl Try.func108 (by kernel_rfl) rfl #[.agg #[.int .i64 a0_0, .slice A0_1 l0_1.length c0_1]] rfl (by (try simp only [List.map_toArray, List.map_cons, List.map_nil]); first | done | rfl | (simp only [List.length_drop, List.length_take]; rfl)) ?_; (with_reducible refine (spec_l3Size.calls k a0_0 _ _ l0_1 t431 _ ?side1 ?side2 A4.out).mono ?_); (case side1 => exact xcb HR0_1); (case side2 => exact HC0_1.out); rintro e w9 ⟨rfl, hb⟩; refine ⟨_, rfl, ?_⟩; replace BK429 := xbb BK429 hb; replace HB := xbs hb; (try clear hb); (try clear hb2); (try clear hk); (try clear hi)))
  go_ret
  exact ⟨by first | rfl | (simp [errW_none, errW_some] <;> rfl) | (simp [*, errW_none, errW_some] <;> rfl), xbg⟩
 ·replace c3 := Bool.eq_false_iff.mpr c3
  subst c3
  have H1 : (some (-1)) = some r := by rw [if_neg (show ¬ (false = true) by decide)] at H; exact H
  clear H; have H := H1; clear H1
  obtain rfl := Option.some.inj H
  go_enter Try.func51, Try.ntmps51
  go_wp2_with (first | ((with_reducible refine gate_dst (N := 1) rfl ?_); refine box_event ?hg (N := 1) ?hd (cs := #[.int .i64 a0_0, .slice A0_1 l0_1.length c0_1]) (t := 70) ?hr ?_; (case hd => rfl); (case hg => rfl); (case hr => first | (go_simp; done) | (go_simp; rfl)); intro gb429 hg w10 hbox hb; have BK429 := aM (hbox); have GW429 := aM (xge hg); have GE429 := aM (xge hg); replace HB := xbs hb; clear hb hbox hg; obtain ⟨hcz11_0, hcz11_1, hfz11_0, hfz11_1⟩ := xf2 (w := w10) BK429) | ((with_reducible refine gate_callee (f := 106) rfl ?_); refine goesL_ (some 4) rfl rfl Try.func106 (by kernel_rfl) rfl #[.agg #[.int .i64 a0_0, .slice A0_1 l0_1.length c0_1]] rfl (by (try simp only [List.map_toArray, List.map_cons, List.map_nil]); first | done | rfl | (simp only [List.length_drop, List.length_take]; rfl)) ?_; (with_reducible refine (spec_DiskOk.calls k a0_0 _ _ l0_1 false _ ?side1 ?side2 A2.out).mono ?_); (case side1 => exact xcb HR0_1); (case side2 => exact HC0_1.out); rintro e w12 ⟨rfl, hb⟩; refine ⟨_, rfl, ?_⟩; replace BK429 := xbb BK429 hb; replace HB := xbs hb; (try clear hb); (try clear hb2); (try clear hk); (try clear hi)))
  go_ret
  exact ⟨by first | rfl | (simp [errW_none, errW_some] <;> rfl) | (simp [*, errW_none, errW_some] <;> rfl), xbg⟩

end Go.Proofs.Ytnjpfllmcmomoaa.QFnFiles
