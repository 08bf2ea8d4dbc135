-- A walk, by a program of this session.
import Derived.Test.YtnjpfllmcmomoaaQFnExactDiskMovex0
import Derived.Test.YtnjpfllmcmomoaaQFnExactDiskMovex5
namespace Go.Proofs.Ytnjpfllmcmomoaa.QFnExactDiskMove
open Go.RowKit Go.Proofs.YtnjpfllmcmomoaaW.PrintWords Go.Proofs.YtnjpfllmcmomoaaW.PrintLast Go.Proofs.YtnjpfllmcmomoaaW.PrintMore
attribute [local go_sem] max2_int min2_int max_two min_two max_three min_three max_four min_four   -- for this text's walks alone
set_option linter.unusedVariables false
set_option linter.unusedSimpArgs false

/-! ### impl_DiskOk: function 52 -/
def impl_DiskOk.l0 : Nat → List (S134) → Int → Int → Int → List (S134) → Option (Bool)
 | 0, _, _, _, _, _ => none
 | k + 1, x6, x7, x8, x217000, x217001 => if x8 < x7 then (if 0 ≤ x8 then (if x8 < (x6.length : Int) then ((impl_isFile.f ((rd_T134 x6 x8).f0)).bind fun t219 => (if t219 = true then (if x8 > 0 then (if 0 ≤ (wrap64 (x8 - 1)) then (if (wrap64 (x8 - 1)) < (x217001.length : Int) then (if ((rd_T134 x217001 (wrap64 (x8 - 1))).f0) ≥ ((rd_T134 x6 x8).f0) then (some false) else (impl_DiskOk.l0 k x6 x7 (wrap64 (x8 + 1)) x217000 x217001)) else (none)) else (none)) else (impl_DiskOk.l0 k x6 x7 (wrap64 (x8 + 1)) x217000 x217001)) else (some false))) else (none)) else (none)) else ((impl_within.f x217000 0 40000).bind fun t221 => (if t221 = true then ((impl_sizeOf.f k x217000 x217001).bind fun t222 => (some (decide (t222 ≤ x217000)))) else (some false)))
def impl_DiskOk.f (k : Nat) (a0_0 : Int) (l0_1 : List (S134)) : Option (Bool) := impl_DiskOk.l0 k l0_1 (l0_1.length : Int) 0 a0_0 l0_1
set_option maxRecDepth 100000 in
theorem impl_DiskOk.mono_l : ∀ k, (∀ y0 y1 y2 y3 y4, LeO (impl_DiskOk.l0 k y0 y1 y2 y3 y4) (impl_DiskOk.l0 (k + 1) y0 y1 y2 y3 y4))
 | 0 => fun _ _ _ _ _ r h => by simp [impl_DiskOk.l0] at h
 | k + 1 => by
  have ih0 := impl_DiskOk.mono_l k
  ·intro y0 y1 y2 y3 y4
   unfold impl_DiskOk.l0
   repeat' first
   | (with_reducible exact ih0 _ _ _ _ _)
   | (with_reducible exact impl_sizeOf.mono _ _ _)
   | (with_reducible exact LeO.refl _)
   | (with_reducible exact LeO.none _)
   | (with_reducible refine LeO.ite ?_ ?_)
   | (with_reducible refine LeO.bind ?_ (fun _ => ?_))
   | exact ih0 _ _ _ _ _
   | exact impl_sizeOf.mono _ _ _
   | exact LeO.none _
   | refine LeO.ite ?_ ?_
   | refine LeO.bind ?_ (fun _ => ?_)
theorem impl_DiskOk.mono : ∀ a0 a1 k, LeO (impl_DiskOk.f k a0 a1) (impl_DiskOk.f (k + 1) a0 a1) := by
 intro a0 a1 k
 have ih0 := impl_DiskOk.mono_l k
 unfold impl_DiskOk.f
 repeat' first
  | (with_reducible exact ih0 _ _ _ _ _)
  | (with_reducible exact impl_sizeOf.mono _ _ _)
  | (with_reducible exact LeO.refl _)
  | (with_reducible exact LeO.none _)
  | (with_reducible refine LeO.ite ?_ ?_)
  | (with_reducible refine LeO.bind ?_ (fun _ => ?_))
  | exact ih0 _ _ _ _ _
  | exact impl_sizeOf.mono _ _ _
  | exact LeO.none _
  | refine LeO.ite ?_ ?_
  | refine LeO.bind ?_ (fun _ => ?_)
def impl_DiskOk.T4 : Bool × List (List Nat × List Nat) := (true, [([], []), ([0], [0]), ([1], [1]), ([2], [2]), ([3, 2], [3]), ([4], [4]), ([5, 4], [4, 5]), ([6, 4, 4], [4, 6]), ([7], [7]), ([8, 7], [7, 8]), ([7], [7]), ([10, 7], [7, 10]), ([9, 11, 7], [7, 9, 11]), ([12, 7], [7, 12]), ([13, 7], [7, 13]), ([7], [7]), ([15, 7], [7, 15]), ([14, 16, 7], [7, 14, 16]), ([7, 17, 4], [4, 7, 17]), ([4, 18], [4, 18])])
def impl_DiskOk.B4 : List Nat := [0, 1, 3, 7, 15, 31, 63, 127, 255, 511, 255, 1279, 4095, 8191, 16383, 255, 33023, 131071, 262143, 524287]
theorem impl_DiskOk.tab4 : rtab .any (opsOf Try.f52 4) = impl_DiskOk.T4 := by kernel_rfl
theorem impl_DiskOk.bits4 : waitsOk impl_DiskOk.T4.2 impl_DiskOk.B4 = true := by kernel_rfl
def impl_DiskOk.T7 : Bool × List (List Nat × List Nat) := (true, [([], []), ([0], [0]), ([1], [1]), ([2, 2], [2]), ([3], [3]), ([4, 3, 3], [3, 4]), ([3], [3]), ([6, 3], [3, 6]), ([5, 7, 3], [3, 5, 7]), ([3, 8], [3, 8]), ([9, 5, 0, 1, 2, 3, 4, 5, 6, 7, 8, 9], [9])])
def impl_DiskOk.B7 : List Nat := [0, 1, 3, 7, 15, 31, 15, 79, 255, 511, 1023]
theorem impl_DiskOk.tab7 : rtab .any (opsOf Try.f52 7) = impl_DiskOk.T7 := by kernel_rfl
theorem impl_DiskOk.bits7 : waitsOk impl_DiskOk.T7.2 impl_DiskOk.B7 = true := by kernel_rfl
set_option maxHeartbeats 8000000 in
set_option maxRecDepth 100000 in
theorem impl_DiskOk.calls (k : Nat) (a0_0 : Int) (A0_1 : Option Addr) (c0_1 : Nat) (l0_1 : List (S134)) (r : Bool) (w : World) (hr0_1 : Kd.C k134 w A0_1 l0_1.length l0_1) (hc0_1 : l0_1.length ≤ c0_1) (h : impl_DiskOk.f k a0_0 l0_1 = some r) :
 Calls Try.prog 52 #[.agg #[.int .i64 a0_0, .slice A0_1 l0_1.length c0_1]] w fun e w' => e = .returned (.bool r) ∧ Below w.heap.size w w' := by
 have hu70 := Try.underlying70
 have hu134 := Try.underlying134
 have HR0_1 := aM hr0_1
 have HC0_1 := aM hc0_1
 clear hr0_1 hc0_1
 have HB := aM (Below.refl w.heap.size w)
 have H : (impl_DiskOk.l0 k l0_1 (l0_1.length : Int) 0 a0_0 l0_1) = some r := h
 clear h
 have H' := aM H
 clear H
 go_enter Try.func52, Try.ntmps52
 go_wp2_with (first | ((with_reducible refine gate_dst (N := 1) rfl ?_); refine box_event ?hg (N := 1) ?hd (cs := #[.int .i64 a0_0, .slice A0_1 l0_1.length c0_1]) (t := 70) ?hr ?_; (case hd => rfl); (case hg => rfl); (case hr => first | (go_simp; done) | (go_simp; rfl)); intro gb216 hg w2 hbox hb; have BK216 := aM (hbox); have GW216 := aM (xge hg); have GE216 := aM (xge hg); replace HB := xbs hb; clear hb hbox hg; obtain ⟨hcz3_0, hcz3_1, hfz3_0, hfz3_1⟩ := xf2 (w := w2) BK216))
 go_loopg [8] k (fun kq v8 w' => ∃ (x8_1 : Int), v8 = .int .i64 x8_1 ∧ Aside0 (impl_DiskOk.l0 kq l0_1 (l0_1.length : Int) x8_1 a0_0 l0_1 = some r) ∧ Aside0 (kq ≤ k) ∧ Aside0 (w'.heap[gb216]? = some (.cells #[.int .i64 a0_0, (.slice A0_1 l0_1.length c0_1)] 70 (0, 0))) ∧ Aside0 (Below w.heap.size w w'))
 case atStart => exact ⟨(0), (by first | rfl | (simp; done) | (simp [*]; done)), H', ⟨Nat.le_refl _⟩, ⟨xblk⟩, ⟨xbg⟩⟩
 case round =>
  clear H'
  try clear p2
  try clear hcz3_0
  try clear hcz3_1
  try clear hfz3_0
  try clear hfz3_1
  obtain ⟨x8_1, rfl, HA, HK1, BK216, HB⟩ := hrel
  cases gk with
  | zero => exact absurd HA.out (by simp [impl_DiskOk.l0])
  | succ k1 =>
   have H := HA.out; clear HA
   simp only [impl_DiskOk.l0] at H
   by_cases c4 : x8_1 < (l0_1.length : Int)
   ·rw [if_pos c4] at H
    have c4b0 : decide (x8_1 < (l0_1.length : Int)) = true := decide_eq_true c4; clear c4
    by_cases c5 : 0 ≤ x8_1
    ·rw [if_pos c5] at H
     have c5b0 : decide (0 ≤ x8_1) = true := decide_eq_true c5; clear c5
     by_cases c6 : x8_1 < (l0_1.length : Int)
     ·rw [if_pos c6] at H
      have c6b0 : decide (x8_1 < (l0_1.length : Int)) = true := decide_eq_true c6; clear c6; replace H := Option.bind_eq_some_iff.mp H
      obtain ⟨t219, A70, H⟩ := H
      replace H : (if t219 = true then (if x8_1 > 0 then (if 0 ≤ (wrap64 (x8_1 - 1)) then (if (wrap64 (x8_1 - 1)) < (l0_1.length : Int) then (if ((rd_T134 l0_1 (wrap64 (x8_1 - 1))).f0) ≥ ((rd_T134 l0_1 x8_1).f0) then (some false) else (impl_DiskOk.l0 k1 l0_1 (l0_1.length : Int) (wrap64 (x8_1 + 1)) a0_0 l0_1)) else (none)) else (none)) else (impl_DiskOk.l0 k1 l0_1 (l0_1.length : Int) (wrap64 (x8_1 + 1)) a0_0 l0_1)) else (some false)) = some r := H; have A7 := aM A70; clear A70
      by_cases c8 : t219 = true
      ·subst c8
       have H1 : (if x8_1 > 0 then (if 0 ≤ (wrap64 (x8_1 - 1)) then (if (wrap64 (x8_1 - 1)) < (l0_1.length : Int) then (if ((rd_T134 l0_1 (wrap64 (x8_1 - 1))).f0) ≥ ((rd_T134 l0_1 x8_1).f0) then (some false) else (impl_DiskOk.l0 k1 l0_1 (l0_1.length : Int) (wrap64 (x8_1 + 1)) a0_0 l0_1)) else (none)) else (none)) else (impl_DiskOk.l0 k1 l0_1 (l0_1.length : Int) (wrap64 (x8_1 + 1)) a0_0 l0_1)) = some r := by rw [if_pos rfl] at H; exact H
       clear H; have H := H1; clear H1
       by_cases c9 : x8_1 > 0
       ·rw [if_pos c9] at H
        have c9b0 : decide (0 < x8_1) = true := decide_eq_true c9; clear c9
        obtain ⟨ji10, hji10⟩ : ∃ j_ : Int, (wrap64 (x8_1 - 1)) = j_ := ⟨_, rfl⟩
        replace H : (if 0 ≤ (ji10) then (if (ji10) < (l0_1.length : Int) then (if ((rd_T134 l0_1 (ji10)).f0) ≥ ((rd_T134 l0_1 x8_1).f0) then (some false) else (impl_DiskOk.l0 k1 l0_1 (l0_1.length : Int) (wrap64 (x8_1 + 1)) a0_0 l0_1)) else (none)) else (none)) = some r := by first | (rw [hji10] at H; exact H) | (simp only [hji10] at H ⊢; exact H)
        (try rw [hji10] at A7)
        have hji10w : (IntKind.i64.wrap (x8_1 - 1)) = ji10 := (i64_w _).trans hji10
        by_cases c11 : 0 ≤ (ji10)
        ·rw [if_pos c11] at H
         have c11b0 : decide (0 ≤ (ji10)) = true := decide_eq_true c11; clear c11
         by_cases c12 : (ji10) < (l0_1.length : Int)
         ·rw [if_pos c12] at H
          have c12b0 : decide ((ji10) < (l0_1.length : Int)) = true := decide_eq_true c12; clear c12
          by_cases c13 : ((rd_T134 l0_1 (ji10)).f0) ≥ ((rd_T134 l0_1 x8_1).f0)
          ·rw [if_pos c13] at H
           have c13b0 : decide (((rd_T134 l0_1 x8_1).f0) ≤ ((rd_T134 l0_1 (ji10)).f0)) = true := decide_eq_true c13; clear c13
           obtain rfl := Option.some.inj H
           have p217 : 0 ≤ (x8_1 : Int) := oda; have q217 : x8_1 < (l0_1.length : Int) := oda
           obtain ⟨ad217, e217, hx217_0, hx217_1, hx217_2⟩ := at_T134 HR0_1.out x8_1 p217 q217
           cases e217
           replace hx217_0 := xce HB hx217_0; replace hx217_1 := xce HB hx217_1; replace hx217_2 := xce HB hx217_2; replace p217 := eq_true p217; replace q217 := eq_true q217
           try go_wp2_with (first | ((with_reducible refine gate_dst (N := 4) rfl ?_); refine box_event ?hg (N := 4) ?hd (cs := #[.int .i64 0, .string (⟨#[]⟩ : ByteArray), .string (⟨#[]⟩ : ByteArray)]) (t := 134) ?hr ?_; (case hd => rfl); (case hg => rfl); (case hr => first | (go_simp; done) | (go_simp; rfl)); intro gb218 hg w14 hbox hb; have GW218 := aM (xge hg); have GE218 := aM (xge hg); replace HB := xbs hb; have NB216_218 := aM ((by rw [hg]; exact Nat.ne_of_lt (blk_lt (g := gb216) (o := .cells #[.int .i64 a0_0, .slice (some ad217) l0_1.length c0_1] 70 (0, 0)) xblk) : gb216 ≠ gb218)); have NB218_216 := aM ((by rw [hg]; exact Nat.ne_of_gt (blk_lt (g := gb216) (o := .cells #[.int .i64 a0_0, .slice (some ad217) l0_1.length c0_1] 70 (0, 0)) xblk) : gb218 ≠ gb216)); replace BK216 := xbb BK216 hb; have BK218 := aM (hbox); clear hb hbox hg; have hnb15 := NB218_216.out; have hnc15 := NB216_218.out; obtain ⟨hcz16_0, hcz16_1, hcz16_2, hfz16_0, hfz16_1, hfz16_2⟩ := xf3 (w := w14) BK218))
           have n0_ : Aside0 ((((w14.setCell ⟨gb218, 0, none⟩ (.int .i64 ((rd_T134 l0_1 x8_1).f0))).setCell ⟨gb218, 1, none⟩ (.string ((rd_T134 l0_1 x8_1).f1))).setCell ⟨gb218, 2, none⟩ (.string ((rd_T134 l0_1 x8_1).f2))).heap[gb216]? = some (.cells #[.int .i64 a0_0, .slice (some ad217) l0_1.length c0_1] 70 (0, 0))) := ⟨by (with_reducible repeat (first | refine blk_drewN ?_ _ | refine blk_drew ?_ | refine blk_alloc ?_ _)); refine blk_far ?_ NB216_218.out _; (with_reducible repeat (first | refine blk_drewN ?_ _ | refine blk_drew ?_ | refine blk_alloc ?_ _)); refine blk_far ?_ NB216_218.out _; (with_reducible repeat (first | refine blk_drewN ?_ _ | refine blk_drew ?_ | refine blk_alloc ?_ _)); refine blk_far ?_ NB216_218.out _; (with_reducible repeat (first | refine blk_drewN ?_ _ | refine blk_drew ?_ | refine blk_alloc ?_ _)); exact BK216.out⟩; have n1_ : Aside0 ((((w14.setCell ⟨gb218, 0, none⟩ (.int .i64 ((rd_T134 l0_1 x8_1).f0))).setCell ⟨gb218, 1, none⟩ (.string ((rd_T134 l0_1 x8_1).f1))).setCell ⟨gb218, 2, none⟩ (.string ((rd_T134 l0_1 x8_1).f2))).heap[gb218]? = some (.cells #[.int .i64 ((rd_T134 l0_1 x8_1).f0), .string ((rd_T134 l0_1 x8_1).f1), .string ((rd_T134 l0_1 x8_1).f2)] 134 (0, 0))) := ⟨by (with_reducible repeat (first | refine blk_drewN ?_ _ | refine blk_drew ?_ | refine blk_alloc ?_ _)); refine blk_put (cs := #[.int .i64 ((rd_T134 l0_1 x8_1).f0), .string ((rd_T134 l0_1 x8_1).f1), .string (⟨#[]⟩ : ByteArray)]) ?_ 2 _ rfl; (with_reducible repeat (first | refine blk_drewN ?_ _ | refine blk_drew ?_ | refine blk_alloc ?_ _)); refine blk_put (cs := #[.int .i64 ((rd_T134 l0_1 x8_1).f0), .string (⟨#[]⟩ : ByteArray), .string (⟨#[]⟩ : ByteArray)]) ?_ 1 _ rfl; (with_reducible repeat (first | refine blk_drewN ?_ _ | refine blk_drew ?_ | refine blk_alloc ?_ _)); refine blk_put (cs := #[.int .i64 0, .string (⟨#[]⟩ : ByteArray), .string (⟨#[]⟩ : ByteArray)]) ?_ 0 _ rfl; (with_reducible repeat (first | refine blk_drewN ?_ _ | refine blk_drew ?_ | refine blk_alloc ?_ _)); exact BK218.out⟩
           have n2_ : Aside0 (Below w.heap.size w (((w14.setCell ⟨gb218, 0, none⟩ (.int .i64 ((rd_T134 l0_1 x8_1).f0))).setCell ⟨gb218, 1, none⟩ (.string ((rd_T134 l0_1 x8_1).f1))).setCell ⟨gb218, 2, none⟩ (.string ((rd_T134 l0_1 x8_1).f2)))) := ⟨xbg⟩
           (try clear BK216); (try clear BK218); (try clear HB)
           generalize (((w14.setCell ⟨gb218, 0, none⟩ (.int .i64 ((rd_T134 l0_1 x8_1).f0))).setCell ⟨gb218, 1, none⟩ (.string ((rd_T134 l0_1 x8_1).f1))).setCell ⟨gb218, 2, none⟩ (.string ((rd_T134 l0_1 x8_1).f2))) = w17 at n0_ n1_ n2_ ⊢
           have BK216 := n0_; have BK218 := n1_; have HB := n2_; clear n0_ n1_ n2_; replace BK216 := aM (blk_drew BK216.out); replace BK218 := aM (blk_drew BK218.out); replace HB := aM (below_drew1 HB.out); have p220 : 0 ≤ ((ji10) : Int) := oda; have q220 : (ji10) < (l0_1.length : Int) := oda
           obtain ⟨ad220, e220, hx220_0, hx220_1, hx220_2⟩ := at_T134 HR0_1.out (ji10) p220 q220
           have hw220_2 := hx220_2; have hw220_1 := hx220_1; have hw220_0 := hx220_0
           obtain rfl : ad217 = ad220 := (by injection e220)
           replace hx220_0 := xce HB hx220_0; replace hx220_1 := xce HB hx220_1; replace hx220_2 := xce HB hx220_2; replace p220 := eq_true p220; replace q220 := eq_true q220
           refine start_ (n := 20) (S := fun w' => w'.cell? ⟨gb218, 0, none⟩ = some (.int .i64 ((rd_T134 l0_1 x8_1).f0)) ∧ w'.cell? ⟨gb218, 1, none⟩ = some (.string ((rd_T134 l0_1 x8_1).f1)) ∧ w'.cell? ⟨gb218, 2, none⟩ = some (.string ((rd_T134 l0_1 x8_1).f2)) ∧ w'.cell? ⟨gb216, 0, none⟩ = some (.int .i64 a0_0) ∧ w'.cell? ⟨gb216, 1, none⟩ = some (.slice (some ad217) l0_1.length c0_1) ∧ w'.cell? (ad217.add (((ji10)).toNat * 3)) = some (.int .i64 ((rd_T134 l0_1 (ji10)).f0)) ∧ w'.cell? ⟨(ad217.add (((ji10)).toNat * 3)).block, (ad217.add (((ji10)).toNat * 3)).off + 1, none⟩ = some (.string ((rd_T134 l0_1 (ji10)).f1)) ∧ w'.cell? ⟨(ad217.add (((ji10)).toNat * 3)).block, (ad217.add (((ji10)).toNat * 3)).off + 2, none⟩ = some (.string ((rd_T134 l0_1 (ji10)).f2))) (ds := []) #[false, false, false, false, false, false, false, false, false, false, false, false, false, false, false, false, false, false, false, false] (by kernel_rfl) rfl rfl ⟨xc BK218 0 rfl, xc BK218 1 rfl, xc BK218 2 rfl, xc BK216 0 rfl, xc BK216 1 rfl, (xce HB hw220_0), (xce HB hw220_1), (xce HB hw220_2)⟩ (fun hHeld => ?_); refine with_tabW impl_DiskOk.tab4 impl_DiskOk.bits4 (fun HT_ HW_ => ?_)
           generalize w17.drew = w18 at BK216 BK218 HB hx220_0 hx220_1 hx220_2 hHeld ⊢
           refine pv_ 0 13 (h := ?_)
           refine tk_ 1 14 (h := ?_)
           refine on_ 2 15 (h := fun K hK => ?_)
           refine goesY Try.func113 #[.int .i64 ((rd_T134 l0_1 x8_1).f0)] ?_
           with_reducible refine (impl_isFile.calls ((rd_T134 l0_1 x8_1).f0) true _ A7.out).mono ?_
           rintro e w' ⟨rfl, ⟨nd, rfl⟩⟩
           refine ⟨_, rfl, ?_⟩
           refine hK.out _ _ ⟨xc BK218 0 rfl, xc BK218 1 rfl, xc BK218 2 rfl, xc BK216 0 rfl, xc BK216 1 rfl, (xce HB hw220_0), (xce HB hw220_1), (xce HB hw220_2)⟩ (fun hHeld => ?_)
           clear hK K
           refine norm_ (a' := ?_) ?_ ?_
           rotate_left
           ·show Act.put _ (some 15) _ = _
            simp only [Act.put, List.setIfInBounds_toArray, List.set_cons_zero, List.set_cons_succ, i64_w, i32_w]
            rfl
           refine pv_ 3 16 (h := ?_)
           refine pv_ 4 17 (h := ?_)
           refine pv_ 5 18 (h := ?_)
           refine pv_ 6 19 (h := ?_)
           refine pv_ 7 20 (h := ?_)
           refine pv_ 8 21 (h := ?_)
           refine pv_ 10 23 (h := ?_)
           refine pv_ 11 24 (h := ?_)
           refine pv_ 15 28 (h := ?_)
           refine tk_ 9 22 (h := ?_)
           refine pv_ 12 25 (h := ?_)
           refine pv_ 13 26 (h := ?_)
           refine tk_ 14 27 (h := ?_)
           refine tk_ 16 29 (h := ?_)
           refine pv_ 17 30 (h := ?_)
           refine pv_ 18 31 (h := ?_)
           refine pv_ 19 32 (h := ?_)
           refine done_ (done_of HT_.out (by kernel_rfl)) ?_
           try go_wp2
           go_ret
           exact ⟨by first | rfl | (simp [errW_none, errW_some] <;> rfl) | (simp only [← hji10]; first | rfl | (simp [errW_none, errW_some] <;> rfl)) | (simp [*, errW_none, errW_some] <;> rfl), xbg⟩
          ·rw [if_neg c13] at H
           have c13b0 : decide (((rd_T134 l0_1 x8_1).f0) ≤ ((rd_T134 l0_1 (ji10)).f0)) = false := decide_eq_false c13; clear c13
           have H' := aM H
           clear H; have p217 : 0 ≤ (x8_1 : Int) := oda; have q217 : x8_1 < (l0_1.length : Int) := oda
           obtain ⟨ad217, e217, hx217_0, hx217_1, hx217_2⟩ := at_T134 HR0_1.out x8_1 p217 q217
           cases e217
           replace hx217_0 := xce HB hx217_0; replace hx217_1 := xce HB hx217_1; replace hx217_2 := xce HB hx217_2; replace p217 := eq_true p217; replace q217 := eq_true q217
           try go_wp2_with (first | ((with_reducible refine gate_dst (N := 4) rfl ?_); refine box_event ?hg (N := 4) ?hd (cs := #[.int .i64 0, .string (⟨#[]⟩ : ByteArray), .string (⟨#[]⟩ : ByteArray)]) (t := 134) ?hr ?_; (case hd => rfl); (case hg => rfl); (case hr => first | (go_simp; done) | (go_simp; rfl)); intro gb218 hg w19 hbox hb; have GW218 := aM (xge hg); have GE218 := aM (xge hg); replace HB := xbs hb; have NB216_218 := aM ((by rw [hg]; exact Nat.ne_of_lt (blk_lt (g := gb216) (o := .cells #[.int .i64 a0_0, .slice (some ad217) l0_1.length c0_1] 70 (0, 0)) xblk) : gb216 ≠ gb218)); have NB218_216 := aM ((by rw [hg]; exact Nat.ne_of_gt (blk_lt (g := gb216) (o := .cells #[.int .i64 a0_0, .slice (some ad217) l0_1.length c0_1] 70 (0, 0)) xblk) : gb218 ≠ gb216)); replace BK216 := xbb BK216 hb; have BK218 := aM (hbox); clear hb hbox hg; have hnb20 := NB218_216.out; have hnc20 := NB216_218.out; obtain ⟨hcz21_0, hcz21_1, hcz21_2, hfz21_0, hfz21_1, hfz21_2⟩ := xf3 (w := w19) BK218))
           have n0_ : Aside0 ((((w19.setCell ⟨gb218, 0, none⟩ (.int .i64 ((rd_T134 l0_1 x8_1).f0))).setCell ⟨gb218, 1, none⟩ (.string ((rd_T134 l0_1 x8_1).f1))).setCell ⟨gb218, 2, none⟩ (.string ((rd_T134 l0_1 x8_1).f2))).heap[gb216]? = some (.cells #[.int .i64 a0_0, .slice (some ad217) l0_1.length c0_1] 70 (0, 0))) := ⟨by (with_reducible repeat (first | refine blk_drewN ?_ _ | refine blk_drew ?_ | refine blk_alloc ?_ _)); refine blk_far ?_ NB216_218.out _; (with_reducible repeat (first | refine blk_drewN ?_ _ | refine blk_drew ?_ | refine blk_alloc ?_ _)); refine blk_far ?_ NB216_218.out _; (with_reducible repeat (first | refine blk_drewN ?_ _ | refine blk_drew ?_ | refine blk_alloc ?_ _)); refine blk_far ?_ NB216_218.out _; (with_reducible repeat (first | refine blk_drewN ?_ _ | refine blk_drew ?_ | refine blk_alloc ?_ _)); exact BK216.out⟩; have n1_ : Aside0 ((((w19.setCell ⟨gb218, 0, none⟩ (.int .i64 ((rd_T134 l0_1 x8_1).f0))).setCell ⟨gb218, 1, none⟩ (.string ((rd_T134 l0_1 x8_1).f1))).setCell ⟨gb218, 2, none⟩ (.string ((rd_T134 l0_1 x8_1).f2))).heap[gb218]? = some (.cells #[.int .i64 ((rd_T134 l0_1 x8_1).f0), .string ((rd_T134 l0_1 x8_1).f1), .string ((rd_T134 l0_1 x8_1).f2)] 134 (0, 0))) := ⟨by (with_reducible repeat (first | refine blk_drewN ?_ _ | refine blk_drew ?_ | refine blk_alloc ?_ _)); refine blk_put (cs := #[.int .i64 ((rd_T134 l0_1 x8_1).f0), .string ((rd_T134 l0_1 x8_1).f1), .string (⟨#[]⟩ : ByteArray)]) ?_ 2 _ rfl; (with_reducible repeat (first | refine blk_drewN ?_ _ | refine blk_drew ?_ | refine blk_alloc ?_ _)); refine blk_put (cs := #[.int .i64 ((rd_T134 l0_1 x8_1).f0), .string (⟨#[]⟩ : ByteArray), .string (⟨#[]⟩ : ByteArray)]) ?_ 1 _ rfl; (with_reducible repeat (first | refine blk_drewN ?_ _ | refine blk_drew ?_ | refine blk_alloc ?_ _)); refine blk_put (cs := #[.int .i64 0, .string (⟨#[]⟩ : ByteArray), .string (⟨#[]⟩ : ByteArray)]) ?_ 0 _ rfl; (with_reducible repeat (first | refine blk_drewN ?_ _ | refine blk_drew ?_ | refine blk_alloc ?_ _)); exact BK218.out⟩
           have n2_ : Aside0 (Below w.heap.size w (((w19.setCell ⟨gb218, 0, none⟩ (.int .i64 ((rd_T134 l0_1 x8_1).f0))).setCell ⟨gb218, 1, none⟩ (.string ((rd_T134 l0_1 x8_1).f1))).setCell ⟨gb218, 2, none⟩ (.string ((rd_T134 l0_1 x8_1).f2)))) := ⟨xbg⟩
           (try clear BK216); (try clear BK218); (try clear HB)
           generalize (((w19.setCell ⟨gb218, 0, none⟩ (.int .i64 ((rd_T134 l0_1 x8_1).f0))).setCell ⟨gb218, 1, none⟩ (.string ((rd_T134 l0_1 x8_1).f1))).setCell ⟨gb218, 2, none⟩ (.string ((rd_T134 l0_1 x8_1).f2))) = w22 at n0_ n1_ n2_ ⊢
           have BK216 := n0_; have BK218 := n1_; have HB := n2_; clear n0_ n1_ n2_; replace BK216 := aM (blk_drew BK216.out); replace BK218 := aM (blk_drew BK218.out); replace HB := aM (below_drew1 HB.out); have p220 : 0 ≤ ((ji10) : Int) := oda; have q220 : (ji10) < (l0_1.length : Int) := oda
           obtain ⟨ad220, e220, hx220_0, hx220_1, hx220_2⟩ := at_T134 HR0_1.out (ji10) p220 q220
           have hw220_2 := hx220_2; have hw220_1 := hx220_1; have hw220_0 := hx220_0
           obtain rfl : ad217 = ad220 := (by injection e220)
           replace hx220_0 := xce HB hx220_0; replace hx220_1 := xce HB hx220_1; replace hx220_2 := xce HB hx220_2; replace p220 := eq_true p220; replace q220 := eq_true q220
           refine start_ (n := 20) (S := fun w' => w'.cell? ⟨gb218, 0, none⟩ = some (.int .i64 ((rd_T134 l0_1 x8_1).f0)) ∧ w'.cell? ⟨gb218, 1, none⟩ = some (.string ((rd_T134 l0_1 x8_1).f1)) ∧ w'.cell? ⟨gb218, 2, none⟩ = some (.string ((rd_T134 l0_1 x8_1).f2)) ∧ w'.cell? ⟨gb216, 0, none⟩ = some (.int .i64 a0_0) ∧ w'.cell? ⟨gb216, 1, none⟩ = some (.slice (some ad217) l0_1.length c0_1) ∧ w'.cell? (ad217.add (((ji10)).toNat * 3)) = some (.int .i64 ((rd_T134 l0_1 (ji10)).f0)) ∧ w'.cell? ⟨(ad217.add (((ji10)).toNat * 3)).block, (ad217.add (((ji10)).toNat * 3)).off + 1, none⟩ = some (.string ((rd_T134 l0_1 (ji10)).f1)) ∧ w'.cell? ⟨(ad217.add (((ji10)).toNat * 3)).block, (ad217.add (((ji10)).toNat * 3)).off + 2, none⟩ = some (.string ((rd_T134 l0_1 (ji10)).f2))) (ds := []) #[false, false, false, false, false, false, false, false, false, false, false, false, false, false, false, false, false, false, false, false] (by kernel_rfl) rfl rfl ⟨xc BK218 0 rfl, xc BK218 1 rfl, xc BK218 2 rfl, xc BK216 0 rfl, xc BK216 1 rfl, (xce HB hw220_0), (xce HB hw220_1), (xce HB hw220_2)⟩ (fun hHeld => ?_); refine with_tabW impl_DiskOk.tab4 impl_DiskOk.bits4 (fun HT_ HW_ => ?_)
           generalize w22.drew = w23 at BK216 BK218 HB hx220_0 hx220_1 hx220_2 hHeld ⊢
           refine pv_ 0 13 (h := ?_)
           refine tk_ 1 14 (h := ?_)
           refine on_ 2 15 (h := fun K hK => ?_)
           refine goesY Try.func113 #[.int .i64 ((rd_T134 l0_1 x8_1).f0)] ?_
           with_reducible refine (impl_isFile.calls ((rd_T134 l0_1 x8_1).f0) true _ A7.out).mono ?_
           rintro e w' ⟨rfl, ⟨nd, rfl⟩⟩
           refine ⟨_, rfl, ?_⟩
           refine hK.out _ _ ⟨xc BK218 0 rfl, xc BK218 1 rfl, xc BK218 2 rfl, xc BK216 0 rfl, xc BK216 1 rfl, (xce HB hw220_0), (xce HB hw220_1), (xce HB hw220_2)⟩ (fun hHeld => ?_)
           clear hK K
           refine norm_ (a' := ?_) ?_ ?_
           rotate_left
           ·show Act.put _ (some 15) _ = _
            simp only [Act.put, List.setIfInBounds_toArray, List.set_cons_zero, List.set_cons_succ, i64_w, i32_w]
            rfl
           refine pv_ 3 16 (h := ?_)
           refine pv_ 4 17 (h := ?_)
           refine pv_ 5 18 (h := ?_)
           refine pv_ 6 19 (h := ?_)
           refine pv_ 7 20 (h := ?_)
           refine pv_ 8 21 (h := ?_)
           refine pv_ 10 23 (h := ?_)
           refine pv_ 11 24 (h := ?_)
           refine pv_ 15 28 (h := ?_)
           refine tk_ 9 22 (h := ?_)
           refine pv_ 12 25 (h := ?_)
           refine pv_ 13 26 (h := ?_)
           refine tk_ 14 27 (h := ?_)
           refine tk_ 16 29 (h := ?_)
           refine pv_ 17 30 (h := ?_)
           refine pv_ 18 31 (h := ?_)
           refine pv_ 19 32 (h := ?_)
           refine done_ (done_of HT_.out (by kernel_rfl)) ?_
           try go_wp2
           go_roundg k1
           case measure => have := HK1.out; omega
           case rel => exact ⟨(wrap64 (x8_1 + 1)), (by first | rfl | (simp; done) | (simp [*]; done)), H', ⟨by have := HK1.out; omega⟩, ⟨xblk⟩, ⟨xbg⟩⟩
         ·rw [if_neg c12] at H
          exact absurd H (by simp)
        ·rw [if_neg c11] at H
         exact absurd H (by simp)
       ·rw [if_neg c9] at H
        have c9b0 : decide (0 < x8_1) = false := decide_eq_false c9; clear c9
        have H' := aM H
        clear H; have p217 : 0 ≤ (x8_1 : Int) := oda; have q217 : x8_1 < (l0_1.length : Int) := oda
        obtain ⟨ad217, e217, hx217_0, hx217_1, hx217_2⟩ := at_T134 HR0_1.out x8_1 p217 q217
        cases e217
        replace hx217_0 := xce HB hx217_0; replace hx217_1 := xce HB hx217_1; replace hx217_2 := xce HB hx217_2; replace p217 := eq_true p217; replace q217 := eq_true q217
        try go_wp2_with (first | ((with_reducible refine gate_dst (N := 4) rfl ?_); refine box_event ?hg (N := 4) ?hd (cs := #[.int .i64 0, .string (⟨#[]⟩ : ByteArray), .string (⟨#[]⟩ : ByteArray)]) (t := 134) ?hr ?_; (case hd => rfl); (case hg => rfl); (case hr => first | (go_simp; done) | (go_simp; rfl)); intro gb218 hg w24 hbox hb; have GW218 := aM (xge hg); have GE218 := aM (xge hg); replace HB := xbs hb; have NB216_218 := aM ((by rw [hg]; exact Nat.ne_of_lt (blk_lt (g := gb216) (o := .cells #[.int .i64 a0_0, .slice (some ad217) l0_1.length c0_1] 70 (0, 0)) xblk) : gb216 ≠ gb218)); have NB218_216 := aM ((by rw [hg]; exact Nat.ne_of_gt (blk_lt (g := gb216) (o := .cells #[.int .i64 a0_0, .slice (some ad217) l0_1.length c0_1] 70 (0, 0)) xblk) : gb218 ≠ gb216)); replace BK216 := xbb BK216 hb; have BK218 := aM (hbox); clear hb hbox hg; have hnb25 := NB218_216.out; have hnc25 := NB216_218.out; obtain ⟨hcz26_0, hcz26_1, hcz26_2, hfz26_0, hfz26_1, hfz26_2⟩ := xf3 (w := w24) BK218))
        have n0_ : Aside0 ((((w24.setCell ⟨gb218, 0, none⟩ (.int .i64 ((rd_T134 l0_1 x8_1).f0))).setCell ⟨gb218, 1, none⟩ (.string ((rd_T134 l0_1 x8_1).f1))).setCell ⟨gb218, 2, none⟩ (.string ((rd_T134 l0_1 x8_1).f2))).heap[gb216]? = some (.cells #[.int .i64 a0_0, .slice (some ad217) l0_1.length c0_1] 70 (0, 0))) := ⟨by (with_reducible repeat (first | refine blk_drewN ?_ _ | refine blk_drew ?_ | refine blk_alloc ?_ _)); refine blk_far ?_ NB216_218.out _; (with_reducible repeat (first | refine blk_drewN ?_ _ | refine blk_drew ?_ | refine blk_alloc ?_ _)); refine blk_far ?_ NB216_218.out _; (with_reducible repeat (first | refine blk_drewN ?_ _ | refine blk_drew ?_ | refine blk_alloc ?_ _)); refine blk_far ?_ NB216_218.out _; (with_reducible repeat (first | refine blk_drewN ?_ _ | refine blk_drew ?_ | refine blk_alloc ?_ _)); exact BK216.out⟩; have n1_ : Aside0 ((((w24.setCell ⟨gb218, 0, none⟩ (.int .i64 ((rd_T134 l0_1 x8_1).f0))).setCell ⟨gb218, 1, none⟩ (.string ((rd_T134 l0_1 x8_1).f1))).setCell ⟨gb218, 2, none⟩ (.string ((rd_T134 l0_1 x8_1).f2))).heap[gb218]? = some (.cells #[.int .i64 ((rd_T134 l0_1 x8_1).f0), .string ((rd_T134 l0_1 x8_1).f1), .string ((rd_T134 l0_1 x8_1).f2)] 134 (0, 0))) := ⟨by (with_reducible repeat (first | refine blk_drewN ?_ _ | refine blk_drew ?_ | refine blk_alloc ?_ _)); refine blk_put (cs := #[.int .i64 ((rd_T134 l0_1 x8_1).f0), .string ((rd_T134 l0_1 x8_1).f1), .string (⟨#[]⟩ : ByteArray)]) ?_ 2 _ rfl; (with_reducible repeat (first | refine blk_drewN ?_ _ | refine blk_drew ?_ | refine blk_alloc ?_ _)); refine blk_put (cs := #[.int .i64 ((rd_T134 l0_1 x8_1).f0), .string (⟨#[]⟩ : ByteArray), .string (⟨#[]⟩ : ByteArray)]) ?_ 1 _ rfl; (with_reducible repeat (first | refine blk_drewN ?_ _ | refine blk_drew ?_ | refine blk_alloc ?_ _)); refine blk_put (cs := #[.int .i64 0, .string (⟨#[]⟩ : ByteArray), .string (⟨#[]⟩ : ByteArray)]) ?_ 0 _ rfl; (with_reducible repeat (first | refine blk_drewN ?_ _ | refine blk_drew ?_ | refine blk_alloc ?_ _)); exact BK218.out⟩
        have n2_ : Aside0 (Below w.heap.size w (((w24.setCell ⟨gb218, 0, none⟩ (.int .i64 ((rd_T134 l0_1 x8_1).f0))).setCell ⟨gb218, 1, none⟩ (.string ((rd_T134 l0_1 x8_1).f1))).setCell ⟨gb218, 2, none⟩ (.string ((rd_T134 l0_1 x8_1).f2)))) := ⟨xbg⟩
        (try clear BK216); (try clear BK218); (try clear HB)
        generalize (((w24.setCell ⟨gb218, 0, none⟩ (.int .i64 ((rd_T134 l0_1 x8_1).f0))).setCell ⟨gb218, 1, none⟩ (.string ((rd_T134 l0_1 x8_1).f1))).setCell ⟨gb218, 2, none⟩ (.string ((rd_T134 l0_1 x8_1).f2))) = w27 at n0_ n1_ n2_ ⊢
        have BK216 := n0_; have BK218 := n1_; have HB := n2_; clear n0_ n1_ n2_; replace BK216 := aM (blk_drew BK216.out); replace BK218 := aM (blk_drew BK218.out); replace HB := aM (below_drew1 HB.out)
        refine start_ (n := 20) (S := fun w' => w'.cell? ⟨gb218, 0, none⟩ = some (.int .i64 ((rd_T134 l0_1 x8_1).f0)) ∧ w'.cell? ⟨gb218, 1, none⟩ = some (.string ((rd_T134 l0_1 x8_1).f1)) ∧ w'.cell? ⟨gb218, 2, none⟩ = some (.string ((rd_T134 l0_1 x8_1).f2))) (ds := []) #[false, false, false, false, false, false, false, false, false, false, false, false, false, false, false, false, false, false, false, false] (by kernel_rfl) rfl rfl ⟨xc BK218 0 rfl, xc BK218 1 rfl, xc BK218 2 rfl⟩ (fun hHeld => ?_); refine with_tabW impl_DiskOk.tab4 impl_DiskOk.bits4 (fun HT_ HW_ => ?_)
        generalize w27.drew = w28 at BK216 BK218 HB hHeld ⊢
        refine pv_ 0 13 (h := ?_)
        refine tk_ 1 14 (h := ?_)
        refine on_ 2 15 (h := fun K hK => ?_)
        refine goesY Try.func113 #[.int .i64 ((rd_T134 l0_1 x8_1).f0)] ?_
        with_reducible refine (impl_isFile.calls ((rd_T134 l0_1 x8_1).f0) true _ A7.out).mono ?_
        rintro e w' ⟨rfl, ⟨nd, rfl⟩⟩
        refine ⟨_, rfl, ?_⟩
        refine hK.out _ _ ⟨xc BK218 0 rfl, xc BK218 1 rfl, xc BK218 2 rfl⟩ (fun hHeld => ?_)
        clear hK K
        refine norm_ (a' := ?_) ?_ ?_
        rotate_left
        ·show Act.put _ (some 15) _ = _
         simp only [Act.put, List.setIfInBounds_toArray, List.set_cons_zero, List.set_cons_succ, i64_w, i32_w]
         rfl
        refine pv_ 3 16 (h := ?_)
        refine pv_ 4 17 (h := ?_)
        refine pv_ 5 18 (h := ?_)
        refine pv_ 6 19 (h := ?_)
        refine pv_ 7 20 (h := ?_)
        refine pu_ 8 21 (h := ?_)
        refine pu_ 9 22 (h := ?_)
        refine pu_ 10 23 (h := ?_)
        refine pu_ 11 24 (h := ?_)
        refine pu_ 12 25 (h := ?_)
        refine pu_ 13 26 (h := ?_)
        refine pu_ 14 27 (h := ?_)
        refine pu_ 15 28 (h := ?_)
        refine pu_ 16 29 (h := ?_)
        refine pu_ 17 30 (h := ?_)
        refine pv_ 18 31 (h := ?_)
        refine pv_ 19 32 (h := ?_)
        refine done_ (done_of HT_.out (by kernel_rfl)) ?_
        try go_wp2
        go_roundg k1
        case measure => have := HK1.out; omega
        case rel => exact ⟨(wrap64 (x8_1 + 1)), (by first | rfl | (simp; done) | (simp [*]; done)), H', ⟨by have := HK1.out; omega⟩, ⟨xblk⟩, ⟨xbg⟩⟩
      ·replace c8 := Bool.eq_false_iff.mpr c8
       subst c8
       have H1 : (some false) = some r := by rw [if_neg (show ¬ (false = true) by decide)] at H; exact H
       clear H; have H := H1; clear H1
       obtain rfl := Option.some.inj H
       have p217 : 0 ≤ (x8_1 : Int) := oda; have q217 : x8_1 < (l0_1.length : Int) := oda
       obtain ⟨ad217, e217, hx217_0, hx217_1, hx217_2⟩ := at_T134 HR0_1.out x8_1 p217 q217
       cases e217
       replace hx217_0 := xce HB hx217_0; replace hx217_1 := xce HB hx217_1; replace hx217_2 := xce HB hx217_2; replace p217 := eq_true p217; replace q217 := eq_true q217
       try go_wp2_with (first | ((with_reducible refine gate_dst (N := 4) rfl ?_); refine box_event ?hg (N := 4) ?hd (cs := #[.int .i64 0, .string (⟨#[]⟩ : ByteArray), .string (⟨#[]⟩ : ByteArray)]) (t := 134) ?hr ?_; (case hd => rfl); (case hg => rfl); (case hr => first | (go_simp; done) | (go_simp; rfl)); intro gb218 hg w29 hbox hb; have GW218 := aM (xge hg); have GE218 := aM (xge hg); replace HB := xbs hb; have NB216_218 := aM ((by rw [hg]; exact Nat.ne_of_lt (blk_lt (g := gb216) (o := .cells #[.int .i64 a0_0, .slice (some ad217) l0_1.length c0_1] 70 (0, 0)) xblk) : gb216 ≠ gb218)); have NB218_216 := aM ((by rw [hg]; exact Nat.ne_of_gt (blk_lt (g := gb216) (o := .cells #[.int .i64 a0_0, .slice (some ad217) l0_1.length c0_1] 70 (0, 0)) xblk) : gb218 ≠ gb216)); replace BK216 := xbb BK216 hb; have BK218 := aM (hbox); clear hb hbox hg; have hnb30 := NB218_216.out; have hnc30 := NB216_218.out; obtain ⟨hcz31_0, hcz31_1, hcz31_2, hfz31_0, hfz31_1, hfz31_2⟩ := xf3 (w := w29) BK218))
       have n0_ : Aside0 ((((w29.setCell ⟨gb218, 0, none⟩ (.int .i64 ((rd_T134 l0_1 x8_1).f0))).setCell ⟨gb218, 1, none⟩ (.string ((rd_T134 l0_1 x8_1).f1))).setCell ⟨gb218, 2, none⟩ (.string ((rd_T134 l0_1 x8_1).f2))).heap[gb216]? = some (.cells #[.int .i64 a0_0, .slice (some ad217) l0_1.length c0_1] 70 (0, 0))) := ⟨by (with_reducible repeat (first | refine blk_drewN ?_ _ | refine blk_drew ?_ | refine blk_alloc ?_ _)); refine blk_far ?_ NB216_218.out _; (with_reducible repeat (first | refine blk_drewN ?_ _ | refine blk_drew ?_ | refine blk_alloc ?_ _)); refine blk_far ?_ NB216_218.out _; (with_reducible repeat (first | refine blk_drewN ?_ _ | refine blk_drew ?_ | refine blk_alloc ?_ _)); refine blk_far ?_ NB216_218.out _; (with_reducible repeat (first | refine blk_drewN ?_ _ | refine blk_drew ?_ | refine blk_alloc ?_ _)); exact BK216.out⟩; have n1_ : Aside0 ((((w29.setCell ⟨gb218, 0, none⟩ (.int .i64 ((rd_T134 l0_1 x8_1).f0))).setCell ⟨gb218, 1, none⟩ (.string ((rd_T134 l0_1 x8_1).f1))).setCell ⟨gb218, 2, none⟩ (.string ((rd_T134 l0_1 x8_1).f2))).heap[gb218]? = some (.cells #[.int .i64 ((rd_T134 l0_1 x8_1).f0), .string ((rd_T134 l0_1 x8_1).f1), .string ((rd_T134 l0_1 x8_1).f2)] 134 (0, 0))) := ⟨by (with_reducible repeat (first | refine blk_drewN ?_ _ | refine blk_drew ?_ | refine blk_alloc ?_ _)); refine blk_put (cs := #[.int .i64 ((rd_T134 l0_1 x8_1).f0), .string ((rd_T134 l0_1 x8_1).f1), .string (⟨#[]⟩ : ByteArray)]) ?_ 2 _ rfl; (with_reducible repeat (first | refine blk_drewN ?_ _ | refine blk_drew ?_ | refine blk_alloc ?_ _)); refine blk_put (cs := #[.int .i64 ((rd_T134 l0_1 x8_1).f0), .string (⟨#[]⟩ : ByteArray), .string (⟨#[]⟩ : ByteArray)]) ?_ 1 _ rfl; (with_reducible repeat (first | refine blk_drewN ?_ _ | refine blk_drew ?_ | refine blk_alloc ?_ _)); refine blk_put (cs := #[.int .i64 0, .string (⟨#[]⟩ : ByteArray), .string (⟨#[]⟩ : ByteArray)]) ?_ 0 _ rfl; (with_reducible repeat (first | refine blk_drewN ?_ _ | refine blk_drew ?_ | refine blk_alloc ?_ _)); exact BK218.out⟩
       have n2_ : Aside0 (Below w.heap.size w (((w29.setCell ⟨gb218, 0, none⟩ (.int .i64 ((rd_T134 l0_1 x8_1).f0))).setCell ⟨gb218, 1, none⟩ (.string ((rd_T134 l0_1 x8_1).f1))).setCell ⟨gb218, 2, none⟩ (.string ((rd_T134 l0_1 x8_1).f2)))) := ⟨xbg⟩
       (try clear BK216); (try clear BK218); (try clear HB)
       generalize (((w29.setCell ⟨gb218, 0, none⟩ (.int .i64 ((rd_T134 l0_1 x8_1).f0))).setCell ⟨gb218, 1, none⟩ (.string ((rd_T134 l0_1 x8_1).f1))).setCell ⟨gb218, 2, none⟩ (.string ((rd_T134 l0_1 x8_1).f2))) = w32 at n0_ n1_ n2_ ⊢
       have BK216 := n0_; have BK218 := n1_; have HB := n2_; clear n0_ n1_ n2_; replace BK216 := aM (blk_drew BK216.out); replace BK218 := aM (blk_drew BK218.out); replace HB := aM (below_drew1 HB.out)
       refine start_ (n := 20) (S := fun w' => w'.cell? ⟨gb218, 0, none⟩ = some (.int .i64 ((rd_T134 l0_1 x8_1).f0)) ∧ w'.cell? ⟨gb218, 1, none⟩ = some (.string ((rd_T134 l0_1 x8_1).f1)) ∧ w'.cell? ⟨gb218, 2, none⟩ = some (.string ((rd_T134 l0_1 x8_1).f2))) (ds := []) #[false, false, false, false, false, false, false, false, false, false, false, false, false, false, false, false, false, false, false, false] (by kernel_rfl) rfl rfl ⟨xc BK218 0 rfl, xc BK218 1 rfl, xc BK218 2 rfl⟩ (fun hHeld => ?_); refine with_tabW impl_DiskOk.tab4 impl_DiskOk.bits4 (fun HT_ HW_ => ?_)
       generalize w32.drew = w33 at BK216 BK218 HB hHeld ⊢
       refine pv_ 0 13 (h := ?_)
       refine tk_ 1 14 (h := ?_)
       refine on_ 2 15 (h := fun K hK => ?_)
       refine goesY Try.func113 #[.int .i64 ((rd_T134 l0_1 x8_1).f0)] ?_
       with_reducible refine (impl_isFile.calls ((rd_T134 l0_1 x8_1).f0) false _ A7.out).mono ?_
       rintro e w' ⟨rfl, ⟨nd, rfl⟩⟩
       refine ⟨_, rfl, ?_⟩
       refine hK.out _ _ ⟨xc BK218 0 rfl, xc BK218 1 rfl, xc BK218 2 rfl⟩ (fun hHeld => ?_)
       clear hK K
       refine norm_ (a' := ?_) ?_ ?_
       rotate_left
       ·show Act.put _ (some 15) _ = _
        simp only [Act.put, List.setIfInBounds_toArray, List.set_cons_zero, List.set_cons_succ, i64_w, i32_w]
        rfl
       refine pv_ 3 16 (h := ?_)
       refine pv_ 4 17 (h := ?_)
       refine pu_ 5 18 (h := ?_)
       refine pu_ 6 19 (h := ?_)
       refine pu_ 7 20 (h := ?_)
       refine pu_ 8 21 (h := ?_)
       refine pu_ 9 22 (h := ?_)
       refine pu_ 10 23 (h := ?_)
       refine pu_ 11 24 (h := ?_)
       refine pu_ 12 25 (h := ?_)
       refine pu_ 13 26 (h := ?_)
       refine pu_ 14 27 (h := ?_)
       refine pu_ 15 28 (h := ?_)
       refine pu_ 16 29 (h := ?_)
       refine pu_ 17 30 (h := ?_)
       refine pu_ 18 31 (h := ?_)
       refine pv_ 19 32 (h := ?_)
       refine done_ (done_of HT_.out (by kernel_rfl)) ?_
       try go_wp2
       go_ret
       exact ⟨by first | rfl | (simp [errW_none, errW_some] <;> rfl) | (simp [*, errW_none, errW_some] <;> rfl), xbg⟩
     ·rw [if_neg c6] at H
      exact absurd H (by simp)
    ·rw [if_neg c5] at H
     exact absurd H (by simp)
   ·rw [if_neg c4] at H
    have c4b0 : decide (x8_1 < (l0_1.length : Int)) = false := decide_eq_false c4; clear c4; replace H := Option.bind_eq_some_iff.mp H
    obtain ⟨t221, A340, H⟩ := H
    replace H : (if t221 = true then ((impl_sizeOf.f k1 a0_0 l0_1).bind fun t222 => (some (decide (t222 ≤ a0_0)))) else (some false)) = some r := H; have A34 := aM A340; clear A340
    by_cases c35 : t221 = true
    ·subst c35
     have H1 : ((impl_sizeOf.f k1 a0_0 l0_1).bind fun t222 => (some (decide (t222 ≤ a0_0)))) = some r := by rw [if_pos rfl] at H; exact H
     clear H; have H := H1; clear H1; replace H := Option.bind_eq_some_iff.mp H
     obtain ⟨t222, A360, H⟩ := H
     replace H : (some (decide (t222 ≤ a0_0))) = some r := H; have A36 := aM A360; clear A360
     obtain rfl := Option.some.inj H
     try go_wp2
     replace BK216 := aM (blk_drew BK216.out); replace HB := aM (below_drew1 HB.out)
     refine start_ (n := 11) (S := fun w' => w'.cell? ⟨gb216, 0, none⟩ = some (.int .i64 a0_0) ∧ w'.cell? ⟨gb216, 1, none⟩ = some (.slice A0_1 l0_1.length c0_1)) (ds := []) #[false, false, false, false, false, false, false, false, false, false, false] (by kernel_rfl) rfl rfl ⟨xc BK216 0 rfl, xc BK216 1 rfl⟩ (fun hHeld => ?_); refine with_tabW impl_DiskOk.tab7 impl_DiskOk.bits7 (fun HT_ HW_ => ?_)
     generalize wr.drew = w37 at BK216 HB hHeld ⊢
     refine pv_ 0 34 (h := ?_)
     refine tk_ 1 35 (h := ?_)
     refine on_ 2 36 (h := fun K hK => ?_)
     refine goesY Try.func81 #[.int .i64 a0_0, .int .i64 0, .int .i64 40000] ?_
     with_reducible refine (impl_within.calls a0_0 0 40000 true _ A34.out).mono ?_
     rintro e w' ⟨rfl, ⟨nd, rfl⟩⟩
     refine ⟨_, rfl, ?_⟩
     refine hK.out _ _ ⟨xc BK216 0 rfl, xc BK216 1 rfl⟩ (fun hHeld => ?_)
     clear hK K
     refine norm_ (a' := ?_) ?_ ?_
     rotate_left
     ·show Act.put _ (some 36) _ = _
      simp only [Act.put, List.setIfInBounds_toArray, List.set_cons_zero, List.set_cons_succ, i64_w, i32_w]
      rfl
     refine pv_ 3 37 (h := ?_)
     refine pv_ 6 40 (h := ?_)
     refine tk_ 4 38 (h := ?_)
     refine tk_ 7 41 (h := ?_)
     refine on_ 5 39 (h := fun K hK => ?_)
     refine goesY Try.func114 #[.agg #[.int .i64 a0_0, .slice A0_1 l0_1.length c0_1]] ?_
     with_reducible refine (impl_sizeOf.calls k1 a0_0 _ _ l0_1 t222 _ ?side1 ?side2 A36.out).mono ?_
     (case side1 => repeat (first | exact (Kd.C_below HR0_1.out xbg) | (with_reducible refine Kd.C_alloc ?_ _) | (with_reducible refine Kd.C_drewN ?_ _) | (with_reducible refine Kd.C_drew ?_)))
     (case side2 => exact HC0_1.out)
     rintro e w38 ⟨rfl, hb⟩
     refine ⟨_, rfl, ?_⟩
     replace BK216 := xbb BK216 hb; replace HB := xbs hb
     (try clear hb); (try clear hb2); (try clear hk); (try clear hi)
     refine hK.out _ _ ⟨xc BK216 0 rfl, xc BK216 1 rfl⟩ (fun hHeld => ?_)
     clear hK K
     refine norm_ (a' := ?_) ?_ ?_
     rotate_left
     ·show Act.put _ (some 39) _ = _
      simp only [Act.put, List.setIfInBounds_toArray, List.set_cons_zero, List.set_cons_succ, i64_w, i32_w]
      rfl
     refine pv_ 8 42 (h := ?_)
     refine pv_ 9 43 (h := ?_)
     refine pv_ 10 2 (h := ?_)
     refine done_ (done_of HT_.out (by kernel_rfl)) ?_
     try go_wp2
     go_ret
     exact ⟨by first | rfl | (simp [errW_none, errW_some] <;> rfl) | (simp [*, errW_none, errW_some] <;> rfl), xbg⟩
    ·replace c35 := Bool.eq_false_iff.mpr c35
     subst c35
     have H1 : (some false) = some r := by rw [if_neg (show ¬ (false = true) by decide)] at H; exact H
     clear H; have H := H1; clear H1
     obtain rfl := Option.some.inj H
     try go_wp2
     replace BK216 := aM (blk_drew BK216.out); replace HB := aM (below_drew1 HB.out)
     refine start_ (n := 11) (S := fun w' => w'.cell? ⟨gb216, 0, none⟩ = some (.int .i64 a0_0) ∧ w'.cell? ⟨gb216, 1, none⟩ = some (.slice A0_1 l0_1.length c0_1)) (ds := []) #[false, false, false, false, false, false, false, false, false, false, false] (by kernel_rfl) rfl rfl ⟨xc BK216 0 rfl, xc BK216 1 rfl⟩ (fun hHeld => ?_); refine with_tabW impl_DiskOk.tab7 impl_DiskOk.bits7 (fun HT_ HW_ => ?_)
     generalize wr.drew = w39 at BK216 HB hHeld ⊢
     refine pv_ 0 34 (h := ?_)
     refine tk_ 1 35 (h := ?_)
     refine on_ 2 36 (h := fun K hK => ?_)
     refine goesY Try.func81 #[.int .i64 a0_0, .int .i64 0, .int .i64 40000] ?_
     with_reducible refine (impl_within.calls a0_0 0 40000 false _ A34.out).mono ?_
     rintro e w' ⟨rfl, ⟨nd, rfl⟩⟩
     refine ⟨_, rfl, ?_⟩
     refine hK.out _ _ ⟨xc BK216 0 rfl, xc BK216 1 rfl⟩ (fun hHeld => ?_)
     clear hK K
     refine norm_ (a' := ?_) ?_ ?_
     rotate_left
     ·show Act.put _ (some 36) _ = _
      simp only [Act.put, List.setIfInBounds_toArray, List.set_cons_zero, List.set_cons_succ, i64_w, i32_w]
      rfl
     refine pv_ 3 37 (h := ?_)
     refine pu_ 4 38 (h := ?_)
     refine pu_ 5 39 (h := ?_)
     refine pu_ 6 40 (h := ?_)
     refine pu_ 7 41 (h := ?_)
     refine pu_ 8 42 (h := ?_)
     refine pv_ 9 43 (h := ?_)
     refine pv_ 10 2 (h := ?_)
     refine done_ (done_of HT_.out (by kernel_rfl)) ?_
     try go_wp2
     go_ret
     exact ⟨by first | rfl | (simp [errW_none, errW_some] <;> rfl) | (simp [*, errW_none, errW_some] <;> rfl), xbg⟩

/-! ### impl_copyDisk: function 115 -/
def impl_copyDisk.f (a0_0 : Int) (l0_1 : List (S134)) : Option (Int × (List (S134))) := (some (([] : List (S134)) : List (S134))).bind fun y225 => (if y225.length + l0_1.length < 3518437208883 then (some (a0_0, (y225 ++ l0_1))) else (none))
def impl_copyDisk.T1 : Bool × List (List Nat × List Nat) := (true, [([], []), ([0], [0]), ([], []), ([], []), ([3], [3]), ([2, 4], [2, 4]), ([1, 5], [1, 5]), ([6, 5, 0, 1, 2, 3, 4, 5, 6], [6])])
def impl_copyDisk.B1 : List Nat := [0, 1, 0, 0, 8, 28, 63, 127]
theorem impl_copyDisk.tab1 : rtab .any (opsOf Try.f115 1) = impl_copyDisk.T1 := by kernel_rfl
theorem impl_copyDisk.bits1 : waitsOk impl_copyDisk.T1.2 impl_copyDisk.B1 = true := by kernel_rfl
set_option maxHeartbeats 8000000 in
set_option maxRecDepth 100000 in
theorem impl_copyDisk.calls (a0_0 : Int) (A0_1 : Option Addr) (c0_1 : Nat) (l0_1 : List (S134)) (r1 : Int) (r2 : List (S134)) (w : World) (hr0_1 : Kd.C k134 w A0_1 l0_1.length l0_1) (hc0_1 : l0_1.length ≤ c0_1) (h : impl_copyDisk.f a0_0 l0_1 = some (r1, r2)) :
 Calls Try.prog 115 #[.agg #[.int .i64 a0_0, .slice A0_1 l0_1.length c0_1]] w fun e w' => ∃ v1_ : Value, e = .returned (.agg #[.int .i64 r1, v1_]) ∧ Kd.R k134 134 w' w.heap.size (fun _ => True) v1_ r2 ∧ Below w.heap.size w w' := by
 have hu70 := Try.underlying70
 have HR0_1 := aM hr0_1
 have HC0_1 := aM hc0_1
 clear hr0_1 hc0_1
 have HB := aM (Below.refl w.heap.size w)
 have H : ((some (([] : List (S134)) : List (S134))).bind fun y225 => (if y225.length + l0_1.length < 3518437208883 then (some (a0_0, (y225 ++ l0_1))) else (none))) = some (r1, r2) := h
 clear h
 obtain ⟨y225, hy225⟩ : ∃ y_ : List (S134), y_ = (([] : List (S134))) := ⟨_, rfl⟩
 replace H : (if y225.length + l0_1.length < 3518437208883 then (some (a0_0, (y225 ++ l0_1))) else (none)) = some (r1, r2) := by first | (rw [hy225]; with_reducible exact H) | (have H2_ := (Option.bind_some _ _).symm.trans H; rw [hy225]; with_reducible exact H2_) | (have H2_ := (Option.bind_some _ _).symm.trans H; with_reducible exact H2_) | with_reducible exact H | (rw [hy225]; exact H) | exact H
 have Ny225 := aM hy225
 clear hy225
 by_cases c2 : y225.length + l0_1.length < 3518437208883
 ·rw [if_pos c2] at H
  have LMc2 := aM c2; clear c2
  obtain ⟨y228, hy228⟩ : ∃ y_ : List (S134), y_ = (y225 ++ l0_1) := ⟨_, rfl⟩
  replace H : (some (a0_0, y228)) = some (r1, r2) := by first | (rw [hy228]; with_reducible exact H) | (have H2_ := (Option.bind_some _ _).symm.trans H; rw [hy228]; with_reducible exact H2_) | (have H2_ := (Option.bind_some _ _).symm.trans H; with_reducible exact H2_) | with_reducible exact H | (rw [hy228]; exact H) | exact H
  have Ny228 := aM hy228; clear hy228
  simp only [Option.some.injEq, Prod.mk.injEq] at H
  obtain ⟨rfl, rfl⟩ := H
  go_enter Try.func115, Try.ntmps115
  try go_wp2_with (first | ((with_reducible refine gate_dst (N := 1) rfl ?_); refine box_event ?hg (N := 1) ?hd (cs := #[.int .i64 a0_0, .slice A0_1 l0_1.length c0_1]) (t := 70) ?hr ?_; (case hd => rfl); (case hg => rfl); (case hr => first | (go_simp; done) | (go_simp; rfl)); intro gb223 hg w3 hbox hb; have BK223 := aM (hbox); have GW223 := aM (xge hg); have GE223 := aM (xge hg); replace HB := xbs hb; clear hb hbox hg) | ((with_reducible refine gate_dst (N := 2) rfl ?_); refine box_event ?hg (N := 2) ?hd (cs := #[.int .i64 0, .slice none 0 0]) (t := 70) ?hr ?_; (case hd => rfl); (case hg => rfl); (case hr => first | (go_simp; done) | (go_simp; rfl)); intro gb224 hg w4 hbox hb; have GW224 := aM (xge hg); have GE224 := aM (xge hg); replace HB := xbs hb; have NB223_224 := aM ((by rw [hg]; exact Nat.ne_of_lt (blk_lt (g := gb223) (o := .cells #[.int .i64 a0_0, .slice A0_1 l0_1.length c0_1] 70 (0, 0)) xblk) : gb223 ≠ gb224)); have NB224_223 := aM ((by rw [hg]; exact Nat.ne_of_gt (blk_lt (g := gb223) (o := .cells #[.int .i64 a0_0, .slice A0_1 l0_1.length c0_1] 70 (0, 0)) xblk) : gb224 ≠ gb223)); replace BK223 := xbb BK223 hb; have BK224 := aM (hbox); clear hb hbox hg))
  replace BK223 := aM (blk_drew BK223.out); replace BK224 := aM (blk_drew BK224.out); replace HB := aM (below_drew1 HB.out)
  refine start_ (n := 8) (S := fun w' => w'.cell? ⟨gb223, 0, none⟩ = some (.int .i64 a0_0) ∧ w'.cell? ⟨gb223, 1, none⟩ = some (.slice A0_1 l0_1.length c0_1)) (ds := []) #[false, false, false, false, false, false, false, false] (by kernel_rfl) rfl rfl ⟨xc BK223 0 rfl, xc BK223 1 rfl⟩ (fun hHeld => ?_); refine with_tabW impl_copyDisk.tab1 impl_copyDisk.bits1 (fun HT_ HW_ => ?_)
  generalize w4.drew = w5 at BK223 BK224 HB hHeld ⊢
  refine pv_ 0 3 (h := ?_)
  refine pv_ 3 6 (h := ?_)
  refine tk_ 1 4 (h := ?_)
  refine tk_ 4 7 (h := ?_)
  refine on_ 2 5 (h := fun K hK => ?_)
  refine Kd.R_lit_step k134 _ 134 ?hg (N := 5) ?hd (xs := ([] : List (S134))) (inner := []) (ok := fun _ => True) (okp := fun _ => True) ?hr ?hp (fun _ hk => hk) trivial (Below.refl _ _) (Nat.le_refl _) (by simp) ?_; (case hd => rfl); (case hg => rfl); (case hr => first | (go_simp; done) | (go_simp; rfl)); (case hp => exact (Reps.none _ _))
  intro v226 w6 ho7 hb hg_ hnew_
  clear hg_ hnew_
  (first | rw [← Ny225.out] at ho7 | (simp only [Int.reduceToNat] at ho7; rw [← Ny225.out] at ho7))
  have HO227 := aM (Kd.R_lower ho7 (below_size xbg)); replace BK223 := xbb BK223 hb; replace BK224 := xbb BK224 hb; replace HB := xbs hb; clear hb ho7
  refine hK.out _ _ ⟨xc BK223 0 rfl, xc BK223 1 rfl⟩ (fun hHeld => ?_)
  clear hK K
  refine norm_ (a' := ?_) ?_ ?_
  rotate_left
  ·show Act.put _ (some 5) _ = _
   simp only [Act.put, List.setIfInBounds_toArray, List.set_cons_zero, List.set_cons_succ, i64_w, i32_w]
   rfl
  refine on_ 5 8 (h := fun K hK => ?_)
  refine Kd.R_append_rows_step k134 (w0 := w) w.heap.size (by rfl) (.tmp 5) (.tmp 7) 68 134 (.agg #[(.int .i64 0), (.string ⟨#[]⟩), (.string ⟨#[]⟩)]) 40 rfl Try.underlying68 info134 rfl (by decide) (by omega) v226 y225 l0_1 _ _ _ (fun _ => True) (fun _ => False) rfl rfl ?aO ?aR (fun _ _ h => h) (fun _ h => h.elim) ?aF ?aB ?aS ?aL ?_
  (case aR => exact xcb HR0_1)
  (case aB => exact xbg)
  (case aF => exact (fun _ _ => trivial))
  (case aO => exact (xr HO227))
  (case aS => exact (below_size xbg))
  (case aL => have := LMc2.out; omega)
  intro v229 w8 ho hb hg hat
  rw [← Ny228.out] at ho
  have n0_ := aM (blk_grown (g := gb223) (o := .cells #[.int .i64 a0_0, .slice A0_1 l0_1.length c0_1] 70 (0, 0)) xblk hg (Kd.R_ne HO227.out BK223.out (by decide))); have n1_ := aM (blk_grown (g := gb224) (o := .cells #[.int .i64 0, .slice none 0 0] 70 (0, 0)) xblk hg (Kd.R_ne HO227.out BK224.out (by decide))); have n2_ := aM (hb); have n3_ := aM (ho); clear BK223 BK224 HB HO227; have BK223 := n0_; have BK224 := n1_; have HB := n2_; have HO230 := n3_; clear n0_ n1_ n2_ n3_ ho hb hg hat
  obtain ⟨Ao9, co9, eo9⟩ := Kd.R_slice HO230.out
  (first | subst eo9 | (injection eo9 with f1_ f2_ f3_; have f4_ := f1_.symm; have f5_ := f3_.symm; clear f1_ f2_ f3_; subst f4_; subst f5_))
  refine hK.out _ _ ⟨xc BK223 0 rfl, xc BK223 1 rfl⟩ (fun hHeld => ?_)
  clear hK K
  refine norm_ (a' := ?_) ?_ ?_
  rotate_left
  ·show Act.put _ (some 8) _ = _
   simp only [Act.put, List.setIfInBounds_toArray, List.set_cons_zero, List.set_cons_succ, i64_w, i32_w]
   rfl
  refine pv_ 6 9 (h := ?_)
  refine one_ (i := 7) (N := none) #[true, true, true, true, true, true, true, true] rfl rfl (one_of HT_.out (by kernel_rfl)) (by decide) (fun K hK => ?_)
  have hs10 : w8.cell? ⟨gb224, 0, none⟩ = some (.int .i64 0) := xc BK224 0 rfl; have hfs10 := blk_frozen BK224.out 0; have hns10_0 := NB223_224.out; have hms10_0 := NB224_223.out; have hs11 : w8.cell? ⟨gb224, 1, none⟩ = some (.slice none 0 0) := xc BK224 1 rfl; have hfs11 := blk_frozen BK224.out 1; have hns11_0 := NB223_224.out; have hms11_0 := NB224_223.out
  refine skip_ (w1 := ?_) (by rfl) rfl ?_ ?_
  rotate_left
  ·go_simp
   rfl
  refine hK.out _ _ ⟨((cell_far (p := ⟨gb224, _, none⟩) NB223_224.out _).trans (((cell_far (p := ⟨gb224, _, none⟩) NB223_224.out _).trans (hHeld.1)))), ((cell_far (p := ⟨gb224, _, none⟩) NB223_224.out _).trans (((cell_far (p := ⟨gb224, _, none⟩) NB223_224.out _).trans (hHeld.2))))⟩ (fun hHeld => ?_)
  clear hK K
  refine done_ (done_of HT_.out (by kernel_rfl)) ?_
  try go_wp2
  refine bodyPost_ret (results_cell_row rfl _ _ gb224 70 #[.int .i64 a0_0, .slice Ao9 y228.length co9] (0, 0) _ rfl (by (with_reducible repeat (first | refine blk_drewN ?_ _ | refine blk_drew ?_ | refine blk_alloc ?_ _)); refine blk_put (cs := #[.int .i64 a0_0, .slice none 0 0]) ?_ 1 _ rfl; (with_reducible repeat (first | refine blk_drewN ?_ _ | refine blk_drew ?_ | refine blk_alloc ?_ _)); refine blk_put (cs := #[.int .i64 0, .slice none 0 0]) ?_ 0 _ rfl; (with_reducible repeat (first | refine blk_drewN ?_ _ | refine blk_drew ?_ | refine blk_alloc ?_ _)); exact BK224.out) Try.underlying70 rfl (by kernel_rfl)) rfl ?_
  exact ⟨_, by first | rfl | (simp [errW_none, errW_some] <;> rfl) | (simp [*, errW_none, errW_some] <;> rfl), by (with_reducible repeat (first | apply Kd.R_alloc | apply Kd.R_drewN | apply Kd.R_drew)); exact Kd.R_mono (Kd.R_far (p := ⟨gb224, 1, none⟩) (Kd.R_far (p := ⟨gb224, 0, none⟩) (Kd.R_types HO230.out BK224.out (by decide)) (fun _ hk => hk.2) (.int .i64 a0_0)) (fun _ hk => hk.2) (.slice Ao9 y228.length co9)) (fun _ hk => trivial), xbg⟩
 ·rw [if_neg c2] at H
  exact absurd H (by simp)

-- NOT PRINTED: function 154 (impl_File_154)

/-! ### impl_fileAt: function 116 -/
def idxName : List S134 → Int → Int → Int
  | [], _, _ => -1
  | x :: t, nm, i => if x.f0 = nm then i else idxName t nm (i + 1)
def impl_fileAt.f (a0_0 : Int) (l0_1 : List S134) (a1 : Int) : Option (Int) := some (idxName l0_1 a1 0)
theorem idxName_drop (l : List S134) (nm i : Int) (h0 : 0 ≤ i) (h1 : i < l.length) : idxName (l.drop i.toNat) nm i = if (rd_T134 l i).f0 = nm then i else idxName (l.drop (i + 1).toNat) nm (i + 1) := by
  have hlt : i.toNat < l.length := by omega
  have e : (i + 1).toNat = i.toNat + 1 := by omega
  rw [List.drop_eq_getElem_cons hlt, e, idxName]
  unfold rd_T134
  rw [List.getD_eq_getElem?_getD, List.getElem?_eq_getElem hlt]
  rfl
theorem fileAt_pred (x : S134) (nm : Int) (B : Nat) (w W : World) (hB : B < w.heap.size) (hb : Below w.heap.size w W) (hcell : w.cell? ⟨B, 0, none⟩ = some (.int .i64 nm)) :
    Calls Try.prog 155 #[.agg #[.int .i64 x.f0, .string x.f1, .string x.f2], .pointer (some ⟨B, 0, none⟩)] W fun e w' => e = .returned (.bool (x.f0 == nm)) ∧ Below w.heap.size w w' := by
  have hc : W.cell? ⟨B, 0, none⟩ = some (.int .i64 nm) := (hb.cell (p := ⟨B, 0, none⟩) hB).trans hcell
  have hBW : B < W.heap.size := Nat.lt_of_lt_of_le hB hb.size
  have hne : B ≠ W.heap.size := by omega
  go_enter Try.func155, Try.ntmps155
  go_wp2
  go_ret
  exact ⟨rfl, hb.alloc hb.size _⟩
set_option maxHeartbeats 2000000 in
theorem fileAt_idx (A : Option Addr) (c : Nat) (l : List S134) (nm : Int) (B : Nat) (w : World) (hC : Kd.C k134 w A l.length l) (hB : B < w.heap.size) (hcell : w.cell? ⟨B, 0, none⟩ = some (.int .i64 nm)) :
    Calls Try.prog 154 #[.slice A l.length c, .func (.func 155) #[] #[.pointer (some ⟨B, 0, none⟩)]] w fun e w' => e = .returned (.int .i64 (idxName l nm 0)) ∧ Below w.heap.size w w' := by
  have eg : ∀ args w, (callFunc 155 args).run Try.prog w = .ok (.enter 155 args) w := Go.Proofs.enters_of Try.func155 (by kernel_rfl) rfl
  have hu := Try.underlying134
  have hpred := fun x W hb => fileAt_pred x nm B w W hB hb hcell
  have hmax := hC.2.1
  have HC := Aside0.mk hC
  clear hC hcell
  go_enter Try.func154, Try.ntmps154
  go_wp2
  go_loopg [5, 8] l.length (fun gg _ s8 wr => ∃ i : Int, 0 ≤ i ∧ i ≤ l.length ∧ l.length - i.toNat ≤ gg ∧ s8 = .int .i64 i ∧ Aside0 (Below w.heap.size w wr) ∧ Aside0 (idxName l nm 0 = idxName (l.drop i.toNat) nm i))
  case atStart => exact ⟨0, by omega, by omega, by omega, rfl, ⟨Below.refl _ w⟩, ⟨rfl⟩⟩
  case round =>
    obtain ⟨i, h0, h1, hg, rfl, BW, AI⟩ := hrel
    by_cases hlt : i < (l.length : Int)
    · have hs := idxName_drop l nm i h0 hlt
      obtain ⟨ad, rfl, hx0, hx1, hx2⟩ := at_T134 HC.out i h0 hlt
      replace hx0 := (BW.out.cell (World.block_lt_of_cell? w _ hx0)).trans hx0
      replace hx1 := (BW.out.cell (World.block_lt_of_cell? w _ hx1)).trans hx1
      replace hx2 := (BW.out.cell (World.block_lt_of_cell? w _ hx2)).trans hx2
      have hcall := hpred (rd_T134 l i) wr BW.out
      clear hpred
      by_cases hq : (rd_T134 l i).f0 = nm
      · have hb1 : ((rd_T134 l i).f0 == nm) = true := by simpa using hq
        rw [hb1] at hcall
        rw [if_pos hq] at hs
        have HS := Aside0.mk hs
        clear hs hq hb1
        go_wp2_with (go_at_fn 155; refine hcall.mono ?_; rintro e w' ⟨rfl, hb'⟩)
        go_ret
        exact ⟨by rw [AI.out, HS.out]; rfl, hb'⟩
      · have hb1 : ((rd_T134 l i).f0 == nm) = false := by simpa using hq
        rw [hb1] at hcall
        rw [if_neg hq] at hs
        have HS := Aside0.mk hs
        clear hs hq hb1
        go_wp2_with (go_at_fn 155; refine hcall.mono ?_; rintro e w' ⟨rfl, hb'⟩)
        go_roundg (l.length - (i + 1).toNat)
        case measure => omega
        case rel => exact ⟨i + 1, by omega, by omega, by omega, rfl, ⟨hb'⟩, ⟨AI.out.trans HS.out⟩⟩
    · have : i = l.length := by omega
      have hs : idxName (l.drop i.toNat) nm i = -1 := by rw [List.drop_eq_nil_of_le (by omega)]; rfl
      have HS := Aside0.mk hs
      clear hs this
      go_wp2
      go_ret
      exact ⟨by rw [AI.out, HS.out]; rfl, BW.out⟩
set_option maxHeartbeats 2000000 in
theorem impl_fileAt.calls (a0_0 : Int) (A0_1 : Option Addr) (c0_1 : Nat) (l0_1 : List S134) (a1 : Int) (r : Int) (w : World) (hr0_1 : Kd.C k134 w A0_1 l0_1.length l0_1) (hc0_1 : l0_1.length ≤ c0_1) (h : impl_fileAt.f a0_0 l0_1 a1 = some r) :
    Calls Try.prog 116 #[.agg #[.int .i64 a0_0, .slice A0_1 l0_1.length c0_1], .int .i64 a1] w fun e w' => e = .returned (.int .i64 r) ∧ Below w.heap.size w w' := by
  obtain rfl := Option.some.inj h
  clear h
  have hu := Try.underlying70
  have hcon := fun (W : World) (hb : Below w.heap.size w W) (hB : w.heap.size + 1 < W.heap.size) (hc : W.cell? ⟨w.heap.size + 1, 0, none⟩ = some (.int .i64 a1)) => (fileAt_idx A0_1 c0_1 l0_1 a1 (w.heap.size + 1) W (Kd.C_below hr0_1 hb) hB hc)
  clear hr0_1
  go_enter Try.func116, Try.ntmps116
  go_wp2_with (go_at_call 154; refine (hcon _ ?_ ?_ ?_).mono ?_; (exact ((Below.refl _ w).alloc (Nat.le_refl _) _).alloc (by simp) _); simp; simp; rintro e w' ⟨rfl, hb'⟩)
  go_ret
  exact ⟨rfl, (((Below.refl _ w).alloc (Nat.le_refl _) _).alloc (by simp) _).trans (hb'.mono (by simp; omega))⟩


end Go.Proofs.Ytnjpfllmcmomoaa.QFnExactDiskMove
