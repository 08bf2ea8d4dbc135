-- A walk, by a program of this session.
import Derived.Test.YtnjpfllmcmomoaaQFnFilesx0
import Derived.Test.YtnjpfllmcmomoaaQFnFilesx1
import Derived.Test.YtnjpfllmcmomoaaQFnFilesx2
namespace Go.Proofs.Ytnjpfllmcmomoaa.QFnFiles
open Go.RowKit Go.Proofs.YtnjpfllmcmomoaaW.PrintWords Go.Proofs.YtnjpfllmcmomoaaW.PrintLast Go.Proofs.YtnjpfllmcmomoaaW.PrintMore
attribute [local go_sem] max2_int min2_int max_two min_two max_three min_three max_four min_four   -- for this text's walks alone
set_option linter.unusedVariables false
set_option linter.unusedSimpArgs false

/-! ### spec_DiskAppend: function 38 -/
def spec_DiskAppend.j0 : Nat → Int → ByteArray → Bool → Int → List (S134) → Option (Int × (List (S134)) × Int)
 | 0, _, _, _, _, _ => none
 | k + 1, x1, x2, x10, x144000, x144001 => if x10 = true then (some (0, ([] : List (S134)), 1)) else ((spec_l3Size.f k x144000 x144001).bind fun t147 => (if (x2.size : Int) > (wrap64 (x144000 - t147)) then ((spec_l3Copy.f x144000 x144001).bind fun bt148 => (some (bt148.1, bt148.2, 3))) else ((spec_l3Find.f k x144000 x144001 x1).bind fun t153 => (if t153 ≥ 0 then (if 0 ≤ t153 then (if t153 < (x144001.length : Int) then (if ((rd_T134 x144001 t153).f2).size + x2.size ≤ 9223372036854775807 then ((spec_l3Put.f k x144000 x144001 ((rd_T134 x144001 t153).f0) ((rd_T134 x144001 t153).f1) (((rd_T134 x144001 t153).f2) ++ x2)).bind fun bt155 => (some (bt155.1, bt155.2, 0))) else (none)) else (none)) else (none)) else (if 0 + x2.size ≤ 9223372036854775807 then ((spec_l3Put.f k x144000 x144001 x1 (⟨#[]⟩ : ByteArray) ((⟨#[]⟩ : ByteArray) ++ x2)).bind fun bt159 => (some (bt159.1, bt159.2, 0))) else (none))))))
def spec_DiskAppend.f (k : Nat) (a0_0 : Int) (l0_1 : List (S134)) (a1 : Int) (a2 : ByteArray) : Option (Int × (List (S134)) × Int) := (spec_DiskOk.f k a0_0 l0_1).bind fun t145 => (if t145 = true then ((spec_l3Name.f a1).bind fun t146 => (spec_DiskAppend.j0 k a1 a2 (!t146) a0_0 l0_1)) else (spec_DiskAppend.j0 k a1 a2 true a0_0 l0_1))
set_option maxRecDepth 100000 in
theorem spec_DiskAppend.mono_l : ∀ k, (∀ y0 y1 y2 y3 y4, LeO (spec_DiskAppend.j0 k y0 y1 y2 y3 y4) (spec_DiskAppend.j0 (k + 1) y0 y1 y2 y3 y4))
 | 0 => fun _ _ _ _ _ r h => by simp [spec_DiskAppend.j0] at h
 | k + 1 => by
  have ih0 := spec_DiskAppend.mono_l k
  ·intro y0 y1 y2 y3 y4
   unfold spec_DiskAppend.j0
   repeat' first
   | (with_reducible exact ih0 _ _ _ _ _)
   | (with_reducible exact spec_DiskOk.mono _ _ _)
   | (with_reducible exact spec_l3Find.mono _ _ _ _)
   | (with_reducible exact spec_l3Put.mono _ _ _ _ _ _)
   | (with_reducible exact spec_l3Size.mono _ _ _)
   | (with_reducible exact LeO.refl _)
   | (with_reducible exact LeO.none _)
   | (with_reducible refine LeO.ite ?_ ?_)
   | (with_reducible refine LeO.bind ?_ (fun _ => ?_))
   | exact ih0 _ _ _ _ _
   | exact spec_DiskOk.mono _ _ _
   | exact spec_l3Find.mono _ _ _ _
   | exact spec_l3Put.mono _ _ _ _ _ _
   | exact spec_l3Size.mono _ _ _
   | exact LeO.none _
   | refine LeO.ite ?_ ?_
   | refine LeO.bind ?_ (fun _ => ?_)
theorem spec_DiskAppend.mono : ∀ a0 a1 a2 a3 k, LeO (spec_DiskAppend.f k a0 a1 a2 a3) (spec_DiskAppend.f (k + 1) a0 a1 a2 a3) := by
 intro a0 a1 a2 a3 k
 have ih0 := spec_DiskAppend.mono_l k
 unfold spec_DiskAppend.f
 repeat' first
  | (with_reducible exact ih0 _ _ _ _ _)
  | (with_reducible exact spec_DiskOk.mono _ _ _)
  | (with_reducible exact spec_l3Find.mono _ _ _ _)
  | (with_reducible exact spec_l3Put.mono _ _ _ _ _ _)
  | (with_reducible exact spec_l3Size.mono _ _ _)
  | (with_reducible exact LeO.refl _)
  | (with_reducible exact LeO.none _)
  | (with_reducible refine LeO.ite ?_ ?_)
  | (with_reducible refine LeO.bind ?_ (fun _ => ?_))
  | exact ih0 _ _ _ _ _
  | exact spec_DiskOk.mono _ _ _
  | exact spec_l3Find.mono _ _ _ _
  | exact spec_l3Put.mono _ _ _ _ _ _
  | exact spec_l3Size.mono _ _ _
  | exact LeO.none _
  | refine LeO.ite ?_ ?_
  | refine LeO.bind ?_ (fun _ => ?_)
def spec_DiskAppend.T3 : Bool × List (List Nat × List Nat) := (true, [([], []), ([0], [0]), ([], []), ([2], [2]), ([], []), ([4], [4]), ([3, 5], [3, 5]), ([1, 6], [1, 6]), ([7, 5], [7])])
def spec_DiskAppend.B3 : List Nat := [0, 1, 0, 4, 0, 16, 60, 127, 255]
theorem spec_DiskAppend.tab3 : rtab .any (opsOf Try.f38 3) = spec_DiskAppend.T3 := by kernel_rfl
theorem spec_DiskAppend.bits3 : waitsOk spec_DiskAppend.T3.2 spec_DiskAppend.B3 = true := by kernel_rfl
set_option maxHeartbeats 8000000 in
set_option maxRecDepth 100000 in
theorem spec_DiskAppend.calls (k : Nat) (a0_0 : Int) (A0_1 : Option Addr) (c0_1 : Nat) (l0_1 : List (S134)) (a1 : Int) (a2 : ByteArray) (r1 : Int) (r2 : List (S134)) (r3 : Int) (w : World) (hr0_1 : Kd.C k134 w A0_1 l0_1.length l0_1) (hc0_1 : l0_1.length ≤ c0_1) (h : spec_DiskAppend.f k a0_0 l0_1 a1 a2 = some (r1, r2, r3)) :
 Calls Try.prog 38 #[.agg #[.int .i64 a0_0, .slice A0_1 l0_1.length c0_1], .int .i64 a1, .string a2] w fun e w' => ∃ v1_ : Value, e = .returned (.tuple #[.agg #[.int .i64 r1, v1_], .int .i64 r3]) ∧ Kd.R k134 134 w' w.heap.size (fun _ => True) v1_ r2 ∧ Below w.heap.size w w' := by
 have hu70 := Try.underlying70
 have hu134 := Try.underlying134
 have HR0_1 := aM hr0_1
 have HC0_1 := aM hc0_1
 clear hr0_1 hc0_1
 have HB := aM (Below.refl w.heap.size w)
 have H : ((spec_DiskOk.f k a0_0 l0_1).bind fun t145 => (if t145 = true then ((spec_l3Name.f a1).bind fun t146 => (spec_DiskAppend.j0 k a1 a2 (!t146) a0_0 l0_1)) else (spec_DiskAppend.j0 k a1 a2 true a0_0 l0_1))) = some (r1, r2, r3) := h
 clear h
 have HC4 := aM H
 clear H
 go_enter Try.func38, Try.ntmps38
 go_upto_region 1 with (first | ((with_reducible refine gate_dst (N := 3) rfl ?_); refine box_event ?hg (N := 3) ?hd (cs := #[.int .i64 a0_0, .slice A0_1 l0_1.length c0_1]) (t := 70) ?hr ?_; (case hd => rfl); (case hg => rfl); (case hr => first | (go_simp; done) | (go_simp; rfl)); intro gb143 hg w5 hbox hb; have BK143 := aM (hbox); have GW143 := aM (xge hg); have GE143 := aM (xge hg); replace HB := xbs hb; clear hb hbox hg) | ((with_reducible refine gate_dst (N := 6) rfl ?_); refine box_event ?hg (N := 6) ?hd (cs := #[.int .i64 0, .slice none 0 0]) (t := 70) ?hr ?_; (case hd => rfl); (case hg => rfl); (case hr => first | (go_simp; done) | (go_simp; rfl)); intro gb144 hg w6 hbox hb; have GW144 := aM (xge hg); have GE144 := aM (xge hg); replace HB := xbs hb; have NB143_144 := aM ((by rw [hg]; exact Nat.ne_of_lt (blk_lt (g := gb143) (o := .cells #[.int .i64 a0_0, .slice A0_1 l0_1.length c0_1] 70 (0, 0)) xblk) : gb143 ≠ gb144)); have NB144_143 := aM ((by rw [hg]; exact Nat.ne_of_gt (blk_lt (g := gb143) (o := .cells #[.int .i64 a0_0, .slice A0_1 l0_1.length c0_1] 70 (0, 0)) xblk) : gb144 ≠ gb143)); replace BK143 := xbb BK143 hb; have BK144 := aM (hbox); clear hb hbox hg))
 (try simp only [Act.put, List.setIfInBounds_toArray, List.set_cons_zero, List.set_cons_succ])
 go_cut [10] (fun v10 wc => ∃ (kq : Nat) (x10_3 : Bool), v10 = .bool x10_3 ∧ Aside0 (spec_DiskAppend.j0 kq a1 a2 x10_3 a0_0 l0_1 = some (r1, r2, r3)) ∧ Aside0 (kq ≤ k) ∧ Aside0 (wc.heap[gb143]? = some (.cells #[.int .i64 a0_0, (.slice A0_1 l0_1.length c0_1)] 70 (0, 0))) ∧ Aside0 (wc.heap[gb144]? = some (.cells #[.int .i64 0, (.slice none 0 0)] 70 (0, 0))) ∧ Aside0 (Below w.heap.size w wc))
 case first =>
  have H := HC4.out; clear HC4; replace H := Option.bind_eq_some_iff.mp H
  obtain ⟨t145, A70, H⟩ := H
  replace H : (if t145 = true then ((spec_l3Name.f a1).bind fun t146 => (spec_DiskAppend.j0 k a1 a2 (!t146) a0_0 l0_1)) else (spec_DiskAppend.j0 k a1 a2 true a0_0 l0_1)) = some (r1, r2, r3) := H; have A7 := aM A70; clear A70
  by_cases c8 : t145 = true
  ·subst c8
   have H1 : ((spec_l3Name.f a1).bind fun t146 => (spec_DiskAppend.j0 k a1 a2 (!t146) a0_0 l0_1)) = some (r1, r2, r3) := by rw [if_pos rfl] at H; exact H
   clear H; have H := H1; clear H1; replace H := Option.bind_eq_some_iff.mp H
   obtain ⟨t146, A90, H⟩ := H
   replace H : (spec_DiskAppend.j0 k a1 a2 (!t146) a0_0 l0_1) = some (r1, r2, r3) := H; have A9 := aM A90; clear A90
   have H' := aM H
   clear H; have hnb10 := NB143_144.out; have hnc10 := NB144_143.out; obtain ⟨hcz11_0, hcz11_1, hfz11_0, hfz11_1⟩ := xf2 (w := w6) BK143
   go_wp2_with (first | ((with_reducible refine gate_callee (f := 106) rfl ?_); refine goesL_ (some 12) rfl rfl Try.func106 (by kernel_rfl) rfl #[.agg #[.int .i64 a0_0, .slice A0_1 l0_1.length c0_1]] rfl (by (try simp only [List.map_toArray, List.map_cons, List.map_nil]); first | done | rfl | (simp only [List.length_drop, List.length_take]; rfl)) ?_; (with_reducible refine (spec_DiskOk.calls k a0_0 _ _ l0_1 true _ ?side1 ?side2 A7.out).mono ?_); (case side1 => exact xcb HR0_1); (case side2 => exact HC0_1.out); rintro e w12 ⟨rfl, hb⟩; refine ⟨_, rfl, ?_⟩; replace BK143 := xbb BK143 hb; replace BK144 := xbb BK144 hb; replace HB := xbs hb; (try clear hb); (try clear hb2); (try clear hk); (try clear hi)) | (go_at_call 107; (with_reducible refine (spec_l3Name.calls a1 t146 _ A9.out).mono ?_); rintro e w' ⟨rfl, ⟨nd, rfl⟩⟩))
   go_meet
   case rel => exact ⟨_, (!t146), (by first | rfl | (simp; done) | (simp [*]; done)), H', ⟨by first | omega | exact Nat.le_refl _⟩, ⟨xblk⟩, ⟨xblk⟩, ⟨xbg⟩⟩
  ·replace c8 := Bool.eq_false_iff.mpr c8
   subst c8
   have H1 : (spec_DiskAppend.j0 k a1 a2 true a0_0 l0_1) = some (r1, r2, r3) := by rw [if_neg (show ¬ (false = true) by decide)] at H; exact H
   clear H; have H := H1; clear H1
   have H' := aM H
   clear H; have hnb13 := NB143_144.out; have hnc13 := NB144_143.out; obtain ⟨hcz14_0, hcz14_1, hfz14_0, hfz14_1⟩ := xf2 (w := w6) BK143
   go_wp2_with (first | ((with_reducible refine gate_callee (f := 106) rfl ?_); refine goesL_ (some 12) rfl rfl Try.func106 (by kernel_rfl) rfl #[.agg #[.int .i64 a0_0, .slice A0_1 l0_1.length c0_1]] rfl (by (try simp only [List.map_toArray, List.map_cons, List.map_nil]); first | done | rfl | (simp only [List.length_drop, List.length_take]; rfl)) ?_; (with_reducible refine (spec_DiskOk.calls k a0_0 _ _ l0_1 false _ ?side1 ?side2 A7.out).mono ?_); (case side1 => exact xcb HR0_1); (case side2 => exact HC0_1.out); rintro e w15 ⟨rfl, hb⟩; refine ⟨_, rfl, ?_⟩; replace BK143 := xbb BK143 hb; replace BK144 := xbb BK144 hb; replace HB := xbs hb; (try clear hb); (try clear hb2); (try clear hk); (try clear hi)))
   go_meet
   case rel => exact ⟨_, (true), (by first | rfl | (simp; done) | (simp [*]; done)), H', ⟨by first | omega | exact Nat.le_refl _⟩, ⟨xblk⟩, ⟨xblk⟩, ⟨xbg⟩⟩
 case rest =>
  clear HC4
  try clear c1
  try clear p2
  try clear c3
  try clear c8
  try clear c10
  try clear c13
  try clear hcz11_0
  try clear hcz11_1
  try clear hcz14_0
  try clear hcz14_1
  try clear hfz11_0
  try clear hfz11_1
  try clear hfz14_0
  try clear hfz14_1
  obtain ⟨kq, x10_3, rfl, HA, HJ3, BK143, BK144, HB⟩ := hcut
  cases kq with
  | zero => exact absurd HA.out (by simp [spec_DiskAppend.j0])
  | succ kj3 =>
   have H := HA.out; clear HA
   simp only [spec_DiskAppend.j0] at H
   by_cases c16 : x10_3 = true
   ·subst c16
    have H1 : (some (0, ([] : List (S134)), 1)) = some (r1, r2, r3) := by rw [if_pos rfl] at H; exact H
    clear H; have H := H1; clear H1
    simp only [Option.some.injEq, Prod.mk.injEq] at H
    obtain ⟨rfl, rfl, rfl⟩ := H
    have hnb17 := NB144_143.out; have hnc17 := NB143_144.out; obtain ⟨hcz18_0, hcz18_1, hfz18_0, hfz18_1⟩ := xf2 (w := wc) BK144
    go_wp2
    refine bodyPost_ret (results_ct rfl _ _ gb144 70 #[.int .i64 0, .slice none 0 0] (0, 0) _ rfl (by (with_reducible repeat (first | refine blk_drewN ?_ _ | refine blk_drew ?_ | refine blk_alloc ?_ _)); refine blk_put (cs := #[.int .i64 0, .slice none 0 0]) ?_ 1 _ rfl; (with_reducible repeat (first | refine blk_drewN ?_ _ | refine blk_drew ?_ | refine blk_alloc ?_ _)); refine blk_put (cs := #[.int .i64 0, .slice none 0 0]) ?_ 0 _ rfl; (with_reducible repeat (first | refine blk_drewN ?_ _ | refine blk_drew ?_ | refine blk_alloc ?_ _)); exact BK144.out) Try.underlying70 rfl (by kernel_rfl)) rfl ?_
    exact ⟨_, by first | rfl | (simp [errW_none, errW_some] <;> rfl) | (simp [*, errW_none, errW_some] <;> rfl), by first | exact Kd.R_nil _ _ _ _ _ | exact Kd.N_nil _ _ _ _ _ | exact Kd.V_nil _ _ _ _ _ | exact Kd.Q_nil _ _ _ _ _ | exact Kd.S_nil _ _ _ _ _, xbg⟩
   ·replace c16 := Bool.eq_false_iff.mpr c16
    subst c16
    have H1 : ((spec_l3Size.f kj3 a0_0 l0_1).bind fun t147 => (if (a2.size : Int) > (wrap64 (a0_0 - t147)) then ((spec_l3Copy.f a0_0 l0_1).bind fun bt148 => (some (bt148.1, bt148.2, 3))) else ((spec_l3Find.f kj3 a0_0 l0_1 a1).bind fun t153 => (if t153 ≥ 0 then (if 0 ≤ t153 then (if t153 < (l0_1.length : Int) then (if ((rd_T134 l0_1 t153).f2).size + a2.size ≤ 9223372036854775807 then ((spec_l3Put.f kj3 a0_0 l0_1 ((rd_T134 l0_1 t153).f0) ((rd_T134 l0_1 t153).f1) (((rd_T134 l0_1 t153).f2) ++ a2)).bind fun bt155 => (some (bt155.1, bt155.2, 0))) else (none)) else (none)) else (none)) else (if 0 + a2.size ≤ 9223372036854775807 then ((spec_l3Put.f kj3 a0_0 l0_1 a1 (⟨#[]⟩ : ByteArray) ((⟨#[]⟩ : ByteArray) ++ a2)).bind fun bt159 => (some (bt159.1, bt159.2, 0))) else (none)))))) = some (r1, r2, r3) := by rw [if_neg (show ¬ (false = true) by decide)] at H; exact H
    clear H; have H := H1; clear H1; replace H := Option.bind_eq_some_iff.mp H
    obtain ⟨t147, A190, H⟩ := H
    replace H : (if (a2.size : Int) > (wrap64 (a0_0 - t147)) then ((spec_l3Copy.f a0_0 l0_1).bind fun bt148 => (some (bt148.1, bt148.2, 3))) else ((spec_l3Find.f kj3 a0_0 l0_1 a1).bind fun t153 => (if t153 ≥ 0 then (if 0 ≤ t153 then (if t153 < (l0_1.length : Int) then (if ((rd_T134 l0_1 t153).f2).size + a2.size ≤ 9223372036854775807 then ((spec_l3Put.f kj3 a0_0 l0_1 ((rd_T134 l0_1 t153).f0) ((rd_T134 l0_1 t153).f1) (((rd_T134 l0_1 t153).f2) ++ a2)).bind fun bt155 => (some (bt155.1, bt155.2, 0))) else (none)) else (none)) else (none)) else (if 0 + a2.size ≤ 9223372036854775807 then ((spec_l3Put.f kj3 a0_0 l0_1 a1 (⟨#[]⟩ : ByteArray) ((⟨#[]⟩ : ByteArray) ++ a2)).bind fun bt159 => (some (bt159.1, bt159.2, 0))) else (none))))) = some (r1, r2, r3) := H; have A19 := aM A190; clear A190
    by_cases c20 : (a2.size : Int) > (wrap64 (a0_0 - t147))
    ·rw [if_pos c20] at H
     have c20b0 : decide ((wrap64 (a0_0 - t147)) < (a2.size : Int)) = true := decide_eq_true c20; clear c20; replace H := Option.bind_eq_some_iff.mp H
     obtain ⟨⟨t148, t149⟩, A210, H⟩ := H
     replace H : (some (t148, t149, 3)) = some (r1, r2, r3) := H; have A21 := aM A210; clear A210
     simp only [Option.some.injEq, Prod.mk.injEq] at H
     obtain ⟨rfl, rfl, rfl⟩ := H
     try go_wp2
     replace BK143 := aM (blk_drew BK143.out); replace BK144 := aM (blk_drew BK144.out); replace HB := aM (below_drew1 HB.out)
     refine start_ (n := 9) (S := fun w' => w'.cell? ⟨gb143, 0, none⟩ = some (.int .i64 a0_0) ∧ w'.cell? ⟨gb143, 1, none⟩ = some (.slice A0_1 l0_1.length c0_1)) (ds := []) #[false, false, false, false, false, false, false, false, false] (by kernel_rfl) rfl rfl ⟨xc BK143 0 rfl, xc BK143 1 rfl⟩ (fun hHeld => ?_); refine with_tabW spec_DiskAppend.tab3 spec_DiskAppend.bits3 (fun HT_ HW_ => ?_)
     generalize wc.drew = w22 at BK143 BK144 HB hHeld ⊢
     refine pv_ 0 21 (h := ?_)
     refine pv_ 1 22 (h := ?_)
     refine pv_ 2 23 (h := ?_)
     refine tk_ 3 24 (h := ?_)
     refine tk_ 4 25 (h := ?_)
     refine on_ 5 26 (h := fun K hK => ?_)
     refine goesY Try.func108 #[.agg #[.int .i64 a0_0, .slice A0_1 l0_1.length c0_1]] ?_
     with_reducible refine (spec_l3Size.calls kj3 a0_0 _ _ l0_1 t147 _ ?side1 ?side2 A19.out).mono ?_
     (case side1 => exact xcb HR0_1)
     (case side2 => exact HC0_1.out)
     rintro e w23 ⟨rfl, hb⟩
     refine ⟨_, rfl, ?_⟩
     replace BK143 := xbb BK143 hb; replace BK144 := xbb BK144 hb; replace HB := xbs hb
     (try clear hb); (try clear hb2); (try clear hk); (try clear hi)
     refine hK.out _ _ ⟨xc BK143 0 rfl, xc BK143 1 rfl⟩ (fun hHeld => ?_)
     clear hK K
     refine norm_ (a' := ?_) ?_ ?_
     rotate_left
     ·show Act.put _ (some 26) _ = _
      simp only [Act.put, List.setIfInBounds_toArray, List.set_cons_zero, List.set_cons_succ, i64_w, i32_w]
      rfl
     refine pv_ 6 27 (h := ?_)
     refine pv_ 7 28 (h := ?_)
     refine pv_ 8 20 (h := ?_)
     refine done_ (done_of HT_.out (by kernel_rfl)) ?_
     have hnb24 := NB143_144.out; have hnc24 := NB144_143.out; obtain ⟨hcz25_0, hcz25_1, hfz25_0, hfz25_1⟩ := xf2 (w := w23) BK143
     try go_wp2_with (first | ((with_reducible refine gate_callee (f := 109) rfl ?_); refine goesL_ (some 30) rfl rfl Try.func109 (by kernel_rfl) rfl #[.agg #[.int .i64 a0_0, .slice A0_1 l0_1.length c0_1]] rfl (by (try simp only [List.map_toArray, List.map_cons, List.map_nil]); first | done | rfl | (simp only [List.length_drop, List.length_take]; rfl)) ?_; (with_reducible refine (spec_l3Copy.calls a0_0 _ _ l0_1 t148 t149 _ ?side1 ?side2 A21.out).mono ?_); (case side1 => exact xcb HR0_1); (case side2 => exact HC0_1.out); rintro e w26 ⟨v150, rfl, ho0, hb⟩; refine ⟨_, rfl, ?_⟩; have HO151 := aM (Kd.R_lower ho0 (below_size xbg)); replace BK143 := xbb BK143 hb; replace BK144 := xbb BK144 hb; replace HB := xbs hb; (try clear hb); (try clear hb2); (try clear hk); (try clear hi); (try clear ho0); obtain ⟨hcz27_0, hcz27_1, hfz27_0, hfz27_1⟩ := xf2 (w := w26) BK144; obtain ⟨Ao28, co28, eo28⟩ := Kd.R_slice HO151.out; subst eo28))
     refine bodyPost_ret (results_ct rfl _ _ gb144 70 #[.int .i64 t148, .slice Ao28 t149.length co28] (0, 0) _ rfl (by (with_reducible repeat (first | refine blk_drewN ?_ _ | refine blk_drew ?_ | refine blk_alloc ?_ _)); refine blk_put (cs := #[.int .i64 t148, .slice none 0 0]) ?_ 1 _ rfl; (with_reducible repeat (first | refine blk_drewN ?_ _ | refine blk_drew ?_ | refine blk_alloc ?_ _)); refine blk_put (cs := #[.int .i64 0, .slice none 0 0]) ?_ 0 _ rfl; (with_reducible repeat (first | refine blk_drewN ?_ _ | refine blk_drew ?_ | refine blk_alloc ?_ _)); exact BK144.out) Try.underlying70 rfl (by kernel_rfl)) rfl ?_
     exact ⟨_, by first | rfl | (simp [errW_none, errW_some] <;> rfl) | (simp [*, errW_none, errW_some] <;> rfl), by (with_reducible repeat (first | apply Kd.R_alloc | apply Kd.R_drewN | apply Kd.R_drew)); exact Kd.R_mono (Kd.R_far (p := ⟨gb144, 1, none⟩) (Kd.R_far (p := ⟨gb144, 0, none⟩) (Kd.R_types HO151.out BK144.out (by decide)) (fun _ hk => hk.2) (.int .i64 t148)) (fun _ hk => hk.2) (.slice Ao28 t149.length co28)) (fun _ hk => trivial), xbg⟩
    ·rw [if_neg c20] at H
     have c20b0 : decide ((wrap64 (a0_0 - t147)) < (a2.size : Int)) = false := decide_eq_false c20; clear c20; replace H := Option.bind_eq_some_iff.mp H
     obtain ⟨t153, A290, H⟩ := H
     replace H : (if t153 ≥ 0 then (if 0 ≤ t153 then (if t153 < (l0_1.length : Int) then (if ((rd_T134 l0_1 t153).f2).size + a2.size ≤ 9223372036854775807 then ((spec_l3Put.f kj3 a0_0 l0_1 ((rd_T134 l0_1 t153).f0) ((rd_T134 l0_1 t153).f1) (((rd_T134 l0_1 t153).f2) ++ a2)).bind fun bt155 => (some (bt155.1, bt155.2, 0))) else (none)) else (none)) else (none)) else (if 0 + a2.size ≤ 9223372036854775807 then ((spec_l3Put.f kj3 a0_0 l0_1 a1 (⟨#[]⟩ : ByteArray) ((⟨#[]⟩ : ByteArray) ++ a2)).bind fun bt159 => (some (bt159.1, bt159.2, 0))) else (none))) = some (r1, r2, r3) := H; have A29 := aM A290; clear A290
     by_cases c30 : t153 ≥ 0
     ·rw [if_pos c30] at H
      have c30b0 : decide (0 ≤ t153) = true := decide_eq_true c30; clear c30
      by_cases c31 : 0 ≤ t153
      ·rw [if_pos c31] at H
       have c31b0 : decide (0 ≤ t153) = true := decide_eq_true c31; clear c31
       by_cases c32 : t153 < (l0_1.length : Int)
       ·rw [if_pos c32] at H
        have c32b0 : decide (t153 < (l0_1.length : Int)) = true := decide_eq_true c32; clear c32
        by_cases c33 : ((rd_T134 l0_1 t153).f2).size + a2.size ≤ 9223372036854775807
        ·rw [if_pos c33] at H
         have c33b0 := eq_true c33; have c33b1 : decide (((rd_T134 l0_1 t153).f2).size + a2.size ≤ 9223372036854775807) = true := decide_eq_true c33
         try have c33b2 : (9223372036854775807 < ((rd_T134 l0_1 t153).f2).size + a2.size) = False := eq_false (Nat.not_lt.2 c33)
         replace H := Option.bind_eq_some_iff.mp H
         obtain ⟨⟨t155, t156⟩, A340, H⟩ := H
         replace H : (some (t155, t156, 0)) = some (r1, r2, r3) := H; have A34 := aM A340; clear A340
         simp only [Option.some.injEq, Prod.mk.injEq] at H
         obtain ⟨rfl, rfl, rfl⟩ := H
         try go_wp2
         replace BK143 := aM (blk_drew BK143.out); replace BK144 := aM (blk_drew BK144.out); replace HB := aM (below_drew1 HB.out)
         refine start_ (n := 9) (S := fun w' => w'.cell? ⟨gb143, 0, none⟩ = some (.int .i64 a0_0) ∧ w'.cell? ⟨gb143, 1, none⟩ = some (.slice A0_1 l0_1.length c0_1)) (ds := []) #[false, false, false, false, false, false, false, false, false] (by kernel_rfl) rfl rfl ⟨xc BK143 0 rfl, xc BK143 1 rfl⟩ (fun hHeld => ?_); refine with_tabW spec_DiskAppend.tab3 spec_DiskAppend.bits3 (fun HT_ HW_ => ?_)
         generalize wc.drew = w35 at BK143 BK144 HB hHeld ⊢
         refine pv_ 0 21 (h := ?_)
         refine pv_ 1 22 (h := ?_)
         refine pv_ 2 23 (h := ?_)
         refine tk_ 3 24 (h := ?_)
         refine tk_ 4 25 (h := ?_)
         refine on_ 5 26 (h := fun K hK => ?_)
         refine goesY Try.func108 #[.agg #[.int .i64 a0_0, .slice A0_1 l0_1.length c0_1]] ?_
         with_reducible refine (spec_l3Size.calls kj3 a0_0 _ _ l0_1 t147 _ ?side1 ?side2 A19.out).mono ?_
         (case side1 => exact xcb HR0_1)
         (case side2 => exact HC0_1.out)
         rintro e w36 ⟨rfl, hb⟩
         refine ⟨_, rfl, ?_⟩
         replace BK143 := xbb BK143 hb; replace BK144 := xbb BK144 hb; replace HB := xbs hb
         (try clear hb); (try clear hb2); (try clear hk); (try clear hi)
         refine hK.out _ _ ⟨xc BK143 0 rfl, xc BK143 1 rfl⟩ (fun hHeld => ?_)
         clear hK K
         refine norm_ (a' := ?_) ?_ ?_
         rotate_left
         ·show Act.put _ (some 26) _ = _
          simp only [Act.put, List.setIfInBounds_toArray, List.set_cons_zero, List.set_cons_succ, i64_w, i32_w]
          rfl
         refine pv_ 6 27 (h := ?_)
         refine pv_ 7 28 (h := ?_)
         refine pv_ 8 20 (h := ?_)
         refine done_ (done_of HT_.out (by kernel_rfl)) ?_
         try go_wp2_with (first | ((with_reducible refine gate_dst (N := 8) rfl ?_); refine box_event ?hg (N := 8) ?hd (cs := #[.int .i64 0, .string (⟨#[]⟩ : ByteArray), .string (⟨#[]⟩ : ByteArray)]) (t := 134) ?hr ?_; (case hd => rfl); (case hg => rfl); (case hr => first | (go_simp; done) | (go_simp; rfl)); intro gb152 hg w37 hbox hb; have GW152 := aM (xge hg); have GE152 := aM (xge hg); replace HB := xbs hb; have NB143_152 := aM ((by rw [hg]; exact Nat.ne_of_lt (blk_lt (g := gb143) (o := .cells #[.int .i64 a0_0, .slice A0_1 l0_1.length c0_1] 70 (0, 0)) xblk) : gb143 ≠ gb152)); have NB152_143 := aM ((by rw [hg]; exact Nat.ne_of_gt (blk_lt (g := gb143) (o := .cells #[.int .i64 a0_0, .slice A0_1 l0_1.length c0_1] 70 (0, 0)) xblk) : gb152 ≠ gb143)); have NB144_152 := aM ((by rw [hg]; exact Nat.ne_of_lt (blk_lt (g := gb144) (o := .cells #[.int .i64 0, .slice none 0 0] 70 (0, 0)) xblk) : gb144 ≠ gb152)); have NB152_144 := aM ((by rw [hg]; exact Nat.ne_of_gt (blk_lt (g := gb144) (o := .cells #[.int .i64 0, .slice none 0 0] 70 (0, 0)) xblk) : gb152 ≠ gb144)); replace BK143 := xbb BK143 hb; replace BK144 := xbb BK144 hb; have BK152 := aM (hbox); clear hb hbox hg; have hnb38 := NB152_143.out; have hnc38 := NB143_152.out; have hnb39 := NB152_144.out; have hnc39 := NB144_152.out; obtain ⟨hcz40_0, hcz40_1, hcz40_2, hfz40_0, hfz40_1, hfz40_2⟩ := xf3 (w := w37) BK152; have hnb41 := NB143_144.out; have hnc41 := NB144_143.out; obtain ⟨hcz42_0, hcz42_1, hfz42_0, hfz42_1⟩ := xf2 (w := w37) BK143) | ((with_reducible refine gate_callee (f := 110) rfl ?_); refine goesL_ (some 35) rfl rfl Try.func110 (by kernel_rfl) rfl #[.agg #[.int .i64 a0_0, .slice A0_1 l0_1.length c0_1], .int .i64 a1] rfl (by (try simp only [List.map_toArray, List.map_cons, List.map_nil]); first | done | rfl | (simp only [List.length_drop, List.length_take]; rfl)) ?_; (with_reducible refine (spec_l3Find.calls kj3 a0_0 _ _ l0_1 a1 t153 _ ?side1 ?side2 A29.out).mono ?_); (case side1 => exact Kd.C_below HR0_1.out xbg); (case side2 => exact HC0_1.out); rintro e w43 ⟨rfl, hb⟩; refine ⟨_, rfl, ?_⟩; replace BK143 := aM (blk_below (g := gb143) (o := .cells #[.int .i64 a0_0, .slice A0_1 l0_1.length c0_1] 70 (0, 0)) (by (with_reducible repeat (first | refine blk_drewN ?_ _ | refine blk_drew ?_ | refine blk_alloc ?_ _)); refine blk_far ?_ NB143_152.out _; (with_reducible repeat (first | refine blk_drewN ?_ _ | refine blk_drew ?_ | refine blk_alloc ?_ _)); refine blk_far ?_ NB143_152.out _; (with_reducible repeat (first | refine blk_drewN ?_ _ | refine blk_drew ?_ | refine blk_alloc ?_ _)); refine blk_far ?_ NB143_152.out _; (with_reducible repeat (first | refine blk_drewN ?_ _ | refine blk_drew ?_ | refine blk_alloc ?_ _)); exact BK143.out) hb); replace BK144 := aM (blk_below (g := gb144) (o := .cells #[.int .i64 0, .slice none 0 0] 70 (0, 0)) (by (with_reducible repeat (first | refine blk_drewN ?_ _ | refine blk_drew ?_ | refine blk_alloc ?_ _)); refine blk_far ?_ NB144_152.out _; (with_reducible repeat (first | refine blk_drewN ?_ _ | refine blk_drew ?_ | refine blk_alloc ?_ _)); refine blk_far ?_ NB144_152.out _; (with_reducible repeat (first | refine blk_drewN ?_ _ | refine blk_drew ?_ | refine blk_alloc ?_ _)); refine blk_far ?_ NB144_152.out _; (with_reducible repeat (first | refine blk_drewN ?_ _ | refine blk_drew ?_ | refine blk_alloc ?_ _)); exact BK144.out) hb); replace BK152 := aM (blk_below (g := gb152) (o := .cells #[.int .i64 a1, .string (⟨#[]⟩ : ByteArray), .string (⟨#[]⟩ : ByteArray)] 134 (0, 0)) (by (with_reducible repeat (first | refine blk_drewN ?_ _ | refine blk_drew ?_ | refine blk_alloc ?_ _)); refine blk_put (cs := #[.int .i64 a1, .string (⟨#[]⟩ : ByteArray), .string (⟨#[]⟩ : ByteArray)]) ?_ 2 _ rfl; (with_reducible repeat (first | refine blk_drewN ?_ _ | refine blk_drew ?_ | refine blk_alloc ?_ _)); refine blk_put (cs := #[.int .i64 a1, .string (⟨#[]⟩ : ByteArray), .string (⟨#[]⟩ : ByteArray)]) ?_ 1 _ rfl; (with_reducible repeat (first | refine blk_drewN ?_ _ | refine blk_drew ?_ | refine blk_alloc ?_ _)); refine blk_put (cs := #[.int .i64 0, .string (⟨#[]⟩ : ByteArray), .string (⟨#[]⟩ : ByteArray)]) ?_ 0 _ rfl; (with_reducible repeat (first | refine blk_drewN ?_ _ | refine blk_drew ?_ | refine blk_alloc ?_ _)); exact BK152.out) hb); replace HB := xbs hb; (try clear hb); (try clear hb2); (try clear hk); (try clear hi); obtain ⟨hcz44_0, hcz44_1, hfz44_0, hfz44_1⟩ := xf2 (w := w43) BK143; have p154 : 0 ≤ (t153 : Int) := oda; have q154 : t153 < (l0_1.length : Int) := oda; obtain ⟨ad154, e154, hx154_0, hx154_1, hx154_2⟩ := at_T134 HR0_1.out t153 p154 q154; cases e154; replace hx154_0 := xce HB hx154_0; replace hx154_1 := xce HB hx154_1; replace hx154_2 := xce HB hx154_2; replace p154 := eq_true p154; replace q154 := eq_true q154; obtain ⟨hcz45_0, hcz45_1, hcz45_2, hfz45_0, hfz45_1, hfz45_2⟩ := xf3 (w := w43) BK152) | ((with_reducible refine gate_store (t := 9) (p := 47) rfl ?_); refine store_event (t := 9) (p := 47) (v := ?vo_w46) (w1 := ((((w43.setCell ⟨gb152, 0, none⟩ (.int .i64 ((rd_T134 l0_1 t153).f0))).setCell ⟨gb152, 1, none⟩ (.string ((rd_T134 l0_1 t153).f1))).setCell ⟨gb152, 2, none⟩ (.string ((rd_T134 l0_1 t153).f2))).setCell ⟨gb152, 2, none⟩ (.string (((rd_T134 l0_1 t153).f2) ++ a2)))) ?hg ?ho ?hn ?hr ?_; (case ho | hg | hn => rfl); (case hr => first | (go_simp; done) | (go_simp; rfl)); intro w46 hw; replace BK143 : Aside0 (w46.heap[gb143]? = some (.cells #[.int .i64 a0_0, .slice (some ad154) l0_1.length c0_1] 70 (0, 0))) := ⟨(by rw [hw]; exact (by (with_reducible repeat (first | refine blk_drewN ?_ _ | refine blk_drew ?_ | refine blk_alloc ?_ _)); refine blk_far ?_ NB143_152.out _; (with_reducible repeat (first | refine blk_drewN ?_ _ | refine blk_drew ?_ | refine blk_alloc ?_ _)); refine blk_far ?_ NB143_152.out _; (with_reducible repeat (first | refine blk_drewN ?_ _ | refine blk_drew ?_ | refine blk_alloc ?_ _)); refine blk_far ?_ NB143_152.out _; (with_reducible repeat (first | refine blk_drewN ?_ _ | refine blk_drew ?_ | refine blk_alloc ?_ _)); refine blk_far ?_ NB143_152.out _; (with_reducible repeat (first | refine blk_drewN ?_ _ | refine blk_drew ?_ | refine blk_alloc ?_ _)); exact BK143.out))⟩; replace BK144 : Aside0 (w46.heap[gb144]? = some (.cells #[.int .i64 0, .slice none 0 0] 70 (0, 0))) := ⟨(by rw [hw]; exact (by (with_reducible repeat (first | refine blk_drewN ?_ _ | refine blk_drew ?_ | refine blk_alloc ?_ _)); refine blk_far ?_ NB144_152.out _; (with_reducible repeat (first | refine blk_drewN ?_ _ | refine blk_drew ?_ | refine blk_alloc ?_ _)); refine blk_far ?_ NB144_152.out _; (with_reducible repeat (first | refine blk_drewN ?_ _ | refine blk_drew ?_ | refine blk_alloc ?_ _)); refine blk_far ?_ NB144_152.out _; (with_reducible repeat (first | refine blk_drewN ?_ _ | refine blk_drew ?_ | refine blk_alloc ?_ _)); refine blk_far ?_ NB144_152.out _; (with_reducible repeat (first | refine blk_drewN ?_ _ | refine blk_drew ?_ | refine blk_alloc ?_ _)); exact BK144.out))⟩; replace BK152 : Aside0 (w46.heap[gb152]? = some (.cells #[.int .i64 ((rd_T134 l0_1 t153).f0), .string ((rd_T134 l0_1 t153).f1), .string (((rd_T134 l0_1 t153).f2) ++ a2)] 134 (0, 0))) := ⟨(by rw [hw]; exact (by (with_reducible repeat (first | refine blk_drewN ?_ _ | refine blk_drew ?_ | refine blk_alloc ?_ _)); refine blk_put (cs := #[.int .i64 ((rd_T134 l0_1 t153).f0), .string ((rd_T134 l0_1 t153).f1), .string ((rd_T134 l0_1 t153).f2)]) ?_ 2 _ rfl; (with_reducible repeat (first | refine blk_drewN ?_ _ | refine blk_drew ?_ | refine blk_alloc ?_ _)); refine blk_put (cs := #[.int .i64 ((rd_T134 l0_1 t153).f0), .string ((rd_T134 l0_1 t153).f1), .string (⟨#[]⟩ : ByteArray)]) ?_ 2 _ rfl; (with_reducible repeat (first | refine blk_drewN ?_ _ | refine blk_drew ?_ | refine blk_alloc ?_ _)); refine blk_put (cs := #[.int .i64 ((rd_T134 l0_1 t153).f0), .string (⟨#[]⟩ : ByteArray), .string (⟨#[]⟩ : ByteArray)]) ?_ 1 _ rfl; (with_reducible repeat (first | refine blk_drewN ?_ _ | refine blk_drew ?_ | refine blk_alloc ?_ _)); refine blk_put (cs := #[.int .i64 a1, .string (⟨#[]⟩ : ByteArray), .string (⟨#[]⟩ : ByteArray)]) ?_ 0 _ rfl; (with_reducible repeat (first | refine blk_drewN ?_ _ | refine blk_drew ?_ | refine blk_alloc ?_ _)); exact BK152.out))⟩; replace HB : Aside0 (Below w.heap.size w w46) := ⟨(by rw [hw]; exact xbg)⟩; clear hw; obtain ⟨hcz47_0, hcz47_1, hfz47_0, hfz47_1⟩ := xf2 (w := w46) BK143; obtain ⟨hcz48_0, hcz48_1, hcz48_2, hfz48_0, hfz48_1, hfz48_2⟩ := xf3 (w := w46) BK152) | ((with_reducible refine gate_callee (f := 111) rfl ?_); refine goesL_ (some 50) rfl rfl Try.func111 (by kernel_rfl) rfl #[.agg #[.int .i64 a0_0, .slice (some ad154) l0_1.length c0_1], .agg #[.int .i64 ((rd_T134 l0_1 t153).f0), .string ((rd_T134 l0_1 t153).f1), .string (((rd_T134 l0_1 t153).f2) ++ a2)]] rfl (by (try simp only [List.map_toArray, List.map_cons, List.map_nil]); first | done | rfl | (simp only [List.length_drop, List.length_take]; rfl)) ?_; (with_reducible refine (spec_l3Put.calls kj3 a0_0 _ _ l0_1 ((rd_T134 l0_1 t153).f0) ((rd_T134 l0_1 t153).f1) (((rd_T134 l0_1 t153).f2) ++ a2) t155 t156 _ ?side1 ?side2 A34.out).mono ?_); (case side1 => exact xcb HR0_1); (case side2 => exact HC0_1.out); rintro e w49 ⟨v157, rfl, ho0, hb⟩; refine ⟨_, rfl, ?_⟩; have HO158 := aM (Kd.R_lower (Kd.R_newB ho0 (g := gb152) (o := .cells #[.int .i64 ((rd_T134 l0_1 t153).f0), .string ((rd_T134 l0_1 t153).f1), .string (((rd_T134 l0_1 t153).f2) ++ a2)] 134 (0, 0)) xblk) (below_size xbg)); replace BK143 := xbb BK143 hb; replace BK144 := xbb BK144 hb; replace BK152 := xbb BK152 hb; replace HB := xbs hb; (try clear hb); (try clear hb2); (try clear hk); (try clear hi); (try clear ho0); obtain ⟨hcz50_0, hcz50_1, hfz50_0, hfz50_1⟩ := xf2 (w := w49) BK144; obtain ⟨Ao51, co51, eo51⟩ := Kd.R_slice HO158.out; subst eo51))
         refine bodyPost_ret (results_ct rfl _ _ gb144 70 #[.int .i64 t155, .slice Ao51 t156.length co51] (0, 0) _ rfl (by (with_reducible repeat (first | refine blk_drewN ?_ _ | refine blk_drew ?_ | refine blk_alloc ?_ _)); refine blk_put (cs := #[.int .i64 t155, .slice none 0 0]) ?_ 1 _ rfl; (with_reducible repeat (first | refine blk_drewN ?_ _ | refine blk_drew ?_ | refine blk_alloc ?_ _)); refine blk_put (cs := #[.int .i64 0, .slice none 0 0]) ?_ 0 _ rfl; (with_reducible repeat (first | refine blk_drewN ?_ _ | refine blk_drew ?_ | refine blk_alloc ?_ _)); exact BK144.out) Try.underlying70 rfl (by kernel_rfl)) rfl ?_
         exact ⟨_, by first | rfl | (simp [errW_none, errW_some] <;> rfl) | (simp [*, errW_none, errW_some] <;> rfl), by (with_reducible repeat (first | apply Kd.R_alloc | apply Kd.R_drewN | apply Kd.R_drew)); exact Kd.R_mono (Kd.R_far (p := ⟨gb144, 1, none⟩) (Kd.R_far (p := ⟨gb144, 0, none⟩) (Kd.R_types HO158.out BK144.out (by decide)) (fun _ hk => hk.2) (.int .i64 t155)) (fun _ hk => hk.2) (.slice Ao51 t156.length co51)) (fun _ hk => trivial), xbg⟩
        ·rw [if_neg c33] at H
         exact absurd H (by simp)
       ·rw [if_neg c32] at H
        exact absurd H (by simp)
      ·rw [if_neg c31] at H
       exact absurd H (by simp)
     ·rw [if_neg c30] at H
      have c30b0 : decide (0 ≤ t153) = false := decide_eq_false c30; clear c30
      by_cases c52 : 0 + a2.size ≤ 9223372036854775807
      ·rw [if_pos c52] at H
       have c52b0 := eq_true c52; have c52b1 : decide (0 + a2.size ≤ 9223372036854775807) = true := decide_eq_true c52
       try have c52b2 : (9223372036854775807 < 0 + a2.size) = False := eq_false (Nat.not_lt.2 c52)
       replace H := Option.bind_eq_some_iff.mp H
       obtain ⟨⟨t159, t160⟩, A530, H⟩ := H
       replace H : (some (t159, t160, 0)) = some (r1, r2, r3) := H; have A53 := aM A530; clear A530
       simp only [Option.some.injEq, Prod.mk.injEq] at H
       obtain ⟨rfl, rfl, rfl⟩ := H
       try go_wp2
       replace BK143 := aM (blk_drew BK143.out); replace BK144 := aM (blk_drew BK144.out); replace HB := aM (below_drew1 HB.out)
       refine start_ (n := 9) (S := fun w' => w'.cell? ⟨gb143, 0, none⟩ = some (.int .i64 a0_0) ∧ w'.cell? ⟨gb143, 1, none⟩ = some (.slice A0_1 l0_1.length c0_1)) (ds := []) #[false, false, false, false, false, false, false, false, false] (by kernel_rfl) rfl rfl ⟨xc BK143 0 rfl, xc BK143 1 rfl⟩ (fun hHeld => ?_); refine with_tabW spec_DiskAppend.tab3 spec_DiskAppend.bits3 (fun HT_ HW_ => ?_)
       generalize wc.drew = w54 at BK143 BK144 HB hHeld ⊢
       refine pv_ 0 21 (h := ?_)
       refine pv_ 1 22 (h := ?_)
       refine pv_ 2 23 (h := ?_)
       refine tk_ 3 24 (h := ?_)
       refine tk_ 4 25 (h := ?_)
       refine on_ 5 26 (h := fun K hK => ?_)
       refine goesY Try.func108 #[.agg #[.int .i64 a0_0, .slice A0_1 l0_1.length c0_1]] ?_
       with_reducible refine (spec_l3Size.calls kj3 a0_0 _ _ l0_1 t147 _ ?side1 ?side2 A19.out).mono ?_
       (case side1 => exact xcb HR0_1)
       (case side2 => exact HC0_1.out)
       rintro e w55 ⟨rfl, hb⟩
       refine ⟨_, rfl, ?_⟩
       replace BK143 := xbb BK143 hb; replace BK144 := xbb BK144 hb; replace HB := xbs hb
       (try clear hb); (try clear hb2); (try clear hk); (try clear hi)
       refine hK.out _ _ ⟨xc BK143 0 rfl, xc BK143 1 rfl⟩ (fun hHeld => ?_)
       clear hK K
       refine norm_ (a' := ?_) ?_ ?_
       rotate_left
       ·show Act.put _ (some 26) _ = _
        simp only [Act.put, List.setIfInBounds_toArray, List.set_cons_zero, List.set_cons_succ, i64_w, i32_w]
        rfl
       refine pv_ 6 27 (h := ?_)
       refine pv_ 7 28 (h := ?_)
       refine pv_ 8 20 (h := ?_)
       refine done_ (done_of HT_.out (by kernel_rfl)) ?_
       try go_wp2_with (first | ((with_reducible refine gate_dst (N := 8) rfl ?_); refine box_event ?hg (N := 8) ?hd (cs := #[.int .i64 0, .string (⟨#[]⟩ : ByteArray), .string (⟨#[]⟩ : ByteArray)]) (t := 134) ?hr ?_; (case hd => rfl); (case hg => rfl); (case hr => first | (go_simp; done) | (go_simp; rfl)); intro gb152 hg w56 hbox hb; have GW152 := aM (xge hg); have GE152 := aM (xge hg); replace HB := xbs hb; have NB143_152 := aM ((by rw [hg]; exact Nat.ne_of_lt (blk_lt (g := gb143) (o := .cells #[.int .i64 a0_0, .slice A0_1 l0_1.length c0_1] 70 (0, 0)) xblk) : gb143 ≠ gb152)); have NB152_143 := aM ((by rw [hg]; exact Nat.ne_of_gt (blk_lt (g := gb143) (o := .cells #[.int .i64 a0_0, .slice A0_1 l0_1.length c0_1] 70 (0, 0)) xblk) : gb152 ≠ gb143)); have NB144_152 := aM ((by rw [hg]; exact Nat.ne_of_lt (blk_lt (g := gb144) (o := .cells #[.int .i64 0, .slice none 0 0] 70 (0, 0)) xblk) : gb144 ≠ gb152)); have NB152_144 := aM ((by rw [hg]; exact Nat.ne_of_gt (blk_lt (g := gb144) (o := .cells #[.int .i64 0, .slice none 0 0] 70 (0, 0)) xblk) : gb152 ≠ gb144)); replace BK143 := xbb BK143 hb; replace BK144 := xbb BK144 hb; have BK152 := aM (hbox); clear hb hbox hg; have hnb57 := NB152_143.out; have hnc57 := NB143_152.out; have hnb58 := NB152_144.out; have hnc58 := NB144_152.out; obtain ⟨hcz59_0, hcz59_1, hcz59_2, hfz59_0, hfz59_1, hfz59_2⟩ := xf3 (w := w56) BK152; have hnb60 := NB143_144.out; have hnc60 := NB144_143.out; obtain ⟨hcz61_0, hcz61_1, hfz61_0, hfz61_1⟩ := xf2 (w := w56) BK143) | ((with_reducible refine gate_callee (f := 110) rfl ?_); refine goesL_ (some 35) rfl rfl Try.func110 (by kernel_rfl) rfl #[.agg #[.int .i64 a0_0, .slice A0_1 l0_1.length c0_1], .int .i64 a1] rfl (by (try simp only [List.map_toArray, List.map_cons, List.map_nil]); first | done | rfl | (simp only [List.length_drop, List.length_take]; rfl)) ?_; (with_reducible refine (spec_l3Find.calls kj3 a0_0 _ _ l0_1 a1 t153 _ ?side1 ?side2 A29.out).mono ?_); (case side1 => exact Kd.C_below HR0_1.out xbg); (case side2 => exact HC0_1.out); rintro e w62 ⟨rfl, hb⟩; refine ⟨_, rfl, ?_⟩; replace BK143 := aM (blk_below (g := gb143) (o := .cells #[.int .i64 a0_0, .slice A0_1 l0_1.length c0_1] 70 (0, 0)) (by (with_reducible repeat (first | refine blk_drewN ?_ _ | refine blk_drew ?_ | refine blk_alloc ?_ _)); refine blk_far ?_ NB143_152.out _; (with_reducible repeat (first | refine blk_drewN ?_ _ | refine blk_drew ?_ | refine blk_alloc ?_ _)); refine blk_far ?_ NB143_152.out _; (with_reducible repeat (first | refine blk_drewN ?_ _ | refine blk_drew ?_ | refine blk_alloc ?_ _)); refine blk_far ?_ NB143_152.out _; (with_reducible repeat (first | refine blk_drewN ?_ _ | refine blk_drew ?_ | refine blk_alloc ?_ _)); exact BK143.out) hb); replace BK144 := aM (blk_below (g := gb144) (o := .cells #[.int .i64 0, .slice none 0 0] 70 (0, 0)) (by (with_reducible repeat (first | refine blk_drewN ?_ _ | refine blk_drew ?_ | refine blk_alloc ?_ _)); refine blk_far ?_ NB144_152.out _; (with_reducible repeat (first | refine blk_drewN ?_ _ | refine blk_drew ?_ | refine blk_alloc ?_ _)); refine blk_far ?_ NB144_152.out _; (with_reducible repeat (first | refine blk_drewN ?_ _ | refine blk_drew ?_ | refine blk_alloc ?_ _)); refine blk_far ?_ NB144_152.out _; (with_reducible repeat (first | refine blk_drewN ?_ _ | refine blk_drew ?_ | refine blk_alloc ?_ _)); exact BK144.out) hb); replace BK152 := aM (blk_below (g := gb152) (o := .cells #[.int .i64 a1, .string (⟨#[]⟩ : ByteArray), .string (⟨#[]⟩ : ByteArray)] 134 (0, 0)) (by (with_reducible repeat (first | refine blk_drewN ?_ _ | refine blk_drew ?_ | refine blk_alloc ?_ _)); refine blk_put (cs := #[.int .i64 a1, .string (⟨#[]⟩ : ByteArray), .string (⟨#[]⟩ : ByteArray)]) ?_ 2 _ rfl; (with_reducible repeat (first | refine blk_drewN ?_ _ | refine blk_drew ?_ | refine blk_alloc ?_ _)); refine blk_put (cs := #[.int .i64 a1, .string (⟨#[]⟩ : ByteArray), .string (⟨#[]⟩ : ByteArray)]) ?_ 1 _ rfl; (with_reducible repeat (first | refine blk_drewN ?_ _ | refine blk_drew ?_ | refine blk_alloc ?_ _)); refine blk_put (cs := #[.int .i64 0, .string (⟨#[]⟩ : ByteArray), .string (⟨#[]⟩ : ByteArray)]) ?_ 0 _ rfl; (with_reducible repeat (first | refine blk_drewN ?_ _ | refine blk_drew ?_ | refine blk_alloc ?_ _)); exact BK152.out) hb); replace HB := xbs hb; (try clear hb); (try clear hb2); (try clear hk); (try clear hi); obtain ⟨hcz63_0, hcz63_1, hcz63_2, hfz63_0, hfz63_1, hfz63_2⟩ := xf3 (w := w62) BK152; obtain ⟨hcz64_0, hcz64_1, hfz64_0, hfz64_1⟩ := xf2 (w := w62) BK143) | ((with_reducible refine gate_callee (f := 111) rfl ?_); refine goesL_ (some 50) rfl rfl Try.func111 (by kernel_rfl) rfl #[.agg #[.int .i64 a0_0, .slice A0_1 l0_1.length c0_1], .agg #[.int .i64 a1, .string (⟨#[]⟩ : ByteArray), .string ((⟨#[]⟩ : ByteArray) ++ a2)]] rfl (by (try simp only [List.map_toArray, List.map_cons, List.map_nil]); first | done | rfl | (simp only [List.length_drop, List.length_take]; rfl)) ?_; (with_reducible refine (spec_l3Put.calls kj3 a0_0 _ _ l0_1 a1 (⟨#[]⟩ : ByteArray) ((⟨#[]⟩ : ByteArray) ++ a2) t159 t160 _ ?side1 ?side2 A53.out).mono ?_); (case side1 => exact Kd.C_below HR0_1.out xbg); (case side2 => exact HC0_1.out); rintro e w65 ⟨v161, rfl, ho0, hb⟩; refine ⟨_, rfl, ?_⟩; have HO162 := aM (Kd.R_lower (Kd.R_newB ho0 (g := gb152) (o := .cells #[.int .i64 a1, .string (⟨#[]⟩ : ByteArray), .string ((⟨#[]⟩ : ByteArray) ++ a2)] 134 (0, 0)) (by (with_reducible repeat (first | refine blk_drewN ?_ _ | refine blk_drew ?_ | refine blk_alloc ?_ _)); refine blk_put (cs := #[.int .i64 a1, .string (⟨#[]⟩ : ByteArray), .string (⟨#[]⟩ : ByteArray)]) ?_ 2 _ rfl; (with_reducible repeat (first | refine blk_drewN ?_ _ | refine blk_drew ?_ | refine blk_alloc ?_ _)); exact BK152.out)) (below_size xbg)); replace BK143 := aM (blk_below (g := gb143) (o := .cells #[.int .i64 a0_0, .slice A0_1 l0_1.length c0_1] 70 (0, 0)) (by (with_reducible repeat (first | refine blk_drewN ?_ _ | refine blk_drew ?_ | refine blk_alloc ?_ _)); refine blk_far ?_ NB143_152.out _; (with_reducible repeat (first | refine blk_drewN ?_ _ | refine blk_drew ?_ | refine blk_alloc ?_ _)); exact BK143.out) hb); replace BK144 := aM (blk_below (g := gb144) (o := .cells #[.int .i64 0, .slice none 0 0] 70 (0, 0)) (by (with_reducible repeat (first | refine blk_drewN ?_ _ | refine blk_drew ?_ | refine blk_alloc ?_ _)); refine blk_far ?_ NB144_152.out _; (with_reducible repeat (first | refine blk_drewN ?_ _ | refine blk_drew ?_ | refine blk_alloc ?_ _)); exact BK144.out) hb); replace BK152 := aM (blk_below (g := gb152) (o := .cells #[.int .i64 a1, .string (⟨#[]⟩ : ByteArray), .string ((⟨#[]⟩ : ByteArray) ++ a2)] 134 (0, 0)) (by (with_reducible repeat (first | refine blk_drewN ?_ _ | refine blk_drew ?_ | refine blk_alloc ?_ _)); refine blk_put (cs := #[.int .i64 a1, .string (⟨#[]⟩ : ByteArray), .string (⟨#[]⟩ : ByteArray)]) ?_ 2 _ rfl; (with_reducible repeat (first | refine blk_drewN ?_ _ | refine blk_drew ?_ | refine blk_alloc ?_ _)); exact BK152.out) hb); replace HB := xbs hb; (try clear hb); (try clear hb2); (try clear hk); (try clear hi); (try clear ho0); obtain ⟨hcz66_0, hcz66_1, hfz66_0, hfz66_1⟩ := xf2 (w := w65) BK144; obtain ⟨Ao67, co67, eo67⟩ := Kd.R_slice HO162.out; subst eo67))
       refine bodyPost_ret (results_ct rfl _ _ gb144 70 #[.int .i64 t159, .slice Ao67 t160.length co67] (0, 0) _ rfl (by (with_reducible repeat (first | refine blk_drewN ?_ _ | refine blk_drew ?_ | refine blk_alloc ?_ _)); refine blk_put (cs := #[.int .i64 t159, .slice none 0 0]) ?_ 1 _ rfl; (with_reducible repeat (first | refine blk_drewN ?_ _ | refine blk_drew ?_ | refine blk_alloc ?_ _)); refine blk_put (cs := #[.int .i64 0, .slice none 0 0]) ?_ 0 _ rfl; (with_reducible repeat (first | refine blk_drewN ?_ _ | refine blk_drew ?_ | refine blk_alloc ?_ _)); exact BK144.out) Try.underlying70 rfl (by kernel_rfl)) rfl ?_
       exact ⟨_, by first | rfl | (simp [errW_none, errW_some] <;> rfl) | (simp [*, errW_none, errW_some] <;> rfl), by (with_reducible repeat (first | apply Kd.R_alloc | apply Kd.R_drewN | apply Kd.R_drew)); exact Kd.R_mono (Kd.R_far (p := ⟨gb144, 1, none⟩) (Kd.R_far (p := ⟨gb144, 0, none⟩) (Kd.R_types HO162.out BK144.out (by decide)) (fun _ hk => hk.2) (.int .i64 t159)) (fun _ hk => hk.2) (.slice Ao67 t160.length co67)) (fun _ hk => trivial), xbg⟩
      ·rw [if_neg c52] at H
       exact absurd H (by simp)

/-! ### impl_within: function 81 -/
def impl_within.f (a0 : Int) (a1 : Int) (a2 : Int) : Option (Bool) := if a0 ≥ a1 then (some (decide (a0 ≤ a2))) else (some false)
set_option maxHeartbeats 8000000 in
set_option maxRecDepth 100000 in
theorem impl_within.calls (a0 : Int) (a1 : Int) (a2 : Int) (r : Bool) (w : World) (h : impl_within.f a0 a1 a2 = some r) :
 Calls Try.prog 81 #[.int .i64 a0, .int .i64 a1, .int .i64 a2] w fun e w' => e = .returned (.bool r) ∧ Drawn0 w w' := by
 have H : (if a0 ≥ a1 then (some (decide (a0 ≤ a2))) else (some false)) = some r := h
 clear h
 by_cases c4 : a0 ≥ a1
 ·rw [if_pos c4] at H
  have c4b0 : decide (a1 ≤ a0) = true := decide_eq_true c4; clear c4
  obtain rfl := Option.some.inj H
  go_enter Try.func81, Try.ntmps81
  go_wp2
  go_ret
  exact ⟨by first | rfl | (simp; done) | (simp [*]; done), by repeat (first | exact Drawn0.refl _ | apply Drawn0.step)⟩
 ·rw [if_neg c4] at H
  have c4b0 : decide (a1 ≤ a0) = false := decide_eq_false c4; clear c4
  obtain rfl := Option.some.inj H
  go_enter Try.func81, Try.ntmps81
  go_wp2
  go_ret
  exact ⟨by first | rfl | (simp; done) | (simp [*]; done), by repeat (first | exact Drawn0.refl _ | apply Drawn0.step)⟩

/-! ### impl_isFile: function 113 -/
def impl_isFile.f (a0 : Int) : Option (Bool) := (impl_within.f a0 0 7).bind fun t163 => (some t163)
set_option maxHeartbeats 8000000 in
set_option maxRecDepth 100000 in
theorem impl_isFile.calls (a0 : Int) (r : Bool) (w : World) (h : impl_isFile.f a0 = some r) :
 Calls Try.prog 113 #[.int .i64 a0] w fun e w' => e = .returned (.bool r) ∧ Drawn0 w w' := by
 have H : ((impl_within.f a0 0 7).bind fun t163 => (some t163)) = some r := h
 clear h
 replace H := Option.bind_eq_some_iff.mp H
 obtain ⟨t163, A20, H⟩ := H
 replace H : (some t163) = some r := H
 have A2 := aM A20
 clear A20
 obtain rfl := Option.some.inj H
 go_enter Try.func113, Try.ntmps113
 go_wp2_with (first | ((with_reducible refine gate_callee (f := 81) rfl ?_); refine goesL_ (some 4) rfl rfl Try.func81 (by kernel_rfl) rfl #[.int .i64 a0, .int .i64 0, .int .i64 7] rfl (by (try simp only [List.map_toArray, List.map_cons, List.map_nil]); first | done | rfl | (simp only [List.length_drop, List.length_take]; rfl)) ?_; (with_reducible refine (impl_within.calls a0 0 7 t163 _ A2.out).mono ?_); rintro e w' ⟨rfl, ⟨nd, rfl⟩⟩; refine ⟨_, rfl, ?_⟩))
 go_ret
 exact ⟨by first | rfl | (simp; done) | (simp [*]; done), by repeat (first | exact Drawn0.refl _ | apply Drawn0.step)⟩

/-! ### impl_sizeOf: function 114 -/
def impl_sizeOf.l0 : Nat → Int → List (S134) → Int → Int → Option (Int)
 | 0, _, _, _, _ => none
 | k + 1, x3, x7, x8, x9 => if x9 < x8 then (if 0 ≤ x9 then (if x9 < (x7.length : Int) then (impl_sizeOf.l0 k (wrap64 (x3 + (wrap64 ((((rd_T134 x7 x9).f1).size : Int) + (((rd_T134 x7 x9).f2).size : Int))))) x7 x8 (wrap64 (x9 + 1))) else (none)) else (none)) else (some x3)
def impl_sizeOf.f (k : Nat) (a0_0 : Int) (l0_1 : List (S134)) : Option (Int) := impl_sizeOf.l0 k 0 l0_1 (l0_1.length : Int) 0
set_option maxRecDepth 100000 in
theorem impl_sizeOf.mono_l : ∀ k, (∀ y0 y1 y2 y3, LeO (impl_sizeOf.l0 k y0 y1 y2 y3) (impl_sizeOf.l0 (k + 1) y0 y1 y2 y3))
 | 0 => fun _ _ _ _ r h => by simp [impl_sizeOf.l0] at h
 | k + 1 => by
  have ih0 := impl_sizeOf.mono_l k
  ·intro y0 y1 y2 y3
   unfold impl_sizeOf.l0
   repeat' first
   | (with_reducible exact ih0 _ _ _ _)
   | (with_reducible exact LeO.refl _)
   | (with_reducible exact LeO.none _)
   | (with_reducible refine LeO.ite ?_ ?_)
   | (with_reducible refine LeO.bind ?_ (fun _ => ?_))
   | exact ih0 _ _ _ _
   | exact LeO.none _
   | refine LeO.ite ?_ ?_
   | refine LeO.bind ?_ (fun _ => ?_)
theorem impl_sizeOf.mono : ∀ a0 a1 k, LeO (impl_sizeOf.f k a0 a1) (impl_sizeOf.f (k + 1) a0 a1) := by
 intro a0 a1 k
 have ih0 := impl_sizeOf.mono_l k
 unfold impl_sizeOf.f
 repeat' first
  | (with_reducible exact ih0 _ _ _ _)
  | (with_reducible exact LeO.refl _)
  | (with_reducible exact LeO.none _)
  | (with_reducible refine LeO.ite ?_ ?_)
  | (with_reducible refine LeO.bind ?_ (fun _ => ?_))
  | exact ih0 _ _ _ _
  | exact LeO.none _
  | refine LeO.ite ?_ ?_
  | refine LeO.bind ?_ (fun _ => ?_)
set_option maxHeartbeats 8000000 in
set_option maxRecDepth 100000 in
theorem impl_sizeOf.calls (k : Nat) (a0_0 : Int) (A0_1 : Option Addr) (c0_1 : Nat) (l0_1 : List (S134)) (r : Int) (w : World) (hr0_1 : Kd.C k134 w A0_1 l0_1.length l0_1) (hc0_1 : l0_1.length ≤ c0_1) (h : impl_sizeOf.f k a0_0 l0_1 = some r) :
 Calls Try.prog 114 #[.agg #[.int .i64 a0_0, .slice A0_1 l0_1.length c0_1]] w fun e w' => e = .returned (.int .i64 r) ∧ Below w.heap.size w w' := by
 have hu70 := Try.underlying70
 have hu134 := Try.underlying134
 have HR0_1 := aM hr0_1
 have HC0_1 := aM hc0_1
 clear hr0_1 hc0_1
 have HB := aM (Below.refl w.heap.size w)
 have H : (impl_sizeOf.l0 k 0 l0_1 (l0_1.length : Int) 0) = some r := h
 clear h
 have H' := aM H
 clear H
 go_enter Try.func114, Try.ntmps114
 go_wp2_with (first | ((with_reducible refine gate_dst (N := 1) rfl ?_); refine box_event ?hg (N := 1) ?hd (cs := #[.int .i64 a0_0, .slice A0_1 l0_1.length c0_1]) (t := 70) ?hr ?_; (case hd => rfl); (case hg => rfl); (case hr => first | (go_simp; done) | (go_simp; rfl)); intro gb164 hg w2 hbox hb; have BK164 := aM (hbox); have GW164 := aM (xge hg); have GE164 := aM (xge hg); replace HB := xbs hb; clear hb hbox hg; obtain ⟨hcz3_0, hcz3_1, hfz3_0, hfz3_1⟩ := xf2 (w := w2) BK164))
 go_loopg [3, 9] k (fun kq v3 v9 w' => ∃ (x3_1 : Int) (x9_1 : Int), v3 = .int .i64 x3_1 ∧ v9 = .int .i64 x9_1 ∧ Aside0 (impl_sizeOf.l0 kq x3_1 l0_1 (l0_1.length : Int) x9_1 = some r) ∧ Aside0 (kq ≤ k) ∧ Aside0 (w'.heap[gb164]? = some (.cells #[.int .i64 a0_0, (.slice A0_1 l0_1.length c0_1)] 70 (0, 0))) ∧ Aside0 (Below w.heap.size w w'))
 case atStart => exact ⟨(0), (0), (by first | rfl | (simp; done) | (simp [*]; done)), (by first | rfl | (simp; done) | (simp [*]; done)), H', ⟨Nat.le_refl _⟩, ⟨xblk⟩, ⟨xbg⟩⟩
 case round =>
  clear H'
  try clear c1
  try clear p2
  try clear hcz3_0
  try clear hcz3_1
  try clear hfz3_0
  try clear hfz3_1
  obtain ⟨x3_1, x9_1, rfl, rfl, HA, HK1, BK164, HB⟩ := hrel
  cases gk with
  | zero => exact absurd HA.out (by simp [impl_sizeOf.l0])
  | succ k1 =>
   have H := HA.out; clear HA
   simp only [impl_sizeOf.l0] at H
   by_cases c4 : x9_1 < (l0_1.length : Int)
   ·rw [if_pos c4] at H
    have c4b0 : decide (x9_1 < (l0_1.length : Int)) = true := decide_eq_true c4; clear c4
    by_cases c5 : 0 ≤ x9_1
    ·rw [if_pos c5] at H
     have c5b0 : decide (0 ≤ x9_1) = true := decide_eq_true c5; clear c5
     by_cases c6 : x9_1 < (l0_1.length : Int)
     ·rw [if_pos c6] at H
      have c6b0 : decide (x9_1 < (l0_1.length : Int)) = true := decide_eq_true c6; clear c6
      have H' := aM H
      clear H; have p165 : 0 ≤ (x9_1 : Int) := oda; have q165 : x9_1 < (l0_1.length : Int) := oda
      obtain ⟨ad165, e165, hx165_0, hx165_1, hx165_2⟩ := at_T134 HR0_1.out x9_1 p165 q165
      cases e165
      replace hx165_0 := xce HB hx165_0; replace hx165_1 := xce HB hx165_1; replace hx165_2 := xce HB hx165_2; replace p165 := eq_true p165; replace q165 := eq_true q165
      go_wp2_with (first | ((with_reducible refine gate_dst (N := 5) rfl ?_); refine box_event ?hg (N := 5) ?hd (cs := #[.int .i64 0, .string (⟨#[]⟩ : ByteArray), .string (⟨#[]⟩ : ByteArray)]) (t := 134) ?hr ?_; (case hd => rfl); (case hg => rfl); (case hr => first | (go_simp; done) | (go_simp; rfl)); intro gb166 hg w7 hbox hb; have GW166 := aM (xge hg); have GE166 := aM (xge hg); replace HB := xbs hb; have NB164_166 := aM ((by rw [hg]; exact Nat.ne_of_lt (blk_lt (g := gb164) (o := .cells #[.int .i64 a0_0, .slice (some ad165) l0_1.length c0_1] 70 (0, 0)) xblk) : gb164 ≠ gb166)); have NB166_164 := aM ((by rw [hg]; exact Nat.ne_of_gt (blk_lt (g := gb164) (o := .cells #[.int .i64 a0_0, .slice (some ad165) l0_1.length c0_1] 70 (0, 0)) xblk) : gb166 ≠ gb164)); replace BK164 := xbb BK164 hb; have BK166 := aM (hbox); clear hb hbox hg; have hnb8 := NB166_164.out; have hnc8 := NB164_166.out; obtain ⟨hcz9_0, hcz9_1, hcz9_2, hfz9_0, hfz9_1, hfz9_2⟩ := xf3 (w := w7) BK166))
      go_roundg k1
      case measure => have := HK1.out; omega
      case rel => exact ⟨(wrap64 (x3_1 + (wrap64 ((((rd_T134 l0_1 x9_1).f1).size : Int) + (((rd_T134 l0_1 x9_1).f2).size : Int))))), (wrap64 (x9_1 + 1)), (by first | rfl | (simp; done) | (simp [*]; done)), (by first | rfl | (simp; done) | (simp [*]; done)), H', ⟨by have := HK1.out; omega⟩, ⟨by (with_reducible repeat (first | refine blk_drewN ?_ _ | refine blk_drew ?_ | refine blk_alloc ?_ _)); refine blk_far ?_ NB164_166.out _; (with_reducible repeat (first | refine blk_drewN ?_ _ | refine blk_drew ?_ | refine blk_alloc ?_ _)); refine blk_far ?_ NB164_166.out _; (with_reducible repeat (first | refine blk_drewN ?_ _ | refine blk_drew ?_ | refine blk_alloc ?_ _)); refine blk_far ?_ NB164_166.out _; (with_reducible repeat (first | refine blk_drewN ?_ _ | refine blk_drew ?_ | refine blk_alloc ?_ _)); exact BK164.out⟩, ⟨xbg⟩⟩
     ·rw [if_neg c6] at H
      exact absurd H (by simp)
    ·rw [if_neg c5] at H
     exact absurd H (by simp)
   ·rw [if_neg c4] at H
    have c4b0 : decide (x9_1 < (l0_1.length : Int)) = false := decide_eq_false c4; clear c4
    obtain rfl := Option.some.inj H
    go_wp2
    go_ret
    exact ⟨by first | rfl | (simp [errW_none, errW_some] <;> rfl) | (simp [*, errW_none, errW_some] <;> rfl), xbg⟩

/-! ### impl_DiskOk: function 52 -/
def impl_DiskOk.l0 : Nat → List (S134) → Int → Int → Int → List (S134) → Option (Bool)
 | 0, _, _, _, _, _ => none
 | k + 1, x6, x7, x8, x168000, x168001 => if x8 < x7 then (if 0 ≤ x8 then (if x8 < (x6.length : Int) then ((impl_isFile.f ((rd_T134 x6 x8).f0)).bind fun t170 => (if t170 = true then (if x8 > 0 then (if 0 ≤ (wrap64 (x8 - 1)) then (if (wrap64 (x8 - 1)) < (x168001.length : Int) then (if ((rd_T134 x168001 (wrap64 (x8 - 1))).f0) ≥ ((rd_T134 x6 x8).f0) then (some false) else (impl_DiskOk.l0 k x6 x7 (wrap64 (x8 + 1)) x168000 x168001)) else (none)) else (none)) else (impl_DiskOk.l0 k x6 x7 (wrap64 (x8 + 1)) x168000 x168001)) else (some false))) else (none)) else (none)) else ((impl_within.f x168000 0 40000).bind fun t172 => (if t172 = true then ((impl_sizeOf.f k x168000 x168001).bind fun t173 => (some (decide (t173 ≤ x168000)))) else (some false)))
def impl_DiskOk.f (k : Nat) (a0_0 : Int) (l0_1 : List (S134)) : Option (Bool) := impl_DiskOk.l0 k l0_1 (l0_1.length : Int) 0 a0_0 l0_1
set_option maxRecDepth 100000 in
theorem impl_DiskOk.mono_l : ∀ k, (∀ y0 y1 y2 y3 y4, LeO (impl_DiskOk.l0 k y0 y1 y2 y3 y4) (impl_DiskOk.l0 (k + 1) y0 y1 y2 y3 y4))
 | 0 => fun _ _ _ _ _ r h => by simp [impl_DiskOk.l0] at h
 | k + 1 => by
  have ih0 := impl_DiskOk.mono_l k
  ·intro y0 y1 y2 y3 y4
   unfold impl_DiskOk.l0
   repeat' first
   | (with_reducible exact ih0 _ _ _ _ _)
   | (with_reducible exact impl_sizeOf.mono _ _ _)
   | (with_reducible exact LeO.refl _)
   | (with_reducible exact LeO.none _)
   | (with_reducible refine LeO.ite ?_ ?_)
   | (with_reducible refine LeO.bind ?_ (fun _ => ?_))
   | exact ih0 _ _ _ _ _
   | exact impl_sizeOf.mono _ _ _
   | exact LeO.none _
   | refine LeO.ite ?_ ?_
   | refine LeO.bind ?_ (fun _ => ?_)
theorem impl_DiskOk.mono : ∀ a0 a1 k, LeO (impl_DiskOk.f k a0 a1) (impl_DiskOk.f (k + 1) a0 a1) := by
 intro a0 a1 k
 have ih0 := impl_DiskOk.mono_l k
 unfold impl_DiskOk.f
 repeat' first
  | (with_reducible exact ih0 _ _ _ _ _)
  | (with_reducible exact impl_sizeOf.mono _ _ _)
  | (with_reducible exact LeO.refl _)
  | (with_reducible exact LeO.none _)
  | (with_reducible refine LeO.ite ?_ ?_)
  | (with_reducible refine LeO.bind ?_ (fun _ => ?_))
  | exact ih0 _ _ _ _ _
  | exact impl_sizeOf.mono _ _ _
  | exact LeO.none _
  | refine LeO.ite ?_ ?_
  | refine LeO.bind ?_ (fun _ => ?_)
def impl_DiskOk.T4 : Bool × List (List Nat × List Nat) := (true, [([], []), ([0], [0]), ([1], [1]), ([2], [2]), ([3, 2], [3]), ([4], [4]), ([5, 4], [4, 5]), ([6, 4, 4], [4, 6]), ([7], [7]), ([8, 7], [7, 8]), ([7], [7]), ([10, 7], [7, 10]), ([9, 11, 7], [7, 9, 11]), ([12, 7], [7, 12]), ([13, 7], [7, 13]), ([7], [7]), ([15, 7], [7, 15]), ([14, 16, 7], [7, 14, 16]), ([7, 17, 4], [4, 7, 17]), ([4, 18], [4, 18])])
def impl_DiskOk.B4 : List Nat := [0, 1, 3, 7, 15, 31, 63, 127, 255, 511, 255, 1279, 4095, 8191, 16383, 255, 33023, 131071, 262143, 524287]
theorem impl_DiskOk.tab4 : rtab .any (opsOf Try.f52 4) = impl_DiskOk.T4 := by kernel_rfl
theorem impl_DiskOk.bits4 : waitsOk impl_DiskOk.T4.2 impl_DiskOk.B4 = true := by kernel_rfl
def impl_DiskOk.T7 : Bool × List (List Nat × List Nat) := (true, [([], []), ([0], [0]), ([1], [1]), ([2, 2], [2]), ([3], [3]), ([4, 3, 3], [3, 4]), ([3], [3]), ([6, 3], [3, 6]), ([5, 7, 3], [3, 5, 7]), ([3, 8], [3, 8]), ([9, 5, 0, 1, 2, 3, 4, 5, 6, 7, 8, 9], [9])])
def impl_DiskOk.B7 : List Nat := [0, 1, 3, 7, 15, 31, 15, 79, 255, 511, 1023]
theorem impl_DiskOk.tab7 : rtab .any (opsOf Try.f52 7) = impl_DiskOk.T7 := by kernel_rfl
theorem impl_DiskOk.bits7 : waitsOk impl_DiskOk.T7.2 impl_DiskOk.B7 = true := by kernel_rfl
set_option maxHeartbeats 8000000 in
set_option maxRecDepth 100000 in
theorem impl_DiskOk.calls (k : Nat) (a0_0 : Int) (A0_1 : Option Addr) (c0_1 : Nat) (l0_1 : List (S134)) (r : Bool) (w : World) (hr0_1 : Kd.C k134 w A0_1 l0_1.length l0_1) (hc0_1 : l0_1.length ≤ c0_1) (h : impl_DiskOk.f k a0_0 l0_1 = some r) :
 Calls Try.prog 52 #[.agg #[.int .i64 a0_0, .slice A0_1 l0_1.length c0_1]] w fun e w' => e = .returned (.bool r) ∧ Below w.heap.size w w' := by
 have hu70 := Try.underlying70
 have hu134 := Try.underlying134
 have HR0_1 := aM hr0_1
 have HC0_1 := aM hc0_1
 clear hr0_1 hc0_1
 have HB := aM (Below.refl w.heap.size w)
 have H : (impl_DiskOk.l0 k l0_1 (l0_1.length : Int) 0 a0_0 l0_1) = some r := h
 clear h
 have H' := aM H
 clear H
 go_enter Try.func52, Try.ntmps52
 go_wp2_with (first | ((with_reducible refine gate_dst (N := 1) rfl ?_); refine box_event ?hg (N := 1) ?hd (cs := #[.int .i64 a0_0, .slice A0_1 l0_1.length c0_1]) (t := 70) ?hr ?_; (case hd => rfl); (case hg => rfl); (case hr => first | (go_simp; done) | (go_simp; rfl)); intro gb167 hg w2 hbox hb; have BK167 := aM (hbox); have GW167 := aM (xge hg); have GE167 := aM (xge hg); replace HB := xbs hb; clear hb hbox hg; obtain ⟨hcz3_0, hcz3_1, hfz3_0, hfz3_1⟩ := xf2 (w := w2) BK167))
 go_loopg [8] k (fun kq v8 w' => ∃ (x8_1 : Int), v8 = .int .i64 x8_1 ∧ Aside0 (impl_DiskOk.l0 kq l0_1 (l0_1.length : Int) x8_1 a0_0 l0_1 = some r) ∧ Aside0 (kq ≤ k) ∧ Aside0 (w'.heap[gb167]? = some (.cells #[.int .i64 a0_0, (.slice A0_1 l0_1.length c0_1)] 70 (0, 0))) ∧ Aside0 (Below w.heap.size w w'))
 case atStart => exact ⟨(0), (by first | rfl | (simp; done) | (simp [*]; done)), H', ⟨Nat.le_refl _⟩, ⟨xblk⟩, ⟨xbg⟩⟩
 case round =>
  clear H'
  try clear p2
  try clear hcz3_0
  try clear hcz3_1
  try clear hfz3_0
  try clear hfz3_1
  obtain ⟨x8_1, rfl, HA, HK1, BK167, HB⟩ := hrel
  cases gk with
  | zero => exact absurd HA.out (by simp [impl_DiskOk.l0])
  | succ k1 =>
   have H := HA.out; clear HA
   simp only [impl_DiskOk.l0] at H
   by_cases c4 : x8_1 < (l0_1.length : Int)
   ·rw [if_pos c4] at H
    have c4b0 : decide (x8_1 < (l0_1.length : Int)) = true := decide_eq_true c4; clear c4
    by_cases c5 : 0 ≤ x8_1
    ·rw [if_pos c5] at H
     have c5b0 : decide (0 ≤ x8_1) = true := decide_eq_true c5; clear c5
     by_cases c6 : x8_1 < (l0_1.length : Int)
     ·rw [if_pos c6] at H
      have c6b0 : decide (x8_1 < (l0_1.length : Int)) = true := decide_eq_true c6; clear c6; replace H := Option.bind_eq_some_iff.mp H
      obtain ⟨t170, A70, H⟩ := H
      replace H : (if t170 = true then (if x8_1 > 0 then (if 0 ≤ (wrap64 (x8_1 - 1)) then (if (wrap64 (x8_1 - 1)) < (l0_1.length : Int) then (if ((rd_T134 l0_1 (wrap64 (x8_1 - 1))).f0) ≥ ((rd_T134 l0_1 x8_1).f0) then (some false) else (impl_DiskOk.l0 k1 l0_1 (l0_1.length : Int) (wrap64 (x8_1 + 1)) a0_0 l0_1)) else (none)) else (none)) else (impl_DiskOk.l0 k1 l0_1 (l0_1.length : Int) (wrap64 (x8_1 + 1)) a0_0 l0_1)) else (some false)) = some r := H; have A7 := aM A70; clear A70
      by_cases c8 : t170 = true
      ·subst c8
       have H1 : (if x8_1 > 0 then (if 0 ≤ (wrap64 (x8_1 - 1)) then (if (wrap64 (x8_1 - 1)) < (l0_1.length : Int) then (if ((rd_T134 l0_1 (wrap64 (x8_1 - 1))).f0) ≥ ((rd_T134 l0_1 x8_1).f0) then (some false) else (impl_DiskOk.l0 k1 l0_1 (l0_1.length : Int) (wrap64 (x8_1 + 1)) a0_0 l0_1)) else (none)) else (none)) else (impl_DiskOk.l0 k1 l0_1 (l0_1.length : Int) (wrap64 (x8_1 + 1)) a0_0 l0_1)) = some r := by rw [if_pos rfl] at H; exact H
       clear H; have H := H1; clear H1
       by_cases c9 : x8_1 > 0
       ·rw [if_pos c9] at H
        have c9b0 : decide (0 < x8_1) = true := decide_eq_true c9; clear c9
        obtain ⟨ji10, hji10⟩ : ∃ j_ : Int, (wrap64 (x8_1 - 1)) = j_ := ⟨_, rfl⟩
        replace H : (if 0 ≤ (ji10) then (if (ji10) < (l0_1.length : Int) then (if ((rd_T134 l0_1 (ji10)).f0) ≥ ((rd_T134 l0_1 x8_1).f0) then (some false) else (impl_DiskOk.l0 k1 l0_1 (l0_1.length : Int) (wrap64 (x8_1 + 1)) a0_0 l0_1)) else (none)) else (none)) = some r := by first | (rw [hji10] at H; exact H) | (simp only [hji10] at H ⊢; exact H)
        (try rw [hji10] at A7)
        have hji10w : (IntKind.i64.wrap (x8_1 - 1)) = ji10 := (i64_w _).trans hji10
        by_cases c11 : 0 ≤ (ji10)
        ·rw [if_pos c11] at H
         have c11b0 : decide (0 ≤ (ji10)) = true := decide_eq_true c11; clear c11
         by_cases c12 : (ji10) < (l0_1.length : Int)
         ·rw [if_pos c12] at H
          have c12b0 : decide ((ji10) < (l0_1.length : Int)) = true := decide_eq_true c12; clear c12
          by_cases c13 : ((rd_T134 l0_1 (ji10)).f0) ≥ ((rd_T134 l0_1 x8_1).f0)
          ·rw [if_pos c13] at H
           have c13b0 : decide (((rd_T134 l0_1 x8_1).f0) ≤ ((rd_T134 l0_1 (ji10)).f0)) = true := decide_eq_true c13; clear c13
           obtain rfl := Option.some.inj H
           have p168 : 0 ≤ (x8_1 : Int) := oda; have q168 : x8_1 < (l0_1.length : Int) := oda
           obtain ⟨ad168, e168, hx168_0, hx168_1, hx168_2⟩ := at_T134 HR0_1.out x8_1 p168 q168
           cases e168
           replace hx168_0 := xce HB hx168_0; replace hx168_1 := xce HB hx168_1; replace hx168_2 := xce HB hx168_2; replace p168 := eq_true p168; replace q168 := eq_true q168
           try go_wp2_with (first | ((with_reducible refine gate_dst (N := 4) rfl ?_); refine box_event ?hg (N := 4) ?hd (cs := #[.int .i64 0, .string (⟨#[]⟩ : ByteArray), .string (⟨#[]⟩ : ByteArray)]) (t := 134) ?hr ?_; (case hd => rfl); (case hg => rfl); (case hr => first | (go_simp; done) | (go_simp; rfl)); intro gb169 hg w14 hbox hb; have GW169 := aM (xge hg); have GE169 := aM (xge hg); replace HB := xbs hb; have NB167_169 := aM ((by rw [hg]; exact Nat.ne_of_lt (blk_lt (g := gb167) (o := .cells #[.int .i64 a0_0, .slice (some ad168) l0_1.length c0_1] 70 (0, 0)) xblk) : gb167 ≠ gb169)); have NB169_167 := aM ((by rw [hg]; exact Nat.ne_of_gt (blk_lt (g := gb167) (o := .cells #[.int .i64 a0_0, .slice (some ad168) l0_1.length c0_1] 70 (0, 0)) xblk) : gb169 ≠ gb167)); replace BK167 := xbb BK167 hb; have BK169 := aM (hbox); clear hb hbox hg; have hnb15 := NB169_167.out; have hnc15 := NB167_169.out; obtain ⟨hcz16_0, hcz16_1, hcz16_2, hfz16_0, hfz16_1, hfz16_2⟩ := xf3 (w := w14) BK169))
           have n0_ : Aside0 ((((w14.setCell ⟨gb169, 0, none⟩ (.int .i64 ((rd_T134 l0_1 x8_1).f0))).setCell ⟨gb169, 1, none⟩ (.string ((rd_T134 l0_1 x8_1).f1))).setCell ⟨gb169, 2, none⟩ (.string ((rd_T134 l0_1 x8_1).f2))).heap[gb167]? = some (.cells #[.int .i64 a0_0, .slice (some ad168) l0_1.length c0_1] 70 (0, 0))) := ⟨by (with_reducible repeat (first | refine blk_drewN ?_ _ | refine blk_drew ?_ | refine blk_alloc ?_ _)); refine blk_far ?_ NB167_169.out _; (with_reducible repeat (first | refine blk_drewN ?_ _ | refine blk_drew ?_ | refine blk_alloc ?_ _)); refine blk_far ?_ NB167_169.out _; (with_reducible repeat (first | refine blk_drewN ?_ _ | refine blk_drew ?_ | refine blk_alloc ?_ _)); refine blk_far ?_ NB167_169.out _; (with_reducible repeat (first | refine blk_drewN ?_ _ | refine blk_drew ?_ | refine blk_alloc ?_ _)); exact BK167.out⟩; have n1_ : Aside0 ((((w14.setCell ⟨gb169, 0, none⟩ (.int .i64 ((rd_T134 l0_1 x8_1).f0))).setCell ⟨gb169, 1, none⟩ (.string ((rd_T134 l0_1 x8_1).f1))).setCell ⟨gb169, 2, none⟩ (.string ((rd_T134 l0_1 x8_1).f2))).heap[gb169]? = some (.cells #[.int .i64 ((rd_T134 l0_1 x8_1).f0), .string ((rd_T134 l0_1 x8_1).f1), .string ((rd_T134 l0_1 x8_1).f2)] 134 (0, 0))) := ⟨by (with_reducible repeat (first | refine blk_drewN ?_ _ | refine blk_drew ?_ | refine blk_alloc ?_ _)); refine blk_put (cs := #[.int .i64 ((rd_T134 l0_1 x8_1).f0), .string ((rd_T134 l0_1 x8_1).f1), .string (⟨#[]⟩ : ByteArray)]) ?_ 2 _ rfl; (with_reducible repeat (first | refine blk_drewN ?_ _ | refine blk_drew ?_ | refine blk_alloc ?_ _)); refine blk_put (cs := #[.int .i64 ((rd_T134 l0_1 x8_1).f0), .string (⟨#[]⟩ : ByteArray), .string (⟨#[]⟩ : ByteArray)]) ?_ 1 _ rfl; (with_reducible repeat (first | refine blk_drewN ?_ _ | refine blk_drew ?_ | refine blk_alloc ?_ _)); refine blk_put (cs := #[.int .i64 0, .string (⟨#[]⟩ : ByteArray), .string (⟨#[]⟩ : ByteArray)]) ?_ 0 _ rfl; (with_reducible repeat (first | refine blk_drewN ?_ _ | refine blk_drew ?_ | refine blk_alloc ?_ _)); exact BK169.out⟩
           have n2_ : Aside0 (Below w.heap.size w (((w14.setCell ⟨gb169, 0, none⟩ (.int .i64 ((rd_T134 l0_1 x8_1).f0))).setCell ⟨gb169, 1, none⟩ (.string ((rd_T134 l0_1 x8_1).f1))).setCell ⟨gb169, 2, none⟩ (.string ((rd_T134 l0_1 x8_1).f2)))) := ⟨xbg⟩
           (try clear BK167); (try clear BK169); (try clear HB)
           generalize (((w14.setCell ⟨gb169, 0, none⟩ (.int .i64 ((rd_T134 l0_1 x8_1).f0))).setCell ⟨gb169, 1, none⟩ (.string ((rd_T134 l0_1 x8_1).f1))).setCell ⟨gb169, 2, none⟩ (.string ((rd_T134 l0_1 x8_1).f2))) = w17 at n0_ n1_ n2_ ⊢
           have BK167 := n0_; have BK169 := n1_; have HB := n2_; clear n0_ n1_ n2_; replace BK167 := aM (blk_drew BK167.out); replace BK169 := aM (blk_drew BK169.out); replace HB := aM (below_drew1 HB.out); have p171 : 0 ≤ ((ji10) : Int) := oda; have q171 : (ji10) < (l0_1.length : Int) := oda
           obtain ⟨ad171, e171, hx171_0, hx171_1, hx171_2⟩ := at_T134 HR0_1.out (ji10) p171 q171
           have hw171_2 := hx171_2; have hw171_1 := hx171_1; have hw171_0 := hx171_0
           obtain rfl : ad168 = ad171 := (by injection e171)
           replace hx171_0 := xce HB hx171_0; replace hx171_1 := xce HB hx171_1; replace hx171_2 := xce HB hx171_2; replace p171 := eq_true p171; replace q171 := eq_true q171
           refine start_ (n := 20) (S := fun w' => w'.cell? ⟨gb169, 0, none⟩ = some (.int .i64 ((rd_T134 l0_1 x8_1).f0)) ∧ w'.cell? ⟨gb169, 1, none⟩ = some (.string ((rd_T134 l0_1 x8_1).f1)) ∧ w'.cell? ⟨gb169, 2, none⟩ = some (.string ((rd_T134 l0_1 x8_1).f2)) ∧ w'.cell? ⟨gb167, 0, none⟩ = some (.int .i64 a0_0) ∧ w'.cell? ⟨gb167, 1, none⟩ = some (.slice (some ad168) l0_1.length c0_1) ∧ w'.cell? (ad168.add (((ji10)).toNat * 3)) = some (.int .i64 ((rd_T134 l0_1 (ji10)).f0)) ∧ w'.cell? ⟨(ad168.add (((ji10)).toNat * 3)).block, (ad168.add (((ji10)).toNat * 3)).off + 1, none⟩ = some (.string ((rd_T134 l0_1 (ji10)).f1)) ∧ w'.cell? ⟨(ad168.add (((ji10)).toNat * 3)).block, (ad168.add (((ji10)).toNat * 3)).off + 2, none⟩ = some (.string ((rd_T134 l0_1 (ji10)).f2))) (ds := []) #[false, false, false, false, false, false, false, false, false, false, false, false, false, false, false, false, false, false, false, false] (by kernel_rfl) rfl rfl ⟨xc BK169 0 rfl, xc BK169 1 rfl, xc BK169 2 rfl, xc BK167 0 rfl, xc BK167 1 rfl, (xce HB hw171_0), (xce HB hw171_1), (xce HB hw171_2)⟩ (fun hHeld => ?_); refine with_tabW impl_DiskOk.tab4 impl_DiskOk.bits4 (fun HT_ HW_ => ?_)
           generalize w17.drew = w18 at BK167 BK169 HB hx171_0 hx171_1 hx171_2 hHeld ⊢
           refine pv_ 0 13 (h := ?_)
           refine tk_ 1 14 (h := ?_)
           refine on_ 2 15 (h := fun K hK => ?_)
           refine goesY Try.func113 #[.int .i64 ((rd_T134 l0_1 x8_1).f0)] ?_
           with_reducible refine (impl_isFile.calls ((rd_T134 l0_1 x8_1).f0) true _ A7.out).mono ?_
           rintro e w' ⟨rfl, ⟨nd, rfl⟩⟩
           refine ⟨_, rfl, ?_⟩
           refine hK.out _ _ ⟨xc BK169 0 rfl, xc BK169 1 rfl, xc BK169 2 rfl, xc BK167 0 rfl, xc BK167 1 rfl, (xce HB hw171_0), (xce HB hw171_1), (xce HB hw171_2)⟩ (fun hHeld => ?_)
           clear hK K
           refine norm_ (a' := ?_) ?_ ?_
           rotate_left
           ·show Act.put _ (some 15) _ = _
            simp only [Act.put, List.setIfInBounds_toArray, List.set_cons_zero, List.set_cons_succ, i64_w, i32_w]
            rfl
           refine pv_ 3 16 (h := ?_)
           refine pv_ 4 17 (h := ?_)
           refine pv_ 5 18 (h := ?_)
           refine pv_ 6 19 (h := ?_)
           refine pv_ 7 20 (h := ?_)
           refine pv_ 8 21 (h := ?_)
           refine pv_ 10 23 (h := ?_)
           refine pv_ 11 24 (h := ?_)
           refine pv_ 15 28 (h := ?_)
           refine tk_ 9 22 (h := ?_)
           refine pv_ 12 25 (h := ?_)
           refine pv_ 13 26 (h := ?_)
           refine tk_ 14 27 (h := ?_)
           refine tk_ 16 29 (h := ?_)
           refine pv_ 17 30 (h := ?_)
           refine pv_ 18 31 (h := ?_)
           refine pv_ 19 32 (h := ?_)
           refine done_ (done_of HT_.out (by kernel_rfl)) ?_
           try go_wp2
           go_ret
           exact ⟨by first | rfl | (simp [errW_none, errW_some] <;> rfl) | (simp only [← hji10]; first | rfl | (simp [errW_none, errW_some] <;> rfl)) | (simp [*, errW_none, errW_some] <;> rfl), xbg⟩
          ·rw [if_neg c13] at H
           have c13b0 : decide (((rd_T134 l0_1 x8_1).f0) ≤ ((rd_T134 l0_1 (ji10)).f0)) = false := decide_eq_false c13; clear c13
           have H' := aM H
           clear H; have p168 : 0 ≤ (x8_1 : Int) := oda; have q168 : x8_1 < (l0_1.length : Int) := oda
           obtain ⟨ad168, e168, hx168_0, hx168_1, hx168_2⟩ := at_T134 HR0_1.out x8_1 p168 q168
           cases e168
           replace hx168_0 := xce HB hx168_0; replace hx168_1 := xce HB hx168_1; replace hx168_2 := xce HB hx168_2; replace p168 := eq_true p168; replace q168 := eq_true q168
           try go_wp2_with (first | ((with_reducible refine gate_dst (N := 4) rfl ?_); refine box_event ?hg (N := 4) ?hd (cs := #[.int .i64 0, .string (⟨#[]⟩ : ByteArray), .string (⟨#[]⟩ : ByteArray)]) (t := 134) ?hr ?_; (case hd => rfl); (case hg => rfl); (case hr => first | (go_simp; done) | (go_simp; rfl)); intro gb169 hg w19 hbox hb; have GW169 := aM (xge hg); have GE169 := aM (xge hg); replace HB := xbs hb; have NB167_169 := aM ((by rw [hg]; exact Nat.ne_of_lt (blk_lt (g := gb167) (o := .cells #[.int .i64 a0_0, .slice (some ad168) l0_1.length c0_1] 70 (0, 0)) xblk) : gb167 ≠ gb169)); have NB169_167 := aM ((by rw [hg]; exact Nat.ne_of_gt (blk_lt (g := gb167) (o := .cells #[.int .i64 a0_0, .slice (some ad168) l0_1.length c0_1] 70 (0, 0)) xblk) : gb169 ≠ gb167)); replace BK167 := xbb BK167 hb; have BK169 := aM (hbox); clear hb hbox hg; have hnb20 := NB169_167.out; have hnc20 := NB167_169.out; obtain ⟨hcz21_0, hcz21_1, hcz21_2, hfz21_0, hfz21_1, hfz21_2⟩ := xf3 (w := w19) BK169))
           have n0_ : Aside0 ((((w19.setCell ⟨gb169, 0, none⟩ (.int .i64 ((rd_T134 l0_1 x8_1).f0))).setCell ⟨gb169, 1, none⟩ (.string ((rd_T134 l0_1 x8_1).f1))).setCell ⟨gb169, 2, none⟩ (.string ((rd_T134 l0_1 x8_1).f2))).heap[gb167]? = some (.cells #[.int .i64 a0_0, .slice (some ad168) l0_1.length c0_1] 70 (0, 0))) := ⟨by (with_reducible repeat (first | refine blk_drewN ?_ _ | refine blk_drew ?_ | refine blk_alloc ?_ _)); refine blk_far ?_ NB167_169.out _; (with_reducible repeat (first | refine blk_drewN ?_ _ | refine blk_drew ?_ | refine blk_alloc ?_ _)); refine blk_far ?_ NB167_169.out _; (with_reducible repeat (first | refine blk_drewN ?_ _ | refine blk_drew ?_ | refine blk_alloc ?_ _)); refine blk_far ?_ NB167_169.out _; (with_reducible repeat (first | refine blk_drewN ?_ _ | refine blk_drew ?_ | refine blk_alloc ?_ _)); exact BK167.out⟩; have n1_ : Aside0 ((((w19.setCell ⟨gb169, 0, none⟩ (.int .i64 ((rd_T134 l0_1 x8_1).f0))).setCell ⟨gb169, 1, none⟩ (.string ((rd_T134 l0_1 x8_1).f1))).setCell ⟨gb169, 2, none⟩ (.string ((rd_T134 l0_1 x8_1).f2))).heap[gb169]? = some (.cells #[.int .i64 ((rd_T134 l0_1 x8_1).f0), .string ((rd_T134 l0_1 x8_1).f1), .string ((rd_T134 l0_1 x8_1).f2)] 134 (0, 0))) := ⟨by (with_reducible repeat (first | refine blk_drewN ?_ _ | refine blk_drew ?_ | refine blk_alloc ?_ _)); refine blk_put (cs := #[.int .i64 ((rd_T134 l0_1 x8_1).f0), .string ((rd_T134 l0_1 x8_1).f1), .string (⟨#[]⟩ : ByteArray)]) ?_ 2 _ rfl; (with_reducible repeat (first | refine blk_drewN ?_ _ | refine blk_drew ?_ | refine blk_alloc ?_ _)); refine blk_put (cs := #[.int .i64 ((rd_T134 l0_1 x8_1).f0), .string (⟨#[]⟩ : ByteArray), .string (⟨#[]⟩ : ByteArray)]) ?_ 1 _ rfl; (with_reducible repeat (first | refine blk_drewN ?_ _ | refine blk_drew ?_ | refine blk_alloc ?_ _)); refine blk_put (cs := #[.int .i64 0, .string (⟨#[]⟩ : ByteArray), .string (⟨#[]⟩ : ByteArray)]) ?_ 0 _ rfl; (with_reducible repeat (first | refine blk_drewN ?_ _ | refine blk_drew ?_ | refine blk_alloc ?_ _)); exact BK169.out⟩
           have n2_ : Aside0 (Below w.heap.size w (((w19.setCell ⟨gb169, 0, none⟩ (.int .i64 ((rd_T134 l0_1 x8_1).f0))).setCell ⟨gb169, 1, none⟩ (.string ((rd_T134 l0_1 x8_1).f1))).setCell ⟨gb169, 2, none⟩ (.string ((rd_T134 l0_1 x8_1).f2)))) := ⟨xbg⟩
           (try clear BK167); (try clear BK169); (try clear HB)
           generalize (((w19.setCell ⟨gb169, 0, none⟩ (.int .i64 ((rd_T134 l0_1 x8_1).f0))).setCell ⟨gb169, 1, none⟩ (.string ((rd_T134 l0_1 x8_1).f1))).setCell ⟨gb169, 2, none⟩ (.string ((rd_T134 l0_1 x8_1).f2))) = w22 at n0_ n1_ n2_ ⊢
           have BK167 := n0_; have BK169 := n1_; have HB := n2_; clear n0_ n1_ n2_; replace BK167 := aM (blk_drew BK167.out); replace BK169 := aM (blk_drew BK169.out); replace HB := aM (below_drew1 HB.out); have p171 : 0 ≤ ((ji10) : Int) := oda; have q171 : (ji10) < (l0_1.length : Int) := oda
           obtain ⟨ad171, e171, hx171_0, hx171_1, hx171_2⟩ := at_T134 HR0_1.out (ji10) p171 q171
           have hw171_2 := hx171_2; have hw171_1 := hx171_1; have hw171_0 := hx171_0
           obtain rfl : ad168 = ad171 := (by injection e171)
           replace hx171_0 := xce HB hx171_0; replace hx171_1 := xce HB hx171_1; replace hx171_2 := xce HB hx171_2; replace p171 := eq_true p171; replace q171 := eq_true q171
           refine start_ (n := 20) (S := fun w' => w'.cell? ⟨gb169, 0, none⟩ = some (.int .i64 ((rd_T134 l0_1 x8_1).f0)) ∧ w'.cell? ⟨gb169, 1, none⟩ = some (.string ((rd_T134 l0_1 x8_1).f1)) ∧ w'.cell? ⟨gb169, 2, none⟩ = some (.string ((rd_T134 l0_1 x8_1).f2)) ∧ w'.cell? ⟨gb167, 0, none⟩ = some (.int .i64 a0_0) ∧ w'.cell? ⟨gb167, 1, none⟩ = some (.slice (some ad168) l0_1.length c0_1) ∧ w'.cell? (ad168.add (((ji10)).toNat * 3)) = some (.int .i64 ((rd_T134 l0_1 (ji10)).f0)) ∧ w'.cell? ⟨(ad168.add (((ji10)).toNat * 3)).block, (ad168.add (((ji10)).toNat * 3)).off + 1, none⟩ = some (.string ((rd_T134 l0_1 (ji10)).f1)) ∧ w'.cell? ⟨(ad168.add (((ji10)).toNat * 3)).block, (ad168.add (((ji10)).toNat * 3)).off + 2, none⟩ = some (.string ((rd_T134 l0_1 (ji10)).f2))) (ds := []) #[false, false, false, false, false, false, false, false, false, false, false, false, false, false, false, false, false, false, false, false] (by kernel_rfl) rfl rfl ⟨xc BK169 0 rfl, xc BK169 1 rfl, xc BK169 2 rfl, xc BK167 0 rfl, xc BK167 1 rfl, (xce HB hw171_0), (xce HB hw171_1), (xce HB hw171_2)⟩ (fun hHeld => ?_); refine with_tabW impl_DiskOk.tab4 impl_DiskOk.bits4 (fun HT_ HW_ => ?_)
           generalize w22.drew = w23 at BK167 BK169 HB hx171_0 hx171_1 hx171_2 hHeld ⊢
           refine pv_ 0 13 (h := ?_)
           refine tk_ 1 14 (h := ?_)
           refine on_ 2 15 (h := fun K hK => ?_)
           refine goesY Try.func113 #[.int .i64 ((rd_T134 l0_1 x8_1).f0)] ?_
           with_reducible refine (impl_isFile.calls ((rd_T134 l0_1 x8_1).f0) true _ A7.out).mono ?_
           rintro e w' ⟨rfl, ⟨nd, rfl⟩⟩
           refine ⟨_, rfl, ?_⟩
           refine hK.out _ _ ⟨xc BK169 0 rfl, xc BK169 1 rfl, xc BK169 2 rfl, xc BK167 0 rfl, xc BK167 1 rfl, (xce HB hw171_0), (xce HB hw171_1), (xce HB hw171_2)⟩ (fun hHeld => ?_)
           clear hK K
           refine norm_ (a' := ?_) ?_ ?_
           rotate_left
           ·show Act.put _ (some 15) _ = _
            simp only [Act.put, List.setIfInBounds_toArray, List.set_cons_zero, List.set_cons_succ, i64_w, i32_w]
            rfl
           refine pv_ 3 16 (h := ?_)
           refine pv_ 4 17 (h := ?_)
           refine pv_ 5 18 (h := ?_)
           refine pv_ 6 19 (h := ?_)
           refine pv_ 7 20 (h := ?_)
           refine pv_ 8 21 (h := ?_)
           refine pv_ 10 23 (h := ?_)
           refine pv_ 11 24 (h := ?_)
           refine pv_ 15 28 (h := ?_)
           refine tk_ 9 22 (h := ?_)
           refine pv_ 12 25 (h := ?_)
           refine pv_ 13 26 (h := ?_)
           refine tk_ 14 27 (h := ?_)
           refine tk_ 16 29 (h := ?_)
           refine pv_ 17 30 (h := ?_)
           refine pv_ 18 31 (h := ?_)
           refine pv_ 19 32 (h := ?_)
           refine done_ (done_of HT_.out (by kernel_rfl)) ?_
           try go_wp2
           go_roundg k1
           case measure => have := HK1.out; omega
           case rel => exact ⟨(wrap64 (x8_1 + 1)), (by first | rfl | (simp; done) | (simp [*]; done)), H', ⟨by have := HK1.out; omega⟩, ⟨xblk⟩, ⟨xbg⟩⟩
         ·rw [if_neg c12] at H
          exact absurd H (by simp)
        ·rw [if_neg c11] at H
         exact absurd H (by simp)
       ·rw [if_neg c9] at H
        have c9b0 : decide (0 < x8_1) = false := decide_eq_false c9; clear c9
        have H' := aM H
        clear H; have p168 : 0 ≤ (x8_1 : Int) := oda; have q168 : x8_1 < (l0_1.length : Int) := oda
        obtain ⟨ad168, e168, hx168_0, hx168_1, hx168_2⟩ := at_T134 HR0_1.out x8_1 p168 q168
        cases e168
        replace hx168_0 := xce HB hx168_0; replace hx168_1 := xce HB hx168_1; replace hx168_2 := xce HB hx168_2; replace p168 := eq_true p168; replace q168 := eq_true q168
        try go_wp2_with (first | ((with_reducible refine gate_dst (N := 4) rfl ?_); refine box_event ?hg (N := 4) ?hd (cs := #[.int .i64 0, .string (⟨#[]⟩ : ByteArray), .string (⟨#[]⟩ : ByteArray)]) (t := 134) ?hr ?_; (case hd => rfl); (case hg => rfl); (case hr => first | (go_simp; done) | (go_simp; rfl)); intro gb169 hg w24 hbox hb; have GW169 := aM (xge hg); have GE169 := aM (xge hg); replace HB := xbs hb; have NB167_169 := aM ((by rw [hg]; exact Nat.ne_of_lt (blk_lt (g := gb167) (o := .cells #[.int .i64 a0_0, .slice (some ad168) l0_1.length c0_1] 70 (0, 0)) xblk) : gb167 ≠ gb169)); have NB169_167 := aM ((by rw [hg]; exact Nat.ne_of_gt (blk_lt (g := gb167) (o := .cells #[.int .i64 a0_0, .slice (some ad168) l0_1.length c0_1] 70 (0, 0)) xblk) : gb169 ≠ gb167)); replace BK167 := xbb BK167 hb; have BK169 := aM (hbox); clear hb hbox hg; have hnb25 := NB169_167.out; have hnc25 := NB167_169.out; obtain ⟨hcz26_0, hcz26_1, hcz26_2, hfz26_0, hfz26_1, hfz26_2⟩ := xf3 (w := w24) BK169))
        have n0_ : Aside0 ((((w24.setCell ⟨gb169, 0, none⟩ (.int .i64 ((rd_T134 l0_1 x8_1).f0))).setCell ⟨gb169, 1, none⟩ (.string ((rd_T134 l0_1 x8_1).f1))).setCell ⟨gb169, 2, none⟩ (.string ((rd_T134 l0_1 x8_1).f2))).heap[gb167]? = some (.cells #[.int .i64 a0_0, .slice (some ad168) l0_1.length c0_1] 70 (0, 0))) := ⟨by (with_reducible repeat (first | refine blk_drewN ?_ _ | refine blk_drew ?_ | refine blk_alloc ?_ _)); refine blk_far ?_ NB167_169.out _; (with_reducible repeat (first | refine blk_drewN ?_ _ | refine blk_drew ?_ | refine blk_alloc ?_ _)); refine blk_far ?_ NB167_169.out _; (with_reducible repeat (first | refine blk_drewN ?_ _ | refine blk_drew ?_ | refine blk_alloc ?_ _)); refine blk_far ?_ NB167_169.out _; (with_reducible repeat (first | refine blk_drewN ?_ _ | refine blk_drew ?_ | refine blk_alloc ?_ _)); exact BK167.out⟩; have n1_ : Aside0 ((((w24.setCell ⟨gb169, 0, none⟩ (.int .i64 ((rd_T134 l0_1 x8_1).f0))).setCell ⟨gb169, 1, none⟩ (.string ((rd_T134 l0_1 x8_1).f1))).setCell ⟨gb169, 2, none⟩ (.string ((rd_T134 l0_1 x8_1).f2))).heap[gb169]? = some (.cells #[.int .i64 ((rd_T134 l0_1 x8_1).f0), .string ((rd_T134 l0_1 x8_1).f1), .string ((rd_T134 l0_1 x8_1).f2)] 134 (0, 0))) := ⟨by (with_reducible repeat (first | refine blk_drewN ?_ _ | refine blk_drew ?_ | refine blk_alloc ?_ _)); refine blk_put (cs := #[.int .i64 ((rd_T134 l0_1 x8_1).f0), .string ((rd_T134 l0_1 x8_1).f1), .string (⟨#[]⟩ : ByteArray)]) ?_ 2 _ rfl; (with_reducible repeat (first | refine blk_drewN ?_ _ | refine blk_drew ?_ | refine blk_alloc ?_ _)); refine blk_put (cs := #[.int .i64 ((rd_T134 l0_1 x8_1).f0), .string (⟨#[]⟩ : ByteArray), .string (⟨#[]⟩ : ByteArray)]) ?_ 1 _ rfl; (with_reducible repeat (first | refine blk_drewN ?_ _ | refine blk_drew ?_ | refine blk_alloc ?_ _)); refine blk_put (cs := #[.int .i64 0, .string (⟨#[]⟩ : ByteArray), .string (⟨#[]⟩ : ByteArray)]) ?_ 0 _ rfl; (with_reducible repeat (first | refine blk_drewN ?_ _ | refine blk_drew ?_ | refine blk_alloc ?_ _)); exact BK169.out⟩
        have n2_ : Aside0 (Below w.heap.size w (((w24.setCell ⟨gb169, 0, none⟩ (.int .i64 ((rd_T134 l0_1 x8_1).f0))).setCell ⟨gb169, 1, none⟩ (.string ((rd_T134 l0_1 x8_1).f1))).setCell ⟨gb169, 2, none⟩ (.string ((rd_T134 l0_1 x8_1).f2)))) := ⟨xbg⟩
        (try clear BK167); (try clear BK169); (try clear HB)
        generalize (((w24.setCell ⟨gb169, 0, none⟩ (.int .i64 ((rd_T134 l0_1 x8_1).f0))).setCell ⟨gb169, 1, none⟩ (.string ((rd_T134 l0_1 x8_1).f1))).setCell ⟨gb169, 2, none⟩ (.string ((rd_T134 l0_1 x8_1).f2))) = w27 at n0_ n1_ n2_ ⊢
        have BK167 := n0_; have BK169 := n1_; have HB := n2_; clear n0_ n1_ n2_; replace BK167 := aM (blk_drew BK167.out); replace BK169 := aM (blk_drew BK169.out); replace HB := aM (below_drew1 HB.out)
        refine start_ (n := 20) (S := fun w' => w'.cell? ⟨gb169, 0, none⟩ = some (.int .i64 ((rd_T134 l0_1 x8_1).f0)) ∧ w'.cell? ⟨gb169, 1, none⟩ = some (.string ((rd_T134 l0_1 x8_1).f1)) ∧ w'.cell? ⟨gb169, 2, none⟩ = some (.string ((rd_T134 l0_1 x8_1).f2))) (ds := []) #[false, false, false, false, false, false, false, false, false, false, false, false, false, false, false, false, false, false, false, false] (by kernel_rfl) rfl rfl ⟨xc BK169 0 rfl, xc BK169 1 rfl, xc BK169 2 rfl⟩ (fun hHeld => ?_); refine with_tabW impl_DiskOk.tab4 impl_DiskOk.bits4 (fun HT_ HW_ => ?_)
        generalize w27.drew = w28 at BK167 BK169 HB hHeld ⊢
        refine pv_ 0 13 (h := ?_)
        refine tk_ 1 14 (h := ?_)
        refine on_ 2 15 (h := fun K hK => ?_)
        refine goesY Try.func113 #[.int .i64 ((rd_T134 l0_1 x8_1).f0)] ?_
        with_reducible refine (impl_isFile.calls ((rd_T134 l0_1 x8_1).f0) true _ A7.out).mono ?_
        rintro e w' ⟨rfl, ⟨nd, rfl⟩⟩
        refine ⟨_, rfl, ?_⟩
        refine hK.out _ _ ⟨xc BK169 0 rfl, xc BK169 1 rfl, xc BK169 2 rfl⟩ (fun hHeld => ?_)
        clear hK K
        refine norm_ (a' := ?_) ?_ ?_
        rotate_left
        ·show Act.put _ (some 15) _ = _
         simp only [Act.put, List.setIfInBounds_toArray, List.set_cons_zero, List.set_cons_succ, i64_w, i32_w]
         rfl
        refine pv_ 3 16 (h := ?_)
        refine pv_ 4 17 (h := ?_)
        refine pv_ 5 18 (h := ?_)
        refine pv_ 6 19 (h := ?_)
        refine pv_ 7 20 (h := ?_)
        refine pu_ 8 21 (h := ?_)
        refine pu_ 9 22 (h := ?_)
        refine pu_ 10 23 (h := ?_)
        refine pu_ 11 24 (h := ?_)
        refine pu_ 12 25 (h := ?_)
        refine pu_ 13 26 (h := ?_)
        refine pu_ 14 27 (h := ?_)
        refine pu_ 15 28 (h := ?_)
        refine pu_ 16 29 (h := ?_)
        refine pu_ 17 30 (h := ?_)
        refine pv_ 18 31 (h := ?_)
        refine pv_ 19 32 (h := ?_)
        refine done_ (done_of HT_.out (by kernel_rfl)) ?_
        try go_wp2
        go_roundg k1
        case measure => have := HK1.out; omega
        case rel => exact ⟨(wrap64 (x8_1 + 1)), (by first | rfl | (simp; done) | (simp [*]; done)), H', ⟨by have := HK1.out; omega⟩, ⟨xblk⟩, ⟨xbg⟩⟩
      ·replace c8 := Bool.eq_false_iff.mpr c8
       subst c8
       have H1 : (some false) = some r := by rw [if_neg (show ¬ (false = true) by decide)] at H; exact H
       clear H; have H := H1; clear H1
       obtain rfl := Option.some.inj H
       have p168 : 0 ≤ (x8_1 : Int) := oda; have q168 : x8_1 < (l0_1.length : Int) := oda
       obtain ⟨ad168, e168, hx168_0, hx168_1, hx168_2⟩ := at_T134 HR0_1.out x8_1 p168 q168
       cases e168
       replace hx168_0 := xce HB hx168_0; replace hx168_1 := xce HB hx168_1; replace hx168_2 := xce HB hx168_2; replace p168 := eq_true p168; replace q168 := eq_true q168
       try go_wp2_with (first | ((with_reducible refine gate_dst (N := 4) rfl ?_); refine box_event ?hg (N := 4) ?hd (cs := #[.int .i64 0, .string (⟨#[]⟩ : ByteArray), .string (⟨#[]⟩ : ByteArray)]) (t := 134) ?hr ?_; (case hd => rfl); (case hg => rfl); (case hr => first | (go_simp; done) | (go_simp; rfl)); intro gb169 hg w29 hbox hb; have GW169 := aM (xge hg); have GE169 := aM (xge hg); replace HB := xbs hb; have NB167_169 := aM ((by rw [hg]; exact Nat.ne_of_lt (blk_lt (g := gb167) (o := .cells #[.int .i64 a0_0, .slice (some ad168) l0_1.length c0_1] 70 (0, 0)) xblk) : gb167 ≠ gb169)); have NB169_167 := aM ((by rw [hg]; exact Nat.ne_of_gt (blk_lt (g := gb167) (o := .cells #[.int .i64 a0_0, .slice (some ad168) l0_1.length c0_1] 70 (0, 0)) xblk) : gb169 ≠ gb167)); replace BK167 := xbb BK167 hb; have BK169 := aM (hbox); clear hb hbox hg; have hnb30 := NB169_167.out; have hnc30 := NB167_169.out; obtain ⟨hcz31_0, hcz31_1, hcz31_2, hfz31_0, hfz31_1, hfz31_2⟩ := xf3 (w := w29) BK169))
       have n0_ : Aside0 ((((w29.setCell ⟨gb169, 0, none⟩ (.int .i64 ((rd_T134 l0_1 x8_1).f0))).setCell ⟨gb169, 1, none⟩ (.string ((rd_T134 l0_1 x8_1).f1))).setCell ⟨gb169, 2, none⟩ (.string ((rd_T134 l0_1 x8_1).f2))).heap[gb167]? = some (.cells #[.int .i64 a0_0, .slice (some ad168) l0_1.length c0_1] 70 (0, 0))) := ⟨by (with_reducible repeat (first | refine blk_drewN ?_ _ | refine blk_drew ?_ | refine blk_alloc ?_ _)); refine blk_far ?_ NB167_169.out _; (with_reducible repeat (first | refine blk_drewN ?_ _ | refine blk_drew ?_ | refine blk_alloc ?_ _)); refine blk_far ?_ NB167_169.out _; (with_reducible repeat (first | refine blk_drewN ?_ _ | refine blk_drew ?_ | refine blk_alloc ?_ _)); refine blk_far ?_ NB167_169.out _; (with_reducible repeat (first | refine blk_drewN ?_ _ | refine blk_drew ?_ | refine blk_alloc ?_ _)); exact BK167.out⟩; have n1_ : Aside0 ((((w29.setCell ⟨gb169, 0, none⟩ (.int .i64 ((rd_T134 l0_1 x8_1).f0))).setCell ⟨gb169, 1, none⟩ (.string ((rd_T134 l0_1 x8_1).f1))).setCell ⟨gb169, 2, none⟩ (.string ((rd_T134 l0_1 x8_1).f2))).heap[gb169]? = some (.cells #[.int .i64 ((rd_T134 l0_1 x8_1).f0), .string ((rd_T134 l0_1 x8_1).f1), .string ((rd_T134 l0_1 x8_1).f2)] 134 (0, 0))) := ⟨by (with_reducible repeat (first | refine blk_drewN ?_ _ | refine blk_drew ?_ | refine blk_alloc ?_ _)); refine blk_put (cs := #[.int .i64 ((rd_T134 l0_1 x8_1).f0), .string ((rd_T134 l0_1 x8_1).f1), .string (⟨#[]⟩ : ByteArray)]) ?_ 2 _ rfl; (with_reducible repeat (first | refine blk_drewN ?_ _ | refine blk_drew ?_ | refine blk_alloc ?_ _)); refine blk_put (cs := #[.int .i64 ((rd_T134 l0_1 x8_1).f0), .string (⟨#[]⟩ : ByteArray), .string (⟨#[]⟩ : ByteArray)]) ?_ 1 _ rfl; (with_reducible repeat (first | refine blk_drewN ?_ _ | refine blk_drew ?_ | refine blk_alloc ?_ _)); refine blk_put (cs := #[.int .i64 0, .string (⟨#[]⟩ : ByteArray), .string (⟨#[]⟩ : ByteArray)]) ?_ 0 _ rfl; (with_reducible repeat (first | refine blk_drewN ?_ _ | refine blk_drew ?_ | refine blk_alloc ?_ _)); exact BK169.out⟩
       have n2_ : Aside0 (Below w.heap.size w (((w29.setCell ⟨gb169, 0, none⟩ (.int .i64 ((rd_T134 l0_1 x8_1).f0))).setCell ⟨gb169, 1, none⟩ (.string ((rd_T134 l0_1 x8_1).f1))).setCell ⟨gb169, 2, none⟩ (.string ((rd_T134 l0_1 x8_1).f2)))) := ⟨xbg⟩
       (try clear BK167); (try clear BK169); (try clear HB)
       generalize (((w29.setCell ⟨gb169, 0, none⟩ (.int .i64 ((rd_T134 l0_1 x8_1).f0))).setCell ⟨gb169, 1, none⟩ (.string ((rd_T134 l0_1 x8_1).f1))).setCell ⟨gb169, 2, none⟩ (.string ((rd_T134 l0_1 x8_1).f2))) = w32 at n0_ n1_ n2_ ⊢
       have BK167 := n0_; have BK169 := n1_; have HB := n2_; clear n0_ n1_ n2_; replace BK167 := aM (blk_drew BK167.out); replace BK169 := aM (blk_drew BK169.out); replace HB := aM (below_drew1 HB.out)
       refine start_ (n := 20) (S := fun w' => w'.cell? ⟨gb169, 0, none⟩ = some (.int .i64 ((rd_T134 l0_1 x8_1).f0)) ∧ w'.cell? ⟨gb169, 1, none⟩ = some (.string ((rd_T134 l0_1 x8_1).f1)) ∧ w'.cell? ⟨gb169, 2, none⟩ = some (.string ((rd_T134 l0_1 x8_1).f2))) (ds := []) #[false, false, false, false, false, false, false, false, false, false, false, false, false, false, false, false, false, false, false, false] (by kernel_rfl) rfl rfl ⟨xc BK169 0 rfl, xc BK169 1 rfl, xc BK169 2 rfl⟩ (fun hHeld => ?_); refine with_tabW impl_DiskOk.tab4 impl_DiskOk.bits4 (fun HT_ HW_ => ?_)
       generalize w32.drew = w33 at BK167 BK169 HB hHeld ⊢
       refine pv_ 0 13 (h := ?_)
       refine tk_ 1 14 (h := ?_)
       refine on_ 2 15 (h := fun K hK => ?_)
       refine goesY Try.func113 #[.int .i64 ((rd_T134 l0_1 x8_1).f0)] ?_
       with_reducible refine (impl_isFile.calls ((rd_T134 l0_1 x8_1).f0) false _ A7.out).mono ?_
       rintro e w' ⟨rfl, ⟨nd, rfl⟩⟩
       refine ⟨_, rfl, ?_⟩
       refine hK.out _ _ ⟨xc BK169 0 rfl, xc BK169 1 rfl, xc BK169 2 rfl⟩ (fun hHeld => ?_)
       clear hK K
       refine norm_ (a' := ?_) ?_ ?_
       rotate_left
       ·show Act.put _ (some 15) _ = _
        simp only [Act.put, List.setIfInBounds_toArray, List.set_cons_zero, List.set_cons_succ, i64_w, i32_w]
        rfl
       refine pv_ 3 16 (h := ?_)
       refine pv_ 4 17 (h := ?_)
       refine pu_ 5 18 (h := ?_)
       refine pu_ 6 19 (h := ?_)
       refine pu_ 7 20 (h := ?_)
       refine pu_ 8 21 (h := ?_)
       refine pu_ 9 22 (h := ?_)
       refine pu_ 10 23 (h := ?_)
       refine pu_ 11 24 (h := ?_)
       refine pu_ 12 25 (h := ?_)
       refine pu_ 13 26 (h := ?_)
       refine pu_ 14 27 (h := ?_)
       refine pu_ 15 28 (h := ?_)
       refine pu_ 16 29 (h := ?_)
       refine pu_ 17 30 (h := ?_)
       refine pu_ 18 31 (h := ?_)
       refine pv_ 19 32 (h := ?_)
       refine done_ (done_of HT_.out (by kernel_rfl)) ?_
       try go_wp2
       go_ret
       exact ⟨by first | rfl | (simp [errW_none, errW_some] <;> rfl) | (simp [*, errW_none, errW_some] <;> rfl), xbg⟩
     ·rw [if_neg c6] at H
      exact absurd H (by simp)
    ·rw [if_neg c5] at H
     exact absurd H (by simp)
   ·rw [if_neg c4] at H
    have c4b0 : decide (x8_1 < (l0_1.length : Int)) = false := decide_eq_false c4; clear c4; replace H := Option.bind_eq_some_iff.mp H
    obtain ⟨t172, A340, H⟩ := H
    replace H : (if t172 = true then ((impl_sizeOf.f k1 a0_0 l0_1).bind fun t173 => (some (decide (t173 ≤ a0_0)))) else (some false)) = some r := H; have A34 := aM A340; clear A340
    by_cases c35 : t172 = true
    ·subst c35
     have H1 : ((impl_sizeOf.f k1 a0_0 l0_1).bind fun t173 => (some (decide (t173 ≤ a0_0)))) = some r := by rw [if_pos rfl] at H; exact H
     clear H; have H := H1; clear H1; replace H := Option.bind_eq_some_iff.mp H
     obtain ⟨t173, A360, H⟩ := H
     replace H : (some (decide (t173 ≤ a0_0))) = some r := H; have A36 := aM A360; clear A360
     obtain rfl := Option.some.inj H
     try go_wp2
     replace BK167 := aM (blk_drew BK167.out); replace HB := aM (below_drew1 HB.out)
     refine start_ (n := 11) (S := fun w' => w'.cell? ⟨gb167, 0, none⟩ = some (.int .i64 a0_0) ∧ w'.cell? ⟨gb167, 1, none⟩ = some (.slice A0_1 l0_1.length c0_1)) (ds := []) #[false, false, false, false, false, false, false, false, false, false, false] (by kernel_rfl) rfl rfl ⟨xc BK167 0 rfl, xc BK167 1 rfl⟩ (fun hHeld => ?_); refine with_tabW impl_DiskOk.tab7 impl_DiskOk.bits7 (fun HT_ HW_ => ?_)
     generalize wr.drew = w37 at BK167 HB hHeld ⊢
     refine pv_ 0 34 (h := ?_)
     refine tk_ 1 35 (h := ?_)
     refine on_ 2 36 (h := fun K hK => ?_)
     refine goesY Try.func81 #[.int .i64 a0_0, .int .i64 0, .int .i64 40000] ?_
     with_reducible refine (impl_within.calls a0_0 0 40000 true _ A34.out).mono ?_
     rintro e w' ⟨rfl, ⟨nd, rfl⟩⟩
     refine ⟨_, rfl, ?_⟩
     refine hK.out _ _ ⟨xc BK167 0 rfl, xc BK167 1 rfl⟩ (fun hHeld => ?_)
     clear hK K
     refine norm_ (a' := ?_) ?_ ?_
     rotate_left
     ·show Act.put _ (some 36) _ = _
      simp only [Act.put, List.setIfInBounds_toArray, List.set_cons_zero, List.set_cons_succ, i64_w, i32_w]
      rfl
     refine pv_ 3 37 (h := ?_)
     refine pv_ 6 40 (h := ?_)
     refine tk_ 4 38 (h := ?_)
     refine tk_ 7 41 (h := ?_)
     refine on_ 5 39 (h := fun K hK => ?_)
     refine goesY Try.func114 #[.agg #[.int .i64 a0_0, .slice A0_1 l0_1.length c0_1]] ?_
     with_reducible refine (impl_sizeOf.calls k1 a0_0 _ _ l0_1 t173 _ ?side1 ?side2 A36.out).mono ?_
     (case side1 => repeat (first | exact (Kd.C_below HR0_1.out xbg) | (with_reducible refine Kd.C_alloc ?_ _) | (with_reducible refine Kd.C_drewN ?_ _) | (with_reducible refine Kd.C_drew ?_)))
     (case side2 => exact HC0_1.out)
     rintro e w38 ⟨rfl, hb⟩
     refine ⟨_, rfl, ?_⟩
     replace BK167 := xbb BK167 hb; replace HB := xbs hb
     (try clear hb); (try clear hb2); (try clear hk); (try clear hi)
     refine hK.out _ _ ⟨xc BK167 0 rfl, xc BK167 1 rfl⟩ (fun hHeld => ?_)
     clear hK K
     refine norm_ (a' := ?_) ?_ ?_
     rotate_left
     ·show Act.put _ (some 39) _ = _
      simp only [Act.put, List.setIfInBounds_toArray, List.set_cons_zero, List.set_cons_succ, i64_w, i32_w]
      rfl
     refine pv_ 8 42 (h := ?_)
     refine pv_ 9 43 (h := ?_)
     refine pv_ 10 2 (h := ?_)
     refine done_ (done_of HT_.out (by kernel_rfl)) ?_
     try go_wp2
     go_ret
     exact ⟨by first | rfl | (simp [errW_none, errW_some] <;> rfl) | (simp [*, errW_none, errW_some] <;> rfl), xbg⟩
    ·replace c35 := Bool.eq_false_iff.mpr c35
     subst c35
     have H1 : (some false) = some r := by rw [if_neg (show ¬ (false = true) by decide)] at H; exact H
     clear H; have H := H1; clear H1
     obtain rfl := Option.some.inj H
     try go_wp2
     replace BK167 := aM (blk_drew BK167.out); replace HB := aM (below_drew1 HB.out)
     refine start_ (n := 11) (S := fun w' => w'.cell? ⟨gb167, 0, none⟩ = some (.int .i64 a0_0) ∧ w'.cell? ⟨gb167, 1, none⟩ = some (.slice A0_1 l0_1.length c0_1)) (ds := []) #[false, false, false, false, false, false, false, false, false, false, false] (by kernel_rfl) rfl rfl ⟨xc BK167 0 rfl, xc BK167 1 rfl⟩ (fun hHeld => ?_); refine with_tabW impl_DiskOk.tab7 impl_DiskOk.bits7 (fun HT_ HW_ => ?_)
     generalize wr.drew = w39 at BK167 HB hHeld ⊢
     refine pv_ 0 34 (h := ?_)
     refine tk_ 1 35 (h := ?_)
     refine on_ 2 36 (h := fun K hK => ?_)
     refine goesY Try.func81 #[.int .i64 a0_0, .int .i64 0, .int .i64 40000] ?_
     with_reducible refine (impl_within.calls a0_0 0 40000 false _ A34.out).mono ?_
     rintro e w' ⟨rfl, ⟨nd, rfl⟩⟩
     refine ⟨_, rfl, ?_⟩
     refine hK.out _ _ ⟨xc BK167 0 rfl, xc BK167 1 rfl⟩ (fun hHeld => ?_)
     clear hK K
     refine norm_ (a' := ?_) ?_ ?_
     rotate_left
     ·show Act.put _ (some 36) _ = _
      simp only [Act.put, List.setIfInBounds_toArray, List.set_cons_zero, List.set_cons_succ, i64_w, i32_w]
      rfl
     refine pv_ 3 37 (h := ?_)
     refine pu_ 4 38 (h := ?_)
     refine pu_ 5 39 (h := ?_)
     refine pu_ 6 40 (h := ?_)
     refine pu_ 7 41 (h := ?_)
     refine pu_ 8 42 (h := ?_)
     refine pv_ 9 43 (h := ?_)
     refine pv_ 10 2 (h := ?_)
     refine done_ (done_of HT_.out (by kernel_rfl)) ?_
     try go_wp2
     go_ret
     exact ⟨by first | rfl | (simp [errW_none, errW_some] <;> rfl) | (simp [*, errW_none, errW_some] <;> rfl), xbg⟩

end Go.Proofs.Ytnjpfllmcmomoaa.QFnFiles
