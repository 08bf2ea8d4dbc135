-- A walk, by a program of this session.
import Derived.Test.YtnjpfllmcmomoaaQFnExactDiskMovex0
import Derived.Test.YtnjpfllmcmomoaaQFnExactDiskMovex2
import Derived.Test.YtnjpfllmcmomoaaQFnExactDiskMovex3
import Derived.Test.YtnjpfllmcmomoaaQFnExactDiskMovex4
namespace Go.Proofs.Ytnjpfllmcmomoaa.QFnExactDiskMove
open Go.RowKit Go.Proofs.YtnjpfllmcmomoaaW.PrintWords Go.Proofs.YtnjpfllmcmomoaaW.PrintLast Go.Proofs.YtnjpfllmcmomoaaW.PrintMore
attribute [local go_sem] max2_int min2_int max_two min_two max_three min_three max_four min_four   -- for this text's walks alone
set_option linter.unusedVariables false
set_option linter.unusedSimpArgs false

/-! ### spec_DiskMove: function 44 -/
mutual
def spec_DiskMove.j0 : Nat → Int → Int → Bool → Int → List (S134) → Option (Int × (List (S134)) × Int)
 | 0, _, _, _, _, _ => none
 | k + 1, x1, x2, x29, x192000, x192001 => if x29 = true then (some (0, ([] : List (S134)), 1)) else ((spec_l3Find.f k x192000 x192001 x1).bind fun t196 => (if t196 < 0 then ((spec_l3Copy.f x192000 x192001).bind fun bt197 => (some (bt197.1, bt197.2, 2))) else (if 0 ≤ t196 then (if t196 < (x192001.length : Int) then (spec_DiskMove.l0 k t196 0 x192000 x192001 x2 ((rd_T134 x192001 t196).f1) ((rd_T134 x192001 t196).f2) x192000 ([] : List (S134))) else (none)) else (none))))
def spec_DiskMove.l0 : Nat → Int → Int → Int → List (S134) → Int → ByteArray → ByteArray → Int → List (S134) → Option (Int × (List (S134)) × Int)
 | 0, _, _, _, _, _, _, _, _, _ => none
 | k + 1, x8, x11, x192000, x192001, x203000, x203001, x203002, x204000, x204001 => if x11 < (x192001.length : Int) then (if x11 = x8 then (spec_DiskMove.l0 k x8 (wrap64 (x11 + 1)) x192000 x192001 x203000 x203001 x203002 x204000 x204001) else (if 0 ≤ x11 then (if x204001.length < 3518437208883 then (spec_DiskMove.l0 k x8 (wrap64 (x11 + 1)) x192000 x192001 x203000 x203001 x203002 x204000 (x204001 ++ [(⟨(rd_T134 x192001 x11).f0, (rd_T134 x192001 x11).f1, (rd_T134 x192001 x11).f2⟩ : S134)])) else (none)) else (none))) else ((spec_l3Put.f k x204000 x204001 x203000 x203001 x203002).bind fun bt208 => (some (bt208.1, bt208.2, 0)))
end
def spec_DiskMove.f (k : Nat) (a0_0 : Int) (l0_1 : List (S134)) (a1 : Int) (a2 : Int) : Option (Int × (List (S134)) × Int) := (spec_DiskOk.f k a0_0 l0_1).bind fun t193 => (if t193 = true then ((spec_l3Name.f a1).bind fun t194 => (if t194 = true then ((spec_l3Name.f a2).bind fun t195 => (if t195 = true then (spec_DiskMove.j0 k a1 a2 (a1 == a2) a0_0 l0_1) else (spec_DiskMove.j0 k a1 a2 true a0_0 l0_1))) else (spec_DiskMove.j0 k a1 a2 true a0_0 l0_1))) else (spec_DiskMove.j0 k a1 a2 true a0_0 l0_1))
set_option maxRecDepth 100000 in
theorem spec_DiskMove.mono_l : ∀ k, (∀ y0 y1 y2 y3 y4, LeO (spec_DiskMove.j0 k y0 y1 y2 y3 y4) (spec_DiskMove.j0 (k + 1) y0 y1 y2 y3 y4)) ∧ (∀ y0 y1 y2 y3 y4 y5 y6 y7 y8, LeO (spec_DiskMove.l0 k y0 y1 y2 y3 y4 y5 y6 y7 y8) (spec_DiskMove.l0 (k + 1) y0 y1 y2 y3 y4 y5 y6 y7 y8))
 | 0 => ⟨fun _ _ _ _ _ r h => by simp [spec_DiskMove.j0] at h, fun _ _ _ _ _ _ _ _ _ r h => by simp [spec_DiskMove.l0] at h⟩
 | k + 1 => by
  obtain ⟨ih0, ih1⟩ := spec_DiskMove.mono_l k
  refine ⟨?_, ?_⟩
  ·intro y0 y1 y2 y3 y4
   unfold spec_DiskMove.j0
   repeat' first
   | (with_reducible exact ih0 _ _ _ _ _)
   | (with_reducible exact ih1 _ _ _ _ _ _ _ _ _)
   | (with_reducible exact spec_DiskOk.mono _ _ _)
   | (with_reducible exact spec_l3Find.mono _ _ _ _)
   | (with_reducible exact spec_l3Put.mono _ _ _ _ _ _)
   | (with_reducible exact LeO.refl _)
   | (with_reducible exact LeO.none _)
   | (with_reducible refine LeO.ite ?_ ?_)
   | (with_reducible refine LeO.bind ?_ (fun _ => ?_))
   | exact ih0 _ _ _ _ _
   | exact ih1 _ _ _ _ _ _ _ _ _
   | exact spec_DiskOk.mono _ _ _
   | exact spec_l3Find.mono _ _ _ _
   | exact spec_l3Put.mono _ _ _ _ _ _
   | exact LeO.none _
   | refine LeO.ite ?_ ?_
   | refine LeO.bind ?_ (fun _ => ?_)
  ·intro y0 y1 y2 y3 y4 y5 y6 y7 y8
   unfold spec_DiskMove.l0
   repeat' first
   | (with_reducible exact ih0 _ _ _ _ _)
   | (with_reducible exact ih1 _ _ _ _ _ _ _ _ _)
   | (with_reducible exact spec_DiskOk.mono _ _ _)
   | (with_reducible exact spec_l3Find.mono _ _ _ _)
   | (with_reducible exact spec_l3Put.mono _ _ _ _ _ _)
   | (with_reducible exact LeO.refl _)
   | (with_reducible exact LeO.none _)
   | (with_reducible refine LeO.ite ?_ ?_)
   | (with_reducible refine LeO.bind ?_ (fun _ => ?_))
   | exact ih0 _ _ _ _ _
   | exact ih1 _ _ _ _ _ _ _ _ _
   | exact spec_DiskOk.mono _ _ _
   | exact spec_l3Find.mono _ _ _ _
   | exact spec_l3Put.mono _ _ _ _ _ _
   | exact LeO.none _
   | refine LeO.ite ?_ ?_
   | refine LeO.bind ?_ (fun _ => ?_)
theorem spec_DiskMove.mono : ∀ a0 a1 a2 a3 k, LeO (spec_DiskMove.f k a0 a1 a2 a3) (spec_DiskMove.f (k + 1) a0 a1 a2 a3) := by
 intro a0 a1 a2 a3 k
 obtain ⟨ih0, ih1⟩ := spec_DiskMove.mono_l k
 unfold spec_DiskMove.f
 repeat' first
  | (with_reducible exact ih0 _ _ _ _ _)
  | (with_reducible exact ih1 _ _ _ _ _ _ _ _ _)
  | (with_reducible exact spec_DiskOk.mono _ _ _)
  | (with_reducible exact spec_l3Find.mono _ _ _ _)
  | (with_reducible exact spec_l3Put.mono _ _ _ _ _ _)
  | (with_reducible exact LeO.refl _)
  | (with_reducible exact LeO.none _)
  | (with_reducible refine LeO.ite ?_ ?_)
  | (with_reducible refine LeO.bind ?_ (fun _ => ?_))
  | exact ih0 _ _ _ _ _
  | exact ih1 _ _ _ _ _ _ _ _ _
  | exact spec_DiskOk.mono _ _ _
  | exact spec_l3Find.mono _ _ _ _
  | exact spec_l3Put.mono _ _ _ _ _ _
  | exact LeO.none _
  | refine LeO.ite ?_ ?_
  | refine LeO.bind ?_ (fun _ => ?_)
def spec_DiskMove.T13 : Bool × List (List Nat × List Nat) := (true, [([], []), ([0], [0]), ([], []), ([2], [2]), ([], []), ([3, 4], [3, 4]), ([5], [5]), ([6], [6]), ([1, 7], [1, 7]), ([0, 1, 2, 3, 4, 5, 6, 7, 8], []), ([9, 8, 8, 0, 1, 2, 3, 4, 5, 6, 7, 8], [8, 9])])
def spec_DiskMove.B13 : List Nat := [0, 1, 0, 4, 0, 28, 60, 124, 255, 511, 1023]
theorem spec_DiskMove.tab13 : rtab .any (opsOf Try.f44 13) = spec_DiskMove.T13 := by kernel_rfl
theorem spec_DiskMove.bits13 : waitsOk spec_DiskMove.T13.2 spec_DiskMove.B13 = true := by kernel_rfl
set_option maxHeartbeats 8000000 in
set_option maxRecDepth 100000 in
theorem spec_DiskMove.calls (k : Nat) (a0_0 : Int) (A0_1 : Option Addr) (c0_1 : Nat) (l0_1 : List (S134)) (a1 : Int) (a2 : Int) (r1 : Int) (r2 : List (S134)) (r3 : Int) (w : World) (hr0_1 : Kd.C k134 w A0_1 l0_1.length l0_1) (hc0_1 : l0_1.length ≤ c0_1) (h : spec_DiskMove.f k a0_0 l0_1 a1 a2 = some (r1, r2, r3)) :
 Calls Try.prog 44 #[.agg #[.int .i64 a0_0, .slice A0_1 l0_1.length c0_1], .int .i64 a1, .int .i64 a2] w fun e w' => ∃ v1_ : Value, e = .returned (.tuple #[.agg #[.int .i64 r1, v1_], .int .i64 r3]) ∧ Kd.R k134 134 w' w.heap.size (fun _ => True) v1_ r2 ∧ Below w.heap.size w w' := by
 have hu70 := Try.underlying70
 have hu134 := Try.underlying134
 have HR0_1 := aM hr0_1
 have HC0_1 := aM hc0_1
 clear hr0_1 hc0_1
 have HB := aM (Below.refl w.heap.size w)
 have H : ((spec_DiskOk.f k a0_0 l0_1).bind fun t193 => (if t193 = true then ((spec_l3Name.f a1).bind fun t194 => (if t194 = true then ((spec_l3Name.f a2).bind fun t195 => (if t195 = true then (spec_DiskMove.j0 k a1 a2 (a1 == a2) a0_0 l0_1) else (spec_DiskMove.j0 k a1 a2 true a0_0 l0_1))) else (spec_DiskMove.j0 k a1 a2 true a0_0 l0_1))) else (spec_DiskMove.j0 k a1 a2 true a0_0 l0_1))) = some (r1, r2, r3) := h
 clear h
 have HC4 := aM H
 clear H
 go_enter Try.func44, Try.ntmps44
 go_upto_region 1 with (first | ((with_reducible refine gate_dst (N := 3) rfl ?_); refine box_event ?hg (N := 3) ?hd (cs := #[.int .i64 a0_0, .slice A0_1 l0_1.length c0_1]) (t := 70) ?hr ?_; (case hd => rfl); (case hg => rfl); (case hr => first | (go_simp; done) | (go_simp; rfl)); intro gb191 hg w5 hbox hb; have BK191 := aM (hbox); have GW191 := aM (xge hg); have GE191 := aM (xge hg); replace HB := xbs hb; clear hb hbox hg) | ((with_reducible refine gate_dst (N := 6) rfl ?_); refine box_event ?hg (N := 6) ?hd (cs := #[.int .i64 0, .slice none 0 0]) (t := 70) ?hr ?_; (case hd => rfl); (case hg => rfl); (case hr => first | (go_simp; done) | (go_simp; rfl)); intro gb192 hg w6 hbox hb; have GW192 := aM (xge hg); have GE192 := aM (xge hg); replace HB := xbs hb; have NB191_192 := aM ((by rw [hg]; exact Nat.ne_of_lt (blk_lt (g := gb191) (o := .cells #[.int .i64 a0_0, .slice A0_1 l0_1.length c0_1] 70 (0, 0)) xblk) : gb191 ≠ gb192)); have NB192_191 := aM ((by rw [hg]; exact Nat.ne_of_gt (blk_lt (g := gb191) (o := .cells #[.int .i64 a0_0, .slice A0_1 l0_1.length c0_1] 70 (0, 0)) xblk) : gb192 ≠ gb191)); replace BK191 := xbb BK191 hb; have BK192 := aM (hbox); clear hb hbox hg))
 (try simp only [Act.put, List.setIfInBounds_toArray, List.set_cons_zero, List.set_cons_succ])
 go_cut [29] (fun v29 wc => ∃ (kq : Nat) (x29_3 : Bool), v29 = .bool x29_3 ∧ Aside0 (spec_DiskMove.j0 kq a1 a2 x29_3 a0_0 l0_1 = some (r1, r2, r3)) ∧ Aside0 (kq ≤ k) ∧ Aside0 (wc.heap[gb191]? = some (.cells #[.int .i64 a0_0, (.slice A0_1 l0_1.length c0_1)] 70 (0, 0))) ∧ Aside0 (wc.heap[gb192]? = some (.cells #[.int .i64 0, (.slice none 0 0)] 70 (0, 0))) ∧ Aside0 (Below w.heap.size w wc))
 case first =>
  have H := HC4.out; clear HC4; replace H := Option.bind_eq_some_iff.mp H
  obtain ⟨t193, A70, H⟩ := H
  replace H : (if t193 = true then ((spec_l3Name.f a1).bind fun t194 => (if t194 = true then ((spec_l3Name.f a2).bind fun t195 => (if t195 = true then (spec_DiskMove.j0 k a1 a2 (a1 == a2) a0_0 l0_1) else (spec_DiskMove.j0 k a1 a2 true a0_0 l0_1))) else (spec_DiskMove.j0 k a1 a2 true a0_0 l0_1))) else (spec_DiskMove.j0 k a1 a2 true a0_0 l0_1)) = some (r1, r2, r3) := H; have A7 := aM A70; clear A70
  by_cases c8 : t193 = true
  ·subst c8
   have H1 : ((spec_l3Name.f a1).bind fun t194 => (if t194 = true then ((spec_l3Name.f a2).bind fun t195 => (if t195 = true then (spec_DiskMove.j0 k a1 a2 (a1 == a2) a0_0 l0_1) else (spec_DiskMove.j0 k a1 a2 true a0_0 l0_1))) else (spec_DiskMove.j0 k a1 a2 true a0_0 l0_1))) = some (r1, r2, r3) := by rw [if_pos rfl] at H; exact H
   clear H; have H := H1; clear H1; replace H := Option.bind_eq_some_iff.mp H
   obtain ⟨t194, A90, H⟩ := H
   replace H : (if t194 = true then ((spec_l3Name.f a2).bind fun t195 => (if t195 = true then (spec_DiskMove.j0 k a1 a2 (a1 == a2) a0_0 l0_1) else (spec_DiskMove.j0 k a1 a2 true a0_0 l0_1))) else (spec_DiskMove.j0 k a1 a2 true a0_0 l0_1)) = some (r1, r2, r3) := H; have A9 := aM A90; clear A90
   by_cases c10 : t194 = true
   ·subst c10
    have H1 : ((spec_l3Name.f a2).bind fun t195 => (if t195 = true then (spec_DiskMove.j0 k a1 a2 (a1 == a2) a0_0 l0_1) else (spec_DiskMove.j0 k a1 a2 true a0_0 l0_1))) = some (r1, r2, r3) := by rw [if_pos rfl] at H; exact H
    clear H; have H := H1; clear H1; replace H := Option.bind_eq_some_iff.mp H
    obtain ⟨t195, A110, H⟩ := H
    replace H : (if t195 = true then (spec_DiskMove.j0 k a1 a2 (a1 == a2) a0_0 l0_1) else (spec_DiskMove.j0 k a1 a2 true a0_0 l0_1)) = some (r1, r2, r3) := H; have A11 := aM A110; clear A110
    by_cases c12 : t195 = true
    ·subst c12
     have H1 : (spec_DiskMove.j0 k a1 a2 (a1 == a2) a0_0 l0_1) = some (r1, r2, r3) := by rw [if_pos rfl] at H; exact H
     clear H; have H := H1; clear H1
     have H' := aM H
     clear H; have hnb13 := NB191_192.out; have hnc13 := NB192_191.out; obtain ⟨hcz14_0, hcz14_1, hfz14_0, hfz14_1⟩ := xf2 (w := w6) BK191
     go_wp2_with (first | ((with_reducible refine gate_callee (f := 106) rfl ?_); refine goesL_ (some 13) rfl rfl Try.func106 (by kernel_rfl) rfl #[.agg #[.int .i64 a0_0, .slice A0_1 l0_1.length c0_1]] rfl (by (try simp only [List.map_toArray, List.map_cons, List.map_nil]); first | done | rfl | (simp only [List.length_drop, List.length_take]; rfl)) ?_; (with_reducible refine (spec_DiskOk.calls k a0_0 _ _ l0_1 true _ ?side1 ?side2 A7.out).mono ?_); (case side1 => exact xcb HR0_1); (case side2 => exact HC0_1.out); rintro e w15 ⟨rfl, hb⟩; refine ⟨_, rfl, ?_⟩; replace BK191 := xbb BK191 hb; replace BK192 := xbb BK192 hb; replace HB := xbs hb; (try clear hb); (try clear hb2); (try clear hk); (try clear hi)) | (go_at_call 107; (with_reducible refine (spec_l3Name.calls a1 true _ A9.out).mono ?_); rintro e w' ⟨rfl, ⟨nd, rfl⟩⟩) | (go_at_call 107; (with_reducible refine (spec_l3Name.calls a2 true _ A11.out).mono ?_); rintro e w' ⟨rfl, ⟨nd, rfl⟩⟩))
     go_meet
     case rel => exact ⟨_, ((a1 == a2)), (by first | rfl | (simp; done) | (simp [*]; done)), H', ⟨by first | omega | exact Nat.le_refl _⟩, ⟨xblk⟩, ⟨xblk⟩, ⟨xbg⟩⟩
    ·replace c12 := Bool.eq_false_iff.mpr c12
     subst c12
     have H1 : (spec_DiskMove.j0 k a1 a2 true a0_0 l0_1) = some (r1, r2, r3) := by rw [if_neg (show ¬ (false = true) by decide)] at H; exact H
     clear H; have H := H1; clear H1
     have H' := aM H
     clear H; have hnb16 := NB191_192.out; have hnc16 := NB192_191.out; obtain ⟨hcz17_0, hcz17_1, hfz17_0, hfz17_1⟩ := xf2 (w := w6) BK191
     go_wp2_with (first | ((with_reducible refine gate_callee (f := 106) rfl ?_); refine goesL_ (some 13) rfl rfl Try.func106 (by kernel_rfl) rfl #[.agg #[.int .i64 a0_0, .slice A0_1 l0_1.length c0_1]] rfl (by (try simp only [List.map_toArray, List.map_cons, List.map_nil]); first | done | rfl | (simp only [List.length_drop, List.length_take]; rfl)) ?_; (with_reducible refine (spec_DiskOk.calls k a0_0 _ _ l0_1 true _ ?side1 ?side2 A7.out).mono ?_); (case side1 => exact xcb HR0_1); (case side2 => exact HC0_1.out); rintro e w18 ⟨rfl, hb⟩; refine ⟨_, rfl, ?_⟩; replace BK191 := xbb BK191 hb; replace BK192 := xbb BK192 hb; replace HB := xbs hb; (try clear hb); (try clear hb2); (try clear hk); (try clear hi)) | (go_at_call 107; (with_reducible refine (spec_l3Name.calls a1 true _ A9.out).mono ?_); rintro e w' ⟨rfl, ⟨nd, rfl⟩⟩) | (go_at_call 107; (with_reducible refine (spec_l3Name.calls a2 false _ A11.out).mono ?_); rintro e w' ⟨rfl, ⟨nd, rfl⟩⟩))
     go_meet
     case rel => exact ⟨_, (true), (by first | rfl | (simp; done) | (simp [*]; done)), H', ⟨by first | omega | exact Nat.le_refl _⟩, ⟨xblk⟩, ⟨xblk⟩, ⟨xbg⟩⟩
   ·replace c10 := Bool.eq_false_iff.mpr c10
    subst c10
    have H1 : (spec_DiskMove.j0 k a1 a2 true a0_0 l0_1) = some (r1, r2, r3) := by rw [if_neg (show ¬ (false = true) by decide)] at H; exact H
    clear H; have H := H1; clear H1
    have H' := aM H
    clear H; have hnb19 := NB191_192.out; have hnc19 := NB192_191.out; obtain ⟨hcz20_0, hcz20_1, hfz20_0, hfz20_1⟩ := xf2 (w := w6) BK191
    go_wp2_with (first | ((with_reducible refine gate_callee (f := 106) rfl ?_); refine goesL_ (some 13) rfl rfl Try.func106 (by kernel_rfl) rfl #[.agg #[.int .i64 a0_0, .slice A0_1 l0_1.length c0_1]] rfl (by (try simp only [List.map_toArray, List.map_cons, List.map_nil]); first | done | rfl | (simp only [List.length_drop, List.length_take]; rfl)) ?_; (with_reducible refine (spec_DiskOk.calls k a0_0 _ _ l0_1 true _ ?side1 ?side2 A7.out).mono ?_); (case side1 => exact xcb HR0_1); (case side2 => exact HC0_1.out); rintro e w21 ⟨rfl, hb⟩; refine ⟨_, rfl, ?_⟩; replace BK191 := xbb BK191 hb; replace BK192 := xbb BK192 hb; replace HB := xbs hb; (try clear hb); (try clear hb2); (try clear hk); (try clear hi)) | (go_at_call 107; (with_reducible refine (spec_l3Name.calls a1 false _ A9.out).mono ?_); rintro e w' ⟨rfl, ⟨nd, rfl⟩⟩))
    go_meet
    case rel => exact ⟨_, (true), (by first | rfl | (simp; done) | (simp [*]; done)), H', ⟨by first | omega | exact Nat.le_refl _⟩, ⟨xblk⟩, ⟨xblk⟩, ⟨xbg⟩⟩
  ·replace c8 := Bool.eq_false_iff.mpr c8
   subst c8
   have H1 : (spec_DiskMove.j0 k a1 a2 true a0_0 l0_1) = some (r1, r2, r3) := by rw [if_neg (show ¬ (false = true) by decide)] at H; exact H
   clear H; have H := H1; clear H1
   have H' := aM H
   clear H; have hnb22 := NB191_192.out; have hnc22 := NB192_191.out; obtain ⟨hcz23_0, hcz23_1, hfz23_0, hfz23_1⟩ := xf2 (w := w6) BK191
   go_wp2_with (first | ((with_reducible refine gate_callee (f := 106) rfl ?_); refine goesL_ (some 13) rfl rfl Try.func106 (by kernel_rfl) rfl #[.agg #[.int .i64 a0_0, .slice A0_1 l0_1.length c0_1]] rfl (by (try simp only [List.map_toArray, List.map_cons, List.map_nil]); first | done | rfl | (simp only [List.length_drop, List.length_take]; rfl)) ?_; (with_reducible refine (spec_DiskOk.calls k a0_0 _ _ l0_1 false _ ?side1 ?side2 A7.out).mono ?_); (case side1 => exact xcb HR0_1); (case side2 => exact HC0_1.out); rintro e w24 ⟨rfl, hb⟩; refine ⟨_, rfl, ?_⟩; replace BK191 := xbb BK191 hb; replace BK192 := xbb BK192 hb; replace HB := xbs hb; (try clear hb); (try clear hb2); (try clear hk); (try clear hi)))
   go_meet
   case rel => exact ⟨_, (true), (by first | rfl | (simp; done) | (simp [*]; done)), H', ⟨by first | omega | exact Nat.le_refl _⟩, ⟨xblk⟩, ⟨xblk⟩, ⟨xbg⟩⟩
 case rest =>
  clear HC4
  try clear c1
  try clear c2
  try clear p2
  try clear c4
  try clear c8
  try clear c10
  try clear c12
  try clear c13
  try clear c16
  try clear c19
  try clear c22
  try clear hcz14_0
  try clear hcz14_1
  try clear hcz17_0
  try clear hcz17_1
  try clear hcz20_0
  try clear hcz20_1
  try clear hcz23_0
  try clear hcz23_1
  try clear hfz14_0
  try clear hfz14_1
  try clear hfz17_0
  try clear hfz17_1
  try clear hfz20_0
  try clear hfz20_1
  try clear hfz23_0
  try clear hfz23_1
  obtain ⟨kq, x29_3, rfl, HA, HJ3, BK191, BK192, HB⟩ := hcut
  cases kq with
  | zero => exact absurd HA.out (by simp [spec_DiskMove.j0])
  | succ kj3 =>
   have H := HA.out; clear HA
   simp only [spec_DiskMove.j0] at H
   by_cases c25 : x29_3 = true
   ·subst c25
    have H1 : (some (0, ([] : List (S134)), 1)) = some (r1, r2, r3) := by rw [if_pos rfl] at H; exact H
    clear H; have H := H1; clear H1
    simp only [Option.some.injEq, Prod.mk.injEq] at H
    obtain ⟨rfl, rfl, rfl⟩ := H
    have hnb26 := NB192_191.out; have hnc26 := NB191_192.out; obtain ⟨hcz27_0, hcz27_1, hfz27_0, hfz27_1⟩ := xf2 (w := wc) BK192
    go_wp2
    refine bodyPost_ret (results_ct rfl _ _ gb192 70 #[.int .i64 0, .slice none 0 0] (0, 0) _ rfl (by (with_reducible repeat (first | refine blk_drewN ?_ _ | refine blk_drew ?_ | refine blk_alloc ?_ _)); refine blk_put (cs := #[.int .i64 0, .slice none 0 0]) ?_ 1 _ rfl; (with_reducible repeat (first | refine blk_drewN ?_ _ | refine blk_drew ?_ | refine blk_alloc ?_ _)); refine blk_put (cs := #[.int .i64 0, .slice none 0 0]) ?_ 0 _ rfl; (with_reducible repeat (first | refine blk_drewN ?_ _ | refine blk_drew ?_ | refine blk_alloc ?_ _)); exact BK192.out) Try.underlying70 rfl (by kernel_rfl)) rfl ?_
    exact ⟨_, by first | rfl | (simp [errW_none, errW_some] <;> rfl) | (simp [*, errW_none, errW_some] <;> rfl), by first | exact Kd.R_nil _ _ _ _ _ | exact Kd.N_nil _ _ _ _ _ | exact Kd.V_nil _ _ _ _ _ | exact Kd.Q_nil _ _ _ _ _ | exact Kd.S_nil _ _ _ _ _, xbg⟩
   ·replace c25 := Bool.eq_false_iff.mpr c25
    subst c25
    have H1 : ((spec_l3Find.f kj3 a0_0 l0_1 a1).bind fun t196 => (if t196 < 0 then ((spec_l3Copy.f a0_0 l0_1).bind fun bt197 => (some (bt197.1, bt197.2, 2))) else (if 0 ≤ t196 then (if t196 < (l0_1.length : Int) then (spec_DiskMove.l0 kj3 t196 0 a0_0 l0_1 a2 ((rd_T134 l0_1 t196).f1) ((rd_T134 l0_1 t196).f2) a0_0 ([] : List (S134))) else (none)) else (none)))) = some (r1, r2, r3) := by rw [if_neg (show ¬ (false = true) by decide)] at H; exact H
    clear H; have H := H1; clear H1; replace H := Option.bind_eq_some_iff.mp H
    obtain ⟨t196, A280, H⟩ := H
    replace H : (if t196 < 0 then ((spec_l3Copy.f a0_0 l0_1).bind fun bt197 => (some (bt197.1, bt197.2, 2))) else (if 0 ≤ t196 then (if t196 < (l0_1.length : Int) then (spec_DiskMove.l0 kj3 t196 0 a0_0 l0_1 a2 ((rd_T134 l0_1 t196).f1) ((rd_T134 l0_1 t196).f2) a0_0 ([] : List (S134))) else (none)) else (none))) = some (r1, r2, r3) := H; have A28 := aM A280; clear A280
    by_cases c29 : t196 < 0
    ·rw [if_pos c29] at H
     have c29b0 : decide (t196 < 0) = true := decide_eq_true c29; clear c29; replace H := Option.bind_eq_some_iff.mp H
     obtain ⟨⟨t197, t198⟩, A300, H⟩ := H
     replace H : (some (t197, t198, 2)) = some (r1, r2, r3) := H; have A30 := aM A300; clear A300
     simp only [Option.some.injEq, Prod.mk.injEq] at H
     obtain ⟨rfl, rfl, rfl⟩ := H
     have hnb31 := NB191_192.out; have hnc31 := NB192_191.out; obtain ⟨hcz32_0, hcz32_1, hfz32_0, hfz32_1⟩ := xf2 (w := wc) BK191
     go_wp2_with (first | ((with_reducible refine gate_callee (f := 110) rfl ?_); refine goesL_ (some 33) rfl rfl Try.func110 (by kernel_rfl) rfl #[.agg #[.int .i64 a0_0, .slice A0_1 l0_1.length c0_1], .int .i64 a1] rfl (by (try simp only [List.map_toArray, List.map_cons, List.map_nil]); first | done | rfl | (simp only [List.length_drop, List.length_take]; rfl)) ?_; (with_reducible refine (spec_l3Find.calls kj3 a0_0 _ _ l0_1 a1 t196 _ ?side1 ?side2 A28.out).mono ?_); (case side1 => exact xcb HR0_1); (case side2 => exact HC0_1.out); rintro e w33 ⟨rfl, hb⟩; refine ⟨_, rfl, ?_⟩; replace BK191 := xbb BK191 hb; replace BK192 := xbb BK192 hb; replace HB := xbs hb; (try clear hb); (try clear hb2); (try clear hk); (try clear hi); obtain ⟨hcz34_0, hcz34_1, hfz34_0, hfz34_1⟩ := xf2 (w := w33) BK191) | ((with_reducible refine gate_callee (f := 109) rfl ?_); refine goesL_ (some 37) rfl rfl Try.func109 (by kernel_rfl) rfl #[.agg #[.int .i64 a0_0, .slice A0_1 l0_1.length c0_1]] rfl (by (try simp only [List.map_toArray, List.map_cons, List.map_nil]); first | done | rfl | (simp only [List.length_drop, List.length_take]; rfl)) ?_; (with_reducible refine (spec_l3Copy.calls a0_0 _ _ l0_1 t197 t198 _ ?side1 ?side2 A30.out).mono ?_); (case side1 => exact xcb HR0_1); (case side2 => exact HC0_1.out); rintro e w35 ⟨v199, rfl, ho0, hb⟩; refine ⟨_, rfl, ?_⟩; have HO200 := aM (Kd.R_lower ho0 (below_size xbg)); replace BK191 := xbb BK191 hb; replace BK192 := xbb BK192 hb; replace HB := xbs hb; (try clear hb); (try clear hb2); (try clear hk); (try clear hi); (try clear ho0); obtain ⟨hcz36_0, hcz36_1, hfz36_0, hfz36_1⟩ := xf2 (w := w35) BK192; obtain ⟨Ao37, co37, eo37⟩ := Kd.R_slice HO200.out; subst eo37))
     refine bodyPost_ret (results_ct rfl _ _ gb192 70 #[.int .i64 t197, .slice Ao37 t198.length co37] (0, 0) _ rfl (by (with_reducible repeat (first | refine blk_drewN ?_ _ | refine blk_drew ?_ | refine blk_alloc ?_ _)); refine blk_put (cs := #[.int .i64 t197, .slice none 0 0]) ?_ 1 _ rfl; (with_reducible repeat (first | refine blk_drewN ?_ _ | refine blk_drew ?_ | refine blk_alloc ?_ _)); refine blk_put (cs := #[.int .i64 0, .slice none 0 0]) ?_ 0 _ rfl; (with_reducible repeat (first | refine blk_drewN ?_ _ | refine blk_drew ?_ | refine blk_alloc ?_ _)); exact BK192.out) Try.underlying70 rfl (by kernel_rfl)) rfl ?_
     exact ⟨_, by first | rfl | (simp [errW_none, errW_some] <;> rfl) | (simp [*, errW_none, errW_some] <;> rfl), by (with_reducible repeat (first | apply Kd.R_alloc | apply Kd.R_drewN | apply Kd.R_drew)); exact Kd.R_mono (Kd.R_far (p := ⟨gb192, 1, none⟩) (Kd.R_far (p := ⟨gb192, 0, none⟩) (Kd.R_types HO200.out BK192.out (by decide)) (fun _ hk => hk.2) (.int .i64 t197)) (fun _ hk => hk.2) (.slice Ao37 t198.length co37)) (fun _ hk => trivial), xbg⟩
    ·rw [if_neg c29] at H
     have c29b0 : decide (t196 < 0) = false := decide_eq_false c29; clear c29
     by_cases c38 : 0 ≤ t196
     ·rw [if_pos c38] at H
      have c38b0 : decide (0 ≤ t196) = true := decide_eq_true c38; clear c38
      by_cases c39 : t196 < (l0_1.length : Int)
      ·rw [if_pos c39] at H
       have c39b0 : decide (t196 < (l0_1.length : Int)) = true := decide_eq_true c39; clear c39
       have H' := aM H
       clear H; have hnb40 := NB191_192.out; have hnc40 := NB192_191.out; obtain ⟨hcz41_0, hcz41_1, hfz41_0, hfz41_1⟩ := xf2 (w := wc) BK191
       go_wp2_with (first | ((with_reducible refine gate_callee (f := 110) rfl ?_); refine goesL_ (some 33) rfl rfl Try.func110 (by kernel_rfl) rfl #[.agg #[.int .i64 a0_0, .slice A0_1 l0_1.length c0_1], .int .i64 a1] rfl (by (try simp only [List.map_toArray, List.map_cons, List.map_nil]); first | done | rfl | (simp only [List.length_drop, List.length_take]; rfl)) ?_; (with_reducible refine (spec_l3Find.calls kj3 a0_0 _ _ l0_1 a1 t196 _ ?side1 ?side2 A28.out).mono ?_); (case side1 => exact xcb HR0_1); (case side2 => exact HC0_1.out); rintro e w42 ⟨rfl, hb⟩; refine ⟨_, rfl, ?_⟩; replace BK191 := xbb BK191 hb; replace BK192 := xbb BK192 hb; replace HB := xbs hb; (try clear hb); (try clear hb2); (try clear hk); (try clear hi); obtain ⟨hcz43_0, hcz43_1, hfz43_0, hfz43_1⟩ := xf2 (w := w42) BK191; have p201 : 0 ≤ (t196 : Int) := oda; have q201 : t196 < (l0_1.length : Int) := oda; obtain ⟨ad201, e201, hx201_0, hx201_1, hx201_2⟩ := at_T134 HR0_1.out t196 p201 q201; cases e201; replace hx201_0 := xce HB hx201_0; replace hx201_1 := xce HB hx201_1; replace hx201_2 := xce HB hx201_2; replace p201 := eq_true p201; replace q201 := eq_true q201) | ((with_reducible refine gate_dst (N := 9) rfl ?_); refine box_event ?hg (N := 9) ?hd (cs := #[.int .i64 0, .string (⟨#[]⟩ : ByteArray), .string (⟨#[]⟩ : ByteArray)]) (t := 134) ?hr ?_; (case hd => rfl); (case hg => rfl); (case hr => first | (go_simp; done) | (go_simp; rfl)); intro gb202 hg w44 hbox hb; have GW202 := aM (xge hg); have GE202 := aM (xge hg); replace HB := xbs hb; have NB191_202 := aM ((by rw [hg]; exact Nat.ne_of_lt (blk_lt (g := gb191) (o := .cells #[.int .i64 a0_0, .slice (some ad201) l0_1.length c0_1] 70 (0, 0)) xblk) : gb191 ≠ gb202)); have NB202_191 := aM ((by rw [hg]; exact Nat.ne_of_gt (blk_lt (g := gb191) (o := .cells #[.int .i64 a0_0, .slice (some ad201) l0_1.length c0_1] 70 (0, 0)) xblk) : gb202 ≠ gb191)); have NB192_202 := aM ((by rw [hg]; exact Nat.ne_of_lt (blk_lt (g := gb192) (o := .cells #[.int .i64 0, .slice none 0 0] 70 (0, 0)) xblk) : gb192 ≠ gb202)); have NB202_192 := aM ((by rw [hg]; exact Nat.ne_of_gt (blk_lt (g := gb192) (o := .cells #[.int .i64 0, .slice none 0 0] 70 (0, 0)) xblk) : gb202 ≠ gb192)); replace BK191 := xbb BK191 hb; replace BK192 := xbb BK192 hb; have BK202 := aM (hbox); clear hb hbox hg; have hnb45 := NB202_191.out; have hnc45 := NB191_202.out; have hnb46 := NB202_192.out; have hnc46 := NB192_202.out; obtain ⟨hcz47_0, hcz47_1, hcz47_2, hfz47_0, hfz47_1, hfz47_2⟩ := xf3 (w := w44) BK202) | ((with_reducible refine gate_store (t := 3) (p := 44) rfl ?_); refine store_event (t := 3) (p := 44) (v := ?vo_w48) (w1 := ((((w44.setCell ⟨gb202, 0, none⟩ (.int .i64 ((rd_T134 l0_1 t196).f0))).setCell ⟨gb202, 1, none⟩ (.string ((rd_T134 l0_1 t196).f1))).setCell ⟨gb202, 2, none⟩ (.string ((rd_T134 l0_1 t196).f2))).setCell ⟨gb202, 0, none⟩ (.int .i64 a2))) ?hg ?ho ?hn ?hr ?_; (case ho | hg | hn => rfl); (case hr => first | (go_simp; done) | (go_simp; rfl)); intro w48 hw; replace BK191 : Aside0 (w48.heap[gb191]? = some (.cells #[.int .i64 a0_0, .slice (some ad201) l0_1.length c0_1] 70 (0, 0))) := ⟨(by rw [hw]; exact (by (with_reducible repeat (first | refine blk_drewN ?_ _ | refine blk_drew ?_ | refine blk_alloc ?_ _)); refine blk_far ?_ NB191_202.out _; (with_reducible repeat (first | refine blk_drewN ?_ _ | refine blk_drew ?_ | refine blk_alloc ?_ _)); refine blk_far ?_ NB191_202.out _; (with_reducible repeat (first | refine blk_drewN ?_ _ | refine blk_drew ?_ | refine blk_alloc ?_ _)); refine blk_far ?_ NB191_202.out _; (with_reducible repeat (first | refine blk_drewN ?_ _ | refine blk_drew ?_ | refine blk_alloc ?_ _)); refine blk_far ?_ NB191_202.out _; (with_reducible repeat (first | refine blk_drewN ?_ _ | refine blk_drew ?_ | refine blk_alloc ?_ _)); exact BK191.out))⟩; replace BK192 : Aside0 (w48.heap[gb192]? = some (.cells #[.int .i64 0, .slice none 0 0] 70 (0, 0))) := ⟨(by rw [hw]; exact (by (with_reducible repeat (first | refine blk_drewN ?_ _ | refine blk_drew ?_ | refine blk_alloc ?_ _)); refine blk_far ?_ NB192_202.out _; (with_reducible repeat (first | refine blk_drewN ?_ _ | refine blk_drew ?_ | refine blk_alloc ?_ _)); refine blk_far ?_ NB192_202.out _; (with_reducible repeat (first | refine blk_drewN ?_ _ | refine blk_drew ?_ | refine blk_alloc ?_ _)); refine blk_far ?_ NB192_202.out _; (with_reducible repeat (first | refine blk_drewN ?_ _ | refine blk_drew ?_ | refine blk_alloc ?_ _)); refine blk_far ?_ NB192_202.out _; (with_reducible repeat (first | refine blk_drewN ?_ _ | refine blk_drew ?_ | refine blk_alloc ?_ _)); exact BK192.out))⟩; replace BK202 : Aside0 (w48.heap[gb202]? = some (.cells #[.int .i64 a2, .string ((rd_T134 l0_1 t196).f1), .string ((rd_T134 l0_1 t196).f2)] 134 (0, 0))) := ⟨(by rw [hw]; exact (by (with_reducible repeat (first | refine blk_drewN ?_ _ | refine blk_drew ?_ | refine blk_alloc ?_ _)); refine blk_put (cs := #[.int .i64 ((rd_T134 l0_1 t196).f0), .string ((rd_T134 l0_1 t196).f1), .string ((rd_T134 l0_1 t196).f2)]) ?_ 0 _ rfl; (with_reducible repeat (first | refine blk_drewN ?_ _ | refine blk_drew ?_ | refine blk_alloc ?_ _)); refine blk_put (cs := #[.int .i64 ((rd_T134 l0_1 t196).f0), .string ((rd_T134 l0_1 t196).f1), .string (⟨#[]⟩ : ByteArray)]) ?_ 2 _ rfl; (with_reducible repeat (first | refine blk_drewN ?_ _ | refine blk_drew ?_ | refine blk_alloc ?_ _)); refine blk_put (cs := #[.int .i64 ((rd_T134 l0_1 t196).f0), .string (⟨#[]⟩ : ByteArray), .string (⟨#[]⟩ : ByteArray)]) ?_ 1 _ rfl; (with_reducible repeat (first | refine blk_drewN ?_ _ | refine blk_drew ?_ | refine blk_alloc ?_ _)); refine blk_put (cs := #[.int .i64 0, .string (⟨#[]⟩ : ByteArray), .string (⟨#[]⟩ : ByteArray)]) ?_ 0 _ rfl; (with_reducible repeat (first | refine blk_drewN ?_ _ | refine blk_drew ?_ | refine blk_alloc ?_ _)); exact BK202.out))⟩; replace HB : Aside0 (Below w.heap.size w w48) := ⟨(by rw [hw]; exact xbg)⟩; clear hw; obtain ⟨hcz49_0, hcz49_1, hfz49_0, hfz49_1⟩ := xf2 (w := w48) BK191) | ((with_reducible refine gate_dst (N := 10) rfl ?_); refine box_event ?hg (N := 10) ?hd (cs := #[.int .i64 0, .slice none 0 0]) (t := 70) ?hr ?_; (case hd => rfl); (case hg => rfl); (case hr => first | (go_simp; done) | (go_simp; rfl)); intro gb203 hg w50 hbox hb; have GW203 := aM (xge hg); have GE203 := aM (xge hg); replace HB := xbs hb; have NB191_203 := aM ((by rw [hg]; exact Nat.ne_of_lt (blk_lt (g := gb191) (o := .cells #[.int .i64 a0_0, .slice (some ad201) l0_1.length c0_1] 70 (0, 0)) xblk) : gb191 ≠ gb203)); have NB203_191 := aM ((by rw [hg]; exact Nat.ne_of_gt (blk_lt (g := gb191) (o := .cells #[.int .i64 a0_0, .slice (some ad201) l0_1.length c0_1] 70 (0, 0)) xblk) : gb203 ≠ gb191)); have NB192_203 := aM ((by rw [hg]; exact Nat.ne_of_lt (blk_lt (g := gb192) (o := .cells #[.int .i64 0, .slice none 0 0] 70 (0, 0)) xblk) : gb192 ≠ gb203)); have NB203_192 := aM ((by rw [hg]; exact Nat.ne_of_gt (blk_lt (g := gb192) (o := .cells #[.int .i64 0, .slice none 0 0] 70 (0, 0)) xblk) : gb203 ≠ gb192)); have NB202_203 := aM ((by rw [hg]; exact Nat.ne_of_lt (blk_lt (g := gb202) (o := .cells #[.int .i64 a2, .string ((rd_T134 l0_1 t196).f1), .string ((rd_T134 l0_1 t196).f2)] 134 (0, 0)) xblk) : gb202 ≠ gb203)); have NB203_202 := aM ((by rw [hg]; exact Nat.ne_of_gt (blk_lt (g := gb202) (o := .cells #[.int .i64 a2, .string ((rd_T134 l0_1 t196).f1), .string ((rd_T134 l0_1 t196).f2)] 134 (0, 0)) xblk) : gb203 ≠ gb202)); replace BK191 := xbb BK191 hb; replace BK192 := xbb BK192 hb; replace BK202 := xbb BK202 hb; have BK203 := aM (hbox); clear hb hbox hg; have hnb51 := NB203_191.out; have hnc51 := NB191_203.out; have hnb52 := NB203_192.out; have hnc52 := NB192_203.out; have hnb53 := NB203_202.out; have hnc53 := NB202_203.out; obtain ⟨hcz54_0, hcz54_1, hfz54_0, hfz54_1⟩ := xf2 (w := w50) BK203))
       go_loopg [11] kj3 (fun kq v11 w' => ∃ (x11_2 : Int) (x204001_2 : List (S134)) (u204001 : Value), v11 = .int .i64 x11_2 ∧ Aside0 (spec_DiskMove.l0 kq t196 x11_2 a0_0 l0_1 a2 ((rd_T134 l0_1 t196).f1) ((rd_T134 l0_1 t196).f2) a0_0 x204001_2 = some (r1, r2, r3)) ∧ Aside0 (kq ≤ kj3) ∧ Aside0 (Kd.R k134 134 w' w.heap.size (fun k_ => k_ ≠ gb202) u204001 x204001_2) ∧ Aside0 (w'.heap[gb191]? = some (.cells #[.int .i64 a0_0, (.slice (some ad201) l0_1.length c0_1)] 70 (0, 0))) ∧ Aside0 (w'.heap[gb192]? = some (.cells #[.int .i64 0, (.slice none 0 0)] 70 (0, 0))) ∧ Aside0 (w'.heap[gb202]? = some (.cells #[.int .i64 a2, .string ((rd_T134 l0_1 t196).f1), .string ((rd_T134 l0_1 t196).f2)] 134 (0, 0))) ∧ Aside0 (w'.heap[gb203]? = some (.cells #[.int .i64 a0_0, u204001] 70 (0, 0))) ∧ Aside0 (Below w.heap.size w w'))
       case atStart => exact ⟨(0), (([] : List (S134))), (.slice none 0 0), (by first | rfl | (simp; done) | (simp [*]; done)), H', ⟨Nat.le_refl _⟩, ⟨by first | exact Kd.R_nil _ _ _ _ _ | exact Kd.N_nil _ _ _ _ _ | exact Kd.V_nil _ _ _ _ _ | exact Kd.Q_nil _ _ _ _ _ | exact Kd.S_nil _ _ _ _ _⟩, ⟨by (with_reducible repeat (first | refine blk_drewN ?_ _ | refine blk_drew ?_ | refine blk_alloc ?_ _)); refine blk_far ?_ NB191_203.out _; (with_reducible repeat (first | refine blk_drewN ?_ _ | refine blk_drew ?_ | refine blk_alloc ?_ _)); refine blk_far ?_ NB191_203.out _; (with_reducible repeat (first | refine blk_drewN ?_ _ | refine blk_drew ?_ | refine blk_alloc ?_ _)); exact BK191.out⟩, ⟨by (with_reducible repeat (first | refine blk_drewN ?_ _ | refine blk_drew ?_ | refine blk_alloc ?_ _)); refine blk_far ?_ NB192_203.out _; (with_reducible repeat (first | refine blk_drewN ?_ _ | refine blk_drew ?_ | refine blk_alloc ?_ _)); refine blk_far ?_ NB192_203.out _; (with_reducible repeat (first | refine blk_drewN ?_ _ | refine blk_drew ?_ | refine blk_alloc ?_ _)); exact BK192.out⟩, ⟨by (with_reducible repeat (first | refine blk_drewN ?_ _ | refine blk_drew ?_ | refine blk_alloc ?_ _)); refine blk_far ?_ NB202_203.out _; (with_reducible repeat (first | refine blk_drewN ?_ _ | refine blk_drew ?_ | refine blk_alloc ?_ _)); refine blk_far ?_ NB202_203.out _; (with_reducible repeat (first | refine blk_drewN ?_ _ | refine blk_drew ?_ | refine blk_alloc ?_ _)); exact BK202.out⟩, ⟨by (with_reducible repeat (first | refine blk_drewN ?_ _ | refine blk_drew ?_ | refine blk_alloc ?_ _)); refine blk_put (cs := #[.int .i64 a0_0, .slice none 0 0]) ?_ 1 _ rfl; (with_reducible repeat (first | refine blk_drewN ?_ _ | refine blk_drew ?_ | refine blk_alloc ?_ _)); refine blk_put (cs := #[.int .i64 0, .slice none 0 0]) ?_ 0 _ rfl; (with_reducible repeat (first | refine blk_drewN ?_ _ | refine blk_drew ?_ | refine blk_alloc ?_ _)); exact BK203.out⟩, ⟨xbg⟩⟩
       case round =>
        clear H'
        try clear c1
        try clear c2
        try clear p2
        try clear q2
        try clear hx2
        try clear c3
        try clear c4
        try clear c5
        try clear c8
        try clear c10
        try clear c11
        try clear c12
        try clear c13
        try clear c16
        try clear c19
        try clear p20
        try clear q20
        try clear hx20
        try clear c22
        try clear c25
        try clear c26
        try clear c29
        try clear c29b0
        try clear c31
        try clear c38
        try clear c38b0
        try clear c39
        try clear c39b0
        try clear c40
        try clear c44
        try clear c45
        try clear c46
        try clear c51
        try clear c52
        try clear c53
        try clear hcz14_0
        try clear hcz14_1
        try clear hcz17_0
        try clear hcz17_1
        try clear hcz20_0
        try clear hcz20_1
        try clear hcz23_0
        try clear hcz23_1
        try clear hcz27_0
        try clear hcz27_1
        try clear hcz32_0
        try clear hcz32_1
        try clear hcz34_0
        try clear hcz34_1
        try clear hcz36_0
        try clear hcz36_1
        try clear hcz41_0
        try clear hcz41_1
        try clear hcz43_0
        try clear hcz43_1
        try clear hcz47_0
        try clear hcz47_1
        try clear hcz47_2
        try clear hcz49_0
        try clear hcz49_1
        try clear hcz54_0
        try clear hcz54_1
        try clear hfz14_0
        try clear hfz14_1
        try clear hfz17_0
        try clear hfz17_1
        try clear hfz20_0
        try clear hfz20_1
        try clear hfz23_0
        try clear hfz23_1
        try clear hfz27_0
        try clear hfz27_1
        try clear hfz32_0
        try clear hfz32_1
        try clear hfz34_0
        try clear hfz34_1
        try clear hfz36_0
        try clear hfz36_1
        try clear hfz41_0
        try clear hfz41_1
        try clear hfz43_0
        try clear hfz43_1
        try clear hfz47_0
        try clear hfz47_1
        try clear hfz47_2
        try clear hfz49_0
        try clear hfz49_1
        try clear hfz54_0
        try clear hfz54_1
        try clear hx201_0
        try clear hx201_1
        try clear hx201_2
        try clear p2
        try clear p201
        try clear q201
        obtain ⟨x11_2, x204001_2, u204001, rfl, HA, HK2, HO_204001, BK191, BK192, BK202, BK203, HB⟩ := hrel
        cases gk with
        | zero => exact absurd HA.out (by simp [spec_DiskMove.l0])
        | succ k2 =>
         have H := HA.out; clear HA
         simp only [spec_DiskMove.l0] at H
         by_cases c55 : x11_2 < (l0_1.length : Int)
         ·rw [if_pos c55] at H
          have c55b0 : decide (x11_2 < (l0_1.length : Int)) = true := decide_eq_true c55; clear c55
          by_cases c56 : x11_2 = t196
          ·rw [if_pos c56] at H
           have c56b0 : (x11_2 == t196) = true := beq_iff_eq.mpr c56; have c56b1 : (x11_2 != t196) = false := bne_eq_false_iff_eq.mpr c56; clear c56
           have H' := aM H
           clear H; have hnb57 := NB191_192.out; have hnc57 := NB192_191.out; have hnb58 := NB191_202.out; have hnc58 := NB202_191.out; have hnb59 := NB191_203.out; have hnc59 := NB203_191.out; obtain ⟨hcz60_0, hcz60_1, hfz60_0, hfz60_1⟩ := xf2 (w := wr) BK191
           go_wp2
           go_roundg k2
           case measure => have := HJ3.out; have := HK2.out; omega
           case rel => exact ⟨(wrap64 (x11_2 + 1)), (x204001_2), (u204001), (by first | rfl | (simp; done) | (simp [*]; done)), H', ⟨by have := HJ3.out; have := HK2.out; omega⟩, ⟨by (with_reducible repeat (first | apply Kd.R_alloc | apply Kd.R_drewN | apply Kd.R_drew)); exact HO_204001.out⟩, ⟨xblk⟩, ⟨xblk⟩, ⟨xblk⟩, ⟨xblk⟩, ⟨xbg⟩⟩
          ·rw [if_neg c56] at H
           have c56b0 : (x11_2 == t196) = false := beq_eq_false_iff_ne.mpr c56; have c56b1 : (x11_2 != t196) = true := bne_iff_ne.mpr c56
           by_cases c61 : 0 ≤ x11_2
           ·rw [if_pos c61] at H
            have c61b0 : decide (0 ≤ x11_2) = true := decide_eq_true c61; clear c61
            by_cases c62 : x204001_2.length < 3518437208883
            ·rw [if_pos c62] at H
             have LMc62 := aM c62; clear c62
             obtain ⟨y205, hy205⟩ : ∃ y_ : List (S134), y_ = (x204001_2 ++ [(⟨(rd_T134 l0_1 x11_2).f0, (rd_T134 l0_1 x11_2).f1, (rd_T134 l0_1 x11_2).f2⟩ : S134)]) := ⟨_, rfl⟩
             replace H : (spec_DiskMove.l0 k2 t196 (wrap64 (x11_2 + 1)) a0_0 l0_1 a2 ((rd_T134 l0_1 t196).f1) ((rd_T134 l0_1 t196).f2) a0_0 y205) = some (r1, r2, r3) := by first | (rw [hy205]; with_reducible exact H) | (have H2_ := (Option.bind_some _ _).symm.trans H; rw [hy205]; with_reducible exact H2_) | (have H2_ := (Option.bind_some _ _).symm.trans H; with_reducible exact H2_) | with_reducible exact H | (rw [hy205]; exact H) | exact H
             have Ny205 := aM hy205; clear hy205
             have H' := aM H
             clear H; have hnb63 := NB191_192.out; have hnc63 := NB192_191.out; have hnb64 := NB191_202.out; have hnc64 := NB202_191.out; have hnb65 := NB191_203.out; have hnc65 := NB203_191.out; obtain ⟨hcz66_0, hcz66_1, hfz66_0, hfz66_1⟩ := xf2 (w := wr) BK191
             try go_wp2
             replace HO_204001 := aM (Kd.R_drew HO_204001.out); replace BK191 := aM (blk_drew BK191.out); replace BK192 := aM (blk_drew BK192.out); replace BK202 := aM (blk_drew BK202.out); replace BK203 := aM (blk_drew BK203.out); replace HB := aM (below_drew1 HB.out); have p204 : 0 ≤ (x11_2 : Int) := oda; have q204 : x11_2 < (l0_1.length : Int) := oda
             obtain ⟨ad204, e204, hx204_0, hx204_1, hx204_2⟩ := at_T134 HR0_1.out x11_2 p204 q204
             have hw204_2 := hx204_2; have hw204_1 := hx204_1; have hw204_0 := hx204_0
             obtain rfl : ad201 = ad204 := (by injection e204)
             replace hx204_0 := xce HB hx204_0; replace hx204_1 := xce HB hx204_1; replace hx204_2 := xce HB hx204_2; replace p204 := eq_true p204; replace q204 := eq_true q204
             refine start_ (n := 11) (S := fun w' => w'.cell? ⟨gb203, 0, none⟩ = some (.int .i64 a0_0) ∧ w'.cell? ⟨gb203, 1, none⟩ = some (u204001) ∧ w'.cell? ⟨gb191, 0, none⟩ = some (.int .i64 a0_0) ∧ w'.cell? ⟨gb191, 1, none⟩ = some (.slice (some ad201) l0_1.length c0_1) ∧ w'.cell? (ad201.add ((x11_2).toNat * 3)) = some (.int .i64 ((rd_T134 l0_1 x11_2).f0)) ∧ w'.cell? ⟨(ad201.add ((x11_2).toNat * 3)).block, (ad201.add ((x11_2).toNat * 3)).off + 1, none⟩ = some (.string ((rd_T134 l0_1 x11_2).f1)) ∧ w'.cell? ⟨(ad201.add ((x11_2).toNat * 3)).block, (ad201.add ((x11_2).toNat * 3)).off + 2, none⟩ = some (.string ((rd_T134 l0_1 x11_2).f2))) (ds := [10]) #[false, false, false, false, false, false, false, false, false, false, false] (by kernel_rfl) rfl rfl ⟨xc BK203 0 rfl, xc BK203 1 rfl, xc BK191 0 rfl, xc BK191 1 rfl, (xce HB hw204_0), (xce HB hw204_1), (xce HB hw204_2)⟩ (fun hHeld => ?_); refine with_tabW spec_DiskMove.tab13 spec_DiskMove.bits13 (fun HT_ HW_ => ?_)
             generalize wr.drew = w67 at HO_204001 BK191 BK192 BK202 BK203 HB hx204_0 hx204_1 hx204_2 hHeld ⊢
             refine pv_ 0 58 (h := ?_)
             refine pv_ 2 60 (h := ?_)
             refine pv_ 4 62 (h := ?_)
             refine tk_ 1 59 (h := ?_)
             refine tk_ 3 61 (h := ?_)
             refine pv_ 5 63 (h := ?_)
             refine tk_ 6 64 (h := ?_)
             refine on_ 7 65 (h := fun K hK => ?_)
             refine value_ (w1 := ?_) (v := ?_) (by rfl) rfl ?_ ?_
             rotate_left 2
             ·go_simp
              constructor
              ·rfl
              ·rfl
             refine hK.out _ _ ⟨(blk_cell (blk_alloc BK203.out _) 0).trans rfl, (blk_cell (blk_alloc BK203.out _) 1).trans rfl, (blk_cell (blk_alloc BK191.out _) 0).trans rfl, (blk_cell (blk_alloc BK191.out _) 1).trans rfl, (World.cell?_alloc_lt _ _ _ (World.block_lt_of_cell? _ _ ((xce HB hw204_0)))).trans ((xce HB hw204_0)), (World.cell?_alloc_lt _ _ _ (World.block_lt_of_cell? _ _ ((xce HB hw204_1)))).trans ((xce HB hw204_1)), (World.cell?_alloc_lt _ _ _ (World.block_lt_of_cell? _ _ ((xce HB hw204_2)))).trans ((xce HB hw204_2))⟩ (fun hHeld => ?_)
             clear hK K
             refine norm_ (a' := ?_) ?_ ?_
             rotate_left
             ·show Act.put _ (some 65) _ = _
              simp only [Act.put, List.setIfInBounds_toArray, List.set_cons_zero, List.set_cons_succ, i64_w, i32_w]
              rfl
             refine on_ 8 66 (h := fun K hK => ?_)
             refine Kd.R_append_step k134 (w0 := w) w.heap.size (by rfl) (.tmp 59) (.tmp 65) 68 134 (.agg #[(.int .i64 0), (.string ⟨#[]⟩), (.string ⟨#[]⟩)]) 40 rfl Try.underlying68 info134 rfl (by decide) (by omega) u204001 x204001_2 (⟨(rd_T134 l0_1 x11_2).f0, (rd_T134 l0_1 x11_2).f1, (rd_T134 l0_1 x11_2).f2⟩ : S134) [.int .i64 ((rd_T134 l0_1 x11_2).f0), .string ((rd_T134 l0_1 x11_2).f1), .string ((rd_T134 l0_1 x11_2).f2)] (fun k_ => k_ ≠ gb202) (fun _ => False) rfl rfl ?aP (fun _ hk => hk.elim) ?aF ?aO ?aB ?aS ?aL ?_
             (case aP => exact k134_mkM _ _ _ (⟨(rd_T134 l0_1 x11_2).f0, (rd_T134 l0_1 x11_2).f1, (rd_T134 l0_1 x11_2).f2⟩ : S134))
             (case aB => exact xbg)
             (case aF => exact (fun k_ hk => Kd.freshB (g := gb202) (o := .cells #[.int .i64 a2, .string ((rd_T134 l0_1 t196).f1), .string ((rd_T134 l0_1 t196).f2)] 134 (0, 0)) xblk k_ hk))
             (case aO => exact (xr HO_204001))
             (case aS => exact (below_size xbg))
             (case aL => have := LMc62.out; omega)
             intro v206 w68 ho hb hg hat
             rw [← Ny205.out] at ho
             have n0_ := aM (blk_grown (g := gb191) (o := .cells #[.int .i64 a0_0, .slice (some ad201) l0_1.length c0_1] 70 (0, 0)) xblk hg (Kd.R_ne HO_204001.out BK191.out (by decide))); have n1_ := aM (blk_grown (g := gb192) (o := .cells #[.int .i64 0, .slice none 0 0] 70 (0, 0)) xblk hg (Kd.R_ne HO_204001.out BK192.out (by decide))); have n2_ := aM (blk_grown (g := gb202) (o := .cells #[.int .i64 a2, .string ((rd_T134 l0_1 t196).f1), .string ((rd_T134 l0_1 t196).f2)] 134 (0, 0)) xblk hg (Kd.R_away HO_204001.out (fun _ hk => hk))); have n3_ := aM (blk_grown (g := gb203) (o := .cells #[.int .i64 a0_0, u204001] 70 (0, 0)) xblk hg (Kd.R_ne HO_204001.out BK203.out (by decide))); have n4_ := aM (hb); have n5_ := aM (ho); clear BK191 BK192 BK202 BK203 HB HO_204001; have BK191 := n0_; have BK192 := n1_; have BK202 := n2_; have BK203 := n3_; have HB := n4_; have HO207 := n5_; clear n0_ n1_ n2_ n3_ n4_ n5_ ho hb hg hat
             obtain ⟨Ao69, co69, eo69⟩ := Kd.R_slice HO207.out
             (first | subst eo69 | (injection eo69 with f1_ f2_ f3_; have f4_ := f1_.symm; have f5_ := f3_.symm; clear f1_ f2_ f3_; subst f4_; subst f5_))
             refine hK.out _ _ ⟨xc BK203 0 rfl, xc BK203 1 rfl, xc BK191 0 rfl, xc BK191 1 rfl, (xce HB hw204_0), (xce HB hw204_1), (xce HB hw204_2)⟩ (fun hHeld => ?_)
             clear hK K
             refine norm_ (a' := ?_) ?_ ?_
             rotate_left
             ·show Act.put _ (some 66) _ = _
              simp only [Act.put, List.setIfInBounds_toArray, List.set_cons_zero, List.set_cons_succ, i64_w, i32_w]
              rfl
             refine pv_ 9 67 (h := ?_)
             refine last_ (i := 10) (N := none) #[true, true, true, true, true, true, true, true, true, true, true] rfl rfl (one_of HT_.out (by kernel_rfl)) (by decide) (fun K hK => ?_)
             have hs70 : w68.cell? ⟨gb203, 1, none⟩ = some (u204001) := xc BK203 1 rfl; have hfs70 := blk_frozen BK203.out 1; have hns70_0 := NB191_203.out; have hns70_1 := NB192_203.out; have hns70_2 := NB202_203.out; have hms70_0 := NB203_191.out; have hms70_1 := NB203_192.out; have hms70_2 := NB203_202.out
             refine skip_ (w1 := ?_) (by rfl) rfl ?_ ?_
             rotate_left
             ·go_simp
              rfl
             refine hK.out _ _ ?_
             clear hK K
             refine done_ (done_of HT_.out (by kernel_rfl)) ?_
             try go_wp2
             go_roundg k2
             case measure => have := HJ3.out; have := HK2.out; omega
             case rel => exact ⟨(wrap64 (x11_2 + 1)), (y205), (.slice Ao69 y205.length co69), (by first | rfl | (simp; done) | (simp [*]; done)), H', ⟨by have := HJ3.out; have := HK2.out; omega⟩, ⟨by (with_reducible repeat (first | apply Kd.R_alloc | apply Kd.R_drewN | apply Kd.R_drew)); exact Kd.R_mono (Kd.R_far (p := ⟨gb203, 1, none⟩) (Kd.R_types HO207.out BK203.out (by decide)) (fun _ hk => hk.2) (.slice Ao69 y205.length co69)) (fun _ hk => hk.1)⟩, ⟨by (with_reducible repeat (first | refine blk_drewN ?_ _ | refine blk_drew ?_ | refine blk_alloc ?_ _)); refine blk_far ?_ NB191_203.out _; (with_reducible repeat (first | refine blk_drewN ?_ _ | refine blk_drew ?_ | refine blk_alloc ?_ _)); exact BK191.out⟩, ⟨by (with_reducible repeat (first | refine blk_drewN ?_ _ | refine blk_drew ?_ | refine blk_alloc ?_ _)); refine blk_far ?_ NB192_203.out _; (with_reducible repeat (first | refine blk_drewN ?_ _ | refine blk_drew ?_ | refine blk_alloc ?_ _)); exact BK192.out⟩, ⟨by (with_reducible repeat (first | refine blk_drewN ?_ _ | refine blk_drew ?_ | refine blk_alloc ?_ _)); refine blk_far ?_ NB202_203.out _; (with_reducible repeat (first | refine blk_drewN ?_ _ | refine blk_drew ?_ | refine blk_alloc ?_ _)); exact BK202.out⟩, ⟨by (with_reducible repeat (first | refine blk_drewN ?_ _ | refine blk_drew ?_ | refine blk_alloc ?_ _)); refine blk_put (cs := #[.int .i64 a0_0, u204001]) ?_ 1 _ rfl; (with_reducible repeat (first | refine blk_drewN ?_ _ | refine blk_drew ?_ | refine blk_alloc ?_ _)); exact BK203.out⟩, ⟨xbg⟩⟩
            ·rw [if_neg c62] at H
             exact absurd H (by simp)
           ·rw [if_neg c61] at H
            exact absurd H (by simp)
         ·rw [if_neg c55] at H
          have c55b0 : decide (x11_2 < (l0_1.length : Int)) = false := decide_eq_false c55; clear c55; replace H := Option.bind_eq_some_iff.mp H
          obtain ⟨⟨t208, t209⟩, A710, H⟩ := H
          replace H : (some (t208, t209, 0)) = some (r1, r2, r3) := H; have A71 := aM A710; clear A710
          simp only [Option.some.injEq, Prod.mk.injEq] at H
          obtain ⟨rfl, rfl, rfl⟩ := H
          have hnb72 := NB191_192.out; have hnc72 := NB192_191.out; have hnb73 := NB191_202.out; have hnc73 := NB202_191.out; have hnb74 := NB191_203.out; have hnc74 := NB203_191.out; obtain ⟨hcz75_0, hcz75_1, hfz75_0, hfz75_1⟩ := xf2 (w := wr) BK191; have hnb76 := NB203_192.out; have hnc76 := NB192_203.out; have hnb77 := NB203_202.out; have hnc77 := NB202_203.out; obtain ⟨hcz78_0, hcz78_1, hfz78_0, hfz78_1⟩ := xf2 (w := wr) BK203; have hnb79 := NB202_192.out; have hnc79 := NB192_202.out; obtain ⟨hcz80_0, hcz80_1, hcz80_2, hfz80_0, hfz80_1, hfz80_2⟩ := xf3 (w := wr) BK202
          obtain ⟨Ao81, co81, eo81⟩ := Kd.R_slice HO_204001.out
          subst eo81
          go_wp2_with (first | ((with_reducible refine gate_callee (f := 111) rfl ?_); refine goesL_ (some 70) rfl rfl Try.func111 (by kernel_rfl) rfl #[.agg #[.int .i64 a0_0, .slice Ao81 x204001_2.length co81], .agg #[.int .i64 a2, .string ((rd_T134 l0_1 t196).f1), .string ((rd_T134 l0_1 t196).f2)]] rfl (by (try simp only [List.map_toArray, List.map_cons, List.map_nil]); first | done | rfl | (simp only [List.length_drop, List.length_take]; rfl)) ?_; (with_reducible refine (spec_l3Put.calls k2 a0_0 _ _ x204001_2 a2 ((rd_T134 l0_1 t196).f1) ((rd_T134 l0_1 t196).f2) t208 t209 _ ?side1 ?side2 A71.out).mono ?_); (case side1 => repeat (first | exact (Kd.R_reads' HO_204001.out).2.2 | (with_reducible refine Kd.C_alloc ?_ _) | (with_reducible refine Kd.C_drewN ?_ _) | (with_reducible refine Kd.C_drew ?_))); (case side2 => exact (Kd.R_reads' HO_204001.out).2.1); rintro e w82 ⟨v210, rfl, ho0, hb⟩; refine ⟨_, rfl, ?_⟩; have HO211 := aM (Kd.R_lower (Kd.R_newB (Kd.R_new' ho0 (Kd.R_lt (xr HO_204001))) (g := gb202) (o := .cells #[.int .i64 a2, .string ((rd_T134 l0_1 t196).f1), .string ((rd_T134 l0_1 t196).f2)] 134 (0, 0)) xblk) (below_size xbg)); replace HO_204001 := aM (Kd.R_elder' (xr HO_204001) (Kd.R_base ho0) hb); replace BK191 := xbb BK191 hb; replace BK192 := xbb BK192 hb; replace BK202 := xbb BK202 hb; replace BK203 := xbb BK203 hb; replace HB := xbs hb; (try clear hb); (try clear hb2); (try clear hk); (try clear hi); (try clear ho0); obtain ⟨hcz83_0, hcz83_1, hfz83_0, hfz83_1⟩ := xf2 (w := w82) BK192; obtain ⟨Ao84, co84, eo84⟩ := Kd.R_slice HO211.out; subst eo84))
          refine bodyPost_ret (results_ct rfl _ _ gb192 70 #[.int .i64 t208, .slice Ao84 t209.length co84] (0, 0) _ rfl (by (with_reducible repeat (first | refine blk_drewN ?_ _ | refine blk_drew ?_ | refine blk_alloc ?_ _)); refine blk_put (cs := #[.int .i64 t208, .slice none 0 0]) ?_ 1 _ rfl; (with_reducible repeat (first | refine blk_drewN ?_ _ | refine blk_drew ?_ | refine blk_alloc ?_ _)); refine blk_put (cs := #[.int .i64 0, .slice none 0 0]) ?_ 0 _ rfl; (with_reducible repeat (first | refine blk_drewN ?_ _ | refine blk_drew ?_ | refine blk_alloc ?_ _)); exact BK192.out) Try.underlying70 rfl (by kernel_rfl)) rfl ?_
          exact ⟨_, by first | rfl | (simp [errW_none, errW_some] <;> rfl) | (simp [*, errW_none, errW_some] <;> rfl), by (with_reducible repeat (first | apply Kd.R_alloc | apply Kd.R_drewN | apply Kd.R_drew)); exact Kd.R_mono (Kd.R_far (p := ⟨gb192, 1, none⟩) (Kd.R_far (p := ⟨gb192, 0, none⟩) (Kd.R_types HO211.out BK192.out (by decide)) (fun _ hk => hk.2) (.int .i64 t208)) (fun _ hk => hk.2) (.slice Ao84 t209.length co84)) (fun _ hk => trivial), xbg⟩
      ·rw [if_neg c39] at H
       exact absurd H (by simp)
     ·rw [if_neg c38] at H
      exact absurd H (by simp)

/-! ### impl_within: function 81 -/
def impl_within.f (a0 : Int) (a1 : Int) (a2 : Int) : Option (Bool) := if a0 ≥ a1 then (some (decide (a0 ≤ a2))) else (some false)
set_option maxHeartbeats 8000000 in
set_option maxRecDepth 100000 in
theorem impl_within.calls (a0 : Int) (a1 : Int) (a2 : Int) (r : Bool) (w : World) (h : impl_within.f a0 a1 a2 = some r) :
 Calls Try.prog 81 #[.int .i64 a0, .int .i64 a1, .int .i64 a2] w fun e w' => e = .returned (.bool r) ∧ Drawn0 w w' := by
 have H : (if a0 ≥ a1 then (some (decide (a0 ≤ a2))) else (some false)) = some r := h
 clear h
 by_cases c4 : a0 ≥ a1
 ·rw [if_pos c4] at H
  have c4b0 : decide (a1 ≤ a0) = true := decide_eq_true c4; clear c4
  obtain rfl := Option.some.inj H
  go_enter Try.func81, Try.ntmps81
  go_wp2
  go_ret
  exact ⟨by first | rfl | (simp; done) | (simp [*]; done), by repeat (first | exact Drawn0.refl _ | apply Drawn0.step)⟩
 ·rw [if_neg c4] at H
  have c4b0 : decide (a1 ≤ a0) = false := decide_eq_false c4; clear c4
  obtain rfl := Option.some.inj H
  go_enter Try.func81, Try.ntmps81
  go_wp2
  go_ret
  exact ⟨by first | rfl | (simp; done) | (simp [*]; done), by repeat (first | exact Drawn0.refl _ | apply Drawn0.step)⟩

/-! ### impl_isFile: function 113 -/
def impl_isFile.f (a0 : Int) : Option (Bool) := (impl_within.f a0 0 7).bind fun t212 => (some t212)
set_option maxHeartbeats 8000000 in
set_option maxRecDepth 100000 in
theorem impl_isFile.calls (a0 : Int) (r : Bool) (w : World) (h : impl_isFile.f a0 = some r) :
 Calls Try.prog 113 #[.int .i64 a0] w fun e w' => e = .returned (.bool r) ∧ Drawn0 w w' := by
 have H : ((impl_within.f a0 0 7).bind fun t212 => (some t212)) = some r := h
 clear h
 replace H := Option.bind_eq_some_iff.mp H
 obtain ⟨t212, A20, H⟩ := H
 replace H : (some t212) = some r := H
 have A2 := aM A20
 clear A20
 obtain rfl := Option.some.inj H
 go_enter Try.func113, Try.ntmps113
 go_wp2_with (first | ((with_reducible refine gate_callee (f := 81) rfl ?_); refine goesL_ (some 4) rfl rfl Try.func81 (by kernel_rfl) rfl #[.int .i64 a0, .int .i64 0, .int .i64 7] rfl (by (try simp only [List.map_toArray, List.map_cons, List.map_nil]); first | done | rfl | (simp only [List.length_drop, List.length_take]; rfl)) ?_; (with_reducible refine (impl_within.calls a0 0 7 t212 _ A2.out).mono ?_); rintro e w' ⟨rfl, ⟨nd, rfl⟩⟩; refine ⟨_, rfl, ?_⟩))
 go_ret
 exact ⟨by first | rfl | (simp; done) | (simp [*]; done), by repeat (first | exact Drawn0.refl _ | apply Drawn0.step)⟩

/-! ### impl_sizeOf: function 114 -/
def impl_sizeOf.l0 : Nat → Int → List (S134) → Int → Int → Option (Int)
 | 0, _, _, _, _ => none
 | k + 1, x3, x7, x8, x9 => if x9 < x8 then (if 0 ≤ x9 then (if x9 < (x7.length : Int) then (impl_sizeOf.l0 k (wrap64 (x3 + (wrap64 ((((rd_T134 x7 x9).f1).size : Int) + (((rd_T134 x7 x9).f2).size : Int))))) x7 x8 (wrap64 (x9 + 1))) else (none)) else (none)) else (some x3)
def impl_sizeOf.f (k : Nat) (a0_0 : Int) (l0_1 : List (S134)) : Option (Int) := impl_sizeOf.l0 k 0 l0_1 (l0_1.length : Int) 0
set_option maxRecDepth 100000 in
theorem impl_sizeOf.mono_l : ∀ k, (∀ y0 y1 y2 y3, LeO (impl_sizeOf.l0 k y0 y1 y2 y3) (impl_sizeOf.l0 (k + 1) y0 y1 y2 y3))
 | 0 => fun _ _ _ _ r h => by simp [impl_sizeOf.l0] at h
 | k + 1 => by
  have ih0 := impl_sizeOf.mono_l k
  ·intro y0 y1 y2 y3
   unfold impl_sizeOf.l0
   repeat' first
   | (with_reducible exact ih0 _ _ _ _)
   | (with_reducible exact LeO.refl _)
   | (with_reducible exact LeO.none _)
   | (with_reducible refine LeO.ite ?_ ?_)
   | (with_reducible refine LeO.bind ?_ (fun _ => ?_))
   | exact ih0 _ _ _ _
   | exact LeO.none _
   | refine LeO.ite ?_ ?_
   | refine LeO.bind ?_ (fun _ => ?_)
theorem impl_sizeOf.mono : ∀ a0 a1 k, LeO (impl_sizeOf.f k a0 a1) (impl_sizeOf.f (k + 1) a0 a1) := by
 intro a0 a1 k
 have ih0 := impl_sizeOf.mono_l k
 unfold impl_sizeOf.f
 repeat' first
  | (with_reducible exact ih0 _ _ _ _)
  | (with_reducible exact LeO.refl _)
  | (with_reducible exact LeO.none _)
  | (with_reducible refine LeO.ite ?_ ?_)
  | (with_reducible refine LeO.bind ?_ (fun _ => ?_))
  | exact ih0 _ _ _ _
  | exact LeO.none _
  | refine LeO.ite ?_ ?_
  | refine LeO.bind ?_ (fun _ => ?_)
set_option maxHeartbeats 8000000 in
set_option maxRecDepth 100000 in
theorem impl_sizeOf.calls (k : Nat) (a0_0 : Int) (A0_1 : Option Addr) (c0_1 : Nat) (l0_1 : List (S134)) (r : Int) (w : World) (hr0_1 : Kd.C k134 w A0_1 l0_1.length l0_1) (hc0_1 : l0_1.length ≤ c0_1) (h : impl_sizeOf.f k a0_0 l0_1 = some r) :
 Calls Try.prog 114 #[.agg #[.int .i64 a0_0, .slice A0_1 l0_1.length c0_1]] w fun e w' => e = .returned (.int .i64 r) ∧ Below w.heap.size w w' := by
 have hu70 := Try.underlying70
 have hu134 := Try.underlying134
 have HR0_1 := aM hr0_1
 have HC0_1 := aM hc0_1
 clear hr0_1 hc0_1
 have HB := aM (Below.refl w.heap.size w)
 have H : (impl_sizeOf.l0 k 0 l0_1 (l0_1.length : Int) 0) = some r := h
 clear h
 have H' := aM H
 clear H
 go_enter Try.func114, Try.ntmps114
 go_wp2_with (first | ((with_reducible refine gate_dst (N := 1) rfl ?_); refine box_event ?hg (N := 1) ?hd (cs := #[.int .i64 a0_0, .slice A0_1 l0_1.length c0_1]) (t := 70) ?hr ?_; (case hd => rfl); (case hg => rfl); (case hr => first | (go_simp; done) | (go_simp; rfl)); intro gb213 hg w2 hbox hb; have BK213 := aM (hbox); have GW213 := aM (xge hg); have GE213 := aM (xge hg); replace HB := xbs hb; clear hb hbox hg; obtain ⟨hcz3_0, hcz3_1, hfz3_0, hfz3_1⟩ := xf2 (w := w2) BK213))
 go_loopg [3, 9] k (fun kq v3 v9 w' => ∃ (x3_1 : Int) (x9_1 : Int), v3 = .int .i64 x3_1 ∧ v9 = .int .i64 x9_1 ∧ Aside0 (impl_sizeOf.l0 kq x3_1 l0_1 (l0_1.length : Int) x9_1 = some r) ∧ Aside0 (kq ≤ k) ∧ Aside0 (w'.heap[gb213]? = some (.cells #[.int .i64 a0_0, (.slice A0_1 l0_1.length c0_1)] 70 (0, 0))) ∧ Aside0 (Below w.heap.size w w'))
 case atStart => exact ⟨(0), (0), (by first | rfl | (simp; done) | (simp [*]; done)), (by first | rfl | (simp; done) | (simp [*]; done)), H', ⟨Nat.le_refl _⟩, ⟨xblk⟩, ⟨xbg⟩⟩
 case round =>
  clear H'
  try clear c1
  try clear p2
  try clear hcz3_0
  try clear hcz3_1
  try clear hfz3_0
  try clear hfz3_1
  obtain ⟨x3_1, x9_1, rfl, rfl, HA, HK1, BK213, HB⟩ := hrel
  cases gk with
  | zero => exact absurd HA.out (by simp [impl_sizeOf.l0])
  | succ k1 =>
   have H := HA.out; clear HA
   simp only [impl_sizeOf.l0] at H
   by_cases c4 : x9_1 < (l0_1.length : Int)
   ·rw [if_pos c4] at H
    have c4b0 : decide (x9_1 < (l0_1.length : Int)) = true := decide_eq_true c4; clear c4
    by_cases c5 : 0 ≤ x9_1
    ·rw [if_pos c5] at H
     have c5b0 : decide (0 ≤ x9_1) = true := decide_eq_true c5; clear c5
     by_cases c6 : x9_1 < (l0_1.length : Int)
     ·rw [if_pos c6] at H
      have c6b0 : decide (x9_1 < (l0_1.length : Int)) = true := decide_eq_true c6; clear c6
      have H' := aM H
      clear H; have p214 : 0 ≤ (x9_1 : Int) := oda; have q214 : x9_1 < (l0_1.length : Int) := oda
      obtain ⟨ad214, e214, hx214_0, hx214_1, hx214_2⟩ := at_T134 HR0_1.out x9_1 p214 q214
      cases e214
      replace hx214_0 := xce HB hx214_0; replace hx214_1 := xce HB hx214_1; replace hx214_2 := xce HB hx214_2; replace p214 := eq_true p214; replace q214 := eq_true q214
      go_wp2_with (first | ((with_reducible refine gate_dst (N := 5) rfl ?_); refine box_event ?hg (N := 5) ?hd (cs := #[.int .i64 0, .string (⟨#[]⟩ : ByteArray), .string (⟨#[]⟩ : ByteArray)]) (t := 134) ?hr ?_; (case hd => rfl); (case hg => rfl); (case hr => first | (go_simp; done) | (go_simp; rfl)); intro gb215 hg w7 hbox hb; have GW215 := aM (xge hg); have GE215 := aM (xge hg); replace HB := xbs hb; have NB213_215 := aM ((by rw [hg]; exact Nat.ne_of_lt (blk_lt (g := gb213) (o := .cells #[.int .i64 a0_0, .slice (some ad214) l0_1.length c0_1] 70 (0, 0)) xblk) : gb213 ≠ gb215)); have NB215_213 := aM ((by rw [hg]; exact Nat.ne_of_gt (blk_lt (g := gb213) (o := .cells #[.int .i64 a0_0, .slice (some ad214) l0_1.length c0_1] 70 (0, 0)) xblk) : gb215 ≠ gb213)); replace BK213 := xbb BK213 hb; have BK215 := aM (hbox); clear hb hbox hg; have hnb8 := NB215_213.out; have hnc8 := NB213_215.out; obtain ⟨hcz9_0, hcz9_1, hcz9_2, hfz9_0, hfz9_1, hfz9_2⟩ := xf3 (w := w7) BK215))
      go_roundg k1
      case measure => have := HK1.out; omega
      case rel => exact ⟨(wrap64 (x3_1 + (wrap64 ((((rd_T134 l0_1 x9_1).f1).size : Int) + (((rd_T134 l0_1 x9_1).f2).size : Int))))), (wrap64 (x9_1 + 1)), (by first | rfl | (simp; done) | (simp [*]; done)), (by first | rfl | (simp; done) | (simp [*]; done)), H', ⟨by have := HK1.out; omega⟩, ⟨by (with_reducible repeat (first | refine blk_drewN ?_ _ | refine blk_drew ?_ | refine blk_alloc ?_ _)); refine blk_far ?_ NB213_215.out _; (with_reducible repeat (first | refine blk_drewN ?_ _ | refine blk_drew ?_ | refine blk_alloc ?_ _)); refine blk_far ?_ NB213_215.out _; (with_reducible repeat (first | refine blk_drewN ?_ _ | refine blk_drew ?_ | refine blk_alloc ?_ _)); refine blk_far ?_ NB213_215.out _; (with_reducible repeat (first | refine blk_drewN ?_ _ | refine blk_drew ?_ | refine blk_alloc ?_ _)); exact BK213.out⟩, ⟨xbg⟩⟩
     ·rw [if_neg c6] at H
      exact absurd H (by simp)
    ·rw [if_neg c5] at H
     exact absurd H (by simp)
   ·rw [if_neg c4] at H
    have c4b0 : decide (x9_1 < (l0_1.length : Int)) = false := decide_eq_false c4; clear c4
    obtain rfl := Option.some.inj H
    go_wp2
    go_ret
    exact ⟨by first | rfl | (simp [errW_none, errW_some] <;> rfl) | (simp [*, errW_none, errW_some] <;> rfl), xbg⟩

end Go.Proofs.Ytnjpfllmcmomoaa.QFnExactDiskMove
