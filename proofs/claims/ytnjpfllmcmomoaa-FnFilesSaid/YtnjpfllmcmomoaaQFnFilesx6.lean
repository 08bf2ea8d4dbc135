-- A walk, by a program of this session.
import Derived.Test.YtnjpfllmcmomoaaQFnFilesx0
import Derived.Test.YtnjpfllmcmomoaaQFnFilesx1
import Derived.Test.YtnjpfllmcmomoaaQFnFilesx2
import Derived.Test.YtnjpfllmcmomoaaQFnFilesx5
namespace Go.Proofs.Ytnjpfllmcmomoaa.QFnFiles
open Go.RowKit Go.Proofs.YtnjpfllmcmomoaaW.PrintWords Go.Proofs.YtnjpfllmcmomoaaW.PrintLast Go.Proofs.YtnjpfllmcmomoaaW.PrintMore
attribute [local go_sem] max2_int min2_int max_two min_two max_three min_three max_four min_four   -- for this text's walks alone
set_option linter.unusedVariables false
set_option linter.unusedSimpArgs false

/-! ### spec_DiskMove: function 44 -/
mutual
def spec_DiskMove.j0 : Nat → Int → Int → Bool → Int → List (S134) → Option (Int × (List (S134)) × Int)
 | 0, _, _, _, _, _ => none
 | k + 1, x1, x2, x29, x230000, x230001 => if x29 = true then (some (0, ([] : List (S134)), 1)) else ((spec_l3Find.f k x230000 x230001 x1).bind fun t234 => (if t234 < 0 then ((spec_l3Copy.f x230000 x230001).bind fun bt235 => (some (bt235.1, bt235.2, 2))) else (if 0 ≤ t234 then (if t234 < (x230001.length : Int) then (spec_DiskMove.l0 k t234 0 x230000 x230001 x2 ((rd_T134 x230001 t234).f1) ((rd_T134 x230001 t234).f2) x230000 ([] : List (S134))) else (none)) else (none))))
def spec_DiskMove.l0 : Nat → Int → Int → Int → List (S134) → Int → ByteArray → ByteArray → Int → List (S134) → Option (Int × (List (S134)) × Int)
 | 0, _, _, _, _, _, _, _, _, _ => none
 | k + 1, x8, x11, x230000, x230001, x241000, x241001, x241002, x242000, x242001 => if x11 < (x230001.length : Int) then (if x11 = x8 then (spec_DiskMove.l0 k x8 (wrap64 (x11 + 1)) x230000 x230001 x241000 x241001 x241002 x242000 x242001) else (if 0 ≤ x11 then (if x242001.length < 3518437208883 then (spec_DiskMove.l0 k x8 (wrap64 (x11 + 1)) x230000 x230001 x241000 x241001 x241002 x242000 (x242001 ++ [(⟨(rd_T134 x230001 x11).f0, (rd_T134 x230001 x11).f1, (rd_T134 x230001 x11).f2⟩ : S134)])) else (none)) else (none))) else ((spec_l3Put.f k x242000 x242001 x241000 x241001 x241002).bind fun bt246 => (some (bt246.1, bt246.2, 0)))
end
def spec_DiskMove.f (k : Nat) (a0_0 : Int) (l0_1 : List (S134)) (a1 : Int) (a2 : Int) : Option (Int × (List (S134)) × Int) := (spec_DiskOk.f k a0_0 l0_1).bind fun t231 => (if t231 = true then ((spec_l3Name.f a1).bind fun t232 => (if t232 = true then ((spec_l3Name.f a2).bind fun t233 => (if t233 = true then (spec_DiskMove.j0 k a1 a2 (a1 == a2) a0_0 l0_1) else (spec_DiskMove.j0 k a1 a2 true a0_0 l0_1))) else (spec_DiskMove.j0 k a1 a2 true a0_0 l0_1))) else (spec_DiskMove.j0 k a1 a2 true a0_0 l0_1))
set_option maxRecDepth 100000 in
theorem spec_DiskMove.mono_l : ∀ k, (∀ y0 y1 y2 y3 y4, LeO (spec_DiskMove.j0 k y0 y1 y2 y3 y4) (spec_DiskMove.j0 (k + 1) y0 y1 y2 y3 y4)) ∧ (∀ y0 y1 y2 y3 y4 y5 y6 y7 y8, LeO (spec_DiskMove.l0 k y0 y1 y2 y3 y4 y5 y6 y7 y8) (spec_DiskMove.l0 (k + 1) y0 y1 y2 y3 y4 y5 y6 y7 y8))
 | 0 => ⟨fun _ _ _ _ _ r h => by simp [spec_DiskMove.j0] at h, fun _ _ _ _ _ _ _ _ _ r h => by simp [spec_DiskMove.l0] at h⟩
 | k + 1 => by
  obtain ⟨ih0, ih1⟩ := spec_DiskMove.mono_l k
  refine ⟨?_, ?_⟩
  ·intro y0 y1 y2 y3 y4
   unfold spec_DiskMove.j0
   repeat' first
   | (with_reducible exact ih0 _ _ _ _ _)
   | (with_reducible exact ih1 _ _ _ _ _ _ _ _ _)
   | (with_reducible exact spec_DiskOk.mono _ _ _)
   | (with_reducible exact spec_l3Find.mono _ _ _ _)
   | (with_reducible exact spec_l3Put.mono _ _ _ _ _ _)
   | (with_reducible exact LeO.refl _)
   | (with_reducible exact LeO.none _)
   | (with_reducible refine LeO.ite ?_ ?_)
   | (with_reducible refine LeO.bind ?_ (fun _ => ?_))
   | exact ih0 _ _ _ _ _
   | exact ih1 _ _ _ _ _ _ _ _ _
   | exact spec_DiskOk.mono _ _ _
   | exact spec_l3Find.mono _ _ _ _
   | exact spec_l3Put.mono _ _ _ _ _ _
   | exact LeO.none _
   | refine LeO.ite ?_ ?_
   | refine LeO.bind ?_ (fun _ => ?_)
  ·intro y0 y1 y2 y3 y4 y5 y6 y7 y8
   unfold spec_DiskMove.l0
   repeat' first
   | (with_reducible exact ih0 _ _ _ _ _)
   | (with_reducible exact ih1 _ _ _ _ _ _ _ _ _)
   | (with_reducible exact spec_DiskOk.mono _ _ _)
   | (with_reducible exact spec_l3Find.mono _ _ _ _)
   | (with_reducible exact spec_l3Put.mono _ _ _ _ _ _)
   | (with_reducible exact LeO.refl _)
   | (with_reducible exact LeO.none _)
   | (with_reducible refine LeO.ite ?_ ?_)
   | (with_reducible refine LeO.bind ?_ (fun _ => ?_))
   | exact ih0 _ _ _ _ _
   | exact ih1 _ _ _ _ _ _ _ _ _
   | exact spec_DiskOk.mono _ _ _
   | exact spec_l3Find.mono _ _ _ _
   | exact spec_l3Put.mono _ _ _ _ _ _
   | exact LeO.none _
   | refine LeO.ite ?_ ?_
   | refine LeO.bind ?_ (fun _ => ?_)
theorem spec_DiskMove.mono : ∀ a0 a1 a2 a3 k, LeO (spec_DiskMove.f k a0 a1 a2 a3) (spec_DiskMove.f (k + 1) a0 a1 a2 a3) := by
 intro a0 a1 a2 a3 k
 obtain ⟨ih0, ih1⟩ := spec_DiskMove.mono_l k
 unfold spec_DiskMove.f
 repeat' first
  | (with_reducible exact ih0 _ _ _ _ _)
  | (with_reducible exact ih1 _ _ _ _ _ _ _ _ _)
  | (with_reducible exact spec_DiskOk.mono _ _ _)
  | (with_reducible exact spec_l3Find.mono _ _ _ _)
  | (with_reducible exact spec_l3Put.mono _ _ _ _ _ _)
  | (with_reducible exact LeO.refl _)
  | (with_reducible exact LeO.none _)
  | (with_reducible refine LeO.ite ?_ ?_)
  | (with_reducible refine LeO.bind ?_ (fun _ => ?_))
  | exact ih0 _ _ _ _ _
  | exact ih1 _ _ _ _ _ _ _ _ _
  | exact spec_DiskOk.mono _ _ _
  | exact spec_l3Find.mono _ _ _ _
  | exact spec_l3Put.mono _ _ _ _ _ _
  | exact LeO.none _
  | refine LeO.ite ?_ ?_
  | refine LeO.bind ?_ (fun _ => ?_)
def spec_DiskMove.T13 : Bool × List (List Nat × List Nat) := (true, [([], []), ([0], [0]), ([], []), ([2], [2]), ([], []), ([3, 4], [3, 4]), ([5], [5]), ([6], [6]), ([1, 7], [1, 7]), ([0, 1, 2, 3, 4, 5, 6, 7, 8], []), ([9, 8, 8, 0, 1, 2, 3, 4, 5, 6, 7, 8], [8, 9])])
def spec_DiskMove.B13 : List Nat := [0, 1, 0, 4, 0, 28, 60, 124, 255, 511, 1023]
theorem spec_DiskMove.tab13 : rtab .any (opsOf Try.f44 13) = spec_DiskMove.T13 := by kernel_rfl
theorem spec_DiskMove.bits13 : waitsOk spec_DiskMove.T13.2 spec_DiskMove.B13 = true := by kernel_rfl
set_option maxHeartbeats 8000000 in
set_option maxRecDepth 100000 in
theorem spec_DiskMove.calls (k : Nat) (a0_0 : Int) (A0_1 : Option Addr) (c0_1 : Nat) (l0_1 : List (S134)) (a1 : Int) (a2 : Int) (r1 : Int) (r2 : List (S134)) (r3 : Int) (w : World) (hr0_1 : Kd.C k134 w A0_1 l0_1.length l0_1) (hc0_1 : l0_1.length ≤ c0_1) (h : spec_DiskMove.f k a0_0 l0_1 a1 a2 = some (r1, r2, r3)) :
 Calls Try.prog 44 #[.agg #[.int .i64 a0_0, .slice A0_1 l0_1.length c0_1], .int .i64 a1, .int .i64 a2] w fun e w' => ∃ v1_ : Value, e = .returned (.tuple #[.agg #[.int .i64 r1, v1_], .int .i64 r3]) ∧ Kd.R k134 134 w' w.heap.size (fun _ => True) v1_ r2 ∧ Below w.heap.size w w' := by
 have hu70 := Try.underlying70
 have hu134 := Try.underlying134
 have HR0_1 := aM hr0_1
 have HC0_1 := aM hc0_1
 clear hr0_1 hc0_1
 have HB := aM (Below.refl w.heap.size w)
 have H : ((spec_DiskOk.f k a0_0 l0_1).bind fun t231 => (if t231 = true then ((spec_l3Name.f a1).bind fun t232 => (if t232 = true then ((spec_l3Name.f a2).bind fun t233 => (if t233 = true then (spec_DiskMove.j0 k a1 a2 (a1 == a2) a0_0 l0_1) else (spec_DiskMove.j0 k a1 a2 true a0_0 l0_1))) else (spec_DiskMove.j0 k a1 a2 true a0_0 l0_1))) else (spec_DiskMove.j0 k a1 a2 true a0_0 l0_1))) = some (r1, r2, r3) := h
 clear h
 have HC4 := aM H
 clear H
 go_enter Try.func44, Try.ntmps44
 go_upto_region 1 with (first | ((with_reducible refine gate_dst (N := 3) rfl ?_); refine box_event ?hg (N := 3) ?hd (cs := #[.int .i64 a0_0, .slice A0_1 l0_1.length c0_1]) (t := 70) ?hr ?_; (case hd => rfl); (case hg => rfl); (case hr => first | (go_simp; done) | (go_simp; rfl)); intro gb229 hg w5 hbox hb; have BK229 := aM (hbox); have GW229 := aM (xge hg); have GE229 := aM (xge hg); replace HB := xbs hb; clear hb hbox hg) | ((with_reducible refine gate_dst (N := 6) rfl ?_); refine box_event ?hg (N := 6) ?hd (cs := #[.int .i64 0, .slice none 0 0]) (t := 70) ?hr ?_; (case hd => rfl); (case hg => rfl); (case hr => first | (go_simp; done) | (go_simp; rfl)); intro gb230 hg w6 hbox hb; have GW230 := aM (xge hg); have GE230 := aM (xge hg); replace HB := xbs hb; have NB229_230 := aM ((by rw [hg]; exact Nat.ne_of_lt (blk_lt (g := gb229) (o := .cells #[.int .i64 a0_0, .slice A0_1 l0_1.length c0_1] 70 (0, 0)) xblk) : gb229 ≠ gb230)); have NB230_229 := aM ((by rw [hg]; exact Nat.ne_of_gt (blk_lt (g := gb229) (o := .cells #[.int .i64 a0_0, .slice A0_1 l0_1.length c0_1] 70 (0, 0)) xblk) : gb230 ≠ gb229)); replace BK229 := xbb BK229 hb; have BK230 := aM (hbox); clear hb hbox hg))
 (try simp only [Act.put, List.setIfInBounds_toArray, List.set_cons_zero, List.set_cons_succ])
 go_cut [29] (fun v29 wc => ∃ (kq : Nat) (x29_3 : Bool), v29 = .bool x29_3 ∧ Aside0 (spec_DiskMove.j0 kq a1 a2 x29_3 a0_0 l0_1 = some (r1, r2, r3)) ∧ Aside0 (kq ≤ k) ∧ Aside0 (wc.heap[gb229]? = some (.cells #[.int .i64 a0_0, (.slice A0_1 l0_1.length c0_1)] 70 (0, 0))) ∧ Aside0 (wc.heap[gb230]? = some (.cells #[.int .i64 0, (.slice none 0 0)] 70 (0, 0))) ∧ Aside0 (Below w.heap.size w wc))
 case first =>
  have H := HC4.out; clear HC4; replace H := Option.bind_eq_some_iff.mp H
  obtain ⟨t231, A70, H⟩ := H
  replace H : (if t231 = true then ((spec_l3Name.f a1).bind fun t232 => (if t232 = true then ((spec_l3Name.f a2).bind fun t233 => (if t233 = true then (spec_DiskMove.j0 k a1 a2 (a1 == a2) a0_0 l0_1) else (spec_DiskMove.j0 k a1 a2 true a0_0 l0_1))) else (spec_DiskMove.j0 k a1 a2 true a0_0 l0_1))) else (spec_DiskMove.j0 k a1 a2 true a0_0 l0_1)) = some (r1, r2, r3) := H; have A7 := aM A70; clear A70
  by_cases c8 : t231 = true
  ·subst c8
   have H1 : ((spec_l3Name.f a1).bind fun t232 => (if t232 = true then ((spec_l3Name.f a2).bind fun t233 => (if t233 = true then (spec_DiskMove.j0 k a1 a2 (a1 == a2) a0_0 l0_1) else (spec_DiskMove.j0 k a1 a2 true a0_0 l0_1))) else (spec_DiskMove.j0 k a1 a2 true a0_0 l0_1))) = some (r1, r2, r3) := by rw [if_pos rfl] at H; exact H
   clear H; have H := H1; clear H1; replace H := Option.bind_eq_some_iff.mp H
   obtain ⟨t232, A90, H⟩ := H
   replace H : (if t232 = true then ((spec_l3Name.f a2).bind fun t233 => (if t233 = true then (spec_DiskMove.j0 k a1 a2 (a1 == a2) a0_0 l0_1) else (spec_DiskMove.j0 k a1 a2 true a0_0 l0_1))) else (spec_DiskMove.j0 k a1 a2 true a0_0 l0_1)) = some (r1, r2, r3) := H; have A9 := aM A90; clear A90
   by_cases c10 : t232 = true
   ·subst c10
    have H1 : ((spec_l3Name.f a2).bind fun t233 => (if t233 = true then (spec_DiskMove.j0 k a1 a2 (a1 == a2) a0_0 l0_1) else (spec_DiskMove.j0 k a1 a2 true a0_0 l0_1))) = some (r1, r2, r3) := by rw [if_pos rfl] at H; exact H
    clear H; have H := H1; clear H1; replace H := Option.bind_eq_some_iff.mp H
    obtain ⟨t233, A110, H⟩ := H
    replace H : (if t233 = true then (spec_DiskMove.j0 k a1 a2 (a1 == a2) a0_0 l0_1) else (spec_DiskMove.j0 k a1 a2 true a0_0 l0_1)) = some (r1, r2, r3) := H; have A11 := aM A110; clear A110
    by_cases c12 : t233 = true
    ·subst c12
     have H1 : (spec_DiskMove.j0 k a1 a2 (a1 == a2) a0_0 l0_1) = some (r1, r2, r3) := by rw [if_pos rfl] at H; exact H
     clear H; have H := H1; clear H1
     have H' := aM H
     clear H; have hnb13 := NB229_230.out; have hnc13 := NB230_229.out; obtain ⟨hcz14_0, hcz14_1, hfz14_0, hfz14_1⟩ := xf2 (w := w6) BK229
     go_wp2_with (first | ((with_reducible refine gate_callee (f := 106) rfl ?_); refine goesL_ (some 13) rfl rfl Try.func106 (by kernel_rfl) rfl #[.agg #[.int .i64 a0_0, .slice A0_1 l0_1.length c0_1]] rfl (by (try simp only [List.map_toArray, List.map_cons, List.map_nil]); first | done | rfl | (simp only [List.length_drop, List.length_take]; rfl)) ?_; (with_reducible refine (spec_DiskOk.calls k a0_0 _ _ l0_1 true _ ?side1 ?side2 A7.out).mono ?_); (case side1 => exact xcb HR0_1); (case side2 => exact HC0_1.out); rintro e w15 ⟨rfl, hb⟩; refine ⟨_, rfl, ?_⟩; replace BK229 := xbb BK229 hb; replace BK230 := xbb BK230 hb; replace HB := xbs hb; (try clear hb); (try clear hb2); (try clear hk); (try clear hi)) | (go_at_call 107; (with_reducible refine (spec_l3Name.calls a1 true _ A9.out).mono ?_); rintro e w' ⟨rfl, ⟨nd, rfl⟩⟩) | (go_at_call 107; (with_reducible refine (spec_l3Name.calls a2 true _ A11.out).mono ?_); rintro e w' ⟨rfl, ⟨nd, rfl⟩⟩))
     go_meet
     case rel => exact ⟨_, ((a1 == a2)), (by first | rfl | (simp; done) | (simp [*]; done)), H', ⟨by first | omega | exact Nat.le_refl _⟩, ⟨xblk⟩, ⟨xblk⟩, ⟨xbg⟩⟩
    ·replace c12 := Bool.eq_false_iff.mpr c12
     subst c12
     have H1 : (spec_DiskMove.j0 k a1 a2 true a0_0 l0_1) = some (r1, r2, r3) := by rw [if_neg (show ¬ (false = true) by decide)] at H; exact H
     clear H; have H := H1; clear H1
     have H' := aM H
     clear H; have hnb16 := NB229_230.out; have hnc16 := NB230_229.out; obtain ⟨hcz17_0, hcz17_1, hfz17_0, hfz17_1⟩ := xf2 (w := w6) BK229
     go_wp2_with (first | ((with_reducible refine gate_callee (f := 106) rfl ?_); refine goesL_ (some 13) rfl rfl Try.func106 (by kernel_rfl) rfl #[.agg #[.int .i64 a0_0, .slice A0_1 l0_1.length c0_1]] rfl (by (try simp only [List.map_toArray, List.map_cons, List.map_nil]); first | done | rfl | (simp only [List.length_drop, List.length_take]; rfl)) ?_; (with_reducible refine (spec_DiskOk.calls k a0_0 _ _ l0_1 true _ ?side1 ?side2 A7.out).mono ?_); (case side1 => exact xcb HR0_1); (case side2 => exact HC0_1.out); rintro e w18 ⟨rfl, hb⟩; refine ⟨_, rfl, ?_⟩; replace BK229 := xbb BK229 hb; replace BK230 := xbb BK230 hb; replace HB := xbs hb; (try clear hb); (try clear hb2); (try clear hk); (try clear hi)) | (go_at_call 107; (with_reducible refine (spec_l3Name.calls a1 true _ A9.out).mono ?_); rintro e w' ⟨rfl, ⟨nd, rfl⟩⟩) | (go_at_call 107; (with_reducible refine (spec_l3Name.calls a2 false _ A11.out).mono ?_); rintro e w' ⟨rfl, ⟨nd, rfl⟩⟩))
     go_meet
     case rel => exact ⟨_, (true), (by first | rfl | (simp; done) | (simp [*]; done)), H', ⟨by first | omega | exact Nat.le_refl _⟩, ⟨xblk⟩, ⟨xblk⟩, ⟨xbg⟩⟩
   ·replace c10 := Bool.eq_false_iff.mpr c10
    subst c10
    have H1 : (spec_DiskMove.j0 k a1 a2 true a0_0 l0_1) = some (r1, r2, r3) := by rw [if_neg (show ¬ (false = true) by decide)] at H; exact H
    clear H; have H := H1; clear H1
    have H' := aM H
    clear H; have hnb19 := NB229_230.out; have hnc19 := NB230_229.out; obtain ⟨hcz20_0, hcz20_1, hfz20_0, hfz20_1⟩ := xf2 (w := w6) BK229
    go_wp2_with (first | ((with_reducible refine gate_callee (f := 106) rfl ?_); refine goesL_ (some 13) rfl rfl Try.func106 (by kernel_rfl) rfl #[.agg #[.int .i64 a0_0, .slice A0_1 l0_1.length c0_1]] rfl (by (try simp only [List.map_toArray, List.map_cons, List.map_nil]); first | done | rfl | (simp only [List.length_drop, List.length_take]; rfl)) ?_; (with_reducible refine (spec_DiskOk.calls k a0_0 _ _ l0_1 true _ ?side1 ?side2 A7.out).mono ?_); (case side1 => exact xcb HR0_1); (case side2 => exact HC0_1.out); rintro e w21 ⟨rfl, hb⟩; refine ⟨_, rfl, ?_⟩; replace BK229 := xbb BK229 hb; replace BK230 := xbb BK230 hb; replace HB := xbs hb; (try clear hb); (try clear hb2); (try clear hk); (try clear hi)) | (go_at_call 107; (with_reducible refine (spec_l3Name.calls a1 false _ A9.out).mono ?_); rintro e w' ⟨rfl, ⟨nd, rfl⟩⟩))
    go_meet
    case rel => exact ⟨_, (true), (by first | rfl | (simp; done) | (simp [*]; done)), H', ⟨by first | omega | exact Nat.le_refl _⟩, ⟨xblk⟩, ⟨xblk⟩, ⟨xbg⟩⟩
  ·replace c8 := Bool.eq_false_iff.mpr c8
   subst c8
   have H1 : (spec_DiskMove.j0 k a1 a2 true a0_0 l0_1) = some (r1, r2, r3) := by rw [if_neg (show ¬ (false = true) by decide)] at H; exact H
   clear H; have H := H1; clear H1
   have H' := aM H
   clear H; have hnb22 := NB229_230.out; have hnc22 := NB230_229.out; obtain ⟨hcz23_0, hcz23_1, hfz23_0, hfz23_1⟩ := xf2 (w := w6) BK229
   go_wp2_with (first | ((with_reducible refine gate_callee (f := 106) rfl ?_); refine goesL_ (some 13) rfl rfl Try.func106 (by kernel_rfl) rfl #[.agg #[.int .i64 a0_0, .slice A0_1 l0_1.length c0_1]] rfl (by (try simp only [List.map_toArray, List.map_cons, List.map_nil]); first | done | rfl | (simp only [List.length_drop, List.length_take]; rfl)) ?_; (with_reducible refine (spec_DiskOk.calls k a0_0 _ _ l0_1 false _ ?side1 ?side2 A7.out).mono ?_); (case side1 => exact xcb HR0_1); (case side2 => exact HC0_1.out); rintro e w24 ⟨rfl, hb⟩; refine ⟨_, rfl, ?_⟩; replace BK229 := xbb BK229 hb; replace BK230 := xbb BK230 hb; replace HB := xbs hb; (try clear hb); (try clear hb2); (try clear hk); (try clear hi)))
   go_meet
   case rel => exact ⟨_, (true), (by first | rfl | (simp; done) | (simp [*]; done)), H', ⟨by first | omega | exact Nat.le_refl _⟩, ⟨xblk⟩, ⟨xblk⟩, ⟨xbg⟩⟩
 case rest =>
  clear HC4
  try clear c1
  try clear c2
  try clear p2
  try clear c4
  try clear c8
  try clear c10
  try clear c12
  try clear c13
  try clear c16
  try clear c19
  try clear c22
  try clear hcz14_0
  try clear hcz14_1
  try clear hcz17_0
  try clear hcz17_1
  try clear hcz20_0
  try clear hcz20_1
  try clear hcz23_0
  try clear hcz23_1
  try clear hfz14_0
  try clear hfz14_1
  try clear hfz17_0
  try clear hfz17_1
  try clear hfz20_0
  try clear hfz20_1
  try clear hfz23_0
  try clear hfz23_1
  obtain ⟨kq, x29_3, rfl, HA, HJ3, BK229, BK230, HB⟩ := hcut
  cases kq with
  | zero => exact absurd HA.out (by simp [spec_DiskMove.j0])
  | succ kj3 =>
   have H := HA.out; clear HA
   simp only [spec_DiskMove.j0] at H
   by_cases c25 : x29_3 = true
   ·subst c25
    have H1 : (some (0, ([] : List (S134)), 1)) = some (r1, r2, r3) := by rw [if_pos rfl] at H; exact H
    clear H; have H := H1; clear H1
    simp only [Option.some.injEq, Prod.mk.injEq] at H
    obtain ⟨rfl, rfl, rfl⟩ := H
    have hnb26 := NB230_229.out; have hnc26 := NB229_230.out; obtain ⟨hcz27_0, hcz27_1, hfz27_0, hfz27_1⟩ := xf2 (w := wc) BK230
    go_wp2
    refine bodyPost_ret (results_ct rfl _ _ gb230 70 #[.int .i64 0, .slice none 0 0] (0, 0) _ rfl (by (with_reducible repeat (first | refine blk_drewN ?_ _ | refine blk_drew ?_ | refine blk_alloc ?_ _)); refine blk_put (cs := #[.int .i64 0, .slice none 0 0]) ?_ 1 _ rfl; (with_reducible repeat (first | refine blk_drewN ?_ _ | refine blk_drew ?_ | refine blk_alloc ?_ _)); refine blk_put (cs := #[.int .i64 0, .slice none 0 0]) ?_ 0 _ rfl; (with_reducible repeat (first | refine blk_drewN ?_ _ | refine blk_drew ?_ | refine blk_alloc ?_ _)); exact BK230.out) Try.underlying70 rfl (by kernel_rfl)) rfl ?_
    exact ⟨_, by first | rfl | (simp [errW_none, errW_some] <;> rfl) | (simp [*, errW_none, errW_some] <;> rfl), by first | exact Kd.R_nil _ _ _ _ _ | exact Kd.N_nil _ _ _ _ _ | exact Kd.V_nil _ _ _ _ _ | exact Kd.Q_nil _ _ _ _ _ | exact Kd.S_nil _ _ _ _ _, xbg⟩
   ·replace c25 := Bool.eq_false_iff.mpr c25
    subst c25
    have H1 : ((spec_l3Find.f kj3 a0_0 l0_1 a1).bind fun t234 => (if t234 < 0 then ((spec_l3Copy.f a0_0 l0_1).bind fun bt235 => (some (bt235.1, bt235.2, 2))) else (if 0 ≤ t234 then (if t234 < (l0_1.length : Int) then (spec_DiskMove.l0 kj3 t234 0 a0_0 l0_1 a2 ((rd_T134 l0_1 t234).f1) ((rd_T134 l0_1 t234).f2) a0_0 ([] : List (S134))) else (none)) else (none)))) = some (r1, r2, r3) := by rw [if_neg (show ¬ (false = true) by decide)] at H; exact H
    clear H; have H := H1; clear H1; replace H := Option.bind_eq_some_iff.mp H
    obtain ⟨t234, A280, H⟩ := H
    replace H : (if t234 < 0 then ((spec_l3Copy.f a0_0 l0_1).bind fun bt235 => (some (bt235.1, bt235.2, 2))) else (if 0 ≤ t234 then (if t234 < (l0_1.length : Int) then (spec_DiskMove.l0 kj3 t234 0 a0_0 l0_1 a2 ((rd_T134 l0_1 t234).f1) ((rd_T134 l0_1 t234).f2) a0_0 ([] : List (S134))) else (none)) else (none))) = some (r1, r2, r3) := H; have A28 := aM A280; clear A280
    by_cases c29 : t234 < 0
    ·rw [if_pos c29] at H
     have c29b0 : decide (t234 < 0) = true := decide_eq_true c29; clear c29; replace H := Option.bind_eq_some_iff.mp H
     obtain ⟨⟨t235, t236⟩, A300, H⟩ := H
     replace H : (some (t235, t236, 2)) = some (r1, r2, r3) := H; have A30 := aM A300; clear A300
     simp only [Option.some.injEq, Prod.mk.injEq] at H
     obtain ⟨rfl, rfl, rfl⟩ := H
     have hnb31 := NB229_230.out; have hnc31 := NB230_229.out; obtain ⟨hcz32_0, hcz32_1, hfz32_0, hfz32_1⟩ := xf2 (w := wc) BK229
     go_wp2_with (first | ((with_reducible refine gate_callee (f := 110) rfl ?_); refine goesL_ (some 33) rfl rfl Try.func110 (by kernel_rfl) rfl #[.agg #[.int .i64 a0_0, .slice A0_1 l0_1.length c0_1], .int .i64 a1] rfl (by (try simp only [List.map_toArray, List.map_cons, List.map_nil]); first | done | rfl | (simp only [List.length_drop, List.length_take]; rfl)) ?_; (with_reducible refine (spec_l3Find.calls kj3 a0_0 _ _ l0_1 a1 t234 _ ?side1 ?side2 A28.out).mono ?_); (case side1 => exact xcb HR0_1); (case side2 => exact HC0_1.out); rintro e w33 ⟨rfl, hb⟩; refine ⟨_, rfl, ?_⟩; replace BK229 := xbb BK229 hb; replace BK230 := xbb BK230 hb; replace HB := xbs hb; (try clear hb); (try clear hb2); (try clear hk); (try clear hi); obtain ⟨hcz34_0, hcz34_1, hfz34_0, hfz34_1⟩ := xf2 (w := w33) BK229) | ((with_reducible refine gate_callee (f := 109) rfl ?_); refine goesL_ (some 37) rfl rfl Try.func109 (by kernel_rfl) rfl #[.agg #[.int .i64 a0_0, .slice A0_1 l0_1.length c0_1]] rfl (by (try simp only [List.map_toArray, List.map_cons, List.map_nil]); first | done | rfl | (simp only [List.length_drop, List.length_take]; rfl)) ?_; (with_reducible refine (spec_l3Copy.calls a0_0 _ _ l0_1 t235 t236 _ ?side1 ?side2 A30.out).mono ?_); (case side1 => exact xcb HR0_1); (case side2 => exact HC0_1.out); rintro e w35 ⟨v237, rfl, ho0, hb⟩; refine ⟨_, rfl, ?_⟩; have HO238 := aM (Kd.R_lower ho0 (below_size xbg)); replace BK229 := xbb BK229 hb; replace BK230 := xbb BK230 hb; replace HB := xbs hb; (try clear hb); (try clear hb2); (try clear hk); (try clear hi); (try clear ho0); obtain ⟨hcz36_0, hcz36_1, hfz36_0, hfz36_1⟩ := xf2 (w := w35) BK230; obtain ⟨Ao37, co37, eo37⟩ := Kd.R_slice HO238.out; subst eo37))
     refine bodyPost_ret (results_ct rfl _ _ gb230 70 #[.int .i64 t235, .slice Ao37 t236.length co37] (0, 0) _ rfl (by (with_reducible repeat (first | refine blk_drewN ?_ _ | refine blk_drew ?_ | refine blk_alloc ?_ _)); refine blk_put (cs := #[.int .i64 t235, .slice none 0 0]) ?_ 1 _ rfl; (with_reducible repeat (first | refine blk_drewN ?_ _ | refine blk_drew ?_ | refine blk_alloc ?_ _)); refine blk_put (cs := #[.int .i64 0, .slice none 0 0]) ?_ 0 _ rfl; (with_reducible repeat (first | refine blk_drewN ?_ _ | refine blk_drew ?_ | refine blk_alloc ?_ _)); exact BK230.out) Try.underlying70 rfl (by kernel_rfl)) rfl ?_
     exact ⟨_, by first | rfl | (simp [errW_none, errW_some] <;> rfl) | (simp [*, errW_none, errW_some] <;> rfl), by (with_reducible repeat (first | apply Kd.R_alloc | apply Kd.R_drewN | apply Kd.R_drew)); exact Kd.R_mono (Kd.R_far (p := ⟨gb230, 1, none⟩) (Kd.R_far (p := ⟨gb230, 0, none⟩) (Kd.R_types HO238.out BK230.out (by decide)) (fun _ hk => hk.2) (.int .i64 t235)) (fun _ hk => hk.2) (.slice Ao37 t236.length co37)) (fun _ hk => trivial), xbg⟩
    ·rw [if_neg c29] at H
     have c29b0 : decide (t234 < 0) = false := decide_eq_false c29; clear c29
     by_cases c38 : 0 ≤ t234
     ·rw [if_pos c38] at H
      have c38b0 : decide (0 ≤ t234) = true := decide_eq_true c38; clear c38
      by_cases c39 : t234 < (l0_1.length : Int)
      ·rw [if_pos c39] at H
       have c39b0 : decide (t234 < (l0_1.length : Int)) = true := decide_eq_true c39; clear c39
       have H' := aM H
       clear H; have hnb40 := NB229_230.out; have hnc40 := NB230_229.out; obtain ⟨hcz41_0, hcz41_1, hfz41_0, hfz41_1⟩ := xf2 (w := wc) BK229
       go_wp2_with (first | ((with_reducible refine gate_callee (f := 110) rfl ?_); refine goesL_ (some 33) rfl rfl Try.func110 (by kernel_rfl) rfl #[.agg #[.int .i64 a0_0, .slice A0_1 l0_1.length c0_1], .int .i64 a1] rfl (by (try simp only [List.map_toArray, List.map_cons, List.map_nil]); first | done | rfl | (simp only [List.length_drop, List.length_take]; rfl)) ?_; (with_reducible refine (spec_l3Find.calls kj3 a0_0 _ _ l0_1 a1 t234 _ ?side1 ?side2 A28.out).mono ?_); (case side1 => exact xcb HR0_1); (case side2 => exact HC0_1.out); rintro e w42 ⟨rfl, hb⟩; refine ⟨_, rfl, ?_⟩; replace BK229 := xbb BK229 hb; replace BK230 := xbb BK230 hb; replace HB := xbs hb; (try clear hb); (try clear hb2); (try clear hk); (try clear hi); obtain ⟨hcz43_0, hcz43_1, hfz43_0, hfz43_1⟩ := xf2 (w := w42) BK229; have p239 : 0 ≤ (t234 : Int) := oda; have q239 : t234 < (l0_1.length : Int) := oda; obtain ⟨ad239, e239, hx239_0, hx239_1, hx239_2⟩ := at_T134 HR0_1.out t234 p239 q239; cases e239; replace hx239_0 := xce HB hx239_0; replace hx239_1 := xce HB hx239_1; replace hx239_2 := xce HB hx239_2; replace p239 := eq_true p239; replace q239 := eq_true q239) | ((with_reducible refine gate_dst (N := 9) rfl ?_); refine box_event ?hg (N := 9) ?hd (cs := #[.int .i64 0, .string (⟨#[]⟩ : ByteArray), .string (⟨#[]⟩ : ByteArray)]) (t := 134) ?hr ?_; (case hd => rfl); (case hg => rfl); (case hr => first | (go_simp; done) | (go_simp; rfl)); intro gb240 hg w44 hbox hb; have GW240 := aM (xge hg); have GE240 := aM (xge hg); replace HB := xbs hb; have NB229_240 := aM ((by rw [hg]; exact Nat.ne_of_lt (blk_lt (g := gb229) (o := .cells #[.int .i64 a0_0, .slice (some ad239) l0_1.length c0_1] 70 (0, 0)) xblk) : gb229 ≠ gb240)); have NB240_229 := aM ((by rw [hg]; exact Nat.ne_of_gt (blk_lt (g := gb229) (o := .cells #[.int .i64 a0_0, .slice (some ad239) l0_1.length c0_1] 70 (0, 0)) xblk) : gb240 ≠ gb229)); have NB230_240 := aM ((by rw [hg]; exact Nat.ne_of_lt (blk_lt (g := gb230) (o := .cells #[.int .i64 0, .slice none 0 0] 70 (0, 0)) xblk) : gb230 ≠ gb240)); have NB240_230 := aM ((by rw [hg]; exact Nat.ne_of_gt (blk_lt (g := gb230) (o := .cells #[.int .i64 0, .slice none 0 0] 70 (0, 0)) xblk) : gb240 ≠ gb230)); replace BK229 := xbb BK229 hb; replace BK230 := xbb BK230 hb; have BK240 := aM (hbox); clear hb hbox hg; have hnb45 := NB240_229.out; have hnc45 := NB229_240.out; have hnb46 := NB240_230.out; have hnc46 := NB230_240.out; obtain ⟨hcz47_0, hcz47_1, hcz47_2, hfz47_0, hfz47_1, hfz47_2⟩ := xf3 (w := w44) BK240) | ((with_reducible refine gate_store (t := 3) (p := 44) rfl ?_); refine store_event (t := 3) (p := 44) (v := ?vo_w48) (w1 := ((((w44.setCell ⟨gb240, 0, none⟩ (.int .i64 ((rd_T134 l0_1 t234).f0))).setCell ⟨gb240, 1, none⟩ (.string ((rd_T134 l0_1 t234).f1))).setCell ⟨gb240, 2, none⟩ (.string ((rd_T134 l0_1 t234).f2))).setCell ⟨gb240, 0, none⟩ (.int .i64 a2))) ?hg ?ho ?hn ?hr ?_; (case ho | hg | hn => rfl); (case hr => first | (go_simp; done) | (go_simp; rfl)); intro w48 hw; replace BK229 : Aside0 (w48.heap[gb229]? = some (.cells #[.int .i64 a0_0, .slice (some ad239) l0_1.length c0_1] 70 (0, 0))) := ⟨(by rw [hw]; exact (by (with_reducible repeat (first | refine blk_drewN ?_ _ | refine blk_drew ?_ | refine blk_alloc ?_ _)); refine blk_far ?_ NB229_240.out _; (with_reducible repeat (first | refine blk_drewN ?_ _ | refine blk_drew ?_ | refine blk_alloc ?_ _)); refine blk_far ?_ NB229_240.out _; (with_reducible repeat (first | refine blk_drewN ?_ _ | refine blk_drew ?_ | refine blk_alloc ?_ _)); refine blk_far ?_ NB229_240.out _; (with_reducible repeat (first | refine blk_drewN ?_ _ | refine blk_drew ?_ | refine blk_alloc ?_ _)); refine blk_far ?_ NB229_240.out _; (with_reducible repeat (first | refine blk_drewN ?_ _ | refine blk_drew ?_ | refine blk_alloc ?_ _)); exact BK229.out))⟩; replace BK230 : Aside0 (w48.heap[gb230]? = some (.cells #[.int .i64 0, .slice none 0 0] 70 (0, 0))) := ⟨(by rw [hw]; exact (by (with_reducible repeat (first | refine blk_drewN ?_ _ | refine blk_drew ?_ | refine blk_alloc ?_ _)); refine blk_far ?_ NB230_240.out _; (with_reducible repeat (first | refine blk_drewN ?_ _ | refine blk_drew ?_ | refine blk_alloc ?_ _)); refine blk_far ?_ NB230_240.out _; (with_reducible repeat (first | refine blk_drewN ?_ _ | refine blk_drew ?_ | refine blk_alloc ?_ _)); refine blk_far ?_ NB230_240.out _; (with_reducible repeat (first | refine blk_drewN ?_ _ | refine blk_drew ?_ | refine blk_alloc ?_ _)); refine blk_far ?_ NB230_240.out _; (with_reducible repeat (first | refine blk_drewN ?_ _ | refine blk_drew ?_ | refine blk_alloc ?_ _)); exact BK230.out))⟩; replace BK240 : Aside0 (w48.heap[gb240]? = some (.cells #[.int .i64 a2, .string ((rd_T134 l0_1 t234).f1), .string ((rd_T134 l0_1 t234).f2)] 134 (0, 0))) := ⟨(by rw [hw]; exact (by (with_reducible repeat (first | refine blk_drewN ?_ _ | refine blk_drew ?_ | refine blk_alloc ?_ _)); refine blk_put (cs := #[.int .i64 ((rd_T134 l0_1 t234).f0), .string ((rd_T134 l0_1 t234).f1), .string ((rd_T134 l0_1 t234).f2)]) ?_ 0 _ rfl; (with_reducible repeat (first | refine blk_drewN ?_ _ | refine blk_drew ?_ | refine blk_alloc ?_ _)); refine blk_put (cs := #[.int .i64 ((rd_T134 l0_1 t234).f0), .string ((rd_T134 l0_1 t234).f1), .string (⟨#[]⟩ : ByteArray)]) ?_ 2 _ rfl; (with_reducible repeat (first | refine blk_drewN ?_ _ | refine blk_drew ?_ | refine blk_alloc ?_ _)); refine blk_put (cs := #[.int .i64 ((rd_T134 l0_1 t234).f0), .string (⟨#[]⟩ : ByteArray), .string (⟨#[]⟩ : ByteArray)]) ?_ 1 _ rfl; (with_reducible repeat (first | refine blk_drewN ?_ _ | refine blk_drew ?_ | refine blk_alloc ?_ _)); refine blk_put (cs := #[.int .i64 0, .string (⟨#[]⟩ : ByteArray), .string (⟨#[]⟩ : ByteArray)]) ?_ 0 _ rfl; (with_reducible repeat (first | refine blk_drewN ?_ _ | refine blk_drew ?_ | refine blk_alloc ?_ _)); exact BK240.out))⟩; replace HB : Aside0 (Below w.heap.size w w48) := ⟨(by rw [hw]; exact xbg)⟩; clear hw; obtain ⟨hcz49_0, hcz49_1, hfz49_0, hfz49_1⟩ := xf2 (w := w48) BK229) | ((with_reducible refine gate_dst (N := 10) rfl ?_); refine box_event ?hg (N := 10) ?hd (cs := #[.int .i64 0, .slice none 0 0]) (t := 70) ?hr ?_; (case hd => rfl); (case hg => rfl); (case hr => first | (go_simp; done) | (go_simp; rfl)); intro gb241 hg w50 hbox hb; have GW241 := aM (xge hg); have GE241 := aM (xge hg); replace HB := xbs hb; have NB229_241 := aM ((by rw [hg]; exact Nat.ne_of_lt (blk_lt (g := gb229) (o := .cells #[.int .i64 a0_0, .slice (some ad239) l0_1.length c0_1] 70 (0, 0)) xblk) : gb229 ≠ gb241)); have NB241_229 := aM ((by rw [hg]; exact Nat.ne_of_gt (blk_lt (g := gb229) (o := .cells #[.int .i64 a0_0, .slice (some ad239) l0_1.length c0_1] 70 (0, 0)) xblk) : gb241 ≠ gb229)); have NB230_241 := aM ((by rw [hg]; exact Nat.ne_of_lt (blk_lt (g := gb230) (o := .cells #[.int .i64 0, .slice none 0 0] 70 (0, 0)) xblk) : gb230 ≠ gb241)); have NB241_230 := aM ((by rw [hg]; exact Nat.ne_of_gt (blk_lt (g := gb230) (o := .cells #[.int .i64 0, .slice none 0 0] 70 (0, 0)) xblk) : gb241 ≠ gb230)); have NB240_241 := aM ((by rw [hg]; exact Nat.ne_of_lt (blk_lt (g := gb240) (o := .cells #[.int .i64 a2, .string ((rd_T134 l0_1 t234).f1), .string ((rd_T134 l0_1 t234).f2)] 134 (0, 0)) xblk) : gb240 ≠ gb241)); have NB241_240 := aM ((by rw [hg]; exact Nat.ne_of_gt (blk_lt (g := gb240) (o := .cells #[.int .i64 a2, .string ((rd_T134 l0_1 t234).f1), .string ((rd_T134 l0_1 t234).f2)] 134 (0, 0)) xblk) : gb241 ≠ gb240)); replace BK229 := xbb BK229 hb; replace BK230 := xbb BK230 hb; replace BK240 := xbb BK240 hb; have BK241 := aM (hbox); clear hb hbox hg; have hnb51 := NB241_229.out; have hnc51 := NB229_241.out; have hnb52 := NB241_230.out; have hnc52 := NB230_241.out; have hnb53 := NB241_240.out; have hnc53 := NB240_241.out; obtain ⟨hcz54_0, hcz54_1, hfz54_0, hfz54_1⟩ := xf2 (w := w50) BK241))
       go_loopg [11] kj3 (fun kq v11 w' => ∃ (x11_2 : Int) (x242001_2 : List (S134)) (u242001 : Value), v11 = .int .i64 x11_2 ∧ Aside0 (spec_DiskMove.l0 kq t234 x11_2 a0_0 l0_1 a2 ((rd_T134 l0_1 t234).f1) ((rd_T134 l0_1 t234).f2) a0_0 x242001_2 = some (r1, r2, r3)) ∧ Aside0 (kq ≤ kj3) ∧ Aside0 (Kd.R k134 134 w' w.heap.size (fun k_ => k_ ≠ gb240) u242001 x242001_2) ∧ Aside0 (w'.heap[gb229]? = some (.cells #[.int .i64 a0_0, (.slice (some ad239) l0_1.length c0_1)] 70 (0, 0))) ∧ Aside0 (w'.heap[gb230]? = some (.cells #[.int .i64 0, (.slice none 0 0)] 70 (0, 0))) ∧ Aside0 (w'.heap[gb240]? = some (.cells #[.int .i64 a2, .string ((rd_T134 l0_1 t234).f1), .string ((rd_T134 l0_1 t234).f2)] 134 (0, 0))) ∧ Aside0 (w'.heap[gb241]? = some (.cells #[.int .i64 a0_0, u242001] 70 (0, 0))) ∧ Aside0 (Below w.heap.size w w'))
       case atStart => exact ⟨(0), (([] : List (S134))), (.slice none 0 0), (by first | rfl | (simp; done) | (simp [*]; done)), H', ⟨Nat.le_refl _⟩, ⟨by first | exact Kd.R_nil _ _ _ _ _ | exact Kd.N_nil _ _ _ _ _ | exact Kd.V_nil _ _ _ _ _ | exact Kd.Q_nil _ _ _ _ _ | exact Kd.S_nil _ _ _ _ _⟩, ⟨by (with_reducible repeat (first | refine blk_drewN ?_ _ | refine blk_drew ?_ | refine blk_alloc ?_ _)); refine blk_far ?_ NB229_241.out _; (with_reducible repeat (first | refine blk_drewN ?_ _ | refine blk_drew ?_ | refine blk_alloc ?_ _)); refine blk_far ?_ NB229_241.out _; (with_reducible repeat (first | refine blk_drewN ?_ _ | refine blk_drew ?_ | refine blk_alloc ?_ _)); exact BK229.out⟩, ⟨by (with_reducible repeat (first | refine blk_drewN ?_ _ | refine blk_drew ?_ | refine blk_alloc ?_ _)); refine blk_far ?_ NB230_241.out _; (with_reducible repeat (first | refine blk_drewN ?_ _ | refine blk_drew ?_ | refine blk_alloc ?_ _)); refine blk_far ?_ NB230_241.out _; (with_reducible repeat (first | refine blk_drewN ?_ _ | refine blk_drew ?_ | refine blk_alloc ?_ _)); exact BK230.out⟩, ⟨by (with_reducible repeat (first | refine blk_drewN ?_ _ | refine blk_drew ?_ | refine blk_alloc ?_ _)); refine blk_far ?_ NB240_241.out _; (with_reducible repeat (first | refine blk_drewN ?_ _ | refine blk_drew ?_ | refine blk_alloc ?_ _)); refine blk_far ?_ NB240_241.out _; (with_reducible repeat (first | refine blk_drewN ?_ _ | refine blk_drew ?_ | refine blk_alloc ?_ _)); exact BK240.out⟩, ⟨by (with_reducible repeat (first | refine blk_drewN ?_ _ | refine blk_drew ?_ | refine blk_alloc ?_ _)); refine blk_put (cs := #[.int .i64 a0_0, .slice none 0 0]) ?_ 1 _ rfl; (with_reducible repeat (first | refine blk_drewN ?_ _ | refine blk_drew ?_ | refine blk_alloc ?_ _)); refine blk_put (cs := #[.int .i64 0, .slice none 0 0]) ?_ 0 _ rfl; (with_reducible repeat (first | refine blk_drewN ?_ _ | refine blk_drew ?_ | refine blk_alloc ?_ _)); exact BK241.out⟩, ⟨xbg⟩⟩
       case round =>
        clear H'
        try clear c1
        try clear c2
        try clear p2
        try clear q2
        try clear hx2
        try clear c3
        try clear c4
        try clear c5
        try clear c8
        try clear c10
        try clear c11
        try clear c12
        try clear c13
        try clear c16
        try clear c19
        try clear c22
        try clear p23
        try clear q23
        try clear hx23
        try clear c25
        try clear c26
        try clear c29
        try clear c29b0
        try clear c31
        try clear c38
        try clear c38b0
        try clear c39
        try clear c39b0
        try clear c40
        try clear c44
        try clear c45
        try clear c46
        try clear c51
        try clear c52
        try clear c53
        try clear hcz14_0
        try clear hcz14_1
        try clear hcz17_0
        try clear hcz17_1
        try clear hcz20_0
        try clear hcz20_1
        try clear hcz23_0
        try clear hcz23_1
        try clear hcz27_0
        try clear hcz27_1
        try clear hcz32_0
        try clear hcz32_1
        try clear hcz34_0
        try clear hcz34_1
        try clear hcz36_0
        try clear hcz36_1
        try clear hcz41_0
        try clear hcz41_1
        try clear hcz43_0
        try clear hcz43_1
        try clear hcz47_0
        try clear hcz47_1
        try clear hcz47_2
        try clear hcz49_0
        try clear hcz49_1
        try clear hcz54_0
        try clear hcz54_1
        try clear hfz14_0
        try clear hfz14_1
        try clear hfz17_0
        try clear hfz17_1
        try clear hfz20_0
        try clear hfz20_1
        try clear hfz23_0
        try clear hfz23_1
        try clear hfz27_0
        try clear hfz27_1
        try clear hfz32_0
        try clear hfz32_1
        try clear hfz34_0
        try clear hfz34_1
        try clear hfz36_0
        try clear hfz36_1
        try clear hfz41_0
        try clear hfz41_1
        try clear hfz43_0
        try clear hfz43_1
        try clear hfz47_0
        try clear hfz47_1
        try clear hfz47_2
        try clear hfz49_0
        try clear hfz49_1
        try clear hfz54_0
        try clear hfz54_1
        try clear hx239_0
        try clear hx239_1
        try clear hx239_2
        try clear p2
        try clear p239
        try clear q239
        obtain ⟨x11_2, x242001_2, u242001, rfl, HA, HK2, HO_242001, BK229, BK230, BK240, BK241, HB⟩ := hrel
        cases gk with
        | zero => exact absurd HA.out (by simp [spec_DiskMove.l0])
        | succ k2 =>
         have H := HA.out; clear HA
         simp only [spec_DiskMove.l0] at H
         by_cases c55 : x11_2 < (l0_1.length : Int)
         ·rw [if_pos c55] at H
          have c55b0 : decide (x11_2 < (l0_1.length : Int)) = true := decide_eq_true c55; clear c55
          by_cases c56 : x11_2 = t234
          ·rw [if_pos c56] at H
           have c56b0 : (x11_2 == t234) = true := beq_iff_eq.mpr c56; have c56b1 : (x11_2 != t234) = false := bne_eq_false_iff_eq.mpr c56; clear c56
           have H' := aM H
           clear H; have hnb57 := NB229_230.out; have hnc57 := NB230_229.out; have hnb58 := NB229_240.out; have hnc58 := NB240_229.out; have hnb59 := NB229_241.out; have hnc59 := NB241_229.out; obtain ⟨hcz60_0, hcz60_1, hfz60_0, hfz60_1⟩ := xf2 (w := wr) BK229
           go_wp2
           go_roundg k2
           case measure => have := HJ3.out; have := HK2.out; omega
           case rel => exact ⟨(wrap64 (x11_2 + 1)), (x242001_2), (u242001), (by first | rfl | (simp; done) | (simp [*]; done)), H', ⟨by have := HJ3.out; have := HK2.out; omega⟩, ⟨by (with_reducible repeat (first | apply Kd.R_alloc | apply Kd.R_drewN | apply Kd.R_drew)); exact HO_242001.out⟩, ⟨xblk⟩, ⟨xblk⟩, ⟨xblk⟩, ⟨xblk⟩, ⟨xbg⟩⟩
          ·rw [if_neg c56] at H
           have c56b0 : (x11_2 == t234) = false := beq_eq_false_iff_ne.mpr c56; have c56b1 : (x11_2 != t234) = true := bne_iff_ne.mpr c56
           by_cases c61 : 0 ≤ x11_2
           ·rw [if_pos c61] at H
            have c61b0 : decide (0 ≤ x11_2) = true := decide_eq_true c61; clear c61
            by_cases c62 : x242001_2.length < 3518437208883
            ·rw [if_pos c62] at H
             have LMc62 := aM c62; clear c62
             obtain ⟨y243, hy243⟩ : ∃ y_ : List (S134), y_ = (x242001_2 ++ [(⟨(rd_T134 l0_1 x11_2).f0, (rd_T134 l0_1 x11_2).f1, (rd_T134 l0_1 x11_2).f2⟩ : S134)]) := ⟨_, rfl⟩
             replace H : (spec_DiskMove.l0 k2 t234 (wrap64 (x11_2 + 1)) a0_0 l0_1 a2 ((rd_T134 l0_1 t234).f1) ((rd_T134 l0_1 t234).f2) a0_0 y243) = some (r1, r2, r3) := by first | (rw [hy243]; with_reducible exact H) | (have H2_ := (Option.bind_some _ _).symm.trans H; rw [hy243]; with_reducible exact H2_) | (have H2_ := (Option.bind_some _ _).symm.trans H; with_reducible exact H2_) | with_reducible exact H | (rw [hy243]; exact H) | exact H
             have Ny243 := aM hy243; clear hy243
             have H' := aM H
             clear H; have hnb63 := NB229_230.out; have hnc63 := NB230_229.out; have hnb64 := NB229_240.out; have hnc64 := NB240_229.out; have hnb65 := NB229_241.out; have hnc65 := NB241_229.out; obtain ⟨hcz66_0, hcz66_1, hfz66_0, hfz66_1⟩ := xf2 (w := wr) BK229
             try go_wp2
             replace HO_242001 := aM (Kd.R_drew HO_242001.out); replace BK229 := aM (blk_drew BK229.out); replace BK230 := aM (blk_drew BK230.out); replace BK240 := aM (blk_drew BK240.out); replace BK241 := aM (blk_drew BK241.out); replace HB := aM (below_drew1 HB.out); have p242 : 0 ≤ (x11_2 : Int) := oda; have q242 : x11_2 < (l0_1.length : Int) := oda
             obtain ⟨ad242, e242, hx242_0, hx242_1, hx242_2⟩ := at_T134 HR0_1.out x11_2 p242 q242
             have hw242_2 := hx242_2; have hw242_1 := hx242_1; have hw242_0 := hx242_0
             obtain rfl : ad239 = ad242 := (by injection e242)
             replace hx242_0 := xce HB hx242_0; replace hx242_1 := xce HB hx242_1; replace hx242_2 := xce HB hx242_2; replace p242 := eq_true p242; replace q242 := eq_true q242
             refine start_ (n := 11) (S := fun w' => w'.cell? ⟨gb241, 0, none⟩ = some (.int .i64 a0_0) ∧ w'.cell? ⟨gb241, 1, none⟩ = some (u242001) ∧ w'.cell? ⟨gb229, 0, none⟩ = some (.int .i64 a0_0) ∧ w'.cell? ⟨gb229, 1, none⟩ = some (.slice (some ad239) l0_1.length c0_1) ∧ w'.cell? (ad239.add ((x11_2).toNat * 3)) = some (.int .i64 ((rd_T134 l0_1 x11_2).f0)) ∧ w'.cell? ⟨(ad239.add ((x11_2).toNat * 3)).block, (ad239.add ((x11_2).toNat * 3)).off + 1, none⟩ = some (.string ((rd_T134 l0_1 x11_2).f1)) ∧ w'.cell? ⟨(ad239.add ((x11_2).toNat * 3)).block, (ad239.add ((x11_2).toNat * 3)).off + 2, none⟩ = some (.string ((rd_T134 l0_1 x11_2).f2))) (ds := [10]) #[false, false, false, false, false, false, false, false, false, false, false] (by kernel_rfl) rfl rfl ⟨xc BK241 0 rfl, xc BK241 1 rfl, xc BK229 0 rfl, xc BK229 1 rfl, (xce HB hw242_0), (xce HB hw242_1), (xce HB hw242_2)⟩ (fun hHeld => ?_); refine with_tabW spec_DiskMove.tab13 spec_DiskMove.bits13 (fun HT_ HW_ => ?_)
             generalize wr.drew = w67 at HO_242001 BK229 BK230 BK240 BK241 HB hx242_0 hx242_1 hx242_2 hHeld ⊢
             refine pv_ 0 58 (h := ?_)
             refine pv_ 2 60 (h := ?_)
             refine pv_ 4 62 (h := ?_)
             refine tk_ 1 59 (h := ?_)
             refine tk_ 3 61 (h := ?_)
             refine pv_ 5 63 (h := ?_)
             refine tk_ 6 64 (h := ?_)
             refine on_ 7 65 (h := fun K hK => ?_)
             refine value_ (w1 := ?_) (v := ?_) (by rfl) rfl ?_ ?_
             rotate_left 2
             ·go_simp
              constructor
              ·rfl
              ·rfl
             refine hK.out _ _ ⟨(blk_cell (blk_alloc BK241.out _) 0).trans rfl, (blk_cell (blk_alloc BK241.out _) 1).trans rfl, (blk_cell (blk_alloc BK229.out _) 0).trans rfl, (blk_cell (blk_alloc BK229.out _) 1).trans rfl, (World.cell?_alloc_lt _ _ _ (World.block_lt_of_cell? _ _ ((xce HB hw242_0)))).trans ((xce HB hw242_0)), (World.cell?_alloc_lt _ _ _ (World.block_lt_of_cell? _ _ ((xce HB hw242_1)))).trans ((xce HB hw242_1)), (World.cell?_alloc_lt _ _ _ (World.block_lt_of_cell? _ _ ((xce HB hw242_2)))).trans ((xce HB hw242_2))⟩ (fun hHeld => ?_)
             clear hK K
             refine norm_ (a' := ?_) ?_ ?_
             rotate_left
             ·show Act.put _ (some 65) _ = _
              simp only [Act.put, List.setIfInBounds_toArray, List.set_cons_zero, List.set_cons_succ, i64_w, i32_w]
              rfl
             refine on_ 8 66 (h := fun K hK => ?_)
             refine Kd.R_append_step k134 (w0 := w) w.heap.size (by rfl) (.tmp 59) (.tmp 65) 68 134 (.agg #[(.int .i64 0), (.string ⟨#[]⟩), (.string ⟨#[]⟩)]) 40 rfl Try.underlying68 info134 rfl (by decide) (by omega) u242001 x242001_2 (⟨(rd_T134 l0_1 x11_2).f0, (rd_T134 l0_1 x11_2).f1, (rd_T134 l0_1 x11_2).f2⟩ : S134) [.int .i64 ((rd_T134 l0_1 x11_2).f0), .string ((rd_T134 l0_1 x11_2).f1), .string ((rd_T134 l0_1 x11_2).f2)] (fun k_ => k_ ≠ gb240) (fun _ => False) rfl rfl ?aP (fun _ hk => hk.elim) ?aF ?aO ?aB ?aS ?aL ?_
             (case aP => exact k134_mkM _ _ _ (⟨(rd_T134 l0_1 x11_2).f0, (rd_T134 l0_1 x11_2).f1, (rd_T134 l0_1 x11_2).f2⟩ : S134))
             (case aB => exact xbg)
             (case aF => exact (fun k_ hk => Kd.freshB (g := gb240) (o := .cells #[.int .i64 a2, .string ((rd_T134 l0_1 t234).f1), .string ((rd_T134 l0_1 t234).f2)] 134 (0, 0)) xblk k_ hk))
             (case aO => exact (xr HO_242001))
             (case aS => exact (below_size xbg))
             (case aL => have := LMc62.out; omega)
             intro v244 w68 ho hb hg hat
             rw [← Ny243.out] at ho
             have n0_ := aM (blk_grown (g := gb229) (o := .cells #[.int .i64 a0_0, .slice (some ad239) l0_1.length c0_1] 70 (0, 0)) xblk hg (Kd.R_ne HO_242001.out BK229.out (by decide))); have n1_ := aM (blk_grown (g := gb230) (o := .cells #[.int .i64 0, .slice none 0 0] 70 (0, 0)) xblk hg (Kd.R_ne HO_242001.out BK230.out (by decide))); have n2_ := aM (blk_grown (g := gb240) (o := .cells #[.int .i64 a2, .string ((rd_T134 l0_1 t234).f1), .string ((rd_T134 l0_1 t234).f2)] 134 (0, 0)) xblk hg (Kd.R_away HO_242001.out (fun _ hk => hk))); have n3_ := aM (blk_grown (g := gb241) (o := .cells #[.int .i64 a0_0, u242001] 70 (0, 0)) xblk hg (Kd.R_ne HO_242001.out BK241.out (by decide))); have n4_ := aM (hb); have n5_ := aM (ho); clear BK229 BK230 BK240 BK241 HB HO_242001; have BK229 := n0_; have BK230 := n1_; have BK240 := n2_; have BK241 := n3_; have HB := n4_; have HO245 := n5_; clear n0_ n1_ n2_ n3_ n4_ n5_ ho hb hg hat
             obtain ⟨Ao69, co69, eo69⟩ := Kd.R_slice HO245.out
             (first | subst eo69 | (injection eo69 with f1_ f2_ f3_; have f4_ := f1_.symm; have f5_ := f3_.symm; clear f1_ f2_ f3_; subst f4_; subst f5_))
             refine hK.out _ _ ⟨xc BK241 0 rfl, xc BK241 1 rfl, xc BK229 0 rfl, xc BK229 1 rfl, (xce HB hw242_0), (xce HB hw242_1), (xce HB hw242_2)⟩ (fun hHeld => ?_)
             clear hK K
             refine norm_ (a' := ?_) ?_ ?_
             rotate_left
             ·show Act.put _ (some 66) _ = _
              simp only [Act.put, List.setIfInBounds_toArray, List.set_cons_zero, List.set_cons_succ, i64_w, i32_w]
              rfl
             refine pv_ 9 67 (h := ?_)
             refine last_ (i := 10) (N := none) #[true, true, true, true, true, true, true, true, true, true, true] rfl rfl (one_of HT_.out (by kernel_rfl)) (by decide) (fun K hK => ?_)
             have hs70 : w68.cell? ⟨gb241, 1, none⟩ = some (u242001) := xc BK241 1 rfl; have hfs70 := blk_frozen BK241.out 1; have hns70_0 := NB229_241.out; have hns70_1 := NB230_241.out; have hns70_2 := NB240_241.out; have hms70_0 := NB241_229.out; have hms70_1 := NB241_230.out; have hms70_2 := NB241_240.out
             refine skip_ (w1 := ?_) (by rfl) rfl ?_ ?_
             rotate_left
             ·go_simp
              rfl
             refine hK.out _ _ ?_
             clear hK K
             refine done_ (done_of HT_.out (by kernel_rfl)) ?_
             try go_wp2
             go_roundg k2
             case measure => have := HJ3.out; have := HK2.out; omega
             case rel => exact ⟨(wrap64 (x11_2 + 1)), (y243), (.slice Ao69 y243.length co69), (by first | rfl | (simp; done) | (simp [*]; done)), H', ⟨by have := HJ3.out; have := HK2.out; omega⟩, ⟨by (with_reducible repeat (first | apply Kd.R_alloc | apply Kd.R_drewN | apply Kd.R_drew)); exact Kd.R_mono (Kd.R_far (p := ⟨gb241, 1, none⟩) (Kd.R_types HO245.out BK241.out (by decide)) (fun _ hk => hk.2) (.slice Ao69 y243.length co69)) (fun _ hk => hk.1)⟩, ⟨by (with_reducible repeat (first | refine blk_drewN ?_ _ | refine blk_drew ?_ | refine blk_alloc ?_ _)); refine blk_far ?_ NB229_241.out _; (with_reducible repeat (first | refine blk_drewN ?_ _ | refine blk_drew ?_ | refine blk_alloc ?_ _)); exact BK229.out⟩, ⟨by (with_reducible repeat (first | refine blk_drewN ?_ _ | refine blk_drew ?_ | refine blk_alloc ?_ _)); refine blk_far ?_ NB230_241.out _; (with_reducible repeat (first | refine blk_drewN ?_ _ | refine blk_drew ?_ | refine blk_alloc ?_ _)); exact BK230.out⟩, ⟨by (with_reducible repeat (first | refine blk_drewN ?_ _ | refine blk_drew ?_ | refine blk_alloc ?_ _)); refine blk_far ?_ NB240_241.out _; (with_reducible repeat (first | refine blk_drewN ?_ _ | refine blk_drew ?_ | refine blk_alloc ?_ _)); exact BK240.out⟩, ⟨by (with_reducible repeat (first | refine blk_drewN ?_ _ | refine blk_drew ?_ | refine blk_alloc ?_ _)); refine blk_put (cs := #[.int .i64 a0_0, u242001]) ?_ 1 _ rfl; (with_reducible repeat (first | refine blk_drewN ?_ _ | refine blk_drew ?_ | refine blk_alloc ?_ _)); exact BK241.out⟩, ⟨xbg⟩⟩
            ·rw [if_neg c62] at H
             exact absurd H (by simp)
           ·rw [if_neg c61] at H
            exact absurd H (by simp)
         ·rw [if_neg c55] at H
          have c55b0 : decide (x11_2 < (l0_1.length : Int)) = false := decide_eq_false c55; clear c55; replace H := Option.bind_eq_some_iff.mp H
          obtain ⟨⟨t246, t247⟩, A710, H⟩ := H
          replace H : (some (t246, t247, 0)) = some (r1, r2, r3) := H; have A71 := aM A710; clear A710
          simp only [Option.some.injEq, Prod.mk.injEq] at H
          obtain ⟨rfl, rfl, rfl⟩ := H
          have hnb72 := NB229_230.out; have hnc72 := NB230_229.out; have hnb73 := NB229_240.out; have hnc73 := NB240_229.out; have hnb74 := NB229_241.out; have hnc74 := NB241_229.out; obtain ⟨hcz75_0, hcz75_1, hfz75_0, hfz75_1⟩ := xf2 (w := wr) BK229; have hnb76 := NB241_230.out; have hnc76 := NB230_241.out; have hnb77 := NB241_240.out; have hnc77 := NB240_241.out; obtain ⟨hcz78_0, hcz78_1, hfz78_0, hfz78_1⟩ := xf2 (w := wr) BK241; have hnb79 := NB240_230.out; have hnc79 := NB230_240.out; obtain ⟨hcz80_0, hcz80_1, hcz80_2, hfz80_0, hfz80_1, hfz80_2⟩ := xf3 (w := wr) BK240
          obtain ⟨Ao81, co81, eo81⟩ := Kd.R_slice HO_242001.out
          subst eo81
          go_wp2_with (first | ((with_reducible refine gate_callee (f := 111) rfl ?_); refine goesL_ (some 70) rfl rfl Try.func111 (by kernel_rfl) rfl #[.agg #[.int .i64 a0_0, .slice Ao81 x242001_2.length co81], .agg #[.int .i64 a2, .string ((rd_T134 l0_1 t234).f1), .string ((rd_T134 l0_1 t234).f2)]] rfl (by (try simp only [List.map_toArray, List.map_cons, List.map_nil]); first | done | rfl | (simp only [List.length_drop, List.length_take]; rfl)) ?_; (with_reducible refine (spec_l3Put.calls k2 a0_0 _ _ x242001_2 a2 ((rd_T134 l0_1 t234).f1) ((rd_T134 l0_1 t234).f2) t246 t247 _ ?side1 ?side2 A71.out).mono ?_); (case side1 => repeat (first | exact (Kd.R_reads' HO_242001.out).2.2 | (with_reducible refine Kd.C_alloc ?_ _) | (with_reducible refine Kd.C_drewN ?_ _) | (with_reducible refine Kd.C_drew ?_))); (case side2 => exact (Kd.R_reads' HO_242001.out).2.1); rintro e w82 ⟨v248, rfl, ho0, hb⟩; refine ⟨_, rfl, ?_⟩; have HO249 := aM (Kd.R_lower (Kd.R_newB (Kd.R_new' ho0 (Kd.R_lt (xr HO_242001))) (g := gb240) (o := .cells #[.int .i64 a2, .string ((rd_T134 l0_1 t234).f1), .string ((rd_T134 l0_1 t234).f2)] 134 (0, 0)) xblk) (below_size xbg)); replace HO_242001 := aM (Kd.R_elder' (xr HO_242001) (Kd.R_base ho0) hb); replace BK229 := xbb BK229 hb; replace BK230 := xbb BK230 hb; replace BK240 := xbb BK240 hb; replace BK241 := xbb BK241 hb; replace HB := xbs hb; (try clear hb); (try clear hb2); (try clear hk); (try clear hi); (try clear ho0); obtain ⟨hcz83_0, hcz83_1, hfz83_0, hfz83_1⟩ := xf2 (w := w82) BK230; obtain ⟨Ao84, co84, eo84⟩ := Kd.R_slice HO249.out; subst eo84))
          refine bodyPost_ret (results_ct rfl _ _ gb230 70 #[.int .i64 t246, .slice Ao84 t247.length co84] (0, 0) _ rfl (by (with_reducible repeat (first | refine blk_drewN ?_ _ | refine blk_drew ?_ | refine blk_alloc ?_ _)); refine blk_put (cs := #[.int .i64 t246, .slice none 0 0]) ?_ 1 _ rfl; (with_reducible repeat (first | refine blk_drewN ?_ _ | refine blk_drew ?_ | refine blk_alloc ?_ _)); refine blk_put (cs := #[.int .i64 0, .slice none 0 0]) ?_ 0 _ rfl; (with_reducible repeat (first | refine blk_drewN ?_ _ | refine blk_drew ?_ | refine blk_alloc ?_ _)); exact BK230.out) Try.underlying70 rfl (by kernel_rfl)) rfl ?_
          exact ⟨_, by first | rfl | (simp [errW_none, errW_some] <;> rfl) | (simp [*, errW_none, errW_some] <;> rfl), by (with_reducible repeat (first | apply Kd.R_alloc | apply Kd.R_drewN | apply Kd.R_drew)); exact Kd.R_mono (Kd.R_far (p := ⟨gb230, 1, none⟩) (Kd.R_far (p := ⟨gb230, 0, none⟩) (Kd.R_types HO249.out BK230.out (by decide)) (fun _ hk => hk.2) (.int .i64 t246)) (fun _ hk => hk.2) (.slice Ao84 t247.length co84)) (fun _ hk => trivial), xbg⟩
      ·rw [if_neg c39] at H
       exact absurd H (by simp)
     ·rw [if_neg c38] at H
      exact absurd H (by simp)

/-! ### spec_l1DrawBytes: function 159 -/
def spec_l1DrawBytes.l0 : Nat → List Int → Int → Int → List Int → Int → Int → Option (List Int × Int × Int)
 | 0, _, _, _, _, _, _ => none
 | k + 1, x5, x6, x7, x1000, x1001, x1002 => if x7 < x6 then ((spec_l1Byte.f x1000 x1001 x1002).bind fun bt256 => (if x5.length < 140737488355328 then (spec_l1DrawBytes.l0 k (x5 ++ [(bt256.1) % 256]) x6 (wrap64 (x7 + 1)) x1000 bt256.2.1 bt256.2.2) else (none))) else (some (x5, x1001, x1002))
def spec_l1DrawBytes.f (k : Nat) (s0_0 : List Int) (s0_1 : Int) (s0_2 : Int) (a1 : Int) : Option (List Int × Int × Int) := (spec_l1Below.f s0_0 s0_1 s0_2 (wrap64 (a1 + 1))).bind fun bt253 => (spec_l1DrawBytes.l0 k (([] : List Int)) bt253.1 0 s0_0 bt253.2.1 bt253.2.2)
set_option maxRecDepth 100000 in
theorem spec_l1DrawBytes.mono_l : ∀ k, (∀ y0 y1 y2 y3 y4 y5, LeO (spec_l1DrawBytes.l0 k y0 y1 y2 y3 y4 y5) (spec_l1DrawBytes.l0 (k + 1) y0 y1 y2 y3 y4 y5))
 | 0 => fun _ _ _ _ _ _ r h => by simp [spec_l1DrawBytes.l0] at h
 | k + 1 => by
  have ih0 := spec_l1DrawBytes.mono_l k
  ·intro y0 y1 y2 y3 y4 y5
   unfold spec_l1DrawBytes.l0
   repeat' first
   | (with_reducible exact ih0 _ _ _ _ _ _)
   | (with_reducible exact LeO.refl _)
   | (with_reducible exact LeO.none _)
   | (with_reducible refine LeO.ite ?_ ?_)
   | (with_reducible refine LeO.bind ?_ (fun _ => ?_))
   | exact ih0 _ _ _ _ _ _
   | exact LeO.none _
   | refine LeO.ite ?_ ?_
   | refine LeO.bind ?_ (fun _ => ?_)
theorem spec_l1DrawBytes.mono : ∀ a0 a1 a2 a3 k, LeO (spec_l1DrawBytes.f k a0 a1 a2 a3) (spec_l1DrawBytes.f (k + 1) a0 a1 a2 a3) := by
 intro a0 a1 a2 a3 k
 have ih0 := spec_l1DrawBytes.mono_l k
 unfold spec_l1DrawBytes.f
 repeat' first
  | (with_reducible exact ih0 _ _ _ _ _ _)
  | (with_reducible exact LeO.refl _)
  | (with_reducible exact LeO.none _)
  | (with_reducible refine LeO.ite ?_ ?_)
  | (with_reducible refine LeO.bind ?_ (fun _ => ?_))
  | exact ih0 _ _ _ _ _ _
  | exact LeO.none _
  | refine LeO.ite ?_ ?_
  | refine LeO.bind ?_ (fun _ => ?_)
set_option maxHeartbeats 8000000 in
set_option maxRecDepth 100000 in
theorem spec_l1DrawBytes.calls (k : Nat) (g : Nat) (s0_0 : List Int) (s0_1 : Int) (s0_2 : Int) (a1 : Int) (r1 : List Int) (r2 : Int) (r3 : Int) (w0 w : World) (hI : IsS156 w0 w g s0_0 s0_1 s0_2) (hB : Below w0.heap.size w0 w) (h : spec_l1DrawBytes.f k s0_0 s0_1 s0_2 a1 = some (r1, r2, r3)) :
 Calls Try.prog 159 #[.pointer (some ⟨g, 0, none⟩), .int .i64 a1] w fun e w' => ∃ v0_ : Value, e = .returned (v0_) ∧ Kd.R (Kd.int .u8) 5 w' w.heap.size (fun _ => True) v0_ r1 ∧ IsS156 w0 w' g s0_0 r2 r3 ∧ Below w0.heap.size w0 w' ∧ KeepBut w w' g none := by
 have HI0 := aM hI
 have HK := aM (KeepBut.refl w g none)
 have HL := aM hB.size
 clear hI
 have HW0 := aM hB.size
 have HB := aM hB
 clear hB
 have H : ((spec_l1Below.f s0_0 s0_1 s0_2 (wrap64 (a1 + 1))).bind fun bt253 => (spec_l1DrawBytes.l0 k (([] : List Int)) bt253.1 0 s0_0 bt253.2.1 bt253.2.2)) = some (r1, r2, r3) := h
 clear h
 obtain ⟨y250, hy250⟩ : ∃ y_ : List Int, y_ = (([] : List Int)) := ⟨_, rfl⟩
 replace H : ((spec_l1Below.f s0_0 s0_1 s0_2 (wrap64 (a1 + 1))).bind fun bt253 => (spec_l1DrawBytes.l0 k y250 bt253.1 0 s0_0 bt253.2.1 bt253.2.2)) = some (r1, r2, r3) := by first | (rw [hy250]; with_reducible exact H) | (have H2_ := (Option.bind_some _ _).symm.trans H; rw [hy250]; with_reducible exact H2_) | (have H2_ := (Option.bind_some _ _).symm.trans H; with_reducible exact H2_) | with_reducible exact H | (rw [hy250]; exact H) | exact H
 have Ny250 := aM hy250
 clear hy250
 replace H := Option.bind_eq_some_iff.mp H
 obtain ⟨⟨t253, t254, t255⟩, A30, H⟩ := H
 replace H : (spec_l1DrawBytes.l0 k y250 t253 0 s0_0 t254 t255) = some (r1, r2, r3) := H
 have A3 := aM A30
 clear A30
 have H' := aM H
 clear H
 go_enter Try.func159, Try.ntmps159
 go_wp2_with (first | ((with_reducible refine gate_dst (N := 8) rfl ?_); refine Kd.R_lit (Kd.int .u8) _ 5 ?hg (N := 8) ?hd (xs := ([] : List Int)) (inner := []) (ok := fun _ => True) (okp := fun _ => True) ?hr ?hp (fun _ hk => hk) trivial (Below.refl _ _) (Nat.le_refl _) (by simp) ?_; (case hd => rfl); (case hg => rfl); (case hr => first | (go_simp; done) | (go_simp; rfl)); (case hp => exact (Reps.none _ _)); intro v251 w4 ho5 hb hg_ hnew_; clear hg_ hnew_; (first | rw [← Ny250.out] at ho5 | (simp only [Int.reduceToNat] at ho5; rw [← Ny250.out] at ho5)); have HO252 := aM (Kd.R_lower ho5 (keep_size (w := w) (g := g) (row := none) (by repeat (first | (with_reducible first | exact HK.out | apply KeepBut.set_ | apply keep_drewN | apply keep_drew | apply keep_alloc) | exact HK.out)))); replace HK := aM (KeepBut.trans (by repeat (first | (with_reducible first | exact HK.out | apply KeepBut.set_ | apply keep_drewN | apply keep_drew | apply keep_alloc) | exact HK.out)) (KeepBut.of_below hb g none) (.inl rfl)); replace HB := aM (below_step (by repeat (first | (with_reducible first | exact HB.out | apply below_alloc | apply pw_below_drewN | apply below_drew1 | refine below_set ?_ (IsS156.ge HI0.out)) | exact HB.out)) hb); replace HI0 := aM (IsS156.below (by repeat (first | (with_reducible first | exact HI0.out | apply IsS156.alloc | apply IsS156.drewN | apply IsS156.drew | apply IsS156.set_1 | apply IsS156.set_2) | exact HI0.out)) hb); clear hb ho5) | ((with_reducible refine gate_callee (f := 78) rfl ?_); refine goesL_ (some 12) rfl rfl Try.func78 (by kernel_rfl) rfl #[.pointer (some ⟨g, 0, none⟩), .int .i64 (wrap64 (a1 + 1))] rfl (by (try simp only [List.map_toArray, List.map_cons, List.map_nil]); first | done | rfl | (simp only [List.length_drop, List.length_take]; rfl)) ?_; (with_reducible refine (spec_l1Below.calls g s0_0 s0_1 s0_2 (wrap64 (a1 + 1)) t253 t254 t255 w0 _ ?side1 ?side2 A3.out).mono ?_); (case side1 => repeat (first | (with_reducible first | exact HI0.out | apply IsS156.alloc | apply IsS156.drewN | apply IsS156.drew | apply IsS156.set_1 | apply IsS156.set_2) | exact HI0.out)); (case side2 => repeat (first | (with_reducible first | exact HB.out | apply below_alloc | apply pw_below_drewN | apply below_drew1 | refine below_set ?_ (IsS156.ge HI0.out)) | exact HB.out)); rintro e w6 ⟨rfl, hi, hb, hk⟩; refine ⟨_, rfl, ?_⟩; replace HO252 := aM (Kd.R_mono (Kd.R_keep (IsS156.apart (show IsS156 w0 _ g s0_0 s0_1 s0_2 from by repeat (first | (with_reducible first | exact HI0.out | apply IsS156.alloc | apply IsS156.drewN | apply IsS156.drew | apply IsS156.set_1 | apply IsS156.set_2) | exact HI0.out)) (xr HO252) (by decide)) hk (fun _ h => h.2)) (fun _ h => h.1)); replace HK := aM (KeepBut.trans (by repeat (first | (with_reducible first | exact HK.out | apply KeepBut.set_ | apply keep_drewN | apply keep_drew | apply keep_alloc) | exact HK.out)) hk (.inl rfl)); replace HB := aM (hb); replace HI0 := aM (hi); (try clear hb); (try clear hb2); (try clear hk); (try clear hi)))
 go_loopg [5, 7] k (fun kq v5 v7 w' => ∃ (x5_1 : List Int) (x7_1 : Int) (x1001_1 : Int) (x1002_1 : Int), v7 = .int .i64 x7_1 ∧ Aside0 (spec_l1DrawBytes.l0 kq x5_1 t253 x7_1 s0_0 x1001_1 x1002_1 = some (r1, r2, r3)) ∧ Aside0 (kq ≤ k) ∧ Aside0 (Kd.R (Kd.int .u8) 5 w' w.heap.size (fun _ => True) v5 x5_1) ∧ Aside0 (IsS156 w0 w' g s0_0 x1001_1 x1002_1) ∧ Aside0 (KeepBut w w' g none) ∧ Aside0 (Below w0.heap.size w0 w'))
 case atStart => exact ⟨(y250), (0), (t254), (t255), (by first | rfl | (simp; done) | (simp [*]; done)), H', ⟨Nat.le_refl _⟩, ⟨by (with_reducible repeat (first | apply Kd.R_alloc | apply Kd.R_drewN | apply Kd.R_drew)); exact HO252.out⟩, ⟨by repeat (first | (with_reducible first | exact HI0.out | apply IsS156.alloc | apply IsS156.drewN | apply IsS156.drew | apply IsS156.set_1 | apply IsS156.set_2) | exact HI0.out)⟩, ⟨by repeat (first | (with_reducible first | exact HK.out | apply KeepBut.set_ | apply keep_drewN | apply keep_drew | apply keep_alloc) | exact HK.out)⟩, ⟨by repeat (first | (with_reducible first | exact HB.out | apply below_alloc | apply pw_below_drewN | apply below_drew1 | refine below_set ?_ (IsS156.ge HI0.out)) | exact HB.out)⟩⟩
 case round =>
  clear H'
  try clear c1
  try clear p2
  try clear p6
  obtain ⟨x5_1, x7_1, x1001_1, x1002_1, rfl, HA, HK1, HO_5, HI0, HK, HB⟩ := hrel
  cases gk with
  | zero => exact absurd HA.out (by simp [spec_l1DrawBytes.l0])
  | succ k1 =>
   have H := HA.out; clear HA
   simp only [spec_l1DrawBytes.l0] at H
   by_cases c7 : x7_1 < t253
   ·rw [if_pos c7] at H
    have c7b0 : decide (x7_1 < t253) = true := decide_eq_true c7; clear c7; replace H := Option.bind_eq_some_iff.mp H
    obtain ⟨⟨t256, t257, t258⟩, A80, H⟩ := H
    replace H : (if x5_1.length < 140737488355328 then (spec_l1DrawBytes.l0 k1 (x5_1 ++ [(t256) % 256]) t253 (wrap64 (x7_1 + 1)) s0_0 t257 t258) else (none)) = some (r1, r2, r3) := H; have A8 := aM A80; clear A80
    by_cases c9 : x5_1.length < 140737488355328
    ·rw [if_pos c9] at H
     have LMc9 := aM c9; clear c9
     obtain ⟨y259, hy259⟩ : ∃ y_ : List Int, y_ = (x5_1 ++ [(t256) % 256]) := ⟨_, rfl⟩
     replace H : (spec_l1DrawBytes.l0 k1 y259 t253 (wrap64 (x7_1 + 1)) s0_0 t257 t258) = some (r1, r2, r3) := by first | (rw [hy259]; with_reducible exact H) | (have H2_ := (Option.bind_some _ _).symm.trans H; rw [hy259]; with_reducible exact H2_) | (have H2_ := (Option.bind_some _ _).symm.trans H; with_reducible exact H2_) | with_reducible exact H | (rw [hy259]; exact H) | exact H
     have Ny259 := aM hy259; clear hy259
     have H' := aM H
     clear H
     go_wp2_with (first | ((with_reducible refine gate_callee (f := 144) rfl ?_); refine goesL_ (some 20) rfl rfl Try.func144 (by kernel_rfl) rfl #[.pointer (some ⟨g, 0, none⟩)] rfl (by (try simp only [List.map_toArray, List.map_cons, List.map_nil]); first | done | rfl | (simp only [List.length_drop, List.length_take]; rfl)) ?_; (with_reducible refine (spec_l1Byte.calls g s0_0 x1001_1 x1002_1 t256 t257 t258 w0 _ ?side1 ?side2 A8.out).mono ?_); (case side1 => repeat (first | (with_reducible first | exact HI0.out | apply IsS156.alloc | apply IsS156.drewN | apply IsS156.drew | apply IsS156.set_1 | apply IsS156.set_2) | exact HI0.out)); (case side2 => repeat (first | (with_reducible first | exact HB.out | apply below_alloc | apply pw_below_drewN | apply below_drew1 | refine below_set ?_ (IsS156.ge HI0.out)) | exact HB.out)); rintro e w10 ⟨rfl, hi, hb, hk⟩; refine ⟨_, rfl, ?_⟩; replace HO_5 := aM (Kd.R_mono (Kd.R_keep (IsS156.apart (show IsS156 w0 _ g s0_0 x1001_1 x1002_1 from by repeat (first | (with_reducible first | exact HI0.out | apply IsS156.alloc | apply IsS156.drewN | apply IsS156.drew | apply IsS156.set_1 | apply IsS156.set_2) | exact HI0.out)) (xr HO_5) (by decide)) hk (fun _ h => h.2)) (fun _ h => h.1)); replace HK := aM (KeepBut.trans (by repeat (first | (with_reducible first | exact HK.out | apply KeepBut.set_ | apply keep_drewN | apply keep_drew | apply keep_alloc) | exact HK.out)) hk (.inl rfl)); replace HB := aM (hb); replace HI0 := aM (hi); (try clear hb); (try clear hb2); (try clear hk); (try clear hi)) | ((with_reducible refine gate_builtin (b := .append) (xs := #[.tmp 18, .tmp 22]) rfl ?_); at_builtin; refine Kd.R_append (Kd.int .u8) w.heap.size rfl (.tmp 18) (.tmp 22) 22 5 (.int .u8 0) 1 rfl Try.underlying22 info5 rfl (by decide) (by omega) u5 x5_1 ((t256) % 256) [.int .u8 ((t256) % 256)] (fun _ => True) (fun _ => False) rfl rfl ?aP (fun _ hk => hk.elim) ?aF ?aO (Below.refl _ _) ?aS ?aL ?_; (case aP => exact rfl); (case aF => exact (fun _ _ => trivial)); (case aO => exact (xr HO_5)); (case aS => exact (keep_size (w := w) (g := g) (row := none) (by repeat (first | (with_reducible first | exact HK.out | apply KeepBut.set_ | apply keep_drewN | apply keep_drew | apply keep_alloc) | exact HK.out)))); (case aL => have := LMc9.out; omega); intro v260 w11 ho hb hg hat; rw [← Ny259.out] at ho; replace HB := aM (below_weaken (by repeat (first | (with_reducible first | exact HB.out | apply below_alloc | apply pw_below_drewN | apply below_drew1 | refine below_set ?_ (IsS156.ge HI0.out)) | exact HB.out)) HL.out hb); replace HI0 := aM (IsS156.grown (by repeat (first | (with_reducible first | exact HI0.out | apply IsS156.alloc | apply IsS156.drewN | apply IsS156.drew | apply IsS156.set_1 | apply IsS156.set_2) | exact HI0.out)) hg (IsS156.own_ne HI0.out HO_5.out (by decide))); replace HK := aM (KeepBut.trans (by repeat (first | (with_reducible first | exact HK.out | apply KeepBut.set_ | apply keep_drewN | apply keep_drew | apply keep_alloc) | exact HK.out)) (KeepBut.of_grown hg g) (Kd.R_base2 HO_5.out)); have HO261 := aM (ho); clear HO_5; clear ho hb hg hat))
     go_roundg k1
     case measure => have := HK1.out; omega
     case rel => exact ⟨(y259), (wrap64 (x7_1 + 1)), (t257), (t258), (by first | rfl | (simp; done) | (simp [*]; done)), H', ⟨by have := HK1.out; omega⟩, ⟨by (with_reducible repeat (first | apply Kd.R_alloc | apply Kd.R_drewN | apply Kd.R_drew)); exact HO261.out⟩, ⟨by repeat (first | (with_reducible first | exact HI0.out | apply IsS156.alloc | apply IsS156.drewN | apply IsS156.drew | apply IsS156.set_1 | apply IsS156.set_2) | exact HI0.out)⟩, ⟨by repeat (first | (with_reducible first | exact HK.out | apply KeepBut.set_ | apply keep_drewN | apply keep_drew | apply keep_alloc) | exact HK.out)⟩, ⟨by repeat (first | (with_reducible first | exact HB.out | apply below_alloc | apply pw_below_drewN | apply below_drew1 | refine below_set ?_ (IsS156.ge HI0.out)) | exact HB.out)⟩⟩
    ·rw [if_neg c9] at H
     exact absurd H (by simp)
   ·rw [if_neg c7] at H
    have c7b0 : decide (x7_1 < t253) = false := decide_eq_false c7; clear c7
    simp only [Option.some.injEq, Prod.mk.injEq] at H
    obtain ⟨rfl, rfl, rfl⟩ := H
    go_wp2
    go_ret
    exact ⟨_, by first | rfl | (simp [errW_none, errW_some] <;> rfl) | (simp [*, errW_none, errW_some] <;> rfl), by (with_reducible repeat (first | apply Kd.R_alloc | apply Kd.R_drewN | apply Kd.R_drew)); exact HO_5.out, by repeat (first | (with_reducible first | exact HI0.out | apply IsS156.alloc | apply IsS156.drewN | apply IsS156.drew | apply IsS156.set_1 | apply IsS156.set_2) | exact HI0.out), by repeat (first | (with_reducible first | exact HB.out | apply below_alloc | apply pw_below_drewN | apply below_drew1 | refine below_set ?_ (IsS156.ge HI0.out)) | exact HB.out), by repeat (first | (with_reducible first | exact HK.out | apply KeepBut.set_ | apply keep_drewN | apply keep_drew | apply keep_alloc) | exact HK.out)⟩

/-! ### spec_l3DrawText: function 125 -/
def spec_l3DrawText.f (k : Nat) (s0_0 : List Int) (s0_1 : Int) (s0_2 : Int) (a1 : Int) : Option (ByteArray × Int × Int) := (spec_l1DrawBytes.f k s0_0 s0_1 s0_2 a1).bind fun bt262 => (some (strOfNums bt262.1, bt262.2.1, bt262.2.2))
theorem spec_l3DrawText.mono : ∀ a0 a1 a2 a3 k, LeO (spec_l3DrawText.f k a0 a1 a2 a3) (spec_l3DrawText.f (k + 1) a0 a1 a2 a3) := by
 intro a0 a1 a2 a3 k
 unfold spec_l3DrawText.f
 repeat' first
  | (with_reducible exact spec_l1DrawBytes.mono _ _ _ _ _)
  | (with_reducible exact LeO.refl _)
  | (with_reducible exact LeO.none _)
  | (with_reducible refine LeO.ite ?_ ?_)
  | (with_reducible refine LeO.bind ?_ (fun _ => ?_))
  | exact spec_l1DrawBytes.mono _ _ _ _ _
  | exact LeO.none _
  | refine LeO.ite ?_ ?_
  | refine LeO.bind ?_ (fun _ => ?_)
set_option maxHeartbeats 8000000 in
set_option maxRecDepth 100000 in
theorem spec_l3DrawText.calls (k : Nat) (g : Nat) (s0_0 : List Int) (s0_1 : Int) (s0_2 : Int) (a1 : Int) (r1 : ByteArray) (r2 : Int) (r3 : Int) (w0 w : World) (hI : IsS156 w0 w g s0_0 s0_1 s0_2) (hB : Below w0.heap.size w0 w) (h : spec_l3DrawText.f k s0_0 s0_1 s0_2 a1 = some (r1, r2, r3)) :
 Calls Try.prog 125 #[.pointer (some ⟨g, 0, none⟩), .int .i64 a1] w fun e w' => e = .returned (.string r1) ∧ IsS156 w0 w' g s0_0 r2 r3 ∧ Below w0.heap.size w0 w' ∧ KeepBut w w' g none := by
 have HI0 := aM hI
 have HK := aM (KeepBut.refl w g none)
 have HL := aM hB.size
 clear hI
 have HW0 := aM hB.size
 have HB := aM hB
 clear hB
 have H : ((spec_l1DrawBytes.f k s0_0 s0_1 s0_2 a1).bind fun bt262 => (some (strOfNums bt262.1, bt262.2.1, bt262.2.2))) = some (r1, r2, r3) := h
 clear h
 replace H := Option.bind_eq_some_iff.mp H
 obtain ⟨⟨t262, t265, t266⟩, A30, H⟩ := H
 replace H : (some (strOfNums t262, t265, t266)) = some (r1, r2, r3) := H
 have A3 := aM A30
 clear A30
 simp only [Option.some.injEq, Prod.mk.injEq] at H
 obtain ⟨rfl, rfl, rfl⟩ := H
 go_enter Try.func125, Try.ntmps125
 go_wp2_with (first | ((with_reducible refine gate_callee (f := 159) rfl ?_); refine goesL_ (some 7) rfl rfl Try.func159 (by kernel_rfl) rfl #[.pointer (some ⟨g, 0, none⟩), .int .i64 a1] rfl (by (try simp only [List.map_toArray, List.map_cons, List.map_nil]); first | done | rfl | (simp only [List.length_drop, List.length_take]; rfl)) ?_; (with_reducible refine (spec_l1DrawBytes.calls k g s0_0 s0_1 s0_2 a1 t262 t265 t266 w0 _ ?side1 ?side2 A3.out).mono ?_); (case side1 => repeat (first | (with_reducible first | exact HI0.out | apply IsS156.alloc | apply IsS156.drewN | apply IsS156.drew | apply IsS156.set_1 | apply IsS156.set_2) | exact HI0.out)); (case side2 => repeat (first | (with_reducible first | exact HB.out | apply below_alloc | apply pw_below_drewN | apply below_drew1 | refine below_set ?_ (IsS156.ge HI0.out)) | exact HB.out)); rintro e w4 ⟨v263, rfl, ho0, hi, hb, hk⟩; refine ⟨_, rfl, ?_⟩; have HO264 := aM (Kd.R_lower ho0 (keep_size (w := w) (g := g) (row := none) (by repeat (first | (with_reducible first | exact HK.out | apply KeepBut.set_ | apply keep_drewN | apply keep_drew | apply keep_alloc) | exact HK.out)))); replace HK := aM (KeepBut.trans (by repeat (first | (with_reducible first | exact HK.out | apply KeepBut.set_ | apply keep_drewN | apply keep_drew | apply keep_alloc) | exact HK.out)) hk (.inl rfl)); replace HB := aM (hb); replace HI0 := aM (hi); (try clear hb); (try clear hb2); (try clear hk); (try clear hi); (try clear ho0); have hcv5 := own_string (P := Try.prog) Try.underlying22 Try.underlying5 Try.underlying9 (Kd.own_of_R HO264.out)))
 go_ret
 exact ⟨by first | rfl | (simp [errW_none, errW_some] <;> rfl) | (simp [*, errW_none, errW_some] <;> rfl), by repeat (first | (with_reducible first | exact HI0.out | apply IsS156.alloc | apply IsS156.drewN | apply IsS156.drew | apply IsS156.set_1 | apply IsS156.set_2) | exact HI0.out), by repeat (first | (with_reducible first | exact HB.out | apply below_alloc | apply pw_below_drewN | apply below_drew1 | refine below_set ?_ (IsS156.ge HI0.out)) | exact HB.out), by repeat (first | (with_reducible first | exact HK.out | apply KeepBut.set_ | apply keep_drewN | apply keep_drew | apply keep_alloc) | exact HK.out)⟩

/-! ### spec_DiskSync: function 130 -/
def spec_DiskSync.j0 : Nat → Int → Bool → Int → List (S134) → Option (Int × (List (S134)) × Int)
 | 0, _, _, _, _ => none
 | k + 1, x1, x15, x268000, x268001 => if x15 = true then (some (0, ([] : List (S134)), 1)) else ((spec_l3Find.f k x268000 x268001 x1).bind fun t271 => (if t271 < 0 then ((spec_l3Copy.f x268000 x268001).bind fun bt272 => (some (bt272.1, bt272.2, 2))) else (if 0 ≤ t271 then (if t271 < (x268001.length : Int) then (if ((rd_T134 x268001 t271).f1).size + ((rd_T134 x268001 t271).f2).size ≤ 9223372036854775807 then ((spec_l3Put.f k x268000 x268001 x1 (((rd_T134 x268001 t271).f1) ++ ((rd_T134 x268001 t271).f2)) (⟨#[]⟩ : ByteArray)).bind fun bt278 => (some (bt278.1, bt278.2, 0))) else (none)) else (none)) else (none))))
def spec_DiskSync.f (k : Nat) (a0_0 : Int) (l0_1 : List (S134)) (a1 : Int) : Option (Int × (List (S134)) × Int) := (spec_DiskOk.f k a0_0 l0_1).bind fun t269 => (if t269 = true then ((spec_l3Name.f a1).bind fun t270 => (spec_DiskSync.j0 k a1 (!t270) a0_0 l0_1)) else (spec_DiskSync.j0 k a1 true a0_0 l0_1))
set_option maxRecDepth 100000 in
theorem spec_DiskSync.mono_l : ∀ k, (∀ y0 y1 y2 y3, LeO (spec_DiskSync.j0 k y0 y1 y2 y3) (spec_DiskSync.j0 (k + 1) y0 y1 y2 y3))
 | 0 => fun _ _ _ _ r h => by simp [spec_DiskSync.j0] at h
 | k + 1 => by
  have ih0 := spec_DiskSync.mono_l k
  ·intro y0 y1 y2 y3
   unfold spec_DiskSync.j0
   repeat' first
   | (with_reducible exact ih0 _ _ _ _)
   | (with_reducible exact spec_DiskOk.mono _ _ _)
   | (with_reducible exact spec_l3Find.mono _ _ _ _)
   | (with_reducible exact spec_l3Put.mono _ _ _ _ _ _)
   | (with_reducible exact LeO.refl _)
   | (with_reducible exact LeO.none _)
   | (with_reducible refine LeO.ite ?_ ?_)
   | (with_reducible refine LeO.bind ?_ (fun _ => ?_))
   | exact ih0 _ _ _ _
   | exact spec_DiskOk.mono _ _ _
   | exact spec_l3Find.mono _ _ _ _
   | exact spec_l3Put.mono _ _ _ _ _ _
   | exact LeO.none _
   | refine LeO.ite ?_ ?_
   | refine LeO.bind ?_ (fun _ => ?_)
theorem spec_DiskSync.mono : ∀ a0 a1 a2 k, LeO (spec_DiskSync.f k a0 a1 a2) (spec_DiskSync.f (k + 1) a0 a1 a2) := by
 intro a0 a1 a2 k
 have ih0 := spec_DiskSync.mono_l k
 unfold spec_DiskSync.f
 repeat' first
  | (with_reducible exact ih0 _ _ _ _)
  | (with_reducible exact spec_DiskOk.mono _ _ _)
  | (with_reducible exact spec_l3Find.mono _ _ _ _)
  | (with_reducible exact spec_l3Put.mono _ _ _ _ _ _)
  | (with_reducible exact LeO.refl _)
  | (with_reducible exact LeO.none _)
  | (with_reducible refine LeO.ite ?_ ?_)
  | (with_reducible refine LeO.bind ?_ (fun _ => ?_))
  | exact ih0 _ _ _ _
  | exact spec_DiskOk.mono _ _ _
  | exact spec_l3Find.mono _ _ _ _
  | exact spec_l3Put.mono _ _ _ _ _ _
  | exact LeO.none _
  | refine LeO.ite ?_ ?_
  | refine LeO.bind ?_ (fun _ => ?_)
set_option maxHeartbeats 8000000 in
set_option maxRecDepth 100000 in
theorem spec_DiskSync.calls (k : Nat) (a0_0 : Int) (A0_1 : Option Addr) (c0_1 : Nat) (l0_1 : List (S134)) (a1 : Int) (r1 : Int) (r2 : List (S134)) (r3 : Int) (w : World) (hr0_1 : Kd.C k134 w A0_1 l0_1.length l0_1) (hc0_1 : l0_1.length ≤ c0_1) (h : spec_DiskSync.f k a0_0 l0_1 a1 = some (r1, r2, r3)) :
 Calls Try.prog 130 #[.agg #[.int .i64 a0_0, .slice A0_1 l0_1.length c0_1], .int .i64 a1] w fun e w' => ∃ v1_ : Value, e = .returned (.tuple #[.agg #[.int .i64 r1, v1_], .int .i64 r3]) ∧ Kd.R k134 134 w' w.heap.size (fun _ => True) v1_ r2 ∧ Below w.heap.size w w' := by
 have hu70 := Try.underlying70
 have hu134 := Try.underlying134
 have HR0_1 := aM hr0_1
 have HC0_1 := aM hc0_1
 clear hr0_1 hc0_1
 have HB := aM (Below.refl w.heap.size w)
 have H : ((spec_DiskOk.f k a0_0 l0_1).bind fun t269 => (if t269 = true then ((spec_l3Name.f a1).bind fun t270 => (spec_DiskSync.j0 k a1 (!t270) a0_0 l0_1)) else (spec_DiskSync.j0 k a1 true a0_0 l0_1))) = some (r1, r2, r3) := h
 clear h
 have HC3 := aM H
 clear H
 go_enter Try.func130, Try.ntmps130
 go_upto_region 1 with (first | ((with_reducible refine gate_dst (N := 2) rfl ?_); refine box_event ?hg (N := 2) ?hd (cs := #[.int .i64 a0_0, .slice A0_1 l0_1.length c0_1]) (t := 70) ?hr ?_; (case hd => rfl); (case hg => rfl); (case hr => first | (go_simp; done) | (go_simp; rfl)); intro gb267 hg w4 hbox hb; have BK267 := aM (hbox); have GW267 := aM (xge hg); have GE267 := aM (xge hg); replace HB := xbs hb; clear hb hbox hg) | ((with_reducible refine gate_dst (N := 4) rfl ?_); refine box_event ?hg (N := 4) ?hd (cs := #[.int .i64 0, .slice none 0 0]) (t := 70) ?hr ?_; (case hd => rfl); (case hg => rfl); (case hr => first | (go_simp; done) | (go_simp; rfl)); intro gb268 hg w5 hbox hb; have GW268 := aM (xge hg); have GE268 := aM (xge hg); replace HB := xbs hb; have NB267_268 := aM ((by rw [hg]; exact Nat.ne_of_lt (blk_lt (g := gb267) (o := .cells #[.int .i64 a0_0, .slice A0_1 l0_1.length c0_1] 70 (0, 0)) xblk) : gb267 ≠ gb268)); have NB268_267 := aM ((by rw [hg]; exact Nat.ne_of_gt (blk_lt (g := gb267) (o := .cells #[.int .i64 a0_0, .slice A0_1 l0_1.length c0_1] 70 (0, 0)) xblk) : gb268 ≠ gb267)); replace BK267 := xbb BK267 hb; have BK268 := aM (hbox); clear hb hbox hg))
 (try simp only [Act.put, List.setIfInBounds_toArray, List.set_cons_zero, List.set_cons_succ])
 go_cut [15] (fun v15 wc => ∃ (kq : Nat) (x15_2 : Bool), v15 = .bool x15_2 ∧ Aside0 (spec_DiskSync.j0 kq a1 x15_2 a0_0 l0_1 = some (r1, r2, r3)) ∧ Aside0 (kq ≤ k) ∧ Aside0 (wc.heap[gb267]? = some (.cells #[.int .i64 a0_0, (.slice A0_1 l0_1.length c0_1)] 70 (0, 0))) ∧ Aside0 (wc.heap[gb268]? = some (.cells #[.int .i64 0, (.slice none 0 0)] 70 (0, 0))) ∧ Aside0 (Below w.heap.size w wc))
 case first =>
  have H := HC3.out; clear HC3; replace H := Option.bind_eq_some_iff.mp H
  obtain ⟨t269, A60, H⟩ := H
  replace H : (if t269 = true then ((spec_l3Name.f a1).bind fun t270 => (spec_DiskSync.j0 k a1 (!t270) a0_0 l0_1)) else (spec_DiskSync.j0 k a1 true a0_0 l0_1)) = some (r1, r2, r3) := H; have A6 := aM A60; clear A60
  by_cases c7 : t269 = true
  ·subst c7
   have H1 : ((spec_l3Name.f a1).bind fun t270 => (spec_DiskSync.j0 k a1 (!t270) a0_0 l0_1)) = some (r1, r2, r3) := by rw [if_pos rfl] at H; exact H
   clear H; have H := H1; clear H1; replace H := Option.bind_eq_some_iff.mp H
   obtain ⟨t270, A80, H⟩ := H
   replace H : (spec_DiskSync.j0 k a1 (!t270) a0_0 l0_1) = some (r1, r2, r3) := H; have A8 := aM A80; clear A80
   have H' := aM H
   clear H; have hnb9 := NB267_268.out; have hnc9 := NB268_267.out; obtain ⟨hcz10_0, hcz10_1, hfz10_0, hfz10_1⟩ := xf2 (w := w5) BK267
   go_wp2_with (first | ((with_reducible refine gate_callee (f := 106) rfl ?_); refine goesL_ (some 9) rfl rfl Try.func106 (by kernel_rfl) rfl #[.agg #[.int .i64 a0_0, .slice A0_1 l0_1.length c0_1]] rfl (by (try simp only [List.map_toArray, List.map_cons, List.map_nil]); first | done | rfl | (simp only [List.length_drop, List.length_take]; rfl)) ?_; (with_reducible refine (spec_DiskOk.calls k a0_0 _ _ l0_1 true _ ?side1 ?side2 A6.out).mono ?_); (case side1 => exact xcb HR0_1); (case side2 => exact HC0_1.out); rintro e w11 ⟨rfl, hb⟩; refine ⟨_, rfl, ?_⟩; replace BK267 := xbb BK267 hb; replace BK268 := xbb BK268 hb; replace HB := xbs hb; (try clear hb); (try clear hb2); (try clear hk); (try clear hi)) | (go_at_call 107; (with_reducible refine (spec_l3Name.calls a1 t270 _ A8.out).mono ?_); rintro e w' ⟨rfl, ⟨nd, rfl⟩⟩))
   go_meet
   case rel => exact ⟨_, (!t270), (by first | rfl | (simp; done) | (simp [*]; done)), H', ⟨by first | omega | exact Nat.le_refl _⟩, ⟨xblk⟩, ⟨xblk⟩, ⟨xbg⟩⟩
  ·replace c7 := Bool.eq_false_iff.mpr c7
   subst c7
   have H1 : (spec_DiskSync.j0 k a1 true a0_0 l0_1) = some (r1, r2, r3) := by rw [if_neg (show ¬ (false = true) by decide)] at H; exact H
   clear H; have H := H1; clear H1
   have H' := aM H
   clear H; have hnb12 := NB267_268.out; have hnc12 := NB268_267.out; obtain ⟨hcz13_0, hcz13_1, hfz13_0, hfz13_1⟩ := xf2 (w := w5) BK267
   go_wp2_with (first | ((with_reducible refine gate_callee (f := 106) rfl ?_); refine goesL_ (some 9) rfl rfl Try.func106 (by kernel_rfl) rfl #[.agg #[.int .i64 a0_0, .slice A0_1 l0_1.length c0_1]] rfl (by (try simp only [List.map_toArray, List.map_cons, List.map_nil]); first | done | rfl | (simp only [List.length_drop, List.length_take]; rfl)) ?_; (with_reducible refine (spec_DiskOk.calls k a0_0 _ _ l0_1 false _ ?side1 ?side2 A6.out).mono ?_); (case side1 => exact xcb HR0_1); (case side2 => exact HC0_1.out); rintro e w14 ⟨rfl, hb⟩; refine ⟨_, rfl, ?_⟩; replace BK267 := xbb BK267 hb; replace BK268 := xbb BK268 hb; replace HB := xbs hb; (try clear hb); (try clear hb2); (try clear hk); (try clear hi)))
   go_meet
   case rel => exact ⟨_, (true), (by first | rfl | (simp; done) | (simp [*]; done)), H', ⟨by first | omega | exact Nat.le_refl _⟩, ⟨xblk⟩, ⟨xblk⟩, ⟨xbg⟩⟩
 case rest =>
  clear HC3
  try clear c1
  try clear p2
  try clear c7
  try clear c9
  try clear c10
  try clear c12
  try clear c13
  try clear hcz10_0
  try clear hcz10_1
  try clear hcz13_0
  try clear hcz13_1
  try clear hfz10_0
  try clear hfz10_1
  try clear hfz13_0
  try clear hfz13_1
  obtain ⟨kq, x15_2, rfl, HA, HJ2, BK267, BK268, HB⟩ := hcut
  cases kq with
  | zero => exact absurd HA.out (by simp [spec_DiskSync.j0])
  | succ kj2 =>
   have H := HA.out; clear HA
   simp only [spec_DiskSync.j0] at H
   by_cases c15 : x15_2 = true
   ·subst c15
    have H1 : (some (0, ([] : List (S134)), 1)) = some (r1, r2, r3) := by rw [if_pos rfl] at H; exact H
    clear H; have H := H1; clear H1
    simp only [Option.some.injEq, Prod.mk.injEq] at H
    obtain ⟨rfl, rfl, rfl⟩ := H
    have hnb16 := NB268_267.out; have hnc16 := NB267_268.out; obtain ⟨hcz17_0, hcz17_1, hfz17_0, hfz17_1⟩ := xf2 (w := wc) BK268
    go_wp2
    refine bodyPost_ret (results_ct rfl _ _ gb268 70 #[.int .i64 0, .slice none 0 0] (0, 0) _ rfl (by (with_reducible repeat (first | refine blk_drewN ?_ _ | refine blk_drew ?_ | refine blk_alloc ?_ _)); refine blk_put (cs := #[.int .i64 0, .slice none 0 0]) ?_ 1 _ rfl; (with_reducible repeat (first | refine blk_drewN ?_ _ | refine blk_drew ?_ | refine blk_alloc ?_ _)); refine blk_put (cs := #[.int .i64 0, .slice none 0 0]) ?_ 0 _ rfl; (with_reducible repeat (first | refine blk_drewN ?_ _ | refine blk_drew ?_ | refine blk_alloc ?_ _)); exact BK268.out) Try.underlying70 rfl (by kernel_rfl)) rfl ?_
    exact ⟨_, by first | rfl | (simp [errW_none, errW_some] <;> rfl) | (simp [*, errW_none, errW_some] <;> rfl), by first | exact Kd.R_nil _ _ _ _ _ | exact Kd.N_nil _ _ _ _ _ | exact Kd.V_nil _ _ _ _ _ | exact Kd.Q_nil _ _ _ _ _ | exact Kd.S_nil _ _ _ _ _, xbg⟩
   ·replace c15 := Bool.eq_false_iff.mpr c15
    subst c15
    have H1 : ((spec_l3Find.f kj2 a0_0 l0_1 a1).bind fun t271 => (if t271 < 0 then ((spec_l3Copy.f a0_0 l0_1).bind fun bt272 => (some (bt272.1, bt272.2, 2))) else (if 0 ≤ t271 then (if t271 < (l0_1.length : Int) then (if ((rd_T134 l0_1 t271).f1).size + ((rd_T134 l0_1 t271).f2).size ≤ 9223372036854775807 then ((spec_l3Put.f kj2 a0_0 l0_1 a1 (((rd_T134 l0_1 t271).f1) ++ ((rd_T134 l0_1 t271).f2)) (⟨#[]⟩ : ByteArray)).bind fun bt278 => (some (bt278.1, bt278.2, 0))) else (none)) else (none)) else (none)))) = some (r1, r2, r3) := by rw [if_neg (show ¬ (false = true) by decide)] at H; exact H
    clear H; have H := H1; clear H1; replace H := Option.bind_eq_some_iff.mp H
    obtain ⟨t271, A180, H⟩ := H
    replace H : (if t271 < 0 then ((spec_l3Copy.f a0_0 l0_1).bind fun bt272 => (some (bt272.1, bt272.2, 2))) else (if 0 ≤ t271 then (if t271 < (l0_1.length : Int) then (if ((rd_T134 l0_1 t271).f1).size + ((rd_T134 l0_1 t271).f2).size ≤ 9223372036854775807 then ((spec_l3Put.f kj2 a0_0 l0_1 a1 (((rd_T134 l0_1 t271).f1) ++ ((rd_T134 l0_1 t271).f2)) (⟨#[]⟩ : ByteArray)).bind fun bt278 => (some (bt278.1, bt278.2, 0))) else (none)) else (none)) else (none))) = some (r1, r2, r3) := H; have A18 := aM A180; clear A180
    by_cases c19 : t271 < 0
    ·rw [if_pos c19] at H
     have c19b0 : decide (t271 < 0) = true := decide_eq_true c19; clear c19; replace H := Option.bind_eq_some_iff.mp H
     obtain ⟨⟨t272, t273⟩, A200, H⟩ := H
     replace H : (some (t272, t273, 2)) = some (r1, r2, r3) := H; have A20 := aM A200; clear A200
     simp only [Option.some.injEq, Prod.mk.injEq] at H
     obtain ⟨rfl, rfl, rfl⟩ := H
     have hnb21 := NB267_268.out; have hnc21 := NB268_267.out; obtain ⟨hcz22_0, hcz22_1, hfz22_0, hfz22_1⟩ := xf2 (w := wc) BK267
     go_wp2_with (first | ((with_reducible refine gate_callee (f := 110) rfl ?_); refine goesL_ (some 19) rfl rfl Try.func110 (by kernel_rfl) rfl #[.agg #[.int .i64 a0_0, .slice A0_1 l0_1.length c0_1], .int .i64 a1] rfl (by (try simp only [List.map_toArray, List.map_cons, List.map_nil]); first | done | rfl | (simp only [List.length_drop, List.length_take]; rfl)) ?_; (with_reducible refine (spec_l3Find.calls kj2 a0_0 _ _ l0_1 a1 t271 _ ?side1 ?side2 A18.out).mono ?_); (case side1 => exact xcb HR0_1); (case side2 => exact HC0_1.out); rintro e w23 ⟨rfl, hb⟩; refine ⟨_, rfl, ?_⟩; replace BK267 := xbb BK267 hb; replace BK268 := xbb BK268 hb; replace HB := xbs hb; (try clear hb); (try clear hb2); (try clear hk); (try clear hi); obtain ⟨hcz24_0, hcz24_1, hfz24_0, hfz24_1⟩ := xf2 (w := w23) BK267) | ((with_reducible refine gate_callee (f := 109) rfl ?_); refine goesL_ (some 23) rfl rfl Try.func109 (by kernel_rfl) rfl #[.agg #[.int .i64 a0_0, .slice A0_1 l0_1.length c0_1]] rfl (by (try simp only [List.map_toArray, List.map_cons, List.map_nil]); first | done | rfl | (simp only [List.length_drop, List.length_take]; rfl)) ?_; (with_reducible refine (spec_l3Copy.calls a0_0 _ _ l0_1 t272 t273 _ ?side1 ?side2 A20.out).mono ?_); (case side1 => exact xcb HR0_1); (case side2 => exact HC0_1.out); rintro e w25 ⟨v274, rfl, ho0, hb⟩; refine ⟨_, rfl, ?_⟩; have HO275 := aM (Kd.R_lower ho0 (below_size xbg)); replace BK267 := xbb BK267 hb; replace BK268 := xbb BK268 hb; replace HB := xbs hb; (try clear hb); (try clear hb2); (try clear hk); (try clear hi); (try clear ho0); obtain ⟨hcz26_0, hcz26_1, hfz26_0, hfz26_1⟩ := xf2 (w := w25) BK268; obtain ⟨Ao27, co27, eo27⟩ := Kd.R_slice HO275.out; subst eo27))
     refine bodyPost_ret (results_ct rfl _ _ gb268 70 #[.int .i64 t272, .slice Ao27 t273.length co27] (0, 0) _ rfl (by (with_reducible repeat (first | refine blk_drewN ?_ _ | refine blk_drew ?_ | refine blk_alloc ?_ _)); refine blk_put (cs := #[.int .i64 t272, .slice none 0 0]) ?_ 1 _ rfl; (with_reducible repeat (first | refine blk_drewN ?_ _ | refine blk_drew ?_ | refine blk_alloc ?_ _)); refine blk_put (cs := #[.int .i64 0, .slice none 0 0]) ?_ 0 _ rfl; (with_reducible repeat (first | refine blk_drewN ?_ _ | refine blk_drew ?_ | refine blk_alloc ?_ _)); exact BK268.out) Try.underlying70 rfl (by kernel_rfl)) rfl ?_
     exact ⟨_, by first | rfl | (simp [errW_none, errW_some] <;> rfl) | (simp [*, errW_none, errW_some] <;> rfl), by (with_reducible repeat (first | apply Kd.R_alloc | apply Kd.R_drewN | apply Kd.R_drew)); exact Kd.R_mono (Kd.R_far (p := ⟨gb268, 1, none⟩) (Kd.R_far (p := ⟨gb268, 0, none⟩) (Kd.R_types HO275.out BK268.out (by decide)) (fun _ hk => hk.2) (.int .i64 t272)) (fun _ hk => hk.2) (.slice Ao27 t273.length co27)) (fun _ hk => trivial), xbg⟩
    ·rw [if_neg c19] at H
     have c19b0 : decide (t271 < 0) = false := decide_eq_false c19; clear c19
     by_cases c28 : 0 ≤ t271
     ·rw [if_pos c28] at H
      have c28b0 : decide (0 ≤ t271) = true := decide_eq_true c28; clear c28
      by_cases c29 : t271 < (l0_1.length : Int)
      ·rw [if_pos c29] at H
       have c29b0 : decide (t271 < (l0_1.length : Int)) = true := decide_eq_true c29; clear c29
       by_cases c30 : ((rd_T134 l0_1 t271).f1).size + ((rd_T134 l0_1 t271).f2).size ≤ 9223372036854775807
       ·rw [if_pos c30] at H
        have c30b0 := eq_true c30; have c30b1 : decide (((rd_T134 l0_1 t271).f1).size + ((rd_T134 l0_1 t271).f2).size ≤ 9223372036854775807) = true := decide_eq_true c30
        try have c30b2 : (9223372036854775807 < ((rd_T134 l0_1 t271).f1).size + ((rd_T134 l0_1 t271).f2).size) = False := eq_false (Nat.not_lt.2 c30)
        replace H := Option.bind_eq_some_iff.mp H
        obtain ⟨⟨t278, t279⟩, A310, H⟩ := H
        replace H : (some (t278, t279, 0)) = some (r1, r2, r3) := H; have A31 := aM A310; clear A310
        simp only [Option.some.injEq, Prod.mk.injEq] at H
        obtain ⟨rfl, rfl, rfl⟩ := H
        have hnb32 := NB267_268.out; have hnc32 := NB268_267.out; obtain ⟨hcz33_0, hcz33_1, hfz33_0, hfz33_1⟩ := xf2 (w := wc) BK267
        go_wp2_with (first | ((with_reducible refine gate_callee (f := 110) rfl ?_); refine goesL_ (some 19) rfl rfl Try.func110 (by kernel_rfl) rfl #[.agg #[.int .i64 a0_0, .slice A0_1 l0_1.length c0_1], .int .i64 a1] rfl (by (try simp only [List.map_toArray, List.map_cons, List.map_nil]); first | done | rfl | (simp only [List.length_drop, List.length_take]; rfl)) ?_; (with_reducible refine (spec_l3Find.calls kj2 a0_0 _ _ l0_1 a1 t271 _ ?side1 ?side2 A18.out).mono ?_); (case side1 => exact xcb HR0_1); (case side2 => exact HC0_1.out); rintro e w34 ⟨rfl, hb⟩; refine ⟨_, rfl, ?_⟩; replace BK267 := xbb BK267 hb; replace BK268 := xbb BK268 hb; replace HB := xbs hb; (try clear hb); (try clear hb2); (try clear hk); (try clear hi); obtain ⟨hcz35_0, hcz35_1, hfz35_0, hfz35_1⟩ := xf2 (w := w34) BK267; have p276 : 0 ≤ (t271 : Int) := oda; have q276 : t271 < (l0_1.length : Int) := oda; obtain ⟨ad276, e276, hx276_0, hx276_1, hx276_2⟩ := at_T134 HR0_1.out t271 p276 q276; cases e276; replace hx276_0 := xce HB hx276_0; replace hx276_1 := xce HB hx276_1; replace hx276_2 := xce HB hx276_2; replace p276 := eq_true p276; replace q276 := eq_true q276) | ((with_reducible refine gate_dst (N := 7) rfl ?_); refine box_event ?hg (N := 7) ?hd (cs := #[.int .i64 0, .string (⟨#[]⟩ : ByteArray), .string (⟨#[]⟩ : ByteArray)]) (t := 134) ?hr ?_; (case hd => rfl); (case hg => rfl); (case hr => first | (go_simp; done) | (go_simp; rfl)); intro gb277 hg w36 hbox hb; have GW277 := aM (xge hg); have GE277 := aM (xge hg); replace HB := xbs hb; have NB267_277 := aM ((by rw [hg]; exact Nat.ne_of_lt (blk_lt (g := gb267) (o := .cells #[.int .i64 a0_0, .slice (some ad276) l0_1.length c0_1] 70 (0, 0)) xblk) : gb267 ≠ gb277)); have NB277_267 := aM ((by rw [hg]; exact Nat.ne_of_gt (blk_lt (g := gb267) (o := .cells #[.int .i64 a0_0, .slice (some ad276) l0_1.length c0_1] 70 (0, 0)) xblk) : gb277 ≠ gb267)); have NB268_277 := aM ((by rw [hg]; exact Nat.ne_of_lt (blk_lt (g := gb268) (o := .cells #[.int .i64 0, .slice none 0 0] 70 (0, 0)) xblk) : gb268 ≠ gb277)); have NB277_268 := aM ((by rw [hg]; exact Nat.ne_of_gt (blk_lt (g := gb268) (o := .cells #[.int .i64 0, .slice none 0 0] 70 (0, 0)) xblk) : gb277 ≠ gb268)); replace BK267 := xbb BK267 hb; replace BK268 := xbb BK268 hb; have BK277 := aM (hbox); clear hb hbox hg; have hnb37 := NB277_267.out; have hnc37 := NB267_277.out; have hnb38 := NB277_268.out; have hnc38 := NB268_277.out; obtain ⟨hcz39_0, hcz39_1, hcz39_2, hfz39_0, hfz39_1, hfz39_2⟩ := xf3 (w := w36) BK277; obtain ⟨hcz40_0, hcz40_1, hfz40_0, hfz40_1⟩ := xf2 (w := w36) BK267) | ((with_reducible refine gate_callee (f := 111) rfl ?_); refine goesL_ (some 37) rfl rfl Try.func111 (by kernel_rfl) rfl #[.agg #[.int .i64 a0_0, .slice (some ad276) l0_1.length c0_1], .agg #[.int .i64 a1, .string (((rd_T134 l0_1 t271).f1) ++ ((rd_T134 l0_1 t271).f2)), .string (⟨#[]⟩ : ByteArray)]] rfl (by (try simp only [List.map_toArray, List.map_cons, List.map_nil]); first | done | rfl | (simp only [List.length_drop, List.length_take]; rfl)) ?_; (with_reducible refine (spec_l3Put.calls kj2 a0_0 _ _ l0_1 a1 (((rd_T134 l0_1 t271).f1) ++ ((rd_T134 l0_1 t271).f2)) (⟨#[]⟩ : ByteArray) t278 t279 _ ?side1 ?side2 A31.out).mono ?_); (case side1 => exact Kd.C_below HR0_1.out xbg); (case side2 => exact HC0_1.out); rintro e w41 ⟨v280, rfl, ho0, hb⟩; refine ⟨_, rfl, ?_⟩; have HO281 := aM (Kd.R_lower (Kd.R_newB ho0 (g := gb277) (o := .cells #[.int .i64 ((rd_T134 l0_1 t271).f0), .string ((rd_T134 l0_1 t271).f1), .string ((rd_T134 l0_1 t271).f2)] 134 (0, 0)) (by (with_reducible repeat (first | refine blk_drewN ?_ _ | refine blk_drew ?_ | refine blk_alloc ?_ _)); refine blk_put (cs := #[.int .i64 ((rd_T134 l0_1 t271).f0), .string ((rd_T134 l0_1 t271).f1), .string (⟨#[]⟩ : ByteArray)]) ?_ 2 _ rfl; (with_reducible repeat (first | refine blk_drewN ?_ _ | refine blk_drew ?_ | refine blk_alloc ?_ _)); refine blk_put (cs := #[.int .i64 ((rd_T134 l0_1 t271).f0), .string (⟨#[]⟩ : ByteArray), .string (⟨#[]⟩ : ByteArray)]) ?_ 1 _ rfl; (with_reducible repeat (first | refine blk_drewN ?_ _ | refine blk_drew ?_ | refine blk_alloc ?_ _)); refine blk_put (cs := #[.int .i64 0, .string (⟨#[]⟩ : ByteArray), .string (⟨#[]⟩ : ByteArray)]) ?_ 0 _ rfl; (with_reducible repeat (first | refine blk_drewN ?_ _ | refine blk_drew ?_ | refine blk_alloc ?_ _)); exact BK277.out)) (below_size xbg)); replace BK267 := aM (blk_below (g := gb267) (o := .cells #[.int .i64 a0_0, .slice (some ad276) l0_1.length c0_1] 70 (0, 0)) (by (with_reducible repeat (first | refine blk_drewN ?_ _ | refine blk_drew ?_ | refine blk_alloc ?_ _)); refine blk_far ?_ NB267_277.out _; (with_reducible repeat (first | refine blk_drewN ?_ _ | refine blk_drew ?_ | refine blk_alloc ?_ _)); refine blk_far ?_ NB267_277.out _; (with_reducible repeat (first | refine blk_drewN ?_ _ | refine blk_drew ?_ | refine blk_alloc ?_ _)); refine blk_far ?_ NB267_277.out _; (with_reducible repeat (first | refine blk_drewN ?_ _ | refine blk_drew ?_ | refine blk_alloc ?_ _)); exact BK267.out) hb); replace BK268 := aM (blk_below (g := gb268) (o := .cells #[.int .i64 0, .slice none 0 0] 70 (0, 0)) (by (with_reducible repeat (first | refine blk_drewN ?_ _ | refine blk_drew ?_ | refine blk_alloc ?_ _)); refine blk_far ?_ NB268_277.out _; (with_reducible repeat (first | refine blk_drewN ?_ _ | refine blk_drew ?_ | refine blk_alloc ?_ _)); refine blk_far ?_ NB268_277.out _; (with_reducible repeat (first | refine blk_drewN ?_ _ | refine blk_drew ?_ | refine blk_alloc ?_ _)); refine blk_far ?_ NB268_277.out _; (with_reducible repeat (first | refine blk_drewN ?_ _ | refine blk_drew ?_ | refine blk_alloc ?_ _)); exact BK268.out) hb); replace BK277 := aM (blk_below (g := gb277) (o := .cells #[.int .i64 ((rd_T134 l0_1 t271).f0), .string ((rd_T134 l0_1 t271).f1), .string ((rd_T134 l0_1 t271).f2)] 134 (0, 0)) (by (with_reducible repeat (first | refine blk_drewN ?_ _ | refine blk_drew ?_ | refine blk_alloc ?_ _)); refine blk_put (cs := #[.int .i64 ((rd_T134 l0_1 t271).f0), .string ((rd_T134 l0_1 t271).f1), .string (⟨#[]⟩ : ByteArray)]) ?_ 2 _ rfl; (with_reducible repeat (first | refine blk_drewN ?_ _ | refine blk_drew ?_ | refine blk_alloc ?_ _)); refine blk_put (cs := #[.int .i64 ((rd_T134 l0_1 t271).f0), .string (⟨#[]⟩ : ByteArray), .string (⟨#[]⟩ : ByteArray)]) ?_ 1 _ rfl; (with_reducible repeat (first | refine blk_drewN ?_ _ | refine blk_drew ?_ | refine blk_alloc ?_ _)); refine blk_put (cs := #[.int .i64 0, .string (⟨#[]⟩ : ByteArray), .string (⟨#[]⟩ : ByteArray)]) ?_ 0 _ rfl; (with_reducible repeat (first | refine blk_drewN ?_ _ | refine blk_drew ?_ | refine blk_alloc ?_ _)); exact BK277.out) hb); replace HB := xbs hb; (try clear hb); (try clear hb2); (try clear hk); (try clear hi); (try clear ho0); obtain ⟨hcz42_0, hcz42_1, hfz42_0, hfz42_1⟩ := xf2 (w := w41) BK268; obtain ⟨Ao43, co43, eo43⟩ := Kd.R_slice HO281.out; subst eo43))
        refine bodyPost_ret (results_ct rfl _ _ gb268 70 #[.int .i64 t278, .slice Ao43 t279.length co43] (0, 0) _ rfl (by (with_reducible repeat (first | refine blk_drewN ?_ _ | refine blk_drew ?_ | refine blk_alloc ?_ _)); refine blk_put (cs := #[.int .i64 t278, .slice none 0 0]) ?_ 1 _ rfl; (with_reducible repeat (first | refine blk_drewN ?_ _ | refine blk_drew ?_ | refine blk_alloc ?_ _)); refine blk_put (cs := #[.int .i64 0, .slice none 0 0]) ?_ 0 _ rfl; (with_reducible repeat (first | refine blk_drewN ?_ _ | refine blk_drew ?_ | refine blk_alloc ?_ _)); exact BK268.out) Try.underlying70 rfl (by kernel_rfl)) rfl ?_
        exact ⟨_, by first | rfl | (simp [errW_none, errW_some] <;> rfl) | (simp [*, errW_none, errW_some] <;> rfl), by (with_reducible repeat (first | apply Kd.R_alloc | apply Kd.R_drewN | apply Kd.R_drew)); exact Kd.R_mono (Kd.R_far (p := ⟨gb268, 1, none⟩) (Kd.R_far (p := ⟨gb268, 0, none⟩) (Kd.R_types HO281.out BK268.out (by decide)) (fun _ hk => hk.2) (.int .i64 t278)) (fun _ hk => hk.2) (.slice Ao43 t279.length co43)) (fun _ hk => trivial), xbg⟩
       ·rw [if_neg c30] at H
        exact absurd H (by simp)
      ·rw [if_neg c29] at H
       exact absurd H (by simp)
     ·rw [if_neg c28] at H
      exact absurd H (by simp)

end Go.Proofs.Ytnjpfllmcmomoaa.QFnFiles
