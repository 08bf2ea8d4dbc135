-- A walk, by a program of this session.
import Derived.Test.YtkfoojknjmgjdaaQFnDiskx0
import Derived.Test.YtkfoojknjmgjdaaQFnDiskx3
import Derived.Test.YtkfoojknjmgjdaaQFnDiskx4
import Derived.Test.YtkfoojknjmgjdaaQFnDiskx5
import Derived.Test.YtkfoojknjmgjdaaQFnDiskx6
namespace Go.Proofs.Ytkfoojknjmgjdaa.QFnDisk
open Go.RowKit Go.Proofs.YtkfoojknjmgjdaaW.PrintWords Go.Proofs.YtkfoojknjmgjdaaW.PrintLast Go.Proofs.YtkfoojknjmgjdaaW.PrintMore
attribute [local go_sem] max2_int min2_int max_two min_two max_three min_three max_four min_four   -- for this text's walks alone
set_option linter.unusedVariables false
set_option linter.unusedSimpArgs false

/-! ### spec_DiskMove: function 172 -/
mutual
def spec_DiskMove.j0 : Nat → Int → Int → Bool → Int → List (S81) → Option (Int × (List (S81)) × Int)
 | 0, _, _, _, _, _ => none
 | k + 1, x1, x2, x29, x267000, x267001 => if x29 = true then (some (0, ([] : List (S81)), 1)) else ((spec_l3Find.f k x267000 x267001 x1).bind fun t271 => (if t271 < 0 then ((spec_l3Copy.f x267000 x267001).bind fun bt272 => (some (bt272.1, bt272.2, 2))) else (if 0 ≤ t271 then (if t271 < (x267001.length : Int) then (spec_DiskMove.l0 k t271 0 x267000 x267001 x2 ((rd_T81 x267001 t271).f1) ((rd_T81 x267001 t271).f2) x267000 ([] : List (S81))) else (none)) else (none))))
def spec_DiskMove.l0 : Nat → Int → Int → Int → List (S81) → Int → ByteArray → ByteArray → Int → List (S81) → Option (Int × (List (S81)) × Int)
 | 0, _, _, _, _, _, _, _, _, _ => none
 | k + 1, x8, x11, x267000, x267001, x278000, x278001, x278002, x279000, x279001 => if x11 < (x267001.length : Int) then (if x11 = x8 then (spec_DiskMove.l0 k x8 (wrap64 (x11 + 1)) x267000 x267001 x278000 x278001 x278002 x279000 x279001) else (if 0 ≤ x11 then (if x279001.length < 3518437208883 then (spec_DiskMove.l0 k x8 (wrap64 (x11 + 1)) x267000 x267001 x278000 x278001 x278002 x279000 (x279001 ++ [(⟨(rd_T81 x267001 x11).f0, (rd_T81 x267001 x11).f1, (rd_T81 x267001 x11).f2⟩ : S81)])) else (none)) else (none))) else ((spec_l3Put.f k x279000 x279001 x278000 x278001 x278002).bind fun bt283 => (some (bt283.1, bt283.2, 0)))
end
def spec_DiskMove.f (k : Nat) (a0_0 : Int) (l0_1 : List (S81)) (a1 : Int) (a2 : Int) : Option (Int × (List (S81)) × Int) := (spec_DiskOk.f k a0_0 l0_1).bind fun t268 => (if t268 = true then ((spec_l3Name.f a1).bind fun t269 => (if t269 = true then ((spec_l3Name.f a2).bind fun t270 => (if t270 = true then (spec_DiskMove.j0 k a1 a2 (a1 == a2) a0_0 l0_1) else (spec_DiskMove.j0 k a1 a2 true a0_0 l0_1))) else (spec_DiskMove.j0 k a1 a2 true a0_0 l0_1))) else (spec_DiskMove.j0 k a1 a2 true a0_0 l0_1))
set_option maxRecDepth 100000 in
theorem spec_DiskMove.mono_l : ∀ k, (∀ y0 y1 y2 y3 y4, LeO (spec_DiskMove.j0 k y0 y1 y2 y3 y4) (spec_DiskMove.j0 (k + 1) y0 y1 y2 y3 y4)) ∧ (∀ y0 y1 y2 y3 y4 y5 y6 y7 y8, LeO (spec_DiskMove.l0 k y0 y1 y2 y3 y4 y5 y6 y7 y8) (spec_DiskMove.l0 (k + 1) y0 y1 y2 y3 y4 y5 y6 y7 y8))
 | 0 => ⟨fun _ _ _ _ _ r h => by simp [spec_DiskMove.j0] at h, fun _ _ _ _ _ _ _ _ _ r h => by simp [spec_DiskMove.l0] at h⟩
 | k + 1 => by
  obtain ⟨ih0, ih1⟩ := spec_DiskMove.mono_l k
  refine ⟨?_, ?_⟩
  ·intro y0 y1 y2 y3 y4
   unfold spec_DiskMove.j0
   repeat' first
   | (with_reducible exact ih0 _ _ _ _ _)
   | (with_reducible exact ih1 _ _ _ _ _ _ _ _ _)
   | (with_reducible exact spec_DiskOk.mono _ _ _)
   | (with_reducible exact spec_l3Find.mono _ _ _ _)
   | (with_reducible exact spec_l3Put.mono _ _ _ _ _ _)
   | (with_reducible exact LeO.refl _)
   | (with_reducible exact LeO.none _)
   | (with_reducible refine LeO.ite ?_ ?_)
   | (with_reducible refine LeO.bind ?_ (fun _ => ?_))
   | exact ih0 _ _ _ _ _
   | exact ih1 _ _ _ _ _ _ _ _ _
   | exact spec_DiskOk.mono _ _ _
   | exact spec_l3Find.mono _ _ _ _
   | exact spec_l3Put.mono _ _ _ _ _ _
   | exact LeO.none _
   | refine LeO.ite ?_ ?_
   | refine LeO.bind ?_ (fun _ => ?_)
  ·intro y0 y1 y2 y3 y4 y5 y6 y7 y8
   unfold spec_DiskMove.l0
   repeat' first
   | (with_reducible exact ih0 _ _ _ _ _)
   | (with_reducible exact ih1 _ _ _ _ _ _ _ _ _)
   | (with_reducible exact spec_DiskOk.mono _ _ _)
   | (with_reducible exact spec_l3Find.mono _ _ _ _)
   | (with_reducible exact spec_l3Put.mono _ _ _ _ _ _)
   | (with_reducible exact LeO.refl _)
   | (with_reducible exact LeO.none _)
   | (with_reducible refine LeO.ite ?_ ?_)
   | (with_reducible refine LeO.bind ?_ (fun _ => ?_))
   | exact ih0 _ _ _ _ _
   | exact ih1 _ _ _ _ _ _ _ _ _
   | exact spec_DiskOk.mono _ _ _
   | exact spec_l3Find.mono _ _ _ _
   | exact spec_l3Put.mono _ _ _ _ _ _
   | exact LeO.none _
   | refine LeO.ite ?_ ?_
   | refine LeO.bind ?_ (fun _ => ?_)
theorem spec_DiskMove.mono : ∀ a0 a1 a2 a3 k, LeO (spec_DiskMove.f k a0 a1 a2 a3) (spec_DiskMove.f (k + 1) a0 a1 a2 a3) := by
 intro a0 a1 a2 a3 k
 obtain ⟨ih0, ih1⟩ := spec_DiskMove.mono_l k
 unfold spec_DiskMove.f
 repeat' first
  | (with_reducible exact ih0 _ _ _ _ _)
  | (with_reducible exact ih1 _ _ _ _ _ _ _ _ _)
  | (with_reducible exact spec_DiskOk.mono _ _ _)
  | (with_reducible exact spec_l3Find.mono _ _ _ _)
  | (with_reducible exact spec_l3Put.mono _ _ _ _ _ _)
  | (with_reducible exact LeO.refl _)
  | (with_reducible exact LeO.none _)
  | (with_reducible refine LeO.ite ?_ ?_)
  | (with_reducible refine LeO.bind ?_ (fun _ => ?_))
  | exact ih0 _ _ _ _ _
  | exact ih1 _ _ _ _ _ _ _ _ _
  | exact spec_DiskOk.mono _ _ _
  | exact spec_l3Find.mono _ _ _ _
  | exact spec_l3Put.mono _ _ _ _ _ _
  | exact LeO.none _
  | refine LeO.ite ?_ ?_
  | refine LeO.bind ?_ (fun _ => ?_)
def spec_DiskMove.T13 : Bool × List (List Nat × List Nat) := (true, [([], []), ([0], [0]), ([], []), ([2], [2]), ([], []), ([3, 4], [3, 4]), ([5], [5]), ([6], [6]), ([1, 7], [1, 7]), ([0, 1, 2, 3, 4, 5, 6, 7, 8], []), ([9, 8, 8, 0, 1, 2, 3, 4, 5, 6, 7, 8], [8, 9])])
def spec_DiskMove.B13 : List Nat := [0, 1, 0, 4, 0, 28, 60, 124, 255, 511, 1023]
theorem spec_DiskMove.tab13 : rtab .any (opsOf Try.f172 13) = spec_DiskMove.T13 := by kernel_rfl
theorem spec_DiskMove.bits13 : waitsOk spec_DiskMove.T13.2 spec_DiskMove.B13 = true := by kernel_rfl
set_option maxHeartbeats 8000000 in
set_option maxRecDepth 100000 in
theorem spec_DiskMove.calls (k : Nat) (a0_0 : Int) (A0_1 : Option Addr) (c0_1 : Nat) (l0_1 : List (S81)) (a1 : Int) (a2 : Int) (r1 : Int) (r2 : List (S81)) (r3 : Int) (w : World) (hr0_1 : Kd.C k81 w A0_1 l0_1.length l0_1) (hc0_1 : l0_1.length ≤ c0_1) (h : spec_DiskMove.f k a0_0 l0_1 a1 a2 = some (r1, r2, r3)) :
 Calls Try.prog 172 #[.agg #[.int .i64 a0_0, .slice A0_1 l0_1.length c0_1], .int .i64 a1, .int .i64 a2] w fun e w' => ∃ v1_ : Value, e = .returned (.tuple #[.agg #[.int .i64 r1, v1_], .int .i64 r3]) ∧ Kd.R k81 81 w' w.heap.size (fun _ => True) v1_ r2 ∧ Below w.heap.size w w' := by
 have hu63 := Try.underlying63
 have hu81 := Try.underlying81
 have HR0_1 := Aside0.mk hr0_1
 have HC0_1 := Aside0.mk hc0_1
 clear hr0_1 hc0_1
 have HB := Aside0.mk (Below.refl w.heap.size w)
 have H : ((spec_DiskOk.f k a0_0 l0_1).bind fun t268 => (if t268 = true then ((spec_l3Name.f a1).bind fun t269 => (if t269 = true then ((spec_l3Name.f a2).bind fun t270 => (if t270 = true then (spec_DiskMove.j0 k a1 a2 (a1 == a2) a0_0 l0_1) else (spec_DiskMove.j0 k a1 a2 true a0_0 l0_1))) else (spec_DiskMove.j0 k a1 a2 true a0_0 l0_1))) else (spec_DiskMove.j0 k a1 a2 true a0_0 l0_1))) = some (r1, r2, r3) := h
 clear h
 have HC4 := Aside0.mk H
 clear H
 go_enter Try.func172, Try.ntmps172
 go_upto_region 1 with (first | ((with_reducible refine gate_dst (N := 3) rfl ?_); refine box_event ?hg (N := 3) ?hd (cs := #[.int .i64 a0_0, .slice A0_1 l0_1.length c0_1]) (t := 63) ?hr ?_; (case hd => rfl); (case hg => rfl); (case hr => first | (go_simp; done) | (go_simp; rfl)); intro gb266 hg w5 hbox hb; have BK266 := Aside0.mk (hbox); have GW266 := Aside0.mk (xge hg); have GE266 := Aside0.mk (xge hg); replace HB := xbs hb; clear hb hbox hg) | ((with_reducible refine gate_dst (N := 6) rfl ?_); refine box_event ?hg (N := 6) ?hd (cs := #[.int .i64 0, .slice none 0 0]) (t := 63) ?hr ?_; (case hd => rfl); (case hg => rfl); (case hr => first | (go_simp; done) | (go_simp; rfl)); intro gb267 hg w6 hbox hb; have GW267 := Aside0.mk (xge hg); have GE267 := Aside0.mk (xge hg); replace HB := xbs hb; have NB266_267 := Aside0.mk ((by rw [hg]; exact Nat.ne_of_lt (blk_lt (g := gb266) (o := .cells #[.int .i64 a0_0, .slice A0_1 l0_1.length c0_1] 63 (0, 0)) xblk) : gb266 ≠ gb267)); have NB267_266 := Aside0.mk ((by rw [hg]; exact Nat.ne_of_gt (blk_lt (g := gb266) (o := .cells #[.int .i64 a0_0, .slice A0_1 l0_1.length c0_1] 63 (0, 0)) xblk) : gb267 ≠ gb266)); replace BK266 := xbb BK266 hb; have BK267 := Aside0.mk (hbox); clear hb hbox hg))
 (try simp only [Act.put, List.setIfInBounds_toArray, List.set_cons_zero, List.set_cons_succ])
 go_cut [29] (fun v29 wc => ∃ (kq : Nat) (x29_3 : Bool), v29 = .bool x29_3 ∧ Aside0 (spec_DiskMove.j0 kq a1 a2 x29_3 a0_0 l0_1 = some (r1, r2, r3)) ∧ Aside0 (kq ≤ k) ∧ Aside0 (wc.heap[gb266]? = some (.cells #[.int .i64 a0_0, (.slice A0_1 l0_1.length c0_1)] 63 (0, 0))) ∧ Aside0 (wc.heap[gb267]? = some (.cells #[.int .i64 0, (.slice none 0 0)] 63 (0, 0))) ∧ Aside0 (Below w.heap.size w wc))
 case first =>
  have H := HC4.out
  clear HC4
  replace H := Option.bind_eq_some_iff.mp H
  obtain ⟨t268, A70, H⟩ := H
  replace H : (if t268 = true then ((spec_l3Name.f a1).bind fun t269 => (if t269 = true then ((spec_l3Name.f a2).bind fun t270 => (if t270 = true then (spec_DiskMove.j0 k a1 a2 (a1 == a2) a0_0 l0_1) else (spec_DiskMove.j0 k a1 a2 true a0_0 l0_1))) else (spec_DiskMove.j0 k a1 a2 true a0_0 l0_1))) else (spec_DiskMove.j0 k a1 a2 true a0_0 l0_1)) = some (r1, r2, r3) := H
  have A7 := Aside0.mk A70
  clear A70
  by_cases c8 : t268 = true
  ·subst c8
   have H1 : ((spec_l3Name.f a1).bind fun t269 => (if t269 = true then ((spec_l3Name.f a2).bind fun t270 => (if t270 = true then (spec_DiskMove.j0 k a1 a2 (a1 == a2) a0_0 l0_1) else (spec_DiskMove.j0 k a1 a2 true a0_0 l0_1))) else (spec_DiskMove.j0 k a1 a2 true a0_0 l0_1))) = some (r1, r2, r3) := by rw [if_pos rfl] at H; exact H
   clear H
   have H := H1
   clear H1
   replace H := Option.bind_eq_some_iff.mp H
   obtain ⟨t269, A90, H⟩ := H
   replace H : (if t269 = true then ((spec_l3Name.f a2).bind fun t270 => (if t270 = true then (spec_DiskMove.j0 k a1 a2 (a1 == a2) a0_0 l0_1) else (spec_DiskMove.j0 k a1 a2 true a0_0 l0_1))) else (spec_DiskMove.j0 k a1 a2 true a0_0 l0_1)) = some (r1, r2, r3) := H
   have A9 := Aside0.mk A90
   clear A90
   by_cases c10 : t269 = true
   ·subst c10
    have H1 : ((spec_l3Name.f a2).bind fun t270 => (if t270 = true then (spec_DiskMove.j0 k a1 a2 (a1 == a2) a0_0 l0_1) else (spec_DiskMove.j0 k a1 a2 true a0_0 l0_1))) = some (r1, r2, r3) := by rw [if_pos rfl] at H; exact H
    clear H
    have H := H1
    clear H1
    replace H := Option.bind_eq_some_iff.mp H
    obtain ⟨t270, A110, H⟩ := H
    replace H : (if t270 = true then (spec_DiskMove.j0 k a1 a2 (a1 == a2) a0_0 l0_1) else (spec_DiskMove.j0 k a1 a2 true a0_0 l0_1)) = some (r1, r2, r3) := H
    have A11 := Aside0.mk A110
    clear A110
    by_cases c12 : t270 = true
    ·subst c12
     have H1 : (spec_DiskMove.j0 k a1 a2 (a1 == a2) a0_0 l0_1) = some (r1, r2, r3) := by rw [if_pos rfl] at H; exact H
     clear H
     have H := H1
     clear H1
     have H' := Aside0.mk H
     clear H
     have hnb13 := NB266_267.out
     have hnc13 := NB267_266.out
     have hcz14_0 : w6.cell? ⟨gb266, 0, none⟩ = some (.int .i64 a0_0) := (blk_cell BK266.out 0).trans rfl
     have hcz14_1 : w6.cell? ⟨gb266, 1, none⟩ = some (.slice A0_1 l0_1.length c0_1) := (blk_cell BK266.out 1).trans rfl
     have hfz14_0 := blk_frozen BK266.out 0
     have hfz14_1 := blk_frozen BK266.out 1
     go_wp2_with (first | ((with_reducible refine gate_callee (f := 47) rfl ?_); refine goesL_ (some 13) rfl rfl Try.func47 (by kernel_rfl) rfl #[.agg #[.int .i64 a0_0, .slice A0_1 l0_1.length c0_1]] rfl (by (try simp only [List.map_toArray, List.map_cons, List.map_nil]); first | done | rfl | (simp only [List.length_drop, List.length_take]; rfl)) ?_; (with_reducible refine (spec_DiskOk.calls k a0_0 _ _ l0_1 true _ ?side1 ?side2 A7.out).mono ?_); (case side1 => exact xcb HR0_1); (case side2 => exact HC0_1.out); rintro e w15 ⟨rfl, hb⟩; refine ⟨_, rfl, ?_⟩; replace BK266 := xbb BK266 hb; replace BK267 := xbb BK267 hb; replace HB := xbs hb; (try clear hb); (try clear hb2); (try clear hk); (try clear hi)) | (go_at_call 104; (with_reducible refine (spec_l3Name.calls a1 true _ A9.out).mono ?_); rintro e w' ⟨rfl, ⟨nd, rfl⟩⟩) | (go_at_call 104; (with_reducible refine (spec_l3Name.calls a2 true _ A11.out).mono ?_); rintro e w' ⟨rfl, ⟨nd, rfl⟩⟩))
     go_meet
     case rel => exact ⟨_, ((a1 == a2)), (by first | rfl | (simp; done) | (simp [*]; done)), H', ⟨by first | omega | exact Nat.le_refl _⟩, ⟨xblk⟩, ⟨xblk⟩, ⟨xbg⟩⟩
    ·replace c12 := Bool.eq_false_iff.mpr c12
     subst c12
     have H1 : (spec_DiskMove.j0 k a1 a2 true a0_0 l0_1) = some (r1, r2, r3) := by rw [if_neg (show ¬ (false = true) by decide)] at H; exact H
     clear H
     have H := H1
     clear H1
     have H' := Aside0.mk H
     clear H
     have hnb16 := NB266_267.out
     have hnc16 := NB267_266.out
     have hcz17_0 : w6.cell? ⟨gb266, 0, none⟩ = some (.int .i64 a0_0) := (blk_cell BK266.out 0).trans rfl
     have hcz17_1 : w6.cell? ⟨gb266, 1, none⟩ = some (.slice A0_1 l0_1.length c0_1) := (blk_cell BK266.out 1).trans rfl
     have hfz17_0 := blk_frozen BK266.out 0
     have hfz17_1 := blk_frozen BK266.out 1
     go_wp2_with (first | ((with_reducible refine gate_callee (f := 47) rfl ?_); refine goesL_ (some 13) rfl rfl Try.func47 (by kernel_rfl) rfl #[.agg #[.int .i64 a0_0, .slice A0_1 l0_1.length c0_1]] rfl (by (try simp only [List.map_toArray, List.map_cons, List.map_nil]); first | done | rfl | (simp only [List.length_drop, List.length_take]; rfl)) ?_; (with_reducible refine (spec_DiskOk.calls k a0_0 _ _ l0_1 true _ ?side1 ?side2 A7.out).mono ?_); (case side1 => exact xcb HR0_1); (case side2 => exact HC0_1.out); rintro e w18 ⟨rfl, hb⟩; refine ⟨_, rfl, ?_⟩; replace BK266 := xbb BK266 hb; replace BK267 := xbb BK267 hb; replace HB := xbs hb; (try clear hb); (try clear hb2); (try clear hk); (try clear hi)) | (go_at_call 104; (with_reducible refine (spec_l3Name.calls a1 true _ A9.out).mono ?_); rintro e w' ⟨rfl, ⟨nd, rfl⟩⟩) | (go_at_call 104; (with_reducible refine (spec_l3Name.calls a2 false _ A11.out).mono ?_); rintro e w' ⟨rfl, ⟨nd, rfl⟩⟩))
     go_meet
     case rel => exact ⟨_, (true), (by first | rfl | (simp; done) | (simp [*]; done)), H', ⟨by first | omega | exact Nat.le_refl _⟩, ⟨xblk⟩, ⟨xblk⟩, ⟨xbg⟩⟩
   ·replace c10 := Bool.eq_false_iff.mpr c10
    subst c10
    have H1 : (spec_DiskMove.j0 k a1 a2 true a0_0 l0_1) = some (r1, r2, r3) := by rw [if_neg (show ¬ (false = true) by decide)] at H; exact H
    clear H
    have H := H1
    clear H1
    have H' := Aside0.mk H
    clear H
    have hnb19 := NB266_267.out
    have hnc19 := NB267_266.out
    have hcz20_0 : w6.cell? ⟨gb266, 0, none⟩ = some (.int .i64 a0_0) := (blk_cell BK266.out 0).trans rfl
    have hcz20_1 : w6.cell? ⟨gb266, 1, none⟩ = some (.slice A0_1 l0_1.length c0_1) := (blk_cell BK266.out 1).trans rfl
    have hfz20_0 := blk_frozen BK266.out 0
    have hfz20_1 := blk_frozen BK266.out 1
    go_wp2_with (first | ((with_reducible refine gate_callee (f := 47) rfl ?_); refine goesL_ (some 13) rfl rfl Try.func47 (by kernel_rfl) rfl #[.agg #[.int .i64 a0_0, .slice A0_1 l0_1.length c0_1]] rfl (by (try simp only [List.map_toArray, List.map_cons, List.map_nil]); first | done | rfl | (simp only [List.length_drop, List.length_take]; rfl)) ?_; (with_reducible refine (spec_DiskOk.calls k a0_0 _ _ l0_1 true _ ?side1 ?side2 A7.out).mono ?_); (case side1 => exact xcb HR0_1); (case side2 => exact HC0_1.out); rintro e w21 ⟨rfl, hb⟩; refine ⟨_, rfl, ?_⟩; replace BK266 := xbb BK266 hb; replace BK267 := xbb BK267 hb; replace HB := xbs hb; (try clear hb); (try clear hb2); (try clear hk); (try clear hi)) | (go_at_call 104; (with_reducible refine (spec_l3Name.calls a1 false _ A9.out).mono ?_); rintro e w' ⟨rfl, ⟨nd, rfl⟩⟩))
    go_meet
    case rel => exact ⟨_, (true), (by first | rfl | (simp; done) | (simp [*]; done)), H', ⟨by first | omega | exact Nat.le_refl _⟩, ⟨xblk⟩, ⟨xblk⟩, ⟨xbg⟩⟩
  ·replace c8 := Bool.eq_false_iff.mpr c8
   subst c8
   have H1 : (spec_DiskMove.j0 k a1 a2 true a0_0 l0_1) = some (r1, r2, r3) := by rw [if_neg (show ¬ (false = true) by decide)] at H; exact H
   clear H
   have H := H1
   clear H1
   have H' := Aside0.mk H
   clear H
   have hnb22 := NB266_267.out
   have hnc22 := NB267_266.out
   have hcz23_0 : w6.cell? ⟨gb266, 0, none⟩ = some (.int .i64 a0_0) := (blk_cell BK266.out 0).trans rfl
   have hcz23_1 : w6.cell? ⟨gb266, 1, none⟩ = some (.slice A0_1 l0_1.length c0_1) := (blk_cell BK266.out 1).trans rfl
   have hfz23_0 := blk_frozen BK266.out 0
   have hfz23_1 := blk_frozen BK266.out 1
   go_wp2_with (first | ((with_reducible refine gate_callee (f := 47) rfl ?_); refine goesL_ (some 13) rfl rfl Try.func47 (by kernel_rfl) rfl #[.agg #[.int .i64 a0_0, .slice A0_1 l0_1.length c0_1]] rfl (by (try simp only [List.map_toArray, List.map_cons, List.map_nil]); first | done | rfl | (simp only [List.length_drop, List.length_take]; rfl)) ?_; (with_reducible refine (spec_DiskOk.calls k a0_0 _ _ l0_1 false _ ?side1 ?side2 A7.out).mono ?_); (case side1 => exact xcb HR0_1); (case side2 => exact HC0_1.out); rintro e w24 ⟨rfl, hb⟩; refine ⟨_, rfl, ?_⟩; replace BK266 := xbb BK266 hb; replace BK267 := xbb BK267 hb; replace HB := xbs hb; (try clear hb); (try clear hb2); (try clear hk); (try clear hi)))
   go_meet
   case rel => exact ⟨_, (true), (by first | rfl | (simp; done) | (simp [*]; done)), H', ⟨by first | omega | exact Nat.le_refl _⟩, ⟨xblk⟩, ⟨xblk⟩, ⟨xbg⟩⟩
 case rest =>
  clear HC4
  try clear c1
  try clear c2
  try clear p2
  try clear c4
  try clear c8
  try clear c10
  try clear c12
  try clear c13
  try clear c16
  try clear c17
  try clear c19
  try clear c22
  try clear hcz14_0
  try clear hcz14_1
  try clear hcz17_0
  try clear hcz17_1
  try clear hcz20_0
  try clear hcz20_1
  try clear hcz23_0
  try clear hcz23_1
  try clear hfz14_0
  try clear hfz14_1
  try clear hfz17_0
  try clear hfz17_1
  try clear hfz20_0
  try clear hfz20_1
  try clear hfz23_0
  try clear hfz23_1
  obtain ⟨kq, x29_3, rfl, HA, HJ3, BK266, BK267, HB⟩ := hcut
  cases kq with
  | zero => exact absurd HA.out (by simp [spec_DiskMove.j0])
  | succ kj3 =>
   have H := HA.out
   clear HA
   simp only [spec_DiskMove.j0] at H
   by_cases c25 : x29_3 = true
   ·subst c25
    have H1 : (some (0, ([] : List (S81)), 1)) = some (r1, r2, r3) := by rw [if_pos rfl] at H; exact H
    clear H
    have H := H1
    clear H1
    simp only [Option.some.injEq, Prod.mk.injEq] at H
    obtain ⟨rfl, rfl, rfl⟩ := H
    have hnb26 := NB267_266.out
    have hnc26 := NB266_267.out
    have hcz27_0 : wc.cell? ⟨gb267, 0, none⟩ = some (.int .i64 0) := (blk_cell BK267.out 0).trans rfl
    have hcz27_1 : wc.cell? ⟨gb267, 1, none⟩ = some (.slice none 0 0) := (blk_cell BK267.out 1).trans rfl
    have hfz27_0 := blk_frozen BK267.out 0
    have hfz27_1 := blk_frozen BK267.out 1
    go_wp2
    refine bodyPost_ret (results_ct rfl _ _ gb267 63 #[.int .i64 0, .slice none 0 0] (0, 0) _ rfl (by (with_reducible repeat (first | refine blk_drewN ?_ _ | refine blk_drew ?_ | refine blk_alloc ?_ _)); refine blk_put (cs := #[.int .i64 0, .slice none 0 0]) ?_ 1 _ rfl; (with_reducible repeat (first | refine blk_drewN ?_ _ | refine blk_drew ?_ | refine blk_alloc ?_ _)); refine blk_put (cs := #[.int .i64 0, .slice none 0 0]) ?_ 0 _ rfl; (with_reducible repeat (first | refine blk_drewN ?_ _ | refine blk_drew ?_ | refine blk_alloc ?_ _)); exact BK267.out) Try.underlying63 rfl (by kernel_rfl)) rfl ?_
    exact ⟨_, by first | rfl | (simp [errW_none, errW_some] <;> rfl) | (simp [*, errW_none, errW_some] <;> rfl), by first | exact Kd.R_nil _ _ _ _ _ | exact Kd.N_nil _ _ _ _ _ | exact Kd.V_nil _ _ _ _ _ | exact Kd.Q_nil _ _ _ _ _ | exact Kd.S_nil _ _ _ _ _, xbg⟩
   ·replace c25 := Bool.eq_false_iff.mpr c25
    subst c25
    have H1 : ((spec_l3Find.f kj3 a0_0 l0_1 a1).bind fun t271 => (if t271 < 0 then ((spec_l3Copy.f a0_0 l0_1).bind fun bt272 => (some (bt272.1, bt272.2, 2))) else (if 0 ≤ t271 then (if t271 < (l0_1.length : Int) then (spec_DiskMove.l0 kj3 t271 0 a0_0 l0_1 a2 ((rd_T81 l0_1 t271).f1) ((rd_T81 l0_1 t271).f2) a0_0 ([] : List (S81))) else (none)) else (none)))) = some (r1, r2, r3) := by rw [if_neg (show ¬ (false = true) by decide)] at H; exact H
    clear H
    have H := H1
    clear H1
    replace H := Option.bind_eq_some_iff.mp H
    obtain ⟨t271, A280, H⟩ := H
    replace H : (if t271 < 0 then ((spec_l3Copy.f a0_0 l0_1).bind fun bt272 => (some (bt272.1, bt272.2, 2))) else (if 0 ≤ t271 then (if t271 < (l0_1.length : Int) then (spec_DiskMove.l0 kj3 t271 0 a0_0 l0_1 a2 ((rd_T81 l0_1 t271).f1) ((rd_T81 l0_1 t271).f2) a0_0 ([] : List (S81))) else (none)) else (none))) = some (r1, r2, r3) := H
    have A28 := Aside0.mk A280
    clear A280
    by_cases c29 : t271 < 0
    ·rw [if_pos c29] at H
     have c29b0 : decide (t271 < 0) = true := decide_eq_true c29
     clear c29
     replace H := Option.bind_eq_some_iff.mp H
     obtain ⟨⟨t272, t273⟩, A300, H⟩ := H
     replace H : (some (t272, t273, 2)) = some (r1, r2, r3) := H
     have A30 := Aside0.mk A300
     clear A300
     simp only [Option.some.injEq, Prod.mk.injEq] at H
     obtain ⟨rfl, rfl, rfl⟩ := H
     have hnb31 := NB266_267.out
     have hnc31 := NB267_266.out
     have hcz32_0 : wc.cell? ⟨gb266, 0, none⟩ = some (.int .i64 a0_0) := (blk_cell BK266.out 0).trans rfl
     have hcz32_1 : wc.cell? ⟨gb266, 1, none⟩ = some (.slice A0_1 l0_1.length c0_1) := (blk_cell BK266.out 1).trans rfl
     have hfz32_0 := blk_frozen BK266.out 0
     have hfz32_1 := blk_frozen BK266.out 1
     go_wp2_with (first | ((with_reducible refine gate_callee (f := 105) rfl ?_); refine goesL_ (some 33) rfl rfl Try.func105 (by kernel_rfl) rfl #[.agg #[.int .i64 a0_0, .slice A0_1 l0_1.length c0_1], .int .i64 a1] rfl (by (try simp only [List.map_toArray, List.map_cons, List.map_nil]); first | done | rfl | (simp only [List.length_drop, List.length_take]; rfl)) ?_; (with_reducible refine (spec_l3Find.calls kj3 a0_0 _ _ l0_1 a1 t271 _ ?side1 ?side2 A28.out).mono ?_); (case side1 => exact xcb HR0_1); (case side2 => exact HC0_1.out); rintro e w33 ⟨rfl, hb⟩; refine ⟨_, rfl, ?_⟩; replace BK266 := xbb BK266 hb; replace BK267 := xbb BK267 hb; replace HB := xbs hb; (try clear hb); (try clear hb2); (try clear hk); (try clear hi); have hcz34_0 : w33.cell? ⟨gb266, 0, none⟩ = some (.int .i64 a0_0) := (blk_cell BK266.out 0).trans rfl; have hcz34_1 : w33.cell? ⟨gb266, 1, none⟩ = some (.slice A0_1 l0_1.length c0_1) := (blk_cell BK266.out 1).trans rfl; have hfz34_0 := blk_frozen BK266.out 0; have hfz34_1 := blk_frozen BK266.out 1) | ((with_reducible refine gate_callee (f := 106) rfl ?_); refine goesL_ (some 37) rfl rfl Try.func106 (by kernel_rfl) rfl #[.agg #[.int .i64 a0_0, .slice A0_1 l0_1.length c0_1]] rfl (by (try simp only [List.map_toArray, List.map_cons, List.map_nil]); first | done | rfl | (simp only [List.length_drop, List.length_take]; rfl)) ?_; (with_reducible refine (spec_l3Copy.calls a0_0 _ _ l0_1 t272 t273 _ ?side1 ?side2 A30.out).mono ?_); (case side1 => exact xcb HR0_1); (case side2 => exact HC0_1.out); rintro e w35 ⟨v274, rfl, ho0, hb⟩; refine ⟨_, rfl, ?_⟩; have HO275 := Aside0.mk (Kd.R_lower ho0 (below_size xbg)); replace BK266 := xbb BK266 hb; replace BK267 := xbb BK267 hb; replace HB := xbs hb; (try clear hb); (try clear hb2); (try clear hk); (try clear hi); (try clear ho0); have hcz36_0 : w35.cell? ⟨gb267, 0, none⟩ = some (.int .i64 0) := (blk_cell BK267.out 0).trans rfl; have hcz36_1 : w35.cell? ⟨gb267, 1, none⟩ = some (.slice none 0 0) := (blk_cell BK267.out 1).trans rfl; have hfz36_0 := blk_frozen BK267.out 0; have hfz36_1 := blk_frozen BK267.out 1; obtain ⟨Ao37, co37, eo37⟩ := Kd.R_slice HO275.out; subst eo37))
     refine bodyPost_ret (results_ct rfl _ _ gb267 63 #[.int .i64 t272, .slice Ao37 t273.length co37] (0, 0) _ rfl (by (with_reducible repeat (first | refine blk_drewN ?_ _ | refine blk_drew ?_ | refine blk_alloc ?_ _)); refine blk_put (cs := #[.int .i64 t272, .slice none 0 0]) ?_ 1 _ rfl; (with_reducible repeat (first | refine blk_drewN ?_ _ | refine blk_drew ?_ | refine blk_alloc ?_ _)); refine blk_put (cs := #[.int .i64 0, .slice none 0 0]) ?_ 0 _ rfl; (with_reducible repeat (first | refine blk_drewN ?_ _ | refine blk_drew ?_ | refine blk_alloc ?_ _)); exact BK267.out) Try.underlying63 rfl (by kernel_rfl)) rfl ?_
     exact ⟨_, by first | rfl | (simp [errW_none, errW_some] <;> rfl) | (simp [*, errW_none, errW_some] <;> rfl), by (with_reducible repeat (first | apply Kd.R_alloc | apply Kd.R_drewN | apply Kd.R_drew)); exact Kd.R_mono (Kd.R_far (p := ⟨gb267, 1, none⟩) (Kd.R_far (p := ⟨gb267, 0, none⟩) (Kd.R_types HO275.out BK267.out (by decide)) (fun _ hk => hk.2) (.int .i64 t272)) (fun _ hk => hk.2) (.slice Ao37 t273.length co37)) (fun _ hk => trivial), xbg⟩
    ·rw [if_neg c29] at H
     have c29b0 : decide (t271 < 0) = false := decide_eq_false c29
     clear c29
     by_cases c38 : 0 ≤ t271
     ·rw [if_pos c38] at H
      have c38b0 : decide (0 ≤ t271) = true := decide_eq_true c38
      clear c38
      by_cases c39 : t271 < (l0_1.length : Int)
      ·rw [if_pos c39] at H
       have c39b0 : decide (t271 < (l0_1.length : Int)) = true := decide_eq_true c39
       clear c39
       have H' := Aside0.mk H
       clear H
       have hnb40 := NB266_267.out
       have hnc40 := NB267_266.out
       have hcz41_0 : wc.cell? ⟨gb266, 0, none⟩ = some (.int .i64 a0_0) := (blk_cell BK266.out 0).trans rfl
       have hcz41_1 : wc.cell? ⟨gb266, 1, none⟩ = some (.slice A0_1 l0_1.length c0_1) := (blk_cell BK266.out 1).trans rfl
       have hfz41_0 := blk_frozen BK266.out 0
       have hfz41_1 := blk_frozen BK266.out 1
       go_wp2_with (first | ((with_reducible refine gate_callee (f := 105) rfl ?_); refine goesL_ (some 33) rfl rfl Try.func105 (by kernel_rfl) rfl #[.agg #[.int .i64 a0_0, .slice A0_1 l0_1.length c0_1], .int .i64 a1] rfl (by (try simp only [List.map_toArray, List.map_cons, List.map_nil]); first | done | rfl | (simp only [List.length_drop, List.length_take]; rfl)) ?_; (with_reducible refine (spec_l3Find.calls kj3 a0_0 _ _ l0_1 a1 t271 _ ?side1 ?side2 A28.out).mono ?_); (case side1 => exact xcb HR0_1); (case side2 => exact HC0_1.out); rintro e w42 ⟨rfl, hb⟩; refine ⟨_, rfl, ?_⟩; replace BK266 := xbb BK266 hb; replace BK267 := xbb BK267 hb; replace HB := xbs hb; (try clear hb); (try clear hb2); (try clear hk); (try clear hi); have hcz43_0 : w42.cell? ⟨gb266, 0, none⟩ = some (.int .i64 a0_0) := (blk_cell BK266.out 0).trans rfl; have hcz43_1 : w42.cell? ⟨gb266, 1, none⟩ = some (.slice A0_1 l0_1.length c0_1) := (blk_cell BK266.out 1).trans rfl; have hfz43_0 := blk_frozen BK266.out 0; have hfz43_1 := blk_frozen BK266.out 1; have p276 : 0 ≤ (t271 : Int) := of_decide_eq_true (by first | (with_reducible assumption) | assumption); have q276 : t271 < (l0_1.length : Int) := of_decide_eq_true (by first | (with_reducible assumption) | assumption); obtain ⟨ad276, e276, hx276_0, hx276_1, hx276_2⟩ := at_T81 HR0_1.out t271 p276 q276; cases e276; replace hx276_0 := xce HB hx276_0; replace hx276_1 := xce HB hx276_1; replace hx276_2 := xce HB hx276_2; replace p276 := eq_true p276; replace q276 := eq_true q276) | ((with_reducible refine gate_dst (N := 9) rfl ?_); refine box_event ?hg (N := 9) ?hd (cs := #[.int .i64 0, .string (⟨#[]⟩ : ByteArray), .string (⟨#[]⟩ : ByteArray)]) (t := 81) ?hr ?_; (case hd => rfl); (case hg => rfl); (case hr => first | (go_simp; done) | (go_simp; rfl)); intro gb277 hg w44 hbox hb; have GW277 := Aside0.mk (xge hg); have GE277 := Aside0.mk (xge hg); replace HB := xbs hb; have NB266_277 := Aside0.mk ((by rw [hg]; exact Nat.ne_of_lt (blk_lt (g := gb266) (o := .cells #[.int .i64 a0_0, .slice (some ad276) l0_1.length c0_1] 63 (0, 0)) xblk) : gb266 ≠ gb277)); have NB277_266 := Aside0.mk ((by rw [hg]; exact Nat.ne_of_gt (blk_lt (g := gb266) (o := .cells #[.int .i64 a0_0, .slice (some ad276) l0_1.length c0_1] 63 (0, 0)) xblk) : gb277 ≠ gb266)); have NB267_277 := Aside0.mk ((by rw [hg]; exact Nat.ne_of_lt (blk_lt (g := gb267) (o := .cells #[.int .i64 0, .slice none 0 0] 63 (0, 0)) xblk) : gb267 ≠ gb277)); have NB277_267 := Aside0.mk ((by rw [hg]; exact Nat.ne_of_gt (blk_lt (g := gb267) (o := .cells #[.int .i64 0, .slice none 0 0] 63 (0, 0)) xblk) : gb277 ≠ gb267)); replace BK266 := xbb BK266 hb; replace BK267 := xbb BK267 hb; have BK277 := Aside0.mk (hbox); clear hb hbox hg; have hnb45 := NB277_266.out; have hnc45 := NB266_277.out; have hnb46 := NB277_267.out; have hnc46 := NB267_277.out; have hcz47_0 : w44.cell? ⟨gb277, 0, none⟩ = some (.int .i64 0) := (blk_cell BK277.out 0).trans rfl; have hcz47_1 : w44.cell? ⟨gb277, 1, none⟩ = some (.string (⟨#[]⟩ : ByteArray)) := (blk_cell BK277.out 1).trans rfl; have hcz47_2 : w44.cell? ⟨gb277, 2, none⟩ = some (.string (⟨#[]⟩ : ByteArray)) := (blk_cell BK277.out 2).trans rfl; have hfz47_0 := blk_frozen BK277.out 0; have hfz47_1 := blk_frozen BK277.out 1; have hfz47_2 := blk_frozen BK277.out 2) | ((with_reducible refine gate_store (t := 3) (p := 44) rfl ?_); refine store_event (t := 3) (p := 44) (v := ?vo_w48) (w1 := ((((w44.setCell ⟨gb277, 0, none⟩ (.int .i64 ((rd_T81 l0_1 t271).f0))).setCell ⟨gb277, 1, none⟩ (.string ((rd_T81 l0_1 t271).f1))).setCell ⟨gb277, 2, none⟩ (.string ((rd_T81 l0_1 t271).f2))).setCell ⟨gb277, 0, none⟩ (.int .i64 a2))) ?hg ?ho ?hn ?hr ?_; (case ho => rfl); (case hg => rfl); (case hn => rfl); (case hr => first | (go_simp; done) | (go_simp; rfl)); intro w48 hw; replace BK266 : Aside0 (w48.heap[gb266]? = some (.cells #[.int .i64 a0_0, .slice (some ad276) l0_1.length c0_1] 63 (0, 0))) := ⟨(by rw [hw]; exact (by (with_reducible repeat (first | refine blk_drewN ?_ _ | refine blk_drew ?_ | refine blk_alloc ?_ _)); refine blk_far ?_ NB266_277.out _; (with_reducible repeat (first | refine blk_drewN ?_ _ | refine blk_drew ?_ | refine blk_alloc ?_ _)); refine blk_far ?_ NB266_277.out _; (with_reducible repeat (first | refine blk_drewN ?_ _ | refine blk_drew ?_ | refine blk_alloc ?_ _)); refine blk_far ?_ NB266_277.out _; (with_reducible repeat (first | refine blk_drewN ?_ _ | refine blk_drew ?_ | refine blk_alloc ?_ _)); refine blk_far ?_ NB266_277.out _; (with_reducible repeat (first | refine blk_drewN ?_ _ | refine blk_drew ?_ | refine blk_alloc ?_ _)); exact BK266.out))⟩; replace BK267 : Aside0 (w48.heap[gb267]? = some (.cells #[.int .i64 0, .slice none 0 0] 63 (0, 0))) := ⟨(by rw [hw]; exact (by (with_reducible repeat (first | refine blk_drewN ?_ _ | refine blk_drew ?_ | refine blk_alloc ?_ _)); refine blk_far ?_ NB267_277.out _; (with_reducible repeat (first | refine blk_drewN ?_ _ | refine blk_drew ?_ | refine blk_alloc ?_ _)); refine blk_far ?_ NB267_277.out _; (with_reducible repeat (first | refine blk_drewN ?_ _ | refine blk_drew ?_ | refine blk_alloc ?_ _)); refine blk_far ?_ NB267_277.out _; (with_reducible repeat (first | refine blk_drewN ?_ _ | refine blk_drew ?_ | refine blk_alloc ?_ _)); refine blk_far ?_ NB267_277.out _; (with_reducible repeat (first | refine blk_drewN ?_ _ | refine blk_drew ?_ | refine blk_alloc ?_ _)); exact BK267.out))⟩; replace BK277 : Aside0 (w48.heap[gb277]? = some (.cells #[.int .i64 a2, .string ((rd_T81 l0_1 t271).f1), .string ((rd_T81 l0_1 t271).f2)] 81 (0, 0))) := ⟨(by rw [hw]; exact (by (with_reducible repeat (first | refine blk_drewN ?_ _ | refine blk_drew ?_ | refine blk_alloc ?_ _)); refine blk_put (cs := #[.int .i64 ((rd_T81 l0_1 t271).f0), .string ((rd_T81 l0_1 t271).f1), .string ((rd_T81 l0_1 t271).f2)]) ?_ 0 _ rfl; (with_reducible repeat (first | refine blk_drewN ?_ _ | refine blk_drew ?_ | refine blk_alloc ?_ _)); refine blk_put (cs := #[.int .i64 ((rd_T81 l0_1 t271).f0), .string ((rd_T81 l0_1 t271).f1), .string (⟨#[]⟩ : ByteArray)]) ?_ 2 _ rfl; (with_reducible repeat (first | refine blk_drewN ?_ _ | refine blk_drew ?_ | refine blk_alloc ?_ _)); refine blk_put (cs := #[.int .i64 ((rd_T81 l0_1 t271).f0), .string (⟨#[]⟩ : ByteArray), .string (⟨#[]⟩ : ByteArray)]) ?_ 1 _ rfl; (with_reducible repeat (first | refine blk_drewN ?_ _ | refine blk_drew ?_ | refine blk_alloc ?_ _)); refine blk_put (cs := #[.int .i64 0, .string (⟨#[]⟩ : ByteArray), .string (⟨#[]⟩ : ByteArray)]) ?_ 0 _ rfl; (with_reducible repeat (first | refine blk_drewN ?_ _ | refine blk_drew ?_ | refine blk_alloc ?_ _)); exact BK277.out))⟩; replace HB : Aside0 (Below w.heap.size w w48) := ⟨(by rw [hw]; exact xbg)⟩; clear hw; have hcz49_0 : w48.cell? ⟨gb266, 0, none⟩ = some (.int .i64 a0_0) := (blk_cell BK266.out 0).trans rfl; have hcz49_1 : w48.cell? ⟨gb266, 1, none⟩ = some (.slice (some ad276) l0_1.length c0_1) := (blk_cell BK266.out 1).trans rfl; have hfz49_0 := blk_frozen BK266.out 0; have hfz49_1 := blk_frozen BK266.out 1) | ((with_reducible refine gate_dst (N := 10) rfl ?_); refine box_event ?hg (N := 10) ?hd (cs := #[.int .i64 0, .slice none 0 0]) (t := 63) ?hr ?_; (case hd => rfl); (case hg => rfl); (case hr => first | (go_simp; done) | (go_simp; rfl)); intro gb278 hg w50 hbox hb; have GW278 := Aside0.mk (xge hg); have GE278 := Aside0.mk (xge hg); replace HB := xbs hb; have NB266_278 := Aside0.mk ((by rw [hg]; exact Nat.ne_of_lt (blk_lt (g := gb266) (o := .cells #[.int .i64 a0_0, .slice (some ad276) l0_1.length c0_1] 63 (0, 0)) xblk) : gb266 ≠ gb278)); have NB278_266 := Aside0.mk ((by rw [hg]; exact Nat.ne_of_gt (blk_lt (g := gb266) (o := .cells #[.int .i64 a0_0, .slice (some ad276) l0_1.length c0_1] 63 (0, 0)) xblk) : gb278 ≠ gb266)); have NB267_278 := Aside0.mk ((by rw [hg]; exact Nat.ne_of_lt (blk_lt (g := gb267) (o := .cells #[.int .i64 0, .slice none 0 0] 63 (0, 0)) xblk) : gb267 ≠ gb278)); have NB278_267 := Aside0.mk ((by rw [hg]; exact Nat.ne_of_gt (blk_lt (g := gb267) (o := .cells #[.int .i64 0, .slice none 0 0] 63 (0, 0)) xblk) : gb278 ≠ gb267)); have NB277_278 := Aside0.mk ((by rw [hg]; exact Nat.ne_of_lt (blk_lt (g := gb277) (o := .cells #[.int .i64 a2, .string ((rd_T81 l0_1 t271).f1), .string ((rd_T81 l0_1 t271).f2)] 81 (0, 0)) xblk) : gb277 ≠ gb278)); have NB278_277 := Aside0.mk ((by rw [hg]; exact Nat.ne_of_gt (blk_lt (g := gb277) (o := .cells #[.int .i64 a2, .string ((rd_T81 l0_1 t271).f1), .string ((rd_T81 l0_1 t271).f2)] 81 (0, 0)) xblk) : gb278 ≠ gb277)); replace BK266 := xbb BK266 hb; replace BK267 := xbb BK267 hb; replace BK277 := xbb BK277 hb; have BK278 := Aside0.mk (hbox); clear hb hbox hg; have hnb51 := NB278_266.out; have hnc51 := NB266_278.out; have hnb52 := NB278_267.out; have hnc52 := NB267_278.out; have hnb53 := NB278_277.out; have hnc53 := NB277_278.out; have hcz54_0 : w50.cell? ⟨gb278, 0, none⟩ = some (.int .i64 0) := (blk_cell BK278.out 0).trans rfl; have hcz54_1 : w50.cell? ⟨gb278, 1, none⟩ = some (.slice none 0 0) := (blk_cell BK278.out 1).trans rfl; have hfz54_0 := blk_frozen BK278.out 0; have hfz54_1 := blk_frozen BK278.out 1))
       go_loopg [11] kj3 (fun kq v11 w' => ∃ (x11_2 : Int) (x279001_2 : List (S81)) (u279001 : Value), v11 = .int .i64 x11_2 ∧ Aside0 (spec_DiskMove.l0 kq t271 x11_2 a0_0 l0_1 a2 ((rd_T81 l0_1 t271).f1) ((rd_T81 l0_1 t271).f2) a0_0 x279001_2 = some (r1, r2, r3)) ∧ Aside0 (kq ≤ kj3) ∧ Aside0 (Kd.R k81 81 w' w.heap.size (fun k_ => k_ ≠ gb277) u279001 x279001_2) ∧ Aside0 (w'.heap[gb266]? = some (.cells #[.int .i64 a0_0, (.slice (some ad276) l0_1.length c0_1)] 63 (0, 0))) ∧ Aside0 (w'.heap[gb267]? = some (.cells #[.int .i64 0, (.slice none 0 0)] 63 (0, 0))) ∧ Aside0 (w'.heap[gb277]? = some (.cells #[.int .i64 a2, .string ((rd_T81 l0_1 t271).f1), .string ((rd_T81 l0_1 t271).f2)] 81 (0, 0))) ∧ Aside0 (w'.heap[gb278]? = some (.cells #[.int .i64 a0_0, u279001] 63 (0, 0))) ∧ Aside0 (Below w.heap.size w w'))
       case atStart => exact ⟨(0), (([] : List (S81))), (.slice none 0 0), (by first | rfl | (simp; done) | (simp [*]; done)), H', ⟨Nat.le_refl _⟩, ⟨by first | exact Kd.R_nil _ _ _ _ _ | exact Kd.N_nil _ _ _ _ _ | exact Kd.V_nil _ _ _ _ _ | exact Kd.Q_nil _ _ _ _ _ | exact Kd.S_nil _ _ _ _ _⟩, ⟨by (with_reducible repeat (first | refine blk_drewN ?_ _ | refine blk_drew ?_ | refine blk_alloc ?_ _)); refine blk_far ?_ NB266_278.out _; (with_reducible repeat (first | refine blk_drewN ?_ _ | refine blk_drew ?_ | refine blk_alloc ?_ _)); refine blk_far ?_ NB266_278.out _; (with_reducible repeat (first | refine blk_drewN ?_ _ | refine blk_drew ?_ | refine blk_alloc ?_ _)); exact BK266.out⟩, ⟨by (with_reducible repeat (first | refine blk_drewN ?_ _ | refine blk_drew ?_ | refine blk_alloc ?_ _)); refine blk_far ?_ NB267_278.out _; (with_reducible repeat (first | refine blk_drewN ?_ _ | refine blk_drew ?_ | refine blk_alloc ?_ _)); refine blk_far ?_ NB267_278.out _; (with_reducible repeat (first | refine blk_drewN ?_ _ | refine blk_drew ?_ | refine blk_alloc ?_ _)); exact BK267.out⟩, ⟨by (with_reducible repeat (first | refine blk_drewN ?_ _ | refine blk_drew ?_ | refine blk_alloc ?_ _)); refine blk_far ?_ NB277_278.out _; (with_reducible repeat (first | refine blk_drewN ?_ _ | refine blk_drew ?_ | refine blk_alloc ?_ _)); refine blk_far ?_ NB277_278.out _; (with_reducible repeat (first | refine blk_drewN ?_ _ | refine blk_drew ?_ | refine blk_alloc ?_ _)); exact BK277.out⟩, ⟨by (with_reducible repeat (first | refine blk_drewN ?_ _ | refine blk_drew ?_ | refine blk_alloc ?_ _)); refine blk_put (cs := #[.int .i64 a0_0, .slice none 0 0]) ?_ 1 _ rfl; (with_reducible repeat (first | refine blk_drewN ?_ _ | refine blk_drew ?_ | refine blk_alloc ?_ _)); refine blk_put (cs := #[.int .i64 0, .slice none 0 0]) ?_ 0 _ rfl; (with_reducible repeat (first | refine blk_drewN ?_ _ | refine blk_drew ?_ | refine blk_alloc ?_ _)); exact BK278.out⟩, ⟨xbg⟩⟩
       case round =>
        clear H'
        try clear c1
        try clear c2
        try clear p2
        try clear q2
        try clear hx2
        try clear c3
        try clear c4
        try clear c5
        try clear c8
        try clear c10
        try clear c12
        try clear c13
        try clear c16
        try clear c17
        try clear c19
        try clear c22
        try clear c25
        try clear c26
        try clear p27
        try clear q27
        try clear hx27
        try clear c29
        try clear c29b0
        try clear c31
        try clear c38
        try clear c38b0
        try clear c39
        try clear c39b0
        try clear c40
        try clear c45
        try clear c46
        try clear c47
        try clear c51
        try clear c52
        try clear c53
        try clear hcz14_0
        try clear hcz14_1
        try clear hcz17_0
        try clear hcz17_1
        try clear hcz20_0
        try clear hcz20_1
        try clear hcz23_0
        try clear hcz23_1
        try clear hcz27_0
        try clear hcz27_1
        try clear hcz32_0
        try clear hcz32_1
        try clear hcz34_0
        try clear hcz34_1
        try clear hcz36_0
        try clear hcz36_1
        try clear hcz41_0
        try clear hcz41_1
        try clear hcz43_0
        try clear hcz43_1
        try clear hcz47_0
        try clear hcz47_1
        try clear hcz47_2
        try clear hcz49_0
        try clear hcz49_1
        try clear hcz54_0
        try clear hcz54_1
        try clear hfz14_0
        try clear hfz14_1
        try clear hfz17_0
        try clear hfz17_1
        try clear hfz20_0
        try clear hfz20_1
        try clear hfz23_0
        try clear hfz23_1
        try clear hfz27_0
        try clear hfz27_1
        try clear hfz32_0
        try clear hfz32_1
        try clear hfz34_0
        try clear hfz34_1
        try clear hfz36_0
        try clear hfz36_1
        try clear hfz41_0
        try clear hfz41_1
        try clear hfz43_0
        try clear hfz43_1
        try clear hfz47_0
        try clear hfz47_1
        try clear hfz47_2
        try clear hfz49_0
        try clear hfz49_1
        try clear hfz54_0
        try clear hfz54_1
        try clear hx276_0
        try clear hx276_1
        try clear hx276_2
        try clear p2
        try clear p276
        try clear q276
        obtain ⟨x11_2, x279001_2, u279001, rfl, HA, HK2, HO_279001, BK266, BK267, BK277, BK278, HB⟩ := hrel
        cases gk with
        | zero => exact absurd HA.out (by simp [spec_DiskMove.l0])
        | succ k2 =>
         have H := HA.out
         clear HA
         simp only [spec_DiskMove.l0] at H
         by_cases c55 : x11_2 < (l0_1.length : Int)
         ·rw [if_pos c55] at H
          have c55b0 : decide (x11_2 < (l0_1.length : Int)) = true := decide_eq_true c55
          clear c55
          by_cases c56 : x11_2 = t271
          ·rw [if_pos c56] at H
           have c56b0 : (x11_2 == t271) = true := beq_iff_eq.mpr c56
           have c56b1 : (x11_2 != t271) = false := bne_eq_false_iff_eq.mpr c56
           clear c56
           have H' := Aside0.mk H
           clear H
           have hnb57 := NB266_267.out
           have hnc57 := NB267_266.out
           have hnb58 := NB266_277.out
           have hnc58 := NB277_266.out
           have hnb59 := NB266_278.out
           have hnc59 := NB278_266.out
           have hcz60_0 : wr.cell? ⟨gb266, 0, none⟩ = some (.int .i64 a0_0) := (blk_cell BK266.out 0).trans rfl
           have hcz60_1 : wr.cell? ⟨gb266, 1, none⟩ = some (.slice (some ad276) l0_1.length c0_1) := (blk_cell BK266.out 1).trans rfl
           have hfz60_0 := blk_frozen BK266.out 0
           have hfz60_1 := blk_frozen BK266.out 1
           go_wp2
           go_roundg k2
           case measure => have := HJ3.out; have := HK2.out; omega
           case rel => exact ⟨(wrap64 (x11_2 + 1)), (x279001_2), (u279001), (by first | rfl | (simp; done) | (simp [*]; done)), H', ⟨by have := HJ3.out; have := HK2.out; omega⟩, ⟨by (with_reducible repeat (first | apply Kd.R_alloc | apply Kd.R_drewN | apply Kd.R_drew)); exact HO_279001.out⟩, ⟨xblk⟩, ⟨xblk⟩, ⟨xblk⟩, ⟨xblk⟩, ⟨xbg⟩⟩
          ·rw [if_neg c56] at H
           have c56b0 : (x11_2 == t271) = false := beq_eq_false_iff_ne.mpr c56
           have c56b1 : (x11_2 != t271) = true := bne_iff_ne.mpr c56
           by_cases c61 : 0 ≤ x11_2
           ·rw [if_pos c61] at H
            have c61b0 : decide (0 ≤ x11_2) = true := decide_eq_true c61
            clear c61
            by_cases c62 : x279001_2.length < 3518437208883
            ·rw [if_pos c62] at H
             have LMc62 := Aside0.mk c62
             clear c62
             obtain ⟨y280, hy280⟩ : ∃ y_ : List (S81), y_ = (x279001_2 ++ [(⟨(rd_T81 l0_1 x11_2).f0, (rd_T81 l0_1 x11_2).f1, (rd_T81 l0_1 x11_2).f2⟩ : S81)]) := ⟨_, rfl⟩
             replace H : (spec_DiskMove.l0 k2 t271 (wrap64 (x11_2 + 1)) a0_0 l0_1 a2 ((rd_T81 l0_1 t271).f1) ((rd_T81 l0_1 t271).f2) a0_0 y280) = some (r1, r2, r3) := by first | (rw [hy280]; with_reducible exact H) | (have H2_ := (Option.bind_some _ _).symm.trans H; rw [hy280]; with_reducible exact H2_) | (have H2_ := (Option.bind_some _ _).symm.trans H; with_reducible exact H2_) | with_reducible exact H | (rw [hy280]; exact H) | exact H
             have Ny280 := Aside0.mk hy280
             clear hy280
             have H' := Aside0.mk H
             clear H
             have hnb63 := NB266_267.out
             have hnc63 := NB267_266.out
             have hnb64 := NB266_277.out
             have hnc64 := NB277_266.out
             have hnb65 := NB266_278.out
             have hnc65 := NB278_266.out
             have hcz66_0 : wr.cell? ⟨gb266, 0, none⟩ = some (.int .i64 a0_0) := (blk_cell BK266.out 0).trans rfl
             have hcz66_1 : wr.cell? ⟨gb266, 1, none⟩ = some (.slice (some ad276) l0_1.length c0_1) := (blk_cell BK266.out 1).trans rfl
             have hfz66_0 := blk_frozen BK266.out 0
             have hfz66_1 := blk_frozen BK266.out 1
             try go_wp2
             replace HO_279001 := Aside0.mk (Kd.R_drew HO_279001.out)
             replace BK266 := Aside0.mk (blk_drew BK266.out)
             replace BK267 := Aside0.mk (blk_drew BK267.out)
             replace BK277 := Aside0.mk (blk_drew BK277.out)
             replace BK278 := Aside0.mk (blk_drew BK278.out)
             replace HB := Aside0.mk (below_drew1 HB.out)
             have p279 : 0 ≤ (x11_2 : Int) := of_decide_eq_true (by first | (with_reducible assumption) | assumption)
             have q279 : x11_2 < (l0_1.length : Int) := of_decide_eq_true (by first | (with_reducible assumption) | assumption)
             obtain ⟨ad279, e279, hx279_0, hx279_1, hx279_2⟩ := at_T81 HR0_1.out x11_2 p279 q279
             have hw279_2 := hx279_2
             have hw279_1 := hx279_1
             have hw279_0 := hx279_0
             obtain rfl : ad276 = ad279 := (by injection e279)
             replace hx279_0 := xce HB hx279_0
             replace hx279_1 := xce HB hx279_1
             replace hx279_2 := xce HB hx279_2
             replace p279 := eq_true p279
             replace q279 := eq_true q279
             refine start_ (n := 11) (S := fun w' => w'.cell? ⟨gb278, 0, none⟩ = some (.int .i64 a0_0) ∧ w'.cell? ⟨gb278, 1, none⟩ = some (u279001) ∧ w'.cell? ⟨gb266, 0, none⟩ = some (.int .i64 a0_0) ∧ w'.cell? ⟨gb266, 1, none⟩ = some (.slice (some ad276) l0_1.length c0_1) ∧ w'.cell? (ad276.add ((x11_2).toNat * 3)) = some (.int .i64 ((rd_T81 l0_1 x11_2).f0)) ∧ w'.cell? ⟨(ad276.add ((x11_2).toNat * 3)).block, (ad276.add ((x11_2).toNat * 3)).off + 1, none⟩ = some (.string ((rd_T81 l0_1 x11_2).f1)) ∧ w'.cell? ⟨(ad276.add ((x11_2).toNat * 3)).block, (ad276.add ((x11_2).toNat * 3)).off + 2, none⟩ = some (.string ((rd_T81 l0_1 x11_2).f2))) (ds := [10]) #[false, false, false, false, false, false, false, false, false, false, false] (by kernel_rfl) rfl rfl ⟨(blk_cell BK278.out 0).trans rfl, (blk_cell BK278.out 1).trans rfl, (blk_cell BK266.out 0).trans rfl, (blk_cell BK266.out 1).trans rfl, (xce HB hw279_0), (xce HB hw279_1), (xce HB hw279_2)⟩ (fun hHeld => ?_); refine with_tabW spec_DiskMove.tab13 spec_DiskMove.bits13 (fun HT_ HW_ => ?_)
             generalize wr.drew = w67 at HO_279001 BK266 BK267 BK277 BK278 HB hx279_0 hx279_1 hx279_2 hHeld ⊢
             refine pv_ 0 58 (h := ?_)
             refine pv_ 2 60 (h := ?_)
             refine pv_ 4 62 (h := ?_)
             refine tk_ 1 59 (h := ?_)
             refine tk_ 3 61 (h := ?_)
             refine pv_ 5 63 (h := ?_)
             refine tk_ 6 64 (h := ?_)
             refine on_ 7 65 (h := fun K hK => ?_)
             refine value_ (w1 := ?_) (v := ?_) (by rfl) rfl ?_ ?_
             rotate_left 2
             ·go_simp
              constructor
              ·rfl
              ·rfl
             refine hK.out _ _ ⟨(blk_cell (blk_alloc BK278.out _) 0).trans rfl, (blk_cell (blk_alloc BK278.out _) 1).trans rfl, (blk_cell (blk_alloc BK266.out _) 0).trans rfl, (blk_cell (blk_alloc BK266.out _) 1).trans rfl, (World.cell?_alloc_lt _ _ _ (World.block_lt_of_cell? _ _ ((xce HB hw279_0)))).trans ((xce HB hw279_0)), (World.cell?_alloc_lt _ _ _ (World.block_lt_of_cell? _ _ ((xce HB hw279_1)))).trans ((xce HB hw279_1)), (World.cell?_alloc_lt _ _ _ (World.block_lt_of_cell? _ _ ((xce HB hw279_2)))).trans ((xce HB hw279_2))⟩ (fun hHeld => ?_)
             clear hK K
             refine norm_ (a' := ?_) ?_ ?_
             rotate_left
             ·show Act.put _ (some 65) _ = _
              simp only [Act.put, List.setIfInBounds_toArray, List.set_cons_zero, List.set_cons_succ, i64_w, i32_w]
              rfl
             refine on_ 8 66 (h := fun K hK => ?_)
             refine Kd.R_append_step k81 (w0 := w) w.heap.size (by rfl) (.tmp 59) (.tmp 65) 61 81 (.agg #[(.int .i64 0), (.string ⟨#[]⟩), (.string ⟨#[]⟩)]) 40 rfl Try.underlying61 info81 rfl (by decide) (by omega) u279001 x279001_2 (⟨(rd_T81 l0_1 x11_2).f0, (rd_T81 l0_1 x11_2).f1, (rd_T81 l0_1 x11_2).f2⟩ : S81) [.int .i64 ((rd_T81 l0_1 x11_2).f0), .string ((rd_T81 l0_1 x11_2).f1), .string ((rd_T81 l0_1 x11_2).f2)] (fun k_ => k_ ≠ gb277) (fun _ => False) rfl rfl ?aP (fun _ hk => hk.elim) ?aF ?aO ?aB ?aS ?aL ?_
             (case aP => exact k81_mkM _ _ _ (⟨(rd_T81 l0_1 x11_2).f0, (rd_T81 l0_1 x11_2).f1, (rd_T81 l0_1 x11_2).f2⟩ : S81))
             (case aB => exact xbg)
             (case aF => exact (fun k_ hk => Kd.freshB (g := gb277) (o := .cells #[.int .i64 a2, .string ((rd_T81 l0_1 t271).f1), .string ((rd_T81 l0_1 t271).f2)] 81 (0, 0)) xblk k_ hk))
             (case aO => exact (by (with_reducible repeat (first | apply Kd.R_alloc | apply Kd.R_drewN | apply Kd.R_drew)); exact HO_279001.out))
             (case aS => exact (below_size xbg))
             (case aL => have := LMc62.out; omega)
             intro v281 w68 ho hb hg hat
             rw [← Ny280.out] at ho
             have n0_ := Aside0.mk (blk_grown (g := gb266) (o := .cells #[.int .i64 a0_0, .slice (some ad276) l0_1.length c0_1] 63 (0, 0)) xblk hg (Kd.R_ne HO_279001.out BK266.out (by decide)))
             have n1_ := Aside0.mk (blk_grown (g := gb267) (o := .cells #[.int .i64 0, .slice none 0 0] 63 (0, 0)) xblk hg (Kd.R_ne HO_279001.out BK267.out (by decide)))
             have n2_ := Aside0.mk (blk_grown (g := gb277) (o := .cells #[.int .i64 a2, .string ((rd_T81 l0_1 t271).f1), .string ((rd_T81 l0_1 t271).f2)] 81 (0, 0)) xblk hg (Kd.R_away HO_279001.out (fun _ hk => hk)))
             have n3_ := Aside0.mk (blk_grown (g := gb278) (o := .cells #[.int .i64 a0_0, u279001] 63 (0, 0)) xblk hg (Kd.R_ne HO_279001.out BK278.out (by decide)))
             have n4_ := Aside0.mk (hb)
             have n5_ := Aside0.mk (ho)
             clear BK266
             clear BK267
             clear BK277
             clear BK278
             clear HB
             clear HO_279001
             have BK266 := n0_
             have BK267 := n1_
             have BK277 := n2_
             have BK278 := n3_
             have HB := n4_
             have HO282 := n5_
             clear n0_ n1_ n2_ n3_ n4_ n5_
             clear ho hb hg hat
             obtain ⟨Ao69, co69, eo69⟩ := Kd.R_slice HO282.out
             (first | subst eo69 | (injection eo69 with f1_ f2_ f3_; have f4_ := f1_.symm; have f5_ := f3_.symm; clear f1_ f2_ f3_; subst f4_; subst f5_))
             refine hK.out _ _ ⟨(blk_cell BK278.out 0).trans rfl, (blk_cell BK278.out 1).trans rfl, (blk_cell BK266.out 0).trans rfl, (blk_cell BK266.out 1).trans rfl, (xce HB hw279_0), (xce HB hw279_1), (xce HB hw279_2)⟩ (fun hHeld => ?_)
             clear hK K
             refine norm_ (a' := ?_) ?_ ?_
             rotate_left
             ·show Act.put _ (some 66) _ = _
              simp only [Act.put, List.setIfInBounds_toArray, List.set_cons_zero, List.set_cons_succ, i64_w, i32_w]
              rfl
             refine pv_ 9 67 (h := ?_)
             refine last_ (i := 10) (N := none) #[true, true, true, true, true, true, true, true, true, true, true] rfl rfl (one_of HT_.out (by kernel_rfl)) (by decide) (fun K hK => ?_)
             have hs70 : w68.cell? ⟨gb278, 1, none⟩ = some (u279001) := (blk_cell BK278.out 1).trans rfl
             have hfs70 := blk_frozen BK278.out 1
             have hns70_0 := NB266_278.out
             have hns70_1 := NB267_278.out
             have hns70_2 := NB277_278.out
             have hms70_0 := NB278_266.out
             have hms70_1 := NB278_267.out
             have hms70_2 := NB278_277.out
             refine skip_ (w1 := ?_) (by rfl) rfl ?_ ?_
             rotate_left
             ·go_simp
              rfl
             refine hK.out _ _ ?_
             clear hK K
             refine done_ (done_of HT_.out (by kernel_rfl)) ?_
             try go_wp2
             go_roundg k2
             case measure => have := HJ3.out; have := HK2.out; omega
             case rel => exact ⟨(wrap64 (x11_2 + 1)), (y280), (.slice Ao69 y280.length co69), (by first | rfl | (simp; done) | (simp [*]; done)), H', ⟨by have := HJ3.out; have := HK2.out; omega⟩, ⟨by (with_reducible repeat (first | apply Kd.R_alloc | apply Kd.R_drewN | apply Kd.R_drew)); exact Kd.R_mono (Kd.R_far (p := ⟨gb278, 1, none⟩) (Kd.R_types HO282.out BK278.out (by decide)) (fun _ hk => hk.2) (.slice Ao69 y280.length co69)) (fun _ hk => hk.1)⟩, ⟨by (with_reducible repeat (first | refine blk_drewN ?_ _ | refine blk_drew ?_ | refine blk_alloc ?_ _)); refine blk_far ?_ NB266_278.out _; (with_reducible repeat (first | refine blk_drewN ?_ _ | refine blk_drew ?_ | refine blk_alloc ?_ _)); exact BK266.out⟩, ⟨by (with_reducible repeat (first | refine blk_drewN ?_ _ | refine blk_drew ?_ | refine blk_alloc ?_ _)); refine blk_far ?_ NB267_278.out _; (with_reducible repeat (first | refine blk_drewN ?_ _ | refine blk_drew ?_ | refine blk_alloc ?_ _)); exact BK267.out⟩, ⟨by (with_reducible repeat (first | refine blk_drewN ?_ _ | refine blk_drew ?_ | refine blk_alloc ?_ _)); refine blk_far ?_ NB277_278.out _; (with_reducible repeat (first | refine blk_drewN ?_ _ | refine blk_drew ?_ | refine blk_alloc ?_ _)); exact BK277.out⟩, ⟨by (with_reducible repeat (first | refine blk_drewN ?_ _ | refine blk_drew ?_ | refine blk_alloc ?_ _)); refine blk_put (cs := #[.int .i64 a0_0, u279001]) ?_ 1 _ rfl; (with_reducible repeat (first | refine blk_drewN ?_ _ | refine blk_drew ?_ | refine blk_alloc ?_ _)); exact BK278.out⟩, ⟨xbg⟩⟩
            ·rw [if_neg c62] at H
             exact absurd H (by simp)
           ·rw [if_neg c61] at H
            exact absurd H (by simp)
         ·rw [if_neg c55] at H
          have c55b0 : decide (x11_2 < (l0_1.length : Int)) = false := decide_eq_false c55
          clear c55
          replace H := Option.bind_eq_some_iff.mp H
          obtain ⟨⟨t283, t284⟩, A710, H⟩ := H
          replace H : (some (t283, t284, 0)) = some (r1, r2, r3) := H
          have A71 := Aside0.mk A710
          clear A710
          simp only [Option.some.injEq, Prod.mk.injEq] at H
          obtain ⟨rfl, rfl, rfl⟩ := H
          have hnb72 := NB266_267.out
          have hnc72 := NB267_266.out
          have hnb73 := NB266_277.out
          have hnc73 := NB277_266.out
          have hnb74 := NB266_278.out
          have hnc74 := NB278_266.out
          have hcz75_0 : wr.cell? ⟨gb266, 0, none⟩ = some (.int .i64 a0_0) := (blk_cell BK266.out 0).trans rfl
          have hcz75_1 : wr.cell? ⟨gb266, 1, none⟩ = some (.slice (some ad276) l0_1.length c0_1) := (blk_cell BK266.out 1).trans rfl
          have hfz75_0 := blk_frozen BK266.out 0
          have hfz75_1 := blk_frozen BK266.out 1
          have hnb76 := NB278_267.out
          have hnc76 := NB267_278.out
          have hnb77 := NB278_277.out
          have hnc77 := NB277_278.out
          have hcz78_0 : wr.cell? ⟨gb278, 0, none⟩ = some (.int .i64 a0_0) := (blk_cell BK278.out 0).trans rfl
          have hcz78_1 : wr.cell? ⟨gb278, 1, none⟩ = some (u279001) := (blk_cell BK278.out 1).trans rfl
          have hfz78_0 := blk_frozen BK278.out 0
          have hfz78_1 := blk_frozen BK278.out 1
          have hnb79 := NB277_267.out
          have hnc79 := NB267_277.out
          have hcz80_0 : wr.cell? ⟨gb277, 0, none⟩ = some (.int .i64 a2) := (blk_cell BK277.out 0).trans rfl
          have hcz80_1 : wr.cell? ⟨gb277, 1, none⟩ = some (.string ((rd_T81 l0_1 t271).f1)) := (blk_cell BK277.out 1).trans rfl
          have hcz80_2 : wr.cell? ⟨gb277, 2, none⟩ = some (.string ((rd_T81 l0_1 t271).f2)) := (blk_cell BK277.out 2).trans rfl
          have hfz80_0 := blk_frozen BK277.out 0
          have hfz80_1 := blk_frozen BK277.out 1
          have hfz80_2 := blk_frozen BK277.out 2
          obtain ⟨Ao81, co81, eo81⟩ := Kd.R_slice HO_279001.out
          subst eo81
          go_wp2_with (first | ((with_reducible refine gate_callee (f := 107) rfl ?_); refine goesL_ (some 70) rfl rfl Try.func107 (by kernel_rfl) rfl #[.agg #[.int .i64 a0_0, .slice Ao81 x279001_2.length co81], .agg #[.int .i64 a2, .string ((rd_T81 l0_1 t271).f1), .string ((rd_T81 l0_1 t271).f2)]] rfl (by (try simp only [List.map_toArray, List.map_cons, List.map_nil]); first | done | rfl | (simp only [List.length_drop, List.length_take]; rfl)) ?_; (with_reducible refine (spec_l3Put.calls k2 a0_0 _ _ x279001_2 a2 ((rd_T81 l0_1 t271).f1) ((rd_T81 l0_1 t271).f2) t283 t284 _ ?side1 ?side2 A71.out).mono ?_); (case side1 => repeat (first | exact (Kd.R_reads' HO_279001.out).2.2 | (with_reducible refine Kd.C_alloc ?_ _) | (with_reducible refine Kd.C_drewN ?_ _) | (with_reducible refine Kd.C_drew ?_))); (case side2 => exact (Kd.R_reads' HO_279001.out).2.1); rintro e w82 ⟨v285, rfl, ho0, hb⟩; refine ⟨_, rfl, ?_⟩; have HO286 := Aside0.mk (Kd.R_lower (Kd.R_newB (Kd.R_new' ho0 (Kd.R_lt (by (with_reducible repeat (first | apply Kd.R_alloc | apply Kd.R_drewN | apply Kd.R_drew)); exact HO_279001.out))) (g := gb277) (o := .cells #[.int .i64 a2, .string ((rd_T81 l0_1 t271).f1), .string ((rd_T81 l0_1 t271).f2)] 81 (0, 0)) xblk) (below_size xbg)); replace HO_279001 := Aside0.mk (Kd.R_elder' (by (with_reducible repeat (first | apply Kd.R_alloc | apply Kd.R_drewN | apply Kd.R_drew)); exact HO_279001.out) (Kd.R_base ho0) hb); replace BK266 := xbb BK266 hb; replace BK267 := xbb BK267 hb; replace BK277 := xbb BK277 hb; replace BK278 := xbb BK278 hb; replace HB := xbs hb; (try clear hb); (try clear hb2); (try clear hk); (try clear hi); (try clear ho0); have hcz83_0 : w82.cell? ⟨gb267, 0, none⟩ = some (.int .i64 0) := (blk_cell BK267.out 0).trans rfl; have hcz83_1 : w82.cell? ⟨gb267, 1, none⟩ = some (.slice none 0 0) := (blk_cell BK267.out 1).trans rfl; have hfz83_0 := blk_frozen BK267.out 0; have hfz83_1 := blk_frozen BK267.out 1; obtain ⟨Ao84, co84, eo84⟩ := Kd.R_slice HO286.out; subst eo84))
          refine bodyPost_ret (results_ct rfl _ _ gb267 63 #[.int .i64 t283, .slice Ao84 t284.length co84] (0, 0) _ rfl (by (with_reducible repeat (first | refine blk_drewN ?_ _ | refine blk_drew ?_ | refine blk_alloc ?_ _)); refine blk_put (cs := #[.int .i64 t283, .slice none 0 0]) ?_ 1 _ rfl; (with_reducible repeat (first | refine blk_drewN ?_ _ | refine blk_drew ?_ | refine blk_alloc ?_ _)); refine blk_put (cs := #[.int .i64 0, .slice none 0 0]) ?_ 0 _ rfl; (with_reducible repeat (first | refine blk_drewN ?_ _ | refine blk_drew ?_ | refine blk_alloc ?_ _)); exact BK267.out) Try.underlying63 rfl (by kernel_rfl)) rfl ?_
          exact ⟨_, by first | rfl | (simp [errW_none, errW_some] <;> rfl) | (simp [*, errW_none, errW_some] <;> rfl), by (with_reducible repeat (first | apply Kd.R_alloc | apply Kd.R_drewN | apply Kd.R_drew)); exact Kd.R_mono (Kd.R_far (p := ⟨gb267, 1, none⟩) (Kd.R_far (p := ⟨gb267, 0, none⟩) (Kd.R_types HO286.out BK267.out (by decide)) (fun _ hk => hk.2) (.int .i64 t283)) (fun _ hk => hk.2) (.slice Ao84 t284.length co84)) (fun _ hk => trivial), xbg⟩
      ·rw [if_neg c39] at H
       exact absurd H (by simp)
     ·rw [if_neg c38] at H
      exact absurd H (by simp)

end Go.Proofs.Ytkfoojknjmgjdaa.QFnDisk
