-- A walk, by a program of this session.
import Derived.Test.YtnjpfllmcmomoaaQFnExactJournalMendx0
import Derived.Test.YtnjpfllmcmomoaaQFnExactJournalMendx7
import Derived.Test.YtnjpfllmcmomoaaQFnExactJournalMendx8
namespace Go.Proofs.Ytnjpfllmcmomoaa.QFnExactJournalMend
open Go.RowKit Go.Proofs.YtnjpfllmcmomoaaW.PrintWords Go.Proofs.YtnjpfllmcmomoaaW.PrintLast Go.Proofs.YtnjpfllmcmomoaaW.PrintMore
attribute [local go_sem] max2_int min2_int max_two min_two max_three min_three max_four min_four   -- for this text's walks alone
set_option linter.unusedVariables false
set_option linter.unusedSimpArgs false

/-! ### impl_DiskCut: function 50 -/
def impl_DiskCut.j0 : Nat → Int → Int → Bool → Int → List (S134) → Option (Int × (List (S134)) × Int)
 | 0, _, _, _, _, _ => none
 | k + 1, x1, x2, x19, x311000, x311001 => if x19 = true then (some (0, ([] : List (S134)), 1)) else ((impl_copyDisk.f x311000 x311001).bind fun bt314 => ((impl_fileAt.f x311000 x311001 x1).bind fun t319 => (if t319 < 0 then (some (bt314.1, bt314.2, 2)) else (if 0 ≤ t319 then (if t319 < (x311001.length : Int) then ((impl_within.f x2 0 (wrap64 ((((rd_T134 x311001 t319).f1).size : Int) + (((rd_T134 x311001 t319).f2).size : Int)))).bind fun t322 => (if t322 = true then (if 0 ≤ (mn x2 (((rd_T134 x311001 t319).f1).size : Int)) then (if (mn x2 (((rd_T134 x311001 t319).f1).size : Int)) ≤ (((rd_T134 x311001 t319).f1).size : Int) then (if 0 ≤ (wrap64 (x2 - (mn x2 (((rd_T134 x311001 t319).f1).size : Int)))) then (if (wrap64 (x2 - (mn x2 (((rd_T134 x311001 t319).f1).size : Int)))) ≤ (((rd_T134 x311001 t319).f2).size : Int) then (if t319 < (bt314.2.length : Int) then (some (bt314.1, (bt314.2.set (t319 : Int).toNat (⟨x1, ((rd_T134 x311001 t319).f1).extract 0 ((mn x2 (((rd_T134 x311001 t319).f1).size : Int)) : Int).toNat, ((rd_T134 x311001 t319).f2).extract 0 ((wrap64 (x2 - (mn x2 (((rd_T134 x311001 t319).f1).size : Int)))) : Int).toNat⟩ : S134)), 0)) else (none)) else (none)) else (none)) else (none)) else (none)) else (some (bt314.1, bt314.2, 2)))) else (none)) else (none)))))
def impl_DiskCut.f (k : Nat) (a0_0 : Int) (l0_1 : List (S134)) (a1 : Int) (a2 : Int) : Option (Int × (List (S134)) × Int) := (impl_DiskOk.f k a0_0 l0_1).bind fun t312 => (if t312 = true then ((impl_isFile.f a1).bind fun t313 => (impl_DiskCut.j0 k a1 a2 (!t313) a0_0 l0_1)) else (impl_DiskCut.j0 k a1 a2 true a0_0 l0_1))
set_option maxRecDepth 100000 in
theorem impl_DiskCut.mono_l : ∀ k, (∀ y0 y1 y2 y3 y4, LeO (impl_DiskCut.j0 k y0 y1 y2 y3 y4) (impl_DiskCut.j0 (k + 1) y0 y1 y2 y3 y4))
 | 0 => fun _ _ _ _ _ r h => by simp [impl_DiskCut.j0] at h
 | k + 1 => by
  have ih0 := impl_DiskCut.mono_l k
  ·intro y0 y1 y2 y3 y4
   unfold impl_DiskCut.j0
   repeat' first
   | (with_reducible exact ih0 _ _ _ _ _)
   | (with_reducible exact impl_DiskOk.mono _ _ _)
   | (with_reducible exact LeO.refl _)
   | (with_reducible exact LeO.none _)
   | (with_reducible refine LeO.ite ?_ ?_)
   | (with_reducible refine LeO.bind ?_ (fun _ => ?_))
   | exact ih0 _ _ _ _ _
   | exact impl_DiskOk.mono _ _ _
   | exact LeO.none _
   | refine LeO.ite ?_ ?_
   | refine LeO.bind ?_ (fun _ => ?_)
theorem impl_DiskCut.mono : ∀ a0 a1 a2 a3 k, LeO (impl_DiskCut.f k a0 a1 a2 a3) (impl_DiskCut.f (k + 1) a0 a1 a2 a3) := by
 intro a0 a1 a2 a3 k
 have ih0 := impl_DiskCut.mono_l k
 unfold impl_DiskCut.f
 repeat' first
  | (with_reducible exact ih0 _ _ _ _ _)
  | (with_reducible exact impl_DiskOk.mono _ _ _)
  | (with_reducible exact LeO.refl _)
  | (with_reducible exact LeO.none _)
  | (with_reducible refine LeO.ite ?_ ?_)
  | (with_reducible refine LeO.bind ?_ (fun _ => ?_))
  | exact ih0 _ _ _ _ _
  | exact impl_DiskOk.mono _ _ _
  | exact LeO.none _
  | refine LeO.ite ?_ ?_
  | refine LeO.bind ?_ (fun _ => ?_)
def impl_DiskCut.T5 : Bool × List (List Nat × List Nat) := (true, [([], []), ([0], [0]), ([1], [1]), ([2], [2]), ([2], [2]), ([4, 2], [2, 4]), ([2], [2]), ([5, 6, 2], [2, 5, 6]), ([7, 2], [2, 7]), ([8, 2], [2, 8]), ([9, 2], [2, 9]), ([2], [2]), ([11, 2], [2, 11]), ([2], [2]), ([12, 13, 2], [2, 12, 13]), ([14, 2], [2, 14]), ([15, 2], [2, 15]), ([16, 2], [2, 16]), ([10, 17, 2], [2, 10, 17]), ([3, 18, 2, 2], [2, 3, 18]), ([19, 2], [2, 19]), ([2, 20], [2, 20])])
def impl_DiskCut.B5 : List Nat := [0, 1, 3, 7, 7, 23, 7, 119, 247, 503, 1015, 7, 2055, 7, 14343, 30727, 63495, 129031, 262135, 524287, 1048575, 2097151]
theorem impl_DiskCut.tab5 : rtab .any (opsOf Try.f50 5) = impl_DiskCut.T5 := by kernel_rfl
theorem impl_DiskCut.bits5 : waitsOk impl_DiskCut.T5.2 impl_DiskCut.B5 = true := by kernel_rfl
def impl_DiskCut.T9 : Bool × List (List Nat × List Nat) := (true, [([], []), ([0], [0]), ([], []), ([], []), ([], []), ([4], [4]), ([], []), ([5, 6], [5, 6]), ([], []), ([8], [8]), ([], []), ([], []), ([10, 11], [10, 11]), ([9, 12], [9, 12]), ([3, 7, 13], [3, 7, 13]), ([1, 2, 0, 1, 2, 3, 4, 5, 6, 7, 8, 9, 10, 11, 12, 13, 14], [1, 2]), ([15, 14, 0, 1, 2, 3, 4, 5, 6, 7, 8, 9, 10, 11, 12, 13, 14], [14, 15])])
def impl_DiskCut.B9 : List Nat := [0, 1, 0, 0, 0, 16, 0, 112, 0, 256, 0, 0, 3072, 7936, 16376, 32767, 65535]
theorem impl_DiskCut.tab9 : rtab .any (opsOf Try.f50 9) = impl_DiskCut.T9 := by kernel_rfl
theorem impl_DiskCut.bits9 : waitsOk impl_DiskCut.T9.2 impl_DiskCut.B9 = true := by kernel_rfl
set_option maxHeartbeats 8000000 in
set_option maxRecDepth 100000 in
theorem impl_DiskCut.calls (k : Nat) (a0_0 : Int) (A0_1 : Option Addr) (c0_1 : Nat) (l0_1 : List (S134)) (a1 : Int) (a2 : Int) (r1 : Int) (r2 : List (S134)) (r3 : Int) (w : World) (hr0_1 : Kd.C k134 w A0_1 l0_1.length l0_1) (hc0_1 : l0_1.length ≤ c0_1) (h : impl_DiskCut.f k a0_0 l0_1 a1 a2 = some (r1, r2, r3)) :
 Calls Try.prog 50 #[.agg #[.int .i64 a0_0, .slice A0_1 l0_1.length c0_1], .int .i64 a1, .int .i64 a2] w fun e w' => ∃ v1_ : Value, e = .returned (.tuple #[.agg #[.int .i64 r1, v1_], .int .i64 r3]) ∧ Kd.R k134 134 w' w.heap.size (fun _ => True) v1_ r2 ∧ Below w.heap.size w w' := by
 have hu70 := Try.underlying70
 have hu134 := Try.underlying134
 have HR0_1 := Aside0.mk hr0_1
 have HC0_1 := Aside0.mk hc0_1
 clear hr0_1 hc0_1
 have HB := Aside0.mk (Below.refl w.heap.size w)
 have H : ((impl_DiskOk.f k a0_0 l0_1).bind fun t312 => (if t312 = true then ((impl_isFile.f a1).bind fun t313 => (impl_DiskCut.j0 k a1 a2 (!t313) a0_0 l0_1)) else (impl_DiskCut.j0 k a1 a2 true a0_0 l0_1))) = some (r1, r2, r3) := h
 clear h
 have HC4 := Aside0.mk H
 clear H
 go_enter Try.func50, Try.ntmps50
 go_upto_region 1 with (first | ((with_reducible refine gate_dst (N := 3) rfl ?_); (try (refine gate_guard (by rfl) ?_; dsimp only)); refine box_event ?hg (N := 3) ?hd (cs := #[.int .i64 a0_0, .slice A0_1 l0_1.length c0_1]) (t := 70) ?hr ?_; (case hd => rfl); (case hg => rfl); (case hr => first | (go_simp; done) | (go_simp; rfl)); intro gb310 hg w5 hbox hb; have BK310 := Aside0.mk (hbox); have GW310 := Aside0.mk (xge hg); have GE310 := Aside0.mk (xge hg); replace HB := xbs hb; clear hb hbox hg) | ((with_reducible refine gate_dst (N := 6) rfl ?_); (try (refine gate_guard (by rfl) ?_; dsimp only)); refine box_event ?hg (N := 6) ?hd (cs := #[.int .i64 0, .slice none 0 0]) (t := 70) ?hr ?_; (case hd => rfl); (case hg => rfl); (case hr => first | (go_simp; done) | (go_simp; rfl)); intro gb311 hg w6 hbox hb; have GW311 := Aside0.mk (xge hg); have GE311 := Aside0.mk (xge hg); replace HB := xbs hb; have NB310_311 := Aside0.mk ((by rw [hg]; exact Nat.ne_of_lt (blk_lt (g := gb310) (o := .cells #[.int .i64 a0_0, .slice A0_1 l0_1.length c0_1] 70 (0, 0)) xblk) : gb310 ≠ gb311)); have NB311_310 := Aside0.mk ((by rw [hg]; exact Nat.ne_of_gt (blk_lt (g := gb310) (o := .cells #[.int .i64 a0_0, .slice A0_1 l0_1.length c0_1] 70 (0, 0)) xblk) : gb311 ≠ gb310)); replace BK310 := xbb BK310 hb; have BK311 := Aside0.mk (hbox); clear hb hbox hg))
 (try simp only [Act.put, List.setIfInBounds_toArray, List.set_cons_zero, List.set_cons_succ])
 go_cut [19] (fun v19 wc => ∃ (kq : Nat) (x19_3 : Bool), v19 = .bool x19_3 ∧ Aside0 (impl_DiskCut.j0 kq a1 a2 x19_3 a0_0 l0_1 = some (r1, r2, r3)) ∧ Aside0 (kq ≤ k) ∧ Aside0 (wc.heap[gb310]? = some (.cells #[.int .i64 a0_0, (.slice A0_1 l0_1.length c0_1)] 70 (0, 0))) ∧ Aside0 (wc.heap[gb311]? = some (.cells #[.int .i64 0, (.slice none 0 0)] 70 (0, 0))) ∧ Aside0 (Below w.heap.size w wc))
 case first =>
  have H := HC4.out
  clear HC4
  replace H := Option.bind_eq_some_iff.mp H
  obtain ⟨t312, A70, H⟩ := H
  replace H : (if t312 = true then ((impl_isFile.f a1).bind fun t313 => (impl_DiskCut.j0 k a1 a2 (!t313) a0_0 l0_1)) else (impl_DiskCut.j0 k a1 a2 true a0_0 l0_1)) = some (r1, r2, r3) := H
  have A7 := Aside0.mk A70
  clear A70
  by_cases c8 : t312 = true
  ·subst c8
   have H1 : ((impl_isFile.f a1).bind fun t313 => (impl_DiskCut.j0 k a1 a2 (!t313) a0_0 l0_1)) = some (r1, r2, r3) := by rw [if_pos rfl] at H; exact H
   clear H
   have H := H1
   clear H1
   replace H := Option.bind_eq_some_iff.mp H
   obtain ⟨t313, A90, H⟩ := H
   replace H : (impl_DiskCut.j0 k a1 a2 (!t313) a0_0 l0_1) = some (r1, r2, r3) := H
   have A9 := Aside0.mk A90
   clear A90
   have H' := Aside0.mk H
   clear H
   have hnb10 := NB310_311.out
   have hnc10 := NB311_310.out
   have hcz11_0 : w6.cell? ⟨gb310, 0, none⟩ = some (.int .i64 a0_0) := (blk_cell BK310.out 0).trans rfl
   have hcz11_1 : w6.cell? ⟨gb310, 1, none⟩ = some (.slice A0_1 l0_1.length c0_1) := (blk_cell BK310.out 1).trans rfl
   have hfz11_0 := blk_frozen BK310.out 0
   have hfz11_1 := blk_frozen BK310.out 1
   go_wp2_with (first | ((with_reducible refine gate_callee (f := 52) rfl ?_); refine goesL_ (some 13) rfl rfl Try.func52 (by kernel_rfl) rfl #[.agg #[.int .i64 a0_0, .slice A0_1 l0_1.length c0_1]] rfl (by (try simp only [List.map_toArray, List.map_cons, List.map_nil]); first | done | rfl | (simp only [List.length_drop, List.length_take]; rfl)) ?_; (with_reducible refine (impl_DiskOk.calls k a0_0 _ _ l0_1 true _ ?side1 ?side2 A7.out).mono ?_); (case side1 => exact xcb HR0_1); (case side2 => exact HC0_1.out); rintro e w12 ⟨rfl, hb⟩; refine ⟨_, rfl, ?_⟩; replace BK310 := xbb BK310 hb; replace BK311 := xbb BK311 hb; replace HB := xbs hb; (try clear hb); (try clear hb2); (try clear hk); (try clear hi)) | (go_at_call 113; (with_reducible refine (impl_isFile.calls a1 t313 _ A9.out).mono ?_); rintro e w' ⟨rfl, ⟨nd, rfl⟩⟩))
   go_meet
   case rel => exact ⟨_, (!t313), (by first | rfl | (simp; done) | (simp [*]; done)), H', ⟨by first | omega | exact Nat.le_refl _⟩, ⟨xblk⟩, ⟨xblk⟩, ⟨xbg⟩⟩
  ·replace c8 := Bool.eq_false_iff.mpr c8
   subst c8
   have H1 : (impl_DiskCut.j0 k a1 a2 true a0_0 l0_1) = some (r1, r2, r3) := by rw [if_neg (show ¬ (false = true) by decide)] at H; exact H
   clear H
   have H := H1
   clear H1
   have H' := Aside0.mk H
   clear H
   have hnb13 := NB310_311.out
   have hnc13 := NB311_310.out
   have hcz14_0 : w6.cell? ⟨gb310, 0, none⟩ = some (.int .i64 a0_0) := (blk_cell BK310.out 0).trans rfl
   have hcz14_1 : w6.cell? ⟨gb310, 1, none⟩ = some (.slice A0_1 l0_1.length c0_1) := (blk_cell BK310.out 1).trans rfl
   have hfz14_0 := blk_frozen BK310.out 0
   have hfz14_1 := blk_frozen BK310.out 1
   go_wp2_with (first | ((with_reducible refine gate_callee (f := 52) rfl ?_); refine goesL_ (some 13) rfl rfl Try.func52 (by kernel_rfl) rfl #[.agg #[.int .i64 a0_0, .slice A0_1 l0_1.length c0_1]] rfl (by (try simp only [List.map_toArray, List.map_cons, List.map_nil]); first | done | rfl | (simp only [List.length_drop, List.length_take]; rfl)) ?_; (with_reducible refine (impl_DiskOk.calls k a0_0 _ _ l0_1 false _ ?side1 ?side2 A7.out).mono ?_); (case side1 => exact xcb HR0_1); (case side2 => exact HC0_1.out); rintro e w15 ⟨rfl, hb⟩; refine ⟨_, rfl, ?_⟩; replace BK310 := xbb BK310 hb; replace BK311 := xbb BK311 hb; replace HB := xbs hb; (try clear hb); (try clear hb2); (try clear hk); (try clear hi)))
   go_meet
   case rel => exact ⟨_, (true), (by first | rfl | (simp; done) | (simp [*]; done)), H', ⟨by first | omega | exact Nat.le_refl _⟩, ⟨xblk⟩, ⟨xblk⟩, ⟨xbg⟩⟩
 case rest =>
  clear HC4
  try clear c1
  try clear p2
  try clear c5
  try clear c8
  try clear c10
  try clear c13
  try clear hcz11_0
  try clear hcz11_1
  try clear hcz14_0
  try clear hcz14_1
  try clear hfz11_0
  try clear hfz11_1
  try clear hfz14_0
  try clear hfz14_1
  obtain ⟨kq, x19_3, rfl, HA, HJ3, BK310, BK311, HB⟩ := hcut
  cases kq with
  | zero => exact absurd HA.out (by simp [impl_DiskCut.j0])
  | succ kj3 =>
   have H := HA.out
   clear HA
   simp only [impl_DiskCut.j0] at H
   by_cases c16 : x19_3 = true
   ·subst c16
    have H1 : (some (0, ([] : List (S134)), 1)) = some (r1, r2, r3) := by rw [if_pos rfl] at H; exact H
    clear H
    have H := H1
    clear H1
    simp only [Option.some.injEq, Prod.mk.injEq] at H
    obtain ⟨rfl, rfl, rfl⟩ := H
    have hnb17 := NB311_310.out
    have hnc17 := NB310_311.out
    have hcz18_0 : wc.cell? ⟨gb311, 0, none⟩ = some (.int .i64 0) := (blk_cell BK311.out 0).trans rfl
    have hcz18_1 : wc.cell? ⟨gb311, 1, none⟩ = some (.slice none 0 0) := (blk_cell BK311.out 1).trans rfl
    have hfz18_0 := blk_frozen BK311.out 0
    have hfz18_1 := blk_frozen BK311.out 1
    go_wp2
    refine bodyPost_ret (results_ct rfl _ _ gb311 70 #[.int .i64 0, .slice none 0 0] (0, 0) _ rfl (by (with_reducible repeat (first | refine blk_drewN ?_ _ | refine blk_drew ?_ | refine blk_alloc ?_ _)); refine blk_put (cs := #[.int .i64 0, .slice none 0 0]) ?_ 1 _ rfl; (with_reducible repeat (first | refine blk_drewN ?_ _ | refine blk_drew ?_ | refine blk_alloc ?_ _)); refine blk_put (cs := #[.int .i64 0, .slice none 0 0]) ?_ 0 _ rfl; (with_reducible repeat (first | refine blk_drewN ?_ _ | refine blk_drew ?_ | refine blk_alloc ?_ _)); exact BK311.out) Try.underlying70 rfl (by kernel_rfl)) rfl ?_
    exact ⟨_, by first | rfl | (simp [errW_none, errW_some] <;> rfl) | (simp [*, errW_none, errW_some] <;> rfl), by first | exact Kd.R_nil _ _ _ _ _ | exact Kd.N_nil _ _ _ _ _ | exact Kd.V_nil _ _ _ _ _ | exact Kd.Q_nil _ _ _ _ _ | exact Kd.S_nil _ _ _ _ _, xbg⟩
   ·replace c16 := Bool.eq_false_iff.mpr c16
    subst c16
    have H1 : ((impl_copyDisk.f a0_0 l0_1).bind fun bt314 => ((impl_fileAt.f a0_0 l0_1 a1).bind fun t319 => (if t319 < 0 then (some (bt314.1, bt314.2, 2)) else (if 0 ≤ t319 then (if t319 < (l0_1.length : Int) then ((impl_within.f a2 0 (wrap64 ((((rd_T134 l0_1 t319).f1).size : Int) + (((rd_T134 l0_1 t319).f2).size : Int)))).bind fun t322 => (if t322 = true then (if 0 ≤ (mn a2 (((rd_T134 l0_1 t319).f1).size : Int)) then (if (mn a2 (((rd_T134 l0_1 t319).f1).size : Int)) ≤ (((rd_T134 l0_1 t319).f1).size : Int) then (if 0 ≤ (wrap64 (a2 - (mn a2 (((rd_T134 l0_1 t319).f1).size : Int)))) then (if (wrap64 (a2 - (mn a2 (((rd_T134 l0_1 t319).f1).size : Int)))) ≤ (((rd_T134 l0_1 t319).f2).size : Int) then (if t319 < (bt314.2.length : Int) then (some (bt314.1, (bt314.2.set (t319 : Int).toNat (⟨a1, ((rd_T134 l0_1 t319).f1).extract 0 ((mn a2 (((rd_T134 l0_1 t319).f1).size : Int)) : Int).toNat, ((rd_T134 l0_1 t319).f2).extract 0 ((wrap64 (a2 - (mn a2 (((rd_T134 l0_1 t319).f1).size : Int)))) : Int).toNat⟩ : S134)), 0)) else (none)) else (none)) else (none)) else (none)) else (none)) else (some (bt314.1, bt314.2, 2)))) else (none)) else (none))))) = some (r1, r2, r3) := by rw [if_neg (show ¬ (false = true) by decide)] at H; exact H
    clear H
    have H := H1
    clear H1
    replace H := Option.bind_eq_some_iff.mp H
    obtain ⟨⟨t314, t315⟩, A190, H⟩ := H
    replace H : ((impl_fileAt.f a0_0 l0_1 a1).bind fun t319 => (if t319 < 0 then (some (t314, t315, 2)) else (if 0 ≤ t319 then (if t319 < (l0_1.length : Int) then ((impl_within.f a2 0 (wrap64 ((((rd_T134 l0_1 t319).f1).size : Int) + (((rd_T134 l0_1 t319).f2).size : Int)))).bind fun t322 => (if t322 = true then (if 0 ≤ (mn a2 (((rd_T134 l0_1 t319).f1).size : Int)) then (if (mn a2 (((rd_T134 l0_1 t319).f1).size : Int)) ≤ (((rd_T134 l0_1 t319).f1).size : Int) then (if 0 ≤ (wrap64 (a2 - (mn a2 (((rd_T134 l0_1 t319).f1).size : Int)))) then (if (wrap64 (a2 - (mn a2 (((rd_T134 l0_1 t319).f1).size : Int)))) ≤ (((rd_T134 l0_1 t319).f2).size : Int) then (if t319 < (t315.length : Int) then (some (t314, (t315.set (t319 : Int).toNat (⟨a1, ((rd_T134 l0_1 t319).f1).extract 0 ((mn a2 (((rd_T134 l0_1 t319).f1).size : Int)) : Int).toNat, ((rd_T134 l0_1 t319).f2).extract 0 ((wrap64 (a2 - (mn a2 (((rd_T134 l0_1 t319).f1).size : Int)))) : Int).toNat⟩ : S134)), 0)) else (none)) else (none)) else (none)) else (none)) else (none)) else (some (t314, t315, 2)))) else (none)) else (none)))) = some (r1, r2, r3) := H
    have A19 := Aside0.mk A190
    clear A190
    replace H := Option.bind_eq_some_iff.mp H
    obtain ⟨t319, A200, H⟩ := H
    replace H : (if t319 < 0 then (some (t314, t315, 2)) else (if 0 ≤ t319 then (if t319 < (l0_1.length : Int) then ((impl_within.f a2 0 (wrap64 ((((rd_T134 l0_1 t319).f1).size : Int) + (((rd_T134 l0_1 t319).f2).size : Int)))).bind fun t322 => (if t322 = true then (if 0 ≤ (mn a2 (((rd_T134 l0_1 t319).f1).size : Int)) then (if (mn a2 (((rd_T134 l0_1 t319).f1).size : Int)) ≤ (((rd_T134 l0_1 t319).f1).size : Int) then (if 0 ≤ (wrap64 (a2 - (mn a2 (((rd_T134 l0_1 t319).f1).size : Int)))) then (if (wrap64 (a2 - (mn a2 (((rd_T134 l0_1 t319).f1).size : Int)))) ≤ (((rd_T134 l0_1 t319).f2).size : Int) then (if t319 < (t315.length : Int) then (some (t314, (t315.set (t319 : Int).toNat (⟨a1, ((rd_T134 l0_1 t319).f1).extract 0 ((mn a2 (((rd_T134 l0_1 t319).f1).size : Int)) : Int).toNat, ((rd_T134 l0_1 t319).f2).extract 0 ((wrap64 (a2 - (mn a2 (((rd_T134 l0_1 t319).f1).size : Int)))) : Int).toNat⟩ : S134)), 0)) else (none)) else (none)) else (none)) else (none)) else (none)) else (some (t314, t315, 2)))) else (none)) else (none))) = some (r1, r2, r3) := H
    have A20 := Aside0.mk A200
    clear A200
    by_cases c21 : t319 < 0
    ·rw [if_pos c21] at H
     have c21b0 : decide (t319 < 0) = true := decide_eq_true c21
     clear c21
     simp only [Option.some.injEq, Prod.mk.injEq] at H
     obtain ⟨rfl, rfl, rfl⟩ := H
     have hnb22 := NB310_311.out
     have hnc22 := NB311_310.out
     have hcz23_0 : wc.cell? ⟨gb310, 0, none⟩ = some (.int .i64 a0_0) := (blk_cell BK310.out 0).trans rfl
     have hcz23_1 : wc.cell? ⟨gb310, 1, none⟩ = some (.slice A0_1 l0_1.length c0_1) := (blk_cell BK310.out 1).trans rfl
     have hfz23_0 := blk_frozen BK310.out 0
     have hfz23_1 := blk_frozen BK310.out 1
     try go_wp2_with (first | ((with_reducible refine gate_callee (f := 115) rfl ?_); refine goesL_ (some 22) rfl rfl Try.func115 (by kernel_rfl) rfl #[.agg #[.int .i64 a0_0, .slice A0_1 l0_1.length c0_1]] rfl (by (try simp only [List.map_toArray, List.map_cons, List.map_nil]); first | done | rfl | (simp only [List.length_drop, List.length_take]; rfl)) ?_; (with_reducible refine (impl_copyDisk.calls a0_0 _ _ l0_1 t314 t315 _ ?side1 ?side2 A19.out).mono ?_); (case side1 => exact xcb HR0_1); (case side2 => exact HC0_1.out); rintro e w24 ⟨v316, rfl, ho0, hb⟩; refine ⟨_, rfl, ?_⟩; have HO317 := Aside0.mk (Kd.R_lower ho0 (below_size xbg)); replace BK310 := xbb BK310 hb; replace BK311 := xbb BK311 hb; replace HB := xbs hb; (try clear hb); (try clear hb2); (try clear hk); (try clear hi); (try clear ho0)) | ((with_reducible refine gate_dst (N := 8) rfl ?_); (try (refine gate_guard (by rfl) ?_; dsimp only)); refine box_event ?hg (N := 8) ?hd (cs := #[.int .i64 0, .slice none 0 0]) (t := 70) ?hr ?_; (case hd => rfl); (case hg => rfl); (case hr => first | (go_simp; done) | (go_simp; rfl)); intro gb318 hg w25 hbox hb; replace HO317 := Aside0.mk (Kd.R_below (by (with_reducible repeat (first | apply Kd.R_alloc | apply Kd.R_drewN | apply Kd.R_drew)); exact HO317.out) hb); have GW318 := Aside0.mk (xge hg); have GE318 := Aside0.mk (xge hg); replace HB := xbs hb; have NB310_318 := Aside0.mk ((by rw [hg]; exact Nat.ne_of_lt (blk_lt (g := gb310) (o := .cells #[.int .i64 a0_0, .slice A0_1 l0_1.length c0_1] 70 (0, 0)) xblk) : gb310 ≠ gb318)); have NB318_310 := Aside0.mk ((by rw [hg]; exact Nat.ne_of_gt (blk_lt (g := gb310) (o := .cells #[.int .i64 a0_0, .slice A0_1 l0_1.length c0_1] 70 (0, 0)) xblk) : gb318 ≠ gb310)); have NB311_318 := Aside0.mk ((by rw [hg]; exact Nat.ne_of_lt (blk_lt (g := gb311) (o := .cells #[.int .i64 0, .slice none 0 0] 70 (0, 0)) xblk) : gb311 ≠ gb318)); have NB318_311 := Aside0.mk ((by rw [hg]; exact Nat.ne_of_gt (blk_lt (g := gb311) (o := .cells #[.int .i64 0, .slice none 0 0] 70 (0, 0)) xblk) : gb318 ≠ gb311)); replace BK310 := xbb BK310 hb; replace BK311 := xbb BK311 hb; have BK318 := Aside0.mk (hbox); clear hb hbox hg; have hnb26 := NB318_310.out; have hnc26 := NB310_318.out; have hnb27 := NB318_311.out; have hnc27 := NB311_318.out; have hcz28_0 : w25.cell? ⟨gb318, 0, none⟩ = some (.int .i64 0) := (blk_cell BK318.out 0).trans rfl; have hcz28_1 : w25.cell? ⟨gb318, 1, none⟩ = some (.slice none 0 0) := (blk_cell BK318.out 1).trans rfl; have hfz28_0 := blk_frozen BK318.out 0; have hfz28_1 := blk_frozen BK318.out 1; obtain ⟨Ao29, co29, eo29⟩ := Kd.R_slice HO317.out; subst eo29; have hcz30_0 : w25.cell? ⟨gb310, 0, none⟩ = some (.int .i64 a0_0) := (blk_cell BK310.out 0).trans rfl; have hcz30_1 : w25.cell? ⟨gb310, 1, none⟩ = some (.slice A0_1 l0_1.length c0_1) := (blk_cell BK310.out 1).trans rfl; have hfz30_0 := blk_frozen BK310.out 0; have hfz30_1 := blk_frozen BK310.out 1) | ((with_reducible refine gate_callee (f := 116) rfl ?_); refine goesL_ (some 25) rfl rfl Try.func116 (by kernel_rfl) rfl #[.agg #[.int .i64 a0_0, .slice A0_1 l0_1.length c0_1], .int .i64 a1] rfl (by (try simp only [List.map_toArray, List.map_cons, List.map_nil]); first | done | rfl | (simp only [List.length_drop, List.length_take]; rfl)) ?_; (with_reducible refine (impl_fileAt.calls a0_0 _ _ l0_1 a1 t319 _ ?side1 ?side2 A20.out).mono ?_); (case side1 => exact Kd.C_below HR0_1.out xbg); (case side2 => exact HC0_1.out); rintro e w31 ⟨rfl, hb⟩; refine ⟨_, rfl, ?_⟩; replace HO317 := Aside0.mk (Kd.R_below (by (with_reducible repeat (first | apply Kd.R_alloc | apply Kd.R_drewN | apply Kd.R_drew)); exact (Kd.R_mono (Kd.R_far (p := ⟨gb318, 1, none⟩) (Kd.R_far (p := ⟨gb318, 0, none⟩) (Kd.R_types HO317.out BK318.out (by decide)) (fun _ hk => hk.2) (.int .i64 t314)) (fun _ hk => hk.2) (.slice Ao29 t315.length co29)) (fun _ h_ => h_.1))) hb); replace BK310 := Aside0.mk (blk_below (g := gb310) (o := .cells #[.int .i64 a0_0, .slice A0_1 l0_1.length c0_1] 70 (0, 0)) (by (with_reducible repeat (first | refine blk_drewN ?_ _ | refine blk_drew ?_ | refine blk_alloc ?_ _)); refine blk_far ?_ NB310_318.out _; (with_reducible repeat (first | refine blk_drewN ?_ _ | refine blk_drew ?_ | refine blk_alloc ?_ _)); refine blk_far ?_ NB310_318.out _; (with_reducible repeat (first | refine blk_drewN ?_ _ | refine blk_drew ?_ | refine blk_alloc ?_ _)); exact BK310.out) hb); replace BK311 := Aside0.mk (blk_below (g := gb311) (o := .cells #[.int .i64 0, .slice none 0 0] 70 (0, 0)) (by (with_reducible repeat (first | refine blk_drewN ?_ _ | refine blk_drew ?_ | refine blk_alloc ?_ _)); refine blk_far ?_ NB311_318.out _; (with_reducible repeat (first | refine blk_drewN ?_ _ | refine blk_drew ?_ | refine blk_alloc ?_ _)); refine blk_far ?_ NB311_318.out _; (with_reducible repeat (first | refine blk_drewN ?_ _ | refine blk_drew ?_ | refine blk_alloc ?_ _)); exact BK311.out) hb); replace BK318 := Aside0.mk (blk_below (g := gb318) (o := .cells #[.int .i64 t314, .slice Ao29 t315.length co29] 70 (0, 0)) (by (with_reducible repeat (first | refine blk_drewN ?_ _ | refine blk_drew ?_ | refine blk_alloc ?_ _)); refine blk_put (cs := #[.int .i64 t314, .slice none 0 0]) ?_ 1 _ rfl; (with_reducible repeat (first | refine blk_drewN ?_ _ | refine blk_drew ?_ | refine blk_alloc ?_ _)); refine blk_put (cs := #[.int .i64 0, .slice none 0 0]) ?_ 0 _ rfl; (with_reducible repeat (first | refine blk_drewN ?_ _ | refine blk_drew ?_ | refine blk_alloc ?_ _)); exact BK318.out) hb); replace HB := xbs hb; (try clear hb); (try clear hb2); (try clear hk); (try clear hi)))
     replace HO317 := Aside0.mk (Kd.R_drew HO317.out)
     replace BK310 := Aside0.mk (blk_drew BK310.out)
     replace BK311 := Aside0.mk (blk_drew BK311.out)
     replace BK318 := Aside0.mk (blk_drew BK318.out)
     replace HB := Aside0.mk (below_drew1 HB.out)
     refine start_ (n := 22) (S := fun w' => True) (ds := []) #[false, false, false, false, false, false, false, false, false, false, false, false, false, false, false, false, false, false, false, false, false, false] (by kernel_rfl) rfl rfl trivial (fun hHeld => ?_); refine with_tabW impl_DiskCut.tab5 impl_DiskCut.bits5 (fun HT_ HW_ => ?_)
     generalize w31.drew = w32 at HO317 BK310 BK311 BK318 HB hHeld ⊢
     refine pv_ 0 26 (h := ?_)
     refine pv_ 1 27 (h := ?_)
     refine pv_ 2 28 (h := ?_)
     refine pu_ 3 29 (h := ?_)
     refine pu_ 4 30 (h := ?_)
     refine pu_ 5 31 (h := ?_)
     refine pu_ 6 32 (h := ?_)
     refine pu_ 7 33 (h := ?_)
     refine pu_ 8 34 (h := ?_)
     refine pu_ 9 35 (h := ?_)
     refine pu_ 10 36 (h := ?_)
     refine pu_ 11 37 (h := ?_)
     refine pu_ 12 38 (h := ?_)
     refine pu_ 13 39 (h := ?_)
     refine pu_ 14 40 (h := ?_)
     refine pu_ 15 41 (h := ?_)
     refine pu_ 16 42 (h := ?_)
     refine pu_ 17 43 (h := ?_)
     refine pu_ 18 44 (h := ?_)
     refine pu_ 19 45 (h := ?_)
     refine pu_ 20 46 (h := ?_)
     refine pv_ 21 47 (h := ?_)
     refine done_ (done_of HT_.out (by kernel_rfl)) ?_
     have hcz33_0 : w32.cell? ⟨gb318, 0, none⟩ = some (.int .i64 t314) := (blk_cell BK318.out 0).trans rfl
     have hcz33_1 : w32.cell? ⟨gb318, 1, none⟩ = some (.slice Ao29 t315.length co29) := (blk_cell BK318.out 1).trans rfl
     have hfz33_0 := blk_frozen BK318.out 0
     have hfz33_1 := blk_frozen BK318.out 1
     have hcz34_0 : w32.cell? ⟨gb311, 0, none⟩ = some (.int .i64 0) := (blk_cell BK311.out 0).trans rfl
     have hcz34_1 : w32.cell? ⟨gb311, 1, none⟩ = some (.slice none 0 0) := (blk_cell BK311.out 1).trans rfl
     have hfz34_0 := blk_frozen BK311.out 0
     have hfz34_1 := blk_frozen BK311.out 1
     try go_wp2
     refine bodyPost_ret (results_ct rfl _ _ gb311 70 #[.int .i64 t314, .slice Ao29 t315.length co29] (0, 0) _ rfl (by (with_reducible repeat (first | refine blk_drewN ?_ _ | refine blk_drew ?_ | refine blk_alloc ?_ _)); refine blk_put (cs := #[.int .i64 t314, .slice none 0 0]) ?_ 1 _ rfl; (with_reducible repeat (first | refine blk_drewN ?_ _ | refine blk_drew ?_ | refine blk_alloc ?_ _)); refine blk_put (cs := #[.int .i64 0, .slice none 0 0]) ?_ 0 _ rfl; (with_reducible repeat (first | refine blk_drewN ?_ _ | refine blk_drew ?_ | refine blk_alloc ?_ _)); exact BK311.out) Try.underlying70 rfl (by kernel_rfl)) rfl ?_
     exact ⟨_, by first | rfl | (simp [errW_none, errW_some] <;> rfl) | (simp [*, errW_none, errW_some] <;> rfl), by (with_reducible repeat (first | apply Kd.R_alloc | apply Kd.R_drewN | apply Kd.R_drew)); exact Kd.R_mono (Kd.R_far (p := ⟨gb311, 1, none⟩) (Kd.R_far (p := ⟨gb311, 0, none⟩) (Kd.R_types HO317.out BK311.out (by decide)) (fun _ hk => hk.2) (.int .i64 t314)) (fun _ hk => hk.2) (.slice Ao29 t315.length co29)) (fun _ hk => trivial), xbg⟩
    ·rw [if_neg c21] at H
     have c21b0 : decide (t319 < 0) = false := decide_eq_false c21
     clear c21
     by_cases c35 : 0 ≤ t319
     ·rw [if_pos c35] at H
      have c35b0 : decide (0 ≤ t319) = true := decide_eq_true c35
      clear c35
      by_cases c36 : t319 < (l0_1.length : Int)
      ·rw [if_pos c36] at H
       have c36b0 : decide (t319 < (l0_1.length : Int)) = true := decide_eq_true c36
       clear c36
       replace H := Option.bind_eq_some_iff.mp H
       obtain ⟨t322, A370, H⟩ := H
       replace H : (if t322 = true then (if 0 ≤ (mn a2 (((rd_T134 l0_1 t319).f1).size : Int)) then (if (mn a2 (((rd_T134 l0_1 t319).f1).size : Int)) ≤ (((rd_T134 l0_1 t319).f1).size : Int) then (if 0 ≤ (wrap64 (a2 - (mn a2 (((rd_T134 l0_1 t319).f1).size : Int)))) then (if (wrap64 (a2 - (mn a2 (((rd_T134 l0_1 t319).f1).size : Int)))) ≤ (((rd_T134 l0_1 t319).f2).size : Int) then (if t319 < (t315.length : Int) then (some (t314, (t315.set (t319 : Int).toNat (⟨a1, ((rd_T134 l0_1 t319).f1).extract 0 ((mn a2 (((rd_T134 l0_1 t319).f1).size : Int)) : Int).toNat, ((rd_T134 l0_1 t319).f2).extract 0 ((wrap64 (a2 - (mn a2 (((rd_T134 l0_1 t319).f1).size : Int)))) : Int).toNat⟩ : S134)), 0)) else (none)) else (none)) else (none)) else (none)) else (none)) else (some (t314, t315, 2))) = some (r1, r2, r3) := H
       have A37 := Aside0.mk A370
       clear A370
       by_cases c38 : t322 = true
       ·subst c38
        have H1 : (if 0 ≤ (mn a2 (((rd_T134 l0_1 t319).f1).size : Int)) then (if (mn a2 (((rd_T134 l0_1 t319).f1).size : Int)) ≤ (((rd_T134 l0_1 t319).f1).size : Int) then (if 0 ≤ (wrap64 (a2 - (mn a2 (((rd_T134 l0_1 t319).f1).size : Int)))) then (if (wrap64 (a2 - (mn a2 (((rd_T134 l0_1 t319).f1).size : Int)))) ≤ (((rd_T134 l0_1 t319).f2).size : Int) then (if t319 < (t315.length : Int) then (some (t314, (t315.set (t319 : Int).toNat (⟨a1, ((rd_T134 l0_1 t319).f1).extract 0 ((mn a2 (((rd_T134 l0_1 t319).f1).size : Int)) : Int).toNat, ((rd_T134 l0_1 t319).f2).extract 0 ((wrap64 (a2 - (mn a2 (((rd_T134 l0_1 t319).f1).size : Int)))) : Int).toNat⟩ : S134)), 0)) else (none)) else (none)) else (none)) else (none)) else (none)) = some (r1, r2, r3) := by rw [if_pos rfl] at H; exact H
        clear H
        have H := H1
        clear H1
        obtain ⟨ji39, hji39⟩ : ∃ j_ : Int, (mn a2 (((rd_T134 l0_1 t319).f1).size : Int)) = j_ := ⟨_, rfl⟩
        replace H : (if 0 ≤ (ji39) then (if (ji39) ≤ (((rd_T134 l0_1 t319).f1).size : Int) then (if 0 ≤ (wrap64 (a2 - (ji39))) then (if (wrap64 (a2 - (ji39))) ≤ (((rd_T134 l0_1 t319).f2).size : Int) then (if t319 < (t315.length : Int) then (some (t314, (t315.set (t319 : Int).toNat (⟨a1, ((rd_T134 l0_1 t319).f1).extract 0 ((ji39) : Int).toNat, ((rd_T134 l0_1 t319).f2).extract 0 ((wrap64 (a2 - (ji39))) : Int).toNat⟩ : S134)), 0)) else (none)) else (none)) else (none)) else (none)) else (none)) = some (r1, r2, r3) := by first | (rw [hji39] at H; exact H) | (simp only [hji39] at H ⊢; exact H)
        (try rw [hji39] at A19)
        (try rw [hji39] at A20)
        (try rw [hji39] at A37)
        have hji39_ : (if (((rd_T134 l0_1 t319).f1).size : Int) < a2 then (((rd_T134 l0_1 t319).f1).size : Int) else a2) = ji39 := hji39
        by_cases c40 : 0 ≤ (ji39)
        ·rw [if_pos c40] at H
         have c40b0 := eq_true c40
         have c40b1 : decide (0 ≤ (ji39)) = true := decide_eq_true c40
         clear c40
         by_cases c41 : (ji39) ≤ (((rd_T134 l0_1 t319).f1).size : Int)
         ·rw [if_pos c41] at H
          have c41b0 := eq_true c41
          have c41b1 : decide ((ji39) ≤ (((rd_T134 l0_1 t319).f1).size : Int)) = true := decide_eq_true c41
          clear c41
          obtain ⟨ji42, hji42⟩ : ∃ j_ : Int, (wrap64 (a2 - (ji39))) = j_ := ⟨_, rfl⟩
          replace H : (if 0 ≤ (ji42) then (if (ji42) ≤ (((rd_T134 l0_1 t319).f2).size : Int) then (if t319 < (t315.length : Int) then (some (t314, (t315.set (t319 : Int).toNat (⟨a1, ((rd_T134 l0_1 t319).f1).extract 0 ((ji39) : Int).toNat, ((rd_T134 l0_1 t319).f2).extract 0 ((ji42) : Int).toNat⟩ : S134)), 0)) else (none)) else (none)) else (none)) = some (r1, r2, r3) := by first | (rw [hji42] at H; exact H) | (simp only [hji42] at H ⊢; exact H)
          (try rw [hji42] at A19)
          (try rw [hji42] at A20)
          (try rw [hji42] at A37)
          have hji42w : (IntKind.i64.wrap (a2 - (ji39))) = ji42 := (i64_w _).trans hji42
          by_cases c43 : 0 ≤ (ji42)
          ·rw [if_pos c43] at H
           have c43b0 := eq_true c43
           have c43b1 : decide (0 ≤ (ji42)) = true := decide_eq_true c43
           clear c43
           by_cases c44 : (ji42) ≤ (((rd_T134 l0_1 t319).f2).size : Int)
           ·rw [if_pos c44] at H
            have c44b0 := eq_true c44
            have c44b1 : decide ((ji42) ≤ (((rd_T134 l0_1 t319).f2).size : Int)) = true := decide_eq_true c44
            clear c44
            by_cases c45 : t319 < (t315.length : Int)
            ·rw [if_pos c45] at H
             have c45b0 : decide (t319 < (t315.length : Int)) = true := decide_eq_true c45
             clear c45
             obtain ⟨y325, hy325⟩ : ∃ y_ : List (S134), y_ = (t315.set (t319 : Int).toNat (⟨a1, ((rd_T134 l0_1 t319).f1).extract 0 ((ji39) : Int).toNat, ((rd_T134 l0_1 t319).f2).extract 0 ((ji42) : Int).toNat⟩ : S134)) := ⟨_, rfl⟩
             replace H : (some (t314, y325, 0)) = some (r1, r2, r3) := by first | (rw [hy325]; with_reducible exact H) | (have H2_ := (Option.bind_some _ _).symm.trans H; rw [hy325]; with_reducible exact H2_) | (have H2_ := (Option.bind_some _ _).symm.trans H; with_reducible exact H2_) | with_reducible exact H | (rw [hy325]; exact H) | exact H
             have Ny325 := Aside0.mk hy325
             clear hy325
             simp only [Option.some.injEq, Prod.mk.injEq] at H
             obtain ⟨rfl, rfl, rfl⟩ := H
             have hnb47 := NB310_311.out
             have hnc47 := NB311_310.out
             have hcz48_0 : wc.cell? ⟨gb310, 0, none⟩ = some (.int .i64 a0_0) := (blk_cell BK310.out 0).trans rfl
             have hcz48_1 : wc.cell? ⟨gb310, 1, none⟩ = some (.slice A0_1 l0_1.length c0_1) := (blk_cell BK310.out 1).trans rfl
             have hfz48_0 := blk_frozen BK310.out 0
             have hfz48_1 := blk_frozen BK310.out 1
             try go_wp2_with (first | ((with_reducible refine gate_callee (f := 115) rfl ?_); refine goesL_ (some 22) rfl rfl Try.func115 (by kernel_rfl) rfl #[.agg #[.int .i64 a0_0, .slice A0_1 l0_1.length c0_1]] rfl (by (try simp only [List.map_toArray, List.map_cons, List.map_nil]); first | done | rfl | (simp only [List.length_drop, List.length_take]; rfl)) ?_; (with_reducible refine (impl_copyDisk.calls a0_0 _ _ l0_1 t314 t315 _ ?side1 ?side2 A19.out).mono ?_); (case side1 => exact xcb HR0_1); (case side2 => exact HC0_1.out); rintro e w49 ⟨v316, rfl, ho0, hb⟩; refine ⟨_, rfl, ?_⟩; have HO317 := Aside0.mk (Kd.R_lower ho0 (below_size xbg)); replace BK310 := xbb BK310 hb; replace BK311 := xbb BK311 hb; replace HB := xbs hb; (try clear hb); (try clear hb2); (try clear hk); (try clear hi); (try clear ho0)) | ((with_reducible refine gate_dst (N := 8) rfl ?_); (try (refine gate_guard (by rfl) ?_; dsimp only)); refine box_event ?hg (N := 8) ?hd (cs := #[.int .i64 0, .slice none 0 0]) (t := 70) ?hr ?_; (case hd => rfl); (case hg => rfl); (case hr => first | (go_simp; done) | (go_simp; rfl)); intro gb318 hg w50 hbox hb; replace HO317 := Aside0.mk (Kd.R_below (by (with_reducible repeat (first | apply Kd.R_alloc | apply Kd.R_drewN | apply Kd.R_drew)); exact HO317.out) hb); have GW318 := Aside0.mk (xge hg); have GE318 := Aside0.mk (xge hg); replace HB := xbs hb; have NB310_318 := Aside0.mk ((by rw [hg]; exact Nat.ne_of_lt (blk_lt (g := gb310) (o := .cells #[.int .i64 a0_0, .slice A0_1 l0_1.length c0_1] 70 (0, 0)) xblk) : gb310 ≠ gb318)); have NB318_310 := Aside0.mk ((by rw [hg]; exact Nat.ne_of_gt (blk_lt (g := gb310) (o := .cells #[.int .i64 a0_0, .slice A0_1 l0_1.length c0_1] 70 (0, 0)) xblk) : gb318 ≠ gb310)); have NB311_318 := Aside0.mk ((by rw [hg]; exact Nat.ne_of_lt (blk_lt (g := gb311) (o := .cells #[.int .i64 0, .slice none 0 0] 70 (0, 0)) xblk) : gb311 ≠ gb318)); have NB318_311 := Aside0.mk ((by rw [hg]; exact Nat.ne_of_gt (blk_lt (g := gb311) (o := .cells #[.int .i64 0, .slice none 0 0] 70 (0, 0)) xblk) : gb318 ≠ gb311)); replace BK310 := xbb BK310 hb; replace BK311 := xbb BK311 hb; have BK318 := Aside0.mk (hbox); clear hb hbox hg; have hnb51 := NB318_310.out; have hnc51 := NB310_318.out; have hnb52 := NB318_311.out; have hnc52 := NB311_318.out; have hcz53_0 : w50.cell? ⟨gb318, 0, none⟩ = some (.int .i64 0) := (blk_cell BK318.out 0).trans rfl; have hcz53_1 : w50.cell? ⟨gb318, 1, none⟩ = some (.slice none 0 0) := (blk_cell BK318.out 1).trans rfl; have hfz53_0 := blk_frozen BK318.out 0; have hfz53_1 := blk_frozen BK318.out 1; obtain ⟨Ao54, co54, eo54⟩ := Kd.R_slice HO317.out; subst eo54; have hcz55_0 : w50.cell? ⟨gb310, 0, none⟩ = some (.int .i64 a0_0) := (blk_cell BK310.out 0).trans rfl; have hcz55_1 : w50.cell? ⟨gb310, 1, none⟩ = some (.slice A0_1 l0_1.length c0_1) := (blk_cell BK310.out 1).trans rfl; have hfz55_0 := blk_frozen BK310.out 0; have hfz55_1 := blk_frozen BK310.out 1) | ((with_reducible refine gate_callee (f := 116) rfl ?_); refine goesL_ (some 25) rfl rfl Try.func116 (by kernel_rfl) rfl #[.agg #[.int .i64 a0_0, .slice A0_1 l0_1.length c0_1], .int .i64 a1] rfl (by (try simp only [List.map_toArray, List.map_cons, List.map_nil]); first | done | rfl | (simp only [List.length_drop, List.length_take]; rfl)) ?_; (with_reducible refine (impl_fileAt.calls a0_0 _ _ l0_1 a1 t319 _ ?side1 ?side2 A20.out).mono ?_); (case side1 => exact Kd.C_below HR0_1.out xbg); (case side2 => exact HC0_1.out); rintro e w56 ⟨rfl, hb⟩; refine ⟨_, rfl, ?_⟩; replace HO317 := Aside0.mk (Kd.R_below (by (with_reducible repeat (first | apply Kd.R_alloc | apply Kd.R_drewN | apply Kd.R_drew)); exact (Kd.R_mono (Kd.R_far (p := ⟨gb318, 1, none⟩) (Kd.R_far (p := ⟨gb318, 0, none⟩) (Kd.R_types HO317.out BK318.out (by decide)) (fun _ hk => hk.2) (.int .i64 t314)) (fun _ hk => hk.2) (.slice Ao54 t315.length co54)) (fun _ h_ => h_.1))) hb); replace BK310 := Aside0.mk (blk_below (g := gb310) (o := .cells #[.int .i64 a0_0, .slice A0_1 l0_1.length c0_1] 70 (0, 0)) (by (with_reducible repeat (first | refine blk_drewN ?_ _ | refine blk_drew ?_ | refine blk_alloc ?_ _)); refine blk_far ?_ NB310_318.out _; (with_reducible repeat (first | refine blk_drewN ?_ _ | refine blk_drew ?_ | refine blk_alloc ?_ _)); refine blk_far ?_ NB310_318.out _; (with_reducible repeat (first | refine blk_drewN ?_ _ | refine blk_drew ?_ | refine blk_alloc ?_ _)); exact BK310.out) hb); replace BK311 := Aside0.mk (blk_below (g := gb311) (o := .cells #[.int .i64 0, .slice none 0 0] 70 (0, 0)) (by (with_reducible repeat (first | refine blk_drewN ?_ _ | refine blk_drew ?_ | refine blk_alloc ?_ _)); refine blk_far ?_ NB311_318.out _; (with_reducible repeat (first | refine blk_drewN ?_ _ | refine blk_drew ?_ | refine blk_alloc ?_ _)); refine blk_far ?_ NB311_318.out _; (with_reducible repeat (first | refine blk_drewN ?_ _ | refine blk_drew ?_ | refine blk_alloc ?_ _)); exact BK311.out) hb); replace BK318 := Aside0.mk (blk_below (g := gb318) (o := .cells #[.int .i64 t314, .slice Ao54 t315.length co54] 70 (0, 0)) (by (with_reducible repeat (first | refine blk_drewN ?_ _ | refine blk_drew ?_ | refine blk_alloc ?_ _)); refine blk_put (cs := #[.int .i64 t314, .slice none 0 0]) ?_ 1 _ rfl; (with_reducible repeat (first | refine blk_drewN ?_ _ | refine blk_drew ?_ | refine blk_alloc ?_ _)); refine blk_put (cs := #[.int .i64 0, .slice none 0 0]) ?_ 0 _ rfl; (with_reducible repeat (first | refine blk_drewN ?_ _ | refine blk_drew ?_ | refine blk_alloc ?_ _)); exact BK318.out) hb); replace HB := xbs hb; (try clear hb); (try clear hb2); (try clear hk); (try clear hi)))
             replace HO317 := Aside0.mk (Kd.R_drew HO317.out)
             replace BK310 := Aside0.mk (blk_drew BK310.out)
             replace BK311 := Aside0.mk (blk_drew BK311.out)
             replace BK318 := Aside0.mk (blk_drew BK318.out)
             replace HB := Aside0.mk (below_drew1 HB.out)
             have p320 : 0 ≤ (t319 : Int) := of_decide_eq_true (by first | (with_reducible assumption) | assumption)
             have q320 : t319 < (l0_1.length : Int) := of_decide_eq_true (by first | (with_reducible assumption) | assumption)
             obtain ⟨ad320, e320, hx320_0, hx320_1, hx320_2⟩ := at_T134 HR0_1.out t319 p320 q320
             have hw320_2 := hx320_2
             have hw320_1 := hx320_1
             have hw320_0 := hx320_0
             cases e320
             replace hx320_0 := xce HB hx320_0
             replace hx320_1 := xce HB hx320_1
             replace hx320_2 := xce HB hx320_2
             replace p320 := eq_true p320
             replace q320 := eq_true q320
             have p321 : 0 ≤ (t319 : Int) := of_decide_eq_true (by first | (with_reducible assumption) | assumption)
             have q321 : t319 < (l0_1.length : Int) := of_decide_eq_true (by first | (with_reducible assumption) | assumption)
             obtain ⟨ad321, e321, hx321_0, hx321_1, hx321_2⟩ := at_T134 HR0_1.out t319 p321 q321
             have hw321_2 := hx321_2
             have hw321_1 := hx321_1
             have hw321_0 := hx321_0
             obtain rfl : ad320 = ad321 := (by injection e321)
             replace hx321_0 := xce HB hx321_0
             replace hx321_1 := xce HB hx321_1
             replace hx321_2 := xce HB hx321_2
             replace p321 := eq_true p321
             replace q321 := eq_true q321
             refine start_ (n := 22) (S := fun w' => w'.cell? ⟨gb310, 0, none⟩ = some (.int .i64 a0_0) ∧ w'.cell? ⟨gb310, 1, none⟩ = some (.slice (some ad320) l0_1.length c0_1) ∧ w'.cell? (ad320.add ((t319).toNat * 3)) = some (.int .i64 ((rd_T134 l0_1 t319).f0)) ∧ w'.cell? ⟨(ad320.add ((t319).toNat * 3)).block, (ad320.add ((t319).toNat * 3)).off + 1, none⟩ = some (.string ((rd_T134 l0_1 t319).f1)) ∧ w'.cell? ⟨(ad320.add ((t319).toNat * 3)).block, (ad320.add ((t319).toNat * 3)).off + 2, none⟩ = some (.string ((rd_T134 l0_1 t319).f2)) ∧ w'.cell? (ad320.add ((t319).toNat * 3)) = some (.int .i64 ((rd_T134 l0_1 t319).f0)) ∧ w'.cell? ⟨(ad320.add ((t319).toNat * 3)).block, (ad320.add ((t319).toNat * 3)).off + 1, none⟩ = some (.string ((rd_T134 l0_1 t319).f1)) ∧ w'.cell? ⟨(ad320.add ((t319).toNat * 3)).block, (ad320.add ((t319).toNat * 3)).off + 2, none⟩ = some (.string ((rd_T134 l0_1 t319).f2))) (ds := []) #[false, false, false, false, false, false, false, false, false, false, false, false, false, false, false, false, false, false, false, false, false, false] (by kernel_rfl) rfl rfl ⟨(blk_cell BK310.out 0).trans rfl, (blk_cell BK310.out 1).trans rfl, (xce HB hw320_0), (xce HB hw320_1), (xce HB hw320_2), (xce HB hw321_0), (xce HB hw321_1), (xce HB hw321_2)⟩ (fun hHeld => ?_); refine with_tabW impl_DiskCut.tab5 impl_DiskCut.bits5 (fun HT_ HW_ => ?_)
             generalize w56.drew = w57 at HO317 BK310 BK311 BK318 HB hx320_0 hx320_1 hx320_2 hx321_0 hx321_1 hx321_2 hHeld ⊢
             refine pv_ 0 26 (h := ?_)
             refine pv_ 1 27 (h := ?_)
             refine pv_ 2 28 (h := ?_)
             refine pv_ 3 29 (h := ?_)
             refine pv_ 4 30 (h := ?_)
             refine pv_ 6 32 (h := ?_)
             refine pv_ 11 37 (h := ?_)
             refine pv_ 13 39 (h := ?_)
             refine tk_ 5 31 (h := ?_)
             refine pv_ 7 33 (h := ?_)
             refine pv_ 8 34 (h := ?_)
             refine tk_ 9 35 (h := ?_)
             refine pv_ 10 36 (h := ?_)
             refine tk_ 12 38 (h := ?_)
             refine pv_ 14 40 (h := ?_)
             refine pv_ 15 41 (h := ?_)
             refine tk_ 16 42 (h := ?_)
             refine pv_ 17 43 (h := ?_)
             refine pv_ 18 44 (h := ?_)
             refine on_ 19 45 (h := fun K hK => ?_)
             refine goes_ Try.func81 (by kernel_rfl) rfl #[.int .i64 a2, .int .i64 0, .int .i64 (wrap64 ((((rd_T134 l0_1 t319).f1).size : Int) + (((rd_T134 l0_1 t319).f2).size : Int)))] (by rfl) rfl rfl (by (try simp only [List.map_toArray, List.map_cons, List.map_nil]); first | done | rfl | (simp only [List.length_drop, List.length_take]; rfl)) ?_
             with_reducible refine (impl_within.calls a2 0 (wrap64 ((((rd_T134 l0_1 t319).f1).size : Int) + (((rd_T134 l0_1 t319).f2).size : Int))) true _ A37.out).mono ?_
             rintro e w' ⟨rfl, ⟨nd, rfl⟩⟩
             refine ⟨_, rfl, ?_⟩
             refine hK.out _ _ ⟨(blk_cell BK310.out 0).trans rfl, (blk_cell BK310.out 1).trans rfl, (xce HB hw320_0), (xce HB hw320_1), (xce HB hw320_2), (xce HB hw321_0), (xce HB hw321_1), (xce HB hw321_2)⟩ (fun hHeld => ?_)
             clear hK K
             refine norm_ (a' := ?_) ?_ ?_
             rotate_left
             ·show Act.put _ (some 45) _ = _
              simp only [Act.put, List.setIfInBounds_toArray, List.set_cons_zero, List.set_cons_succ, i64_w, i32_w]
              rfl
             refine pv_ 20 46 (h := ?_)
             refine pv_ 21 47 (h := ?_)
             refine done_ (done_of HT_.out (by kernel_rfl)) ?_
             have hcz58_0 : w57.cell? ⟨gb310, 0, none⟩ = some (.int .i64 a0_0) := (blk_cell BK310.out 0).trans rfl
             have hcz58_1 : w57.cell? ⟨gb310, 1, none⟩ = some (.slice (some ad320) l0_1.length c0_1) := (blk_cell BK310.out 1).trans rfl
             have hfz58_0 := blk_frozen BK310.out 0
             have hfz58_1 := blk_frozen BK310.out 1
             have p323 : 0 ≤ (t319 : Int) := of_decide_eq_true (by first | (with_reducible assumption) | assumption)
             have q323 : t319 < (l0_1.length : Int) := of_decide_eq_true (by first | (with_reducible assumption) | assumption)
             obtain ⟨ad323, e323, hx323_0, hx323_1, hx323_2⟩ := at_T134 HR0_1.out t319 p323 q323
             obtain rfl : ad320 = ad323 := (by injection e323)
             replace hx323_0 := xce HB hx323_0
             replace hx323_1 := xce HB hx323_1
             replace hx323_2 := xce HB hx323_2
             replace p323 := eq_true p323
             replace q323 := eq_true q323
             try go_wp2_with (first | ((with_reducible refine gate_dst (N := 10) rfl ?_); (try (refine gate_guard (by rfl) ?_; dsimp only)); refine box_event ?hg (N := 10) ?hd (cs := #[.int .i64 0, .string (⟨#[]⟩ : ByteArray), .string (⟨#[]⟩ : ByteArray)]) (t := 134) ?hr ?_; (case hd => rfl); (case hg => rfl); (case hr => first | (go_simp; done) | (go_simp; rfl)); intro gb324 hg w59 hbox hb; replace HO317 := Aside0.mk (Kd.R_below (Kd.R_elderB (by (with_reducible repeat (first | apply Kd.R_alloc | apply Kd.R_drewN | apply Kd.R_drew)); exact HO317.out) gb324 (Nat.le_of_eq hg.symm)) hb); have GW324 := Aside0.mk (xge hg); have GE324 := Aside0.mk (xge hg); replace HB := xbs hb; have NB310_324 := Aside0.mk ((by rw [hg]; exact Nat.ne_of_lt (blk_lt (g := gb310) (o := .cells #[.int .i64 a0_0, .slice (some ad320) l0_1.length c0_1] 70 (0, 0)) xblk) : gb310 ≠ gb324)); have NB324_310 := Aside0.mk ((by rw [hg]; exact Nat.ne_of_gt (blk_lt (g := gb310) (o := .cells #[.int .i64 a0_0, .slice (some ad320) l0_1.length c0_1] 70 (0, 0)) xblk) : gb324 ≠ gb310)); have NB311_324 := Aside0.mk ((by rw [hg]; exact Nat.ne_of_lt (blk_lt (g := gb311) (o := .cells #[.int .i64 0, .slice none 0 0] 70 (0, 0)) xblk) : gb311 ≠ gb324)); have NB324_311 := Aside0.mk ((by rw [hg]; exact Nat.ne_of_gt (blk_lt (g := gb311) (o := .cells #[.int .i64 0, .slice none 0 0] 70 (0, 0)) xblk) : gb324 ≠ gb311)); have NB318_324 := Aside0.mk ((by rw [hg]; exact Nat.ne_of_lt (blk_lt (g := gb318) (o := .cells #[.int .i64 t314, .slice Ao54 t315.length co54] 70 (0, 0)) xblk) : gb318 ≠ gb324)); have NB324_318 := Aside0.mk ((by rw [hg]; exact Nat.ne_of_gt (blk_lt (g := gb318) (o := .cells #[.int .i64 t314, .slice Ao54 t315.length co54] 70 (0, 0)) xblk) : gb324 ≠ gb318)); replace BK310 := xbb BK310 hb; replace BK311 := xbb BK311 hb; replace BK318 := xbb BK318 hb; have BK324 := Aside0.mk (hbox); clear hb hbox hg; have hnb60 := NB324_310.out; have hnc60 := NB310_324.out; have hnb61 := NB324_311.out; have hnc61 := NB311_324.out; have hnb62 := NB324_318.out; have hnc62 := NB318_324.out; have hcz63_0 : w59.cell? ⟨gb324, 0, none⟩ = some (.int .i64 0) := (blk_cell BK324.out 0).trans rfl; have hcz63_1 : w59.cell? ⟨gb324, 1, none⟩ = some (.string (⟨#[]⟩ : ByteArray)) := (blk_cell BK324.out 1).trans rfl; have hcz63_2 : w59.cell? ⟨gb324, 2, none⟩ = some (.string (⟨#[]⟩ : ByteArray)) := (blk_cell BK324.out 2).trans rfl; have hfz63_0 := blk_frozen BK324.out 0; have hfz63_1 := blk_frozen BK324.out 1; have hfz63_2 := blk_frozen BK324.out 2))
             have n0_ : Aside0 (Kd.R k134 134 (((w59.setCell ⟨gb324, 0, none⟩ (.int .i64 ((rd_T134 l0_1 t319).f0))).setCell ⟨gb324, 1, none⟩ (.string ((rd_T134 l0_1 t319).f1))).setCell ⟨gb324, 2, none⟩ (.string ((rd_T134 l0_1 t319).f2))) w.heap.size (fun k_ => k_ ≠ gb324) (.slice Ao54 t315.length co54) t315) := ⟨by (with_reducible repeat (first | apply Kd.R_alloc | apply Kd.R_drewN | apply Kd.R_drew)); exact Kd.R_mono (Kd.R_far (p := ⟨gb324, 2, none⟩) (Kd.R_far (p := ⟨gb324, 1, none⟩) (Kd.R_far (p := ⟨gb324, 0, none⟩) (Kd.R_mono HO317.out (fun k_ hk => (⟨hk, hk.2⟩ : _ ∧ k_ ≠ gb324))) (fun _ hk => hk.2) (.int .i64 ((rd_T134 l0_1 t319).f0))) (fun _ hk => hk.2) (.string ((rd_T134 l0_1 t319).f1))) (fun _ hk => hk.2) (.string ((rd_T134 l0_1 t319).f2))) (fun _ hk => hk.1.2)⟩
             have n1_ : Aside0 ((((w59.setCell ⟨gb324, 0, none⟩ (.int .i64 ((rd_T134 l0_1 t319).f0))).setCell ⟨gb324, 1, none⟩ (.string ((rd_T134 l0_1 t319).f1))).setCell ⟨gb324, 2, none⟩ (.string ((rd_T134 l0_1 t319).f2))).heap[gb310]? = some (.cells #[.int .i64 a0_0, .slice (some ad320) l0_1.length c0_1] 70 (0, 0))) := ⟨by (with_reducible repeat (first | refine blk_drewN ?_ _ | refine blk_drew ?_ | refine blk_alloc ?_ _)); refine blk_far ?_ NB310_324.out _; (with_reducible repeat (first | refine blk_drewN ?_ _ | refine blk_drew ?_ | refine blk_alloc ?_ _)); refine blk_far ?_ NB310_324.out _; (with_reducible repeat (first | refine blk_drewN ?_ _ | refine blk_drew ?_ | refine blk_alloc ?_ _)); refine blk_far ?_ NB310_324.out _; (with_reducible repeat (first | refine blk_drewN ?_ _ | refine blk_drew ?_ | refine blk_alloc ?_ _)); exact BK310.out⟩
             have n2_ : Aside0 ((((w59.setCell ⟨gb324, 0, none⟩ (.int .i64 ((rd_T134 l0_1 t319).f0))).setCell ⟨gb324, 1, none⟩ (.string ((rd_T134 l0_1 t319).f1))).setCell ⟨gb324, 2, none⟩ (.string ((rd_T134 l0_1 t319).f2))).heap[gb311]? = some (.cells #[.int .i64 0, .slice none 0 0] 70 (0, 0))) := ⟨by (with_reducible repeat (first | refine blk_drewN ?_ _ | refine blk_drew ?_ | refine blk_alloc ?_ _)); refine blk_far ?_ NB311_324.out _; (with_reducible repeat (first | refine blk_drewN ?_ _ | refine blk_drew ?_ | refine blk_alloc ?_ _)); refine blk_far ?_ NB311_324.out _; (with_reducible repeat (first | refine blk_drewN ?_ _ | refine blk_drew ?_ | refine blk_alloc ?_ _)); refine blk_far ?_ NB311_324.out _; (with_reducible repeat (first | refine blk_drewN ?_ _ | refine blk_drew ?_ | refine blk_alloc ?_ _)); exact BK311.out⟩
             have n3_ : Aside0 ((((w59.setCell ⟨gb324, 0, none⟩ (.int .i64 ((rd_T134 l0_1 t319).f0))).setCell ⟨gb324, 1, none⟩ (.string ((rd_T134 l0_1 t319).f1))).setCell ⟨gb324, 2, none⟩ (.string ((rd_T134 l0_1 t319).f2))).heap[gb318]? = some (.cells #[.int .i64 t314, .slice Ao54 t315.length co54] 70 (0, 0))) := ⟨by (with_reducible repeat (first | refine blk_drewN ?_ _ | refine blk_drew ?_ | refine blk_alloc ?_ _)); refine blk_far ?_ NB318_324.out _; (with_reducible repeat (first | refine blk_drewN ?_ _ | refine blk_drew ?_ | refine blk_alloc ?_ _)); refine blk_far ?_ NB318_324.out _; (with_reducible repeat (first | refine blk_drewN ?_ _ | refine blk_drew ?_ | refine blk_alloc ?_ _)); refine blk_far ?_ NB318_324.out _; (with_reducible repeat (first | refine blk_drewN ?_ _ | refine blk_drew ?_ | refine blk_alloc ?_ _)); exact BK318.out⟩
             have n4_ : Aside0 ((((w59.setCell ⟨gb324, 0, none⟩ (.int .i64 ((rd_T134 l0_1 t319).f0))).setCell ⟨gb324, 1, none⟩ (.string ((rd_T134 l0_1 t319).f1))).setCell ⟨gb324, 2, none⟩ (.string ((rd_T134 l0_1 t319).f2))).heap[gb324]? = some (.cells #[.int .i64 ((rd_T134 l0_1 t319).f0), .string ((rd_T134 l0_1 t319).f1), .string ((rd_T134 l0_1 t319).f2)] 134 (0, 0))) := ⟨by (with_reducible repeat (first | refine blk_drewN ?_ _ | refine blk_drew ?_ | refine blk_alloc ?_ _)); refine blk_put (cs := #[.int .i64 ((rd_T134 l0_1 t319).f0), .string ((rd_T134 l0_1 t319).f1), .string (⟨#[]⟩ : ByteArray)]) ?_ 2 _ rfl; (with_reducible repeat (first | refine blk_drewN ?_ _ | refine blk_drew ?_ | refine blk_alloc ?_ _)); refine blk_put (cs := #[.int .i64 ((rd_T134 l0_1 t319).f0), .string (⟨#[]⟩ : ByteArray), .string (⟨#[]⟩ : ByteArray)]) ?_ 1 _ rfl; (with_reducible repeat (first | refine blk_drewN ?_ _ | refine blk_drew ?_ | refine blk_alloc ?_ _)); refine blk_put (cs := #[.int .i64 0, .string (⟨#[]⟩ : ByteArray), .string (⟨#[]⟩ : ByteArray)]) ?_ 0 _ rfl; (with_reducible repeat (first | refine blk_drewN ?_ _ | refine blk_drew ?_ | refine blk_alloc ?_ _)); exact BK324.out⟩
             have n5_ : Aside0 (Below w.heap.size w (((w59.setCell ⟨gb324, 0, none⟩ (.int .i64 ((rd_T134 l0_1 t319).f0))).setCell ⟨gb324, 1, none⟩ (.string ((rd_T134 l0_1 t319).f1))).setCell ⟨gb324, 2, none⟩ (.string ((rd_T134 l0_1 t319).f2)))) := ⟨xbg⟩
             (try clear HO317); (try clear BK310); (try clear BK311); (try clear BK318); (try clear BK324); (try clear HB)
             generalize (((w59.setCell ⟨gb324, 0, none⟩ (.int .i64 ((rd_T134 l0_1 t319).f0))).setCell ⟨gb324, 1, none⟩ (.string ((rd_T134 l0_1 t319).f1))).setCell ⟨gb324, 2, none⟩ (.string ((rd_T134 l0_1 t319).f2))) = w64 at n0_ n1_ n2_ n3_ n4_ n5_ ⊢
             have HO317 := n0_
             have BK310 := n1_
             have BK311 := n2_
             have BK318 := n3_
             have BK324 := n4_
             have HB := n5_
             clear n0_ n1_ n2_ n3_ n4_ n5_
             replace HO317 := Aside0.mk (Kd.R_drew HO317.out)
             replace BK310 := Aside0.mk (blk_drew BK310.out)
             replace BK311 := Aside0.mk (blk_drew BK311.out)
             replace BK318 := Aside0.mk (blk_drew BK318.out)
             replace BK324 := Aside0.mk (blk_drew BK324.out)
             replace HB := Aside0.mk (below_drew1 HB.out)
             have p46 : 0 ≤ (t319 : Int) := of_decide_eq_true (by first | (with_reducible assumption) | assumption)
             have q46 : (t319 : Int) < ((t315.length : Int) : Int) := of_decide_eq_true (by first | (with_reducible assumption) | assumption)
             obtain ⟨go46, co46, eo46, gb46, gl46, cl46, HG46⟩ := Kd.R_form HO317.out (by omega)
             (first | cases eo46 | (injection eo46 with ea_ en_ ec_; (first | subst ea_ | (injection ea_ with ea_; subst ea_)); subst ec_; clear en_))
             have GB46 := Aside0.mk gb46
             have GG46 := Aside0.mk HG46
             clear gb46 gl46 HG46
             obtain ⟨ce46, hcl46, hM46, hcc46, hfr46⟩ := Kd.R_elem HO317.out z134 (t319 : Int) p46 q46
             obtain rfl := k134_openM hM46
             have hx46_0 : World.cell? _ ⟨go46, (t319 : Int).toNat * 3, none⟩ = some (.int .i64 ((rd_T134 t315 t319).f0)) := hcc46 0 _ rfl
             have hx46_1 : World.cell? _ ⟨go46, (t319 : Int).toNat * 3 + 1, none⟩ = some (.string ((rd_T134 t315 t319).f1)) := hcc46 1 _ rfl
             have hx46_2 : World.cell? _ ⟨go46, (t319 : Int).toNat * 3 + 2, none⟩ = some (.string ((rd_T134 t315 t319).f2)) := hcc46 2 _ rfl
             have hf46_0 : World.frozen? _ ⟨go46, (t319 : Int).toNat * 3, none⟩ = false := hfr46 0
             have hf46_1 : World.frozen? _ ⟨go46, (t319 : Int).toNat * 3 + 1, none⟩ = false := hfr46 1
             have hf46_2 : World.frozen? _ ⟨go46, (t319 : Int).toNat * 3 + 2, none⟩ = false := hfr46 2
             clear hcl46 hcc46 hfr46 hM46
             replace p46 := eq_true p46
             replace q46 := eq_true q46
             obtain ⟨ce66, hcl66, hM66, hcc66, hfr66⟩ := Kd.R_elem HO317.out z134 (t319 : Int) (of_decide_eq_true (by first | (with_reducible assumption) | assumption)) (by have h_ : (t319 : Int) < ((t315.length : Int) : Int) := of_decide_eq_true (by first | (with_reducible assumption) | assumption); first | exact h_ | (have e_ := (Kd.R_reads' HO317.out).1; omega) | simpa using h_)
             obtain rfl := k134_openM hM66
             have HP66 := (Kd.R_seg HO317.out (t319 : Int) (of_decide_eq_true (by first | (with_reducible assumption) | assumption)) (by have h_ : (t319 : Int) < ((t315.length : Int) : Int) := of_decide_eq_true (by first | (with_reducible assumption) | assumption); first | exact h_ | (have e_ := (Kd.R_reads' HO317.out).1; omega) | simpa using h_) (seg := [.int .i64 a1, .string (((rd_T134 l0_1 t319).f1).extract 0 ((ji39) : Int).toNat), .string (((rd_T134 l0_1 t319).f2).extract 0 ((ji42) : Int).toNat)]) (j := 0) hcl66 hcc66 (show 3 ≤ 3 from by decide) (x' := (⟨a1, ((rd_T134 l0_1 t319).f1).extract 0 ((ji39) : Int).toNat, ((rd_T134 l0_1 t319).f2).extract 0 ((ji42) : Int).toNat⟩ : S134)) (k134_mkM _ _ _ (⟨a1, ((rd_T134 l0_1 t319).f1).extract 0 ((ji39) : Int).toNat, ((rd_T134 l0_1 t319).f2).extract 0 ((ji42) : Int).toNat⟩ : S134) ) (fun _ hk => hk)).1
             rw [← Ny325.out] at HP66
             have HQ66 := Aside0.mk HP66
             clear hcl66 hcc66 hfr66 hM66 HP66
             refine start_ (n := 17) (S := fun w' => w'.cell? ⟨gb318, 0, none⟩ = some (.int .i64 t314) ∧ w'.cell? ⟨gb318, 1, none⟩ = some (.slice (some ⟨go46, 0, none⟩) t315.length co54) ∧ w'.cell? ⟨gb324, 0, none⟩ = some (.int .i64 ((rd_T134 l0_1 t319).f0)) ∧ w'.cell? ⟨gb324, 1, none⟩ = some (.string ((rd_T134 l0_1 t319).f1)) ∧ w'.cell? ⟨gb324, 2, none⟩ = some (.string ((rd_T134 l0_1 t319).f2))) (ds := [16]) #[false, false, false, false, false, false, false, false, false, false, false, false, false, false, false, false, false] (by kernel_rfl) rfl rfl ⟨(blk_cell BK318.out 0).trans rfl, (blk_cell BK318.out 1).trans rfl, (blk_cell BK324.out 0).trans rfl, (blk_cell BK324.out 1).trans rfl, (blk_cell BK324.out 2).trans rfl⟩ (fun hHeld => ?_); refine with_tabW impl_DiskCut.tab9 impl_DiskCut.bits9 (fun HT_ HW_ => ?_)
             generalize w64.drew = w65 at HO317 BK310 BK311 BK318 BK324 HB GG46 HQ66 hf46_0 hf46_1 hf46_2 hx46_0 hx46_1 hx46_2 hHeld ⊢
             refine pv_ 0 59 (h := ?_)
             refine pv_ 2 61 (h := ?_)
             refine pv_ 3 62 (h := ?_)
             refine pv_ 4 63 (h := ?_)
             refine pv_ 6 65 (h := ?_)
             refine pv_ 8 67 (h := ?_)
             refine pv_ 10 69 (h := ?_)
             refine pv_ 11 70 (h := ?_)
             refine pv_ 12 71 (h := ?_)
             refine tk_ 1 60 (h := ?_)
             refine tk_ 5 64 (h := ?_)
             refine pv_ 7 66 (h := ?_)
             refine tk_ 9 68 (h := ?_)
             refine pv_ 13 72 (h := ?_)
             refine pv_ 14 73 (h := ?_)
             refine pv_ 15 74 (h := ?_)
             refine last_ (i := 16) (N := none) #[true, true, true, true, true, true, true, true, true, true, true, true, true, true, true, true, true] rfl rfl (one_of HT_.out (by kernel_rfl)) (by decide) (fun K hK => ?_)
             refine skip_ (w1 := ?_) (by rfl) rfl ?_ ?_
             rotate_left
             ·go_simp
              rfl
             refine hK.out _ _ ?_
             clear hK K
             refine done_ (done_of HT_.out (by kernel_rfl)) ?_
             have n0_ : Aside0 (Kd.R k134 134 (((w65.setCell ⟨go46, (t319 : Int).toNat * 3, none⟩ (.int .i64 a1)).setCell ⟨go46, (t319 : Int).toNat * 3 + 1, none⟩ (.string (((rd_T134 l0_1 t319).f1).extract 0 ((ji39) : Int).toNat))).setCell ⟨go46, (t319 : Int).toNat * 3 + 2, none⟩ (.string (((rd_T134 l0_1 t319).f2).extract 0 ((ji42) : Int).toNat))) w.heap.size (fun k_ => k_ ≠ gb324) (.slice (some ⟨go46, 0, none⟩) t315.length co54) y325) := ⟨by (with_reducible repeat (first | apply Kd.R_alloc | apply Kd.R_drewN | apply Kd.R_drew)); exact HQ66.out⟩
             have n1_ : Aside0 ((((w65.setCell ⟨go46, (t319 : Int).toNat * 3, none⟩ (.int .i64 a1)).setCell ⟨go46, (t319 : Int).toNat * 3 + 1, none⟩ (.string (((rd_T134 l0_1 t319).f1).extract 0 ((ji39) : Int).toNat))).setCell ⟨go46, (t319 : Int).toNat * 3 + 2, none⟩ (.string (((rd_T134 l0_1 t319).f2).extract 0 ((ji42) : Int).toNat))).heap[gb310]? = some (.cells #[.int .i64 a0_0, .slice (some ad320) l0_1.length c0_1] 70 (0, 0))) := ⟨by (with_reducible repeat (first | refine blk_drewN ?_ _ | refine blk_drew ?_ | refine blk_alloc ?_ _)); refine blk_far ?_ (by have h_ := Kd.R_ne HO317.out BK310.out (by decide); intro e_; exact h_ (by rw [e_]; rfl)) _; (with_reducible repeat (first | refine blk_drewN ?_ _ | refine blk_drew ?_ | refine blk_alloc ?_ _)); refine blk_far ?_ (by have h_ := Kd.R_ne HO317.out BK310.out (by decide); intro e_; exact h_ (by rw [e_]; rfl)) _; (with_reducible repeat (first | refine blk_drewN ?_ _ | refine blk_drew ?_ | refine blk_alloc ?_ _)); refine blk_far ?_ (by have h_ := Kd.R_ne HO317.out BK310.out (by decide); intro e_; exact h_ (by rw [e_]; rfl)) _; (with_reducible repeat (first | refine blk_drewN ?_ _ | refine blk_drew ?_ | refine blk_alloc ?_ _)); exact BK310.out⟩
             have n2_ : Aside0 ((((w65.setCell ⟨go46, (t319 : Int).toNat * 3, none⟩ (.int .i64 a1)).setCell ⟨go46, (t319 : Int).toNat * 3 + 1, none⟩ (.string (((rd_T134 l0_1 t319).f1).extract 0 ((ji39) : Int).toNat))).setCell ⟨go46, (t319 : Int).toNat * 3 + 2, none⟩ (.string (((rd_T134 l0_1 t319).f2).extract 0 ((ji42) : Int).toNat))).heap[gb311]? = some (.cells #[.int .i64 0, .slice none 0 0] 70 (0, 0))) := ⟨by (with_reducible repeat (first | refine blk_drewN ?_ _ | refine blk_drew ?_ | refine blk_alloc ?_ _)); refine blk_far ?_ (by have h_ := Kd.R_ne HO317.out BK311.out (by decide); intro e_; exact h_ (by rw [e_]; rfl)) _; (with_reducible repeat (first | refine blk_drewN ?_ _ | refine blk_drew ?_ | refine blk_alloc ?_ _)); refine blk_far ?_ (by have h_ := Kd.R_ne HO317.out BK311.out (by decide); intro e_; exact h_ (by rw [e_]; rfl)) _; (with_reducible repeat (first | refine blk_drewN ?_ _ | refine blk_drew ?_ | refine blk_alloc ?_ _)); refine blk_far ?_ (by have h_ := Kd.R_ne HO317.out BK311.out (by decide); intro e_; exact h_ (by rw [e_]; rfl)) _; (with_reducible repeat (first | refine blk_drewN ?_ _ | refine blk_drew ?_ | refine blk_alloc ?_ _)); exact BK311.out⟩
             have n3_ : Aside0 ((((w65.setCell ⟨go46, (t319 : Int).toNat * 3, none⟩ (.int .i64 a1)).setCell ⟨go46, (t319 : Int).toNat * 3 + 1, none⟩ (.string (((rd_T134 l0_1 t319).f1).extract 0 ((ji39) : Int).toNat))).setCell ⟨go46, (t319 : Int).toNat * 3 + 2, none⟩ (.string (((rd_T134 l0_1 t319).f2).extract 0 ((ji42) : Int).toNat))).heap[gb318]? = some (.cells #[.int .i64 t314, .slice (some ⟨go46, 0, none⟩) t315.length co54] 70 (0, 0))) := ⟨by (with_reducible repeat (first | refine blk_drewN ?_ _ | refine blk_drew ?_ | refine blk_alloc ?_ _)); refine blk_far ?_ (by have h_ := Kd.R_ne HO317.out BK318.out (by decide); intro e_; exact h_ (by rw [e_]; rfl)) _; (with_reducible repeat (first | refine blk_drewN ?_ _ | refine blk_drew ?_ | refine blk_alloc ?_ _)); refine blk_far ?_ (by have h_ := Kd.R_ne HO317.out BK318.out (by decide); intro e_; exact h_ (by rw [e_]; rfl)) _; (with_reducible repeat (first | refine blk_drewN ?_ _ | refine blk_drew ?_ | refine blk_alloc ?_ _)); refine blk_far ?_ (by have h_ := Kd.R_ne HO317.out BK318.out (by decide); intro e_; exact h_ (by rw [e_]; rfl)) _; (with_reducible repeat (first | refine blk_drewN ?_ _ | refine blk_drew ?_ | refine blk_alloc ?_ _)); exact BK318.out⟩
             have n4_ : Aside0 ((((w65.setCell ⟨go46, (t319 : Int).toNat * 3, none⟩ (.int .i64 a1)).setCell ⟨go46, (t319 : Int).toNat * 3 + 1, none⟩ (.string (((rd_T134 l0_1 t319).f1).extract 0 ((ji39) : Int).toNat))).setCell ⟨go46, (t319 : Int).toNat * 3 + 2, none⟩ (.string (((rd_T134 l0_1 t319).f2).extract 0 ((ji42) : Int).toNat))).heap[gb324]? = some (.cells #[.int .i64 ((rd_T134 l0_1 t319).f0), .string ((rd_T134 l0_1 t319).f1), .string ((rd_T134 l0_1 t319).f2)] 134 (0, 0))) := ⟨by (with_reducible repeat (first | refine blk_drewN ?_ _ | refine blk_drew ?_ | refine blk_alloc ?_ _)); refine blk_far ?_ (by have h_ := Kd.R_away HO317.out (fun _ hk => hk); intro e_; exact h_ (by rw [e_]; rfl)) _; (with_reducible repeat (first | refine blk_drewN ?_ _ | refine blk_drew ?_ | refine blk_alloc ?_ _)); refine blk_far ?_ (by have h_ := Kd.R_away HO317.out (fun _ hk => hk); intro e_; exact h_ (by rw [e_]; rfl)) _; (with_reducible repeat (first | refine blk_drewN ?_ _ | refine blk_drew ?_ | refine blk_alloc ?_ _)); refine blk_far ?_ (by have h_ := Kd.R_away HO317.out (fun _ hk => hk); intro e_; exact h_ (by rw [e_]; rfl)) _; (with_reducible repeat (first | refine blk_drewN ?_ _ | refine blk_drew ?_ | refine blk_alloc ?_ _)); exact BK324.out⟩
             have n5_ : Aside0 (Below w.heap.size w (((w65.setCell ⟨go46, (t319 : Int).toNat * 3, none⟩ (.int .i64 a1)).setCell ⟨go46, (t319 : Int).toNat * 3 + 1, none⟩ (.string (((rd_T134 l0_1 t319).f1).extract 0 ((ji39) : Int).toNat))).setCell ⟨go46, (t319 : Int).toNat * 3 + 2, none⟩ (.string (((rd_T134 l0_1 t319).f2).extract 0 ((ji42) : Int).toNat)))) := ⟨by repeat (first | (with_reducible first | exact HB.out | apply below_alloc | apply pw_below_drewN | apply below_drew1 | refine below_set ?_ GB46.out | refine below_set ?_ GB46.out | refine below_set ?_ GB46.out | refine below_set ?_ GE310.out | refine below_set ?_ GE311.out | refine below_set ?_ GE318.out | refine below_set ?_ GE324.out) | exact HB.out)⟩
             (try clear HO317); (try clear BK310); (try clear BK311); (try clear BK318); (try clear BK324); (try clear HB)
             generalize (((w65.setCell ⟨go46, (t319 : Int).toNat * 3, none⟩ (.int .i64 a1)).setCell ⟨go46, (t319 : Int).toNat * 3 + 1, none⟩ (.string (((rd_T134 l0_1 t319).f1).extract 0 ((ji39) : Int).toNat))).setCell ⟨go46, (t319 : Int).toNat * 3 + 2, none⟩ (.string (((rd_T134 l0_1 t319).f2).extract 0 ((ji42) : Int).toNat))) = w67 at n0_ n1_ n2_ n3_ n4_ n5_ ⊢
             have HO317 := n0_
             have BK310 := n1_
             have BK311 := n2_
             have BK318 := n3_
             have BK324 := n4_
             have HB := n5_
             clear n0_ n1_ n2_ n3_ n4_ n5_
             have hcz68_0 : w67.cell? ⟨gb318, 0, none⟩ = some (.int .i64 t314) := (blk_cell BK318.out 0).trans rfl
             have hcz68_1 : w67.cell? ⟨gb318, 1, none⟩ = some (.slice (some ⟨go46, 0, none⟩) t315.length co54) := (blk_cell BK318.out 1).trans rfl
             have hfz68_0 := blk_frozen BK318.out 0
             have hfz68_1 := blk_frozen BK318.out 1
             have hcz69_0 : w67.cell? ⟨gb311, 0, none⟩ = some (.int .i64 0) := (blk_cell BK311.out 0).trans rfl
             have hcz69_1 : w67.cell? ⟨gb311, 1, none⟩ = some (.slice none 0 0) := (blk_cell BK311.out 1).trans rfl
             have hfz69_0 := blk_frozen BK311.out 0
             have hfz69_1 := blk_frozen BK311.out 1
             try go_wp2
             refine bodyPost_ret (results_ct rfl _ _ gb311 70 #[.int .i64 t314, .slice (some ⟨go46, 0, none⟩) t315.length co54] (0, 0) _ rfl (by (with_reducible repeat (first | refine blk_drewN ?_ _ | refine blk_drew ?_ | refine blk_alloc ?_ _)); refine blk_put (cs := #[.int .i64 t314, .slice none 0 0]) ?_ 1 _ rfl; (with_reducible repeat (first | refine blk_drewN ?_ _ | refine blk_drew ?_ | refine blk_alloc ?_ _)); refine blk_put (cs := #[.int .i64 0, .slice none 0 0]) ?_ 0 _ rfl; (with_reducible repeat (first | refine blk_drewN ?_ _ | refine blk_drew ?_ | refine blk_alloc ?_ _)); exact BK311.out) Try.underlying70 rfl (by kernel_rfl)) rfl ?_
             exact ⟨_, by first | rfl | (simp [errW_none, errW_some] <;> rfl) | (simp only [← hji39, ← hji42]; first | rfl | (simp [errW_none, errW_some] <;> rfl)) | (simp [*, errW_none, errW_some] <;> rfl), by (with_reducible repeat (first | apply Kd.R_alloc | apply Kd.R_drewN | apply Kd.R_drew)); exact Kd.R_mono (Kd.R_far (p := ⟨gb311, 1, none⟩) (Kd.R_far (p := ⟨gb311, 0, none⟩) (Kd.R_types HO317.out BK311.out (by decide)) (fun _ hk => hk.2) (.int .i64 t314)) (fun _ hk => hk.2) (.slice (some ⟨go46, 0, none⟩) t315.length co54)) (fun _ hk => trivial), xbg⟩
            ·rw [if_neg c45] at H
             exact absurd H (by simp)
           ·rw [if_neg c44] at H
            exact absurd H (by simp)
          ·rw [if_neg c43] at H
           exact absurd H (by simp)
         ·rw [if_neg c41] at H
          exact absurd H (by simp)
        ·rw [if_neg c40] at H
         exact absurd H (by simp)
       ·replace c38 := Bool.eq_false_iff.mpr c38
        subst c38
        have H1 : (some (t314, t315, 2)) = some (r1, r2, r3) := by rw [if_neg (show ¬ (false = true) by decide)] at H; exact H
        clear H
        have H := H1
        clear H1
        simp only [Option.some.injEq, Prod.mk.injEq] at H
        obtain ⟨rfl, rfl, rfl⟩ := H
        have hnb70 := NB310_311.out
        have hnc70 := NB311_310.out
        have hcz71_0 : wc.cell? ⟨gb310, 0, none⟩ = some (.int .i64 a0_0) := (blk_cell BK310.out 0).trans rfl
        have hcz71_1 : wc.cell? ⟨gb310, 1, none⟩ = some (.slice A0_1 l0_1.length c0_1) := (blk_cell BK310.out 1).trans rfl
        have hfz71_0 := blk_frozen BK310.out 0
        have hfz71_1 := blk_frozen BK310.out 1
        try go_wp2_with (first | ((with_reducible refine gate_callee (f := 115) rfl ?_); refine goesL_ (some 22) rfl rfl Try.func115 (by kernel_rfl) rfl #[.agg #[.int .i64 a0_0, .slice A0_1 l0_1.length c0_1]] rfl (by (try simp only [List.map_toArray, List.map_cons, List.map_nil]); first | done | rfl | (simp only [List.length_drop, List.length_take]; rfl)) ?_; (with_reducible refine (impl_copyDisk.calls a0_0 _ _ l0_1 t314 t315 _ ?side1 ?side2 A19.out).mono ?_); (case side1 => exact xcb HR0_1); (case side2 => exact HC0_1.out); rintro e w72 ⟨v316, rfl, ho0, hb⟩; refine ⟨_, rfl, ?_⟩; have HO317 := Aside0.mk (Kd.R_lower ho0 (below_size xbg)); replace BK310 := xbb BK310 hb; replace BK311 := xbb BK311 hb; replace HB := xbs hb; (try clear hb); (try clear hb2); (try clear hk); (try clear hi); (try clear ho0)) | ((with_reducible refine gate_dst (N := 8) rfl ?_); (try (refine gate_guard (by rfl) ?_; dsimp only)); refine box_event ?hg (N := 8) ?hd (cs := #[.int .i64 0, .slice none 0 0]) (t := 70) ?hr ?_; (case hd => rfl); (case hg => rfl); (case hr => first | (go_simp; done) | (go_simp; rfl)); intro gb318 hg w73 hbox hb; replace HO317 := Aside0.mk (Kd.R_below (by (with_reducible repeat (first | apply Kd.R_alloc | apply Kd.R_drewN | apply Kd.R_drew)); exact HO317.out) hb); have GW318 := Aside0.mk (xge hg); have GE318 := Aside0.mk (xge hg); replace HB := xbs hb; have NB310_318 := Aside0.mk ((by rw [hg]; exact Nat.ne_of_lt (blk_lt (g := gb310) (o := .cells #[.int .i64 a0_0, .slice A0_1 l0_1.length c0_1] 70 (0, 0)) xblk) : gb310 ≠ gb318)); have NB318_310 := Aside0.mk ((by rw [hg]; exact Nat.ne_of_gt (blk_lt (g := gb310) (o := .cells #[.int .i64 a0_0, .slice A0_1 l0_1.length c0_1] 70 (0, 0)) xblk) : gb318 ≠ gb310)); have NB311_318 := Aside0.mk ((by rw [hg]; exact Nat.ne_of_lt (blk_lt (g := gb311) (o := .cells #[.int .i64 0, .slice none 0 0] 70 (0, 0)) xblk) : gb311 ≠ gb318)); have NB318_311 := Aside0.mk ((by rw [hg]; exact Nat.ne_of_gt (blk_lt (g := gb311) (o := .cells #[.int .i64 0, .slice none 0 0] 70 (0, 0)) xblk) : gb318 ≠ gb311)); replace BK310 := xbb BK310 hb; replace BK311 := xbb BK311 hb; have BK318 := Aside0.mk (hbox); clear hb hbox hg; have hnb74 := NB318_310.out; have hnc74 := NB310_318.out; have hnb75 := NB318_311.out; have hnc75 := NB311_318.out; have hcz76_0 : w73.cell? ⟨gb318, 0, none⟩ = some (.int .i64 0) := (blk_cell BK318.out 0).trans rfl; have hcz76_1 : w73.cell? ⟨gb318, 1, none⟩ = some (.slice none 0 0) := (blk_cell BK318.out 1).trans rfl; have hfz76_0 := blk_frozen BK318.out 0; have hfz76_1 := blk_frozen BK318.out 1; obtain ⟨Ao77, co77, eo77⟩ := Kd.R_slice HO317.out; subst eo77; have hcz78_0 : w73.cell? ⟨gb310, 0, none⟩ = some (.int .i64 a0_0) := (blk_cell BK310.out 0).trans rfl; have hcz78_1 : w73.cell? ⟨gb310, 1, none⟩ = some (.slice A0_1 l0_1.length c0_1) := (blk_cell BK310.out 1).trans rfl; have hfz78_0 := blk_frozen BK310.out 0; have hfz78_1 := blk_frozen BK310.out 1) | ((with_reducible refine gate_callee (f := 116) rfl ?_); refine goesL_ (some 25) rfl rfl Try.func116 (by kernel_rfl) rfl #[.agg #[.int .i64 a0_0, .slice A0_1 l0_1.length c0_1], .int .i64 a1] rfl (by (try simp only [List.map_toArray, List.map_cons, List.map_nil]); first | done | rfl | (simp only [List.length_drop, List.length_take]; rfl)) ?_; (with_reducible refine (impl_fileAt.calls a0_0 _ _ l0_1 a1 t319 _ ?side1 ?side2 A20.out).mono ?_); (case side1 => exact Kd.C_below HR0_1.out xbg); (case side2 => exact HC0_1.out); rintro e w79 ⟨rfl, hb⟩; refine ⟨_, rfl, ?_⟩; replace HO317 := Aside0.mk (Kd.R_below (by (with_reducible repeat (first | apply Kd.R_alloc | apply Kd.R_drewN | apply Kd.R_drew)); exact (Kd.R_mono (Kd.R_far (p := ⟨gb318, 1, none⟩) (Kd.R_far (p := ⟨gb318, 0, none⟩) (Kd.R_types HO317.out BK318.out (by decide)) (fun _ hk => hk.2) (.int .i64 t314)) (fun _ hk => hk.2) (.slice Ao77 t315.length co77)) (fun _ h_ => h_.1))) hb); replace BK310 := Aside0.mk (blk_below (g := gb310) (o := .cells #[.int .i64 a0_0, .slice A0_1 l0_1.length c0_1] 70 (0, 0)) (by (with_reducible repeat (first | refine blk_drewN ?_ _ | refine blk_drew ?_ | refine blk_alloc ?_ _)); refine blk_far ?_ NB310_318.out _; (with_reducible repeat (first | refine blk_drewN ?_ _ | refine blk_drew ?_ | refine blk_alloc ?_ _)); refine blk_far ?_ NB310_318.out _; (with_reducible repeat (first | refine blk_drewN ?_ _ | refine blk_drew ?_ | refine blk_alloc ?_ _)); exact BK310.out) hb); replace BK311 := Aside0.mk (blk_below (g := gb311) (o := .cells #[.int .i64 0, .slice none 0 0] 70 (0, 0)) (by (with_reducible repeat (first | refine blk_drewN ?_ _ | refine blk_drew ?_ | refine blk_alloc ?_ _)); refine blk_far ?_ NB311_318.out _; (with_reducible repeat (first | refine blk_drewN ?_ _ | refine blk_drew ?_ | refine blk_alloc ?_ _)); refine blk_far ?_ NB311_318.out _; (with_reducible repeat (first | refine blk_drewN ?_ _ | refine blk_drew ?_ | refine blk_alloc ?_ _)); exact BK311.out) hb); replace BK318 := Aside0.mk (blk_below (g := gb318) (o := .cells #[.int .i64 t314, .slice Ao77 t315.length co77] 70 (0, 0)) (by (with_reducible repeat (first | refine blk_drewN ?_ _ | refine blk_drew ?_ | refine blk_alloc ?_ _)); refine blk_put (cs := #[.int .i64 t314, .slice none 0 0]) ?_ 1 _ rfl; (with_reducible repeat (first | refine blk_drewN ?_ _ | refine blk_drew ?_ | refine blk_alloc ?_ _)); refine blk_put (cs := #[.int .i64 0, .slice none 0 0]) ?_ 0 _ rfl; (with_reducible repeat (first | refine blk_drewN ?_ _ | refine blk_drew ?_ | refine blk_alloc ?_ _)); exact BK318.out) hb); replace HB := xbs hb; (try clear hb); (try clear hb2); (try clear hk); (try clear hi)))
        replace HO317 := Aside0.mk (Kd.R_drew HO317.out)
        replace BK310 := Aside0.mk (blk_drew BK310.out)
        replace BK311 := Aside0.mk (blk_drew BK311.out)
        replace BK318 := Aside0.mk (blk_drew BK318.out)
        replace HB := Aside0.mk (below_drew1 HB.out)
        have p320 : 0 ≤ (t319 : Int) := of_decide_eq_true (by first | (with_reducible assumption) | assumption)
        have q320 : t319 < (l0_1.length : Int) := of_decide_eq_true (by first | (with_reducible assumption) | assumption)
        obtain ⟨ad320, e320, hx320_0, hx320_1, hx320_2⟩ := at_T134 HR0_1.out t319 p320 q320
        have hw320_2 := hx320_2
        have hw320_1 := hx320_1
        have hw320_0 := hx320_0
        cases e320
        replace hx320_0 := xce HB hx320_0
        replace hx320_1 := xce HB hx320_1
        replace hx320_2 := xce HB hx320_2
        replace p320 := eq_true p320
        replace q320 := eq_true q320
        have p321 : 0 ≤ (t319 : Int) := of_decide_eq_true (by first | (with_reducible assumption) | assumption)
        have q321 : t319 < (l0_1.length : Int) := of_decide_eq_true (by first | (with_reducible assumption) | assumption)
        obtain ⟨ad321, e321, hx321_0, hx321_1, hx321_2⟩ := at_T134 HR0_1.out t319 p321 q321
        have hw321_2 := hx321_2
        have hw321_1 := hx321_1
        have hw321_0 := hx321_0
        obtain rfl : ad320 = ad321 := (by injection e321)
        replace hx321_0 := xce HB hx321_0
        replace hx321_1 := xce HB hx321_1
        replace hx321_2 := xce HB hx321_2
        replace p321 := eq_true p321
        replace q321 := eq_true q321
        refine start_ (n := 22) (S := fun w' => w'.cell? ⟨gb310, 0, none⟩ = some (.int .i64 a0_0) ∧ w'.cell? ⟨gb310, 1, none⟩ = some (.slice (some ad320) l0_1.length c0_1) ∧ w'.cell? (ad320.add ((t319).toNat * 3)) = some (.int .i64 ((rd_T134 l0_1 t319).f0)) ∧ w'.cell? ⟨(ad320.add ((t319).toNat * 3)).block, (ad320.add ((t319).toNat * 3)).off + 1, none⟩ = some (.string ((rd_T134 l0_1 t319).f1)) ∧ w'.cell? ⟨(ad320.add ((t319).toNat * 3)).block, (ad320.add ((t319).toNat * 3)).off + 2, none⟩ = some (.string ((rd_T134 l0_1 t319).f2)) ∧ w'.cell? (ad320.add ((t319).toNat * 3)) = some (.int .i64 ((rd_T134 l0_1 t319).f0)) ∧ w'.cell? ⟨(ad320.add ((t319).toNat * 3)).block, (ad320.add ((t319).toNat * 3)).off + 1, none⟩ = some (.string ((rd_T134 l0_1 t319).f1)) ∧ w'.cell? ⟨(ad320.add ((t319).toNat * 3)).block, (ad320.add ((t319).toNat * 3)).off + 2, none⟩ = some (.string ((rd_T134 l0_1 t319).f2))) (ds := []) #[false, false, false, false, false, false, false, false, false, false, false, false, false, false, false, false, false, false, false, false, false, false] (by kernel_rfl) rfl rfl ⟨(blk_cell BK310.out 0).trans rfl, (blk_cell BK310.out 1).trans rfl, (xce HB hw320_0), (xce HB hw320_1), (xce HB hw320_2), (xce HB hw321_0), (xce HB hw321_1), (xce HB hw321_2)⟩ (fun hHeld => ?_); refine with_tabW impl_DiskCut.tab5 impl_DiskCut.bits5 (fun HT_ HW_ => ?_)
        generalize w79.drew = w80 at HO317 BK310 BK311 BK318 HB hx320_0 hx320_1 hx320_2 hx321_0 hx321_1 hx321_2 hHeld ⊢
        refine pv_ 0 26 (h := ?_)
        refine pv_ 1 27 (h := ?_)
        refine pv_ 2 28 (h := ?_)
        refine pv_ 3 29 (h := ?_)
        refine pv_ 4 30 (h := ?_)
        refine pv_ 6 32 (h := ?_)
        refine pv_ 11 37 (h := ?_)
        refine pv_ 13 39 (h := ?_)
        refine tk_ 5 31 (h := ?_)
        refine pv_ 7 33 (h := ?_)
        refine pv_ 8 34 (h := ?_)
        refine tk_ 9 35 (h := ?_)
        refine pv_ 10 36 (h := ?_)
        refine tk_ 12 38 (h := ?_)
        refine pv_ 14 40 (h := ?_)
        refine pv_ 15 41 (h := ?_)
        refine tk_ 16 42 (h := ?_)
        refine pv_ 17 43 (h := ?_)
        refine pv_ 18 44 (h := ?_)
        refine on_ 19 45 (h := fun K hK => ?_)
        refine goes_ Try.func81 (by kernel_rfl) rfl #[.int .i64 a2, .int .i64 0, .int .i64 (wrap64 ((((rd_T134 l0_1 t319).f1).size : Int) + (((rd_T134 l0_1 t319).f2).size : Int)))] (by rfl) rfl rfl (by (try simp only [List.map_toArray, List.map_cons, List.map_nil]); first | done | rfl | (simp only [List.length_drop, List.length_take]; rfl)) ?_
        with_reducible refine (impl_within.calls a2 0 (wrap64 ((((rd_T134 l0_1 t319).f1).size : Int) + (((rd_T134 l0_1 t319).f2).size : Int))) false _ A37.out).mono ?_
        rintro e w' ⟨rfl, ⟨nd, rfl⟩⟩
        refine ⟨_, rfl, ?_⟩
        refine hK.out _ _ ⟨(blk_cell BK310.out 0).trans rfl, (blk_cell BK310.out 1).trans rfl, (xce HB hw320_0), (xce HB hw320_1), (xce HB hw320_2), (xce HB hw321_0), (xce HB hw321_1), (xce HB hw321_2)⟩ (fun hHeld => ?_)
        clear hK K
        refine norm_ (a' := ?_) ?_ ?_
        rotate_left
        ·show Act.put _ (some 45) _ = _
         simp only [Act.put, List.setIfInBounds_toArray, List.set_cons_zero, List.set_cons_succ, i64_w, i32_w]
         rfl
        refine pv_ 20 46 (h := ?_)
        refine pv_ 21 47 (h := ?_)
        refine done_ (done_of HT_.out (by kernel_rfl)) ?_
        have hcz81_0 : w80.cell? ⟨gb318, 0, none⟩ = some (.int .i64 t314) := (blk_cell BK318.out 0).trans rfl
        have hcz81_1 : w80.cell? ⟨gb318, 1, none⟩ = some (.slice Ao77 t315.length co77) := (blk_cell BK318.out 1).trans rfl
        have hfz81_0 := blk_frozen BK318.out 0
        have hfz81_1 := blk_frozen BK318.out 1
        have hcz82_0 : w80.cell? ⟨gb311, 0, none⟩ = some (.int .i64 0) := (blk_cell BK311.out 0).trans rfl
        have hcz82_1 : w80.cell? ⟨gb311, 1, none⟩ = some (.slice none 0 0) := (blk_cell BK311.out 1).trans rfl
        have hfz82_0 := blk_frozen BK311.out 0
        have hfz82_1 := blk_frozen BK311.out 1
        try go_wp2
        refine bodyPost_ret (results_ct rfl _ _ gb311 70 #[.int .i64 t314, .slice Ao77 t315.length co77] (0, 0) _ rfl (by (with_reducible repeat (first | refine blk_drewN ?_ _ | refine blk_drew ?_ | refine blk_alloc ?_ _)); refine blk_put (cs := #[.int .i64 t314, .slice none 0 0]) ?_ 1 _ rfl; (with_reducible repeat (first | refine blk_drewN ?_ _ | refine blk_drew ?_ | refine blk_alloc ?_ _)); refine blk_put (cs := #[.int .i64 0, .slice none 0 0]) ?_ 0 _ rfl; (with_reducible repeat (first | refine blk_drewN ?_ _ | refine blk_drew ?_ | refine blk_alloc ?_ _)); exact BK311.out) Try.underlying70 rfl (by kernel_rfl)) rfl ?_
        exact ⟨_, by first | rfl | (simp [errW_none, errW_some] <;> rfl) | (simp [*, errW_none, errW_some] <;> rfl), by (with_reducible repeat (first | apply Kd.R_alloc | apply Kd.R_drewN | apply Kd.R_drew)); exact Kd.R_mono (Kd.R_far (p := ⟨gb311, 1, none⟩) (Kd.R_far (p := ⟨gb311, 0, none⟩) (Kd.R_types HO317.out BK311.out (by decide)) (fun _ hk => hk.2) (.int .i64 t314)) (fun _ hk => hk.2) (.slice Ao77 t315.length co77)) (fun _ hk => trivial), xbg⟩
      ·rw [if_neg c36] at H
       exact absurd H (by simp)
     ·rw [if_neg c35] at H
      exact absurd H (by simp)

/-! ### impl_DiskRead: function 49 -/
def impl_DiskRead.f (k : Nat) (a0_0 : Int) (l0_1 : List (S134)) (a1 : Int) : Option (ByteArray × Bool) := (impl_fileAt.f a0_0 l0_1 a1).bind fun t327 => ((impl_DiskOk.f k a0_0 l0_1).bind fun t328 => (if t328 = true then (if t327 < 0 then (some ((⟨#[]⟩ : ByteArray), false)) else (if 0 ≤ t327 then (if t327 < (l0_1.length : Int) then (if ((rd_T134 l0_1 t327).f1).size + ((rd_T134 l0_1 t327).f2).size ≤ 9223372036854775807 then (some (((rd_T134 l0_1 t327).f1) ++ ((rd_T134 l0_1 t327).f2), true)) else (none)) else (none)) else (none))) else (some ((⟨#[]⟩ : ByteArray), false))))
theorem impl_DiskRead.mono : ∀ a0 a1 a2 k, LeO (impl_DiskRead.f k a0 a1 a2) (impl_DiskRead.f (k + 1) a0 a1 a2) := by
 intro a0 a1 a2 k
 unfold impl_DiskRead.f
 repeat' first
  | (with_reducible exact impl_DiskOk.mono _ _ _)
  | (with_reducible exact LeO.refl _)
  | (with_reducible exact LeO.none _)
  | (with_reducible refine LeO.ite ?_ ?_)
  | (with_reducible refine LeO.bind ?_ (fun _ => ?_))
  | exact impl_DiskOk.mono _ _ _
  | exact LeO.none _
  | refine LeO.ite ?_ ?_
  | refine LeO.bind ?_ (fun _ => ?_)
set_option maxHeartbeats 8000000 in
set_option maxRecDepth 100000 in
theorem impl_DiskRead.calls (k : Nat) (a0_0 : Int) (A0_1 : Option Addr) (c0_1 : Nat) (l0_1 : List (S134)) (a1 : Int) (r1 : ByteArray) (r2 : Bool) (w : World) (hr0_1 : Kd.C k134 w A0_1 l0_1.length l0_1) (hc0_1 : l0_1.length ≤ c0_1) (h : impl_DiskRead.f k a0_0 l0_1 a1 = some (r1, r2)) :
 Calls Try.prog 49 #[.agg #[.int .i64 a0_0, .slice A0_1 l0_1.length c0_1], .int .i64 a1] w fun e w' => e = .returned (.tuple #[.string r1, .bool r2]) ∧ Below w.heap.size w w' := by
 have hu70 := Try.underlying70
 have HR0_1 := Aside0.mk hr0_1
 have HC0_1 := Aside0.mk hc0_1
 clear hr0_1 hc0_1
 have HB := Aside0.mk (Below.refl w.heap.size w)
 have H : ((impl_fileAt.f a0_0 l0_1 a1).bind fun t327 => ((impl_DiskOk.f k a0_0 l0_1).bind fun t328 => (if t328 = true then (if t327 < 0 then (some ((⟨#[]⟩ : ByteArray), false)) else (if 0 ≤ t327 then (if t327 < (l0_1.length : Int) then (if ((rd_T134 l0_1 t327).f1).size + ((rd_T134 l0_1 t327).f2).size ≤ 9223372036854775807 then (some (((rd_T134 l0_1 t327).f1) ++ ((rd_T134 l0_1 t327).f2), true)) else (none)) else (none)) else (none))) else (some ((⟨#[]⟩ : ByteArray), false))))) = some (r1, r2) := h
 clear h
 replace H := Option.bind_eq_some_iff.mp H
 obtain ⟨t327, A30, H⟩ := H
 replace H : ((impl_DiskOk.f k a0_0 l0_1).bind fun t328 => (if t328 = true then (if t327 < 0 then (some ((⟨#[]⟩ : ByteArray), false)) else (if 0 ≤ t327 then (if t327 < (l0_1.length : Int) then (if ((rd_T134 l0_1 t327).f1).size + ((rd_T134 l0_1 t327).f2).size ≤ 9223372036854775807 then (some (((rd_T134 l0_1 t327).f1) ++ ((rd_T134 l0_1 t327).f2), true)) else (none)) else (none)) else (none))) else (some ((⟨#[]⟩ : ByteArray), false)))) = some (r1, r2) := H
 have A3 := Aside0.mk A30
 clear A30
 replace H := Option.bind_eq_some_iff.mp H
 obtain ⟨t328, A40, H⟩ := H
 replace H : (if t328 = true then (if t327 < 0 then (some ((⟨#[]⟩ : ByteArray), false)) else (if 0 ≤ t327 then (if t327 < (l0_1.length : Int) then (if ((rd_T134 l0_1 t327).f1).size + ((rd_T134 l0_1 t327).f2).size ≤ 9223372036854775807 then (some (((rd_T134 l0_1 t327).f1) ++ ((rd_T134 l0_1 t327).f2), true)) else (none)) else (none)) else (none))) else (some ((⟨#[]⟩ : ByteArray), false))) = some (r1, r2) := H
 have A4 := Aside0.mk A40
 clear A40
 by_cases c5 : t328 = true
 ·subst c5
  have H1 : (if t327 < 0 then (some ((⟨#[]⟩ : ByteArray), false)) else (if 0 ≤ t327 then (if t327 < (l0_1.length : Int) then (if ((rd_T134 l0_1 t327).f1).size + ((rd_T134 l0_1 t327).f2).size ≤ 9223372036854775807 then (some (((rd_T134 l0_1 t327).f1) ++ ((rd_T134 l0_1 t327).f2), true)) else (none)) else (none)) else (none))) = some (r1, r2) := by rw [if_pos rfl] at H; exact H
  clear H
  have H := H1
  clear H1
  by_cases c6 : t327 < 0
  ·rw [if_pos c6] at H
   have c6b0 : decide (t327 < 0) = true := decide_eq_true c6
   clear c6
   simp only [Option.some.injEq, Prod.mk.injEq] at H
   obtain ⟨rfl, rfl⟩ := H
   go_enter Try.func49, Try.ntmps49
   go_wp2_with (first | ((with_reducible refine gate_dst (N := 2) rfl ?_); refine box_event ?hg (N := 2) ?hd (cs := #[.int .i64 a0_0, .slice A0_1 l0_1.length c0_1]) (t := 70) ?hr ?_; (case hd => rfl); (case hg => rfl); (case hr => first | (go_simp; done) | (go_simp; rfl)); intro gb326 hg w7 hbox hb; have BK326 := Aside0.mk (hbox); have GW326 := Aside0.mk (xge hg); have GE326 := Aside0.mk (xge hg); replace HB := xbs hb; clear hb hbox hg; have hcz8_0 : w7.cell? ⟨gb326, 0, none⟩ = some (.int .i64 a0_0) := (blk_cell BK326.out 0).trans rfl; have hcz8_1 : w7.cell? ⟨gb326, 1, none⟩ = some (.slice A0_1 l0_1.length c0_1) := (blk_cell BK326.out 1).trans rfl; have hfz8_0 := blk_frozen BK326.out 0; have hfz8_1 := blk_frozen BK326.out 1) | (go_at_call 116; (with_reducible refine (impl_fileAt.calls a0_0 _ _ l0_1 a1 t327 _ ?side1 ?side2 A3.out).mono ?_); (case side1 => exact xcb HR0_1); (case side2 => exact HC0_1.out); rintro e w9 ⟨rfl, hb⟩; replace BK326 := xbb BK326 hb; replace HB := xbs hb; (try clear hb); (try clear hb2); (try clear hk); (try clear hi); have hcz10_0 : w9.cell? ⟨gb326, 0, none⟩ = some (.int .i64 a0_0) := (blk_cell BK326.out 0).trans rfl; have hcz10_1 : w9.cell? ⟨gb326, 1, none⟩ = some (.slice A0_1 l0_1.length c0_1) := (blk_cell BK326.out 1).trans rfl; have hfz10_0 := blk_frozen BK326.out 0; have hfz10_1 := blk_frozen BK326.out 1) | (go_at_call 52; (with_reducible refine (impl_DiskOk.calls k a0_0 _ _ l0_1 true _ ?side1 ?side2 A4.out).mono ?_); (case side1 => exact xcb HR0_1); (case side2 => exact HC0_1.out); rintro e w11 ⟨rfl, hb⟩; replace BK326 := xbb BK326 hb; replace HB := xbs hb; (try clear hb); (try clear hb2); (try clear hk); (try clear hi)))
   repeat (go_quiet (first | ((with_reducible refine gate_dst (N := 2) rfl ?_); refine box_event ?hg (N := 2) ?hd (cs := #[.int .i64 a0_0, .slice A0_1 l0_1.length c0_1]) (t := 70) ?hr ?_; (case hd => rfl); (case hg => rfl); (case hr => first | (go_simp; done) | (go_simp; rfl)); intro gb326 hg w7 hbox hb; have BK326 := Aside0.mk (hbox); have GW326 := Aside0.mk (xge hg); have GE326 := Aside0.mk (xge hg); replace HB := xbs hb; clear hb hbox hg; have hcz8_0 : w7.cell? ⟨gb326, 0, none⟩ = some (.int .i64 a0_0) := (blk_cell BK326.out 0).trans rfl; have hcz8_1 : w7.cell? ⟨gb326, 1, none⟩ = some (.slice A0_1 l0_1.length c0_1) := (blk_cell BK326.out 1).trans rfl; have hfz8_0 := blk_frozen BK326.out 0; have hfz8_1 := blk_frozen BK326.out 1) | (go_at_call 116; (with_reducible refine (impl_fileAt.calls a0_0 _ _ l0_1 a1 t327 _ ?side1 ?side2 A3.out).mono ?_); (case side1 => exact xcb HR0_1); (case side2 => exact HC0_1.out); rintro e w9 ⟨rfl, hb⟩; replace BK326 := xbb BK326 hb; replace HB := xbs hb; (try clear hb); (try clear hb2); (try clear hk); (try clear hi); have hcz10_0 : w9.cell? ⟨gb326, 0, none⟩ = some (.int .i64 a0_0) := (blk_cell BK326.out 0).trans rfl; have hcz10_1 : w9.cell? ⟨gb326, 1, none⟩ = some (.slice A0_1 l0_1.length c0_1) := (blk_cell BK326.out 1).trans rfl; have hfz10_0 := blk_frozen BK326.out 0; have hfz10_1 := blk_frozen BK326.out 1) | (go_at_call 52; (with_reducible refine (impl_DiskOk.calls k a0_0 _ _ l0_1 true _ ?side1 ?side2 A4.out).mono ?_); (case side1 => exact xcb HR0_1); (case side2 => exact HC0_1.out); rintro e w11 ⟨rfl, hb⟩; replace BK326 := xbb BK326 hb; replace HB := xbs hb; (try clear hb); (try clear hb2); (try clear hk); (try clear hi))); try go_wp2_with (first | ((with_reducible refine gate_dst (N := 2) rfl ?_); refine box_event ?hg (N := 2) ?hd (cs := #[.int .i64 a0_0, .slice A0_1 l0_1.length c0_1]) (t := 70) ?hr ?_; (case hd => rfl); (case hg => rfl); (case hr => first | (go_simp; done) | (go_simp; rfl)); intro gb326 hg w7 hbox hb; have BK326 := Aside0.mk (hbox); have GW326 := Aside0.mk (xge hg); have GE326 := Aside0.mk (xge hg); replace HB := xbs hb; clear hb hbox hg; have hcz8_0 : w7.cell? ⟨gb326, 0, none⟩ = some (.int .i64 a0_0) := (blk_cell BK326.out 0).trans rfl; have hcz8_1 : w7.cell? ⟨gb326, 1, none⟩ = some (.slice A0_1 l0_1.length c0_1) := (blk_cell BK326.out 1).trans rfl; have hfz8_0 := blk_frozen BK326.out 0; have hfz8_1 := blk_frozen BK326.out 1) | (go_at_call 116; (with_reducible refine (impl_fileAt.calls a0_0 _ _ l0_1 a1 t327 _ ?side1 ?side2 A3.out).mono ?_); (case side1 => exact xcb HR0_1); (case side2 => exact HC0_1.out); rintro e w9 ⟨rfl, hb⟩; replace BK326 := xbb BK326 hb; replace HB := xbs hb; (try clear hb); (try clear hb2); (try clear hk); (try clear hi); have hcz10_0 : w9.cell? ⟨gb326, 0, none⟩ = some (.int .i64 a0_0) := (blk_cell BK326.out 0).trans rfl; have hcz10_1 : w9.cell? ⟨gb326, 1, none⟩ = some (.slice A0_1 l0_1.length c0_1) := (blk_cell BK326.out 1).trans rfl; have hfz10_0 := blk_frozen BK326.out 0; have hfz10_1 := blk_frozen BK326.out 1) | (go_at_call 52; (with_reducible refine (impl_DiskOk.calls k a0_0 _ _ l0_1 true _ ?side1 ?side2 A4.out).mono ?_); (case side1 => exact xcb HR0_1); (case side2 => exact HC0_1.out); rintro e w11 ⟨rfl, hb⟩; replace BK326 := xbb BK326 hb; replace HB := xbs hb; (try clear hb); (try clear hb2); (try clear hk); (try clear hi))))
   go_ret2
   exact ⟨by first | rfl | (simp [errW_none, errW_some] <;> rfl) | (simp [*, errW_none, errW_some] <;> rfl), xbg⟩
  ·rw [if_neg c6] at H
   have c6b0 : decide (t327 < 0) = false := decide_eq_false c6
   clear c6
   by_cases c12 : 0 ≤ t327
   ·rw [if_pos c12] at H
    have c12b0 : decide (0 ≤ t327) = true := decide_eq_true c12
    clear c12
    by_cases c13 : t327 < (l0_1.length : Int)
    ·rw [if_pos c13] at H
     have c13b0 : decide (t327 < (l0_1.length : Int)) = true := decide_eq_true c13
     clear c13
     by_cases c14 : ((rd_T134 l0_1 t327).f1).size + ((rd_T134 l0_1 t327).f2).size ≤ 9223372036854775807
     ·rw [if_pos c14] at H
      have c14b0 := eq_true c14
      have c14b1 : decide (((rd_T134 l0_1 t327).f1).size + ((rd_T134 l0_1 t327).f2).size ≤ 9223372036854775807) = true := decide_eq_true c14
      try have c14b2 : (9223372036854775807 < ((rd_T134 l0_1 t327).f1).size + ((rd_T134 l0_1 t327).f2).size) = False := eq_false (Nat.not_lt.2 c14)
      simp only [Option.some.injEq, Prod.mk.injEq] at H
      obtain ⟨rfl, rfl⟩ := H
      go_enter Try.func49, Try.ntmps49
      go_wp2_with (first | ((with_reducible refine gate_dst (N := 2) rfl ?_); refine box_event ?hg (N := 2) ?hd (cs := #[.int .i64 a0_0, .slice A0_1 l0_1.length c0_1]) (t := 70) ?hr ?_; (case hd => rfl); (case hg => rfl); (case hr => first | (go_simp; done) | (go_simp; rfl)); intro gb326 hg w15 hbox hb; have BK326 := Aside0.mk (hbox); have GW326 := Aside0.mk (xge hg); have GE326 := Aside0.mk (xge hg); replace HB := xbs hb; clear hb hbox hg; have hcz16_0 : w15.cell? ⟨gb326, 0, none⟩ = some (.int .i64 a0_0) := (blk_cell BK326.out 0).trans rfl; have hcz16_1 : w15.cell? ⟨gb326, 1, none⟩ = some (.slice A0_1 l0_1.length c0_1) := (blk_cell BK326.out 1).trans rfl; have hfz16_0 := blk_frozen BK326.out 0; have hfz16_1 := blk_frozen BK326.out 1) | (go_at_call 116; (with_reducible refine (impl_fileAt.calls a0_0 _ _ l0_1 a1 t327 _ ?side1 ?side2 A3.out).mono ?_); (case side1 => exact xcb HR0_1); (case side2 => exact HC0_1.out); rintro e w17 ⟨rfl, hb⟩; replace BK326 := xbb BK326 hb; replace HB := xbs hb; (try clear hb); (try clear hb2); (try clear hk); (try clear hi); have hcz18_0 : w17.cell? ⟨gb326, 0, none⟩ = some (.int .i64 a0_0) := (blk_cell BK326.out 0).trans rfl; have hcz18_1 : w17.cell? ⟨gb326, 1, none⟩ = some (.slice A0_1 l0_1.length c0_1) := (blk_cell BK326.out 1).trans rfl; have hfz18_0 := blk_frozen BK326.out 0; have hfz18_1 := blk_frozen BK326.out 1) | (go_at_call 52; (with_reducible refine (impl_DiskOk.calls k a0_0 _ _ l0_1 true _ ?side1 ?side2 A4.out).mono ?_); (case side1 => exact xcb HR0_1); (case side2 => exact HC0_1.out); rintro e w19 ⟨rfl, hb⟩; replace BK326 := xbb BK326 hb; replace HB := xbs hb; (try clear hb); (try clear hb2); (try clear hk); (try clear hi); have hcz20_0 : w19.cell? ⟨gb326, 0, none⟩ = some (.int .i64 a0_0) := (blk_cell BK326.out 0).trans rfl; have hcz20_1 : w19.cell? ⟨gb326, 1, none⟩ = some (.slice A0_1 l0_1.length c0_1) := (blk_cell BK326.out 1).trans rfl; have hfz20_0 := blk_frozen BK326.out 0; have hfz20_1 := blk_frozen BK326.out 1; have p329 : 0 ≤ (t327 : Int) := of_decide_eq_true (by first | (with_reducible assumption) | assumption); have q329 : t327 < (l0_1.length : Int) := of_decide_eq_true (by first | (with_reducible assumption) | assumption); obtain ⟨ad329, e329, hx329_0, hx329_1, hx329_2⟩ := at_T134 HR0_1.out t327 p329 q329; cases e329; replace hx329_0 := xce HB hx329_0; replace hx329_1 := xce HB hx329_1; replace hx329_2 := xce HB hx329_2; replace p329 := eq_true p329; replace q329 := eq_true q329; have p330 : 0 ≤ (t327 : Int) := of_decide_eq_true (by first | (with_reducible assumption) | assumption); have q330 : t327 < (l0_1.length : Int) := of_decide_eq_true (by first | (with_reducible assumption) | assumption); obtain ⟨ad330, e330, hx330_0, hx330_1, hx330_2⟩ := at_T134 HR0_1.out t327 p330 q330; obtain rfl : ad329 = ad330 := (by injection e330); replace hx330_0 := xce HB hx330_0; replace hx330_1 := xce HB hx330_1; replace hx330_2 := xce HB hx330_2; replace p330 := eq_true p330; replace q330 := eq_true q330))
      repeat (go_quiet (first | ((with_reducible refine gate_dst (N := 2) rfl ?_); refine box_event ?hg (N := 2) ?hd (cs := #[.int .i64 a0_0, .slice A0_1 l0_1.length c0_1]) (t := 70) ?hr ?_; (case hd => rfl); (case hg => rfl); (case hr => first | (go_simp; done) | (go_simp; rfl)); intro gb326 hg w15 hbox hb; have BK326 := Aside0.mk (hbox); have GW326 := Aside0.mk (xge hg); have GE326 := Aside0.mk (xge hg); replace HB := xbs hb; clear hb hbox hg; have hcz16_0 : w15.cell? ⟨gb326, 0, none⟩ = some (.int .i64 a0_0) := (blk_cell BK326.out 0).trans rfl; have hcz16_1 : w15.cell? ⟨gb326, 1, none⟩ = some (.slice A0_1 l0_1.length c0_1) := (blk_cell BK326.out 1).trans rfl; have hfz16_0 := blk_frozen BK326.out 0; have hfz16_1 := blk_frozen BK326.out 1) | (go_at_call 116; (with_reducible refine (impl_fileAt.calls a0_0 _ _ l0_1 a1 t327 _ ?side1 ?side2 A3.out).mono ?_); (case side1 => exact xcb HR0_1); (case side2 => exact HC0_1.out); rintro e w17 ⟨rfl, hb⟩; replace BK326 := xbb BK326 hb; replace HB := xbs hb; (try clear hb); (try clear hb2); (try clear hk); (try clear hi); have hcz18_0 : w17.cell? ⟨gb326, 0, none⟩ = some (.int .i64 a0_0) := (blk_cell BK326.out 0).trans rfl; have hcz18_1 : w17.cell? ⟨gb326, 1, none⟩ = some (.slice A0_1 l0_1.length c0_1) := (blk_cell BK326.out 1).trans rfl; have hfz18_0 := blk_frozen BK326.out 0; have hfz18_1 := blk_frozen BK326.out 1) | (go_at_call 52; (with_reducible refine (impl_DiskOk.calls k a0_0 _ _ l0_1 true _ ?side1 ?side2 A4.out).mono ?_); (case side1 => exact xcb HR0_1); (case side2 => exact HC0_1.out); rintro e w19 ⟨rfl, hb⟩; replace BK326 := xbb BK326 hb; replace HB := xbs hb; (try clear hb); (try clear hb2); (try clear hk); (try clear hi); have hcz20_0 : w19.cell? ⟨gb326, 0, none⟩ = some (.int .i64 a0_0) := (blk_cell BK326.out 0).trans rfl; have hcz20_1 : w19.cell? ⟨gb326, 1, none⟩ = some (.slice A0_1 l0_1.length c0_1) := (blk_cell BK326.out 1).trans rfl; have hfz20_0 := blk_frozen BK326.out 0; have hfz20_1 := blk_frozen BK326.out 1; have p329 : 0 ≤ (t327 : Int) := of_decide_eq_true (by first | (with_reducible assumption) | assumption); have q329 : t327 < (l0_1.length : Int) := of_decide_eq_true (by first | (with_reducible assumption) | assumption); obtain ⟨ad329, e329, hx329_0, hx329_1, hx329_2⟩ := at_T134 HR0_1.out t327 p329 q329; cases e329; replace hx329_0 := xce HB hx329_0; replace hx329_1 := xce HB hx329_1; replace hx329_2 := xce HB hx329_2; replace p329 := eq_true p329; replace q329 := eq_true q329; have p330 : 0 ≤ (t327 : Int) := of_decide_eq_true (by first | (with_reducible assumption) | assumption); have q330 : t327 < (l0_1.length : Int) := of_decide_eq_true (by first | (with_reducible assumption) | assumption); obtain ⟨ad330, e330, hx330_0, hx330_1, hx330_2⟩ := at_T134 HR0_1.out t327 p330 q330; obtain rfl : ad329 = ad330 := (by injection e330); replace hx330_0 := xce HB hx330_0; replace hx330_1 := xce HB hx330_1; replace hx330_2 := xce HB hx330_2; replace p330 := eq_true p330; replace q330 := eq_true q330)); try go_wp2_with (first | ((with_reducible refine gate_dst (N := 2) rfl ?_); refine box_event ?hg (N := 2) ?hd (cs := #[.int .i64 a0_0, .slice A0_1 l0_1.length c0_1]) (t := 70) ?hr ?_; (case hd => rfl); (case hg => rfl); (case hr => first | (go_simp; done) | (go_simp; rfl)); intro gb326 hg w15 hbox hb; have BK326 := Aside0.mk (hbox); have GW326 := Aside0.mk (xge hg); have GE326 := Aside0.mk (xge hg); replace HB := xbs hb; clear hb hbox hg; have hcz16_0 : w15.cell? ⟨gb326, 0, none⟩ = some (.int .i64 a0_0) := (blk_cell BK326.out 0).trans rfl; have hcz16_1 : w15.cell? ⟨gb326, 1, none⟩ = some (.slice A0_1 l0_1.length c0_1) := (blk_cell BK326.out 1).trans rfl; have hfz16_0 := blk_frozen BK326.out 0; have hfz16_1 := blk_frozen BK326.out 1) | (go_at_call 116; (with_reducible refine (impl_fileAt.calls a0_0 _ _ l0_1 a1 t327 _ ?side1 ?side2 A3.out).mono ?_); (case side1 => exact xcb HR0_1); (case side2 => exact HC0_1.out); rintro e w17 ⟨rfl, hb⟩; replace BK326 := xbb BK326 hb; replace HB := xbs hb; (try clear hb); (try clear hb2); (try clear hk); (try clear hi); have hcz18_0 : w17.cell? ⟨gb326, 0, none⟩ = some (.int .i64 a0_0) := (blk_cell BK326.out 0).trans rfl; have hcz18_1 : w17.cell? ⟨gb326, 1, none⟩ = some (.slice A0_1 l0_1.length c0_1) := (blk_cell BK326.out 1).trans rfl; have hfz18_0 := blk_frozen BK326.out 0; have hfz18_1 := blk_frozen BK326.out 1) | (go_at_call 52; (with_reducible refine (impl_DiskOk.calls k a0_0 _ _ l0_1 true _ ?side1 ?side2 A4.out).mono ?_); (case side1 => exact xcb HR0_1); (case side2 => exact HC0_1.out); rintro e w19 ⟨rfl, hb⟩; replace BK326 := xbb BK326 hb; replace HB := xbs hb; (try clear hb); (try clear hb2); (try clear hk); (try clear hi); have hcz20_0 : w19.cell? ⟨gb326, 0, none⟩ = some (.int .i64 a0_0) := (blk_cell BK326.out 0).trans rfl; have hcz20_1 : w19.cell? ⟨gb326, 1, none⟩ = some (.slice A0_1 l0_1.length c0_1) := (blk_cell BK326.out 1).trans rfl; have hfz20_0 := blk_frozen BK326.out 0; have hfz20_1 := blk_frozen BK326.out 1; have p329 : 0 ≤ (t327 : Int) := of_decide_eq_true (by first | (with_reducible assumption) | assumption); have q329 : t327 < (l0_1.length : Int) := of_decide_eq_true (by first | (with_reducible assumption) | assumption); obtain ⟨ad329, e329, hx329_0, hx329_1, hx329_2⟩ := at_T134 HR0_1.out t327 p329 q329; cases e329; replace hx329_0 := xce HB hx329_0; replace hx329_1 := xce HB hx329_1; replace hx329_2 := xce HB hx329_2; replace p329 := eq_true p329; replace q329 := eq_true q329; have p330 : 0 ≤ (t327 : Int) := of_decide_eq_true (by first | (with_reducible assumption) | assumption); have q330 : t327 < (l0_1.length : Int) := of_decide_eq_true (by first | (with_reducible assumption) | assumption); obtain ⟨ad330, e330, hx330_0, hx330_1, hx330_2⟩ := at_T134 HR0_1.out t327 p330 q330; obtain rfl : ad329 = ad330 := (by injection e330); replace hx330_0 := xce HB hx330_0; replace hx330_1 := xce HB hx330_1; replace hx330_2 := xce HB hx330_2; replace p330 := eq_true p330; replace q330 := eq_true q330)))
      go_ret2
      exact ⟨by first | rfl | (simp [errW_none, errW_some] <;> rfl) | (simp [*, errW_none, errW_some] <;> rfl), xbg⟩
     ·rw [if_neg c14] at H
      exact absurd H (by simp)
    ·rw [if_neg c13] at H
     exact absurd H (by simp)
   ·rw [if_neg c12] at H
    exact absurd H (by simp)
 ·replace c5 := Bool.eq_false_iff.mpr c5
  subst c5
  have H1 : (some ((⟨#[]⟩ : ByteArray), false)) = some (r1, r2) := by rw [if_neg (show ¬ (false = true) by decide)] at H; exact H
  clear H
  have H := H1
  clear H1
  simp only [Option.some.injEq, Prod.mk.injEq] at H
  obtain ⟨rfl, rfl⟩ := H
  go_enter Try.func49, Try.ntmps49
  go_wp2_with (first | ((with_reducible refine gate_dst (N := 2) rfl ?_); refine box_event ?hg (N := 2) ?hd (cs := #[.int .i64 a0_0, .slice A0_1 l0_1.length c0_1]) (t := 70) ?hr ?_; (case hd => rfl); (case hg => rfl); (case hr => first | (go_simp; done) | (go_simp; rfl)); intro gb326 hg w21 hbox hb; have BK326 := Aside0.mk (hbox); have GW326 := Aside0.mk (xge hg); have GE326 := Aside0.mk (xge hg); replace HB := xbs hb; clear hb hbox hg; have hcz22_0 : w21.cell? ⟨gb326, 0, none⟩ = some (.int .i64 a0_0) := (blk_cell BK326.out 0).trans rfl; have hcz22_1 : w21.cell? ⟨gb326, 1, none⟩ = some (.slice A0_1 l0_1.length c0_1) := (blk_cell BK326.out 1).trans rfl; have hfz22_0 := blk_frozen BK326.out 0; have hfz22_1 := blk_frozen BK326.out 1) | (go_at_call 116; (with_reducible refine (impl_fileAt.calls a0_0 _ _ l0_1 a1 t327 _ ?side1 ?side2 A3.out).mono ?_); (case side1 => exact xcb HR0_1); (case side2 => exact HC0_1.out); rintro e w23 ⟨rfl, hb⟩; replace BK326 := xbb BK326 hb; replace HB := xbs hb; (try clear hb); (try clear hb2); (try clear hk); (try clear hi); have hcz24_0 : w23.cell? ⟨gb326, 0, none⟩ = some (.int .i64 a0_0) := (blk_cell BK326.out 0).trans rfl; have hcz24_1 : w23.cell? ⟨gb326, 1, none⟩ = some (.slice A0_1 l0_1.length c0_1) := (blk_cell BK326.out 1).trans rfl; have hfz24_0 := blk_frozen BK326.out 0; have hfz24_1 := blk_frozen BK326.out 1) | (go_at_call 52; (with_reducible refine (impl_DiskOk.calls k a0_0 _ _ l0_1 false _ ?side1 ?side2 A4.out).mono ?_); (case side1 => exact xcb HR0_1); (case side2 => exact HC0_1.out); rintro e w25 ⟨rfl, hb⟩; replace BK326 := xbb BK326 hb; replace HB := xbs hb; (try clear hb); (try clear hb2); (try clear hk); (try clear hi)))
  repeat (go_quiet (first | ((with_reducible refine gate_dst (N := 2) rfl ?_); refine box_event ?hg (N := 2) ?hd (cs := #[.int .i64 a0_0, .slice A0_1 l0_1.length c0_1]) (t := 70) ?hr ?_; (case hd => rfl); (case hg => rfl); (case hr => first | (go_simp; done) | (go_simp; rfl)); intro gb326 hg w21 hbox hb; have BK326 := Aside0.mk (hbox); have GW326 := Aside0.mk (xge hg); have GE326 := Aside0.mk (xge hg); replace HB := xbs hb; clear hb hbox hg; have hcz22_0 : w21.cell? ⟨gb326, 0, none⟩ = some (.int .i64 a0_0) := (blk_cell BK326.out 0).trans rfl; have hcz22_1 : w21.cell? ⟨gb326, 1, none⟩ = some (.slice A0_1 l0_1.length c0_1) := (blk_cell BK326.out 1).trans rfl; have hfz22_0 := blk_frozen BK326.out 0; have hfz22_1 := blk_frozen BK326.out 1) | (go_at_call 116; (with_reducible refine (impl_fileAt.calls a0_0 _ _ l0_1 a1 t327 _ ?side1 ?side2 A3.out).mono ?_); (case side1 => exact xcb HR0_1); (case side2 => exact HC0_1.out); rintro e w23 ⟨rfl, hb⟩; replace BK326 := xbb BK326 hb; replace HB := xbs hb; (try clear hb); (try clear hb2); (try clear hk); (try clear hi); have hcz24_0 : w23.cell? ⟨gb326, 0, none⟩ = some (.int .i64 a0_0) := (blk_cell BK326.out 0).trans rfl; have hcz24_1 : w23.cell? ⟨gb326, 1, none⟩ = some (.slice A0_1 l0_1.length c0_1) := (blk_cell BK326.out 1).trans rfl; have hfz24_0 := blk_frozen BK326.out 0; have hfz24_1 := blk_frozen BK326.out 1) | (go_at_call 52; (with_reducible refine (impl_DiskOk.calls k a0_0 _ _ l0_1 false _ ?side1 ?side2 A4.out).mono ?_); (case side1 => exact xcb HR0_1); (case side2 => exact HC0_1.out); rintro e w25 ⟨rfl, hb⟩; replace BK326 := xbb BK326 hb; replace HB := xbs hb; (try clear hb); (try clear hb2); (try clear hk); (try clear hi))); try go_wp2_with (first | ((with_reducible refine gate_dst (N := 2) rfl ?_); refine box_event ?hg (N := 2) ?hd (cs := #[.int .i64 a0_0, .slice A0_1 l0_1.length c0_1]) (t := 70) ?hr ?_; (case hd => rfl); (case hg => rfl); (case hr => first | (go_simp; done) | (go_simp; rfl)); intro gb326 hg w21 hbox hb; have BK326 := Aside0.mk (hbox); have GW326 := Aside0.mk (xge hg); have GE326 := Aside0.mk (xge hg); replace HB := xbs hb; clear hb hbox hg; have hcz22_0 : w21.cell? ⟨gb326, 0, none⟩ = some (.int .i64 a0_0) := (blk_cell BK326.out 0).trans rfl; have hcz22_1 : w21.cell? ⟨gb326, 1, none⟩ = some (.slice A0_1 l0_1.length c0_1) := (blk_cell BK326.out 1).trans rfl; have hfz22_0 := blk_frozen BK326.out 0; have hfz22_1 := blk_frozen BK326.out 1) | (go_at_call 116; (with_reducible refine (impl_fileAt.calls a0_0 _ _ l0_1 a1 t327 _ ?side1 ?side2 A3.out).mono ?_); (case side1 => exact xcb HR0_1); (case side2 => exact HC0_1.out); rintro e w23 ⟨rfl, hb⟩; replace BK326 := xbb BK326 hb; replace HB := xbs hb; (try clear hb); (try clear hb2); (try clear hk); (try clear hi); have hcz24_0 : w23.cell? ⟨gb326, 0, none⟩ = some (.int .i64 a0_0) := (blk_cell BK326.out 0).trans rfl; have hcz24_1 : w23.cell? ⟨gb326, 1, none⟩ = some (.slice A0_1 l0_1.length c0_1) := (blk_cell BK326.out 1).trans rfl; have hfz24_0 := blk_frozen BK326.out 0; have hfz24_1 := blk_frozen BK326.out 1) | (go_at_call 52; (with_reducible refine (impl_DiskOk.calls k a0_0 _ _ l0_1 false _ ?side1 ?side2 A4.out).mono ?_); (case side1 => exact xcb HR0_1); (case side2 => exact HC0_1.out); rintro e w25 ⟨rfl, hb⟩; replace BK326 := xbb BK326 hb; replace HB := xbs hb; (try clear hb); (try clear hb2); (try clear hk); (try clear hi))))
  go_ret2
  exact ⟨by first | rfl | (simp [errW_none, errW_some] <;> rfl) | (simp [*, errW_none, errW_some] <;> rfl), xbg⟩

/-! ### impl_Sum: function 172 -/
def impl_Sum.l0 : Nat → Int → Int → List Int → Int → Int → Option (Int)
 | 0, _, _, _, _, _ => none
 | k + 1, x3, x4, x7, x8, x9 => if x9 < x8 then (if 0 ≤ x9 then (if x9 < (x7.length : Int) then (impl_Sum.l0 k (Int.tmod (wrap64 (x3 + (wrap64 (rd x7 x9)))) 65521) (Int.tmod (wrap64 (x4 + (Int.tmod (wrap64 (x3 + (wrap64 (rd x7 x9)))) 65521))) 65521) x7 x8 (wrap64 (x9 + 1))) else (none)) else (none)) else (some (wrap64 ((wrap64 (65536 * x4)) + x3)))
def impl_Sum.f (k : Nat) (l0 : List Int) : Option (Int) := impl_Sum.l0 k 1 0 l0 (l0.length : Int) 0
set_option maxRecDepth 100000 in
theorem impl_Sum.mono_l : ∀ k, (∀ y0 y1 y2 y3 y4, LeO (impl_Sum.l0 k y0 y1 y2 y3 y4) (impl_Sum.l0 (k + 1) y0 y1 y2 y3 y4))
 | 0 => fun _ _ _ _ _ r h => by simp [impl_Sum.l0] at h
 | k + 1 => by
  have ih0 := impl_Sum.mono_l k
  ·intro y0 y1 y2 y3 y4
   unfold impl_Sum.l0
   repeat' first
   | (with_reducible exact ih0 _ _ _ _ _)
   | (with_reducible exact LeO.refl _)
   | (with_reducible exact LeO.none _)
   | (with_reducible refine LeO.ite ?_ ?_)
   | (with_reducible refine LeO.bind ?_ (fun _ => ?_))
   | exact ih0 _ _ _ _ _
   | exact LeO.none _
   | refine LeO.ite ?_ ?_
   | refine LeO.bind ?_ (fun _ => ?_)
theorem impl_Sum.mono : ∀ a0 k, LeO (impl_Sum.f k a0) (impl_Sum.f (k + 1) a0) := by
 intro a0 k
 have ih0 := impl_Sum.mono_l k
 unfold impl_Sum.f
 repeat' first
  | (with_reducible exact ih0 _ _ _ _ _)
  | (with_reducible exact LeO.refl _)
  | (with_reducible exact LeO.none _)
  | (with_reducible refine LeO.ite ?_ ?_)
  | (with_reducible refine LeO.bind ?_ (fun _ => ?_))
  | exact ih0 _ _ _ _ _
  | exact LeO.none _
  | refine LeO.ite ?_ ?_
  | refine LeO.bind ?_ (fun _ => ?_)
set_option maxHeartbeats 8000000 in
set_option maxRecDepth 100000 in
theorem impl_Sum.calls (k : Nat) (A0 : Option Addr) (c0 : Nat) (l0 : List Int) (r : Int) (w : World) (hr0 : Kd.C (Kd.int .u8) w A0 l0.length l0) (hc0 : l0.length ≤ c0) (h : impl_Sum.f k l0 = some r) :
 Calls Try.prog 172 #[.slice A0 l0.length c0] w fun e w' => e = .returned (.int .i64 r) ∧ Drawn0 w w' := by
 have HR0 := Aside0.mk hr0
 have HC0 := Aside0.mk hc0
 clear hr0 hc0
 have H : (impl_Sum.l0 k 1 0 l0 (l0.length : Int) 0) = some r := h
 clear h
 have H' := Aside0.mk H
 clear H
 go_enter Try.func172, Try.ntmps172
 go_wp2
 go_loopg [3, 4, 9] k (fun kq v3 v4 v9 w' => ∃ (x3_1 : Int) (x4_1 : Int) (x9_1 : Int), v3 = .int .i64 x3_1 ∧ v4 = .int .i64 x4_1 ∧ v9 = .int .i64 x9_1 ∧ Aside0 (impl_Sum.l0 kq x3_1 x4_1 l0 (l0.length : Int) x9_1 = some r) ∧ Aside0 (kq ≤ k) ∧ Drawn0 w w')
 case atStart => exact ⟨(1), (0), (0), (by first | rfl | (simp; done) | (simp [*]; done)), (by first | rfl | (simp; done) | (simp [*]; done)), (by first | rfl | (simp; done) | (simp [*]; done)), H', ⟨Nat.le_refl _⟩, by repeat (first | exact Drawn0.refl _ | apply Drawn0.step)⟩
 case round =>
  clear H'
  try clear c1
  obtain ⟨x3_1, x4_1, x9_1, rfl, rfl, rfl, HA, HK1, ⟨m1, rfl⟩⟩ := hrel
  cases gk with
  | zero => exact absurd HA.out (by simp [impl_Sum.l0])
  | succ k1 =>
   have H := HA.out
   clear HA
   simp only [impl_Sum.l0] at H
   by_cases c2 : x9_1 < (l0.length : Int)
   ·rw [if_pos c2] at H
    have c2b0 : decide (x9_1 < (l0.length : Int)) = true := decide_eq_true c2
    clear c2
    by_cases c3 : 0 ≤ x9_1
    ·rw [if_pos c3] at H
     have c3b0 : decide (0 ≤ x9_1) = true := decide_eq_true c3
     clear c3
     by_cases c4 : x9_1 < (l0.length : Int)
     ·rw [if_pos c4] at H
      have c4b0 : decide (x9_1 < (l0.length : Int)) = true := decide_eq_true c4
      clear c4
      have H' := Aside0.mk H
      clear H
      have p331 : 0 ≤ (x9_1 : Int) := of_decide_eq_true (by first | (with_reducible assumption) | assumption)
      have q331 : x9_1 < (l0.length : Int) := of_decide_eq_true (by first | (with_reducible assumption) | assumption)
      obtain ⟨ad331, e331, hx331_0⟩ := Kd.at_int HR0.out x9_1 p331 q331
      cases e331
      replace p331 := eq_true p331
      replace q331 := eq_true q331
      go_wp2
      go_roundg k1
      case measure => have := HK1.out; omega
      case rel => exact ⟨(Int.tmod (wrap64 (x3_1 + (wrap64 (rd l0 x9_1)))) 65521), (Int.tmod (wrap64 (x4_1 + (Int.tmod (wrap64 (x3_1 + (wrap64 (rd l0 x9_1)))) 65521))) 65521), (wrap64 (x9_1 + 1)), (by first | rfl | (simp; done) | (simp [*]; done)), (by first | rfl | (simp; done) | (simp [*]; done)), (by first | rfl | (simp; done) | (simp [*]; done)), H', ⟨by have := HK1.out; omega⟩, by repeat (first | exact Drawn0.refl _ | apply Drawn0.step)⟩
     ·rw [if_neg c4] at H
      exact absurd H (by simp)
    ·rw [if_neg c3] at H
     exact absurd H (by simp)
   ·rw [if_neg c2] at H
    have c2b0 : decide (x9_1 < (l0.length : Int)) = false := decide_eq_false c2
    clear c2
    obtain rfl := Option.some.inj H
    go_wp2
    go_ret
    exact ⟨by first | rfl | (simp; done) | (simp [*]; done), by repeat (first | exact Drawn0.refl _ | apply Drawn0.step)⟩

/-! ### impl_sumBytes: function 164 -/
def impl_sumBytes.f (k : Nat) (l0 : List Int) : Option (List Int) := (impl_Sum.f k l0).bind fun t332 => (some (([(Go.bits .and .i64 t332 255) % 256, (Go.bits .and .i64 (t332 / 256) 255) % 256, (Go.bits .and .i64 (t332 / 65536) 255) % 256, (Go.bits .and .i64 (t332 / 16777216) 255) % 256] : List Int)))
theorem impl_sumBytes.mono : ∀ a0 k, LeO (impl_sumBytes.f k a0) (impl_sumBytes.f (k + 1) a0) := by
 intro a0 k
 unfold impl_sumBytes.f
 repeat' first
  | (with_reducible exact impl_Sum.mono _ _)
  | (with_reducible exact LeO.refl _)
  | (with_reducible exact LeO.none _)
  | (with_reducible refine LeO.ite ?_ ?_)
  | (with_reducible refine LeO.bind ?_ (fun _ => ?_))
  | exact impl_Sum.mono _ _
  | exact LeO.none _
  | refine LeO.ite ?_ ?_
  | refine LeO.bind ?_ (fun _ => ?_)
set_option maxHeartbeats 8000000 in
set_option maxRecDepth 100000 in
theorem impl_sumBytes.calls (k : Nat) (A0 : Option Addr) (c0 : Nat) (l0 : List Int) (r : List Int) (w : World) (hr0 : Kd.C (Kd.int .u8) w A0 l0.length l0) (hc0 : l0.length ≤ c0) (h : impl_sumBytes.f k l0 = some r) :
 Calls Try.prog 164 #[.slice A0 l0.length c0] w fun e w' => ∃ v0_ : Value, e = .returned (v0_) ∧ Kd.R (Kd.int .u8) 5 w' w.heap.size (fun _ => True) v0_ r ∧ Below w.heap.size w w' := by
 have HR0 := Aside0.mk hr0
 have HC0 := Aside0.mk hc0
 clear hr0 hc0
 have HB := Aside0.mk (Below.refl w.heap.size w)
 have H : ((impl_Sum.f k l0).bind fun t332 => (some (([(Go.bits .and .i64 t332 255) % 256, (Go.bits .and .i64 (t332 / 256) 255) % 256, (Go.bits .and .i64 (t332 / 65536) 255) % 256, (Go.bits .and .i64 (t332 / 16777216) 255) % 256] : List Int)))) = some r := h
 clear h
 replace H := Option.bind_eq_some_iff.mp H
 obtain ⟨t332, A20, H⟩ := H
 replace H : (some (([(Go.bits .and .i64 t332 255) % 256, (Go.bits .and .i64 (t332 / 256) 255) % 256, (Go.bits .and .i64 (t332 / 65536) 255) % 256, (Go.bits .and .i64 (t332 / 16777216) 255) % 256] : List Int))) = some r := H
 have A2 := Aside0.mk A20
 clear A20
 obtain ⟨y333, hy333⟩ : ∃ y_ : List Int, y_ = (([(Go.bits .and .i64 t332 255) % 256, (Go.bits .and .i64 (t332 / 256) 255) % 256, (Go.bits .and .i64 (t332 / 65536) 255) % 256, (Go.bits .and .i64 (t332 / 16777216) 255) % 256] : List Int)) := ⟨_, rfl⟩
 replace H : (some y333) = some r := by first | (rw [hy333]; with_reducible exact H) | (have H2_ := (Option.bind_some _ _).symm.trans H; rw [hy333]; with_reducible exact H2_) | (have H2_ := (Option.bind_some _ _).symm.trans H; with_reducible exact H2_) | with_reducible exact H | (rw [hy333]; exact H) | exact H
 have Ny333 := Aside0.mk hy333
 clear hy333
 obtain rfl := Option.some.inj H
 go_enter Try.func164, Try.ntmps164
 go_wp2_with (first | ((with_reducible refine gate_callee (f := 172) rfl ?_); refine goesL_ (some 5) rfl rfl Try.func172 (by kernel_rfl) rfl #[.slice A0 l0.length c0] rfl (by (try simp only [List.map_toArray, List.map_cons, List.map_nil]); first | done | rfl | (simp only [List.length_drop, List.length_take]; rfl)) ?_; (with_reducible refine (impl_Sum.calls k _ _ l0 t332 _ ?side1 ?side2 A2.out).mono ?_); (case side1 => repeat (first | exact HR0.out | (with_reducible refine Kd.C_alloc ?_ _) | (with_reducible refine Kd.C_drewN ?_ _) | (with_reducible refine Kd.C_drew ?_))); (case side2 => exact HC0.out); rintro e w' ⟨rfl, ⟨nd, rfl⟩⟩; refine ⟨_, rfl, ?_⟩) | ((with_reducible refine gate_dst (N := 21) rfl ?_); refine Kd.R_lit (Kd.int .u8) _ 5 ?hg (N := 21) ?hd (xs := ([(Go.bits .and .i64 t332 255) % 256, (Go.bits .and .i64 (t332 / 256) 255) % 256, (Go.bits .and .i64 (t332 / 65536) 255) % 256, (Go.bits .and .i64 (t332 / 16777216) 255) % 256] : List Int)) (inner := [.int .u8 ((Go.bits .and .i64 t332 255) % 256), .int .u8 ((Go.bits .and .i64 (t332 / 256) 255) % 256), .int .u8 ((Go.bits .and .i64 (t332 / 65536) 255) % 256), .int .u8 ((Go.bits .and .i64 (t332 / 16777216) 255) % 256)]) (ok := fun _ => True) (okp := fun _ => True) ?hr ?hp (fun _ hk => hk) trivial (Below.refl _ _) (Nat.le_refl _) (by simp) ?_; (case hd => rfl); (case hg => rfl); (case hr => first | (go_simp; done) | (go_simp; rfl)); (case hp => exact (Reps.one (show Kd.M (Kd.int .u8) _ _ _ ((Go.bits .and .i64 t332 255) % 256) [.int .u8 ((Go.bits .and .i64 t332 255) % 256)] from rfl) (Reps.one (show Kd.M (Kd.int .u8) _ _ _ ((Go.bits .and .i64 (t332 / 256) 255) % 256) [.int .u8 ((Go.bits .and .i64 (t332 / 256) 255) % 256)] from rfl) (Reps.one (show Kd.M (Kd.int .u8) _ _ _ ((Go.bits .and .i64 (t332 / 65536) 255) % 256) [.int .u8 ((Go.bits .and .i64 (t332 / 65536) 255) % 256)] from rfl) (Reps.one (show Kd.M (Kd.int .u8) _ _ _ ((Go.bits .and .i64 (t332 / 16777216) 255) % 256) [.int .u8 ((Go.bits .and .i64 (t332 / 16777216) 255) % 256)] from rfl) (Reps.none _ _)))))); intro v334 w3 ho4 hb hg_ hnew_; clear hg_ hnew_; (first | rw [← Ny333.out] at ho4 | (simp only [Int.reduceToNat] at ho4; rw [← Ny333.out] at ho4)); have HO335 := Aside0.mk (Kd.R_lower ho4 (below_size xbel)); replace HB := xbs hb; clear hb ho4))
 go_ret
 exact ⟨_, by first | rfl | (simp [errW_none, errW_some] <;> rfl) | (simp [*, errW_none, errW_some] <;> rfl), by (with_reducible repeat (first | apply Kd.R_alloc | apply Kd.R_drewN | apply Kd.R_drew)); exact HO335.out, xbel⟩

end Go.Proofs.Ytnjpfllmcmomoaa.QFnExactJournalMend
