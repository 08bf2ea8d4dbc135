-- A walk, by a program of this session.
import Derived.Test.YtkfoojknjmgjdaaQFnSyncsx0
import Derived.Test.YtkfoojknjmgjdaaQFnSyncsx5
import Derived.Test.YtkfoojknjmgjdaaQFnSyncsx6
namespace Go.Proofs.Ytkfoojknjmgjdaa.QFnSyncs
open Go.RowKit Go.Proofs.YtkfoojknjmgjdaaW.PrintWords Go.Proofs.YtkfoojknjmgjdaaW.PrintLast Go.Proofs.YtkfoojknjmgjdaaW.PrintMore
attribute [local go_sem] max2_int min2_int max_two min_two max_three min_three max_four min_four   -- for this text's walks alone
set_option linter.unusedVariables false
set_option linter.unusedSimpArgs false

/-! ### impl_DiskCut: function 45 -/
def impl_DiskCut.j0 : Nat → Int → Int → Bool → Int → List (S81) → Option (Int × (List (S81)) × Int)
 | 0, _, _, _, _, _ => none
 | k + 1, x1, x2, x19, x191000, x191001 => if x19 = true then (some (0, ([] : List (S81)), 1)) else ((impl_copyDisk.f x191000 x191001).bind fun bt194 => ((impl_fileAt.f x191000 x191001 x1).bind fun t199 => (if t199 < 0 then (some (bt194.1, bt194.2, 2)) else (if 0 ≤ t199 then (if t199 < (x191001.length : Int) then ((impl_within.f x2 0 (wrap64 ((((rd_T81 x191001 t199).f1).size : Int) + (((rd_T81 x191001 t199).f2).size : Int)))).bind fun t202 => (if t202 = true then (if 0 ≤ (mn x2 (((rd_T81 x191001 t199).f1).size : Int)) then (if (mn x2 (((rd_T81 x191001 t199).f1).size : Int)) ≤ (((rd_T81 x191001 t199).f1).size : Int) then (if 0 ≤ (wrap64 (x2 - (mn x2 (((rd_T81 x191001 t199).f1).size : Int)))) then (if (wrap64 (x2 - (mn x2 (((rd_T81 x191001 t199).f1).size : Int)))) ≤ (((rd_T81 x191001 t199).f2).size : Int) then (if t199 < (bt194.2.length : Int) then (some (bt194.1, (bt194.2.set (t199 : Int).toNat (⟨x1, ((rd_T81 x191001 t199).f1).extract 0 ((mn x2 (((rd_T81 x191001 t199).f1).size : Int)) : Int).toNat, ((rd_T81 x191001 t199).f2).extract 0 ((wrap64 (x2 - (mn x2 (((rd_T81 x191001 t199).f1).size : Int)))) : Int).toNat⟩ : S81)), 0)) else (none)) else (none)) else (none)) else (none)) else (none)) else (some (bt194.1, bt194.2, 2)))) else (none)) else (none)))))
def impl_DiskCut.f (k : Nat) (a0_0 : Int) (l0_1 : List (S81)) (a1 : Int) (a2 : Int) : Option (Int × (List (S81)) × Int) := (impl_DiskOk.f k a0_0 l0_1).bind fun t192 => (if t192 = true then ((impl_isFile.f a1).bind fun t193 => (impl_DiskCut.j0 k a1 a2 (!t193) a0_0 l0_1)) else (impl_DiskCut.j0 k a1 a2 true a0_0 l0_1))
set_option maxRecDepth 100000 in
theorem impl_DiskCut.mono_l : ∀ k, (∀ y0 y1 y2 y3 y4, LeO (impl_DiskCut.j0 k y0 y1 y2 y3 y4) (impl_DiskCut.j0 (k + 1) y0 y1 y2 y3 y4))
 | 0 => fun _ _ _ _ _ r h => by simp [impl_DiskCut.j0] at h
 | k + 1 => by
  have ih0 := impl_DiskCut.mono_l k
  ·intro y0 y1 y2 y3 y4
   unfold impl_DiskCut.j0
   repeat' first
   | (with_reducible exact ih0 _ _ _ _ _)
   | (with_reducible exact impl_DiskOk.mono _ _ _)
   | (with_reducible exact LeO.refl _)
   | (with_reducible exact LeO.none _)
   | (with_reducible refine LeO.ite ?_ ?_)
   | (with_reducible refine LeO.bind ?_ (fun _ => ?_))
   | exact ih0 _ _ _ _ _
   | exact impl_DiskOk.mono _ _ _
   | exact LeO.none _
   | refine LeO.ite ?_ ?_
   | refine LeO.bind ?_ (fun _ => ?_)
theorem impl_DiskCut.mono : ∀ a0 a1 a2 a3 k, LeO (impl_DiskCut.f k a0 a1 a2 a3) (impl_DiskCut.f (k + 1) a0 a1 a2 a3) := by
 intro a0 a1 a2 a3 k
 have ih0 := impl_DiskCut.mono_l k
 unfold impl_DiskCut.f
 repeat' first
  | (with_reducible exact ih0 _ _ _ _ _)
  | (with_reducible exact impl_DiskOk.mono _ _ _)
  | (with_reducible exact LeO.refl _)
  | (with_reducible exact LeO.none _)
  | (with_reducible refine LeO.ite ?_ ?_)
  | (with_reducible refine LeO.bind ?_ (fun _ => ?_))
  | exact ih0 _ _ _ _ _
  | exact impl_DiskOk.mono _ _ _
  | exact LeO.none _
  | refine LeO.ite ?_ ?_
  | refine LeO.bind ?_ (fun _ => ?_)
def impl_DiskCut.T5 : Bool × List (List Nat × List Nat) := (true, [([], []), ([0], [0]), ([1], [1]), ([2], [2]), ([2], [2]), ([4, 2], [2, 4]), ([2], [2]), ([5, 6, 2], [2, 5, 6]), ([7, 2], [2, 7]), ([8, 2], [2, 8]), ([9, 2], [2, 9]), ([2], [2]), ([11, 2], [2, 11]), ([2], [2]), ([12, 13, 2], [2, 12, 13]), ([14, 2], [2, 14]), ([15, 2], [2, 15]), ([16, 2], [2, 16]), ([10, 17, 2], [2, 10, 17]), ([3, 18, 2, 2], [2, 3, 18]), ([19, 2], [2, 19]), ([2, 20], [2, 20])])
def impl_DiskCut.B5 : List Nat := [0, 1, 3, 7, 7, 23, 7, 119, 247, 503, 1015, 7, 2055, 7, 14343, 30727, 63495, 129031, 262135, 524287, 1048575, 2097151]
theorem impl_DiskCut.tab5 : rtab .any (opsOf Try.f45 5) = impl_DiskCut.T5 := by kernel_rfl
theorem impl_DiskCut.bits5 : waitsOk impl_DiskCut.T5.2 impl_DiskCut.B5 = true := by kernel_rfl
def impl_DiskCut.T9 : Bool × List (List Nat × List Nat) := (true, [([], []), ([0], [0]), ([], []), ([], []), ([], []), ([4], [4]), ([], []), ([5, 6], [5, 6]), ([], []), ([8], [8]), ([], []), ([], []), ([10, 11], [10, 11]), ([9, 12], [9, 12]), ([3, 7, 13], [3, 7, 13]), ([1, 2, 0, 1, 2, 3, 4, 5, 6, 7, 8, 9, 10, 11, 12, 13, 14], [1, 2]), ([15, 14, 0, 1, 2, 3, 4, 5, 6, 7, 8, 9, 10, 11, 12, 13, 14], [14, 15])])
def impl_DiskCut.B9 : List Nat := [0, 1, 0, 0, 0, 16, 0, 112, 0, 256, 0, 0, 3072, 7936, 16376, 32767, 65535]
theorem impl_DiskCut.tab9 : rtab .any (opsOf Try.f45 9) = impl_DiskCut.T9 := by kernel_rfl
theorem impl_DiskCut.bits9 : waitsOk impl_DiskCut.T9.2 impl_DiskCut.B9 = true := by kernel_rfl
set_option maxHeartbeats 8000000 in
set_option maxRecDepth 100000 in
theorem impl_DiskCut.calls (k : Nat) (a0_0 : Int) (A0_1 : Option Addr) (c0_1 : Nat) (l0_1 : List (S81)) (a1 : Int) (a2 : Int) (r1 : Int) (r2 : List (S81)) (r3 : Int) (w : World) (hr0_1 : Kd.C k81 w A0_1 l0_1.length l0_1) (hc0_1 : l0_1.length ≤ c0_1) (h : impl_DiskCut.f k a0_0 l0_1 a1 a2 = some (r1, r2, r3)) :
 Calls Try.prog 45 #[.agg #[.int .i64 a0_0, .slice A0_1 l0_1.length c0_1], .int .i64 a1, .int .i64 a2] w fun e w' => ∃ v1_ : Value, e = .returned (.tuple #[.agg #[.int .i64 r1, v1_], .int .i64 r3]) ∧ Kd.R k81 81 w' w.heap.size (fun _ => True) v1_ r2 ∧ Below w.heap.size w w' := by
 have hu63 := Try.underlying63
 have hu81 := Try.underlying81
 have HR0_1 := Aside0.mk hr0_1
 have HC0_1 := Aside0.mk hc0_1
 clear hr0_1 hc0_1
 have HB := Aside0.mk (Below.refl w.heap.size w)
 have H : ((impl_DiskOk.f k a0_0 l0_1).bind fun t192 => (if t192 = true then ((impl_isFile.f a1).bind fun t193 => (impl_DiskCut.j0 k a1 a2 (!t193) a0_0 l0_1)) else (impl_DiskCut.j0 k a1 a2 true a0_0 l0_1))) = some (r1, r2, r3) := h
 clear h
 have HC4 := Aside0.mk H
 clear H
 go_enter Try.func45, Try.ntmps45
 go_upto_region 1 with (first | ((with_reducible refine gate_dst (N := 3) rfl ?_); (try (refine gate_guard (by rfl) ?_; dsimp only)); refine box_event ?hg (N := 3) ?hd (cs := #[.int .i64 a0_0, .slice A0_1 l0_1.length c0_1]) (t := 63) ?hr ?_; (case hd => rfl); (case hg => rfl); (case hr => first | (go_simp; done) | (go_simp; rfl)); intro gb190 hg w5 hbox hb; have BK190 := Aside0.mk (hbox); have GW190 := Aside0.mk (xge hg); have GE190 := Aside0.mk (xge hg); replace HB := xbs hb; clear hb hbox hg) | ((with_reducible refine gate_dst (N := 6) rfl ?_); (try (refine gate_guard (by rfl) ?_; dsimp only)); refine box_event ?hg (N := 6) ?hd (cs := #[.int .i64 0, .slice none 0 0]) (t := 63) ?hr ?_; (case hd => rfl); (case hg => rfl); (case hr => first | (go_simp; done) | (go_simp; rfl)); intro gb191 hg w6 hbox hb; have GW191 := Aside0.mk (xge hg); have GE191 := Aside0.mk (xge hg); replace HB := xbs hb; have NB190_191 := Aside0.mk ((by rw [hg]; exact Nat.ne_of_lt (blk_lt (g := gb190) (o := .cells #[.int .i64 a0_0, .slice A0_1 l0_1.length c0_1] 63 (0, 0)) xblk) : gb190 ≠ gb191)); have NB191_190 := Aside0.mk ((by rw [hg]; exact Nat.ne_of_gt (blk_lt (g := gb190) (o := .cells #[.int .i64 a0_0, .slice A0_1 l0_1.length c0_1] 63 (0, 0)) xblk) : gb191 ≠ gb190)); replace BK190 := xbb BK190 hb; have BK191 := Aside0.mk (hbox); clear hb hbox hg))
 (try simp only [Act.put, List.setIfInBounds_toArray, List.set_cons_zero, List.set_cons_succ])
 go_cut [19] (fun v19 wc => ∃ (kq : Nat) (x19_3 : Bool), v19 = .bool x19_3 ∧ Aside0 (impl_DiskCut.j0 kq a1 a2 x19_3 a0_0 l0_1 = some (r1, r2, r3)) ∧ Aside0 (kq ≤ k) ∧ Aside0 (wc.heap[gb190]? = some (.cells #[.int .i64 a0_0, (.slice A0_1 l0_1.length c0_1)] 63 (0, 0))) ∧ Aside0 (wc.heap[gb191]? = some (.cells #[.int .i64 0, (.slice none 0 0)] 63 (0, 0))) ∧ Aside0 (Below w.heap.size w wc))
 case first =>
  have H := HC4.out
  clear HC4
  replace H := Option.bind_eq_some_iff.mp H
  obtain ⟨t192, A70, H⟩ := H
  replace H : (if t192 = true then ((impl_isFile.f a1).bind fun t193 => (impl_DiskCut.j0 k a1 a2 (!t193) a0_0 l0_1)) else (impl_DiskCut.j0 k a1 a2 true a0_0 l0_1)) = some (r1, r2, r3) := H
  have A7 := Aside0.mk A70
  clear A70
  by_cases c8 : t192 = true
  ·subst c8
   have H1 : ((impl_isFile.f a1).bind fun t193 => (impl_DiskCut.j0 k a1 a2 (!t193) a0_0 l0_1)) = some (r1, r2, r3) := by rw [if_pos rfl] at H; exact H
   clear H
   have H := H1
   clear H1
   replace H := Option.bind_eq_some_iff.mp H
   obtain ⟨t193, A90, H⟩ := H
   replace H : (impl_DiskCut.j0 k a1 a2 (!t193) a0_0 l0_1) = some (r1, r2, r3) := H
   have A9 := Aside0.mk A90
   clear A90
   have H' := Aside0.mk H
   clear H
   have hnb10 := NB190_191.out
   have hnc10 := NB191_190.out
   have hcz11_0 : w6.cell? ⟨gb190, 0, none⟩ = some (.int .i64 a0_0) := (blk_cell BK190.out 0).trans rfl
   have hcz11_1 : w6.cell? ⟨gb190, 1, none⟩ = some (.slice A0_1 l0_1.length c0_1) := (blk_cell BK190.out 1).trans rfl
   have hfz11_0 := blk_frozen BK190.out 0
   have hfz11_1 := blk_frozen BK190.out 1
   go_wp2_with (first | ((with_reducible refine gate_callee (f := 49) rfl ?_); refine goesL_ (some 13) rfl rfl Try.func49 (by kernel_rfl) rfl #[.agg #[.int .i64 a0_0, .slice A0_1 l0_1.length c0_1]] rfl (by (try simp only [List.map_toArray, List.map_cons, List.map_nil]); first | done | rfl | (simp only [List.length_drop, List.length_take]; rfl)) ?_; (with_reducible refine (impl_DiskOk.calls k a0_0 _ _ l0_1 true _ ?side1 ?side2 A7.out).mono ?_); (case side1 => exact xcb HR0_1); (case side2 => exact HC0_1.out); rintro e w12 ⟨rfl, hb⟩; refine ⟨_, rfl, ?_⟩; replace BK190 := xbb BK190 hb; replace BK191 := xbb BK191 hb; replace HB := xbs hb; (try clear hb); (try clear hb2); (try clear hk); (try clear hi)) | (go_at_call 109; (with_reducible refine (impl_isFile.calls a1 t193 _ A9.out).mono ?_); rintro e w' ⟨rfl, ⟨nd, rfl⟩⟩))
   go_meet
   case rel => exact ⟨_, (!t193), (by first | rfl | (simp; done) | (simp [*]; done)), H', ⟨by first | omega | exact Nat.le_refl _⟩, ⟨xblk⟩, ⟨xblk⟩, ⟨xbg⟩⟩
  ·replace c8 := Bool.eq_false_iff.mpr c8
   subst c8
   have H1 : (impl_DiskCut.j0 k a1 a2 true a0_0 l0_1) = some (r1, r2, r3) := by rw [if_neg (show ¬ (false = true) by decide)] at H; exact H
   clear H
   have H := H1
   clear H1
   have H' := Aside0.mk H
   clear H
   have hnb13 := NB190_191.out
   have hnc13 := NB191_190.out
   have hcz14_0 : w6.cell? ⟨gb190, 0, none⟩ = some (.int .i64 a0_0) := (blk_cell BK190.out 0).trans rfl
   have hcz14_1 : w6.cell? ⟨gb190, 1, none⟩ = some (.slice A0_1 l0_1.length c0_1) := (blk_cell BK190.out 1).trans rfl
   have hfz14_0 := blk_frozen BK190.out 0
   have hfz14_1 := blk_frozen BK190.out 1
   go_wp2_with (first | ((with_reducible refine gate_callee (f := 49) rfl ?_); refine goesL_ (some 13) rfl rfl Try.func49 (by kernel_rfl) rfl #[.agg #[.int .i64 a0_0, .slice A0_1 l0_1.length c0_1]] rfl (by (try simp only [List.map_toArray, List.map_cons, List.map_nil]); first | done | rfl | (simp only [List.length_drop, List.length_take]; rfl)) ?_; (with_reducible refine (impl_DiskOk.calls k a0_0 _ _ l0_1 false _ ?side1 ?side2 A7.out).mono ?_); (case side1 => exact xcb HR0_1); (case side2 => exact HC0_1.out); rintro e w15 ⟨rfl, hb⟩; refine ⟨_, rfl, ?_⟩; replace BK190 := xbb BK190 hb; replace BK191 := xbb BK191 hb; replace HB := xbs hb; (try clear hb); (try clear hb2); (try clear hk); (try clear hi)))
   go_meet
   case rel => exact ⟨_, (true), (by first | rfl | (simp; done) | (simp [*]; done)), H', ⟨by first | omega | exact Nat.le_refl _⟩, ⟨xblk⟩, ⟨xblk⟩, ⟨xbg⟩⟩
 case rest =>
  clear HC4
  try clear c1
  try clear p2
  try clear c4
  try clear c8
  try clear c10
  try clear c13
  try clear hcz11_0
  try clear hcz11_1
  try clear hcz14_0
  try clear hcz14_1
  try clear hfz11_0
  try clear hfz11_1
  try clear hfz14_0
  try clear hfz14_1
  obtain ⟨kq, x19_3, rfl, HA, HJ3, BK190, BK191, HB⟩ := hcut
  cases kq with
  | zero => exact absurd HA.out (by simp [impl_DiskCut.j0])
  | succ kj3 =>
   have H := HA.out
   clear HA
   simp only [impl_DiskCut.j0] at H
   by_cases c16 : x19_3 = true
   ·subst c16
    have H1 : (some (0, ([] : List (S81)), 1)) = some (r1, r2, r3) := by rw [if_pos rfl] at H; exact H
    clear H
    have H := H1
    clear H1
    simp only [Option.some.injEq, Prod.mk.injEq] at H
    obtain ⟨rfl, rfl, rfl⟩ := H
    have hnb17 := NB191_190.out
    have hnc17 := NB190_191.out
    have hcz18_0 : wc.cell? ⟨gb191, 0, none⟩ = some (.int .i64 0) := (blk_cell BK191.out 0).trans rfl
    have hcz18_1 : wc.cell? ⟨gb191, 1, none⟩ = some (.slice none 0 0) := (blk_cell BK191.out 1).trans rfl
    have hfz18_0 := blk_frozen BK191.out 0
    have hfz18_1 := blk_frozen BK191.out 1
    go_wp2
    refine bodyPost_ret (results_ct rfl _ _ gb191 63 #[.int .i64 0, .slice none 0 0] (0, 0) _ rfl (by (with_reducible repeat (first | refine blk_drewN ?_ _ | refine blk_drew ?_ | refine blk_alloc ?_ _)); refine blk_put (cs := #[.int .i64 0, .slice none 0 0]) ?_ 1 _ rfl; (with_reducible repeat (first | refine blk_drewN ?_ _ | refine blk_drew ?_ | refine blk_alloc ?_ _)); refine blk_put (cs := #[.int .i64 0, .slice none 0 0]) ?_ 0 _ rfl; (with_reducible repeat (first | refine blk_drewN ?_ _ | refine blk_drew ?_ | refine blk_alloc ?_ _)); exact BK191.out) Try.underlying63 rfl (by kernel_rfl)) rfl ?_
    exact ⟨_, by first | rfl | (simp [errW_none, errW_some] <;> rfl) | (simp [*, errW_none, errW_some] <;> rfl), by first | exact Kd.R_nil _ _ _ _ _ | exact Kd.N_nil _ _ _ _ _ | exact Kd.V_nil _ _ _ _ _ | exact Kd.Q_nil _ _ _ _ _ | exact Kd.S_nil _ _ _ _ _, xbg⟩
   ·replace c16 := Bool.eq_false_iff.mpr c16
    subst c16
    have H1 : ((impl_copyDisk.f a0_0 l0_1).bind fun bt194 => ((impl_fileAt.f a0_0 l0_1 a1).bind fun t199 => (if t199 < 0 then (some (bt194.1, bt194.2, 2)) else (if 0 ≤ t199 then (if t199 < (l0_1.length : Int) then ((impl_within.f a2 0 (wrap64 ((((rd_T81 l0_1 t199).f1).size : Int) + (((rd_T81 l0_1 t199).f2).size : Int)))).bind fun t202 => (if t202 = true then (if 0 ≤ (mn a2 (((rd_T81 l0_1 t199).f1).size : Int)) then (if (mn a2 (((rd_T81 l0_1 t199).f1).size : Int)) ≤ (((rd_T81 l0_1 t199).f1).size : Int) then (if 0 ≤ (wrap64 (a2 - (mn a2 (((rd_T81 l0_1 t199).f1).size : Int)))) then (if (wrap64 (a2 - (mn a2 (((rd_T81 l0_1 t199).f1).size : Int)))) ≤ (((rd_T81 l0_1 t199).f2).size : Int) then (if t199 < (bt194.2.length : Int) then (some (bt194.1, (bt194.2.set (t199 : Int).toNat (⟨a1, ((rd_T81 l0_1 t199).f1).extract 0 ((mn a2 (((rd_T81 l0_1 t199).f1).size : Int)) : Int).toNat, ((rd_T81 l0_1 t199).f2).extract 0 ((wrap64 (a2 - (mn a2 (((rd_T81 l0_1 t199).f1).size : Int)))) : Int).toNat⟩ : S81)), 0)) else (none)) else (none)) else (none)) else (none)) else (none)) else (some (bt194.1, bt194.2, 2)))) else (none)) else (none))))) = some (r1, r2, r3) := by rw [if_neg (show ¬ (false = true) by decide)] at H; exact H
    clear H
    have H := H1
    clear H1
    replace H := Option.bind_eq_some_iff.mp H
    obtain ⟨⟨t194, t195⟩, A190, H⟩ := H
    replace H : ((impl_fileAt.f a0_0 l0_1 a1).bind fun t199 => (if t199 < 0 then (some (t194, t195, 2)) else (if 0 ≤ t199 then (if t199 < (l0_1.length : Int) then ((impl_within.f a2 0 (wrap64 ((((rd_T81 l0_1 t199).f1).size : Int) + (((rd_T81 l0_1 t199).f2).size : Int)))).bind fun t202 => (if t202 = true then (if 0 ≤ (mn a2 (((rd_T81 l0_1 t199).f1).size : Int)) then (if (mn a2 (((rd_T81 l0_1 t199).f1).size : Int)) ≤ (((rd_T81 l0_1 t199).f1).size : Int) then (if 0 ≤ (wrap64 (a2 - (mn a2 (((rd_T81 l0_1 t199).f1).size : Int)))) then (if (wrap64 (a2 - (mn a2 (((rd_T81 l0_1 t199).f1).size : Int)))) ≤ (((rd_T81 l0_1 t199).f2).size : Int) then (if t199 < (t195.length : Int) then (some (t194, (t195.set (t199 : Int).toNat (⟨a1, ((rd_T81 l0_1 t199).f1).extract 0 ((mn a2 (((rd_T81 l0_1 t199).f1).size : Int)) : Int).toNat, ((rd_T81 l0_1 t199).f2).extract 0 ((wrap64 (a2 - (mn a2 (((rd_T81 l0_1 t199).f1).size : Int)))) : Int).toNat⟩ : S81)), 0)) else (none)) else (none)) else (none)) else (none)) else (none)) else (some (t194, t195, 2)))) else (none)) else (none)))) = some (r1, r2, r3) := H
    have A19 := Aside0.mk A190
    clear A190
    replace H := Option.bind_eq_some_iff.mp H
    obtain ⟨t199, A200, H⟩ := H
    replace H : (if t199 < 0 then (some (t194, t195, 2)) else (if 0 ≤ t199 then (if t199 < (l0_1.length : Int) then ((impl_within.f a2 0 (wrap64 ((((rd_T81 l0_1 t199).f1).size : Int) + (((rd_T81 l0_1 t199).f2).size : Int)))).bind fun t202 => (if t202 = true then (if 0 ≤ (mn a2 (((rd_T81 l0_1 t199).f1).size : Int)) then (if (mn a2 (((rd_T81 l0_1 t199).f1).size : Int)) ≤ (((rd_T81 l0_1 t199).f1).size : Int) then (if 0 ≤ (wrap64 (a2 - (mn a2 (((rd_T81 l0_1 t199).f1).size : Int)))) then (if (wrap64 (a2 - (mn a2 (((rd_T81 l0_1 t199).f1).size : Int)))) ≤ (((rd_T81 l0_1 t199).f2).size : Int) then (if t199 < (t195.length : Int) then (some (t194, (t195.set (t199 : Int).toNat (⟨a1, ((rd_T81 l0_1 t199).f1).extract 0 ((mn a2 (((rd_T81 l0_1 t199).f1).size : Int)) : Int).toNat, ((rd_T81 l0_1 t199).f2).extract 0 ((wrap64 (a2 - (mn a2 (((rd_T81 l0_1 t199).f1).size : Int)))) : Int).toNat⟩ : S81)), 0)) else (none)) else (none)) else (none)) else (none)) else (none)) else (some (t194, t195, 2)))) else (none)) else (none))) = some (r1, r2, r3) := H
    have A20 := Aside0.mk A200
    clear A200
    by_cases c21 : t199 < 0
    ·rw [if_pos c21] at H
     have c21b0 : decide (t199 < 0) = true := decide_eq_true c21
     clear c21
     simp only [Option.some.injEq, Prod.mk.injEq] at H
     obtain ⟨rfl, rfl, rfl⟩ := H
     have hnb22 := NB190_191.out
     have hnc22 := NB191_190.out
     have hcz23_0 : wc.cell? ⟨gb190, 0, none⟩ = some (.int .i64 a0_0) := (blk_cell BK190.out 0).trans rfl
     have hcz23_1 : wc.cell? ⟨gb190, 1, none⟩ = some (.slice A0_1 l0_1.length c0_1) := (blk_cell BK190.out 1).trans rfl
     have hfz23_0 := blk_frozen BK190.out 0
     have hfz23_1 := blk_frozen BK190.out 1
     try go_wp2_with (first | ((with_reducible refine gate_callee (f := 110) rfl ?_); refine goesL_ (some 22) rfl rfl Try.func110 (by kernel_rfl) rfl #[.agg #[.int .i64 a0_0, .slice A0_1 l0_1.length c0_1]] rfl (by (try simp only [List.map_toArray, List.map_cons, List.map_nil]); first | done | rfl | (simp only [List.length_drop, List.length_take]; rfl)) ?_; (with_reducible refine (impl_copyDisk.calls a0_0 _ _ l0_1 t194 t195 _ ?side1 ?side2 A19.out).mono ?_); (case side1 => exact xcb HR0_1); (case side2 => exact HC0_1.out); rintro e w24 ⟨v196, rfl, ho0, hb⟩; refine ⟨_, rfl, ?_⟩; have HO197 := Aside0.mk (Kd.R_lower ho0 (below_size xbg)); replace BK190 := xbb BK190 hb; replace BK191 := xbb BK191 hb; replace HB := xbs hb; (try clear hb); (try clear hb2); (try clear hk); (try clear hi); (try clear ho0)) | ((with_reducible refine gate_dst (N := 8) rfl ?_); (try (refine gate_guard (by rfl) ?_; dsimp only)); refine box_event ?hg (N := 8) ?hd (cs := #[.int .i64 0, .slice none 0 0]) (t := 63) ?hr ?_; (case hd => rfl); (case hg => rfl); (case hr => first | (go_simp; done) | (go_simp; rfl)); intro gb198 hg w25 hbox hb; replace HO197 := Aside0.mk (Kd.R_below (by (with_reducible repeat (first | apply Kd.R_alloc | apply Kd.R_drewN | apply Kd.R_drew)); exact HO197.out) hb); have GW198 := Aside0.mk (xge hg); have GE198 := Aside0.mk (xge hg); replace HB := xbs hb; have NB190_198 := Aside0.mk ((by rw [hg]; exact Nat.ne_of_lt (blk_lt (g := gb190) (o := .cells #[.int .i64 a0_0, .slice A0_1 l0_1.length c0_1] 63 (0, 0)) xblk) : gb190 ≠ gb198)); have NB198_190 := Aside0.mk ((by rw [hg]; exact Nat.ne_of_gt (blk_lt (g := gb190) (o := .cells #[.int .i64 a0_0, .slice A0_1 l0_1.length c0_1] 63 (0, 0)) xblk) : gb198 ≠ gb190)); have NB191_198 := Aside0.mk ((by rw [hg]; exact Nat.ne_of_lt (blk_lt (g := gb191) (o := .cells #[.int .i64 0, .slice none 0 0] 63 (0, 0)) xblk) : gb191 ≠ gb198)); have NB198_191 := Aside0.mk ((by rw [hg]; exact Nat.ne_of_gt (blk_lt (g := gb191) (o := .cells #[.int .i64 0, .slice none 0 0] 63 (0, 0)) xblk) : gb198 ≠ gb191)); replace BK190 := xbb BK190 hb; replace BK191 := xbb BK191 hb; have BK198 := Aside0.mk (hbox); clear hb hbox hg; have hnb26 := NB198_190.out; have hnc26 := NB190_198.out; have hnb27 := NB198_191.out; have hnc27 := NB191_198.out; have hcz28_0 : w25.cell? ⟨gb198, 0, none⟩ = some (.int .i64 0) := (blk_cell BK198.out 0).trans rfl; have hcz28_1 : w25.cell? ⟨gb198, 1, none⟩ = some (.slice none 0 0) := (blk_cell BK198.out 1).trans rfl; have hfz28_0 := blk_frozen BK198.out 0; have hfz28_1 := blk_frozen BK198.out 1; obtain ⟨Ao29, co29, eo29⟩ := Kd.R_slice HO197.out; subst eo29; have hcz30_0 : w25.cell? ⟨gb190, 0, none⟩ = some (.int .i64 a0_0) := (blk_cell BK190.out 0).trans rfl; have hcz30_1 : w25.cell? ⟨gb190, 1, none⟩ = some (.slice A0_1 l0_1.length c0_1) := (blk_cell BK190.out 1).trans rfl; have hfz30_0 := blk_frozen BK190.out 0; have hfz30_1 := blk_frozen BK190.out 1) | ((with_reducible refine gate_callee (f := 111) rfl ?_); refine goesL_ (some 25) rfl rfl Try.func111 (by kernel_rfl) rfl #[.agg #[.int .i64 a0_0, .slice A0_1 l0_1.length c0_1], .int .i64 a1] rfl (by (try simp only [List.map_toArray, List.map_cons, List.map_nil]); first | done | rfl | (simp only [List.length_drop, List.length_take]; rfl)) ?_; (with_reducible refine (impl_fileAt.calls a0_0 _ _ l0_1 a1 t199 _ ?side1 ?side2 A20.out).mono ?_); (case side1 => exact Kd.C_below HR0_1.out xbg); (case side2 => exact HC0_1.out); rintro e w31 ⟨rfl, hb⟩; refine ⟨_, rfl, ?_⟩; replace HO197 := Aside0.mk (Kd.R_below (by (with_reducible repeat (first | apply Kd.R_alloc | apply Kd.R_drewN | apply Kd.R_drew)); exact (Kd.R_mono (Kd.R_far (p := ⟨gb198, 1, none⟩) (Kd.R_far (p := ⟨gb198, 0, none⟩) (Kd.R_types HO197.out BK198.out (by decide)) (fun _ hk => hk.2) (.int .i64 t194)) (fun _ hk => hk.2) (.slice Ao29 t195.length co29)) (fun _ h_ => h_.1))) hb); replace BK190 := Aside0.mk (blk_below (g := gb190) (o := .cells #[.int .i64 a0_0, .slice A0_1 l0_1.length c0_1] 63 (0, 0)) (by (with_reducible repeat (first | refine blk_drewN ?_ _ | refine blk_drew ?_ | refine blk_alloc ?_ _)); refine blk_far ?_ NB190_198.out _; (with_reducible repeat (first | refine blk_drewN ?_ _ | refine blk_drew ?_ | refine blk_alloc ?_ _)); refine blk_far ?_ NB190_198.out _; (with_reducible repeat (first | refine blk_drewN ?_ _ | refine blk_drew ?_ | refine blk_alloc ?_ _)); exact BK190.out) hb); replace BK191 := Aside0.mk (blk_below (g := gb191) (o := .cells #[.int .i64 0, .slice none 0 0] 63 (0, 0)) (by (with_reducible repeat (first | refine blk_drewN ?_ _ | refine blk_drew ?_ | refine blk_alloc ?_ _)); refine blk_far ?_ NB191_198.out _; (with_reducible repeat (first | refine blk_drewN ?_ _ | refine blk_drew ?_ | refine blk_alloc ?_ _)); refine blk_far ?_ NB191_198.out _; (with_reducible repeat (first | refine blk_drewN ?_ _ | refine blk_drew ?_ | refine blk_alloc ?_ _)); exact BK191.out) hb); replace BK198 := Aside0.mk (blk_below (g := gb198) (o := .cells #[.int .i64 t194, .slice Ao29 t195.length co29] 63 (0, 0)) (by (with_reducible repeat (first | refine blk_drewN ?_ _ | refine blk_drew ?_ | refine blk_alloc ?_ _)); refine blk_put (cs := #[.int .i64 t194, .slice none 0 0]) ?_ 1 _ rfl; (with_reducible repeat (first | refine blk_drewN ?_ _ | refine blk_drew ?_ | refine blk_alloc ?_ _)); refine blk_put (cs := #[.int .i64 0, .slice none 0 0]) ?_ 0 _ rfl; (with_reducible repeat (first | refine blk_drewN ?_ _ | refine blk_drew ?_ | refine blk_alloc ?_ _)); exact BK198.out) hb); replace HB := xbs hb; (try clear hb); (try clear hb2); (try clear hk); (try clear hi)))
     replace HO197 := Aside0.mk (Kd.R_drew HO197.out)
     replace BK190 := Aside0.mk (blk_drew BK190.out)
     replace BK191 := Aside0.mk (blk_drew BK191.out)
     replace BK198 := Aside0.mk (blk_drew BK198.out)
     replace HB := Aside0.mk (below_drew1 HB.out)
     refine start_ (n := 22) (S := fun w' => True) (ds := []) #[false, false, false, false, false, false, false, false, false, false, false, false, false, false, false, false, false, false, false, false, false, false] (by kernel_rfl) rfl rfl trivial (fun hHeld => ?_); refine with_tabW impl_DiskCut.tab5 impl_DiskCut.bits5 (fun HT_ HW_ => ?_)
     generalize w31.drew = w32 at HO197 BK190 BK191 BK198 HB hHeld ⊢
     refine pv_ 0 26 (h := ?_)
     refine pv_ 1 27 (h := ?_)
     refine pv_ 2 28 (h := ?_)
     refine pu_ 3 29 (h := ?_)
     refine pu_ 4 30 (h := ?_)
     refine pu_ 5 31 (h := ?_)
     refine pu_ 6 32 (h := ?_)
     refine pu_ 7 33 (h := ?_)
     refine pu_ 8 34 (h := ?_)
     refine pu_ 9 35 (h := ?_)
     refine pu_ 10 36 (h := ?_)
     refine pu_ 11 37 (h := ?_)
     refine pu_ 12 38 (h := ?_)
     refine pu_ 13 39 (h := ?_)
     refine pu_ 14 40 (h := ?_)
     refine pu_ 15 41 (h := ?_)
     refine pu_ 16 42 (h := ?_)
     refine pu_ 17 43 (h := ?_)
     refine pu_ 18 44 (h := ?_)
     refine pu_ 19 45 (h := ?_)
     refine pu_ 20 46 (h := ?_)
     refine pv_ 21 47 (h := ?_)
     refine done_ (done_of HT_.out (by kernel_rfl)) ?_
     have hcz33_0 : w32.cell? ⟨gb198, 0, none⟩ = some (.int .i64 t194) := (blk_cell BK198.out 0).trans rfl
     have hcz33_1 : w32.cell? ⟨gb198, 1, none⟩ = some (.slice Ao29 t195.length co29) := (blk_cell BK198.out 1).trans rfl
     have hfz33_0 := blk_frozen BK198.out 0
     have hfz33_1 := blk_frozen BK198.out 1
     have hcz34_0 : w32.cell? ⟨gb191, 0, none⟩ = some (.int .i64 0) := (blk_cell BK191.out 0).trans rfl
     have hcz34_1 : w32.cell? ⟨gb191, 1, none⟩ = some (.slice none 0 0) := (blk_cell BK191.out 1).trans rfl
     have hfz34_0 := blk_frozen BK191.out 0
     have hfz34_1 := blk_frozen BK191.out 1
     try go_wp2
     refine bodyPost_ret (results_ct rfl _ _ gb191 63 #[.int .i64 t194, .slice Ao29 t195.length co29] (0, 0) _ rfl (by (with_reducible repeat (first | refine blk_drewN ?_ _ | refine blk_drew ?_ | refine blk_alloc ?_ _)); refine blk_put (cs := #[.int .i64 t194, .slice none 0 0]) ?_ 1 _ rfl; (with_reducible repeat (first | refine blk_drewN ?_ _ | refine blk_drew ?_ | refine blk_alloc ?_ _)); refine blk_put (cs := #[.int .i64 0, .slice none 0 0]) ?_ 0 _ rfl; (with_reducible repeat (first | refine blk_drewN ?_ _ | refine blk_drew ?_ | refine blk_alloc ?_ _)); exact BK191.out) Try.underlying63 rfl (by kernel_rfl)) rfl ?_
     exact ⟨_, by first | rfl | (simp [errW_none, errW_some] <;> rfl) | (simp [*, errW_none, errW_some] <;> rfl), by (with_reducible repeat (first | apply Kd.R_alloc | apply Kd.R_drewN | apply Kd.R_drew)); exact Kd.R_mono (Kd.R_far (p := ⟨gb191, 1, none⟩) (Kd.R_far (p := ⟨gb191, 0, none⟩) (Kd.R_types HO197.out BK191.out (by decide)) (fun _ hk => hk.2) (.int .i64 t194)) (fun _ hk => hk.2) (.slice Ao29 t195.length co29)) (fun _ hk => trivial), xbg⟩
    ·rw [if_neg c21] at H
     have c21b0 : decide (t199 < 0) = false := decide_eq_false c21
     clear c21
     by_cases c35 : 0 ≤ t199
     ·rw [if_pos c35] at H
      have c35b0 : decide (0 ≤ t199) = true := decide_eq_true c35
      clear c35
      by_cases c36 : t199 < (l0_1.length : Int)
      ·rw [if_pos c36] at H
       have c36b0 : decide (t199 < (l0_1.length : Int)) = true := decide_eq_true c36
       clear c36
       replace H := Option.bind_eq_some_iff.mp H
       obtain ⟨t202, A370, H⟩ := H
       replace H : (if t202 = true then (if 0 ≤ (mn a2 (((rd_T81 l0_1 t199).f1).size : Int)) then (if (mn a2 (((rd_T81 l0_1 t199).f1).size : Int)) ≤ (((rd_T81 l0_1 t199).f1).size : Int) then (if 0 ≤ (wrap64 (a2 - (mn a2 (((rd_T81 l0_1 t199).f1).size : Int)))) then (if (wrap64 (a2 - (mn a2 (((rd_T81 l0_1 t199).f1).size : Int)))) ≤ (((rd_T81 l0_1 t199).f2).size : Int) then (if t199 < (t195.length : Int) then (some (t194, (t195.set (t199 : Int).toNat (⟨a1, ((rd_T81 l0_1 t199).f1).extract 0 ((mn a2 (((rd_T81 l0_1 t199).f1).size : Int)) : Int).toNat, ((rd_T81 l0_1 t199).f2).extract 0 ((wrap64 (a2 - (mn a2 (((rd_T81 l0_1 t199).f1).size : Int)))) : Int).toNat⟩ : S81)), 0)) else (none)) else (none)) else (none)) else (none)) else (none)) else (some (t194, t195, 2))) = some (r1, r2, r3) := H
       have A37 := Aside0.mk A370
       clear A370
       by_cases c38 : t202 = true
       ·subst c38
        have H1 : (if 0 ≤ (mn a2 (((rd_T81 l0_1 t199).f1).size : Int)) then (if (mn a2 (((rd_T81 l0_1 t199).f1).size : Int)) ≤ (((rd_T81 l0_1 t199).f1).size : Int) then (if 0 ≤ (wrap64 (a2 - (mn a2 (((rd_T81 l0_1 t199).f1).size : Int)))) then (if (wrap64 (a2 - (mn a2 (((rd_T81 l0_1 t199).f1).size : Int)))) ≤ (((rd_T81 l0_1 t199).f2).size : Int) then (if t199 < (t195.length : Int) then (some (t194, (t195.set (t199 : Int).toNat (⟨a1, ((rd_T81 l0_1 t199).f1).extract 0 ((mn a2 (((rd_T81 l0_1 t199).f1).size : Int)) : Int).toNat, ((rd_T81 l0_1 t199).f2).extract 0 ((wrap64 (a2 - (mn a2 (((rd_T81 l0_1 t199).f1).size : Int)))) : Int).toNat⟩ : S81)), 0)) else (none)) else (none)) else (none)) else (none)) else (none)) = some (r1, r2, r3) := by rw [if_pos rfl] at H; exact H
        clear H
        have H := H1
        clear H1
        obtain ⟨ji39, hji39⟩ : ∃ j_ : Int, (mn a2 (((rd_T81 l0_1 t199).f1).size : Int)) = j_ := ⟨_, rfl⟩
        replace H : (if 0 ≤ (ji39) then (if (ji39) ≤ (((rd_T81 l0_1 t199).f1).size : Int) then (if 0 ≤ (wrap64 (a2 - (ji39))) then (if (wrap64 (a2 - (ji39))) ≤ (((rd_T81 l0_1 t199).f2).size : Int) then (if t199 < (t195.length : Int) then (some (t194, (t195.set (t199 : Int).toNat (⟨a1, ((rd_T81 l0_1 t199).f1).extract 0 ((ji39) : Int).toNat, ((rd_T81 l0_1 t199).f2).extract 0 ((wrap64 (a2 - (ji39))) : Int).toNat⟩ : S81)), 0)) else (none)) else (none)) else (none)) else (none)) else (none)) = some (r1, r2, r3) := by first | (rw [hji39] at H; exact H) | (simp only [hji39] at H ⊢; exact H)
        (try rw [hji39] at A19)
        (try rw [hji39] at A20)
        (try rw [hji39] at A37)
        have hji39_ : (if (((rd_T81 l0_1 t199).f1).size : Int) < a2 then (((rd_T81 l0_1 t199).f1).size : Int) else a2) = ji39 := hji39
        by_cases c40 : 0 ≤ (ji39)
        ·rw [if_pos c40] at H
         have c40b0 := eq_true c40
         have c40b1 : decide (0 ≤ (ji39)) = true := decide_eq_true c40
         clear c40
         by_cases c41 : (ji39) ≤ (((rd_T81 l0_1 t199).f1).size : Int)
         ·rw [if_pos c41] at H
          have c41b0 := eq_true c41
          have c41b1 : decide ((ji39) ≤ (((rd_T81 l0_1 t199).f1).size : Int)) = true := decide_eq_true c41
          clear c41
          obtain ⟨ji42, hji42⟩ : ∃ j_ : Int, (wrap64 (a2 - (ji39))) = j_ := ⟨_, rfl⟩
          replace H : (if 0 ≤ (ji42) then (if (ji42) ≤ (((rd_T81 l0_1 t199).f2).size : Int) then (if t199 < (t195.length : Int) then (some (t194, (t195.set (t199 : Int).toNat (⟨a1, ((rd_T81 l0_1 t199).f1).extract 0 ((ji39) : Int).toNat, ((rd_T81 l0_1 t199).f2).extract 0 ((ji42) : Int).toNat⟩ : S81)), 0)) else (none)) else (none)) else (none)) = some (r1, r2, r3) := by first | (rw [hji42] at H; exact H) | (simp only [hji42] at H ⊢; exact H)
          (try rw [hji42] at A19)
          (try rw [hji42] at A20)
          (try rw [hji42] at A37)
          have hji42w : (IntKind.i64.wrap (a2 - (ji39))) = ji42 := (i64_w _).trans hji42
          by_cases c43 : 0 ≤ (ji42)
          ·rw [if_pos c43] at H
           have c43b0 := eq_true c43
           have c43b1 : decide (0 ≤ (ji42)) = true := decide_eq_true c43
           clear c43
           by_cases c44 : (ji42) ≤ (((rd_T81 l0_1 t199).f2).size : Int)
           ·rw [if_pos c44] at H
            have c44b0 := eq_true c44
            have c44b1 : decide ((ji42) ≤ (((rd_T81 l0_1 t199).f2).size : Int)) = true := decide_eq_true c44
            clear c44
            by_cases c45 : t199 < (t195.length : Int)
            ·rw [if_pos c45] at H
             have c45b0 : decide (t199 < (t195.length : Int)) = true := decide_eq_true c45
             clear c45
             obtain ⟨y205, hy205⟩ : ∃ y_ : List (S81), y_ = (t195.set (t199 : Int).toNat (⟨a1, ((rd_T81 l0_1 t199).f1).extract 0 ((ji39) : Int).toNat, ((rd_T81 l0_1 t199).f2).extract 0 ((ji42) : Int).toNat⟩ : S81)) := ⟨_, rfl⟩
             replace H : (some (t194, y205, 0)) = some (r1, r2, r3) := by first | (rw [hy205]; with_reducible exact H) | (have H2_ := (Option.bind_some _ _).symm.trans H; rw [hy205]; with_reducible exact H2_) | (have H2_ := (Option.bind_some _ _).symm.trans H; with_reducible exact H2_) | with_reducible exact H | (rw [hy205]; exact H) | exact H
             have Ny205 := Aside0.mk hy205
             clear hy205
             simp only [Option.some.injEq, Prod.mk.injEq] at H
             obtain ⟨rfl, rfl, rfl⟩ := H
             have hnb47 := NB190_191.out
             have hnc47 := NB191_190.out
             have hcz48_0 : wc.cell? ⟨gb190, 0, none⟩ = some (.int .i64 a0_0) := (blk_cell BK190.out 0).trans rfl
             have hcz48_1 : wc.cell? ⟨gb190, 1, none⟩ = some (.slice A0_1 l0_1.length c0_1) := (blk_cell BK190.out 1).trans rfl
             have hfz48_0 := blk_frozen BK190.out 0
             have hfz48_1 := blk_frozen BK190.out 1
             try go_wp2_with (first | ((with_reducible refine gate_callee (f := 110) rfl ?_); refine goesL_ (some 22) rfl rfl Try.func110 (by kernel_rfl) rfl #[.agg #[.int .i64 a0_0, .slice A0_1 l0_1.length c0_1]] rfl (by (try simp only [List.map_toArray, List.map_cons, List.map_nil]); first | done | rfl | (simp only [List.length_drop, List.length_take]; rfl)) ?_; (with_reducible refine (impl_copyDisk.calls a0_0 _ _ l0_1 t194 t195 _ ?side1 ?side2 A19.out).mono ?_); (case side1 => exact xcb HR0_1); (case side2 => exact HC0_1.out); rintro e w49 ⟨v196, rfl, ho0, hb⟩; refine ⟨_, rfl, ?_⟩; have HO197 := Aside0.mk (Kd.R_lower ho0 (below_size xbg)); replace BK190 := xbb BK190 hb; replace BK191 := xbb BK191 hb; replace HB := xbs hb; (try clear hb); (try clear hb2); (try clear hk); (try clear hi); (try clear ho0)) | ((with_reducible refine gate_dst (N := 8) rfl ?_); (try (refine gate_guard (by rfl) ?_; dsimp only)); refine box_event ?hg (N := 8) ?hd (cs := #[.int .i64 0, .slice none 0 0]) (t := 63) ?hr ?_; (case hd => rfl); (case hg => rfl); (case hr => first | (go_simp; done) | (go_simp; rfl)); intro gb198 hg w50 hbox hb; replace HO197 := Aside0.mk (Kd.R_below (by (with_reducible repeat (first | apply Kd.R_alloc | apply Kd.R_drewN | apply Kd.R_drew)); exact HO197.out) hb); have GW198 := Aside0.mk (xge hg); have GE198 := Aside0.mk (xge hg); replace HB := xbs hb; have NB190_198 := Aside0.mk ((by rw [hg]; exact Nat.ne_of_lt (blk_lt (g := gb190) (o := .cells #[.int .i64 a0_0, .slice A0_1 l0_1.length c0_1] 63 (0, 0)) xblk) : gb190 ≠ gb198)); have NB198_190 := Aside0.mk ((by rw [hg]; exact Nat.ne_of_gt (blk_lt (g := gb190) (o := .cells #[.int .i64 a0_0, .slice A0_1 l0_1.length c0_1] 63 (0, 0)) xblk) : gb198 ≠ gb190)); have NB191_198 := Aside0.mk ((by rw [hg]; exact Nat.ne_of_lt (blk_lt (g := gb191) (o := .cells #[.int .i64 0, .slice none 0 0] 63 (0, 0)) xblk) : gb191 ≠ gb198)); have NB198_191 := Aside0.mk ((by rw [hg]; exact Nat.ne_of_gt (blk_lt (g := gb191) (o := .cells #[.int .i64 0, .slice none 0 0] 63 (0, 0)) xblk) : gb198 ≠ gb191)); replace BK190 := xbb BK190 hb; replace BK191 := xbb BK191 hb; have BK198 := Aside0.mk (hbox); clear hb hbox hg; have hnb51 := NB198_190.out; have hnc51 := NB190_198.out; have hnb52 := NB198_191.out; have hnc52 := NB191_198.out; have hcz53_0 : w50.cell? ⟨gb198, 0, none⟩ = some (.int .i64 0) := (blk_cell BK198.out 0).trans rfl; have hcz53_1 : w50.cell? ⟨gb198, 1, none⟩ = some (.slice none 0 0) := (blk_cell BK198.out 1).trans rfl; have hfz53_0 := blk_frozen BK198.out 0; have hfz53_1 := blk_frozen BK198.out 1; obtain ⟨Ao54, co54, eo54⟩ := Kd.R_slice HO197.out; subst eo54; have hcz55_0 : w50.cell? ⟨gb190, 0, none⟩ = some (.int .i64 a0_0) := (blk_cell BK190.out 0).trans rfl; have hcz55_1 : w50.cell? ⟨gb190, 1, none⟩ = some (.slice A0_1 l0_1.length c0_1) := (blk_cell BK190.out 1).trans rfl; have hfz55_0 := blk_frozen BK190.out 0; have hfz55_1 := blk_frozen BK190.out 1) | ((with_reducible refine gate_callee (f := 111) rfl ?_); refine goesL_ (some 25) rfl rfl Try.func111 (by kernel_rfl) rfl #[.agg #[.int .i64 a0_0, .slice A0_1 l0_1.length c0_1], .int .i64 a1] rfl (by (try simp only [List.map_toArray, List.map_cons, List.map_nil]); first | done | rfl | (simp only [List.length_drop, List.length_take]; rfl)) ?_; (with_reducible refine (impl_fileAt.calls a0_0 _ _ l0_1 a1 t199 _ ?side1 ?side2 A20.out).mono ?_); (case side1 => exact Kd.C_below HR0_1.out xbg); (case side2 => exact HC0_1.out); rintro e w56 ⟨rfl, hb⟩; refine ⟨_, rfl, ?_⟩; replace HO197 := Aside0.mk (Kd.R_below (by (with_reducible repeat (first | apply Kd.R_alloc | apply Kd.R_drewN | apply Kd.R_drew)); exact (Kd.R_mono (Kd.R_far (p := ⟨gb198, 1, none⟩) (Kd.R_far (p := ⟨gb198, 0, none⟩) (Kd.R_types HO197.out BK198.out (by decide)) (fun _ hk => hk.2) (.int .i64 t194)) (fun _ hk => hk.2) (.slice Ao54 t195.length co54)) (fun _ h_ => h_.1))) hb); replace BK190 := Aside0.mk (blk_below (g := gb190) (o := .cells #[.int .i64 a0_0, .slice A0_1 l0_1.length c0_1] 63 (0, 0)) (by (with_reducible repeat (first | refine blk_drewN ?_ _ | refine blk_drew ?_ | refine blk_alloc ?_ _)); refine blk_far ?_ NB190_198.out _; (with_reducible repeat (first | refine blk_drewN ?_ _ | refine blk_drew ?_ | refine blk_alloc ?_ _)); refine blk_far ?_ NB190_198.out _; (with_reducible repeat (first | refine blk_drewN ?_ _ | refine blk_drew ?_ | refine blk_alloc ?_ _)); exact BK190.out) hb); replace BK191 := Aside0.mk (blk_below (g := gb191) (o := .cells #[.int .i64 0, .slice none 0 0] 63 (0, 0)) (by (with_reducible repeat (first | refine blk_drewN ?_ _ | refine blk_drew ?_ | refine blk_alloc ?_ _)); refine blk_far ?_ NB191_198.out _; (with_reducible repeat (first | refine blk_drewN ?_ _ | refine blk_drew ?_ | refine blk_alloc ?_ _)); refine blk_far ?_ NB191_198.out _; (with_reducible repeat (first | refine blk_drewN ?_ _ | refine blk_drew ?_ | refine blk_alloc ?_ _)); exact BK191.out) hb); replace BK198 := Aside0.mk (blk_below (g := gb198) (o := .cells #[.int .i64 t194, .slice Ao54 t195.length co54] 63 (0, 0)) (by (with_reducible repeat (first | refine blk_drewN ?_ _ | refine blk_drew ?_ | refine blk_alloc ?_ _)); refine blk_put (cs := #[.int .i64 t194, .slice none 0 0]) ?_ 1 _ rfl; (with_reducible repeat (first | refine blk_drewN ?_ _ | refine blk_drew ?_ | refine blk_alloc ?_ _)); refine blk_put (cs := #[.int .i64 0, .slice none 0 0]) ?_ 0 _ rfl; (with_reducible repeat (first | refine blk_drewN ?_ _ | refine blk_drew ?_ | refine blk_alloc ?_ _)); exact BK198.out) hb); replace HB := xbs hb; (try clear hb); (try clear hb2); (try clear hk); (try clear hi)))
             replace HO197 := Aside0.mk (Kd.R_drew HO197.out)
             replace BK190 := Aside0.mk (blk_drew BK190.out)
             replace BK191 := Aside0.mk (blk_drew BK191.out)
             replace BK198 := Aside0.mk (blk_drew BK198.out)
             replace HB := Aside0.mk (below_drew1 HB.out)
             have p200 : 0 ≤ (t199 : Int) := of_decide_eq_true (by first | (with_reducible assumption) | assumption)
             have q200 : t199 < (l0_1.length : Int) := of_decide_eq_true (by first | (with_reducible assumption) | assumption)
             obtain ⟨ad200, e200, hx200_0, hx200_1, hx200_2⟩ := at_T81 HR0_1.out t199 p200 q200
             have hw200_2 := hx200_2
             have hw200_1 := hx200_1
             have hw200_0 := hx200_0
             cases e200
             replace hx200_0 := xce HB hx200_0
             replace hx200_1 := xce HB hx200_1
             replace hx200_2 := xce HB hx200_2
             replace p200 := eq_true p200
             replace q200 := eq_true q200
             have p201 : 0 ≤ (t199 : Int) := of_decide_eq_true (by first | (with_reducible assumption) | assumption)
             have q201 : t199 < (l0_1.length : Int) := of_decide_eq_true (by first | (with_reducible assumption) | assumption)
             obtain ⟨ad201, e201, hx201_0, hx201_1, hx201_2⟩ := at_T81 HR0_1.out t199 p201 q201
             have hw201_2 := hx201_2
             have hw201_1 := hx201_1
             have hw201_0 := hx201_0
             obtain rfl : ad200 = ad201 := (by injection e201)
             replace hx201_0 := xce HB hx201_0
             replace hx201_1 := xce HB hx201_1
             replace hx201_2 := xce HB hx201_2
             replace p201 := eq_true p201
             replace q201 := eq_true q201
             refine start_ (n := 22) (S := fun w' => w'.cell? ⟨gb190, 0, none⟩ = some (.int .i64 a0_0) ∧ w'.cell? ⟨gb190, 1, none⟩ = some (.slice (some ad200) l0_1.length c0_1) ∧ w'.cell? (ad200.add ((t199).toNat * 3)) = some (.int .i64 ((rd_T81 l0_1 t199).f0)) ∧ w'.cell? ⟨(ad200.add ((t199).toNat * 3)).block, (ad200.add ((t199).toNat * 3)).off + 1, none⟩ = some (.string ((rd_T81 l0_1 t199).f1)) ∧ w'.cell? ⟨(ad200.add ((t199).toNat * 3)).block, (ad200.add ((t199).toNat * 3)).off + 2, none⟩ = some (.string ((rd_T81 l0_1 t199).f2)) ∧ w'.cell? (ad200.add ((t199).toNat * 3)) = some (.int .i64 ((rd_T81 l0_1 t199).f0)) ∧ w'.cell? ⟨(ad200.add ((t199).toNat * 3)).block, (ad200.add ((t199).toNat * 3)).off + 1, none⟩ = some (.string ((rd_T81 l0_1 t199).f1)) ∧ w'.cell? ⟨(ad200.add ((t199).toNat * 3)).block, (ad200.add ((t199).toNat * 3)).off + 2, none⟩ = some (.string ((rd_T81 l0_1 t199).f2))) (ds := []) #[false, false, false, false, false, false, false, false, false, false, false, false, false, false, false, false, false, false, false, false, false, false] (by kernel_rfl) rfl rfl ⟨(blk_cell BK190.out 0).trans rfl, (blk_cell BK190.out 1).trans rfl, (xce HB hw200_0), (xce HB hw200_1), (xce HB hw200_2), (xce HB hw201_0), (xce HB hw201_1), (xce HB hw201_2)⟩ (fun hHeld => ?_); refine with_tabW impl_DiskCut.tab5 impl_DiskCut.bits5 (fun HT_ HW_ => ?_)
             generalize w56.drew = w57 at HO197 BK190 BK191 BK198 HB hx200_0 hx200_1 hx200_2 hx201_0 hx201_1 hx201_2 hHeld ⊢
             refine pv_ 0 26 (h := ?_)
             refine pv_ 1 27 (h := ?_)
             refine pv_ 2 28 (h := ?_)
             refine pv_ 3 29 (h := ?_)
             refine pv_ 4 30 (h := ?_)
             refine pv_ 6 32 (h := ?_)
             refine pv_ 11 37 (h := ?_)
             refine pv_ 13 39 (h := ?_)
             refine tk_ 5 31 (h := ?_)
             refine pv_ 7 33 (h := ?_)
             refine pv_ 8 34 (h := ?_)
             refine tk_ 9 35 (h := ?_)
             refine pv_ 10 36 (h := ?_)
             refine tk_ 12 38 (h := ?_)
             refine pv_ 14 40 (h := ?_)
             refine pv_ 15 41 (h := ?_)
             refine tk_ 16 42 (h := ?_)
             refine pv_ 17 43 (h := ?_)
             refine pv_ 18 44 (h := ?_)
             refine on_ 19 45 (h := fun K hK => ?_)
             refine goes_ Try.func79 (by kernel_rfl) rfl #[.int .i64 a2, .int .i64 0, .int .i64 (wrap64 ((((rd_T81 l0_1 t199).f1).size : Int) + (((rd_T81 l0_1 t199).f2).size : Int)))] (by rfl) rfl rfl (by (try simp only [List.map_toArray, List.map_cons, List.map_nil]); first | done | rfl | (simp only [List.length_drop, List.length_take]; rfl)) ?_
             with_reducible refine (impl_within.calls a2 0 (wrap64 ((((rd_T81 l0_1 t199).f1).size : Int) + (((rd_T81 l0_1 t199).f2).size : Int))) true _ A37.out).mono ?_
             rintro e w' ⟨rfl, ⟨nd, rfl⟩⟩
             refine ⟨_, rfl, ?_⟩
             refine hK.out _ _ ⟨(blk_cell BK190.out 0).trans rfl, (blk_cell BK190.out 1).trans rfl, (xce HB hw200_0), (xce HB hw200_1), (xce HB hw200_2), (xce HB hw201_0), (xce HB hw201_1), (xce HB hw201_2)⟩ (fun hHeld => ?_)
             clear hK K
             refine norm_ (a' := ?_) ?_ ?_
             rotate_left
             ·show Act.put _ (some 45) _ = _
              simp only [Act.put, List.setIfInBounds_toArray, List.set_cons_zero, List.set_cons_succ, i64_w, i32_w]
              rfl
             refine pv_ 20 46 (h := ?_)
             refine pv_ 21 47 (h := ?_)
             refine done_ (done_of HT_.out (by kernel_rfl)) ?_
             have hcz58_0 : w57.cell? ⟨gb190, 0, none⟩ = some (.int .i64 a0_0) := (blk_cell BK190.out 0).trans rfl
             have hcz58_1 : w57.cell? ⟨gb190, 1, none⟩ = some (.slice (some ad200) l0_1.length c0_1) := (blk_cell BK190.out 1).trans rfl
             have hfz58_0 := blk_frozen BK190.out 0
             have hfz58_1 := blk_frozen BK190.out 1
             have p203 : 0 ≤ (t199 : Int) := of_decide_eq_true (by first | (with_reducible assumption) | assumption)
             have q203 : t199 < (l0_1.length : Int) := of_decide_eq_true (by first | (with_reducible assumption) | assumption)
             obtain ⟨ad203, e203, hx203_0, hx203_1, hx203_2⟩ := at_T81 HR0_1.out t199 p203 q203
             obtain rfl : ad200 = ad203 := (by injection e203)
             replace hx203_0 := xce HB hx203_0
             replace hx203_1 := xce HB hx203_1
             replace hx203_2 := xce HB hx203_2
             replace p203 := eq_true p203
             replace q203 := eq_true q203
             try go_wp2_with (first | ((with_reducible refine gate_dst (N := 10) rfl ?_); (try (refine gate_guard (by rfl) ?_; dsimp only)); refine box_event ?hg (N := 10) ?hd (cs := #[.int .i64 0, .string (⟨#[]⟩ : ByteArray), .string (⟨#[]⟩ : ByteArray)]) (t := 81) ?hr ?_; (case hd => rfl); (case hg => rfl); (case hr => first | (go_simp; done) | (go_simp; rfl)); intro gb204 hg w59 hbox hb; replace HO197 := Aside0.mk (Kd.R_below (Kd.R_elderB (by (with_reducible repeat (first | apply Kd.R_alloc | apply Kd.R_drewN | apply Kd.R_drew)); exact HO197.out) gb204 (Nat.le_of_eq hg.symm)) hb); have GW204 := Aside0.mk (xge hg); have GE204 := Aside0.mk (xge hg); replace HB := xbs hb; have NB190_204 := Aside0.mk ((by rw [hg]; exact Nat.ne_of_lt (blk_lt (g := gb190) (o := .cells #[.int .i64 a0_0, .slice (some ad200) l0_1.length c0_1] 63 (0, 0)) xblk) : gb190 ≠ gb204)); have NB204_190 := Aside0.mk ((by rw [hg]; exact Nat.ne_of_gt (blk_lt (g := gb190) (o := .cells #[.int .i64 a0_0, .slice (some ad200) l0_1.length c0_1] 63 (0, 0)) xblk) : gb204 ≠ gb190)); have NB191_204 := Aside0.mk ((by rw [hg]; exact Nat.ne_of_lt (blk_lt (g := gb191) (o := .cells #[.int .i64 0, .slice none 0 0] 63 (0, 0)) xblk) : gb191 ≠ gb204)); have NB204_191 := Aside0.mk ((by rw [hg]; exact Nat.ne_of_gt (blk_lt (g := gb191) (o := .cells #[.int .i64 0, .slice none 0 0] 63 (0, 0)) xblk) : gb204 ≠ gb191)); have NB198_204 := Aside0.mk ((by rw [hg]; exact Nat.ne_of_lt (blk_lt (g := gb198) (o := .cells #[.int .i64 t194, .slice Ao54 t195.length co54] 63 (0, 0)) xblk) : gb198 ≠ gb204)); have NB204_198 := Aside0.mk ((by rw [hg]; exact Nat.ne_of_gt (blk_lt (g := gb198) (o := .cells #[.int .i64 t194, .slice Ao54 t195.length co54] 63 (0, 0)) xblk) : gb204 ≠ gb198)); replace BK190 := xbb BK190 hb; replace BK191 := xbb BK191 hb; replace BK198 := xbb BK198 hb; have BK204 := Aside0.mk (hbox); clear hb hbox hg; have hnb60 := NB204_190.out; have hnc60 := NB190_204.out; have hnb61 := NB204_191.out; have hnc61 := NB191_204.out; have hnb62 := NB204_198.out; have hnc62 := NB198_204.out; have hcz63_0 : w59.cell? ⟨gb204, 0, none⟩ = some (.int .i64 0) := (blk_cell BK204.out 0).trans rfl; have hcz63_1 : w59.cell? ⟨gb204, 1, none⟩ = some (.string (⟨#[]⟩ : ByteArray)) := (blk_cell BK204.out 1).trans rfl; have hcz63_2 : w59.cell? ⟨gb204, 2, none⟩ = some (.string (⟨#[]⟩ : ByteArray)) := (blk_cell BK204.out 2).trans rfl; have hfz63_0 := blk_frozen BK204.out 0; have hfz63_1 := blk_frozen BK204.out 1; have hfz63_2 := blk_frozen BK204.out 2))
             have n0_ : Aside0 (Kd.R k81 81 (((w59.setCell ⟨gb204, 0, none⟩ (.int .i64 ((rd_T81 l0_1 t199).f0))).setCell ⟨gb204, 1, none⟩ (.string ((rd_T81 l0_1 t199).f1))).setCell ⟨gb204, 2, none⟩ (.string ((rd_T81 l0_1 t199).f2))) w.heap.size (fun k_ => k_ ≠ gb204) (.slice Ao54 t195.length co54) t195) := ⟨by (with_reducible repeat (first | apply Kd.R_alloc | apply Kd.R_drewN | apply Kd.R_drew)); exact Kd.R_mono (Kd.R_far (p := ⟨gb204, 2, none⟩) (Kd.R_far (p := ⟨gb204, 1, none⟩) (Kd.R_far (p := ⟨gb204, 0, none⟩) (Kd.R_mono HO197.out (fun k_ hk => (⟨hk, hk.2⟩ : _ ∧ k_ ≠ gb204))) (fun _ hk => hk.2) (.int .i64 ((rd_T81 l0_1 t199).f0))) (fun _ hk => hk.2) (.string ((rd_T81 l0_1 t199).f1))) (fun _ hk => hk.2) (.string ((rd_T81 l0_1 t199).f2))) (fun _ hk => hk.1.2)⟩
             have n1_ : Aside0 ((((w59.setCell ⟨gb204, 0, none⟩ (.int .i64 ((rd_T81 l0_1 t199).f0))).setCell ⟨gb204, 1, none⟩ (.string ((rd_T81 l0_1 t199).f1))).setCell ⟨gb204, 2, none⟩ (.string ((rd_T81 l0_1 t199).f2))).heap[gb190]? = some (.cells #[.int .i64 a0_0, .slice (some ad200) l0_1.length c0_1] 63 (0, 0))) := ⟨by (with_reducible repeat (first | refine blk_drewN ?_ _ | refine blk_drew ?_ | refine blk_alloc ?_ _)); refine blk_far ?_ NB190_204.out _; (with_reducible repeat (first | refine blk_drewN ?_ _ | refine blk_drew ?_ | refine blk_alloc ?_ _)); refine blk_far ?_ NB190_204.out _; (with_reducible repeat (first | refine blk_drewN ?_ _ | refine blk_drew ?_ | refine blk_alloc ?_ _)); refine blk_far ?_ NB190_204.out _; (with_reducible repeat (first | refine blk_drewN ?_ _ | refine blk_drew ?_ | refine blk_alloc ?_ _)); exact BK190.out⟩
             have n2_ : Aside0 ((((w59.setCell ⟨gb204, 0, none⟩ (.int .i64 ((rd_T81 l0_1 t199).f0))).setCell ⟨gb204, 1, none⟩ (.string ((rd_T81 l0_1 t199).f1))).setCell ⟨gb204, 2, none⟩ (.string ((rd_T81 l0_1 t199).f2))).heap[gb191]? = some (.cells #[.int .i64 0, .slice none 0 0] 63 (0, 0))) := ⟨by (with_reducible repeat (first | refine blk_drewN ?_ _ | refine blk_drew ?_ | refine blk_alloc ?_ _)); refine blk_far ?_ NB191_204.out _; (with_reducible repeat (first | refine blk_drewN ?_ _ | refine blk_drew ?_ | refine blk_alloc ?_ _)); refine blk_far ?_ NB191_204.out _; (with_reducible repeat (first | refine blk_drewN ?_ _ | refine blk_drew ?_ | refine blk_alloc ?_ _)); refine blk_far ?_ NB191_204.out _; (with_reducible repeat (first | refine blk_drewN ?_ _ | refine blk_drew ?_ | refine blk_alloc ?_ _)); exact BK191.out⟩
             have n3_ : Aside0 ((((w59.setCell ⟨gb204, 0, none⟩ (.int .i64 ((rd_T81 l0_1 t199).f0))).setCell ⟨gb204, 1, none⟩ (.string ((rd_T81 l0_1 t199).f1))).setCell ⟨gb204, 2, none⟩ (.string ((rd_T81 l0_1 t199).f2))).heap[gb198]? = some (.cells #[.int .i64 t194, .slice Ao54 t195.length co54] 63 (0, 0))) := ⟨by (with_reducible repeat (first | refine blk_drewN ?_ _ | refine blk_drew ?_ | refine blk_alloc ?_ _)); refine blk_far ?_ NB198_204.out _; (with_reducible repeat (first | refine blk_drewN ?_ _ | refine blk_drew ?_ | refine blk_alloc ?_ _)); refine blk_far ?_ NB198_204.out _; (with_reducible repeat (first | refine blk_drewN ?_ _ | refine blk_drew ?_ | refine blk_alloc ?_ _)); refine blk_far ?_ NB198_204.out _; (with_reducible repeat (first | refine blk_drewN ?_ _ | refine blk_drew ?_ | refine blk_alloc ?_ _)); exact BK198.out⟩
             have n4_ : Aside0 ((((w59.setCell ⟨gb204, 0, none⟩ (.int .i64 ((rd_T81 l0_1 t199).f0))).setCell ⟨gb204, 1, none⟩ (.string ((rd_T81 l0_1 t199).f1))).setCell ⟨gb204, 2, none⟩ (.string ((rd_T81 l0_1 t199).f2))).heap[gb204]? = some (.cells #[.int .i64 ((rd_T81 l0_1 t199).f0), .string ((rd_T81 l0_1 t199).f1), .string ((rd_T81 l0_1 t199).f2)] 81 (0, 0))) := ⟨by (with_reducible repeat (first | refine blk_drewN ?_ _ | refine blk_drew ?_ | refine blk_alloc ?_ _)); refine blk_put (cs := #[.int .i64 ((rd_T81 l0_1 t199).f0), .string ((rd_T81 l0_1 t199).f1), .string (⟨#[]⟩ : ByteArray)]) ?_ 2 _ rfl; (with_reducible repeat (first | refine blk_drewN ?_ _ | refine blk_drew ?_ | refine blk_alloc ?_ _)); refine blk_put (cs := #[.int .i64 ((rd_T81 l0_1 t199).f0), .string (⟨#[]⟩ : ByteArray), .string (⟨#[]⟩ : ByteArray)]) ?_ 1 _ rfl; (with_reducible repeat (first | refine blk_drewN ?_ _ | refine blk_drew ?_ | refine blk_alloc ?_ _)); refine blk_put (cs := #[.int .i64 0, .string (⟨#[]⟩ : ByteArray), .string (⟨#[]⟩ : ByteArray)]) ?_ 0 _ rfl; (with_reducible repeat (first | refine blk_drewN ?_ _ | refine blk_drew ?_ | refine blk_alloc ?_ _)); exact BK204.out⟩
             have n5_ : Aside0 (Below w.heap.size w (((w59.setCell ⟨gb204, 0, none⟩ (.int .i64 ((rd_T81 l0_1 t199).f0))).setCell ⟨gb204, 1, none⟩ (.string ((rd_T81 l0_1 t199).f1))).setCell ⟨gb204, 2, none⟩ (.string ((rd_T81 l0_1 t199).f2)))) := ⟨xbg⟩
             (try clear HO197); (try clear BK190); (try clear BK191); (try clear BK198); (try clear BK204); (try clear HB)
             generalize (((w59.setCell ⟨gb204, 0, none⟩ (.int .i64 ((rd_T81 l0_1 t199).f0))).setCell ⟨gb204, 1, none⟩ (.string ((rd_T81 l0_1 t199).f1))).setCell ⟨gb204, 2, none⟩ (.string ((rd_T81 l0_1 t199).f2))) = w64 at n0_ n1_ n2_ n3_ n4_ n5_ ⊢
             have HO197 := n0_
             have BK190 := n1_
             have BK191 := n2_
             have BK198 := n3_
             have BK204 := n4_
             have HB := n5_
             clear n0_ n1_ n2_ n3_ n4_ n5_
             replace HO197 := Aside0.mk (Kd.R_drew HO197.out)
             replace BK190 := Aside0.mk (blk_drew BK190.out)
             replace BK191 := Aside0.mk (blk_drew BK191.out)
             replace BK198 := Aside0.mk (blk_drew BK198.out)
             replace BK204 := Aside0.mk (blk_drew BK204.out)
             replace HB := Aside0.mk (below_drew1 HB.out)
             have p46 : 0 ≤ (t199 : Int) := of_decide_eq_true (by first | (with_reducible assumption) | assumption)
             have q46 : (t199 : Int) < ((t195.length : Int) : Int) := of_decide_eq_true (by first | (with_reducible assumption) | assumption)
             obtain ⟨go46, co46, eo46, gb46, gl46, cl46, HG46⟩ := Kd.R_form HO197.out (by omega)
             (first | cases eo46 | (injection eo46 with ea_ en_ ec_; (first | subst ea_ | (injection ea_ with ea_; subst ea_)); subst ec_; clear en_))
             have GB46 := Aside0.mk gb46
             have GG46 := Aside0.mk HG46
             clear gb46 gl46 HG46
             obtain ⟨ce46, hcl46, hM46, hcc46, hfr46⟩ := Kd.R_elem HO197.out z81 (t199 : Int) p46 q46
             obtain rfl := k81_openM hM46
             have hx46_0 : World.cell? _ ⟨go46, (t199 : Int).toNat * 3, none⟩ = some (.int .i64 ((rd_T81 t195 t199).f0)) := hcc46 0 _ rfl
             have hx46_1 : World.cell? _ ⟨go46, (t199 : Int).toNat * 3 + 1, none⟩ = some (.string ((rd_T81 t195 t199).f1)) := hcc46 1 _ rfl
             have hx46_2 : World.cell? _ ⟨go46, (t199 : Int).toNat * 3 + 2, none⟩ = some (.string ((rd_T81 t195 t199).f2)) := hcc46 2 _ rfl
             have hf46_0 : World.frozen? _ ⟨go46, (t199 : Int).toNat * 3, none⟩ = false := hfr46 0
             have hf46_1 : World.frozen? _ ⟨go46, (t199 : Int).toNat * 3 + 1, none⟩ = false := hfr46 1
             have hf46_2 : World.frozen? _ ⟨go46, (t199 : Int).toNat * 3 + 2, none⟩ = false := hfr46 2
             clear hcl46 hcc46 hfr46 hM46
             replace p46 := eq_true p46
             replace q46 := eq_true q46
             obtain ⟨ce66, hcl66, hM66, hcc66, hfr66⟩ := Kd.R_elem HO197.out z81 (t199 : Int) (of_decide_eq_true (by first | (with_reducible assumption) | assumption)) (by have h_ : (t199 : Int) < ((t195.length : Int) : Int) := of_decide_eq_true (by first | (with_reducible assumption) | assumption); first | exact h_ | (have e_ := (Kd.R_reads' HO197.out).1; omega) | simpa using h_)
             obtain rfl := k81_openM hM66
             have HP66 := (Kd.R_seg HO197.out (t199 : Int) (of_decide_eq_true (by first | (with_reducible assumption) | assumption)) (by have h_ : (t199 : Int) < ((t195.length : Int) : Int) := of_decide_eq_true (by first | (with_reducible assumption) | assumption); first | exact h_ | (have e_ := (Kd.R_reads' HO197.out).1; omega) | simpa using h_) (seg := [.int .i64 a1, .string (((rd_T81 l0_1 t199).f1).extract 0 ((ji39) : Int).toNat), .string (((rd_T81 l0_1 t199).f2).extract 0 ((ji42) : Int).toNat)]) (j := 0) hcl66 hcc66 (show 3 ≤ 3 from by decide) (x' := (⟨a1, ((rd_T81 l0_1 t199).f1).extract 0 ((ji39) : Int).toNat, ((rd_T81 l0_1 t199).f2).extract 0 ((ji42) : Int).toNat⟩ : S81)) (k81_mkM _ _ _ (⟨a1, ((rd_T81 l0_1 t199).f1).extract 0 ((ji39) : Int).toNat, ((rd_T81 l0_1 t199).f2).extract 0 ((ji42) : Int).toNat⟩ : S81) ) (fun _ hk => hk)).1
             rw [← Ny205.out] at HP66
             have HQ66 := Aside0.mk HP66
             clear hcl66 hcc66 hfr66 hM66 HP66
             refine start_ (n := 17) (S := fun w' => w'.cell? ⟨gb198, 0, none⟩ = some (.int .i64 t194) ∧ w'.cell? ⟨gb198, 1, none⟩ = some (.slice (some ⟨go46, 0, none⟩) t195.length co54) ∧ w'.cell? ⟨gb204, 0, none⟩ = some (.int .i64 ((rd_T81 l0_1 t199).f0)) ∧ w'.cell? ⟨gb204, 1, none⟩ = some (.string ((rd_T81 l0_1 t199).f1)) ∧ w'.cell? ⟨gb204, 2, none⟩ = some (.string ((rd_T81 l0_1 t199).f2))) (ds := [16]) #[false, false, false, false, false, false, false, false, false, false, false, false, false, false, false, false, false] (by kernel_rfl) rfl rfl ⟨(blk_cell BK198.out 0).trans rfl, (blk_cell BK198.out 1).trans rfl, (blk_cell BK204.out 0).trans rfl, (blk_cell BK204.out 1).trans rfl, (blk_cell BK204.out 2).trans rfl⟩ (fun hHeld => ?_); refine with_tabW impl_DiskCut.tab9 impl_DiskCut.bits9 (fun HT_ HW_ => ?_)
             generalize w64.drew = w65 at HO197 BK190 BK191 BK198 BK204 HB GG46 HQ66 hf46_0 hf46_1 hf46_2 hx46_0 hx46_1 hx46_2 hHeld ⊢
             refine pv_ 0 59 (h := ?_)
             refine pv_ 2 61 (h := ?_)
             refine pv_ 3 62 (h := ?_)
             refine pv_ 4 63 (h := ?_)
             refine pv_ 6 65 (h := ?_)
             refine pv_ 8 67 (h := ?_)
             refine pv_ 10 69 (h := ?_)
             refine pv_ 11 70 (h := ?_)
             refine pv_ 12 71 (h := ?_)
             refine tk_ 1 60 (h := ?_)
             refine tk_ 5 64 (h := ?_)
             refine pv_ 7 66 (h := ?_)
             refine tk_ 9 68 (h := ?_)
             refine pv_ 13 72 (h := ?_)
             refine pv_ 14 73 (h := ?_)
             refine pv_ 15 74 (h := ?_)
             refine last_ (i := 16) (N := none) #[true, true, true, true, true, true, true, true, true, true, true, true, true, true, true, true, true] rfl rfl (one_of HT_.out (by kernel_rfl)) (by decide) (fun K hK => ?_)
             refine skip_ (w1 := ?_) (by rfl) rfl ?_ ?_
             rotate_left
             ·go_simp
              rfl
             refine hK.out _ _ ?_
             clear hK K
             refine done_ (done_of HT_.out (by kernel_rfl)) ?_
             have n0_ : Aside0 (Kd.R k81 81 (((w65.setCell ⟨go46, (t199 : Int).toNat * 3, none⟩ (.int .i64 a1)).setCell ⟨go46, (t199 : Int).toNat * 3 + 1, none⟩ (.string (((rd_T81 l0_1 t199).f1).extract 0 ((ji39) : Int).toNat))).setCell ⟨go46, (t199 : Int).toNat * 3 + 2, none⟩ (.string (((rd_T81 l0_1 t199).f2).extract 0 ((ji42) : Int).toNat))) w.heap.size (fun k_ => k_ ≠ gb204) (.slice (some ⟨go46, 0, none⟩) t195.length co54) y205) := ⟨by (with_reducible repeat (first | apply Kd.R_alloc | apply Kd.R_drewN | apply Kd.R_drew)); exact HQ66.out⟩
             have n1_ : Aside0 ((((w65.setCell ⟨go46, (t199 : Int).toNat * 3, none⟩ (.int .i64 a1)).setCell ⟨go46, (t199 : Int).toNat * 3 + 1, none⟩ (.string (((rd_T81 l0_1 t199).f1).extract 0 ((ji39) : Int).toNat))).setCell ⟨go46, (t199 : Int).toNat * 3 + 2, none⟩ (.string (((rd_T81 l0_1 t199).f2).extract 0 ((ji42) : Int).toNat))).heap[gb190]? = some (.cells #[.int .i64 a0_0, .slice (some ad200) l0_1.length c0_1] 63 (0, 0))) := ⟨by (with_reducible repeat (first | refine blk_drewN ?_ _ | refine blk_drew ?_ | refine blk_alloc ?_ _)); refine blk_far ?_ (by have h_ := Kd.R_ne HO197.out BK190.out (by decide); intro e_; exact h_ (by rw [e_]; rfl)) _; (with_reducible repeat (first | refine blk_drewN ?_ _ | refine blk_drew ?_ | refine blk_alloc ?_ _)); refine blk_far ?_ (by have h_ := Kd.R_ne HO197.out BK190.out (by decide); intro e_; exact h_ (by rw [e_]; rfl)) _; (with_reducible repeat (first | refine blk_drewN ?_ _ | refine blk_drew ?_ | refine blk_alloc ?_ _)); refine blk_far ?_ (by have h_ := Kd.R_ne HO197.out BK190.out (by decide); intro e_; exact h_ (by rw [e_]; rfl)) _; (with_reducible repeat (first | refine blk_drewN ?_ _ | refine blk_drew ?_ | refine blk_alloc ?_ _)); exact BK190.out⟩
             have n2_ : Aside0 ((((w65.setCell ⟨go46, (t199 : Int).toNat * 3, none⟩ (.int .i64 a1)).setCell ⟨go46, (t199 : Int).toNat * 3 + 1, none⟩ (.string (((rd_T81 l0_1 t199).f1).extract 0 ((ji39) : Int).toNat))).setCell ⟨go46, (t199 : Int).toNat * 3 + 2, none⟩ (.string (((rd_T81 l0_1 t199).f2).extract 0 ((ji42) : Int).toNat))).heap[gb191]? = some (.cells #[.int .i64 0, .slice none 0 0] 63 (0, 0))) := ⟨by (with_reducible repeat (first | refine blk_drewN ?_ _ | refine blk_drew ?_ | refine blk_alloc ?_ _)); refine blk_far ?_ (by have h_ := Kd.R_ne HO197.out BK191.out (by decide); intro e_; exact h_ (by rw [e_]; rfl)) _; (with_reducible repeat (first | refine blk_drewN ?_ _ | refine blk_drew ?_ | refine blk_alloc ?_ _)); refine blk_far ?_ (by have h_ := Kd.R_ne HO197.out BK191.out (by decide); intro e_; exact h_ (by rw [e_]; rfl)) _; (with_reducible repeat (first | refine blk_drewN ?_ _ | refine blk_drew ?_ | refine blk_alloc ?_ _)); refine blk_far ?_ (by have h_ := Kd.R_ne HO197.out BK191.out (by decide); intro e_; exact h_ (by rw [e_]; rfl)) _; (with_reducible repeat (first | refine blk_drewN ?_ _ | refine blk_drew ?_ | refine blk_alloc ?_ _)); exact BK191.out⟩
             have n3_ : Aside0 ((((w65.setCell ⟨go46, (t199 : Int).toNat * 3, none⟩ (.int .i64 a1)).setCell ⟨go46, (t199 : Int).toNat * 3 + 1, none⟩ (.string (((rd_T81 l0_1 t199).f1).extract 0 ((ji39) : Int).toNat))).setCell ⟨go46, (t199 : Int).toNat * 3 + 2, none⟩ (.string (((rd_T81 l0_1 t199).f2).extract 0 ((ji42) : Int).toNat))).heap[gb198]? = some (.cells #[.int .i64 t194, .slice (some ⟨go46, 0, none⟩) t195.length co54] 63 (0, 0))) := ⟨by (with_reducible repeat (first | refine blk_drewN ?_ _ | refine blk_drew ?_ | refine blk_alloc ?_ _)); refine blk_far ?_ (by have h_ := Kd.R_ne HO197.out BK198.out (by decide); intro e_; exact h_ (by rw [e_]; rfl)) _; (with_reducible repeat (first | refine blk_drewN ?_ _ | refine blk_drew ?_ | refine blk_alloc ?_ _)); refine blk_far ?_ (by have h_ := Kd.R_ne HO197.out BK198.out (by decide); intro e_; exact h_ (by rw [e_]; rfl)) _; (with_reducible repeat (first | refine blk_drewN ?_ _ | refine blk_drew ?_ | refine blk_alloc ?_ _)); refine blk_far ?_ (by have h_ := Kd.R_ne HO197.out BK198.out (by decide); intro e_; exact h_ (by rw [e_]; rfl)) _; (with_reducible repeat (first | refine blk_drewN ?_ _ | refine blk_drew ?_ | refine blk_alloc ?_ _)); exact BK198.out⟩
             have n4_ : Aside0 ((((w65.setCell ⟨go46, (t199 : Int).toNat * 3, none⟩ (.int .i64 a1)).setCell ⟨go46, (t199 : Int).toNat * 3 + 1, none⟩ (.string (((rd_T81 l0_1 t199).f1).extract 0 ((ji39) : Int).toNat))).setCell ⟨go46, (t199 : Int).toNat * 3 + 2, none⟩ (.string (((rd_T81 l0_1 t199).f2).extract 0 ((ji42) : Int).toNat))).heap[gb204]? = some (.cells #[.int .i64 ((rd_T81 l0_1 t199).f0), .string ((rd_T81 l0_1 t199).f1), .string ((rd_T81 l0_1 t199).f2)] 81 (0, 0))) := ⟨by (with_reducible repeat (first | refine blk_drewN ?_ _ | refine blk_drew ?_ | refine blk_alloc ?_ _)); refine blk_far ?_ (by have h_ := Kd.R_away HO197.out (fun _ hk => hk); intro e_; exact h_ (by rw [e_]; rfl)) _; (with_reducible repeat (first | refine blk_drewN ?_ _ | refine blk_drew ?_ | refine blk_alloc ?_ _)); refine blk_far ?_ (by have h_ := Kd.R_away HO197.out (fun _ hk => hk); intro e_; exact h_ (by rw [e_]; rfl)) _; (with_reducible repeat (first | refine blk_drewN ?_ _ | refine blk_drew ?_ | refine blk_alloc ?_ _)); refine blk_far ?_ (by have h_ := Kd.R_away HO197.out (fun _ hk => hk); intro e_; exact h_ (by rw [e_]; rfl)) _; (with_reducible repeat (first | refine blk_drewN ?_ _ | refine blk_drew ?_ | refine blk_alloc ?_ _)); exact BK204.out⟩
             have n5_ : Aside0 (Below w.heap.size w (((w65.setCell ⟨go46, (t199 : Int).toNat * 3, none⟩ (.int .i64 a1)).setCell ⟨go46, (t199 : Int).toNat * 3 + 1, none⟩ (.string (((rd_T81 l0_1 t199).f1).extract 0 ((ji39) : Int).toNat))).setCell ⟨go46, (t199 : Int).toNat * 3 + 2, none⟩ (.string (((rd_T81 l0_1 t199).f2).extract 0 ((ji42) : Int).toNat)))) := ⟨by repeat (first | (with_reducible first | exact HB.out | apply below_alloc | apply pw_below_drewN | apply below_drew1 | refine below_set ?_ GB46.out | refine below_set ?_ GB46.out | refine below_set ?_ GB46.out | refine below_set ?_ GE190.out | refine below_set ?_ GE191.out | refine below_set ?_ GE198.out | refine below_set ?_ GE204.out) | exact HB.out)⟩
             (try clear HO197); (try clear BK190); (try clear BK191); (try clear BK198); (try clear BK204); (try clear HB)
             generalize (((w65.setCell ⟨go46, (t199 : Int).toNat * 3, none⟩ (.int .i64 a1)).setCell ⟨go46, (t199 : Int).toNat * 3 + 1, none⟩ (.string (((rd_T81 l0_1 t199).f1).extract 0 ((ji39) : Int).toNat))).setCell ⟨go46, (t199 : Int).toNat * 3 + 2, none⟩ (.string (((rd_T81 l0_1 t199).f2).extract 0 ((ji42) : Int).toNat))) = w67 at n0_ n1_ n2_ n3_ n4_ n5_ ⊢
             have HO197 := n0_
             have BK190 := n1_
             have BK191 := n2_
             have BK198 := n3_
             have BK204 := n4_
             have HB := n5_
             clear n0_ n1_ n2_ n3_ n4_ n5_
             have hcz68_0 : w67.cell? ⟨gb198, 0, none⟩ = some (.int .i64 t194) := (blk_cell BK198.out 0).trans rfl
             have hcz68_1 : w67.cell? ⟨gb198, 1, none⟩ = some (.slice (some ⟨go46, 0, none⟩) t195.length co54) := (blk_cell BK198.out 1).trans rfl
             have hfz68_0 := blk_frozen BK198.out 0
             have hfz68_1 := blk_frozen BK198.out 1
             have hcz69_0 : w67.cell? ⟨gb191, 0, none⟩ = some (.int .i64 0) := (blk_cell BK191.out 0).trans rfl
             have hcz69_1 : w67.cell? ⟨gb191, 1, none⟩ = some (.slice none 0 0) := (blk_cell BK191.out 1).trans rfl
             have hfz69_0 := blk_frozen BK191.out 0
             have hfz69_1 := blk_frozen BK191.out 1
             try go_wp2
             refine bodyPost_ret (results_ct rfl _ _ gb191 63 #[.int .i64 t194, .slice (some ⟨go46, 0, none⟩) t195.length co54] (0, 0) _ rfl (by (with_reducible repeat (first | refine blk_drewN ?_ _ | refine blk_drew ?_ | refine blk_alloc ?_ _)); refine blk_put (cs := #[.int .i64 t194, .slice none 0 0]) ?_ 1 _ rfl; (with_reducible repeat (first | refine blk_drewN ?_ _ | refine blk_drew ?_ | refine blk_alloc ?_ _)); refine blk_put (cs := #[.int .i64 0, .slice none 0 0]) ?_ 0 _ rfl; (with_reducible repeat (first | refine blk_drewN ?_ _ | refine blk_drew ?_ | refine blk_alloc ?_ _)); exact BK191.out) Try.underlying63 rfl (by kernel_rfl)) rfl ?_
             exact ⟨_, by first | rfl | (simp [errW_none, errW_some] <;> rfl) | (simp only [← hji39, ← hji42]; first | rfl | (simp [errW_none, errW_some] <;> rfl)) | (simp [*, errW_none, errW_some] <;> rfl), by (with_reducible repeat (first | apply Kd.R_alloc | apply Kd.R_drewN | apply Kd.R_drew)); exact Kd.R_mono (Kd.R_far (p := ⟨gb191, 1, none⟩) (Kd.R_far (p := ⟨gb191, 0, none⟩) (Kd.R_types HO197.out BK191.out (by decide)) (fun _ hk => hk.2) (.int .i64 t194)) (fun _ hk => hk.2) (.slice (some ⟨go46, 0, none⟩) t195.length co54)) (fun _ hk => trivial), xbg⟩
            ·rw [if_neg c45] at H
             exact absurd H (by simp)
           ·rw [if_neg c44] at H
            exact absurd H (by simp)
          ·rw [if_neg c43] at H
           exact absurd H (by simp)
         ·rw [if_neg c41] at H
          exact absurd H (by simp)
        ·rw [if_neg c40] at H
         exact absurd H (by simp)
       ·replace c38 := Bool.eq_false_iff.mpr c38
        subst c38
        have H1 : (some (t194, t195, 2)) = some (r1, r2, r3) := by rw [if_neg (show ¬ (false = true) by decide)] at H; exact H
        clear H
        have H := H1
        clear H1
        simp only [Option.some.injEq, Prod.mk.injEq] at H
        obtain ⟨rfl, rfl, rfl⟩ := H
        have hnb70 := NB190_191.out
        have hnc70 := NB191_190.out
        have hcz71_0 : wc.cell? ⟨gb190, 0, none⟩ = some (.int .i64 a0_0) := (blk_cell BK190.out 0).trans rfl
        have hcz71_1 : wc.cell? ⟨gb190, 1, none⟩ = some (.slice A0_1 l0_1.length c0_1) := (blk_cell BK190.out 1).trans rfl
        have hfz71_0 := blk_frozen BK190.out 0
        have hfz71_1 := blk_frozen BK190.out 1
        try go_wp2_with (first | ((with_reducible refine gate_callee (f := 110) rfl ?_); refine goesL_ (some 22) rfl rfl Try.func110 (by kernel_rfl) rfl #[.agg #[.int .i64 a0_0, .slice A0_1 l0_1.length c0_1]] rfl (by (try simp only [List.map_toArray, List.map_cons, List.map_nil]); first | done | rfl | (simp only [List.length_drop, List.length_take]; rfl)) ?_; (with_reducible refine (impl_copyDisk.calls a0_0 _ _ l0_1 t194 t195 _ ?side1 ?side2 A19.out).mono ?_); (case side1 => exact xcb HR0_1); (case side2 => exact HC0_1.out); rintro e w72 ⟨v196, rfl, ho0, hb⟩; refine ⟨_, rfl, ?_⟩; have HO197 := Aside0.mk (Kd.R_lower ho0 (below_size xbg)); replace BK190 := xbb BK190 hb; replace BK191 := xbb BK191 hb; replace HB := xbs hb; (try clear hb); (try clear hb2); (try clear hk); (try clear hi); (try clear ho0)) | ((with_reducible refine gate_dst (N := 8) rfl ?_); (try (refine gate_guard (by rfl) ?_; dsimp only)); refine box_event ?hg (N := 8) ?hd (cs := #[.int .i64 0, .slice none 0 0]) (t := 63) ?hr ?_; (case hd => rfl); (case hg => rfl); (case hr => first | (go_simp; done) | (go_simp; rfl)); intro gb198 hg w73 hbox hb; replace HO197 := Aside0.mk (Kd.R_below (by (with_reducible repeat (first | apply Kd.R_alloc | apply Kd.R_drewN | apply Kd.R_drew)); exact HO197.out) hb); have GW198 := Aside0.mk (xge hg); have GE198 := Aside0.mk (xge hg); replace HB := xbs hb; have NB190_198 := Aside0.mk ((by rw [hg]; exact Nat.ne_of_lt (blk_lt (g := gb190) (o := .cells #[.int .i64 a0_0, .slice A0_1 l0_1.length c0_1] 63 (0, 0)) xblk) : gb190 ≠ gb198)); have NB198_190 := Aside0.mk ((by rw [hg]; exact Nat.ne_of_gt (blk_lt (g := gb190) (o := .cells #[.int .i64 a0_0, .slice A0_1 l0_1.length c0_1] 63 (0, 0)) xblk) : gb198 ≠ gb190)); have NB191_198 := Aside0.mk ((by rw [hg]; exact Nat.ne_of_lt (blk_lt (g := gb191) (o := .cells #[.int .i64 0, .slice none 0 0] 63 (0, 0)) xblk) : gb191 ≠ gb198)); have NB198_191 := Aside0.mk ((by rw [hg]; exact Nat.ne_of_gt (blk_lt (g := gb191) (o := .cells #[.int .i64 0, .slice none 0 0] 63 (0, 0)) xblk) : gb198 ≠ gb191)); replace BK190 := xbb BK190 hb; replace BK191 := xbb BK191 hb; have BK198 := Aside0.mk (hbox); clear hb hbox hg; have hnb74 := NB198_190.out; have hnc74 := NB190_198.out; have hnb75 := NB198_191.out; have hnc75 := NB191_198.out; have hcz76_0 : w73.cell? ⟨gb198, 0, none⟩ = some (.int .i64 0) := (blk_cell BK198.out 0).trans rfl; have hcz76_1 : w73.cell? ⟨gb198, 1, none⟩ = some (.slice none 0 0) := (blk_cell BK198.out 1).trans rfl; have hfz76_0 := blk_frozen BK198.out 0; have hfz76_1 := blk_frozen BK198.out 1; obtain ⟨Ao77, co77, eo77⟩ := Kd.R_slice HO197.out; subst eo77; have hcz78_0 : w73.cell? ⟨gb190, 0, none⟩ = some (.int .i64 a0_0) := (blk_cell BK190.out 0).trans rfl; have hcz78_1 : w73.cell? ⟨gb190, 1, none⟩ = some (.slice A0_1 l0_1.length c0_1) := (blk_cell BK190.out 1).trans rfl; have hfz78_0 := blk_frozen BK190.out 0; have hfz78_1 := blk_frozen BK190.out 1) | ((with_reducible refine gate_callee (f := 111) rfl ?_); refine goesL_ (some 25) rfl rfl Try.func111 (by kernel_rfl) rfl #[.agg #[.int .i64 a0_0, .slice A0_1 l0_1.length c0_1], .int .i64 a1] rfl (by (try simp only [List.map_toArray, List.map_cons, List.map_nil]); first | done | rfl | (simp only [List.length_drop, List.length_take]; rfl)) ?_; (with_reducible refine (impl_fileAt.calls a0_0 _ _ l0_1 a1 t199 _ ?side1 ?side2 A20.out).mono ?_); (case side1 => exact Kd.C_below HR0_1.out xbg); (case side2 => exact HC0_1.out); rintro e w79 ⟨rfl, hb⟩; refine ⟨_, rfl, ?_⟩; replace HO197 := Aside0.mk (Kd.R_below (by (with_reducible repeat (first | apply Kd.R_alloc | apply Kd.R_drewN | apply Kd.R_drew)); exact (Kd.R_mono (Kd.R_far (p := ⟨gb198, 1, none⟩) (Kd.R_far (p := ⟨gb198, 0, none⟩) (Kd.R_types HO197.out BK198.out (by decide)) (fun _ hk => hk.2) (.int .i64 t194)) (fun _ hk => hk.2) (.slice Ao77 t195.length co77)) (fun _ h_ => h_.1))) hb); replace BK190 := Aside0.mk (blk_below (g := gb190) (o := .cells #[.int .i64 a0_0, .slice A0_1 l0_1.length c0_1] 63 (0, 0)) (by (with_reducible repeat (first | refine blk_drewN ?_ _ | refine blk_drew ?_ | refine blk_alloc ?_ _)); refine blk_far ?_ NB190_198.out _; (with_reducible repeat (first | refine blk_drewN ?_ _ | refine blk_drew ?_ | refine blk_alloc ?_ _)); refine blk_far ?_ NB190_198.out _; (with_reducible repeat (first | refine blk_drewN ?_ _ | refine blk_drew ?_ | refine blk_alloc ?_ _)); exact BK190.out) hb); replace BK191 := Aside0.mk (blk_below (g := gb191) (o := .cells #[.int .i64 0, .slice none 0 0] 63 (0, 0)) (by (with_reducible repeat (first | refine blk_drewN ?_ _ | refine blk_drew ?_ | refine blk_alloc ?_ _)); refine blk_far ?_ NB191_198.out _; (with_reducible repeat (first | refine blk_drewN ?_ _ | refine blk_drew ?_ | refine blk_alloc ?_ _)); refine blk_far ?_ NB191_198.out _; (with_reducible repeat (first | refine blk_drewN ?_ _ | refine blk_drew ?_ | refine blk_alloc ?_ _)); exact BK191.out) hb); replace BK198 := Aside0.mk (blk_below (g := gb198) (o := .cells #[.int .i64 t194, .slice Ao77 t195.length co77] 63 (0, 0)) (by (with_reducible repeat (first | refine blk_drewN ?_ _ | refine blk_drew ?_ | refine blk_alloc ?_ _)); refine blk_put (cs := #[.int .i64 t194, .slice none 0 0]) ?_ 1 _ rfl; (with_reducible repeat (first | refine blk_drewN ?_ _ | refine blk_drew ?_ | refine blk_alloc ?_ _)); refine blk_put (cs := #[.int .i64 0, .slice none 0 0]) ?_ 0 _ rfl; (with_reducible repeat (first | refine blk_drewN ?_ _ | refine blk_drew ?_ | refine blk_alloc ?_ _)); exact BK198.out) hb); replace HB := xbs hb; (try clear hb); (try clear hb2); (try clear hk); (try clear hi)))
        replace HO197 := Aside0.mk (Kd.R_drew HO197.out)
        replace BK190 := Aside0.mk (blk_drew BK190.out)
        replace BK191 := Aside0.mk (blk_drew BK191.out)
        replace BK198 := Aside0.mk (blk_drew BK198.out)
        replace HB := Aside0.mk (below_drew1 HB.out)
        have p200 : 0 ≤ (t199 : Int) := of_decide_eq_true (by first | (with_reducible assumption) | assumption)
        have q200 : t199 < (l0_1.length : Int) := of_decide_eq_true (by first | (with_reducible assumption) | assumption)
        obtain ⟨ad200, e200, hx200_0, hx200_1, hx200_2⟩ := at_T81 HR0_1.out t199 p200 q200
        have hw200_2 := hx200_2
        have hw200_1 := hx200_1
        have hw200_0 := hx200_0
        cases e200
        replace hx200_0 := xce HB hx200_0
        replace hx200_1 := xce HB hx200_1
        replace hx200_2 := xce HB hx200_2
        replace p200 := eq_true p200
        replace q200 := eq_true q200
        have p201 : 0 ≤ (t199 : Int) := of_decide_eq_true (by first | (with_reducible assumption) | assumption)
        have q201 : t199 < (l0_1.length : Int) := of_decide_eq_true (by first | (with_reducible assumption) | assumption)
        obtain ⟨ad201, e201, hx201_0, hx201_1, hx201_2⟩ := at_T81 HR0_1.out t199 p201 q201
        have hw201_2 := hx201_2
        have hw201_1 := hx201_1
        have hw201_0 := hx201_0
        obtain rfl : ad200 = ad201 := (by injection e201)
        replace hx201_0 := xce HB hx201_0
        replace hx201_1 := xce HB hx201_1
        replace hx201_2 := xce HB hx201_2
        replace p201 := eq_true p201
        replace q201 := eq_true q201
        refine start_ (n := 22) (S := fun w' => w'.cell? ⟨gb190, 0, none⟩ = some (.int .i64 a0_0) ∧ w'.cell? ⟨gb190, 1, none⟩ = some (.slice (some ad200) l0_1.length c0_1) ∧ w'.cell? (ad200.add ((t199).toNat * 3)) = some (.int .i64 ((rd_T81 l0_1 t199).f0)) ∧ w'.cell? ⟨(ad200.add ((t199).toNat * 3)).block, (ad200.add ((t199).toNat * 3)).off + 1, none⟩ = some (.string ((rd_T81 l0_1 t199).f1)) ∧ w'.cell? ⟨(ad200.add ((t199).toNat * 3)).block, (ad200.add ((t199).toNat * 3)).off + 2, none⟩ = some (.string ((rd_T81 l0_1 t199).f2)) ∧ w'.cell? (ad200.add ((t199).toNat * 3)) = some (.int .i64 ((rd_T81 l0_1 t199).f0)) ∧ w'.cell? ⟨(ad200.add ((t199).toNat * 3)).block, (ad200.add ((t199).toNat * 3)).off + 1, none⟩ = some (.string ((rd_T81 l0_1 t199).f1)) ∧ w'.cell? ⟨(ad200.add ((t199).toNat * 3)).block, (ad200.add ((t199).toNat * 3)).off + 2, none⟩ = some (.string ((rd_T81 l0_1 t199).f2))) (ds := []) #[false, false, false, false, false, false, false, false, false, false, false, false, false, false, false, false, false, false, false, false, false, false] (by kernel_rfl) rfl rfl ⟨(blk_cell BK190.out 0).trans rfl, (blk_cell BK190.out 1).trans rfl, (xce HB hw200_0), (xce HB hw200_1), (xce HB hw200_2), (xce HB hw201_0), (xce HB hw201_1), (xce HB hw201_2)⟩ (fun hHeld => ?_); refine with_tabW impl_DiskCut.tab5 impl_DiskCut.bits5 (fun HT_ HW_ => ?_)
        generalize w79.drew = w80 at HO197 BK190 BK191 BK198 HB hx200_0 hx200_1 hx200_2 hx201_0 hx201_1 hx201_2 hHeld ⊢
        refine pv_ 0 26 (h := ?_)
        refine pv_ 1 27 (h := ?_)
        refine pv_ 2 28 (h := ?_)
        refine pv_ 3 29 (h := ?_)
        refine pv_ 4 30 (h := ?_)
        refine pv_ 6 32 (h := ?_)
        refine pv_ 11 37 (h := ?_)
        refine pv_ 13 39 (h := ?_)
        refine tk_ 5 31 (h := ?_)
        refine pv_ 7 33 (h := ?_)
        refine pv_ 8 34 (h := ?_)
        refine tk_ 9 35 (h := ?_)
        refine pv_ 10 36 (h := ?_)
        refine tk_ 12 38 (h := ?_)
        refine pv_ 14 40 (h := ?_)
        refine pv_ 15 41 (h := ?_)
        refine tk_ 16 42 (h := ?_)
        refine pv_ 17 43 (h := ?_)
        refine pv_ 18 44 (h := ?_)
        refine on_ 19 45 (h := fun K hK => ?_)
        refine goes_ Try.func79 (by kernel_rfl) rfl #[.int .i64 a2, .int .i64 0, .int .i64 (wrap64 ((((rd_T81 l0_1 t199).f1).size : Int) + (((rd_T81 l0_1 t199).f2).size : Int)))] (by rfl) rfl rfl (by (try simp only [List.map_toArray, List.map_cons, List.map_nil]); first | done | rfl | (simp only [List.length_drop, List.length_take]; rfl)) ?_
        with_reducible refine (impl_within.calls a2 0 (wrap64 ((((rd_T81 l0_1 t199).f1).size : Int) + (((rd_T81 l0_1 t199).f2).size : Int))) false _ A37.out).mono ?_
        rintro e w' ⟨rfl, ⟨nd, rfl⟩⟩
        refine ⟨_, rfl, ?_⟩
        refine hK.out _ _ ⟨(blk_cell BK190.out 0).trans rfl, (blk_cell BK190.out 1).trans rfl, (xce HB hw200_0), (xce HB hw200_1), (xce HB hw200_2), (xce HB hw201_0), (xce HB hw201_1), (xce HB hw201_2)⟩ (fun hHeld => ?_)
        clear hK K
        refine norm_ (a' := ?_) ?_ ?_
        rotate_left
        ·show Act.put _ (some 45) _ = _
         simp only [Act.put, List.setIfInBounds_toArray, List.set_cons_zero, List.set_cons_succ, i64_w, i32_w]
         rfl
        refine pv_ 20 46 (h := ?_)
        refine pv_ 21 47 (h := ?_)
        refine done_ (done_of HT_.out (by kernel_rfl)) ?_
        have hcz81_0 : w80.cell? ⟨gb198, 0, none⟩ = some (.int .i64 t194) := (blk_cell BK198.out 0).trans rfl
        have hcz81_1 : w80.cell? ⟨gb198, 1, none⟩ = some (.slice Ao77 t195.length co77) := (blk_cell BK198.out 1).trans rfl
        have hfz81_0 := blk_frozen BK198.out 0
        have hfz81_1 := blk_frozen BK198.out 1
        have hcz82_0 : w80.cell? ⟨gb191, 0, none⟩ = some (.int .i64 0) := (blk_cell BK191.out 0).trans rfl
        have hcz82_1 : w80.cell? ⟨gb191, 1, none⟩ = some (.slice none 0 0) := (blk_cell BK191.out 1).trans rfl
        have hfz82_0 := blk_frozen BK191.out 0
        have hfz82_1 := blk_frozen BK191.out 1
        try go_wp2
        refine bodyPost_ret (results_ct rfl _ _ gb191 63 #[.int .i64 t194, .slice Ao77 t195.length co77] (0, 0) _ rfl (by (with_reducible repeat (first | refine blk_drewN ?_ _ | refine blk_drew ?_ | refine blk_alloc ?_ _)); refine blk_put (cs := #[.int .i64 t194, .slice none 0 0]) ?_ 1 _ rfl; (with_reducible repeat (first | refine blk_drewN ?_ _ | refine blk_drew ?_ | refine blk_alloc ?_ _)); refine blk_put (cs := #[.int .i64 0, .slice none 0 0]) ?_ 0 _ rfl; (with_reducible repeat (first | refine blk_drewN ?_ _ | refine blk_drew ?_ | refine blk_alloc ?_ _)); exact BK191.out) Try.underlying63 rfl (by kernel_rfl)) rfl ?_
        exact ⟨_, by first | rfl | (simp [errW_none, errW_some] <;> rfl) | (simp [*, errW_none, errW_some] <;> rfl), by (with_reducible repeat (first | apply Kd.R_alloc | apply Kd.R_drewN | apply Kd.R_drew)); exact Kd.R_mono (Kd.R_far (p := ⟨gb191, 1, none⟩) (Kd.R_far (p := ⟨gb191, 0, none⟩) (Kd.R_types HO197.out BK191.out (by decide)) (fun _ hk => hk.2) (.int .i64 t194)) (fun _ hk => hk.2) (.slice Ao77 t195.length co77)) (fun _ hk => trivial), xbg⟩
      ·rw [if_neg c36] at H
       exact absurd H (by simp)
     ·rw [if_neg c35] at H
      exact absurd H (by simp)

/-! ### impl_DiskSize: function 50 -/
def impl_DiskSize.f (k : Nat) (a0_0 : Int) (l0_1 : List (S81)) : Option (Int) := (impl_DiskOk.f k a0_0 l0_1).bind fun t207 => (if t207 = true then ((impl_sizeOf.f k a0_0 l0_1).bind fun t208 => (some t208)) else (some (-1)))
theorem impl_DiskSize.mono : ∀ a0 a1 k, LeO (impl_DiskSize.f k a0 a1) (impl_DiskSize.f (k + 1) a0 a1) := by
 intro a0 a1 k
 unfold impl_DiskSize.f
 repeat' first
  | (with_reducible exact impl_DiskOk.mono _ _ _)
  | (with_reducible exact impl_sizeOf.mono _ _ _)
  | (with_reducible exact LeO.refl _)
  | (with_reducible exact LeO.none _)
  | (with_reducible refine LeO.ite ?_ ?_)
  | (with_reducible refine LeO.bind ?_ (fun _ => ?_))
  | exact impl_DiskOk.mono _ _ _
  | exact impl_sizeOf.mono _ _ _
  | exact LeO.none _
  | refine LeO.ite ?_ ?_
  | refine LeO.bind ?_ (fun _ => ?_)
set_option maxHeartbeats 8000000 in
set_option maxRecDepth 100000 in
theorem impl_DiskSize.calls (k : Nat) (a0_0 : Int) (A0_1 : Option Addr) (c0_1 : Nat) (l0_1 : List (S81)) (r : Int) (w : World) (hr0_1 : Kd.C k81 w A0_1 l0_1.length l0_1) (hc0_1 : l0_1.length ≤ c0_1) (h : impl_DiskSize.f k a0_0 l0_1 = some r) :
 Calls Try.prog 50 #[.agg #[.int .i64 a0_0, .slice A0_1 l0_1.length c0_1]] w fun e w' => e = .returned (.int .i64 r) ∧ Below w.heap.size w w' := by
 have hu63 := Try.underlying63
 have HR0_1 := Aside0.mk hr0_1
 have HC0_1 := Aside0.mk hc0_1
 clear hr0_1 hc0_1
 have HB := Aside0.mk (Below.refl w.heap.size w)
 have H : ((impl_DiskOk.f k a0_0 l0_1).bind fun t207 => (if t207 = true then ((impl_sizeOf.f k a0_0 l0_1).bind fun t208 => (some t208)) else (some (-1)))) = some r := h
 clear h
 replace H := Option.bind_eq_some_iff.mp H
 obtain ⟨t207, A20, H⟩ := H
 replace H : (if t207 = true then ((impl_sizeOf.f k a0_0 l0_1).bind fun t208 => (some t208)) else (some (-1))) = some r := H
 have A2 := Aside0.mk A20
 clear A20
 by_cases c3 : t207 = true
 ·subst c3
  have H1 : ((impl_sizeOf.f k a0_0 l0_1).bind fun t208 => (some t208)) = some r := by rw [if_pos rfl] at H; exact H
  clear H
  have H := H1
  clear H1
  replace H := Option.bind_eq_some_iff.mp H
  obtain ⟨t208, A40, H⟩ := H
  replace H : (some t208) = some r := H
  have A4 := Aside0.mk A40
  clear A40
  obtain rfl := Option.some.inj H
  go_enter Try.func50, Try.ntmps50
  go_wp2_with (first | ((with_reducible refine gate_dst (N := 1) rfl ?_); refine box_event ?hg (N := 1) ?hd (cs := #[.int .i64 a0_0, .slice A0_1 l0_1.length c0_1]) (t := 63) ?hr ?_; (case hd => rfl); (case hg => rfl); (case hr => first | (go_simp; done) | (go_simp; rfl)); intro gb206 hg w5 hbox hb; have BK206 := Aside0.mk (hbox); have GW206 := Aside0.mk (xge hg); have GE206 := Aside0.mk (xge hg); replace HB := xbs hb; clear hb hbox hg; have hcz6_0 : w5.cell? ⟨gb206, 0, none⟩ = some (.int .i64 a0_0) := (blk_cell BK206.out 0).trans rfl; have hcz6_1 : w5.cell? ⟨gb206, 1, none⟩ = some (.slice A0_1 l0_1.length c0_1) := (blk_cell BK206.out 1).trans rfl; have hfz6_0 := blk_frozen BK206.out 0; have hfz6_1 := blk_frozen BK206.out 1) | ((with_reducible refine gate_callee (f := 49) rfl ?_); refine goesL_ (some 4) rfl rfl Try.func49 (by kernel_rfl) rfl #[.agg #[.int .i64 a0_0, .slice A0_1 l0_1.length c0_1]] rfl (by (try simp only [List.map_toArray, List.map_cons, List.map_nil]); first | done | rfl | (simp only [List.length_drop, List.length_take]; rfl)) ?_; (with_reducible refine (impl_DiskOk.calls k a0_0 _ _ l0_1 true _ ?side1 ?side2 A2.out).mono ?_); (case side1 => exact xcb HR0_1); (case side2 => exact HC0_1.out); rintro e w7 ⟨rfl, hb⟩; refine ⟨_, rfl, ?_⟩; replace BK206 := xbb BK206 hb; replace HB := xbs hb; (try clear hb); (try clear hb2); (try clear hk); (try clear hi); have hcz8_0 : w7.cell? ⟨gb206, 0, none⟩ = some (.int .i64 a0_0) := (blk_cell BK206.out 0).trans rfl; have hcz8_1 : w7.cell? ⟨gb206, 1, none⟩ = some (.slice A0_1 l0_1.length c0_1) := (blk_cell BK206.out 1).trans rfl; have hfz8_0 := blk_frozen BK206.out 0; have hfz8_1 := blk_frozen BK206.out 1) | ((with_reducible refine gate_callee (f := 119) rfl ?_); refine goesL_ (some 7) rfl rfl Try.func119 (by kernel_rfl) rfl #[.agg #[.int .i64 a0_0, .slice A0_1 l0_1.length c0_1]] rfl (by (try simp only [List.map_toArray, List.map_cons, List.map_nil]); first | done | rfl | (simp only [List.length_drop, List.length_take]; rfl)) ?_; (with_reducible refine (impl_sizeOf.calls k a0_0 _ _ l0_1 t208 _ ?side1 ?side2 A4.out).mono ?_); (case side1 => exact xcb HR0_1); (case side2 => exact HC0_1.out); rintro e w9 ⟨rfl, hb⟩; refine ⟨_, rfl, ?_⟩; replace BK206 := xbb BK206 hb; replace HB := xbs hb; (try clear hb); (try clear hb2); (try clear hk); (try clear hi)))
  go_ret
  exact ⟨by first | rfl | (simp [errW_none, errW_some] <;> rfl) | (simp [*, errW_none, errW_some] <;> rfl), xbg⟩
 ·replace c3 := Bool.eq_false_iff.mpr c3
  subst c3
  have H1 : (some (-1)) = some r := by rw [if_neg (show ¬ (false = true) by decide)] at H; exact H
  clear H
  have H := H1
  clear H1
  obtain rfl := Option.some.inj H
  go_enter Try.func50, Try.ntmps50
  go_wp2_with (first | ((with_reducible refine gate_dst (N := 1) rfl ?_); refine box_event ?hg (N := 1) ?hd (cs := #[.int .i64 a0_0, .slice A0_1 l0_1.length c0_1]) (t := 63) ?hr ?_; (case hd => rfl); (case hg => rfl); (case hr => first | (go_simp; done) | (go_simp; rfl)); intro gb206 hg w10 hbox hb; have BK206 := Aside0.mk (hbox); have GW206 := Aside0.mk (xge hg); have GE206 := Aside0.mk (xge hg); replace HB := xbs hb; clear hb hbox hg; have hcz11_0 : w10.cell? ⟨gb206, 0, none⟩ = some (.int .i64 a0_0) := (blk_cell BK206.out 0).trans rfl; have hcz11_1 : w10.cell? ⟨gb206, 1, none⟩ = some (.slice A0_1 l0_1.length c0_1) := (blk_cell BK206.out 1).trans rfl; have hfz11_0 := blk_frozen BK206.out 0; have hfz11_1 := blk_frozen BK206.out 1) | ((with_reducible refine gate_callee (f := 49) rfl ?_); refine goesL_ (some 4) rfl rfl Try.func49 (by kernel_rfl) rfl #[.agg #[.int .i64 a0_0, .slice A0_1 l0_1.length c0_1]] rfl (by (try simp only [List.map_toArray, List.map_cons, List.map_nil]); first | done | rfl | (simp only [List.length_drop, List.length_take]; rfl)) ?_; (with_reducible refine (impl_DiskOk.calls k a0_0 _ _ l0_1 false _ ?side1 ?side2 A2.out).mono ?_); (case side1 => exact xcb HR0_1); (case side2 => exact HC0_1.out); rintro e w12 ⟨rfl, hb⟩; refine ⟨_, rfl, ?_⟩; replace BK206 := xbb BK206 hb; replace HB := xbs hb; (try clear hb); (try clear hb2); (try clear hk); (try clear hi)))
  go_ret
  exact ⟨by first | rfl | (simp [errW_none, errW_some] <;> rfl) | (simp [*, errW_none, errW_some] <;> rfl), xbg⟩

/-- A state of type 159 at block g of W; what its slices lead to came in by w0. -/
def IsS159 (w0 W : World) (g : Nat) (f0 : List Int) (f1 : Int) (f2 : Int) : Prop := ∃ A0 c0, W.heap[g]? = some (.cells #[.slice A0 f0.length c0, .int .i64 f1, .int .i64 f2] 159 (0, 0)) ∧ w0.heap.size ≤ g ∧ Kd.C (Kd.int .u8) w0 A0 f0.length f0
theorem IsS159.grown {w0 W : World} {g : Nat} {f0 : List Int} {f1 : Int} {f2 : Int} {W1 : World} {row : Option Nat} (h : IsS159 w0 W g f0 f1 f2) (hw : W.grownBy W1 row) (hne : some g ≠ row) : IsS159 w0 W1 g f0 f1 f2 := by
 obtain ⟨A0, c0, hb, hg, hr0⟩ := h
 exact ⟨A0, c0, blk_grown hb hw hne, hg, hr0⟩
theorem IsS159.own_neN {w0 W : World} {g : Nat} {f0 : List Int} {f1 : Int} {f2 : Int} {α : Type} {d : Kd α} {e : Nat} {base : Nat} {ok : Nat → Prop} {v : Value} {xs : List α} (h : IsS159 w0 W g f0 f1 f2) (ho : Kd.N d e W base ok v xs) (ht : e ≠ 159) : some g ≠ v.ownBlock := by
 obtain ⟨A0, c0, hb, hg, hr0⟩ := h
 exact Kd.N_ne ho hb ht
theorem IsS159.fresh {w0 W : World} {g : Nat} {f0 : List Int} {f1 : Int} {f2 : Int} (h : IsS159 w0 W g f0 f1 f2) : ∀ k, W.heap.size ≤ k → k ≠ g := by
 obtain ⟨A0, c0, hb, hg, hr0⟩ := h
 exact Kd.freshB hb
theorem IsS159.kept {w0 W : World} {g : Nat} {f0 : List Int} {f1 : Int} {f2 : Int} {W1 : World} {S : Nat → Prop} (h : IsS159 w0 W g f0 f1 f2) (hk : Kept W W1 S) (hne : ¬ S g) : IsS159 w0 W1 g f0 f1 f2 := by
 obtain ⟨A0, c0, hb, hg, hr0⟩ := h
 exact ⟨A0, c0, blk_kept hb hk hne, hg, hr0⟩
theorem IsS159.below {w0 W : World} {g : Nat} {f0 : List Int} {f1 : Int} {f2 : Int} {W1 : World} (h : IsS159 w0 W g f0 f1 f2) (hw : Below W.heap.size W W1) : IsS159 w0 W1 g f0 f1 f2 := h.grown (grown_of_below hw none) (by simp)
theorem IsS159.alloc {w0 W : World} {g : Nat} {f0 : List Int} {f1 : Int} {f2 : Int} (h : IsS159 w0 W g f0 f1 f2) (o : Obj) : IsS159 w0 (W.alloc o) g f0 f1 f2 := h.below (below_alloc (Below.refl _ _) o)
theorem IsS159.drewN {w0 W : World} {g : Nat} {f0 : List Int} {f1 : Int} {f2 : Int} (h : IsS159 w0 W g f0 f1 f2) (m : Nat) : IsS159 w0 (W.drewN m) g f0 f1 f2 := h
theorem IsS159.drew {w0 W : World} {g : Nat} {f0 : List Int} {f1 : Int} {f2 : Int} (h : IsS159 w0 W g f0 f1 f2) : IsS159 w0 W.drew g f0 f1 f2 := h
theorem IsS159.at_ {w0 W : World} {g : Nat} {f0 : List Int} {f1 : Int} {f2 : Int} {w' : World} {m : Nat} (hq : W.drewN m = w') (h : IsS159 w0 W g f0 f1 f2) : IsS159 w0 w' g f0 f1 f2 := by subst hq; exact IsS159.drewN h m
theorem IsS159.apart {w0 W : World} {g : Nat} {f0 : List Int} {f1 : Int} {f2 : Int} {α : Type} {d : Kd α} {e : Nat} {base : Nat} {ok : Nat → Prop} {v : Value} {xs : List α} (h : IsS159 w0 W g f0 f1 f2) (ho : d.R e W base ok v xs) (ht : ∀ q, q ∈ e :: d.E → q ≠ 159) : d.R e W base (fun k => ok k ∧ k ≠ g) v xs := by
 obtain ⟨A0, c0, hb, hg, hr0⟩ := h
 exact Kd.R_types ho hb ht
theorem IsS159.own_ne {w0 W : World} {g : Nat} {f0 : List Int} {f1 : Int} {f2 : Int} {α : Type} {d : Kd α} {e : Nat} {base : Nat} {ok : Nat → Prop} {v : Value} {xs : List α} (h : IsS159 w0 W g f0 f1 f2) (ho : d.R e W base ok v xs) (ht : e ≠ 159) : some g ≠ v.ownBlock := by
 obtain ⟨A0, c0, hb, hg, hr0⟩ := h
 exact Kd.R_ne ho hb ht
theorem IsS159.apartQ {w0 W : World} {g : Nat} {f0 : List Int} {f1 : Int} {f2 : Int} {α : Type} {d : Kd α} {e : Nat} {base : Nat} {ok : Nat → Prop} {v : Value} {xs : List α} (h : IsS159 w0 W g f0 f1 f2) (ho : d.Q e W base ok v xs) (ht : ∀ q, q ∈ e :: d.E → q ≠ 159) : d.Q e W base (fun k => ok k ∧ k ≠ g) v xs := by
 obtain ⟨A0, c0, hb, hg, hr0⟩ := h
 exact Kd.Q_types ho hb ht
theorem IsS159.own_neQ {w0 W : World} {g : Nat} {f0 : List Int} {f1 : Int} {f2 : Int} {α : Type} {d : Kd α} {e : Nat} {base : Nat} {ok : Nat → Prop} {v : Value} {xs : List α} (h : IsS159 w0 W g f0 f1 f2) (ho : d.Q e W base ok v xs) (ht : e ≠ 159) : some g ≠ v.ownBlock := by
 obtain ⟨A0, c0, hb, hg, hr0⟩ := h
 exact Kd.Q_ne ho hb ht
theorem IsS159.apartS {w0 W : World} {g : Nat} {f0 : List Int} {f1 : Int} {f2 : Int} {α : Type} {d : Kd α} {e : Nat} {base : Nat} {ok : Nat → Prop} {v : Value} {xs : List α} (h : IsS159 w0 W g f0 f1 f2) (ho : d.S e W base ok v xs) (ht : ∀ q, q ∈ e :: d.E → q ≠ 159) : d.S e W base (fun k => ok k ∧ k ≠ g) v xs := by
 obtain ⟨A0, c0, hb, hg, hr0⟩ := h
 exact Kd.S_types ho hb ht
theorem IsS159.own_neS {w0 W : World} {g : Nat} {f0 : List Int} {f1 : Int} {f2 : Int} {α : Type} {d : Kd α} {e : Nat} {base : Nat} {ok : Nat → Prop} {v : Value} {xs : List α} (h : IsS159 w0 W g f0 f1 f2) (ho : d.S e W base ok v xs) (ht : e ≠ 159) : some g ≠ v.ownBlock := by
 obtain ⟨A0, c0, hb, hg, hr0⟩ := h
 exact Kd.S_ne ho hb ht
theorem IsS159.lt {w0 W : World} {g : Nat} {f0 : List Int} {f1 : Int} {f2 : Int} (h : IsS159 w0 W g f0 f1 f2) : g < W.heap.size := by
 obtain ⟨A0, c0, hb, hg, hr0⟩ := h
 exact blk_lt hb
theorem IsS159.ge {w0 W : World} {g : Nat} {f0 : List Int} {f1 : Int} {f2 : Int} (h : IsS159 w0 W g f0 f1 f2) : w0.heap.size ≤ g := by
 obtain ⟨A0, c0, hb, hg, hr0⟩ := h
 exact hg
theorem IsS159.ne_blk {w0 W : World} {g : Nat} {f0 : List Int} {f1 : Int} {f2 : Int} {a : Nat} {cs : Array Value} {t : TypeId} {fr : Nat × Nat} (h : IsS159 w0 W g f0 f1 f2) (hb2 : W.heap[a]? = some (.cells cs t fr)) (ht : t ≠ 159) : g ≠ a := by
 obtain ⟨A0, c0, hb, hg, hr0⟩ := h
 rintro rfl
 rw [hb] at hb2
 injection hb2 with hb2
 injection hb2 with _ ht2
 exact ht ht2.symm
theorem IsS159.far {w0 W : World} {g : Nat} {f0 : List Int} {f1 : Int} {f2 : Int} {p : Addr} (h : IsS159 w0 W g f0 f1 f2) (hne : g ≠ p.block) (u : Value) : IsS159 w0 (W.setCell p u) g f0 f1 f2 := by
 obtain ⟨A0, c0, hb, hg, hr0⟩ := h
 exact ⟨A0, c0, blk_far hb hne u, hg, hr0⟩
theorem cellS159_0 {W : World} {g : Nat} {A0 : Option Addr} {c0 : Nat} {f0 : List Int} {f1 : Int} {f2 : Int} (h : W.heap[g]? = some (.cells #[.slice A0 f0.length c0, .int .i64 f1, .int .i64 f2] 159 (0, 0))) : W.cell? ⟨g, 0, none⟩ = some (.slice A0 f0.length c0) := (blk_cell h 0).trans rfl
theorem cellS159_1 {W : World} {g : Nat} {A0 : Option Addr} {c0 : Nat} {f0 : List Int} {f1 : Int} {f2 : Int} (h : W.heap[g]? = some (.cells #[.slice A0 f0.length c0, .int .i64 f1, .int .i64 f2] 159 (0, 0))) : W.cell? ⟨g, 1, none⟩ = some (.int .i64 f1) := (blk_cell h 1).trans rfl
theorem IsS159.set_1 {w0 W : World} {g : Nat} {f0 : List Int} {f1 : Int} {f2 : Int} (h : IsS159 w0 W g f0 f1 f2) (x : Int) : IsS159 w0 (W.setCell ⟨g, 1, none⟩ (.int .i64 x)) g f0 x f2 := by
 obtain ⟨A0, c0, hb, hg, hr0⟩ := h
 exact ⟨A0, c0, by simpa using blk_set hb 1 (.int .i64 x), hg, hr0⟩
theorem cellS159_2 {W : World} {g : Nat} {A0 : Option Addr} {c0 : Nat} {f0 : List Int} {f1 : Int} {f2 : Int} (h : W.heap[g]? = some (.cells #[.slice A0 f0.length c0, .int .i64 f1, .int .i64 f2] 159 (0, 0))) : W.cell? ⟨g, 2, none⟩ = some (.int .i64 f2) := (blk_cell h 2).trans rfl
theorem IsS159.set_2 {w0 W : World} {g : Nat} {f0 : List Int} {f1 : Int} {f2 : Int} (h : IsS159 w0 W g f0 f1 f2) (x : Int) : IsS159 w0 (W.setCell ⟨g, 2, none⟩ (.int .i64 x)) g f0 f1 x := by
 obtain ⟨A0, c0, hb, hg, hr0⟩ := h
 exact ⟨A0, c0, by simpa using blk_set hb 2 (.int .i64 x), hg, hr0⟩
theorem IsS159.new (w0 W : World) (A0 : Option Addr) (c0 : Nat) (f0 : List Int) (f1 : Int) (f2 : Int) (hB : Below w0.heap.size w0 W) (hr0 : Kd.C (Kd.int .u8) w0 A0 f0.length f0) : IsS159 w0 (W.alloc (.cells #[.slice A0 f0.length c0, .int .i64 f1, .int .i64 f2] 159)) W.heap.size f0 f1 f2 := ⟨A0, c0, by simpa using heap_alloc_new W _, hB.size, hr0⟩

/-! ### spec_l1New: function 87 -/
def spec_l1New.l0 : Nat → List Int → Int → Int → Option (List Int × Int × Int)
 | 0, _, _, _ => none
 | k + 1, x0, x3, x4 => if x4 < (x0.length : Int) then (if x4 < 4000 then (if 0 ≤ x4 then (spec_l1New.l0 k x0 (Go.bits .and .i64 (wrap64 ((wrap64 ((wrap64 (x3 * 131)) + (wrap64 (rd x0 x4)))) + 7)) 1073741823) (wrap64 (x4 + 1))) else (none)) else (some (x0, 0, x3))) else (some (x0, 0, x3))
def spec_l1New.f (k : Nat) (l0 : List Int) : Option (List Int × Int × Int) := spec_l1New.l0 k l0 (wrap64 (10677 + (l0.length : Int))) 0
set_option maxRecDepth 100000 in
theorem spec_l1New.mono_l : ∀ k, (∀ y0 y1 y2, LeO (spec_l1New.l0 k y0 y1 y2) (spec_l1New.l0 (k + 1) y0 y1 y2))
 | 0 => fun _ _ _ r h => by simp [spec_l1New.l0] at h
 | k + 1 => by
  have ih0 := spec_l1New.mono_l k
  ·intro y0 y1 y2
   unfold spec_l1New.l0
   repeat' first
   | (with_reducible exact ih0 _ _ _)
   | (with_reducible exact LeO.refl _)
   | (with_reducible exact LeO.none _)
   | (with_reducible refine LeO.ite ?_ ?_)
   | (with_reducible refine LeO.bind ?_ (fun _ => ?_))
   | exact ih0 _ _ _
   | exact LeO.none _
   | refine LeO.ite ?_ ?_
   | refine LeO.bind ?_ (fun _ => ?_)
theorem spec_l1New.mono : ∀ a0 k, LeO (spec_l1New.f k a0) (spec_l1New.f (k + 1) a0) := by
 intro a0 k
 have ih0 := spec_l1New.mono_l k
 unfold spec_l1New.f
 repeat' first
  | (with_reducible exact ih0 _ _ _)
  | (with_reducible exact LeO.refl _)
  | (with_reducible exact LeO.none _)
  | (with_reducible refine LeO.ite ?_ ?_)
  | (with_reducible refine LeO.bind ?_ (fun _ => ?_))
  | exact ih0 _ _ _
  | exact LeO.none _
  | refine LeO.ite ?_ ?_
  | refine LeO.bind ?_ (fun _ => ?_)
set_option maxHeartbeats 8000000 in
set_option maxRecDepth 100000 in
theorem spec_l1New.calls (k : Nat) (A0 : Option Addr) (c0 : Nat) (l0 : List Int) (r1 : List Int) (r2 : Int) (r3 : Int) (w0 w : World) (hB : Below w0.heap.size w0 w) (hr0 : Kd.C (Kd.int .u8) w0 A0 l0.length l0) (hc0 : l0.length ≤ c0) (h : spec_l1New.f k l0 = some (r1, r2, r3)) :
 Calls Try.prog 87 #[.slice A0 l0.length c0] w fun e w' => ∃ g_ : Nat, e = .returned (.pointer (some ⟨g_, 0, none⟩)) ∧ IsS159 w0 w' g_ r1 r2 r3 ∧ Below w0.heap.size w0 w' ∧ Below w.heap.size w w' := by
 have hu159 := Try.underlying159
 have HR0 := Aside0.mk hr0
 have HC0 := Aside0.mk hc0
 clear hr0 hc0
 have HBW := Aside0.mk (Below.refl w.heap.size w)
 have HW0 := Aside0.mk hB.size
 have HB := Aside0.mk hB
 clear hB
 have H : (spec_l1New.l0 k l0 (wrap64 (10677 + (l0.length : Int))) 0) = some (r1, r2, r3) := h
 clear h
 have H' := Aside0.mk H
 clear H
 go_enter Try.func87, Try.ntmps87
 go_wp2
 go_loopg [3, 4] k (fun kq v3 v4 w' => ∃ (x3_1 : Int) (x4_1 : Int), v3 = .int .i64 x3_1 ∧ v4 = .int .i64 x4_1 ∧ Aside0 (spec_l1New.l0 kq l0 x3_1 x4_1 = some (r1, r2, r3)) ∧ Aside0 (kq ≤ k) ∧ Aside0 (Below w.heap.size w w') ∧ Aside0 (Below w0.heap.size w0 w'))
 case atStart => exact ⟨(wrap64 (10677 + (l0.length : Int))), (0), (by first | rfl | (simp; done) | (simp [*]; done)), (by first | rfl | (simp; done) | (simp [*]; done)), H', ⟨Nat.le_refl _⟩, ⟨by repeat (first | (with_reducible first | exact HBW.out | apply below_alloc | apply pw_below_drewN | apply below_drew1) | exact HBW.out)⟩, ⟨xbel⟩⟩
 case round =>
  clear H'
  obtain ⟨x3_1, x4_1, rfl, rfl, HA, HK1, HBW, HB⟩ := hrel
  cases gk with
  | zero => exact absurd HA.out (by simp [spec_l1New.l0])
  | succ k1 =>
   have H := HA.out
   clear HA
   simp only [spec_l1New.l0] at H
   by_cases c2 : x4_1 < (l0.length : Int)
   ·rw [if_pos c2] at H
    have c2b0 : decide (x4_1 < (l0.length : Int)) = true := decide_eq_true c2
    clear c2
    by_cases c3 : x4_1 < 4000
    ·rw [if_pos c3] at H
     have c3b0 : decide (x4_1 < 4000) = true := decide_eq_true c3
     clear c3
     by_cases c4 : 0 ≤ x4_1
     ·rw [if_pos c4] at H
      have c4b0 : decide (0 ≤ x4_1) = true := decide_eq_true c4
      clear c4
      have H' := Aside0.mk H
      clear H
      have p209 : 0 ≤ (x4_1 : Int) := of_decide_eq_true (by first | (with_reducible assumption) | assumption)
      have q209 : x4_1 < (l0.length : Int) := of_decide_eq_true (by first | (with_reducible assumption) | assumption)
      obtain ⟨ad209, e209, hx209_0⟩ := Kd.at_int HR0.out x4_1 p209 q209
      cases e209
      replace hx209_0 := pw_cell_below HB.out hx209_0
      replace p209 := eq_true p209
      replace q209 := eq_true q209
      go_wp2
      go_roundg k1
      case measure => have := HK1.out; omega
      case rel => exact ⟨(Go.bits .and .i64 (wrap64 ((wrap64 ((wrap64 (x3_1 * 131)) + (wrap64 (rd l0 x4_1)))) + 7)) 1073741823), (wrap64 (x4_1 + 1)), (by first | rfl | (simp; done) | (simp [*]; done)), (by first | rfl | (simp; done) | (simp [*]; done)), H', ⟨by have := HK1.out; omega⟩, ⟨by repeat (first | (with_reducible first | exact HBW.out | apply below_alloc | apply pw_below_drewN | apply below_drew1) | exact HBW.out)⟩, ⟨xbel⟩⟩
     ·rw [if_neg c4] at H
      exact absurd H (by simp)
    ·rw [if_neg c3] at H
     have c3b0 : decide (x4_1 < 4000) = false := decide_eq_false c3
     clear c3
     simp only [Option.some.injEq, Prod.mk.injEq] at H
     obtain ⟨rfl, rfl, rfl⟩ := H
     go_wp2_with (first | ((with_reducible refine gate_dst (N := 31) rfl ?_); refine box_event ?hg (N := 31) ?hd (cs := #[.slice A0 l0.length c0, .int .i64 0, .int .i64 x3_1]) (t := 159) ?hr ?_; (case hd => rfl); (case hg => rfl); (case hr => first | (go_simp; done) | (go_simp; rfl)); intro gb210 hg w5 hbox hb; replace HB := xbs hb; have BK210 := Aside0.mk (hbox); have GW210 := Aside0.mk ((by rw [hg]; exact (below_size (by repeat (first | (with_reducible first | exact HBW.out | apply below_alloc | apply pw_below_drewN | apply below_drew1) | exact HBW.out))) : w.heap.size ≤ gb210)); have GE210 := Aside0.mk ((Nat.le_trans HW0.out (by rw [hg]; exact (below_size (by repeat (first | (with_reducible first | exact HBW.out | apply below_alloc | apply pw_below_drewN | apply below_drew1) | exact HBW.out))) : w.heap.size ≤ gb210) : w0.heap.size ≤ gb210)); replace HBW := Aside0.mk (below_step HBW.out hb); clear hb hbox hg))
     go_ret
     exact ⟨_, rfl, (show IsS159 w0 _ gb210 l0 0 x3_1 from ⟨_, _, by (with_reducible repeat (first | refine blk_drewN ?_ _ | refine blk_drew ?_ | refine blk_alloc ?_ _)); exact BK210.out, GE210.out, HR0.out⟩), xbg, by repeat (first | (with_reducible first | exact HBW.out | apply below_alloc | apply pw_below_drewN | apply below_drew1 | refine below_set ?_ GW210.out) | exact HBW.out)⟩
   ·rw [if_neg c2] at H
    have c2b0 : decide (x4_1 < (l0.length : Int)) = false := decide_eq_false c2
    clear c2
    simp only [Option.some.injEq, Prod.mk.injEq] at H
    obtain ⟨rfl, rfl, rfl⟩ := H
    go_wp2_with (first | ((with_reducible refine gate_dst (N := 31) rfl ?_); refine box_event ?hg (N := 31) ?hd (cs := #[.slice A0 l0.length c0, .int .i64 0, .int .i64 x3_1]) (t := 159) ?hr ?_; (case hd => rfl); (case hg => rfl); (case hr => first | (go_simp; done) | (go_simp; rfl)); intro gb211 hg w6 hbox hb; replace HB := xbs hb; have BK211 := Aside0.mk (hbox); have GW211 := Aside0.mk ((by rw [hg]; exact (below_size (by repeat (first | (with_reducible first | exact HBW.out | apply below_alloc | apply pw_below_drewN | apply below_drew1) | exact HBW.out))) : w.heap.size ≤ gb211)); have GE211 := Aside0.mk ((Nat.le_trans HW0.out (by rw [hg]; exact (below_size (by repeat (first | (with_reducible first | exact HBW.out | apply below_alloc | apply pw_below_drewN | apply below_drew1) | exact HBW.out))) : w.heap.size ≤ gb211) : w0.heap.size ≤ gb211)); replace HBW := Aside0.mk (below_step HBW.out hb); clear hb hbox hg))
    go_ret
    exact ⟨_, rfl, (show IsS159 w0 _ gb211 l0 0 x3_1 from ⟨_, _, by (with_reducible repeat (first | refine blk_drewN ?_ _ | refine blk_drew ?_ | refine blk_alloc ?_ _)); exact BK211.out, GE211.out, HR0.out⟩), xbg, by repeat (first | (with_reducible first | exact HBW.out | apply below_alloc | apply pw_below_drewN | apply below_drew1 | refine below_set ?_ GW211.out) | exact HBW.out)⟩

/-! ### spec_l1Byte: function 143 -/
def spec_l1Byte.f (s0_0 : List Int) (s0_1 : Int) (s0_2 : Int) : Option (Int × Int × Int) := if s0_1 < (s0_0.length : Int) then (if 0 ≤ s0_1 then (some (Go.bits .and .i64 (wrap64 ((Go.bits .and .i64 (Go.bits .xor .i64 ((wrap64 ((wrap64 (s0_2 * 6364136223846793005)) + 1442695040888963407)) / 8589934592) ((wrap64 ((wrap64 (s0_2 * 6364136223846793005)) + 1442695040888963407)) / 35184372088832)) 255) + (wrap64 (rd s0_0 s0_1)))) 255, wrap64 (s0_1 + 1), wrap64 ((wrap64 (s0_2 * 6364136223846793005)) + 1442695040888963407))) else (none)) else (some (Go.bits .and .i64 (Go.bits .xor .i64 ((wrap64 ((wrap64 (s0_2 * 6364136223846793005)) + 1442695040888963407)) / 8589934592) ((wrap64 ((wrap64 (s0_2 * 6364136223846793005)) + 1442695040888963407)) / 35184372088832)) 255, s0_1, wrap64 ((wrap64 (s0_2 * 6364136223846793005)) + 1442695040888963407)))
set_option maxHeartbeats 8000000 in
set_option maxRecDepth 100000 in
theorem spec_l1Byte.calls (g : Nat) (s0_0 : List Int) (s0_1 : Int) (s0_2 : Int) (r1 : Int) (r2 : Int) (r3 : Int) (w0 w : World) (hI : IsS159 w0 w g s0_0 s0_1 s0_2) (hB : Below w0.heap.size w0 w) (h : spec_l1Byte.f s0_0 s0_1 s0_2 = some (r1, r2, r3)) :
 Calls Try.prog 143 #[.pointer (some ⟨g, 0, none⟩)] w fun e w' => e = .returned (.int .i64 r1) ∧ IsS159 w0 w' g s0_0 r2 r3 ∧ Below w0.heap.size w0 w' ∧ KeepBut w w' g none := by
 have HI0 := Aside0.mk hI
 have HK := Aside0.mk (KeepBut.refl w g none)
 have HL := Aside0.mk hB.size
 clear hI
 have HW0 := Aside0.mk hB.size
 have HB := Aside0.mk hB
 clear hB
 have H : (if s0_1 < (s0_0.length : Int) then (if 0 ≤ s0_1 then (some (Go.bits .and .i64 (wrap64 ((Go.bits .and .i64 (Go.bits .xor .i64 ((wrap64 ((wrap64 (s0_2 * 6364136223846793005)) + 1442695040888963407)) / 8589934592) ((wrap64 ((wrap64 (s0_2 * 6364136223846793005)) + 1442695040888963407)) / 35184372088832)) 255) + (wrap64 (rd s0_0 s0_1)))) 255, wrap64 (s0_1 + 1), wrap64 ((wrap64 (s0_2 * 6364136223846793005)) + 1442695040888963407))) else (none)) else (some (Go.bits .and .i64 (Go.bits .xor .i64 ((wrap64 ((wrap64 (s0_2 * 6364136223846793005)) + 1442695040888963407)) / 8589934592) ((wrap64 ((wrap64 (s0_2 * 6364136223846793005)) + 1442695040888963407)) / 35184372088832)) 255, s0_1, wrap64 ((wrap64 (s0_2 * 6364136223846793005)) + 1442695040888963407)))) = some (r1, r2, r3) := h
 clear h
 by_cases c2 : s0_1 < (s0_0.length : Int)
 ·rw [if_pos c2] at H
  have c2b0 : decide (s0_1 < (s0_0.length : Int)) = true := decide_eq_true c2
  clear c2
  by_cases c3 : 0 ≤ s0_1
  ·rw [if_pos c3] at H
   have c3b0 : decide (0 ≤ s0_1) = true := decide_eq_true c3
   clear c3
   simp only [Option.some.injEq, Prod.mk.injEq] at H
   obtain ⟨rfl, rfl, rfl⟩ := H
   obtain ⟨ASz4_0, cSz4_0, HGz4, hgz4, HSz4_0⟩ := HI0.out
   have hcz4_0 := cellS159_0 HGz4
   have hcz4_1 := cellS159_1 HGz4
   have hcz4_2 := cellS159_2 HGz4
   have hfz4_1 := blk_frozen HGz4 1
   have hfz4_2 := blk_frozen HGz4 2
   clear HGz4 hgz4
   have p212 : 0 ≤ (s0_1 : Int) := of_decide_eq_true (by first | (with_reducible assumption) | assumption)
   have q212 : s0_1 < (s0_0.length : Int) := of_decide_eq_true (by first | (with_reducible assumption) | assumption)
   obtain ⟨ad212, e212, hx212_0⟩ := Kd.at_int HSz4_0 s0_1 p212 q212
   cases e212
   have hn212_0 : ad212.block ≠ g := Nat.ne_of_lt (Nat.lt_of_lt_of_le (by have := World.block_lt_of_cell? _ _ hx212_0; first | rwa [add_block] at this | exact this) (IsS159.ge HI0.out))
   replace hx212_0 := pw_cell_below HB.out hx212_0
   replace hx212_0 := (cell_far (p := ⟨g, 2, none⟩) (by first | (rw [add_block]; exact hn212_0) | (show (Addr.add _ _).block ≠ _; rw [add_block]; exact hn212_0) | exact hn212_0) (.int .i64 (wrap64 ((wrap64 (s0_2 * 6364136223846793005)) + 1442695040888963407)))).trans hx212_0
   (try have hy212_0 := fun (n_ : Nat) => (show (((w.drewN n_).setCell ⟨g, 2, none⟩ (.int .i64 (wrap64 ((wrap64 (s0_2 * 6364136223846793005)) + 1442695040888963407))))).cell? _ = some _ from hx212_0))
   clear hn212_0
   replace p212 := eq_true p212
   replace q212 := eq_true q212
   go_enter Try.func143, Try.ntmps143
   go_wp2
   repeat (go_quiet (fail); try go_wp2)
   go_ret
   exact ⟨by first | rfl | (simp [errW_none, errW_some] <;> rfl) | (simp [*, errW_none, errW_some] <;> rfl), by repeat (first | (with_reducible first | exact HI0.out | apply IsS159.alloc | apply IsS159.drewN | apply IsS159.drew | apply IsS159.set_1 | apply IsS159.set_2) | exact HI0.out), by repeat (first | (with_reducible first | exact HB.out | apply below_alloc | apply pw_below_drewN | apply below_drew1 | refine below_set ?_ (IsS159.ge HI0.out)) | exact HB.out), by repeat (first | (with_reducible first | exact HK.out | apply KeepBut.set_ | apply keep_drewN | apply keep_drew | apply keep_alloc) | exact HK.out)⟩
  ·rw [if_neg c3] at H
   exact absurd H (by simp)
 ·rw [if_neg c2] at H
  have c2b0 : decide (s0_1 < (s0_0.length : Int)) = false := decide_eq_false c2
  clear c2
  simp only [Option.some.injEq, Prod.mk.injEq] at H
  obtain ⟨rfl, rfl, rfl⟩ := H
  obtain ⟨ASz5_0, cSz5_0, HGz5, hgz5, HSz5_0⟩ := HI0.out
  have hcz5_0 := cellS159_0 HGz5
  have hcz5_1 := cellS159_1 HGz5
  have hcz5_2 := cellS159_2 HGz5
  have hfz5_1 := blk_frozen HGz5 1
  have hfz5_2 := blk_frozen HGz5 2
  clear HGz5 hgz5
  go_enter Try.func143, Try.ntmps143
  go_wp2
  repeat (go_quiet (fail); try go_wp2)
  go_ret
  exact ⟨by first | rfl | (simp [errW_none, errW_some] <;> rfl) | (simp [*, errW_none, errW_some] <;> rfl), by repeat (first | (with_reducible first | exact HI0.out | apply IsS159.alloc | apply IsS159.drewN | apply IsS159.drew | apply IsS159.set_1 | apply IsS159.set_2) | exact HI0.out), by repeat (first | (with_reducible first | exact HB.out | apply below_alloc | apply pw_below_drewN | apply below_drew1 | refine below_set ?_ (IsS159.ge HI0.out)) | exact HB.out), by repeat (first | (with_reducible first | exact HK.out | apply KeepBut.set_ | apply keep_drewN | apply keep_drew | apply keep_alloc) | exact HK.out)⟩

end Go.Proofs.Ytkfoojknjmgjdaa.QFnSyncs
