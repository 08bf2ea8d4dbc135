-- A walk, by a program of this session.
import Derived.Test.YtkfoojknjmgjdaaQFnDiskx0
import Derived.Test.YtkfoojknjmgjdaaQFnDiskx1
namespace Go.Proofs.Ytkfoojknjmgjdaa.QFnDisk
open Go.RowKit Go.Proofs.YtkfoojknjmgjdaaW.PrintWords Go.Proofs.YtkfoojknjmgjdaaW.PrintLast Go.Proofs.YtkfoojknjmgjdaaW.PrintMore
attribute [local go_sem] max2_int min2_int max_two min_two max_three min_three max_four min_four   -- for this text's walks alone
set_option linter.unusedVariables false
set_option linter.unusedSimpArgs false

/-! ### impl_DiskSync: function 35 -/
def impl_DiskSync.j0 : Nat → Int → Bool → Int → List (S81) → Option (Int × (List (S81)) × Int)
 | 0, _, _, _, _ => none
 | k + 1, x1, x16, x121000, x121001 => if x16 = true then (some (0, ([] : List (S81)), 1)) else ((impl_copyDisk.f x121000 x121001).bind fun bt124 => ((impl_fileAt.f x121000 x121001 x1).bind fun t129 => (if t129 < 0 then (some (bt124.1, bt124.2, 2)) else (if 0 ≤ t129 then (if t129 < (x121001.length : Int) then (if ((rd_T81 x121001 t129).f1).size + ((rd_T81 x121001 t129).f2).size ≤ 9223372036854775807 then (if t129 < (bt124.2.length : Int) then (some (bt124.1, (bt124.2.set (t129 : Int).toNat (⟨x1, ((rd_T81 x121001 t129).f1) ++ ((rd_T81 x121001 t129).f2), (⟨#[]⟩ : ByteArray)⟩ : S81)), 0)) else (none)) else (none)) else (none)) else (none)))))
def impl_DiskSync.f (k : Nat) (a0_0 : Int) (l0_1 : List (S81)) (a1 : Int) : Option (Int × (List (S81)) × Int) := (impl_DiskOk.f k a0_0 l0_1).bind fun t122 => (if t122 = true then ((impl_isFile.f a1).bind fun t123 => (impl_DiskSync.j0 k a1 (!t123) a0_0 l0_1)) else (impl_DiskSync.j0 k a1 true a0_0 l0_1))
set_option maxRecDepth 100000 in
theorem impl_DiskSync.mono_l : ∀ k, (∀ y0 y1 y2 y3, LeO (impl_DiskSync.j0 k y0 y1 y2 y3) (impl_DiskSync.j0 (k + 1) y0 y1 y2 y3))
 | 0 => fun _ _ _ _ r h => by simp [impl_DiskSync.j0] at h
 | k + 1 => by
  have ih0 := impl_DiskSync.mono_l k
  ·intro y0 y1 y2 y3
   unfold impl_DiskSync.j0
   repeat' first
   | (with_reducible exact ih0 _ _ _ _)
   | (with_reducible exact impl_DiskOk.mono _ _ _)
   | (with_reducible exact LeO.refl _)
   | (with_reducible exact LeO.none _)
   | (with_reducible refine LeO.ite ?_ ?_)
   | (with_reducible refine LeO.bind ?_ (fun _ => ?_))
   | exact ih0 _ _ _ _
   | exact impl_DiskOk.mono _ _ _
   | exact LeO.none _
   | refine LeO.ite ?_ ?_
   | refine LeO.bind ?_ (fun _ => ?_)
theorem impl_DiskSync.mono : ∀ a0 a1 a2 k, LeO (impl_DiskSync.f k a0 a1 a2) (impl_DiskSync.f (k + 1) a0 a1 a2) := by
 intro a0 a1 a2 k
 have ih0 := impl_DiskSync.mono_l k
 unfold impl_DiskSync.f
 repeat' first
  | (with_reducible exact ih0 _ _ _ _)
  | (with_reducible exact impl_DiskOk.mono _ _ _)
  | (with_reducible exact LeO.refl _)
  | (with_reducible exact LeO.none _)
  | (with_reducible refine LeO.ite ?_ ?_)
  | (with_reducible refine LeO.bind ?_ (fun _ => ?_))
  | exact ih0 _ _ _ _
  | exact impl_DiskOk.mono _ _ _
  | exact LeO.none _
  | refine LeO.ite ?_ ?_
  | refine LeO.bind ?_ (fun _ => ?_)
set_option maxHeartbeats 8000000 in
set_option maxRecDepth 100000 in
theorem impl_DiskSync.calls (k : Nat) (a0_0 : Int) (A0_1 : Option Addr) (c0_1 : Nat) (l0_1 : List (S81)) (a1 : Int) (r1 : Int) (r2 : List (S81)) (r3 : Int) (w : World) (hr0_1 : Kd.C k81 w A0_1 l0_1.length l0_1) (hc0_1 : l0_1.length ≤ c0_1) (h : impl_DiskSync.f k a0_0 l0_1 a1 = some (r1, r2, r3)) :
 Calls Try.prog 35 #[.agg #[.int .i64 a0_0, .slice A0_1 l0_1.length c0_1], .int .i64 a1] w fun e w' => ∃ v1_ : Value, e = .returned (.tuple #[.agg #[.int .i64 r1, v1_], .int .i64 r3]) ∧ Kd.R k81 81 w' w.heap.size (fun _ => True) v1_ r2 ∧ Below w.heap.size w w' := by
 have hu63 := Try.underlying63
 have hu81 := Try.underlying81
 have HR0_1 := Aside0.mk hr0_1
 have HC0_1 := Aside0.mk hc0_1
 clear hr0_1 hc0_1
 have HB := Aside0.mk (Below.refl w.heap.size w)
 have H : ((impl_DiskOk.f k a0_0 l0_1).bind fun t122 => (if t122 = true then ((impl_isFile.f a1).bind fun t123 => (impl_DiskSync.j0 k a1 (!t123) a0_0 l0_1)) else (impl_DiskSync.j0 k a1 true a0_0 l0_1))) = some (r1, r2, r3) := h
 clear h
 have HC3 := Aside0.mk H
 clear H
 go_enter Try.func35, Try.ntmps35
 go_upto_region 1 with (first | ((with_reducible refine gate_dst (N := 2) rfl ?_); refine box_event ?hg (N := 2) ?hd (cs := #[.int .i64 a0_0, .slice A0_1 l0_1.length c0_1]) (t := 63) ?hr ?_; (case hd => rfl); (case hg => rfl); (case hr => first | (go_simp; done) | (go_simp; rfl)); intro gb120 hg w4 hbox hb; have BK120 := Aside0.mk (hbox); have GW120 := Aside0.mk (xge hg); have GE120 := Aside0.mk (xge hg); replace HB := xbs hb; clear hb hbox hg) | ((with_reducible refine gate_dst (N := 4) rfl ?_); refine box_event ?hg (N := 4) ?hd (cs := #[.int .i64 0, .slice none 0 0]) (t := 63) ?hr ?_; (case hd => rfl); (case hg => rfl); (case hr => first | (go_simp; done) | (go_simp; rfl)); intro gb121 hg w5 hbox hb; have GW121 := Aside0.mk (xge hg); have GE121 := Aside0.mk (xge hg); replace HB := xbs hb; have NB120_121 := Aside0.mk ((by rw [hg]; exact Nat.ne_of_lt (blk_lt (g := gb120) (o := .cells #[.int .i64 a0_0, .slice A0_1 l0_1.length c0_1] 63 (0, 0)) xblk) : gb120 ≠ gb121)); have NB121_120 := Aside0.mk ((by rw [hg]; exact Nat.ne_of_gt (blk_lt (g := gb120) (o := .cells #[.int .i64 a0_0, .slice A0_1 l0_1.length c0_1] 63 (0, 0)) xblk) : gb121 ≠ gb120)); replace BK120 := xbb BK120 hb; have BK121 := Aside0.mk (hbox); clear hb hbox hg))
 (try simp only [Act.put, List.setIfInBounds_toArray, List.set_cons_zero, List.set_cons_succ])
 go_cut [16] (fun v16 wc => ∃ (kq : Nat) (x16_2 : Bool), v16 = .bool x16_2 ∧ Aside0 (impl_DiskSync.j0 kq a1 x16_2 a0_0 l0_1 = some (r1, r2, r3)) ∧ Aside0 (kq ≤ k) ∧ Aside0 (wc.heap[gb120]? = some (.cells #[.int .i64 a0_0, (.slice A0_1 l0_1.length c0_1)] 63 (0, 0))) ∧ Aside0 (wc.heap[gb121]? = some (.cells #[.int .i64 0, (.slice none 0 0)] 63 (0, 0))) ∧ Aside0 (Below w.heap.size w wc))
 case first =>
  have H := HC3.out
  clear HC3
  replace H := Option.bind_eq_some_iff.mp H
  obtain ⟨t122, A60, H⟩ := H
  replace H : (if t122 = true then ((impl_isFile.f a1).bind fun t123 => (impl_DiskSync.j0 k a1 (!t123) a0_0 l0_1)) else (impl_DiskSync.j0 k a1 true a0_0 l0_1)) = some (r1, r2, r3) := H
  have A6 := Aside0.mk A60
  clear A60
  by_cases c7 : t122 = true
  ·subst c7
   have H1 : ((impl_isFile.f a1).bind fun t123 => (impl_DiskSync.j0 k a1 (!t123) a0_0 l0_1)) = some (r1, r2, r3) := by rw [if_pos rfl] at H; exact H
   clear H
   have H := H1
   clear H1
   replace H := Option.bind_eq_some_iff.mp H
   obtain ⟨t123, A80, H⟩ := H
   replace H : (impl_DiskSync.j0 k a1 (!t123) a0_0 l0_1) = some (r1, r2, r3) := H
   have A8 := Aside0.mk A80
   clear A80
   have H' := Aside0.mk H
   clear H
   have hnb9 := NB120_121.out
   have hnc9 := NB121_120.out
   have hcz10_0 : w5.cell? ⟨gb120, 0, none⟩ = some (.int .i64 a0_0) := (blk_cell BK120.out 0).trans rfl
   have hcz10_1 : w5.cell? ⟨gb120, 1, none⟩ = some (.slice A0_1 l0_1.length c0_1) := (blk_cell BK120.out 1).trans rfl
   have hfz10_0 := blk_frozen BK120.out 0
   have hfz10_1 := blk_frozen BK120.out 1
   go_wp2_with (first | ((with_reducible refine gate_callee (f := 49) rfl ?_); refine goesL_ (some 10) rfl rfl Try.func49 (by kernel_rfl) rfl #[.agg #[.int .i64 a0_0, .slice A0_1 l0_1.length c0_1]] rfl (by (try simp only [List.map_toArray, List.map_cons, List.map_nil]); first | done | rfl | (simp only [List.length_drop, List.length_take]; rfl)) ?_; (with_reducible refine (impl_DiskOk.calls k a0_0 _ _ l0_1 true _ ?side1 ?side2 A6.out).mono ?_); (case side1 => exact xcb HR0_1); (case side2 => exact HC0_1.out); rintro e w11 ⟨rfl, hb⟩; refine ⟨_, rfl, ?_⟩; replace BK120 := xbb BK120 hb; replace BK121 := xbb BK121 hb; replace HB := xbs hb; (try clear hb); (try clear hb2); (try clear hk); (try clear hi)) | (go_at_call 109; (with_reducible refine (impl_isFile.calls a1 t123 _ A8.out).mono ?_); rintro e w' ⟨rfl, ⟨nd, rfl⟩⟩))
   go_meet
   case rel => exact ⟨_, (!t123), (by first | rfl | (simp; done) | (simp [*]; done)), H', ⟨by first | omega | exact Nat.le_refl _⟩, ⟨xblk⟩, ⟨xblk⟩, ⟨xbg⟩⟩
  ·replace c7 := Bool.eq_false_iff.mpr c7
   subst c7
   have H1 : (impl_DiskSync.j0 k a1 true a0_0 l0_1) = some (r1, r2, r3) := by rw [if_neg (show ¬ (false = true) by decide)] at H; exact H
   clear H
   have H := H1
   clear H1
   have H' := Aside0.mk H
   clear H
   have hnb12 := NB120_121.out
   have hnc12 := NB121_120.out
   have hcz13_0 : w5.cell? ⟨gb120, 0, none⟩ = some (.int .i64 a0_0) := (blk_cell BK120.out 0).trans rfl
   have hcz13_1 : w5.cell? ⟨gb120, 1, none⟩ = some (.slice A0_1 l0_1.length c0_1) := (blk_cell BK120.out 1).trans rfl
   have hfz13_0 := blk_frozen BK120.out 0
   have hfz13_1 := blk_frozen BK120.out 1
   go_wp2_with (first | ((with_reducible refine gate_callee (f := 49) rfl ?_); refine goesL_ (some 10) rfl rfl Try.func49 (by kernel_rfl) rfl #[.agg #[.int .i64 a0_0, .slice A0_1 l0_1.length c0_1]] rfl (by (try simp only [List.map_toArray, List.map_cons, List.map_nil]); first | done | rfl | (simp only [List.length_drop, List.length_take]; rfl)) ?_; (with_reducible refine (impl_DiskOk.calls k a0_0 _ _ l0_1 false _ ?side1 ?side2 A6.out).mono ?_); (case side1 => exact xcb HR0_1); (case side2 => exact HC0_1.out); rintro e w14 ⟨rfl, hb⟩; refine ⟨_, rfl, ?_⟩; replace BK120 := xbb BK120 hb; replace BK121 := xbb BK121 hb; replace HB := xbs hb; (try clear hb); (try clear hb2); (try clear hk); (try clear hi)))
   go_meet
   case rel => exact ⟨_, (true), (by first | rfl | (simp; done) | (simp [*]; done)), H', ⟨by first | omega | exact Nat.le_refl _⟩, ⟨xblk⟩, ⟨xblk⟩, ⟨xbg⟩⟩
 case rest =>
  clear HC3
  try clear c1
  try clear p2
  try clear c3
  try clear c4
  try clear c7
  try clear c9
  try clear c12
  try clear hcz10_0
  try clear hcz10_1
  try clear hcz13_0
  try clear hcz13_1
  try clear hfz10_0
  try clear hfz10_1
  try clear hfz13_0
  try clear hfz13_1
  obtain ⟨kq, x16_2, rfl, HA, HJ2, BK120, BK121, HB⟩ := hcut
  cases kq with
  | zero => exact absurd HA.out (by simp [impl_DiskSync.j0])
  | succ kj2 =>
   have H := HA.out
   clear HA
   simp only [impl_DiskSync.j0] at H
   by_cases c15 : x16_2 = true
   ·subst c15
    have H1 : (some (0, ([] : List (S81)), 1)) = some (r1, r2, r3) := by rw [if_pos rfl] at H; exact H
    clear H
    have H := H1
    clear H1
    simp only [Option.some.injEq, Prod.mk.injEq] at H
    obtain ⟨rfl, rfl, rfl⟩ := H
    have hnb16 := NB121_120.out
    have hnc16 := NB120_121.out
    have hcz17_0 : wc.cell? ⟨gb121, 0, none⟩ = some (.int .i64 0) := (blk_cell BK121.out 0).trans rfl
    have hcz17_1 : wc.cell? ⟨gb121, 1, none⟩ = some (.slice none 0 0) := (blk_cell BK121.out 1).trans rfl
    have hfz17_0 := blk_frozen BK121.out 0
    have hfz17_1 := blk_frozen BK121.out 1
    go_wp2
    refine bodyPost_ret (results_ct rfl _ _ gb121 63 #[.int .i64 0, .slice none 0 0] (0, 0) _ rfl (by (with_reducible repeat (first | refine blk_drewN ?_ _ | refine blk_drew ?_ | refine blk_alloc ?_ _)); refine blk_put (cs := #[.int .i64 0, .slice none 0 0]) ?_ 1 _ rfl; (with_reducible repeat (first | refine blk_drewN ?_ _ | refine blk_drew ?_ | refine blk_alloc ?_ _)); refine blk_put (cs := #[.int .i64 0, .slice none 0 0]) ?_ 0 _ rfl; (with_reducible repeat (first | refine blk_drewN ?_ _ | refine blk_drew ?_ | refine blk_alloc ?_ _)); exact BK121.out) Try.underlying63 rfl (by kernel_rfl)) rfl ?_
    exact ⟨_, by first | rfl | (simp [errW_none, errW_some] <;> rfl) | (simp [*, errW_none, errW_some] <;> rfl), by first | exact Kd.R_nil _ _ _ _ _ | exact Kd.N_nil _ _ _ _ _ | exact Kd.V_nil _ _ _ _ _ | exact Kd.Q_nil _ _ _ _ _ | exact Kd.S_nil _ _ _ _ _, xbg⟩
   ·replace c15 := Bool.eq_false_iff.mpr c15
    subst c15
    have H1 : ((impl_copyDisk.f a0_0 l0_1).bind fun bt124 => ((impl_fileAt.f a0_0 l0_1 a1).bind fun t129 => (if t129 < 0 then (some (bt124.1, bt124.2, 2)) else (if 0 ≤ t129 then (if t129 < (l0_1.length : Int) then (if ((rd_T81 l0_1 t129).f1).size + ((rd_T81 l0_1 t129).f2).size ≤ 9223372036854775807 then (if t129 < (bt124.2.length : Int) then (some (bt124.1, (bt124.2.set (t129 : Int).toNat (⟨a1, ((rd_T81 l0_1 t129).f1) ++ ((rd_T81 l0_1 t129).f2), (⟨#[]⟩ : ByteArray)⟩ : S81)), 0)) else (none)) else (none)) else (none)) else (none))))) = some (r1, r2, r3) := by rw [if_neg (show ¬ (false = true) by decide)] at H; exact H
    clear H
    have H := H1
    clear H1
    replace H := Option.bind_eq_some_iff.mp H
    obtain ⟨⟨t124, t125⟩, A180, H⟩ := H
    replace H : ((impl_fileAt.f a0_0 l0_1 a1).bind fun t129 => (if t129 < 0 then (some (t124, t125, 2)) else (if 0 ≤ t129 then (if t129 < (l0_1.length : Int) then (if ((rd_T81 l0_1 t129).f1).size + ((rd_T81 l0_1 t129).f2).size ≤ 9223372036854775807 then (if t129 < (t125.length : Int) then (some (t124, (t125.set (t129 : Int).toNat (⟨a1, ((rd_T81 l0_1 t129).f1) ++ ((rd_T81 l0_1 t129).f2), (⟨#[]⟩ : ByteArray)⟩ : S81)), 0)) else (none)) else (none)) else (none)) else (none)))) = some (r1, r2, r3) := H
    have A18 := Aside0.mk A180
    clear A180
    replace H := Option.bind_eq_some_iff.mp H
    obtain ⟨t129, A190, H⟩ := H
    replace H : (if t129 < 0 then (some (t124, t125, 2)) else (if 0 ≤ t129 then (if t129 < (l0_1.length : Int) then (if ((rd_T81 l0_1 t129).f1).size + ((rd_T81 l0_1 t129).f2).size ≤ 9223372036854775807 then (if t129 < (t125.length : Int) then (some (t124, (t125.set (t129 : Int).toNat (⟨a1, ((rd_T81 l0_1 t129).f1) ++ ((rd_T81 l0_1 t129).f2), (⟨#[]⟩ : ByteArray)⟩ : S81)), 0)) else (none)) else (none)) else (none)) else (none))) = some (r1, r2, r3) := H
    have A19 := Aside0.mk A190
    clear A190
    by_cases c20 : t129 < 0
    ·rw [if_pos c20] at H
     have c20b0 : decide (t129 < 0) = true := decide_eq_true c20
     clear c20
     simp only [Option.some.injEq, Prod.mk.injEq] at H
     obtain ⟨rfl, rfl, rfl⟩ := H
     have hnb21 := NB120_121.out
     have hnc21 := NB121_120.out
     have hcz22_0 : wc.cell? ⟨gb120, 0, none⟩ = some (.int .i64 a0_0) := (blk_cell BK120.out 0).trans rfl
     have hcz22_1 : wc.cell? ⟨gb120, 1, none⟩ = some (.slice A0_1 l0_1.length c0_1) := (blk_cell BK120.out 1).trans rfl
     have hfz22_0 := blk_frozen BK120.out 0
     have hfz22_1 := blk_frozen BK120.out 1
     go_wp2_with (first | ((with_reducible refine gate_callee (f := 110) rfl ?_); refine goesL_ (some 19) rfl rfl Try.func110 (by kernel_rfl) rfl #[.agg #[.int .i64 a0_0, .slice A0_1 l0_1.length c0_1]] rfl (by (try simp only [List.map_toArray, List.map_cons, List.map_nil]); first | done | rfl | (simp only [List.length_drop, List.length_take]; rfl)) ?_; (with_reducible refine (impl_copyDisk.calls a0_0 _ _ l0_1 t124 t125 _ ?side1 ?side2 A18.out).mono ?_); (case side1 => exact xcb HR0_1); (case side2 => exact HC0_1.out); rintro e w23 ⟨v126, rfl, ho0, hb⟩; refine ⟨_, rfl, ?_⟩; have HO127 := Aside0.mk (Kd.R_lower ho0 (below_size xbg)); replace BK120 := xbb BK120 hb; replace BK121 := xbb BK121 hb; replace HB := xbs hb; (try clear hb); (try clear hb2); (try clear hk); (try clear hi); (try clear ho0)) | ((with_reducible refine gate_dst (N := 6) rfl ?_); refine box_event ?hg (N := 6) ?hd (cs := #[.int .i64 0, .slice none 0 0]) (t := 63) ?hr ?_; (case hd => rfl); (case hg => rfl); (case hr => first | (go_simp; done) | (go_simp; rfl)); intro gb128 hg w24 hbox hb; replace HO127 := Aside0.mk (Kd.R_below (by (with_reducible repeat (first | apply Kd.R_alloc | apply Kd.R_drewN | apply Kd.R_drew)); exact HO127.out) hb); have GW128 := Aside0.mk (xge hg); have GE128 := Aside0.mk (xge hg); replace HB := xbs hb; have NB120_128 := Aside0.mk ((by rw [hg]; exact Nat.ne_of_lt (blk_lt (g := gb120) (o := .cells #[.int .i64 a0_0, .slice A0_1 l0_1.length c0_1] 63 (0, 0)) xblk) : gb120 ≠ gb128)); have NB128_120 := Aside0.mk ((by rw [hg]; exact Nat.ne_of_gt (blk_lt (g := gb120) (o := .cells #[.int .i64 a0_0, .slice A0_1 l0_1.length c0_1] 63 (0, 0)) xblk) : gb128 ≠ gb120)); have NB121_128 := Aside0.mk ((by rw [hg]; exact Nat.ne_of_lt (blk_lt (g := gb121) (o := .cells #[.int .i64 0, .slice none 0 0] 63 (0, 0)) xblk) : gb121 ≠ gb128)); have NB128_121 := Aside0.mk ((by rw [hg]; exact Nat.ne_of_gt (blk_lt (g := gb121) (o := .cells #[.int .i64 0, .slice none 0 0] 63 (0, 0)) xblk) : gb128 ≠ gb121)); replace BK120 := xbb BK120 hb; replace BK121 := xbb BK121 hb; have BK128 := Aside0.mk (hbox); clear hb hbox hg; have hnb25 := NB128_120.out; have hnc25 := NB120_128.out; have hnb26 := NB128_121.out; have hnc26 := NB121_128.out; have hcz27_0 : w24.cell? ⟨gb128, 0, none⟩ = some (.int .i64 0) := (blk_cell BK128.out 0).trans rfl; have hcz27_1 : w24.cell? ⟨gb128, 1, none⟩ = some (.slice none 0 0) := (blk_cell BK128.out 1).trans rfl; have hfz27_0 := blk_frozen BK128.out 0; have hfz27_1 := blk_frozen BK128.out 1; obtain ⟨Ao28, co28, eo28⟩ := Kd.R_slice HO127.out; subst eo28; have hcz29_0 : w24.cell? ⟨gb120, 0, none⟩ = some (.int .i64 a0_0) := (blk_cell BK120.out 0).trans rfl; have hcz29_1 : w24.cell? ⟨gb120, 1, none⟩ = some (.slice A0_1 l0_1.length c0_1) := (blk_cell BK120.out 1).trans rfl; have hfz29_0 := blk_frozen BK120.out 0; have hfz29_1 := blk_frozen BK120.out 1) | ((with_reducible refine gate_callee (f := 111) rfl ?_); refine goesL_ (some 22) rfl rfl Try.func111 (by kernel_rfl) rfl #[.agg #[.int .i64 a0_0, .slice A0_1 l0_1.length c0_1], .int .i64 a1] rfl (by (try simp only [List.map_toArray, List.map_cons, List.map_nil]); first | done | rfl | (simp only [List.length_drop, List.length_take]; rfl)) ?_; (with_reducible refine (impl_fileAt.calls a0_0 _ _ l0_1 a1 t129 _ ?side1 ?side2 A19.out).mono ?_); (case side1 => exact Kd.C_below HR0_1.out xbg); (case side2 => exact HC0_1.out); rintro e w30 ⟨rfl, hb⟩; refine ⟨_, rfl, ?_⟩; replace HO127 := Aside0.mk (Kd.R_below (by (with_reducible repeat (first | apply Kd.R_alloc | apply Kd.R_drewN | apply Kd.R_drew)); exact (Kd.R_mono (Kd.R_far (p := ⟨gb128, 1, none⟩) (Kd.R_far (p := ⟨gb128, 0, none⟩) (Kd.R_types HO127.out BK128.out (by decide)) (fun _ hk => hk.2) (.int .i64 t124)) (fun _ hk => hk.2) (.slice Ao28 t125.length co28)) (fun _ h_ => h_.1))) hb); replace BK120 := Aside0.mk (blk_below (g := gb120) (o := .cells #[.int .i64 a0_0, .slice A0_1 l0_1.length c0_1] 63 (0, 0)) (by (with_reducible repeat (first | refine blk_drewN ?_ _ | refine blk_drew ?_ | refine blk_alloc ?_ _)); refine blk_far ?_ NB120_128.out _; (with_reducible repeat (first | refine blk_drewN ?_ _ | refine blk_drew ?_ | refine blk_alloc ?_ _)); refine blk_far ?_ NB120_128.out _; (with_reducible repeat (first | refine blk_drewN ?_ _ | refine blk_drew ?_ | refine blk_alloc ?_ _)); exact BK120.out) hb); replace BK121 := Aside0.mk (blk_below (g := gb121) (o := .cells #[.int .i64 0, .slice none 0 0] 63 (0, 0)) (by (with_reducible repeat (first | refine blk_drewN ?_ _ | refine blk_drew ?_ | refine blk_alloc ?_ _)); refine blk_far ?_ NB121_128.out _; (with_reducible repeat (first | refine blk_drewN ?_ _ | refine blk_drew ?_ | refine blk_alloc ?_ _)); refine blk_far ?_ NB121_128.out _; (with_reducible repeat (first | refine blk_drewN ?_ _ | refine blk_drew ?_ | refine blk_alloc ?_ _)); exact BK121.out) hb); replace BK128 := Aside0.mk (blk_below (g := gb128) (o := .cells #[.int .i64 t124, .slice Ao28 t125.length co28] 63 (0, 0)) (by (with_reducible repeat (first | refine blk_drewN ?_ _ | refine blk_drew ?_ | refine blk_alloc ?_ _)); refine blk_put (cs := #[.int .i64 t124, .slice none 0 0]) ?_ 1 _ rfl; (with_reducible repeat (first | refine blk_drewN ?_ _ | refine blk_drew ?_ | refine blk_alloc ?_ _)); refine blk_put (cs := #[.int .i64 0, .slice none 0 0]) ?_ 0 _ rfl; (with_reducible repeat (first | refine blk_drewN ?_ _ | refine blk_drew ?_ | refine blk_alloc ?_ _)); exact BK128.out) hb); replace HB := xbs hb; (try clear hb); (try clear hb2); (try clear hk); (try clear hi); have hcz31_0 : w30.cell? ⟨gb128, 0, none⟩ = some (.int .i64 t124) := (blk_cell BK128.out 0).trans rfl; have hcz31_1 : w30.cell? ⟨gb128, 1, none⟩ = some (.slice Ao28 t125.length co28) := (blk_cell BK128.out 1).trans rfl; have hfz31_0 := blk_frozen BK128.out 0; have hfz31_1 := blk_frozen BK128.out 1; have hcz32_0 : w30.cell? ⟨gb121, 0, none⟩ = some (.int .i64 0) := (blk_cell BK121.out 0).trans rfl; have hcz32_1 : w30.cell? ⟨gb121, 1, none⟩ = some (.slice none 0 0) := (blk_cell BK121.out 1).trans rfl; have hfz32_0 := blk_frozen BK121.out 0; have hfz32_1 := blk_frozen BK121.out 1))
     refine bodyPost_ret (results_ct rfl _ _ gb121 63 #[.int .i64 t124, .slice Ao28 t125.length co28] (0, 0) _ rfl (by (with_reducible repeat (first | refine blk_drewN ?_ _ | refine blk_drew ?_ | refine blk_alloc ?_ _)); refine blk_put (cs := #[.int .i64 t124, .slice none 0 0]) ?_ 1 _ rfl; (with_reducible repeat (first | refine blk_drewN ?_ _ | refine blk_drew ?_ | refine blk_alloc ?_ _)); refine blk_put (cs := #[.int .i64 0, .slice none 0 0]) ?_ 0 _ rfl; (with_reducible repeat (first | refine blk_drewN ?_ _ | refine blk_drew ?_ | refine blk_alloc ?_ _)); exact BK121.out) Try.underlying63 rfl (by kernel_rfl)) rfl ?_
     exact ⟨_, by first | rfl | (simp [errW_none, errW_some] <;> rfl) | (simp [*, errW_none, errW_some] <;> rfl), by (with_reducible repeat (first | apply Kd.R_alloc | apply Kd.R_drewN | apply Kd.R_drew)); exact Kd.R_mono (Kd.R_far (p := ⟨gb121, 1, none⟩) (Kd.R_far (p := ⟨gb121, 0, none⟩) (Kd.R_types HO127.out BK121.out (by decide)) (fun _ hk => hk.2) (.int .i64 t124)) (fun _ hk => hk.2) (.slice Ao28 t125.length co28)) (fun _ hk => trivial), xbg⟩
    ·rw [if_neg c20] at H
     have c20b0 : decide (t129 < 0) = false := decide_eq_false c20
     clear c20
     by_cases c33 : 0 ≤ t129
     ·rw [if_pos c33] at H
      have c33b0 : decide (0 ≤ t129) = true := decide_eq_true c33
      clear c33
      by_cases c34 : t129 < (l0_1.length : Int)
      ·rw [if_pos c34] at H
       have c34b0 : decide (t129 < (l0_1.length : Int)) = true := decide_eq_true c34
       clear c34
       by_cases c35 : ((rd_T81 l0_1 t129).f1).size + ((rd_T81 l0_1 t129).f2).size ≤ 9223372036854775807
       ·rw [if_pos c35] at H
        have c35b0 := eq_true c35
        have c35b1 : decide (((rd_T81 l0_1 t129).f1).size + ((rd_T81 l0_1 t129).f2).size ≤ 9223372036854775807) = true := decide_eq_true c35
        try have c35b2 : (9223372036854775807 < ((rd_T81 l0_1 t129).f1).size + ((rd_T81 l0_1 t129).f2).size) = False := eq_false (Nat.not_lt.2 c35)
        by_cases c36 : t129 < (t125.length : Int)
        ·rw [if_pos c36] at H
         have c36b0 : decide (t129 < (t125.length : Int)) = true := decide_eq_true c36
         clear c36
         obtain ⟨y132, hy132⟩ : ∃ y_ : List (S81), y_ = (t125.set (t129 : Int).toNat (⟨a1, ((rd_T81 l0_1 t129).f1) ++ ((rd_T81 l0_1 t129).f2), (⟨#[]⟩ : ByteArray)⟩ : S81)) := ⟨_, rfl⟩
         replace H : (some (t124, y132, 0)) = some (r1, r2, r3) := by first | (rw [hy132]; with_reducible exact H) | (have H2_ := (Option.bind_some _ _).symm.trans H; rw [hy132]; with_reducible exact H2_) | (have H2_ := (Option.bind_some _ _).symm.trans H; with_reducible exact H2_) | with_reducible exact H | (rw [hy132]; exact H) | exact H
         have Ny132 := Aside0.mk hy132
         clear hy132
         simp only [Option.some.injEq, Prod.mk.injEq] at H
         obtain ⟨rfl, rfl, rfl⟩ := H
         have hnb38 := NB120_121.out
         have hnc38 := NB121_120.out
         have hcz39_0 : wc.cell? ⟨gb120, 0, none⟩ = some (.int .i64 a0_0) := (blk_cell BK120.out 0).trans rfl
         have hcz39_1 : wc.cell? ⟨gb120, 1, none⟩ = some (.slice A0_1 l0_1.length c0_1) := (blk_cell BK120.out 1).trans rfl
         have hfz39_0 := blk_frozen BK120.out 0
         have hfz39_1 := blk_frozen BK120.out 1
         go_wp2_with (first | ((with_reducible refine gate_callee (f := 110) rfl ?_); refine goesL_ (some 19) rfl rfl Try.func110 (by kernel_rfl) rfl #[.agg #[.int .i64 a0_0, .slice A0_1 l0_1.length c0_1]] rfl (by (try simp only [List.map_toArray, List.map_cons, List.map_nil]); first | done | rfl | (simp only [List.length_drop, List.length_take]; rfl)) ?_; (with_reducible refine (impl_copyDisk.calls a0_0 _ _ l0_1 t124 t125 _ ?side1 ?side2 A18.out).mono ?_); (case side1 => exact xcb HR0_1); (case side2 => exact HC0_1.out); rintro e w40 ⟨v126, rfl, ho0, hb⟩; refine ⟨_, rfl, ?_⟩; have HO127 := Aside0.mk (Kd.R_lower ho0 (below_size xbg)); replace BK120 := xbb BK120 hb; replace BK121 := xbb BK121 hb; replace HB := xbs hb; (try clear hb); (try clear hb2); (try clear hk); (try clear hi); (try clear ho0)) | ((with_reducible refine gate_dst (N := 6) rfl ?_); refine box_event ?hg (N := 6) ?hd (cs := #[.int .i64 0, .slice none 0 0]) (t := 63) ?hr ?_; (case hd => rfl); (case hg => rfl); (case hr => first | (go_simp; done) | (go_simp; rfl)); intro gb128 hg w41 hbox hb; replace HO127 := Aside0.mk (Kd.R_below (by (with_reducible repeat (first | apply Kd.R_alloc | apply Kd.R_drewN | apply Kd.R_drew)); exact HO127.out) hb); have GW128 := Aside0.mk (xge hg); have GE128 := Aside0.mk (xge hg); replace HB := xbs hb; have NB120_128 := Aside0.mk ((by rw [hg]; exact Nat.ne_of_lt (blk_lt (g := gb120) (o := .cells #[.int .i64 a0_0, .slice A0_1 l0_1.length c0_1] 63 (0, 0)) xblk) : gb120 ≠ gb128)); have NB128_120 := Aside0.mk ((by rw [hg]; exact Nat.ne_of_gt (blk_lt (g := gb120) (o := .cells #[.int .i64 a0_0, .slice A0_1 l0_1.length c0_1] 63 (0, 0)) xblk) : gb128 ≠ gb120)); have NB121_128 := Aside0.mk ((by rw [hg]; exact Nat.ne_of_lt (blk_lt (g := gb121) (o := .cells #[.int .i64 0, .slice none 0 0] 63 (0, 0)) xblk) : gb121 ≠ gb128)); have NB128_121 := Aside0.mk ((by rw [hg]; exact Nat.ne_of_gt (blk_lt (g := gb121) (o := .cells #[.int .i64 0, .slice none 0 0] 63 (0, 0)) xblk) : gb128 ≠ gb121)); replace BK120 := xbb BK120 hb; replace BK121 := xbb BK121 hb; have BK128 := Aside0.mk (hbox); clear hb hbox hg; have hnb42 := NB128_120.out; have hnc42 := NB120_128.out; have hnb43 := NB128_121.out; have hnc43 := NB121_128.out; have hcz44_0 : w41.cell? ⟨gb128, 0, none⟩ = some (.int .i64 0) := (blk_cell BK128.out 0).trans rfl; have hcz44_1 : w41.cell? ⟨gb128, 1, none⟩ = some (.slice none 0 0) := (blk_cell BK128.out 1).trans rfl; have hfz44_0 := blk_frozen BK128.out 0; have hfz44_1 := blk_frozen BK128.out 1; obtain ⟨Ao45, co45, eo45⟩ := Kd.R_slice HO127.out; subst eo45; have hcz46_0 : w41.cell? ⟨gb120, 0, none⟩ = some (.int .i64 a0_0) := (blk_cell BK120.out 0).trans rfl; have hcz46_1 : w41.cell? ⟨gb120, 1, none⟩ = some (.slice A0_1 l0_1.length c0_1) := (blk_cell BK120.out 1).trans rfl; have hfz46_0 := blk_frozen BK120.out 0; have hfz46_1 := blk_frozen BK120.out 1) | ((with_reducible refine gate_callee (f := 111) rfl ?_); refine goesL_ (some 22) rfl rfl Try.func111 (by kernel_rfl) rfl #[.agg #[.int .i64 a0_0, .slice A0_1 l0_1.length c0_1], .int .i64 a1] rfl (by (try simp only [List.map_toArray, List.map_cons, List.map_nil]); first | done | rfl | (simp only [List.length_drop, List.length_take]; rfl)) ?_; (with_reducible refine (impl_fileAt.calls a0_0 _ _ l0_1 a1 t129 _ ?side1 ?side2 A19.out).mono ?_); (case side1 => exact Kd.C_below HR0_1.out xbg); (case side2 => exact HC0_1.out); rintro e w47 ⟨rfl, hb⟩; refine ⟨_, rfl, ?_⟩; replace HO127 := Aside0.mk (Kd.R_below (by (with_reducible repeat (first | apply Kd.R_alloc | apply Kd.R_drewN | apply Kd.R_drew)); exact (Kd.R_mono (Kd.R_far (p := ⟨gb128, 1, none⟩) (Kd.R_far (p := ⟨gb128, 0, none⟩) (Kd.R_types HO127.out BK128.out (by decide)) (fun _ hk => hk.2) (.int .i64 t124)) (fun _ hk => hk.2) (.slice Ao45 t125.length co45)) (fun _ h_ => h_.1))) hb); replace BK120 := Aside0.mk (blk_below (g := gb120) (o := .cells #[.int .i64 a0_0, .slice A0_1 l0_1.length c0_1] 63 (0, 0)) (by (with_reducible repeat (first | refine blk_drewN ?_ _ | refine blk_drew ?_ | refine blk_alloc ?_ _)); refine blk_far ?_ NB120_128.out _; (with_reducible repeat (first | refine blk_drewN ?_ _ | refine blk_drew ?_ | refine blk_alloc ?_ _)); refine blk_far ?_ NB120_128.out _; (with_reducible repeat (first | refine blk_drewN ?_ _ | refine blk_drew ?_ | refine blk_alloc ?_ _)); exact BK120.out) hb); replace BK121 := Aside0.mk (blk_below (g := gb121) (o := .cells #[.int .i64 0, .slice none 0 0] 63 (0, 0)) (by (with_reducible repeat (first | refine blk_drewN ?_ _ | refine blk_drew ?_ | refine blk_alloc ?_ _)); refine blk_far ?_ NB121_128.out _; (with_reducible repeat (first | refine blk_drewN ?_ _ | refine blk_drew ?_ | refine blk_alloc ?_ _)); refine blk_far ?_ NB121_128.out _; (with_reducible repeat (first | refine blk_drewN ?_ _ | refine blk_drew ?_ | refine blk_alloc ?_ _)); exact BK121.out) hb); replace BK128 := Aside0.mk (blk_below (g := gb128) (o := .cells #[.int .i64 t124, .slice Ao45 t125.length co45] 63 (0, 0)) (by (with_reducible repeat (first | refine blk_drewN ?_ _ | refine blk_drew ?_ | refine blk_alloc ?_ _)); refine blk_put (cs := #[.int .i64 t124, .slice none 0 0]) ?_ 1 _ rfl; (with_reducible repeat (first | refine blk_drewN ?_ _ | refine blk_drew ?_ | refine blk_alloc ?_ _)); refine blk_put (cs := #[.int .i64 0, .slice none 0 0]) ?_ 0 _ rfl; (with_reducible repeat (first | refine blk_drewN ?_ _ | refine blk_drew ?_ | refine blk_alloc ?_ _)); exact BK128.out) hb); replace HB := xbs hb; (try clear hb); (try clear hb2); (try clear hk); (try clear hi); have hcz48_0 : w47.cell? ⟨gb120, 0, none⟩ = some (.int .i64 a0_0) := (blk_cell BK120.out 0).trans rfl; have hcz48_1 : w47.cell? ⟨gb120, 1, none⟩ = some (.slice A0_1 l0_1.length c0_1) := (blk_cell BK120.out 1).trans rfl; have hfz48_0 := blk_frozen BK120.out 0; have hfz48_1 := blk_frozen BK120.out 1; have p130 : 0 ≤ (t129 : Int) := of_decide_eq_true (by first | (with_reducible assumption) | assumption); have q130 : t129 < (l0_1.length : Int) := of_decide_eq_true (by first | (with_reducible assumption) | assumption); obtain ⟨ad130, e130, hx130_0, hx130_1, hx130_2⟩ := at_T81 HR0_1.out t129 p130 q130; cases e130; replace hx130_0 := xce HB hx130_0; replace hx130_1 := xce HB hx130_1; replace hx130_2 := xce HB hx130_2; replace p130 := eq_true p130; replace q130 := eq_true q130) | ((with_reducible refine gate_dst (N := 8) rfl ?_); refine box_event ?hg (N := 8) ?hd (cs := #[.int .i64 0, .string (⟨#[]⟩ : ByteArray), .string (⟨#[]⟩ : ByteArray)]) (t := 81) ?hr ?_; (case hd => rfl); (case hg => rfl); (case hr => first | (go_simp; done) | (go_simp; rfl)); intro gb131 hg w49 hbox hb; replace HO127 := Aside0.mk (Kd.R_below (Kd.R_elderB (by (with_reducible repeat (first | apply Kd.R_alloc | apply Kd.R_drewN | apply Kd.R_drew)); exact HO127.out) gb131 (Nat.le_of_eq hg.symm)) hb); have GW131 := Aside0.mk (xge hg); have GE131 := Aside0.mk (xge hg); replace HB := xbs hb; have NB120_131 := Aside0.mk ((by rw [hg]; exact Nat.ne_of_lt (blk_lt (g := gb120) (o := .cells #[.int .i64 a0_0, .slice (some ad130) l0_1.length c0_1] 63 (0, 0)) xblk) : gb120 ≠ gb131)); have NB131_120 := Aside0.mk ((by rw [hg]; exact Nat.ne_of_gt (blk_lt (g := gb120) (o := .cells #[.int .i64 a0_0, .slice (some ad130) l0_1.length c0_1] 63 (0, 0)) xblk) : gb131 ≠ gb120)); have NB121_131 := Aside0.mk ((by rw [hg]; exact Nat.ne_of_lt (blk_lt (g := gb121) (o := .cells #[.int .i64 0, .slice none 0 0] 63 (0, 0)) xblk) : gb121 ≠ gb131)); have NB131_121 := Aside0.mk ((by rw [hg]; exact Nat.ne_of_gt (blk_lt (g := gb121) (o := .cells #[.int .i64 0, .slice none 0 0] 63 (0, 0)) xblk) : gb131 ≠ gb121)); have NB128_131 := Aside0.mk ((by rw [hg]; exact Nat.ne_of_lt (blk_lt (g := gb128) (o := .cells #[.int .i64 t124, .slice Ao45 t125.length co45] 63 (0, 0)) xblk) : gb128 ≠ gb131)); have NB131_128 := Aside0.mk ((by rw [hg]; exact Nat.ne_of_gt (blk_lt (g := gb128) (o := .cells #[.int .i64 t124, .slice Ao45 t125.length co45] 63 (0, 0)) xblk) : gb131 ≠ gb128)); replace BK120 := xbb BK120 hb; replace BK121 := xbb BK121 hb; replace BK128 := xbb BK128 hb; have BK131 := Aside0.mk (hbox); clear hb hbox hg; have hnb50 := NB131_120.out; have hnc50 := NB120_131.out; have hnb51 := NB131_121.out; have hnc51 := NB121_131.out; have hnb52 := NB131_128.out; have hnc52 := NB128_131.out; have hcz53_0 : w49.cell? ⟨gb131, 0, none⟩ = some (.int .i64 0) := (blk_cell BK131.out 0).trans rfl; have hcz53_1 : w49.cell? ⟨gb131, 1, none⟩ = some (.string (⟨#[]⟩ : ByteArray)) := (blk_cell BK131.out 1).trans rfl; have hcz53_2 : w49.cell? ⟨gb131, 2, none⟩ = some (.string (⟨#[]⟩ : ByteArray)) := (blk_cell BK131.out 2).trans rfl; have hfz53_0 := blk_frozen BK131.out 0; have hfz53_1 := blk_frozen BK131.out 1; have hfz53_2 := blk_frozen BK131.out 2) | ((with_reducible refine gate_store (t := 81) (p := 8) rfl ?_); refine store_event (t := 81) (p := 8) (v := ?vo_w54) (w1 := (((w49.setCell ⟨gb131, 0, none⟩ (.int .i64 ((rd_T81 l0_1 t129).f0))).setCell ⟨gb131, 1, none⟩ (.string ((rd_T81 l0_1 t129).f1))).setCell ⟨gb131, 2, none⟩ (.string ((rd_T81 l0_1 t129).f2)))) ?hg ?ho ?hn ?hr ?_; (case ho => rfl); (case hg => rfl); (case hn => rfl); (case hr => first | (go_simp; done) | (go_simp; rfl)); intro w54 hw; replace HO127 : Aside0 (Kd.R k81 81 w54 w.heap.size (fun k_ => k_ ≠ gb131) (.slice Ao45 t125.length co45) t125) := ⟨(by rw [hw]; exact (by (with_reducible repeat (first | apply Kd.R_alloc | apply Kd.R_drewN | apply Kd.R_drew)); exact Kd.R_mono (Kd.R_far (p := ⟨gb131, 2, none⟩) (Kd.R_far (p := ⟨gb131, 1, none⟩) (Kd.R_far (p := ⟨gb131, 0, none⟩) (Kd.R_mono HO127.out (fun k_ hk => (⟨hk, hk.2⟩ : _ ∧ k_ ≠ gb131))) (fun _ hk => hk.2) (.int .i64 ((rd_T81 l0_1 t129).f0))) (fun _ hk => hk.2) (.string ((rd_T81 l0_1 t129).f1))) (fun _ hk => hk.2) (.string ((rd_T81 l0_1 t129).f2))) (fun _ hk => hk.1.2)))⟩; replace BK120 : Aside0 (w54.heap[gb120]? = some (.cells #[.int .i64 a0_0, .slice (some ad130) l0_1.length c0_1] 63 (0, 0))) := ⟨(by rw [hw]; exact (by (with_reducible repeat (first | refine blk_drewN ?_ _ | refine blk_drew ?_ | refine blk_alloc ?_ _)); refine blk_far ?_ NB120_131.out _; (with_reducible repeat (first | refine blk_drewN ?_ _ | refine blk_drew ?_ | refine blk_alloc ?_ _)); refine blk_far ?_ NB120_131.out _; (with_reducible repeat (first | refine blk_drewN ?_ _ | refine blk_drew ?_ | refine blk_alloc ?_ _)); refine blk_far ?_ NB120_131.out _; (with_reducible repeat (first | refine blk_drewN ?_ _ | refine blk_drew ?_ | refine blk_alloc ?_ _)); exact BK120.out))⟩; replace BK121 : Aside0 (w54.heap[gb121]? = some (.cells #[.int .i64 0, .slice none 0 0] 63 (0, 0))) := ⟨(by rw [hw]; exact (by (with_reducible repeat (first | refine blk_drewN ?_ _ | refine blk_drew ?_ | refine blk_alloc ?_ _)); refine blk_far ?_ NB121_131.out _; (with_reducible repeat (first | refine blk_drewN ?_ _ | refine blk_drew ?_ | refine blk_alloc ?_ _)); refine blk_far ?_ NB121_131.out _; (with_reducible repeat (first | refine blk_drewN ?_ _ | refine blk_drew ?_ | refine blk_alloc ?_ _)); refine blk_far ?_ NB121_131.out _; (with_reducible repeat (first | refine blk_drewN ?_ _ | refine blk_drew ?_ | refine blk_alloc ?_ _)); exact BK121.out))⟩; replace BK128 : Aside0 (w54.heap[gb128]? = some (.cells #[.int .i64 t124, .slice Ao45 t125.length co45] 63 (0, 0))) := ⟨(by rw [hw]; exact (by (with_reducible repeat (first | refine blk_drewN ?_ _ | refine blk_drew ?_ | refine blk_alloc ?_ _)); refine blk_far ?_ NB128_131.out _; (with_reducible repeat (first | refine blk_drewN ?_ _ | refine blk_drew ?_ | refine blk_alloc ?_ _)); refine blk_far ?_ NB128_131.out _; (with_reducible repeat (first | refine blk_drewN ?_ _ | refine blk_drew ?_ | refine blk_alloc ?_ _)); refine blk_far ?_ NB128_131.out _; (with_reducible repeat (first | refine blk_drewN ?_ _ | refine blk_drew ?_ | refine blk_alloc ?_ _)); exact BK128.out))⟩; replace BK131 : Aside0 (w54.heap[gb131]? = some (.cells #[.int .i64 ((rd_T81 l0_1 t129).f0), .string ((rd_T81 l0_1 t129).f1), .string ((rd_T81 l0_1 t129).f2)] 81 (0, 0))) := ⟨(by rw [hw]; exact (by (with_reducible repeat (first | refine blk_drewN ?_ _ | refine blk_drew ?_ | refine blk_alloc ?_ _)); refine blk_put (cs := #[.int .i64 ((rd_T81 l0_1 t129).f0), .string ((rd_T81 l0_1 t129).f1), .string (⟨#[]⟩ : ByteArray)]) ?_ 2 _ rfl; (with_reducible repeat (first | refine blk_drewN ?_ _ | refine blk_drew ?_ | refine blk_alloc ?_ _)); refine blk_put (cs := #[.int .i64 ((rd_T81 l0_1 t129).f0), .string (⟨#[]⟩ : ByteArray), .string (⟨#[]⟩ : ByteArray)]) ?_ 1 _ rfl; (with_reducible repeat (first | refine blk_drewN ?_ _ | refine blk_drew ?_ | refine blk_alloc ?_ _)); refine blk_put (cs := #[.int .i64 0, .string (⟨#[]⟩ : ByteArray), .string (⟨#[]⟩ : ByteArray)]) ?_ 0 _ rfl; (with_reducible repeat (first | refine blk_drewN ?_ _ | refine blk_drew ?_ | refine blk_alloc ?_ _)); exact BK131.out))⟩; replace HB : Aside0 (Below w.heap.size w w54) := ⟨(by rw [hw]; exact xbg)⟩; clear hw; have hcz55_0 : w54.cell? ⟨gb128, 0, none⟩ = some (.int .i64 t124) := (blk_cell BK128.out 0).trans rfl; have hcz55_1 : w54.cell? ⟨gb128, 1, none⟩ = some (.slice Ao45 t125.length co45) := (blk_cell BK128.out 1).trans rfl; have hfz55_0 := blk_frozen BK128.out 0; have hfz55_1 := blk_frozen BK128.out 1; have hcz56_0 : w54.cell? ⟨gb131, 0, none⟩ = some (.int .i64 ((rd_T81 l0_1 t129).f0)) := (blk_cell BK131.out 0).trans rfl; have hcz56_1 : w54.cell? ⟨gb131, 1, none⟩ = some (.string ((rd_T81 l0_1 t129).f1)) := (blk_cell BK131.out 1).trans rfl; have hcz56_2 : w54.cell? ⟨gb131, 2, none⟩ = some (.string ((rd_T81 l0_1 t129).f2)) := (blk_cell BK131.out 2).trans rfl; have hfz56_0 := blk_frozen BK131.out 0; have hfz56_1 := blk_frozen BK131.out 1; have hfz56_2 := blk_frozen BK131.out 2; have p37 : 0 ≤ (t129 : Int) := of_decide_eq_true (by first | (with_reducible assumption) | assumption); have q37 : (t129 : Int) < ((t125.length : Int) : Int) := of_decide_eq_true (by first | (with_reducible assumption) | assumption); obtain ⟨go37, co37, eo37, gb37, gl37, cl37, HG37⟩ := Kd.R_form HO127.out (by omega); (first | cases eo37 | (injection eo37 with ea_ en_ ec_; (first | subst ea_ | (injection ea_ with ea_; subst ea_)); subst ec_; clear en_)); have GB37 := Aside0.mk gb37; have GG37 := Aside0.mk HG37; clear gb37 gl37 HG37; obtain ⟨ce37, hcl37, hM37, hcc37, hfr37⟩ := Kd.R_elem HO127.out z81 (t129 : Int) p37 q37; obtain rfl := k81_openM hM37; have hx37_0 : w54.cell? ⟨go37, (t129 : Int).toNat * 3, none⟩ = some (.int .i64 ((rd_T81 t125 t129).f0)) := hcc37 0 _ rfl; have hx37_1 : w54.cell? ⟨go37, (t129 : Int).toNat * 3 + 1, none⟩ = some (.string ((rd_T81 t125 t129).f1)) := hcc37 1 _ rfl; have hx37_2 : w54.cell? ⟨go37, (t129 : Int).toNat * 3 + 2, none⟩ = some (.string ((rd_T81 t125 t129).f2)) := hcc37 2 _ rfl; have hf37_0 : w54.frozen? ⟨go37, (t129 : Int).toNat * 3, none⟩ = false := hfr37 0; have hf37_1 : w54.frozen? ⟨go37, (t129 : Int).toNat * 3 + 1, none⟩ = false := hfr37 1; have hf37_2 : w54.frozen? ⟨go37, (t129 : Int).toNat * 3 + 2, none⟩ = false := hfr37 2; clear hcl37 hcc37 hfr37 hM37; replace p37 := eq_true p37; replace q37 := eq_true q37; have HX57 := Aside0.mk (show Kd.R k81 81 w54 w.heap.size (fun k_ => k_ ≠ gb131) (.slice (some ⟨go37, 0, none⟩) t125.length co45) t125 from (by (with_reducible repeat (first | apply Kd.R_alloc | apply Kd.R_drewN | apply Kd.R_drew)); exact HO127.out)); obtain ⟨ce57, hcl57, hM57, hcc57, hfr57⟩ := Kd.R_elem HX57.out z81 (t129 : Int) (of_decide_eq_true (by first | (with_reducible assumption) | assumption)) (by have h_ : (t129 : Int) < ((t125.length : Int) : Int) := of_decide_eq_true (by first | (with_reducible assumption) | assumption); first | exact h_ | (have e_ := (Kd.R_reads' HO127.out).1; omega) | simpa using h_); obtain rfl := k81_openM hM57; have HP57 := Kd.R_seg HX57.out (t129 : Int) (of_decide_eq_true (by first | (with_reducible assumption) | assumption)) (by have h_ : (t129 : Int) < ((t125.length : Int) : Int) := of_decide_eq_true (by first | (with_reducible assumption) | assumption); first | exact h_ | (have e_ := (Kd.R_reads' HO127.out).1; omega) | simpa using h_) (seg := [.int .i64 a1, .string (((rd_T81 l0_1 t129).f1) ++ ((rd_T81 l0_1 t129).f2)), .string (⟨#[]⟩ : ByteArray)]) (j := 0) hcl57 hcc57 (show 3 ≤ 3 from by decide) (x' := (⟨a1, ((rd_T81 l0_1 t129).f1) ++ ((rd_T81 l0_1 t129).f2), (⟨#[]⟩ : ByteArray)⟩ : S81)) (k81_mkM _ _ _ (⟨a1, ((rd_T81 l0_1 t129).f1) ++ ((rd_T81 l0_1 t129).f2), (⟨#[]⟩ : ByteArray)⟩ : S81) ) (fun _ hk => hk); have hx57_0 := hcc57 0 _ rfl; (try simp only [show (k81).sz = 3 from rfl, Nat.mul_one, Nat.add_zero] at hx57_0); have hf57_0 := hfr57 0; (try simp only [show (k81).sz = 3 from rfl, Nat.mul_one, Nat.add_zero] at hf57_0); have hx57_1 := hcc57 1 _ rfl; (try simp only [show (k81).sz = 3 from rfl, Nat.mul_one, Nat.add_zero] at hx57_1); have hf57_1 := hfr57 1; (try simp only [show (k81).sz = 3 from rfl, Nat.mul_one, Nat.add_zero] at hf57_1); have hx57_2 := hcc57 2 _ rfl; (try simp only [show (k81).sz = 3 from rfl, Nat.mul_one, Nat.add_zero] at hx57_2); have hf57_2 := hfr57 2; (try simp only [show (k81).sz = 3 from rfl, Nat.mul_one, Nat.add_zero] at hf57_2); clear hcl57 hcc57 hfr57 hM57) | ((with_reducible refine gate_store (t := 81) (p := 41) rfl ?_); refine store_event (t := 81) (p := 41) (v := ?vo_w58) (w1 := (((w54.setCell ⟨go37, (t129 : Int).toNat * 3, none⟩ (.int .i64 a1)).setCell ⟨go37, (t129 : Int).toNat * 3 + 1, none⟩ (.string (((rd_T81 l0_1 t129).f1) ++ ((rd_T81 l0_1 t129).f2)))).setCell ⟨go37, (t129 : Int).toNat * 3 + 2, none⟩ (.string (⟨#[]⟩ : ByteArray)))) ?hg ?ho ?hn ?hr ?_; (case ho => rfl); (case hg => rfl); (case hn => rfl); (case hr => first | (go_simp; done) | (go_simp; rfl)); intro w58 hw; have hg : w54.grownBy w58 (some go37) := (by rw [hw]; exact HP57.2); have hp_ : Kd.R k81 81 w58 w.heap.size (fun k_ => k_ ≠ gb131) (.slice (some ⟨go37, 0, none⟩) t125.length co45) y132 := (by rw [hw, Ny132.out]; exact HP57.1); clear HP57; have n0_ := Aside0.mk (blk_grown (g := gb120) (o := .cells #[.int .i64 a0_0, .slice (some ad130) l0_1.length c0_1] 63 (0, 0)) xblk hg (Kd.R_ne HO127.out BK120.out (by decide))); have n1_ := Aside0.mk (blk_grown (g := gb121) (o := .cells #[.int .i64 0, .slice none 0 0] 63 (0, 0)) xblk hg (Kd.R_ne HO127.out BK121.out (by decide))); have n2_ := Aside0.mk (hp_); have n3_ := Aside0.mk (blk_grown (g := gb128) (o := .cells #[.int .i64 t124, .slice (some ⟨go37, 0, none⟩) t125.length co45] 63 (0, 0)) xblk hg (Kd.R_ne HO127.out BK128.out (by decide))); have n4_ := Aside0.mk (blk_grown (g := gb131) (o := .cells #[.int .i64 ((rd_T81 l0_1 t129).f0), .string ((rd_T81 l0_1 t129).f1), .string ((rd_T81 l0_1 t129).f2)] 81 (0, 0)) xblk hg (Kd.R_away HO127.out (fun _ hk => hk))); have n5_ := Aside0.mk ((by rw [hw]; exact below_set (below_set (below_set (HB.out) GB37.out) GB37.out) GB37.out : Below w.heap.size w w58)); clear BK120; clear BK121; clear HO127; clear BK128; clear BK131; clear HB; have BK120 := n0_; have BK121 := n1_; have HO127 := n2_; have BK128 := n3_; have BK131 := n4_; have HB := n5_; clear n0_ n1_ n2_ n3_ n4_ n5_; clear hg hw hp_; have hcz59_0 : w58.cell? ⟨gb128, 0, none⟩ = some (.int .i64 t124) := (blk_cell BK128.out 0).trans rfl; have hcz59_1 : w58.cell? ⟨gb128, 1, none⟩ = some (.slice (some ⟨go37, 0, none⟩) t125.length co45) := (blk_cell BK128.out 1).trans rfl; have hfz59_0 := blk_frozen BK128.out 0; have hfz59_1 := blk_frozen BK128.out 1; have hcz60_0 : w58.cell? ⟨gb121, 0, none⟩ = some (.int .i64 0) := (blk_cell BK121.out 0).trans rfl; have hcz60_1 : w58.cell? ⟨gb121, 1, none⟩ = some (.slice none 0 0) := (blk_cell BK121.out 1).trans rfl; have hfz60_0 := blk_frozen BK121.out 0; have hfz60_1 := blk_frozen BK121.out 1))
         refine bodyPost_ret (results_ct rfl _ _ gb121 63 #[.int .i64 t124, .slice (some ⟨go37, 0, none⟩) t125.length co45] (0, 0) _ rfl (by (with_reducible repeat (first | refine blk_drewN ?_ _ | refine blk_drew ?_ | refine blk_alloc ?_ _)); refine blk_put (cs := #[.int .i64 t124, .slice none 0 0]) ?_ 1 _ rfl; (with_reducible repeat (first | refine blk_drewN ?_ _ | refine blk_drew ?_ | refine blk_alloc ?_ _)); refine blk_put (cs := #[.int .i64 0, .slice none 0 0]) ?_ 0 _ rfl; (with_reducible repeat (first | refine blk_drewN ?_ _ | refine blk_drew ?_ | refine blk_alloc ?_ _)); exact BK121.out) Try.underlying63 rfl (by kernel_rfl)) rfl ?_
         exact ⟨_, by first | rfl | (simp [errW_none, errW_some] <;> rfl) | (simp [*, errW_none, errW_some] <;> rfl), by (with_reducible repeat (first | apply Kd.R_alloc | apply Kd.R_drewN | apply Kd.R_drew)); exact Kd.R_mono (Kd.R_far (p := ⟨gb121, 1, none⟩) (Kd.R_far (p := ⟨gb121, 0, none⟩) (Kd.R_types HO127.out BK121.out (by decide)) (fun _ hk => hk.2) (.int .i64 t124)) (fun _ hk => hk.2) (.slice (some ⟨go37, 0, none⟩) t125.length co45)) (fun _ hk => trivial), xbg⟩
        ·rw [if_neg c36] at H
         exact absurd H (by simp)
       ·rw [if_neg c35] at H
        exact absurd H (by simp)
      ·rw [if_neg c34] at H
       exact absurd H (by simp)
     ·rw [if_neg c33] at H
      exact absurd H (by simp)

/-! ### impl_DiskCrash: function 41 -/
mutual
def impl_DiskCrash.j0 : Nat → List Int → Bool → Int → List (S81) → Option (Int × (List (S81)))
 | 0, _, _, _, _ => none
 | k + 1, x1, x16, x134000, x134001 => if x16 = true then (some (0, ([] : List (S81)))) else ((impl_copyDisk.f x134000 x134001).bind fun bt136 => (impl_DiskCrash.l0 k x1 x134001 (x134001.length : Int) 0 bt136.1 bt136.2))
def impl_DiskCrash.l0 : Nat → List Int → List (S81) → Int → Int → Int → List (S81) → Option (Int × (List (S81)))
 | 0, _, _, _, _, _, _ => none
 | k + 1, x1, x21, x22, x23, x141000, x141001 => if x23 < x22 then (if 0 ≤ x23 then (if x23 < (x21.length : Int) then (if x23 < (x1.length : Int) then (if 0 ≤ (mn (mx (rd x1 x23) 0) (((rd_T81 x21 x23).f2).size : Int)) then (if (mn (mx (rd x1 x23) 0) (((rd_T81 x21 x23).f2).size : Int)) ≤ (((rd_T81 x21 x23).f2).size : Int) then (if ((rd_T81 x21 x23).f1).size + (((rd_T81 x21 x23).f2).extract 0 ((mn (mx (rd x1 x23) 0) (((rd_T81 x21 x23).f2).size : Int)) : Int).toNat).size ≤ 9223372036854775807 then (if x23 < (x141001.length : Int) then (impl_DiskCrash.l0 k x1 x21 x22 (wrap64 (x23 + 1)) x141000 (x141001.set (x23 : Int).toNat (⟨(rd_T81 x21 x23).f0, ((rd_T81 x21 x23).f1) ++ (((rd_T81 x21 x23).f2).extract 0 ((mn (mx (rd x1 x23) 0) (((rd_T81 x21 x23).f2).size : Int)) : Int).toNat), (⟨#[]⟩ : ByteArray)⟩ : S81))) else (none)) else (none)) else (none)) else (none)) else (if 0 ≤ 0 then (if 0 ≤ (((rd_T81 x21 x23).f2).size : Int) then (if ((rd_T81 x21 x23).f1).size ≤ 9223372036854775807 then (if x23 < (x141001.length : Int) then (impl_DiskCrash.l0 k x1 x21 x22 (wrap64 (x23 + 1)) x141000 (x141001.set (x23 : Int).toNat (⟨(rd_T81 x21 x23).f0, ((rd_T81 x21 x23).f1), (⟨#[]⟩ : ByteArray)⟩ : S81))) else (none)) else (none)) else (none)) else (none))) else (none)) else (none)) else (some (x141000, x141001))
end
def impl_DiskCrash.f (k : Nat) (a0_0 : Int) (l0_1 : List (S81)) (l1 : List Int) : Option (Int × (List (S81))) := (impl_DiskOk.f k a0_0 l0_1).bind fun t135 => (if t135 = true then (impl_DiskCrash.j0 k l1 (decide ((l1.length : Int) > 8)) a0_0 l0_1) else (impl_DiskCrash.j0 k l1 true a0_0 l0_1))
set_option maxRecDepth 100000 in
theorem impl_DiskCrash.mono_l : ∀ k, (∀ y0 y1 y2 y3, LeO (impl_DiskCrash.j0 k y0 y1 y2 y3) (impl_DiskCrash.j0 (k + 1) y0 y1 y2 y3)) ∧ (∀ y0 y1 y2 y3 y4 y5, LeO (impl_DiskCrash.l0 k y0 y1 y2 y3 y4 y5) (impl_DiskCrash.l0 (k + 1) y0 y1 y2 y3 y4 y5))
 | 0 => ⟨fun _ _ _ _ r h => by simp [impl_DiskCrash.j0] at h, fun _ _ _ _ _ _ r h => by simp [impl_DiskCrash.l0] at h⟩
 | k + 1 => by
  obtain ⟨ih0, ih1⟩ := impl_DiskCrash.mono_l k
  refine ⟨?_, ?_⟩
  ·intro y0 y1 y2 y3
   unfold impl_DiskCrash.j0
   repeat' first
   | (with_reducible exact ih0 _ _ _ _)
   | (with_reducible exact ih1 _ _ _ _ _ _)
   | (with_reducible exact impl_DiskOk.mono _ _ _)
   | (with_reducible exact LeO.refl _)
   | (with_reducible exact LeO.none _)
   | (with_reducible refine LeO.ite ?_ ?_)
   | (with_reducible refine LeO.bind ?_ (fun _ => ?_))
   | exact ih0 _ _ _ _
   | exact ih1 _ _ _ _ _ _
   | exact impl_DiskOk.mono _ _ _
   | exact LeO.none _
   | refine LeO.ite ?_ ?_
   | refine LeO.bind ?_ (fun _ => ?_)
  ·intro y0 y1 y2 y3 y4 y5
   unfold impl_DiskCrash.l0
   repeat' first
   | (with_reducible exact ih0 _ _ _ _)
   | (with_reducible exact ih1 _ _ _ _ _ _)
   | (with_reducible exact impl_DiskOk.mono _ _ _)
   | (with_reducible exact LeO.refl _)
   | (with_reducible exact LeO.none _)
   | (with_reducible refine LeO.ite ?_ ?_)
   | (with_reducible refine LeO.bind ?_ (fun _ => ?_))
   | exact ih0 _ _ _ _
   | exact ih1 _ _ _ _ _ _
   | exact impl_DiskOk.mono _ _ _
   | exact LeO.none _
   | refine LeO.ite ?_ ?_
   | refine LeO.bind ?_ (fun _ => ?_)
theorem impl_DiskCrash.mono : ∀ a0 a1 a2 k, LeO (impl_DiskCrash.f k a0 a1 a2) (impl_DiskCrash.f (k + 1) a0 a1 a2) := by
 intro a0 a1 a2 k
 obtain ⟨ih0, ih1⟩ := impl_DiskCrash.mono_l k
 unfold impl_DiskCrash.f
 repeat' first
  | (with_reducible exact ih0 _ _ _ _)
  | (with_reducible exact ih1 _ _ _ _ _ _)
  | (with_reducible exact impl_DiskOk.mono _ _ _)
  | (with_reducible exact LeO.refl _)
  | (with_reducible exact LeO.none _)
  | (with_reducible refine LeO.ite ?_ ?_)
  | (with_reducible refine LeO.bind ?_ (fun _ => ?_))
  | exact ih0 _ _ _ _
  | exact ih1 _ _ _ _ _ _
  | exact impl_DiskOk.mono _ _ _
  | exact LeO.none _
  | refine LeO.ite ?_ ?_
  | refine LeO.bind ?_ (fun _ => ?_)
def impl_DiskCrash.T9 : Bool × List (List Nat × List Nat) := (true, [([], []), ([], []), ([0, 1], [0, 1]), ([2], [2]), ([3], [3]), ([], []), ([5], [5]), ([6], [6]), ([4, 7], [4, 7]), ([8, 0, 1, 2, 3, 4, 5, 6, 7, 8], [8])])
def impl_DiskCrash.B9 : List Nat := [0, 0, 3, 7, 15, 0, 32, 96, 255, 511]
theorem impl_DiskCrash.tab9 : rtab .any (opsOf Try.f41 9) = impl_DiskCrash.T9 := by kernel_rfl
theorem impl_DiskCrash.bits9 : waitsOk impl_DiskCrash.T9.2 impl_DiskCrash.B9 = true := by kernel_rfl
def impl_DiskCrash.T10 : Bool × List (List Nat × List Nat) := (true, [([], []), ([0], [0]), ([], []), ([], []), ([3], [3]), ([], []), ([5], [5]), ([], []), ([7], [7]), ([], []), ([8, 9], [8, 9]), ([6, 10], [6, 10]), ([4, 11], [4, 11]), ([1, 2, 0, 1, 2, 3, 4, 5, 6, 7, 8, 9, 10, 11, 12], [1, 2]), ([13, 12, 0, 1, 2, 3, 4, 5, 6, 7, 8, 9, 10, 11, 12], [12, 13])])
def impl_DiskCrash.B10 : List Nat := [0, 1, 0, 0, 8, 0, 32, 0, 128, 0, 896, 2016, 4088, 8191, 16383]
theorem impl_DiskCrash.tab10 : rtab .any (opsOf Try.f41 10) = impl_DiskCrash.T10 := by kernel_rfl
theorem impl_DiskCrash.bits10 : waitsOk impl_DiskCrash.T10.2 impl_DiskCrash.B10 = true := by kernel_rfl
set_option maxHeartbeats 8000000 in
set_option maxRecDepth 100000 in
theorem impl_DiskCrash.calls (k : Nat) (a0_0 : Int) (A0_1 : Option Addr) (c0_1 : Nat) (l0_1 : List (S81)) (A1 : Option Addr) (c1 : Nat) (l1 : List Int) (r1 : Int) (r2 : List (S81)) (w : World) (hr0_1 : Kd.C k81 w A0_1 l0_1.length l0_1) (hc0_1 : l0_1.length ≤ c0_1) (hr1 : Kd.C (Kd.int .i64) w A1 l1.length l1) (hc1 : l1.length ≤ c1) (h : impl_DiskCrash.f k a0_0 l0_1 l1 = some (r1, r2)) :
 Calls Try.prog 41 #[.agg #[.int .i64 a0_0, .slice A0_1 l0_1.length c0_1], .slice A1 l1.length c1] w fun e w' => ∃ v1_ : Value, e = .returned (.agg #[.int .i64 r1, v1_]) ∧ Kd.R k81 81 w' w.heap.size (fun _ => True) v1_ r2 ∧ Below w.heap.size w w' := by
 have hu63 := Try.underlying63
 have hu81 := Try.underlying81
 have HR0_1 := Aside0.mk hr0_1
 have HC0_1 := Aside0.mk hc0_1
 clear hr0_1 hc0_1
 have HR1 := Aside0.mk hr1
 have HC1 := Aside0.mk hc1
 clear hr1 hc1
 have HB := Aside0.mk (Below.refl w.heap.size w)
 have H : ((impl_DiskOk.f k a0_0 l0_1).bind fun t135 => (if t135 = true then (impl_DiskCrash.j0 k l1 (decide ((l1.length : Int) > 8)) a0_0 l0_1) else (impl_DiskCrash.j0 k l1 true a0_0 l0_1))) = some (r1, r2) := h
 clear h
 have HC3 := Aside0.mk H
 clear H
 go_enter Try.func41, Try.ntmps41
 go_upto_region 1 with (first | ((with_reducible refine gate_dst (N := 2) rfl ?_); (try (refine gate_guard (by rfl) ?_; dsimp only)); refine box_event ?hg (N := 2) ?hd (cs := #[.int .i64 a0_0, .slice A0_1 l0_1.length c0_1]) (t := 63) ?hr ?_; (case hd => rfl); (case hg => rfl); (case hr => first | (go_simp; done) | (go_simp; rfl)); intro gb133 hg w4 hbox hb; have BK133 := Aside0.mk (hbox); have GW133 := Aside0.mk (xge hg); have GE133 := Aside0.mk (xge hg); replace HB := xbs hb; clear hb hbox hg) | ((with_reducible refine gate_dst (N := 4) rfl ?_); (try (refine gate_guard (by rfl) ?_; dsimp only)); refine box_event ?hg (N := 4) ?hd (cs := #[.int .i64 0, .slice none 0 0]) (t := 63) ?hr ?_; (case hd => rfl); (case hg => rfl); (case hr => first | (go_simp; done) | (go_simp; rfl)); intro gb134 hg w5 hbox hb; have GW134 := Aside0.mk (xge hg); have GE134 := Aside0.mk (xge hg); replace HB := xbs hb; have NB133_134 := Aside0.mk ((by rw [hg]; exact Nat.ne_of_lt (blk_lt (g := gb133) (o := .cells #[.int .i64 a0_0, .slice A0_1 l0_1.length c0_1] 63 (0, 0)) xblk) : gb133 ≠ gb134)); have NB134_133 := Aside0.mk ((by rw [hg]; exact Nat.ne_of_gt (blk_lt (g := gb133) (o := .cells #[.int .i64 a0_0, .slice A0_1 l0_1.length c0_1] 63 (0, 0)) xblk) : gb134 ≠ gb133)); replace BK133 := xbb BK133 hb; have BK134 := Aside0.mk (hbox); clear hb hbox hg))
 (try simp only [Act.put, List.setIfInBounds_toArray, List.set_cons_zero, List.set_cons_succ])
 go_cut [16] (fun v16 wc => ∃ (kq : Nat) (x16_2 : Bool), v16 = .bool x16_2 ∧ Aside0 (impl_DiskCrash.j0 kq l1 x16_2 a0_0 l0_1 = some (r1, r2)) ∧ Aside0 (kq ≤ k) ∧ Aside0 (wc.heap[gb133]? = some (.cells #[.int .i64 a0_0, (.slice A0_1 l0_1.length c0_1)] 63 (0, 0))) ∧ Aside0 (wc.heap[gb134]? = some (.cells #[.int .i64 0, (.slice none 0 0)] 63 (0, 0))) ∧ Aside0 (Below w.heap.size w wc))
 case first =>
  have H := HC3.out
  clear HC3
  replace H := Option.bind_eq_some_iff.mp H
  obtain ⟨t135, A60, H⟩ := H
  replace H : (if t135 = true then (impl_DiskCrash.j0 k l1 (decide ((l1.length : Int) > 8)) a0_0 l0_1) else (impl_DiskCrash.j0 k l1 true a0_0 l0_1)) = some (r1, r2) := H
  have A6 := Aside0.mk A60
  clear A60
  by_cases c7 : t135 = true
  ·subst c7
   have H1 : (impl_DiskCrash.j0 k l1 (decide ((l1.length : Int) > 8)) a0_0 l0_1) = some (r1, r2) := by rw [if_pos rfl] at H; exact H
   clear H
   have H := H1
   clear H1
   have H' := Aside0.mk H
   clear H
   have hnb8 := NB133_134.out
   have hnc8 := NB134_133.out
   have hcz9_0 : w5.cell? ⟨gb133, 0, none⟩ = some (.int .i64 a0_0) := (blk_cell BK133.out 0).trans rfl
   have hcz9_1 : w5.cell? ⟨gb133, 1, none⟩ = some (.slice A0_1 l0_1.length c0_1) := (blk_cell BK133.out 1).trans rfl
   have hfz9_0 := blk_frozen BK133.out 0
   have hfz9_1 := blk_frozen BK133.out 1
   go_wp2_with (first | ((with_reducible refine gate_callee (f := 49) rfl ?_); refine goesL_ (some 10) rfl rfl Try.func49 (by kernel_rfl) rfl #[.agg #[.int .i64 a0_0, .slice A0_1 l0_1.length c0_1]] rfl (by (try simp only [List.map_toArray, List.map_cons, List.map_nil]); first | done | rfl | (simp only [List.length_drop, List.length_take]; rfl)) ?_; (with_reducible refine (impl_DiskOk.calls k a0_0 _ _ l0_1 true _ ?side1 ?side2 A6.out).mono ?_); (case side1 => exact xcb HR0_1); (case side2 => exact HC0_1.out); rintro e w10 ⟨rfl, hb⟩; refine ⟨_, rfl, ?_⟩; replace BK133 := xbb BK133 hb; replace BK134 := xbb BK134 hb; replace HB := xbs hb; (try clear hb); (try clear hb2); (try clear hk); (try clear hi)))
   go_meet
   case rel => exact ⟨_, (decide ((l1.length : Int) > 8)), (by first | rfl | (simp; done) | (simp [*]; done)), H', ⟨by first | omega | exact Nat.le_refl _⟩, ⟨xblk⟩, ⟨xblk⟩, ⟨xbg⟩⟩
  ·replace c7 := Bool.eq_false_iff.mpr c7
   subst c7
   have H1 : (impl_DiskCrash.j0 k l1 true a0_0 l0_1) = some (r1, r2) := by rw [if_neg (show ¬ (false = true) by decide)] at H; exact H
   clear H
   have H := H1
   clear H1
   have H' := Aside0.mk H
   clear H
   have hnb11 := NB133_134.out
   have hnc11 := NB134_133.out
   have hcz12_0 : w5.cell? ⟨gb133, 0, none⟩ = some (.int .i64 a0_0) := (blk_cell BK133.out 0).trans rfl
   have hcz12_1 : w5.cell? ⟨gb133, 1, none⟩ = some (.slice A0_1 l0_1.length c0_1) := (blk_cell BK133.out 1).trans rfl
   have hfz12_0 := blk_frozen BK133.out 0
   have hfz12_1 := blk_frozen BK133.out 1
   go_wp2_with (first | ((with_reducible refine gate_callee (f := 49) rfl ?_); refine goesL_ (some 10) rfl rfl Try.func49 (by kernel_rfl) rfl #[.agg #[.int .i64 a0_0, .slice A0_1 l0_1.length c0_1]] rfl (by (try simp only [List.map_toArray, List.map_cons, List.map_nil]); first | done | rfl | (simp only [List.length_drop, List.length_take]; rfl)) ?_; (with_reducible refine (impl_DiskOk.calls k a0_0 _ _ l0_1 false _ ?side1 ?side2 A6.out).mono ?_); (case side1 => exact xcb HR0_1); (case side2 => exact HC0_1.out); rintro e w13 ⟨rfl, hb⟩; refine ⟨_, rfl, ?_⟩; replace BK133 := xbb BK133 hb; replace BK134 := xbb BK134 hb; replace HB := xbs hb; (try clear hb); (try clear hb2); (try clear hk); (try clear hi)))
   go_meet
   case rel => exact ⟨_, (true), (by first | rfl | (simp; done) | (simp [*]; done)), H', ⟨by first | omega | exact Nat.le_refl _⟩, ⟨xblk⟩, ⟨xblk⟩, ⟨xbg⟩⟩
 case rest =>
  clear HC3
  try clear c1
  try clear p2
  try clear c4
  try clear c7
  try clear c8
  try clear c11
  try clear hcz12_0
  try clear hcz12_1
  try clear hcz9_0
  try clear hcz9_1
  try clear hfz12_0
  try clear hfz12_1
  try clear hfz9_0
  try clear hfz9_1
  obtain ⟨kq, x16_2, rfl, HA, HJ2, BK133, BK134, HB⟩ := hcut
  cases kq with
  | zero => exact absurd HA.out (by simp [impl_DiskCrash.j0])
  | succ kj2 =>
   have H := HA.out
   clear HA
   simp only [impl_DiskCrash.j0] at H
   by_cases c14 : x16_2 = true
   ·subst c14
    have H1 : (some (0, ([] : List (S81)))) = some (r1, r2) := by rw [if_pos rfl] at H; exact H
    clear H
    have H := H1
    clear H1
    simp only [Option.some.injEq, Prod.mk.injEq] at H
    obtain ⟨rfl, rfl⟩ := H
    have hnb15 := NB134_133.out
    have hnc15 := NB133_134.out
    have hcz16_0 : wc.cell? ⟨gb134, 0, none⟩ = some (.int .i64 0) := (blk_cell BK134.out 0).trans rfl
    have hcz16_1 : wc.cell? ⟨gb134, 1, none⟩ = some (.slice none 0 0) := (blk_cell BK134.out 1).trans rfl
    have hfz16_0 := blk_frozen BK134.out 0
    have hfz16_1 := blk_frozen BK134.out 1
    go_wp2
    refine bodyPost_ret (results_cell_row rfl _ _ gb134 63 #[.int .i64 0, .slice none 0 0] (0, 0) _ rfl (by (with_reducible repeat (first | refine blk_drewN ?_ _ | refine blk_drew ?_ | refine blk_alloc ?_ _)); refine blk_put (cs := #[.int .i64 0, .slice none 0 0]) ?_ 1 _ rfl; (with_reducible repeat (first | refine blk_drewN ?_ _ | refine blk_drew ?_ | refine blk_alloc ?_ _)); refine blk_put (cs := #[.int .i64 0, .slice none 0 0]) ?_ 0 _ rfl; (with_reducible repeat (first | refine blk_drewN ?_ _ | refine blk_drew ?_ | refine blk_alloc ?_ _)); exact BK134.out) Try.underlying63 rfl (by kernel_rfl)) rfl ?_
    exact ⟨_, by first | rfl | (simp [errW_none, errW_some] <;> rfl) | (simp [*, errW_none, errW_some] <;> rfl), by first | exact Kd.R_nil _ _ _ _ _ | exact Kd.N_nil _ _ _ _ _ | exact Kd.V_nil _ _ _ _ _ | exact Kd.Q_nil _ _ _ _ _ | exact Kd.S_nil _ _ _ _ _, xbg⟩
   ·replace c14 := Bool.eq_false_iff.mpr c14
    subst c14
    have H1 : ((impl_copyDisk.f a0_0 l0_1).bind fun bt136 => (impl_DiskCrash.l0 kj2 l1 l0_1 (l0_1.length : Int) 0 bt136.1 bt136.2)) = some (r1, r2) := by rw [if_neg (show ¬ (false = true) by decide)] at H; exact H
    clear H
    have H := H1
    clear H1
    replace H := Option.bind_eq_some_iff.mp H
    obtain ⟨⟨t136, t137⟩, A170, H⟩ := H
    replace H : (impl_DiskCrash.l0 kj2 l1 l0_1 (l0_1.length : Int) 0 t136 t137) = some (r1, r2) := H
    have A17 := Aside0.mk A170
    clear A170
    have H' := Aside0.mk H
    clear H
    have hnb18 := NB133_134.out
    have hnc18 := NB134_133.out
    have hcz19_0 : wc.cell? ⟨gb133, 0, none⟩ = some (.int .i64 a0_0) := (blk_cell BK133.out 0).trans rfl
    have hcz19_1 : wc.cell? ⟨gb133, 1, none⟩ = some (.slice A0_1 l0_1.length c0_1) := (blk_cell BK133.out 1).trans rfl
    have hfz19_0 := blk_frozen BK133.out 0
    have hfz19_1 := blk_frozen BK133.out 1
    go_wp2_with (first | ((with_reducible refine gate_callee (f := 110) rfl ?_); refine goesL_ (some 19) rfl rfl Try.func110 (by kernel_rfl) rfl #[.agg #[.int .i64 a0_0, .slice A0_1 l0_1.length c0_1]] rfl (by (try simp only [List.map_toArray, List.map_cons, List.map_nil]); first | done | rfl | (simp only [List.length_drop, List.length_take]; rfl)) ?_; (with_reducible refine (impl_copyDisk.calls a0_0 _ _ l0_1 t136 t137 _ ?side1 ?side2 A17.out).mono ?_); (case side1 => exact xcb HR0_1); (case side2 => exact HC0_1.out); rintro e w20 ⟨v138, rfl, ho0, hb⟩; refine ⟨_, rfl, ?_⟩; have HO139 := Aside0.mk (Kd.R_lower ho0 (below_size xbg)); replace BK133 := xbb BK133 hb; replace BK134 := xbb BK134 hb; replace HB := xbs hb; (try clear hb); (try clear hb2); (try clear hk); (try clear hi); (try clear ho0)) | ((with_reducible refine gate_dst (N := 5) rfl ?_); (try (refine gate_guard (by rfl) ?_; dsimp only)); refine box_event ?hg (N := 5) ?hd (cs := #[.int .i64 0, .slice none 0 0]) (t := 63) ?hr ?_; (case hd => rfl); (case hg => rfl); (case hr => first | (go_simp; done) | (go_simp; rfl)); intro gb140 hg w21 hbox hb; replace HO139 := Aside0.mk (Kd.R_below (by (with_reducible repeat (first | apply Kd.R_alloc | apply Kd.R_drewN | apply Kd.R_drew)); exact HO139.out) hb); have GW140 := Aside0.mk (xge hg); have GE140 := Aside0.mk (xge hg); replace HB := xbs hb; have NB133_140 := Aside0.mk ((by rw [hg]; exact Nat.ne_of_lt (blk_lt (g := gb133) (o := .cells #[.int .i64 a0_0, .slice A0_1 l0_1.length c0_1] 63 (0, 0)) xblk) : gb133 ≠ gb140)); have NB140_133 := Aside0.mk ((by rw [hg]; exact Nat.ne_of_gt (blk_lt (g := gb133) (o := .cells #[.int .i64 a0_0, .slice A0_1 l0_1.length c0_1] 63 (0, 0)) xblk) : gb140 ≠ gb133)); have NB134_140 := Aside0.mk ((by rw [hg]; exact Nat.ne_of_lt (blk_lt (g := gb134) (o := .cells #[.int .i64 0, .slice none 0 0] 63 (0, 0)) xblk) : gb134 ≠ gb140)); have NB140_134 := Aside0.mk ((by rw [hg]; exact Nat.ne_of_gt (blk_lt (g := gb134) (o := .cells #[.int .i64 0, .slice none 0 0] 63 (0, 0)) xblk) : gb140 ≠ gb134)); replace BK133 := xbb BK133 hb; replace BK134 := xbb BK134 hb; have BK140 := Aside0.mk (hbox); clear hb hbox hg; have hnb22 := NB140_133.out; have hnc22 := NB133_140.out; have hnb23 := NB140_134.out; have hnc23 := NB134_140.out; have hcz24_0 : w21.cell? ⟨gb140, 0, none⟩ = some (.int .i64 0) := (blk_cell BK140.out 0).trans rfl; have hcz24_1 : w21.cell? ⟨gb140, 1, none⟩ = some (.slice none 0 0) := (blk_cell BK140.out 1).trans rfl; have hfz24_0 := blk_frozen BK140.out 0; have hfz24_1 := blk_frozen BK140.out 1; obtain ⟨Ao25, co25, eo25⟩ := Kd.R_slice HO139.out; subst eo25; have hcz26_0 : w21.cell? ⟨gb133, 0, none⟩ = some (.int .i64 a0_0) := (blk_cell BK133.out 0).trans rfl; have hcz26_1 : w21.cell? ⟨gb133, 1, none⟩ = some (.slice A0_1 l0_1.length c0_1) := (blk_cell BK133.out 1).trans rfl; have hfz26_0 := blk_frozen BK133.out 0; have hfz26_1 := blk_frozen BK133.out 1))
    go_loopg [23] kj2 (fun kq v23 w' => ∃ (x23_2 : Int) (x141001_2 : List (S81)) (u141001 : Value), v23 = .int .i64 x23_2 ∧ Aside0 (impl_DiskCrash.l0 kq l1 l0_1 (l0_1.length : Int) x23_2 t136 x141001_2 = some (r1, r2)) ∧ Aside0 (kq ≤ kj2) ∧ Aside0 (Kd.R k81 81 w' w.heap.size (fun _ => True) u141001 x141001_2) ∧ Aside0 (w'.heap[gb133]? = some (.cells #[.int .i64 a0_0, (.slice A0_1 l0_1.length c0_1)] 63 (0, 0))) ∧ Aside0 (w'.heap[gb134]? = some (.cells #[.int .i64 0, (.slice none 0 0)] 63 (0, 0))) ∧ Aside0 (w'.heap[gb140]? = some (.cells #[.int .i64 t136, u141001] 63 (0, 0))) ∧ Aside0 (Below w.heap.size w w'))
    case atStart => exact ⟨(0), (t137), (.slice Ao25 t137.length co25), (by first | rfl | (simp; done) | (simp [*]; done)), H', ⟨Nat.le_refl _⟩, ⟨by (with_reducible repeat (first | apply Kd.R_alloc | apply Kd.R_drewN | apply Kd.R_drew)); exact Kd.R_mono (Kd.R_far (p := ⟨gb140, 1, none⟩) (Kd.R_far (p := ⟨gb140, 0, none⟩) (Kd.R_types HO139.out BK140.out (by decide)) (fun _ hk => hk.2) (.int .i64 t136)) (fun _ hk => hk.2) (.slice Ao25 t137.length co25)) (fun _ hk => trivial)⟩, ⟨by (with_reducible repeat (first | refine blk_drewN ?_ _ | refine blk_drew ?_ | refine blk_alloc ?_ _)); refine blk_far ?_ NB133_140.out _; (with_reducible repeat (first | refine blk_drewN ?_ _ | refine blk_drew ?_ | refine blk_alloc ?_ _)); refine blk_far ?_ NB133_140.out _; (with_reducible repeat (first | refine blk_drewN ?_ _ | refine blk_drew ?_ | refine blk_alloc ?_ _)); exact BK133.out⟩, ⟨by (with_reducible repeat (first | refine blk_drewN ?_ _ | refine blk_drew ?_ | refine blk_alloc ?_ _)); refine blk_far ?_ NB134_140.out _; (with_reducible repeat (first | refine blk_drewN ?_ _ | refine blk_drew ?_ | refine blk_alloc ?_ _)); refine blk_far ?_ NB134_140.out _; (with_reducible repeat (first | refine blk_drewN ?_ _ | refine blk_drew ?_ | refine blk_alloc ?_ _)); exact BK134.out⟩, ⟨by (with_reducible repeat (first | refine blk_drewN ?_ _ | refine blk_drew ?_ | refine blk_alloc ?_ _)); refine blk_put (cs := #[.int .i64 t136, .slice none 0 0]) ?_ 1 _ rfl; (with_reducible repeat (first | refine blk_drewN ?_ _ | refine blk_drew ?_ | refine blk_alloc ?_ _)); refine blk_put (cs := #[.int .i64 0, .slice none 0 0]) ?_ 0 _ rfl; (with_reducible repeat (first | refine blk_drewN ?_ _ | refine blk_drew ?_ | refine blk_alloc ?_ _)); exact BK140.out⟩, ⟨xbg⟩⟩
    case round =>
     clear H'
     try clear c1
     try clear c2
     try clear p2
     try clear c4
     try clear c7
     try clear c8
     try clear c11
     try clear c14
     try clear c15
     try clear c18
     try clear c22
     try clear c23
     try clear hcz12_0
     try clear hcz12_1
     try clear hcz16_0
     try clear hcz16_1
     try clear hcz19_0
     try clear hcz19_1
     try clear hcz24_0
     try clear hcz24_1
     try clear hcz26_0
     try clear hcz26_1
     try clear hcz9_0
     try clear hcz9_1
     try clear hfz12_0
     try clear hfz12_1
     try clear hfz16_0
     try clear hfz16_1
     try clear hfz19_0
     try clear hfz19_1
     try clear hfz24_0
     try clear hfz24_1
     try clear hfz26_0
     try clear hfz26_1
     try clear hfz9_0
     try clear hfz9_1
     try clear p2
     obtain ⟨x23_2, x141001_2, u141001, rfl, HA, HK2, HO_141001, BK133, BK134, BK140, HB⟩ := hrel
     cases gk with
     | zero => exact absurd HA.out (by simp [impl_DiskCrash.l0])
     | succ k2 =>
      have H := HA.out
      clear HA
      simp only [impl_DiskCrash.l0] at H
      by_cases c27 : x23_2 < (l0_1.length : Int)
      ·rw [if_pos c27] at H
       have c27b0 : decide (x23_2 < (l0_1.length : Int)) = true := decide_eq_true c27
       clear c27
       by_cases c28 : 0 ≤ x23_2
       ·rw [if_pos c28] at H
        have c28b0 : decide (0 ≤ x23_2) = true := decide_eq_true c28
        clear c28
        by_cases c29 : x23_2 < (l0_1.length : Int)
        ·rw [if_pos c29] at H
         have c29b0 : decide (x23_2 < (l0_1.length : Int)) = true := decide_eq_true c29
         clear c29
         by_cases c30 : x23_2 < (l1.length : Int)
         ·rw [if_pos c30] at H
          have c30b0 : decide (x23_2 < (l1.length : Int)) = true := decide_eq_true c30
          clear c30
          obtain ⟨ji31, hji31⟩ : ∃ j_ : Int, (mx (rd l1 x23_2) 0) = j_ := ⟨_, rfl⟩
          replace H : (if 0 ≤ (mn (ji31) (((rd_T81 l0_1 x23_2).f2).size : Int)) then (if (mn (ji31) (((rd_T81 l0_1 x23_2).f2).size : Int)) ≤ (((rd_T81 l0_1 x23_2).f2).size : Int) then (if ((rd_T81 l0_1 x23_2).f1).size + (((rd_T81 l0_1 x23_2).f2).extract 0 ((mn (ji31) (((rd_T81 l0_1 x23_2).f2).size : Int)) : Int).toNat).size ≤ 9223372036854775807 then (if x23_2 < (x141001_2.length : Int) then (impl_DiskCrash.l0 k2 l1 l0_1 (l0_1.length : Int) (wrap64 (x23_2 + 1)) t136 (x141001_2.set (x23_2 : Int).toNat (⟨(rd_T81 l0_1 x23_2).f0, ((rd_T81 l0_1 x23_2).f1) ++ (((rd_T81 l0_1 x23_2).f2).extract 0 ((mn (ji31) (((rd_T81 l0_1 x23_2).f2).size : Int)) : Int).toNat), (⟨#[]⟩ : ByteArray)⟩ : S81))) else (none)) else (none)) else (none)) else (none)) = some (r1, r2) := by first | (rw [hji31] at H; exact H) | (simp only [hji31] at H ⊢; exact H)
          have hji31_ : (if (rd l1 x23_2) < 0 then 0 else (rd l1 x23_2)) = ji31 := hji31
          obtain ⟨ji32, hji32⟩ : ∃ j_ : Int, (mn (ji31) (((rd_T81 l0_1 x23_2).f2).size : Int)) = j_ := ⟨_, rfl⟩
          replace H : (if 0 ≤ (ji32) then (if (ji32) ≤ (((rd_T81 l0_1 x23_2).f2).size : Int) then (if ((rd_T81 l0_1 x23_2).f1).size + (((rd_T81 l0_1 x23_2).f2).extract 0 ((ji32) : Int).toNat).size ≤ 9223372036854775807 then (if x23_2 < (x141001_2.length : Int) then (impl_DiskCrash.l0 k2 l1 l0_1 (l0_1.length : Int) (wrap64 (x23_2 + 1)) t136 (x141001_2.set (x23_2 : Int).toNat (⟨(rd_T81 l0_1 x23_2).f0, ((rd_T81 l0_1 x23_2).f1) ++ (((rd_T81 l0_1 x23_2).f2).extract 0 ((ji32) : Int).toNat), (⟨#[]⟩ : ByteArray)⟩ : S81))) else (none)) else (none)) else (none)) else (none)) = some (r1, r2) := by first | (rw [hji32] at H; exact H) | (simp only [hji32] at H ⊢; exact H)
          have hji32_ : (if (((rd_T81 l0_1 x23_2).f2).size : Int) < (ji31) then (((rd_T81 l0_1 x23_2).f2).size : Int) else (ji31)) = ji32 := hji32
          by_cases c33 : 0 ≤ (ji32)
          ·rw [if_pos c33] at H
           have c33b0 := eq_true c33
           have c33b1 : decide (0 ≤ (ji32)) = true := decide_eq_true c33
           clear c33
           by_cases c34 : (ji32) ≤ (((rd_T81 l0_1 x23_2).f2).size : Int)
           ·rw [if_pos c34] at H
            have c34b0 := eq_true c34
            have c34b1 : decide ((ji32) ≤ (((rd_T81 l0_1 x23_2).f2).size : Int)) = true := decide_eq_true c34
            clear c34
            by_cases c35 : ((rd_T81 l0_1 x23_2).f1).size + (((rd_T81 l0_1 x23_2).f2).extract 0 ((ji32) : Int).toNat).size ≤ 9223372036854775807
            ·rw [if_pos c35] at H
             have c35x : (9223372036854775807 < ((rd_T81 l0_1 x23_2).f1).size + ((ji32) : Int).toNat) = False := eq_false (by have h_ := c35; have k_ : ((ji32) : Int) ≤ (((rd_T81 l0_1 x23_2).f2).size : Int) := of_decide_eq_true (by first | (with_reducible assumption) | assumption); rw [ByteArray.size_extract] at h_; omega)
             have c35b0 := eq_true c35
             have c35b1 : decide (((rd_T81 l0_1 x23_2).f1).size + (((rd_T81 l0_1 x23_2).f2).extract 0 ((ji32) : Int).toNat).size ≤ 9223372036854775807) = true := decide_eq_true c35
             try have c35b2 : (9223372036854775807 < ((rd_T81 l0_1 x23_2).f1).size + (((rd_T81 l0_1 x23_2).f2).extract 0 ((ji32) : Int).toNat).size) = False := eq_false (Nat.not_lt.2 c35)
             by_cases c36 : x23_2 < (x141001_2.length : Int)
             ·rw [if_pos c36] at H
              have c36b0 : decide (x23_2 < (x141001_2.length : Int)) = true := decide_eq_true c36
              clear c36
              obtain ⟨y144, hy144⟩ : ∃ y_ : List (S81), y_ = (x141001_2.set (x23_2 : Int).toNat (⟨(rd_T81 l0_1 x23_2).f0, ((rd_T81 l0_1 x23_2).f1) ++ (((rd_T81 l0_1 x23_2).f2).extract 0 ((ji32) : Int).toNat), (⟨#[]⟩ : ByteArray)⟩ : S81)) := ⟨_, rfl⟩
              replace H : (impl_DiskCrash.l0 k2 l1 l0_1 (l0_1.length : Int) (wrap64 (x23_2 + 1)) t136 y144) = some (r1, r2) := by first | (rw [hy144]; with_reducible exact H) | (have H2_ := (Option.bind_some _ _).symm.trans H; rw [hy144]; with_reducible exact H2_) | (have H2_ := (Option.bind_some _ _).symm.trans H; with_reducible exact H2_) | with_reducible exact H | (rw [hy144]; exact H) | exact H
              have Ny144 := Aside0.mk hy144
              clear hy144
              have H' := Aside0.mk H
              clear H
              have p141 : 0 ≤ (x23_2 : Int) := of_decide_eq_true (by first | (with_reducible assumption) | assumption)
              have q141 : x23_2 < (l0_1.length : Int) := of_decide_eq_true (by first | (with_reducible assumption) | assumption)
              obtain ⟨ad141, e141, hx141_0, hx141_1, hx141_2⟩ := at_T81 HR0_1.out x23_2 p141 q141
              cases e141
              replace hx141_0 := xce HB hx141_0
              replace hx141_1 := xce HB hx141_1
              replace hx141_2 := xce HB hx141_2
              replace p141 := eq_true p141
              replace q141 := eq_true q141
              try go_wp2_with (first | ((with_reducible refine gate_dst (N := 7) rfl ?_); (try (refine gate_guard (by rfl) ?_; dsimp only)); refine box_event ?hg (N := 7) ?hd (cs := #[.int .i64 0, .string (⟨#[]⟩ : ByteArray), .string (⟨#[]⟩ : ByteArray)]) (t := 81) ?hr ?_; (case hd => rfl); (case hg => rfl); (case hr => first | (go_simp; done) | (go_simp; rfl)); intro gb142 hg w38 hbox hb; replace HO_141001 := Aside0.mk (Kd.R_below (Kd.R_elderB (by (with_reducible repeat (first | apply Kd.R_alloc | apply Kd.R_drewN | apply Kd.R_drew)); exact HO_141001.out) gb142 (Nat.le_of_eq hg.symm)) hb); have GW142 := Aside0.mk (xge hg); have GE142 := Aside0.mk (xge hg); replace HB := xbs hb; have NB133_142 := Aside0.mk ((by rw [hg]; exact Nat.ne_of_lt (blk_lt (g := gb133) (o := .cells #[.int .i64 a0_0, .slice (some ad141) l0_1.length c0_1] 63 (0, 0)) xblk) : gb133 ≠ gb142)); have NB142_133 := Aside0.mk ((by rw [hg]; exact Nat.ne_of_gt (blk_lt (g := gb133) (o := .cells #[.int .i64 a0_0, .slice (some ad141) l0_1.length c0_1] 63 (0, 0)) xblk) : gb142 ≠ gb133)); have NB134_142 := Aside0.mk ((by rw [hg]; exact Nat.ne_of_lt (blk_lt (g := gb134) (o := .cells #[.int .i64 0, .slice none 0 0] 63 (0, 0)) xblk) : gb134 ≠ gb142)); have NB142_134 := Aside0.mk ((by rw [hg]; exact Nat.ne_of_gt (blk_lt (g := gb134) (o := .cells #[.int .i64 0, .slice none 0 0] 63 (0, 0)) xblk) : gb142 ≠ gb134)); have NB140_142 := Aside0.mk ((by rw [hg]; exact Nat.ne_of_lt (blk_lt (g := gb140) (o := .cells #[.int .i64 t136, u141001] 63 (0, 0)) xblk) : gb140 ≠ gb142)); have NB142_140 := Aside0.mk ((by rw [hg]; exact Nat.ne_of_gt (blk_lt (g := gb140) (o := .cells #[.int .i64 t136, u141001] 63 (0, 0)) xblk) : gb142 ≠ gb140)); replace BK133 := xbb BK133 hb; replace BK134 := xbb BK134 hb; replace BK140 := xbb BK140 hb; have BK142 := Aside0.mk (hbox); clear hb hbox hg; have hnb39 := NB142_133.out; have hnc39 := NB133_142.out; have hnb40 := NB142_134.out; have hnc40 := NB134_142.out; have hnb41 := NB142_140.out; have hnc41 := NB140_142.out; have hcz42_0 : w38.cell? ⟨gb142, 0, none⟩ = some (.int .i64 0) := (blk_cell BK142.out 0).trans rfl; have hcz42_1 : w38.cell? ⟨gb142, 1, none⟩ = some (.string (⟨#[]⟩ : ByteArray)) := (blk_cell BK142.out 1).trans rfl; have hcz42_2 : w38.cell? ⟨gb142, 2, none⟩ = some (.string (⟨#[]⟩ : ByteArray)) := (blk_cell BK142.out 2).trans rfl; have hfz42_0 := blk_frozen BK142.out 0; have hfz42_1 := blk_frozen BK142.out 1; have hfz42_2 := blk_frozen BK142.out 2))
              have n0_ : Aside0 (Kd.R k81 81 (((w38.setCell ⟨gb142, 0, none⟩ (.int .i64 ((rd_T81 l0_1 x23_2).f0))).setCell ⟨gb142, 1, none⟩ (.string ((rd_T81 l0_1 x23_2).f1))).setCell ⟨gb142, 2, none⟩ (.string ((rd_T81 l0_1 x23_2).f2))) w.heap.size (fun k_ => k_ ≠ gb142) u141001 x141001_2) := ⟨by (with_reducible repeat (first | apply Kd.R_alloc | apply Kd.R_drewN | apply Kd.R_drew)); exact Kd.R_mono (Kd.R_far (p := ⟨gb142, 2, none⟩) (Kd.R_far (p := ⟨gb142, 1, none⟩) (Kd.R_far (p := ⟨gb142, 0, none⟩) (Kd.R_mono HO_141001.out (fun k_ hk => (⟨hk, hk.2⟩ : _ ∧ k_ ≠ gb142))) (fun _ hk => hk.2) (.int .i64 ((rd_T81 l0_1 x23_2).f0))) (fun _ hk => hk.2) (.string ((rd_T81 l0_1 x23_2).f1))) (fun _ hk => hk.2) (.string ((rd_T81 l0_1 x23_2).f2))) (fun _ hk => hk.1.2)⟩
              have n1_ : Aside0 ((((w38.setCell ⟨gb142, 0, none⟩ (.int .i64 ((rd_T81 l0_1 x23_2).f0))).setCell ⟨gb142, 1, none⟩ (.string ((rd_T81 l0_1 x23_2).f1))).setCell ⟨gb142, 2, none⟩ (.string ((rd_T81 l0_1 x23_2).f2))).heap[gb133]? = some (.cells #[.int .i64 a0_0, .slice (some ad141) l0_1.length c0_1] 63 (0, 0))) := ⟨by (with_reducible repeat (first | refine blk_drewN ?_ _ | refine blk_drew ?_ | refine blk_alloc ?_ _)); refine blk_far ?_ NB133_142.out _; (with_reducible repeat (first | refine blk_drewN ?_ _ | refine blk_drew ?_ | refine blk_alloc ?_ _)); refine blk_far ?_ NB133_142.out _; (with_reducible repeat (first | refine blk_drewN ?_ _ | refine blk_drew ?_ | refine blk_alloc ?_ _)); refine blk_far ?_ NB133_142.out _; (with_reducible repeat (first | refine blk_drewN ?_ _ | refine blk_drew ?_ | refine blk_alloc ?_ _)); exact BK133.out⟩
              have n2_ : Aside0 ((((w38.setCell ⟨gb142, 0, none⟩ (.int .i64 ((rd_T81 l0_1 x23_2).f0))).setCell ⟨gb142, 1, none⟩ (.string ((rd_T81 l0_1 x23_2).f1))).setCell ⟨gb142, 2, none⟩ (.string ((rd_T81 l0_1 x23_2).f2))).heap[gb134]? = some (.cells #[.int .i64 0, .slice none 0 0] 63 (0, 0))) := ⟨by (with_reducible repeat (first | refine blk_drewN ?_ _ | refine blk_drew ?_ | refine blk_alloc ?_ _)); refine blk_far ?_ NB134_142.out _; (with_reducible repeat (first | refine blk_drewN ?_ _ | refine blk_drew ?_ | refine blk_alloc ?_ _)); refine blk_far ?_ NB134_142.out _; (with_reducible repeat (first | refine blk_drewN ?_ _ | refine blk_drew ?_ | refine blk_alloc ?_ _)); refine blk_far ?_ NB134_142.out _; (with_reducible repeat (first | refine blk_drewN ?_ _ | refine blk_drew ?_ | refine blk_alloc ?_ _)); exact BK134.out⟩
              have n3_ : Aside0 ((((w38.setCell ⟨gb142, 0, none⟩ (.int .i64 ((rd_T81 l0_1 x23_2).f0))).setCell ⟨gb142, 1, none⟩ (.string ((rd_T81 l0_1 x23_2).f1))).setCell ⟨gb142, 2, none⟩ (.string ((rd_T81 l0_1 x23_2).f2))).heap[gb140]? = some (.cells #[.int .i64 t136, u141001] 63 (0, 0))) := ⟨by (with_reducible repeat (first | refine blk_drewN ?_ _ | refine blk_drew ?_ | refine blk_alloc ?_ _)); refine blk_far ?_ NB140_142.out _; (with_reducible repeat (first | refine blk_drewN ?_ _ | refine blk_drew ?_ | refine blk_alloc ?_ _)); refine blk_far ?_ NB140_142.out _; (with_reducible repeat (first | refine blk_drewN ?_ _ | refine blk_drew ?_ | refine blk_alloc ?_ _)); refine blk_far ?_ NB140_142.out _; (with_reducible repeat (first | refine blk_drewN ?_ _ | refine blk_drew ?_ | refine blk_alloc ?_ _)); exact BK140.out⟩
              have n4_ : Aside0 ((((w38.setCell ⟨gb142, 0, none⟩ (.int .i64 ((rd_T81 l0_1 x23_2).f0))).setCell ⟨gb142, 1, none⟩ (.string ((rd_T81 l0_1 x23_2).f1))).setCell ⟨gb142, 2, none⟩ (.string ((rd_T81 l0_1 x23_2).f2))).heap[gb142]? = some (.cells #[.int .i64 ((rd_T81 l0_1 x23_2).f0), .string ((rd_T81 l0_1 x23_2).f1), .string ((rd_T81 l0_1 x23_2).f2)] 81 (0, 0))) := ⟨by (with_reducible repeat (first | refine blk_drewN ?_ _ | refine blk_drew ?_ | refine blk_alloc ?_ _)); refine blk_put (cs := #[.int .i64 ((rd_T81 l0_1 x23_2).f0), .string ((rd_T81 l0_1 x23_2).f1), .string (⟨#[]⟩ : ByteArray)]) ?_ 2 _ rfl; (with_reducible repeat (first | refine blk_drewN ?_ _ | refine blk_drew ?_ | refine blk_alloc ?_ _)); refine blk_put (cs := #[.int .i64 ((rd_T81 l0_1 x23_2).f0), .string (⟨#[]⟩ : ByteArray), .string (⟨#[]⟩ : ByteArray)]) ?_ 1 _ rfl; (with_reducible repeat (first | refine blk_drewN ?_ _ | refine blk_drew ?_ | refine blk_alloc ?_ _)); refine blk_put (cs := #[.int .i64 0, .string (⟨#[]⟩ : ByteArray), .string (⟨#[]⟩ : ByteArray)]) ?_ 0 _ rfl; (with_reducible repeat (first | refine blk_drewN ?_ _ | refine blk_drew ?_ | refine blk_alloc ?_ _)); exact BK142.out⟩
              have n5_ : Aside0 (Below w.heap.size w (((w38.setCell ⟨gb142, 0, none⟩ (.int .i64 ((rd_T81 l0_1 x23_2).f0))).setCell ⟨gb142, 1, none⟩ (.string ((rd_T81 l0_1 x23_2).f1))).setCell ⟨gb142, 2, none⟩ (.string ((rd_T81 l0_1 x23_2).f2)))) := ⟨xbg⟩
              (try clear HO_141001); (try clear BK133); (try clear BK134); (try clear BK140); (try clear BK142); (try clear HB)
              generalize (((w38.setCell ⟨gb142, 0, none⟩ (.int .i64 ((rd_T81 l0_1 x23_2).f0))).setCell ⟨gb142, 1, none⟩ (.string ((rd_T81 l0_1 x23_2).f1))).setCell ⟨gb142, 2, none⟩ (.string ((rd_T81 l0_1 x23_2).f2))) = w43 at n0_ n1_ n2_ n3_ n4_ n5_ ⊢
              have HO_141001 := n0_
              have BK133 := n1_
              have BK134 := n2_
              have BK140 := n3_
              have BK142 := n4_
              have HB := n5_
              clear n0_ n1_ n2_ n3_ n4_ n5_
              replace HO_141001 := Aside0.mk (Kd.R_drew HO_141001.out)
              replace BK133 := Aside0.mk (blk_drew BK133.out)
              replace BK134 := Aside0.mk (blk_drew BK134.out)
              replace BK140 := Aside0.mk (blk_drew BK140.out)
              replace BK142 := Aside0.mk (blk_drew BK142.out)
              replace HB := Aside0.mk (below_drew1 HB.out)
              have p143 : 0 ≤ (x23_2 : Int) := of_decide_eq_true (by first | (with_reducible assumption) | assumption)
              have q143 : x23_2 < (l1.length : Int) := of_decide_eq_true (by first | (with_reducible assumption) | assumption)
              obtain ⟨ad143, e143, hx143_0⟩ := Kd.at_int HR1.out x23_2 p143 q143
              have hw143_0 := hx143_0
              cases e143
              replace hx143_0 := xce HB hx143_0
              replace p143 := eq_true p143
              replace q143 := eq_true q143
              refine start_ (n := 10) (S := fun w' => w'.cell? ⟨gb142, 0, none⟩ = some (.int .i64 ((rd_T81 l0_1 x23_2).f0)) ∧ w'.cell? ⟨gb142, 1, none⟩ = some (.string ((rd_T81 l0_1 x23_2).f1)) ∧ w'.cell? ⟨gb142, 2, none⟩ = some (.string ((rd_T81 l0_1 x23_2).f2)) ∧ w'.cell? (ad143.add (x23_2).toNat) = some (.int .i64 (rd l1 x23_2))) (ds := []) #[false, false, false, false, false, false, false, false, false, false] (by kernel_rfl) rfl rfl ⟨(blk_cell BK142.out 0).trans rfl, (blk_cell BK142.out 1).trans rfl, (blk_cell BK142.out 2).trans rfl, (xce HB hw143_0)⟩ (fun hHeld => ?_); refine with_tabW impl_DiskCrash.tab9 impl_DiskCrash.bits9 (fun HT_ HW_ => ?_)
              generalize w43.drew = w44 at HO_141001 BK133 BK134 BK140 BK142 HB hx143_0 hHeld ⊢
              refine pv_ 0 32 (h := ?_)
              refine pv_ 1 33 (h := ?_)
              refine pv_ 2 34 (h := ?_)
              refine pv_ 5 37 (h := ?_)
              refine tk_ 3 35 (h := ?_)
              refine pv_ 4 36 (h := ?_)
              refine tk_ 6 38 (h := ?_)
              refine pv_ 7 39 (h := ?_)
              refine pv_ 8 40 (h := ?_)
              refine pv_ 9 8 (h := ?_)
              refine done_ (done_of HT_.out (by kernel_rfl)) ?_
              try go_wp2
              replace HO_141001 := Aside0.mk (Kd.R_drew HO_141001.out)
              replace BK133 := Aside0.mk (blk_drew BK133.out)
              replace BK134 := Aside0.mk (blk_drew BK134.out)
              replace BK140 := Aside0.mk (blk_drew BK140.out)
              replace BK142 := Aside0.mk (blk_drew BK142.out)
              replace HB := Aside0.mk (below_drew1 HB.out)
              have p37 : 0 ≤ (x23_2 : Int) := of_decide_eq_true (by first | (with_reducible assumption) | assumption)
              have q37 : (x23_2 : Int) < ((x141001_2.length : Int) : Int) := of_decide_eq_true (by first | (with_reducible assumption) | assumption)
              obtain ⟨go37, co37, eo37, gb37, gl37, cl37, HG37⟩ := Kd.R_form HO_141001.out (by omega)
              (first | cases eo37 | (injection eo37 with ea_ en_ ec_; (first | subst ea_ | (injection ea_ with ea_; subst ea_)); subst ec_; clear en_))
              have GB37 := Aside0.mk gb37
              have GG37 := Aside0.mk HG37
              clear gb37 gl37 HG37
              obtain ⟨ce37, hcl37, hM37, hcc37, hfr37⟩ := Kd.R_elem HO_141001.out z81 (x23_2 : Int) p37 q37
              obtain rfl := k81_openM hM37
              have hx37_0 : World.cell? _ ⟨go37, (x23_2 : Int).toNat * 3, none⟩ = some (.int .i64 ((rd_T81 x141001_2 x23_2).f0)) := hcc37 0 _ rfl
              have hx37_1 : World.cell? _ ⟨go37, (x23_2 : Int).toNat * 3 + 1, none⟩ = some (.string ((rd_T81 x141001_2 x23_2).f1)) := hcc37 1 _ rfl
              have hx37_2 : World.cell? _ ⟨go37, (x23_2 : Int).toNat * 3 + 2, none⟩ = some (.string ((rd_T81 x141001_2 x23_2).f2)) := hcc37 2 _ rfl
              have hf37_0 : World.frozen? _ ⟨go37, (x23_2 : Int).toNat * 3, none⟩ = false := hfr37 0
              have hf37_1 : World.frozen? _ ⟨go37, (x23_2 : Int).toNat * 3 + 1, none⟩ = false := hfr37 1
              have hf37_2 : World.frozen? _ ⟨go37, (x23_2 : Int).toNat * 3 + 2, none⟩ = false := hfr37 2
              clear hcl37 hcc37 hfr37 hM37
              replace p37 := eq_true p37
              replace q37 := eq_true q37
              obtain ⟨ce46, hcl46, hM46, hcc46, hfr46⟩ := Kd.R_elem HO_141001.out z81 (x23_2 : Int) (of_decide_eq_true (by first | (with_reducible assumption) | assumption)) (by have h_ : (x23_2 : Int) < ((x141001_2.length : Int) : Int) := of_decide_eq_true (by first | (with_reducible assumption) | assumption); first | exact h_ | (have e_ := (Kd.R_reads' HO_141001.out).1; omega) | simpa using h_)
              obtain rfl := k81_openM hM46
              have HP46 := (Kd.R_seg HO_141001.out (x23_2 : Int) (of_decide_eq_true (by first | (with_reducible assumption) | assumption)) (by have h_ : (x23_2 : Int) < ((x141001_2.length : Int) : Int) := of_decide_eq_true (by first | (with_reducible assumption) | assumption); first | exact h_ | (have e_ := (Kd.R_reads' HO_141001.out).1; omega) | simpa using h_) (seg := [.int .i64 ((rd_T81 l0_1 x23_2).f0), .string (((rd_T81 l0_1 x23_2).f1) ++ (((rd_T81 l0_1 x23_2).f2).extract 0 ((ji32) : Int).toNat)), .string (⟨#[]⟩ : ByteArray)]) (j := 0) hcl46 hcc46 (show 3 ≤ 3 from by decide) (x' := (⟨(rd_T81 l0_1 x23_2).f0, ((rd_T81 l0_1 x23_2).f1) ++ (((rd_T81 l0_1 x23_2).f2).extract 0 ((ji32) : Int).toNat), (⟨#[]⟩ : ByteArray)⟩ : S81)) (k81_mkM _ _ _ (⟨(rd_T81 l0_1 x23_2).f0, ((rd_T81 l0_1 x23_2).f1) ++ (((rd_T81 l0_1 x23_2).f2).extract 0 ((ji32) : Int).toNat), (⟨#[]⟩ : ByteArray)⟩ : S81) ) (fun _ hk => hk)).1
              rw [← Ny144.out] at HP46
              have HQ46 := Aside0.mk HP46
              clear hcl46 hcc46 hfr46 hM46 HP46
              refine start_ (n := 15) (S := fun w' => w'.cell? ⟨gb140, 0, none⟩ = some (.int .i64 t136) ∧ w'.cell? ⟨gb140, 1, none⟩ = some (.slice (some ⟨go37, 0, none⟩) x141001_2.length co37) ∧ w'.cell? ⟨gb142, 0, none⟩ = some (.int .i64 ((rd_T81 l0_1 x23_2).f0)) ∧ w'.cell? ⟨gb142, 1, none⟩ = some (.string ((rd_T81 l0_1 x23_2).f1)) ∧ w'.cell? ⟨gb142, 2, none⟩ = some (.string ((rd_T81 l0_1 x23_2).f2))) (ds := [14]) #[false, false, false, false, false, false, false, false, false, false, false, false, false, false, false] (by kernel_rfl) rfl rfl ⟨(blk_cell BK140.out 0).trans rfl, (blk_cell BK140.out 1).trans rfl, (blk_cell BK142.out 0).trans rfl, (blk_cell BK142.out 1).trans rfl, (blk_cell BK142.out 2).trans rfl⟩ (fun hHeld => ?_); refine with_tabW impl_DiskCrash.tab10 impl_DiskCrash.bits10 (fun HT_ HW_ => ?_)
              generalize w44.drew = w45 at HO_141001 BK133 BK134 BK140 BK142 HB GG37 HQ46 hf37_0 hf37_1 hf37_2 hx37_0 hx37_1 hx37_2 hHeld ⊢
              refine pv_ 0 41 (h := ?_)
              refine pv_ 2 43 (h := ?_)
              refine pv_ 3 44 (h := ?_)
              refine pv_ 5 46 (h := ?_)
              refine pv_ 7 48 (h := ?_)
              refine pv_ 9 50 (h := ?_)
              refine tk_ 1 42 (h := ?_)
              refine tk_ 4 45 (h := ?_)
              refine tk_ 6 47 (h := ?_)
              refine tk_ 8 49 (h := ?_)
              refine pv_ 10 51 (h := ?_)
              refine pv_ 11 52 (h := ?_)
              refine pv_ 12 53 (h := ?_)
              refine pv_ 13 54 (h := ?_)
              refine last_ (i := 14) (N := none) #[true, true, true, true, true, true, true, true, true, true, true, true, true, true, true] rfl rfl (one_of HT_.out (by kernel_rfl)) (by decide) (fun K hK => ?_)
              refine skip_ (w1 := ?_) (by rfl) rfl ?_ ?_
              rotate_left
              ·go_simp
               rfl
              refine hK.out _ _ ?_
              clear hK K
              refine done_ (done_of HT_.out (by kernel_rfl)) ?_
              try go_wp2
              go_roundg k2
              case measure => have := HJ2.out; have := HK2.out; omega
              case rel => exact ⟨(wrap64 (x23_2 + 1)), (y144), (.slice (some ⟨go37, 0, none⟩) x141001_2.length co37), (by first | rfl | (simp; done) | (simp [*]; done)), H', ⟨by have := HJ2.out; have := HK2.out; omega⟩, ⟨by (with_reducible repeat (first | apply Kd.R_alloc | apply Kd.R_drewN | apply Kd.R_drew)); exact Kd.R_mono HQ46.out (fun _ hk => trivial)⟩, ⟨by (with_reducible repeat (first | refine blk_drewN ?_ _ | refine blk_drew ?_ | refine blk_alloc ?_ _)); refine blk_far ?_ (by have h_ := Kd.R_ne HO_141001.out BK133.out (by decide); intro e_; exact h_ (by rw [e_]; rfl)) _; (with_reducible repeat (first | refine blk_drewN ?_ _ | refine blk_drew ?_ | refine blk_alloc ?_ _)); refine blk_far ?_ (by have h_ := Kd.R_ne HO_141001.out BK133.out (by decide); intro e_; exact h_ (by rw [e_]; rfl)) _; (with_reducible repeat (first | refine blk_drewN ?_ _ | refine blk_drew ?_ | refine blk_alloc ?_ _)); refine blk_far ?_ (by have h_ := Kd.R_ne HO_141001.out BK133.out (by decide); intro e_; exact h_ (by rw [e_]; rfl)) _; (with_reducible repeat (first | refine blk_drewN ?_ _ | refine blk_drew ?_ | refine blk_alloc ?_ _)); exact BK133.out⟩, ⟨by (with_reducible repeat (first | refine blk_drewN ?_ _ | refine blk_drew ?_ | refine blk_alloc ?_ _)); refine blk_far ?_ (by have h_ := Kd.R_ne HO_141001.out BK134.out (by decide); intro e_; exact h_ (by rw [e_]; rfl)) _; (with_reducible repeat (first | refine blk_drewN ?_ _ | refine blk_drew ?_ | refine blk_alloc ?_ _)); refine blk_far ?_ (by have h_ := Kd.R_ne HO_141001.out BK134.out (by decide); intro e_; exact h_ (by rw [e_]; rfl)) _; (with_reducible repeat (first | refine blk_drewN ?_ _ | refine blk_drew ?_ | refine blk_alloc ?_ _)); refine blk_far ?_ (by have h_ := Kd.R_ne HO_141001.out BK134.out (by decide); intro e_; exact h_ (by rw [e_]; rfl)) _; (with_reducible repeat (first | refine blk_drewN ?_ _ | refine blk_drew ?_ | refine blk_alloc ?_ _)); exact BK134.out⟩, ⟨by (with_reducible repeat (first | refine blk_drewN ?_ _ | refine blk_drew ?_ | refine blk_alloc ?_ _)); refine blk_far ?_ (by have h_ := Kd.R_ne HO_141001.out BK140.out (by decide); intro e_; exact h_ (by rw [e_]; rfl)) _; (with_reducible repeat (first | refine blk_drewN ?_ _ | refine blk_drew ?_ | refine blk_alloc ?_ _)); refine blk_far ?_ (by have h_ := Kd.R_ne HO_141001.out BK140.out (by decide); intro e_; exact h_ (by rw [e_]; rfl)) _; (with_reducible repeat (first | refine blk_drewN ?_ _ | refine blk_drew ?_ | refine blk_alloc ?_ _)); refine blk_far ?_ (by have h_ := Kd.R_ne HO_141001.out BK140.out (by decide); intro e_; exact h_ (by rw [e_]; rfl)) _; (with_reducible repeat (first | refine blk_drewN ?_ _ | refine blk_drew ?_ | refine blk_alloc ?_ _)); exact BK140.out⟩, ⟨by repeat (first | (with_reducible first | exact HB.out | apply below_alloc | apply pw_below_drewN | apply below_drew1 | refine below_set ?_ GB37.out | refine below_set ?_ GB37.out | refine below_set ?_ GB37.out | refine below_set ?_ GE133.out | refine below_set ?_ GE134.out | refine below_set ?_ GE140.out | refine below_set ?_ GE142.out) | exact HB.out)⟩⟩
             ·rw [if_neg c36] at H
              exact absurd H (by simp)
            ·rw [if_neg c35] at H
             exact absurd H (by simp)
           ·rw [if_neg c34] at H
            exact absurd H (by simp)
          ·rw [if_neg c33] at H
           exact absurd H (by simp)
         ·rw [if_neg c30] at H
          have c30b0 : decide (x23_2 < (l1.length : Int)) = false := decide_eq_false c30
          clear c30
          by_cases c47 : 0 ≤ 0
          ·rw [if_pos c47] at H
           have c47b0 := eq_true c47
           have c47b1 : decide (0 ≤ 0) = true := decide_eq_true c47
           clear c47
           by_cases c48 : 0 ≤ (((rd_T81 l0_1 x23_2).f2).size : Int)
           ·rw [if_pos c48] at H
            have c48b0 := eq_true c48
            have c48b1 : decide (0 ≤ (((rd_T81 l0_1 x23_2).f2).size : Int)) = true := decide_eq_true c48
            clear c48
            by_cases c49 : ((rd_T81 l0_1 x23_2).f1).size ≤ 9223372036854775807
            ·rw [if_pos c49] at H
             have c49b0 := eq_true c49
             have c49b1 : decide (((rd_T81 l0_1 x23_2).f1).size ≤ 9223372036854775807) = true := decide_eq_true c49
             try have c49b2 : (9223372036854775807 < ((rd_T81 l0_1 x23_2).f1).size) = False := eq_false (Nat.not_lt.2 c49)
             clear c49
             by_cases c50 : x23_2 < (x141001_2.length : Int)
             ·rw [if_pos c50] at H
              have c50b0 : decide (x23_2 < (x141001_2.length : Int)) = true := decide_eq_true c50
              clear c50
              obtain ⟨y145, hy145⟩ : ∃ y_ : List (S81), y_ = (x141001_2.set (x23_2 : Int).toNat (⟨(rd_T81 l0_1 x23_2).f0, ((rd_T81 l0_1 x23_2).f1), (⟨#[]⟩ : ByteArray)⟩ : S81)) := ⟨_, rfl⟩
              replace H : (impl_DiskCrash.l0 k2 l1 l0_1 (l0_1.length : Int) (wrap64 (x23_2 + 1)) t136 y145) = some (r1, r2) := by first | (rw [hy145]; with_reducible exact H) | (have H2_ := (Option.bind_some _ _).symm.trans H; rw [hy145]; with_reducible exact H2_) | (have H2_ := (Option.bind_some _ _).symm.trans H; with_reducible exact H2_) | with_reducible exact H | (rw [hy145]; exact H) | exact H
              have Ny145 := Aside0.mk hy145
              clear hy145
              have H' := Aside0.mk H
              clear H
              have p141 : 0 ≤ (x23_2 : Int) := of_decide_eq_true (by first | (with_reducible assumption) | assumption)
              have q141 : x23_2 < (l0_1.length : Int) := of_decide_eq_true (by first | (with_reducible assumption) | assumption)
              obtain ⟨ad141, e141, hx141_0, hx141_1, hx141_2⟩ := at_T81 HR0_1.out x23_2 p141 q141
              cases e141
              replace hx141_0 := xce HB hx141_0
              replace hx141_1 := xce HB hx141_1
              replace hx141_2 := xce HB hx141_2
              replace p141 := eq_true p141
              replace q141 := eq_true q141
              try go_wp2_with (first | ((with_reducible refine gate_dst (N := 7) rfl ?_); (try (refine gate_guard (by rfl) ?_; dsimp only)); refine box_event ?hg (N := 7) ?hd (cs := #[.int .i64 0, .string (⟨#[]⟩ : ByteArray), .string (⟨#[]⟩ : ByteArray)]) (t := 81) ?hr ?_; (case hd => rfl); (case hg => rfl); (case hr => first | (go_simp; done) | (go_simp; rfl)); intro gb142 hg w52 hbox hb; replace HO_141001 := Aside0.mk (Kd.R_below (Kd.R_elderB (by (with_reducible repeat (first | apply Kd.R_alloc | apply Kd.R_drewN | apply Kd.R_drew)); exact HO_141001.out) gb142 (Nat.le_of_eq hg.symm)) hb); have GW142 := Aside0.mk (xge hg); have GE142 := Aside0.mk (xge hg); replace HB := xbs hb; have NB133_142 := Aside0.mk ((by rw [hg]; exact Nat.ne_of_lt (blk_lt (g := gb133) (o := .cells #[.int .i64 a0_0, .slice (some ad141) l0_1.length c0_1] 63 (0, 0)) xblk) : gb133 ≠ gb142)); have NB142_133 := Aside0.mk ((by rw [hg]; exact Nat.ne_of_gt (blk_lt (g := gb133) (o := .cells #[.int .i64 a0_0, .slice (some ad141) l0_1.length c0_1] 63 (0, 0)) xblk) : gb142 ≠ gb133)); have NB134_142 := Aside0.mk ((by rw [hg]; exact Nat.ne_of_lt (blk_lt (g := gb134) (o := .cells #[.int .i64 0, .slice none 0 0] 63 (0, 0)) xblk) : gb134 ≠ gb142)); have NB142_134 := Aside0.mk ((by rw [hg]; exact Nat.ne_of_gt (blk_lt (g := gb134) (o := .cells #[.int .i64 0, .slice none 0 0] 63 (0, 0)) xblk) : gb142 ≠ gb134)); have NB140_142 := Aside0.mk ((by rw [hg]; exact Nat.ne_of_lt (blk_lt (g := gb140) (o := .cells #[.int .i64 t136, u141001] 63 (0, 0)) xblk) : gb140 ≠ gb142)); have NB142_140 := Aside0.mk ((by rw [hg]; exact Nat.ne_of_gt (blk_lt (g := gb140) (o := .cells #[.int .i64 t136, u141001] 63 (0, 0)) xblk) : gb142 ≠ gb140)); replace BK133 := xbb BK133 hb; replace BK134 := xbb BK134 hb; replace BK140 := xbb BK140 hb; have BK142 := Aside0.mk (hbox); clear hb hbox hg; have hnb53 := NB142_133.out; have hnc53 := NB133_142.out; have hnb54 := NB142_134.out; have hnc54 := NB134_142.out; have hnb55 := NB142_140.out; have hnc55 := NB140_142.out; have hcz56_0 : w52.cell? ⟨gb142, 0, none⟩ = some (.int .i64 0) := (blk_cell BK142.out 0).trans rfl; have hcz56_1 : w52.cell? ⟨gb142, 1, none⟩ = some (.string (⟨#[]⟩ : ByteArray)) := (blk_cell BK142.out 1).trans rfl; have hcz56_2 : w52.cell? ⟨gb142, 2, none⟩ = some (.string (⟨#[]⟩ : ByteArray)) := (blk_cell BK142.out 2).trans rfl; have hfz56_0 := blk_frozen BK142.out 0; have hfz56_1 := blk_frozen BK142.out 1; have hfz56_2 := blk_frozen BK142.out 2))
              have n0_ : Aside0 (Kd.R k81 81 (((w52.setCell ⟨gb142, 0, none⟩ (.int .i64 ((rd_T81 l0_1 x23_2).f0))).setCell ⟨gb142, 1, none⟩ (.string ((rd_T81 l0_1 x23_2).f1))).setCell ⟨gb142, 2, none⟩ (.string ((rd_T81 l0_1 x23_2).f2))) w.heap.size (fun k_ => k_ ≠ gb142) u141001 x141001_2) := ⟨by (with_reducible repeat (first | apply Kd.R_alloc | apply Kd.R_drewN | apply Kd.R_drew)); exact Kd.R_mono (Kd.R_far (p := ⟨gb142, 2, none⟩) (Kd.R_far (p := ⟨gb142, 1, none⟩) (Kd.R_far (p := ⟨gb142, 0, none⟩) (Kd.R_mono HO_141001.out (fun k_ hk => (⟨hk, hk.2⟩ : _ ∧ k_ ≠ gb142))) (fun _ hk => hk.2) (.int .i64 ((rd_T81 l0_1 x23_2).f0))) (fun _ hk => hk.2) (.string ((rd_T81 l0_1 x23_2).f1))) (fun _ hk => hk.2) (.string ((rd_T81 l0_1 x23_2).f2))) (fun _ hk => hk.1.2)⟩
              have n1_ : Aside0 ((((w52.setCell ⟨gb142, 0, none⟩ (.int .i64 ((rd_T81 l0_1 x23_2).f0))).setCell ⟨gb142, 1, none⟩ (.string ((rd_T81 l0_1 x23_2).f1))).setCell ⟨gb142, 2, none⟩ (.string ((rd_T81 l0_1 x23_2).f2))).heap[gb133]? = some (.cells #[.int .i64 a0_0, .slice (some ad141) l0_1.length c0_1] 63 (0, 0))) := ⟨by (with_reducible repeat (first | refine blk_drewN ?_ _ | refine blk_drew ?_ | refine blk_alloc ?_ _)); refine blk_far ?_ NB133_142.out _; (with_reducible repeat (first | refine blk_drewN ?_ _ | refine blk_drew ?_ | refine blk_alloc ?_ _)); refine blk_far ?_ NB133_142.out _; (with_reducible repeat (first | refine blk_drewN ?_ _ | refine blk_drew ?_ | refine blk_alloc ?_ _)); refine blk_far ?_ NB133_142.out _; (with_reducible repeat (first | refine blk_drewN ?_ _ | refine blk_drew ?_ | refine blk_alloc ?_ _)); exact BK133.out⟩
              have n2_ : Aside0 ((((w52.setCell ⟨gb142, 0, none⟩ (.int .i64 ((rd_T81 l0_1 x23_2).f0))).setCell ⟨gb142, 1, none⟩ (.string ((rd_T81 l0_1 x23_2).f1))).setCell ⟨gb142, 2, none⟩ (.string ((rd_T81 l0_1 x23_2).f2))).heap[gb134]? = some (.cells #[.int .i64 0, .slice none 0 0] 63 (0, 0))) := ⟨by (with_reducible repeat (first | refine blk_drewN ?_ _ | refine blk_drew ?_ | refine blk_alloc ?_ _)); refine blk_far ?_ NB134_142.out _; (with_reducible repeat (first | refine blk_drewN ?_ _ | refine blk_drew ?_ | refine blk_alloc ?_ _)); refine blk_far ?_ NB134_142.out _; (with_reducible repeat (first | refine blk_drewN ?_ _ | refine blk_drew ?_ | refine blk_alloc ?_ _)); refine blk_far ?_ NB134_142.out _; (with_reducible repeat (first | refine blk_drewN ?_ _ | refine blk_drew ?_ | refine blk_alloc ?_ _)); exact BK134.out⟩
              have n3_ : Aside0 ((((w52.setCell ⟨gb142, 0, none⟩ (.int .i64 ((rd_T81 l0_1 x23_2).f0))).setCell ⟨gb142, 1, none⟩ (.string ((rd_T81 l0_1 x23_2).f1))).setCell ⟨gb142, 2, none⟩ (.string ((rd_T81 l0_1 x23_2).f2))).heap[gb140]? = some (.cells #[.int .i64 t136, u141001] 63 (0, 0))) := ⟨by (with_reducible repeat (first | refine blk_drewN ?_ _ | refine blk_drew ?_ | refine blk_alloc ?_ _)); refine blk_far ?_ NB140_142.out _; (with_reducible repeat (first | refine blk_drewN ?_ _ | refine blk_drew ?_ | refine blk_alloc ?_ _)); refine blk_far ?_ NB140_142.out _; (with_reducible repeat (first | refine blk_drewN ?_ _ | refine blk_drew ?_ | refine blk_alloc ?_ _)); refine blk_far ?_ NB140_142.out _; (with_reducible repeat (first | refine blk_drewN ?_ _ | refine blk_drew ?_ | refine blk_alloc ?_ _)); exact BK140.out⟩
              have n4_ : Aside0 ((((w52.setCell ⟨gb142, 0, none⟩ (.int .i64 ((rd_T81 l0_1 x23_2).f0))).setCell ⟨gb142, 1, none⟩ (.string ((rd_T81 l0_1 x23_2).f1))).setCell ⟨gb142, 2, none⟩ (.string ((rd_T81 l0_1 x23_2).f2))).heap[gb142]? = some (.cells #[.int .i64 ((rd_T81 l0_1 x23_2).f0), .string ((rd_T81 l0_1 x23_2).f1), .string ((rd_T81 l0_1 x23_2).f2)] 81 (0, 0))) := ⟨by (with_reducible repeat (first | refine blk_drewN ?_ _ | refine blk_drew ?_ | refine blk_alloc ?_ _)); refine blk_put (cs := #[.int .i64 ((rd_T81 l0_1 x23_2).f0), .string ((rd_T81 l0_1 x23_2).f1), .string (⟨#[]⟩ : ByteArray)]) ?_ 2 _ rfl; (with_reducible repeat (first | refine blk_drewN ?_ _ | refine blk_drew ?_ | refine blk_alloc ?_ _)); refine blk_put (cs := #[.int .i64 ((rd_T81 l0_1 x23_2).f0), .string (⟨#[]⟩ : ByteArray), .string (⟨#[]⟩ : ByteArray)]) ?_ 1 _ rfl; (with_reducible repeat (first | refine blk_drewN ?_ _ | refine blk_drew ?_ | refine blk_alloc ?_ _)); refine blk_put (cs := #[.int .i64 0, .string (⟨#[]⟩ : ByteArray), .string (⟨#[]⟩ : ByteArray)]) ?_ 0 _ rfl; (with_reducible repeat (first | refine blk_drewN ?_ _ | refine blk_drew ?_ | refine blk_alloc ?_ _)); exact BK142.out⟩
              have n5_ : Aside0 (Below w.heap.size w (((w52.setCell ⟨gb142, 0, none⟩ (.int .i64 ((rd_T81 l0_1 x23_2).f0))).setCell ⟨gb142, 1, none⟩ (.string ((rd_T81 l0_1 x23_2).f1))).setCell ⟨gb142, 2, none⟩ (.string ((rd_T81 l0_1 x23_2).f2)))) := ⟨xbg⟩
              (try clear HO_141001); (try clear BK133); (try clear BK134); (try clear BK140); (try clear BK142); (try clear HB)
              generalize (((w52.setCell ⟨gb142, 0, none⟩ (.int .i64 ((rd_T81 l0_1 x23_2).f0))).setCell ⟨gb142, 1, none⟩ (.string ((rd_T81 l0_1 x23_2).f1))).setCell ⟨gb142, 2, none⟩ (.string ((rd_T81 l0_1 x23_2).f2))) = w57 at n0_ n1_ n2_ n3_ n4_ n5_ ⊢
              have HO_141001 := n0_
              have BK133 := n1_
              have BK134 := n2_
              have BK140 := n3_
              have BK142 := n4_
              have HB := n5_
              clear n0_ n1_ n2_ n3_ n4_ n5_
              replace HO_141001 := Aside0.mk (Kd.R_drew HO_141001.out)
              replace BK133 := Aside0.mk (blk_drew BK133.out)
              replace BK134 := Aside0.mk (blk_drew BK134.out)
              replace BK140 := Aside0.mk (blk_drew BK140.out)
              replace BK142 := Aside0.mk (blk_drew BK142.out)
              replace HB := Aside0.mk (below_drew1 HB.out)
              have p51 : 0 ≤ (x23_2 : Int) := of_decide_eq_true (by first | (with_reducible assumption) | assumption)
              have q51 : (x23_2 : Int) < ((x141001_2.length : Int) : Int) := of_decide_eq_true (by first | (with_reducible assumption) | assumption)
              obtain ⟨go51, co51, eo51, gb51, gl51, cl51, HG51⟩ := Kd.R_form HO_141001.out (by omega)
              (first | cases eo51 | (injection eo51 with ea_ en_ ec_; (first | subst ea_ | (injection ea_ with ea_; subst ea_)); subst ec_; clear en_))
              have GB51 := Aside0.mk gb51
              have GG51 := Aside0.mk HG51
              clear gb51 gl51 HG51
              obtain ⟨ce51, hcl51, hM51, hcc51, hfr51⟩ := Kd.R_elem HO_141001.out z81 (x23_2 : Int) p51 q51
              obtain rfl := k81_openM hM51
              have hx51_0 : World.cell? _ ⟨go51, (x23_2 : Int).toNat * 3, none⟩ = some (.int .i64 ((rd_T81 x141001_2 x23_2).f0)) := hcc51 0 _ rfl
              have hx51_1 : World.cell? _ ⟨go51, (x23_2 : Int).toNat * 3 + 1, none⟩ = some (.string ((rd_T81 x141001_2 x23_2).f1)) := hcc51 1 _ rfl
              have hx51_2 : World.cell? _ ⟨go51, (x23_2 : Int).toNat * 3 + 2, none⟩ = some (.string ((rd_T81 x141001_2 x23_2).f2)) := hcc51 2 _ rfl
              have hf51_0 : World.frozen? _ ⟨go51, (x23_2 : Int).toNat * 3, none⟩ = false := hfr51 0
              have hf51_1 : World.frozen? _ ⟨go51, (x23_2 : Int).toNat * 3 + 1, none⟩ = false := hfr51 1
              have hf51_2 : World.frozen? _ ⟨go51, (x23_2 : Int).toNat * 3 + 2, none⟩ = false := hfr51 2
              clear hcl51 hcc51 hfr51 hM51
              replace p51 := eq_true p51
              replace q51 := eq_true q51
              obtain ⟨ce59, hcl59, hM59, hcc59, hfr59⟩ := Kd.R_elem HO_141001.out z81 (x23_2 : Int) (of_decide_eq_true (by first | (with_reducible assumption) | assumption)) (by have h_ : (x23_2 : Int) < ((x141001_2.length : Int) : Int) := of_decide_eq_true (by first | (with_reducible assumption) | assumption); first | exact h_ | (have e_ := (Kd.R_reads' HO_141001.out).1; omega) | simpa using h_)
              obtain rfl := k81_openM hM59
              have HP59 := (Kd.R_seg HO_141001.out (x23_2 : Int) (of_decide_eq_true (by first | (with_reducible assumption) | assumption)) (by have h_ : (x23_2 : Int) < ((x141001_2.length : Int) : Int) := of_decide_eq_true (by first | (with_reducible assumption) | assumption); first | exact h_ | (have e_ := (Kd.R_reads' HO_141001.out).1; omega) | simpa using h_) (seg := [.int .i64 ((rd_T81 l0_1 x23_2).f0), .string ((rd_T81 l0_1 x23_2).f1), .string (⟨#[]⟩ : ByteArray)]) (j := 0) hcl59 hcc59 (show 3 ≤ 3 from by decide) (x' := (⟨(rd_T81 l0_1 x23_2).f0, ((rd_T81 l0_1 x23_2).f1), (⟨#[]⟩ : ByteArray)⟩ : S81)) (k81_mkM _ _ _ (⟨(rd_T81 l0_1 x23_2).f0, ((rd_T81 l0_1 x23_2).f1), (⟨#[]⟩ : ByteArray)⟩ : S81) ) (fun _ hk => hk)).1
              rw [← Ny145.out] at HP59
              have HQ59 := Aside0.mk HP59
              clear hcl59 hcc59 hfr59 hM59 HP59
              refine start_ (n := 15) (S := fun w' => w'.cell? ⟨gb140, 0, none⟩ = some (.int .i64 t136) ∧ w'.cell? ⟨gb140, 1, none⟩ = some (.slice (some ⟨go51, 0, none⟩) x141001_2.length co51) ∧ w'.cell? ⟨gb142, 0, none⟩ = some (.int .i64 ((rd_T81 l0_1 x23_2).f0)) ∧ w'.cell? ⟨gb142, 1, none⟩ = some (.string ((rd_T81 l0_1 x23_2).f1)) ∧ w'.cell? ⟨gb142, 2, none⟩ = some (.string ((rd_T81 l0_1 x23_2).f2))) (ds := [14]) #[false, false, false, false, false, false, false, false, false, false, false, false, false, false, false] (by kernel_rfl) rfl rfl ⟨(blk_cell BK140.out 0).trans rfl, (blk_cell BK140.out 1).trans rfl, (blk_cell BK142.out 0).trans rfl, (blk_cell BK142.out 1).trans rfl, (blk_cell BK142.out 2).trans rfl⟩ (fun hHeld => ?_); refine with_tabW impl_DiskCrash.tab10 impl_DiskCrash.bits10 (fun HT_ HW_ => ?_)
              generalize w57.drew = w58 at HO_141001 BK133 BK134 BK140 BK142 HB GG51 HQ59 hf51_0 hf51_1 hf51_2 hx51_0 hx51_1 hx51_2 hHeld ⊢
              refine pv_ 0 41 (h := ?_)
              refine pv_ 2 43 (h := ?_)
              refine pv_ 3 44 (h := ?_)
              refine pv_ 5 46 (h := ?_)
              refine pv_ 7 48 (h := ?_)
              refine pv_ 9 50 (h := ?_)
              refine tk_ 1 42 (h := ?_)
              refine tk_ 4 45 (h := ?_)
              refine tk_ 6 47 (h := ?_)
              refine tk_ 8 49 (h := ?_)
              refine pv_ 10 51 (h := ?_)
              refine pv_ 11 52 (h := ?_)
              refine pv_ 12 53 (h := ?_)
              refine pv_ 13 54 (h := ?_)
              refine last_ (i := 14) (N := none) #[true, true, true, true, true, true, true, true, true, true, true, true, true, true, true] rfl rfl (one_of HT_.out (by kernel_rfl)) (by decide) (fun K hK => ?_)
              refine skip_ (w1 := ?_) (by rfl) rfl ?_ ?_
              rotate_left
              ·go_simp
               rfl
              refine hK.out _ _ ?_
              clear hK K
              refine done_ (done_of HT_.out (by kernel_rfl)) ?_
              try go_wp2
              go_roundg k2
              case measure => have := HJ2.out; have := HK2.out; omega
              case rel => exact ⟨(wrap64 (x23_2 + 1)), (y145), (.slice (some ⟨go51, 0, none⟩) x141001_2.length co51), (by first | rfl | (simp; done) | (simp [*]; done)), H', ⟨by have := HJ2.out; have := HK2.out; omega⟩, ⟨by (with_reducible repeat (first | apply Kd.R_alloc | apply Kd.R_drewN | apply Kd.R_drew)); exact Kd.R_mono HQ59.out (fun _ hk => trivial)⟩, ⟨by (with_reducible repeat (first | refine blk_drewN ?_ _ | refine blk_drew ?_ | refine blk_alloc ?_ _)); refine blk_far ?_ (by have h_ := Kd.R_ne HO_141001.out BK133.out (by decide); intro e_; exact h_ (by rw [e_]; rfl)) _; (with_reducible repeat (first | refine blk_drewN ?_ _ | refine blk_drew ?_ | refine blk_alloc ?_ _)); refine blk_far ?_ (by have h_ := Kd.R_ne HO_141001.out BK133.out (by decide); intro e_; exact h_ (by rw [e_]; rfl)) _; (with_reducible repeat (first | refine blk_drewN ?_ _ | refine blk_drew ?_ | refine blk_alloc ?_ _)); refine blk_far ?_ (by have h_ := Kd.R_ne HO_141001.out BK133.out (by decide); intro e_; exact h_ (by rw [e_]; rfl)) _; (with_reducible repeat (first | refine blk_drewN ?_ _ | refine blk_drew ?_ | refine blk_alloc ?_ _)); exact BK133.out⟩, ⟨by (with_reducible repeat (first | refine blk_drewN ?_ _ | refine blk_drew ?_ | refine blk_alloc ?_ _)); refine blk_far ?_ (by have h_ := Kd.R_ne HO_141001.out BK134.out (by decide); intro e_; exact h_ (by rw [e_]; rfl)) _; (with_reducible repeat (first | refine blk_drewN ?_ _ | refine blk_drew ?_ | refine blk_alloc ?_ _)); refine blk_far ?_ (by have h_ := Kd.R_ne HO_141001.out BK134.out (by decide); intro e_; exact h_ (by rw [e_]; rfl)) _; (with_reducible repeat (first | refine blk_drewN ?_ _ | refine blk_drew ?_ | refine blk_alloc ?_ _)); refine blk_far ?_ (by have h_ := Kd.R_ne HO_141001.out BK134.out (by decide); intro e_; exact h_ (by rw [e_]; rfl)) _; (with_reducible repeat (first | refine blk_drewN ?_ _ | refine blk_drew ?_ | refine blk_alloc ?_ _)); exact BK134.out⟩, ⟨by (with_reducible repeat (first | refine blk_drewN ?_ _ | refine blk_drew ?_ | refine blk_alloc ?_ _)); refine blk_far ?_ (by have h_ := Kd.R_ne HO_141001.out BK140.out (by decide); intro e_; exact h_ (by rw [e_]; rfl)) _; (with_reducible repeat (first | refine blk_drewN ?_ _ | refine blk_drew ?_ | refine blk_alloc ?_ _)); refine blk_far ?_ (by have h_ := Kd.R_ne HO_141001.out BK140.out (by decide); intro e_; exact h_ (by rw [e_]; rfl)) _; (with_reducible repeat (first | refine blk_drewN ?_ _ | refine blk_drew ?_ | refine blk_alloc ?_ _)); refine blk_far ?_ (by have h_ := Kd.R_ne HO_141001.out BK140.out (by decide); intro e_; exact h_ (by rw [e_]; rfl)) _; (with_reducible repeat (first | refine blk_drewN ?_ _ | refine blk_drew ?_ | refine blk_alloc ?_ _)); exact BK140.out⟩, ⟨by repeat (first | (with_reducible first | exact HB.out | apply below_alloc | apply pw_below_drewN | apply below_drew1 | refine below_set ?_ GB51.out | refine below_set ?_ GB51.out | refine below_set ?_ GB51.out | refine below_set ?_ GE133.out | refine below_set ?_ GE134.out | refine below_set ?_ GE140.out | refine below_set ?_ GE142.out) | exact HB.out)⟩⟩
             ·rw [if_neg c50] at H
              exact absurd H (by simp)
            ·rw [if_neg c49] at H
             exact absurd H (by simp)
           ·rw [if_neg c48] at H
            exact absurd H (by simp)
          ·rw [if_neg c47] at H
           exact absurd H (by simp)
        ·rw [if_neg c29] at H
         exact absurd H (by simp)
       ·rw [if_neg c28] at H
        exact absurd H (by simp)
      ·rw [if_neg c27] at H
       have c27b0 : decide (x23_2 < (l0_1.length : Int)) = false := decide_eq_false c27
       clear c27
       simp only [Option.some.injEq, Prod.mk.injEq] at H
       obtain ⟨rfl, rfl⟩ := H
       have hnb60 := NB140_133.out
       have hnc60 := NB133_140.out
       have hnb61 := NB140_134.out
       have hnc61 := NB134_140.out
       have hcz62_0 : wr.cell? ⟨gb140, 0, none⟩ = some (.int .i64 t136) := (blk_cell BK140.out 0).trans rfl
       have hcz62_1 : wr.cell? ⟨gb140, 1, none⟩ = some (u141001) := (blk_cell BK140.out 1).trans rfl
       have hfz62_0 := blk_frozen BK140.out 0
       have hfz62_1 := blk_frozen BK140.out 1
       have hnb63 := NB134_133.out
       have hnc63 := NB133_134.out
       have hcz64_0 : wr.cell? ⟨gb134, 0, none⟩ = some (.int .i64 0) := (blk_cell BK134.out 0).trans rfl
       have hcz64_1 : wr.cell? ⟨gb134, 1, none⟩ = some (.slice none 0 0) := (blk_cell BK134.out 1).trans rfl
       have hfz64_0 := blk_frozen BK134.out 0
       have hfz64_1 := blk_frozen BK134.out 1
       obtain ⟨Ao65, co65, eo65⟩ := Kd.R_slice HO_141001.out
       subst eo65
       go_wp2
       refine bodyPost_ret (results_cell_row rfl _ _ gb134 63 #[.int .i64 t136, .slice Ao65 x141001_2.length co65] (0, 0) _ rfl (by (with_reducible repeat (first | refine blk_drewN ?_ _ | refine blk_drew ?_ | refine blk_alloc ?_ _)); refine blk_put (cs := #[.int .i64 t136, .slice none 0 0]) ?_ 1 _ rfl; (with_reducible repeat (first | refine blk_drewN ?_ _ | refine blk_drew ?_ | refine blk_alloc ?_ _)); refine blk_put (cs := #[.int .i64 0, .slice none 0 0]) ?_ 0 _ rfl; (with_reducible repeat (first | refine blk_drewN ?_ _ | refine blk_drew ?_ | refine blk_alloc ?_ _)); exact BK134.out) Try.underlying63 rfl (by kernel_rfl)) rfl ?_
       exact ⟨_, by first | rfl | (simp [errW_none, errW_some] <;> rfl) | (simp [*, errW_none, errW_some] <;> rfl), by (with_reducible repeat (first | apply Kd.R_alloc | apply Kd.R_drewN | apply Kd.R_drew)); exact Kd.R_mono (Kd.R_far (p := ⟨gb134, 1, none⟩) (Kd.R_far (p := ⟨gb134, 0, none⟩) (Kd.R_types HO_141001.out BK134.out (by decide)) (fun _ hk => hk.2) (.int .i64 t136)) (fun _ hk => hk.2) (.slice Ao65 x141001_2.length co65)) (fun _ hk => trivial), xbg⟩

end Go.Proofs.Ytkfoojknjmgjdaa.QFnDisk
