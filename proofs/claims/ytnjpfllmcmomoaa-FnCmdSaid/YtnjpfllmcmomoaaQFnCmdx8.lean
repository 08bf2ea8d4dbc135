-- A walk, by a program of this session.
import Derived.Test.YtnjpfllmcmomoaaQFnCmdx0
import Derived.Test.YtnjpfllmcmomoaaQFnCmdx2
import Derived.Test.YtnjpfllmcmomoaaQFnCmdx4
import Derived.Test.YtnjpfllmcmomoaaQFnCmdx6
import Derived.Test.YtnjpfllmcmomoaaQFnCmdx7
namespace Go.Proofs.Ytnjpfllmcmomoaa.QFnCmd
open Go.RowKit Go.Proofs.YtnjpfllmcmomoaaW.PrintWords Go.Proofs.YtnjpfllmcmomoaaW.PrintLast Go.Proofs.YtnjpfllmcmomoaaW.PrintMore
attribute [local go_sem] max2_int min2_int max_two min_two max_three min_three max_four min_four   -- for this text's walks alone
set_option linter.unusedVariables false
set_option linter.unusedSimpArgs false

/-! ### spec_DrawCmdRead: function 26 -/
mutual
def spec_DrawCmdRead.j0 : Nat → List Int → List Int → Int → Int → Option (List Int × Int)
 | 0, _, _, _, _ => none
 | k + 1, x5, x418000, x418001, x418002 => (spec_l1Once.f x418000 x418001 x418002 3).bind fun bt432 => (if bt432.1 = true then ((spec_l1Below.f x418000 bt432.2.1 bt432.2.2 (x5.length : Int)).bind fun bt435 => ((spec_l1PickInt.f x418000 bt435.2.1 bt435.2.2 (([0, 1, 2, 5, 6, 127, 128, 255] : List Int))).bind fun bt441 => (if 0 ≤ bt435.1 then (if bt435.1 < (x5.length : Int) then (spec_DrawCmdRead.j1 k (x5.set (bt435.1 : Int).toNat ((bt441.1) % 256)) x418000 bt441.2.1 bt441.2.2) else (none)) else (none)))) else (spec_DrawCmdRead.j1 k x5 x418000 bt432.2.1 bt432.2.2))
def spec_DrawCmdRead.j1 : Nat → List Int → List Int → Int → Int → Option (List Int × Int)
 | 0, _, _, _, _ => none
 | k + 1, x5, x418000, x418001, x418002 => (spec_l1Once.f x418000 x418001 x418002 6).bind fun bt445 => (if bt445.1 = true then ((spec_l1Below.f x418000 bt445.2.1 bt445.2.2 (wrap64 ((x5.length : Int) + 1))).bind fun bt448 => (if 0 ≤ bt448.1 then (if bt448.1 ≤ (x5.length : Int) then ((some (x5.take (bt448.1 : Int).toNat : List Int)).bind fun y451 => ((some (([9] : List Int) : List Int)).bind fun y454 => (if y454.length + y451.length < 140737488355328 then ((spec_l1PickInt.f x418000 bt448.2.1 bt448.2.2 (([1, 1, 1, 1, 0, 2, (-1)] : List Int))).bind fun bt463 => (some ((y454 ++ y451), bt463.1))) else (none)))) else (none)) else (none))) else ((some (([9] : List Int) : List Int)).bind fun y466 => (if y466.length + x5.length < 140737488355328 then ((spec_l1PickInt.f x418000 bt445.2.1 bt445.2.2 (([1, 1, 1, 1, 0, 2, (-1)] : List Int))).bind fun bt475 => (some ((y466 ++ x5), bt475.1))) else (none))))
end
def spec_DrawCmdRead.f (k : Nat) (l0 : List Int) : Option (List Int × Int) := (spec_l1New.f k l0).bind fun bt414 => ((spec_l5DrawRight.f k bt414.1 bt414.2.1 bt414.2.2).bind fun bt418 => ((spec_CmdPack.f k bt418.1 bt418.2.1 bt418.2.2.1 bt418.2.2.2.1 bt418.2.2.2.2.1).bind fun bt425 => (if bt425.2 = true then (spec_DrawCmdRead.j0 k bt425.1 bt414.1 bt418.2.2.2.2.2.1 bt418.2.2.2.2.2.2) else (spec_DrawCmdRead.j0 k (([1] : List Int)) bt414.1 bt418.2.2.2.2.2.1 bt418.2.2.2.2.2.2))))
set_option maxRecDepth 100000 in
theorem spec_DrawCmdRead.mono_l : ∀ k, (∀ y0 y1 y2 y3, LeO (spec_DrawCmdRead.j0 k y0 y1 y2 y3) (spec_DrawCmdRead.j0 (k + 1) y0 y1 y2 y3)) ∧ (∀ y0 y1 y2 y3, LeO (spec_DrawCmdRead.j1 k y0 y1 y2 y3) (spec_DrawCmdRead.j1 (k + 1) y0 y1 y2 y3))
 | 0 => ⟨fun _ _ _ _ r h => by simp [spec_DrawCmdRead.j0] at h, fun _ _ _ _ r h => by simp [spec_DrawCmdRead.j1] at h⟩
 | k + 1 => by
  obtain ⟨ih0, ih1⟩ := spec_DrawCmdRead.mono_l k
  refine ⟨?_, ?_⟩
  ·intro y0 y1 y2 y3
   unfold spec_DrawCmdRead.j0
   repeat' first
   | (with_reducible exact ih0 _ _ _ _)
   | (with_reducible exact ih1 _ _ _ _)
   | (with_reducible exact spec_CmdPack.mono _ _ _ _ _ _)
   | (with_reducible exact spec_l1New.mono _ _)
   | (with_reducible exact spec_l5DrawRight.mono _ _ _ _)
   | (with_reducible exact LeO.refl _)
   | (with_reducible exact LeO.none _)
   | (with_reducible refine LeO.ite ?_ ?_)
   | (with_reducible refine LeO.bind ?_ (fun _ => ?_))
   | exact ih0 _ _ _ _
   | exact ih1 _ _ _ _
   | exact spec_CmdPack.mono _ _ _ _ _ _
   | exact spec_l1New.mono _ _
   | exact spec_l5DrawRight.mono _ _ _ _
   | exact LeO.none _
   | refine LeO.ite ?_ ?_
   | refine LeO.bind ?_ (fun _ => ?_)
  ·intro y0 y1 y2 y3
   unfold spec_DrawCmdRead.j1
   repeat' first
   | (with_reducible exact ih0 _ _ _ _)
   | (with_reducible exact ih1 _ _ _ _)
   | (with_reducible exact spec_CmdPack.mono _ _ _ _ _ _)
   | (with_reducible exact spec_l1New.mono _ _)
   | (with_reducible exact spec_l5DrawRight.mono _ _ _ _)
   | (with_reducible exact LeO.refl _)
   | (with_reducible exact LeO.none _)
   | (with_reducible refine LeO.ite ?_ ?_)
   | (with_reducible refine LeO.bind ?_ (fun _ => ?_))
   | exact ih0 _ _ _ _
   | exact ih1 _ _ _ _
   | exact spec_CmdPack.mono _ _ _ _ _ _
   | exact spec_l1New.mono _ _
   | exact spec_l5DrawRight.mono _ _ _ _
   | exact LeO.none _
   | refine LeO.ite ?_ ?_
   | refine LeO.bind ?_ (fun _ => ?_)
theorem spec_DrawCmdRead.mono : ∀ a0 k, LeO (spec_DrawCmdRead.f k a0) (spec_DrawCmdRead.f (k + 1) a0) := by
 intro a0 k
 obtain ⟨ih0, ih1⟩ := spec_DrawCmdRead.mono_l k
 unfold spec_DrawCmdRead.f
 repeat' first
  | (with_reducible exact ih0 _ _ _ _)
  | (with_reducible exact ih1 _ _ _ _)
  | (with_reducible exact spec_CmdPack.mono _ _ _ _ _ _)
  | (with_reducible exact spec_l1New.mono _ _)
  | (with_reducible exact spec_l5DrawRight.mono _ _ _ _)
  | (with_reducible exact LeO.refl _)
  | (with_reducible exact LeO.none _)
  | (with_reducible refine LeO.ite ?_ ?_)
  | (with_reducible refine LeO.bind ?_ (fun _ => ?_))
  | exact ih0 _ _ _ _
  | exact ih1 _ _ _ _
  | exact spec_CmdPack.mono _ _ _ _ _ _
  | exact spec_l1New.mono _ _
  | exact spec_l5DrawRight.mono _ _ _ _
  | exact LeO.none _
  | refine LeO.ite ?_ ?_
  | refine LeO.bind ?_ (fun _ => ?_)
set_option maxHeartbeats 8000000 in
set_option maxRecDepth 100000 in
theorem spec_DrawCmdRead.calls (k : Nat) (A0 : Option Addr) (c0 : Nat) (l0 : List Int) (r1 : List Int) (r2 : Int) (w : World) (hr0 : Kd.C (Kd.int .u8) w A0 l0.length l0) (hc0 : l0.length ≤ c0) (h : spec_DrawCmdRead.f k l0 = some (r1, r2)) :
 Calls Try.prog 26 #[.slice A0 l0.length c0] w fun e w' => ∃ v0_ : Value, e = .returned (.tuple #[v0_, .int .i64 r2]) ∧ Kd.R (Kd.int .u8) 5 w' w.heap.size (fun _ => True) v0_ r1 ∧ Below w.heap.size w w' := by
 have HR0 := aM hr0
 have HC0 := aM hc0
 clear hr0 hc0
 have HB := aM (Below.refl w.heap.size w)
 have H : ((spec_l1New.f k l0).bind fun bt414 => ((spec_l5DrawRight.f k bt414.1 bt414.2.1 bt414.2.2).bind fun bt418 => ((spec_CmdPack.f k bt418.1 bt418.2.1 bt418.2.2.1 bt418.2.2.2.1 bt418.2.2.2.2.1).bind fun bt425 => (if bt425.2 = true then (spec_DrawCmdRead.j0 k bt425.1 bt414.1 bt418.2.2.2.2.2.1 bt418.2.2.2.2.2.2) else (spec_DrawCmdRead.j0 k (([1] : List Int)) bt414.1 bt418.2.2.2.2.2.1 bt418.2.2.2.2.2.2))))) = some (r1, r2) := h
 clear h
 replace H := Option.bind_eq_some_iff.mp H
 obtain ⟨⟨t414, t415, t416⟩, A20, H⟩ := H
 replace H : ((spec_l5DrawRight.f k t414 t415 t416).bind fun bt418 => ((spec_CmdPack.f k bt418.1 bt418.2.1 bt418.2.2.1 bt418.2.2.2.1 bt418.2.2.2.2.1).bind fun bt425 => (if bt425.2 = true then (spec_DrawCmdRead.j0 k bt425.1 t414 bt418.2.2.2.2.2.1 bt418.2.2.2.2.2.2) else (spec_DrawCmdRead.j0 k (([1] : List Int)) t414 bt418.2.2.2.2.2.1 bt418.2.2.2.2.2.2)))) = some (r1, r2) := H
 have A2 := aM A20
 clear A20
 replace H := Option.bind_eq_some_iff.mp H
 obtain ⟨⟨t418, t419, t420, t421, t422, t423, t424⟩, A30, H⟩ := H
 replace H : ((spec_CmdPack.f k t418 t419 t420 t421 t422).bind fun bt425 => (if bt425.2 = true then (spec_DrawCmdRead.j0 k bt425.1 t414 t423 t424) else (spec_DrawCmdRead.j0 k (([1] : List Int)) t414 t423 t424))) = some (r1, r2) := H
 have A3 := aM A30
 clear A30
 replace H := Option.bind_eq_some_iff.mp H
 obtain ⟨⟨t425, t428⟩, A40, H⟩ := H
 replace H : (if t428 = true then (spec_DrawCmdRead.j0 k t425 t414 t423 t424) else (spec_DrawCmdRead.j0 k (([1] : List Int)) t414 t423 t424)) = some (r1, r2) := H
 have A4 := aM A40
 clear A40
 have HC5 := aM H
 clear H
 go_enter Try.func26, Try.ntmps26
 go_upto_if 16 with (first | ((with_reducible refine gate_callee (f := 76) rfl ?_); refine goesL_ (some 8) rfl rfl Try.func76 (by kernel_rfl) rfl #[.slice A0 l0.length c0] rfl (by (try simp only [List.map_toArray, List.map_cons, List.map_nil]); first | done | rfl | (simp only [List.length_drop, List.length_take]; rfl)) ?_; (with_reducible refine (spec_l1New.calls k _ _ l0 t414 t415 t416 w _ ?side1 ?side2 ?side3 A2.out).mono ?_); (case side1 => repeat (first | (with_reducible first | exact HB.out | apply below_alloc | apply pw_below_drewN | apply below_drew1) | exact HB.out)); (case side2 => exact HR0.out); (case side3 => exact HC0.out); rintro e w6 ⟨g417, rfl, hi, hb, hb2⟩; refine ⟨_, rfl, ?_⟩; replace HB := aM (hb); have HI417 := aM (hi); (try clear hb); (try clear hb2); (try clear hk); (try clear hi)) | ((with_reducible refine gate_callee (f := 90) rfl ?_); refine goesL_ (some 11) rfl rfl Try.func90 (by kernel_rfl) rfl #[.pointer (some ⟨g417, 0, none⟩)] rfl (by (try simp only [List.map_toArray, List.map_cons, List.map_nil]); first | done | rfl | (simp only [List.length_drop, List.length_take]; rfl)) ?_; (with_reducible refine (spec_l5DrawRight.calls k g417 t414 t415 t416 t418 t419 t420 t421 t422 t423 t424 w _ ?side1 ?side2 A3.out).mono ?_); (case side1 => repeat (first | (with_reducible first | exact HI417.out | apply IsS156.alloc | apply IsS156.drewN | apply IsS156.drew | apply IsS156.set_1 | apply IsS156.set_2) | exact HI417.out)); (case side2 => repeat (first | (with_reducible first | exact HB.out | apply below_alloc | apply pw_below_drewN | apply below_drew1 | refine below_set ?_ (IsS156.ge HI417.out)) | exact HB.out)); rintro e w7 ⟨rfl, hi, hb, hk⟩; refine ⟨_, rfl, ?_⟩; replace HB := aM (hb); replace HI417 := aM (hi); (try clear hb); (try clear hb2); (try clear hk); (try clear hi)) | ((with_reducible refine gate_callee (f := 89) rfl ?_); refine goesL_ (some 12) rfl rfl Try.func89 (by kernel_rfl) rfl #[.agg #[.int .i64 t418, .int .i64 t419, .int .i64 t420, .int .i64 t421, .string t422]] rfl (by (try simp only [List.map_toArray, List.map_cons, List.map_nil]); first | done | rfl | (simp only [List.length_drop, List.length_take]; rfl)) ?_; (with_reducible refine (spec_CmdPack.calls k t418 t419 t420 t421 t422 t425 t428 _ A4.out).mono ?_); rintro e w8 ⟨v426, rfl, ho0, hb⟩; refine ⟨_, rfl, ?_⟩; have HO427 := aM (Kd.R_lower ho0 (below_size (by repeat (first | (with_reducible first | exact HB.out | apply below_alloc | apply pw_below_drewN | apply below_drew1 | refine below_set ?_ (IsS156.ge HI417.out)) | exact HB.out)))); replace HB := aM (below_step (by repeat (first | (with_reducible first | exact HB.out | apply below_alloc | apply pw_below_drewN | apply below_drew1 | refine below_set ?_ (IsS156.ge HI417.out)) | exact HB.out)) hb); replace HI417 := aM (IsS156.below (by repeat (first | (with_reducible first | exact HI417.out | apply IsS156.alloc | apply IsS156.drewN | apply IsS156.drew | apply IsS156.set_1 | apply IsS156.set_2) | exact HI417.out)) hb); (try clear hb); (try clear hb2); (try clear hk); (try clear hi); (try clear ho0)))
 (try simp only [Act.put, List.setIfInBounds_toArray, List.set_cons_zero, List.set_cons_succ])
 go_cut [5] (fun v5 wc => ∃ (kq : Nat) (x5_4 : List Int), Aside0 (spec_DrawCmdRead.j0 kq x5_4 t414 t423 t424 = some (r1, r2)) ∧ Aside0 (kq ≤ k) ∧ Aside0 (Kd.R (Kd.int .u8) 5 wc w.heap.size (fun _ => True) v5 x5_4) ∧ Aside0 (IsS156 w wc g417 t414 t423 t424) ∧ Aside0 (Below w.heap.size w wc))
 case first =>
  have H := HC5.out; clear HC5
  by_cases c9 : t428 = true
  ·subst c9
   have H1 : (spec_DrawCmdRead.j0 k t425 t414 t423 t424) = some (r1, r2) := by rw [if_pos rfl] at H; exact H
   clear H; have H := H1; clear H1
   have H' := aM H
   clear H
   go_wp2
   go_meet
   case rel => exact ⟨_, (t425), H', ⟨by first | omega | exact Nat.le_refl _⟩, ⟨by (with_reducible repeat (first | apply Kd.R_alloc | apply Kd.R_drewN | apply Kd.R_drew)); exact HO427.out⟩, ⟨by repeat (first | (with_reducible first | exact HI417.out | apply IsS156.alloc | apply IsS156.drewN | apply IsS156.drew | apply IsS156.set_1 | apply IsS156.set_2) | exact HI417.out)⟩, ⟨by repeat (first | (with_reducible first | exact HB.out | apply below_alloc | apply pw_below_drewN | apply below_drew1 | refine below_set ?_ (IsS156.ge HI417.out)) | exact HB.out)⟩⟩
  ·replace c9 := Bool.eq_false_iff.mpr c9
   subst c9
   have H1 : (spec_DrawCmdRead.j0 k (([1] : List Int)) t414 t423 t424) = some (r1, r2) := by rw [if_neg (show ¬ (false = true) by decide)] at H; exact H
   clear H; have H := H1; clear H1
   obtain ⟨y429, hy429⟩ : ∃ y_ : List Int, y_ = (([1] : List Int)) := ⟨_, rfl⟩
   replace H : (spec_DrawCmdRead.j0 k y429 t414 t423 t424) = some (r1, r2) := by first | (rw [hy429]; with_reducible exact H) | (have H2_ := (Option.bind_some _ _).symm.trans H; rw [hy429]; with_reducible exact H2_) | (have H2_ := (Option.bind_some _ _).symm.trans H; with_reducible exact H2_) | with_reducible exact H | (rw [hy429]; exact H) | exact H
   have Ny429 := aM hy429; clear hy429
   have H' := aM H
   clear H
   go_wp2_with (first | ((with_reducible refine gate_dst (N := 17) rfl ?_); refine Kd.R_lit (Kd.int .u8) _ 5 ?hg (N := 17) ?hd (xs := ([1] : List Int)) (inner := [.int .u8 1]) (ok := fun _ => True) (okp := fun _ => True) ?hr ?hp (fun _ hk => hk) trivial (Below.refl _ _) (Nat.le_refl _) (by simp) ?_; (case hd => rfl); (case hg => rfl); (case hr => first | (go_simp; done) | (go_simp; rfl)); (case hp => exact (Reps.one (show Kd.M (Kd.int .u8) _ _ _ 1 [.int .u8 1] from rfl) (Reps.none _ _))); intro v430 w10 ho11 hb hg_ hnew_; clear hg_ hnew_; (first | rw [← Ny429.out] at ho11 | (simp only [Int.reduceToNat] at ho11; rw [← Ny429.out] at ho11)); have HO431 := aM (Kd.R_lower (Kd.R_new' ho11 (Kd.R_lt (xr HO427))) (below_size (by repeat (first | (with_reducible first | exact HB.out | apply below_alloc | apply pw_below_drewN | apply below_drew1 | refine below_set ?_ (IsS156.ge HI417.out)) | exact HB.out)))); replace HO427 := aM (Kd.R_elder' (xr HO427) (Kd.R_base ho11) hb); replace HB := aM (below_step (by repeat (first | (with_reducible first | exact HB.out | apply below_alloc | apply pw_below_drewN | apply below_drew1 | refine below_set ?_ (IsS156.ge HI417.out)) | exact HB.out)) hb); replace HI417 := aM (IsS156.below (by repeat (first | (with_reducible first | exact HI417.out | apply IsS156.alloc | apply IsS156.drewN | apply IsS156.drew | apply IsS156.set_1 | apply IsS156.set_2) | exact HI417.out)) hb); clear hb ho11))
   go_meet
   case rel => exact ⟨_, (y429), H', ⟨by first | omega | exact Nat.le_refl _⟩, ⟨by (with_reducible repeat (first | apply Kd.R_alloc | apply Kd.R_drewN | apply Kd.R_drew)); exact Kd.R_mono HO431.out (fun _ hk => trivial)⟩, ⟨by repeat (first | (with_reducible first | exact HI417.out | apply IsS156.alloc | apply IsS156.drewN | apply IsS156.drew | apply IsS156.set_1 | apply IsS156.set_2) | exact HI417.out)⟩, ⟨by repeat (first | (with_reducible first | exact HB.out | apply below_alloc | apply pw_below_drewN | apply below_drew1 | refine below_set ?_ (IsS156.ge HI417.out)) | exact HB.out)⟩⟩
 case rest =>
  clear HC5
  try clear c2
  try clear p2
  try clear c7
  try clear c8
  try clear c9
  obtain ⟨kq, x5_4, HA, HJ4, HO_5, HI417, HB⟩ := hcut
  cases kq with
  | zero => exact absurd HA.out (by simp [spec_DrawCmdRead.j0])
  | succ kj4 =>
   have H := HA.out; clear HA
   simp only [spec_DrawCmdRead.j0] at H
   replace H := Option.bind_eq_some_iff.mp H
   obtain ⟨⟨t432, t433, t434⟩, A120, H⟩ := H
   replace H : (if t432 = true then ((spec_l1Below.f t414 t433 t434 (x5_4.length : Int)).bind fun bt435 => ((spec_l1PickInt.f t414 bt435.2.1 bt435.2.2 (([0, 1, 2, 5, 6, 127, 128, 255] : List Int))).bind fun bt441 => (if 0 ≤ bt435.1 then (if bt435.1 < (x5_4.length : Int) then (spec_DrawCmdRead.j1 kj4 (x5_4.set (bt435.1 : Int).toNat ((bt441.1) % 256)) t414 bt441.2.1 bt441.2.2) else (none)) else (none)))) else (spec_DrawCmdRead.j1 kj4 x5_4 t414 t433 t434)) = some (r1, r2) := H; have A12 := aM A120; clear A120; have HC13 := aM H; clear H
   go_upto_if 19 with (first | ((with_reducible refine gate_callee (f := 77) rfl ?_); refine goesL_ (some 19) rfl rfl Try.func77 (by kernel_rfl) rfl #[.pointer (some ⟨g417, 0, none⟩), .int .i64 3] rfl (by (try simp only [List.map_toArray, List.map_cons, List.map_nil]); first | done | rfl | (simp only [List.length_drop, List.length_take]; rfl)) ?_; (with_reducible refine (spec_l1Once.calls g417 t414 t423 t424 3 t432 t433 t434 w _ ?side1 ?side2 A12.out).mono ?_); (case side1 => repeat (first | (with_reducible first | exact HI417.out | apply IsS156.alloc | apply IsS156.drewN | apply IsS156.drew | apply IsS156.set_1 | apply IsS156.set_2) | exact HI417.out)); (case side2 => repeat (first | (with_reducible first | exact HB.out | apply below_alloc | apply pw_below_drewN | apply below_drew1 | refine below_set ?_ (IsS156.ge HI417.out)) | exact HB.out)); rintro e w14 ⟨rfl, hi, hb, hk⟩; refine ⟨_, rfl, ?_⟩; replace HO_5 := aM (Kd.R_mono (Kd.R_keep (IsS156.apart (show IsS156 w _ g417 t414 t423 t424 from by repeat (first | (with_reducible first | exact HI417.out | apply IsS156.alloc | apply IsS156.drewN | apply IsS156.drew | apply IsS156.set_1 | apply IsS156.set_2) | exact HI417.out)) (xr HO_5) (by decide)) hk (fun _ h => h.2)) (fun _ h => h.1)); replace HB := aM (hb); replace HI417 := aM (hi); (try clear hb); (try clear hb2); (try clear hk); (try clear hi)))
   (try simp only [Act.put, List.setIfInBounds_toArray, List.set_cons_zero, List.set_cons_succ])
   go_cut [] (fun wc => ∃ (kq : Nat) (x5_12 : List Int) (x418001_12 : Int) (x418002_12 : Int), Aside0 (spec_DrawCmdRead.j1 kq x5_12 t414 x418001_12 x418002_12 = some (r1, r2)) ∧ Aside0 (kq ≤ kj4) ∧ Aside0 (Kd.R (Kd.int .u8) 5 wc w.heap.size (fun _ => True) u5 x5_12) ∧ Aside0 (IsS156 w wc g417 t414 x418001_12 x418002_12) ∧ Aside0 (Below w.heap.size w wc))
   case first =>
    have H := HC13.out; clear HC13
    by_cases c15 : t432 = true
    ·subst c15
     have H1 : ((spec_l1Below.f t414 t433 t434 (x5_4.length : Int)).bind fun bt435 => ((spec_l1PickInt.f t414 bt435.2.1 bt435.2.2 (([0, 1, 2, 5, 6, 127, 128, 255] : List Int))).bind fun bt441 => (if 0 ≤ bt435.1 then (if bt435.1 < (x5_4.length : Int) then (spec_DrawCmdRead.j1 kj4 (x5_4.set (bt435.1 : Int).toNat ((bt441.1) % 256)) t414 bt441.2.1 bt441.2.2) else (none)) else (none)))) = some (r1, r2) := by rw [if_pos rfl] at H; exact H
     clear H; have H := H1; clear H1; replace H := Option.bind_eq_some_iff.mp H
     obtain ⟨⟨t435, t436, t437⟩, A160, H⟩ := H
     replace H : ((spec_l1PickInt.f t414 t436 t437 (([0, 1, 2, 5, 6, 127, 128, 255] : List Int))).bind fun bt441 => (if 0 ≤ t435 then (if t435 < (x5_4.length : Int) then (spec_DrawCmdRead.j1 kj4 (x5_4.set (t435 : Int).toNat ((bt441.1) % 256)) t414 bt441.2.1 bt441.2.2) else (none)) else (none))) = some (r1, r2) := H; have A16 := aM A160; clear A160
     obtain ⟨y438, hy438⟩ : ∃ y_ : List Int, y_ = (([0, 1, 2, 5, 6, 127, 128, 255] : List Int)) := ⟨_, rfl⟩
     replace H : ((spec_l1PickInt.f t414 t436 t437 y438).bind fun bt441 => (if 0 ≤ t435 then (if t435 < (x5_4.length : Int) then (spec_DrawCmdRead.j1 kj4 (x5_4.set (t435 : Int).toNat ((bt441.1) % 256)) t414 bt441.2.1 bt441.2.2) else (none)) else (none))) = some (r1, r2) := by first | (rw [hy438]; with_reducible exact H) | (have H2_ := (Option.bind_some _ _).symm.trans H; rw [hy438]; with_reducible exact H2_) | (have H2_ := (Option.bind_some _ _).symm.trans H; with_reducible exact H2_) | with_reducible exact H | (rw [hy438]; exact H) | exact H
     have Ny438 := aM hy438; clear hy438; replace H := Option.bind_eq_some_iff.mp H
     obtain ⟨⟨t441, t442, t443⟩, A170, H⟩ := H
     replace H : (if 0 ≤ t435 then (if t435 < (x5_4.length : Int) then (spec_DrawCmdRead.j1 kj4 (x5_4.set (t435 : Int).toNat ((t441) % 256)) t414 t442 t443) else (none)) else (none)) = some (r1, r2) := H; have A17 := aM A170; clear A170
     by_cases c18 : 0 ≤ t435
     ·rw [if_pos c18] at H
      have c18b0 : decide (0 ≤ t435) = true := decide_eq_true c18; clear c18
      (first | rw [c18b0] | (simp only [i64_w, i32_w]; rw [c18b0]) | skip)
      by_cases c19 : t435 < (x5_4.length : Int)
      ·rw [if_pos c19] at H
       have c19b0 : decide (t435 < (x5_4.length : Int)) = true := decide_eq_true c19; clear c19
       obtain ⟨y444, hy444⟩ : ∃ y_ : List Int, y_ = (x5_4.set (t435 : Int).toNat ((t441) % 256)) := ⟨_, rfl⟩
       replace H : (spec_DrawCmdRead.j1 kj4 y444 t414 t442 t443) = some (r1, r2) := by first | (rw [hy444]; with_reducible exact H) | (have H2_ := (Option.bind_some _ _).symm.trans H; rw [hy444]; with_reducible exact H2_) | (have H2_ := (Option.bind_some _ _).symm.trans H; with_reducible exact H2_) | with_reducible exact H | (rw [hy444]; exact H) | exact H
       have Ny444 := aM hy444; clear hy444
       have H' := aM H
       clear H
       obtain ⟨Ao21, co21, eo21⟩ := Kd.R_slice HO_5.out
       subst eo21
       go_wp2_with (first | ((with_reducible refine gate_callee (f := 78) rfl ?_); refine goesL_ (some 24) rfl rfl Try.func78 (by kernel_rfl) rfl #[.pointer (some ⟨g417, 0, none⟩), .int .i64 (x5_4.length : Int)] rfl (by (try simp only [List.map_toArray, List.map_cons, List.map_nil]); first | done | rfl | (simp only [List.length_drop, List.length_take]; rfl)) ?_; (with_reducible refine (spec_l1Below.calls g417 t414 t433 t434 (x5_4.length : Int) t435 t436 t437 w _ ?side1 ?side2 A16.out).mono ?_); (case side1 => repeat (first | (with_reducible first | exact HI417.out | apply IsS156.alloc | apply IsS156.drewN | apply IsS156.drew | apply IsS156.set_1 | apply IsS156.set_2) | exact HI417.out)); (case side2 => repeat (first | (with_reducible first | exact HB.out | apply below_alloc | apply pw_below_drewN | apply below_drew1 | refine below_set ?_ (IsS156.ge HI417.out)) | exact HB.out)); rintro e w22 ⟨rfl, hi, hb, hk⟩; refine ⟨_, rfl, ?_⟩; replace HO_5 := aM (Kd.R_mono (Kd.R_keep (IsS156.apart (show IsS156 w _ g417 t414 t433 t434 from by repeat (first | (with_reducible first | exact HI417.out | apply IsS156.alloc | apply IsS156.drewN | apply IsS156.drew | apply IsS156.set_1 | apply IsS156.set_2) | exact HI417.out)) (xr HO_5) (by decide)) hk (fun _ h => h.2)) (fun _ h => h.1)); replace HB := aM (hb); replace HI417 := aM (hi); (try clear hb); (try clear hb2); (try clear hk); (try clear hi)) | ((with_reducible refine gate_dst (N := 26) rfl ?_); refine Kd.R_lit (Kd.int .i64) _ 3 ?hg (N := 26) ?hd (xs := ([0, 1, 2, 5, 6, 127, 128, 255] : List Int)) (inner := [.int .i64 0, .int .i64 1, .int .i64 2, .int .i64 5, .int .i64 6, .int .i64 127, .int .i64 128, .int .i64 255]) (ok := fun _ => True) (okp := fun _ => True) ?hr ?hp (fun _ hk => hk) trivial (Below.refl _ _) (Nat.le_refl _) (by simp) ?_; (case hd => rfl); (case hg => rfl); (case hr => first | (go_simp; done) | (go_simp; rfl)); (case hp => exact (Reps.one (show Kd.M (Kd.int .i64) _ _ _ 0 [.int .i64 0] from rfl) (Reps.one (show Kd.M (Kd.int .i64) _ _ _ 1 [.int .i64 1] from rfl) (Reps.one (show Kd.M (Kd.int .i64) _ _ _ 2 [.int .i64 2] from rfl) (Reps.one (show Kd.M (Kd.int .i64) _ _ _ 5 [.int .i64 5] from rfl) (Reps.one (show Kd.M (Kd.int .i64) _ _ _ 6 [.int .i64 6] from rfl) (Reps.one (show Kd.M (Kd.int .i64) _ _ _ 127 [.int .i64 127] from rfl) (Reps.one (show Kd.M (Kd.int .i64) _ _ _ 128 [.int .i64 128] from rfl) (Reps.one (show Kd.M (Kd.int .i64) _ _ _ 255 [.int .i64 255] from rfl) (Reps.none _ _)))))))))); intro v439 w23 ho24 hb hg_ hnew_; clear hg_ hnew_; (first | rw [← Ny438.out] at ho24 | (simp only [Int.reduceToNat] at ho24; rw [← Ny438.out] at ho24)); replace HO_5 := aM (Kd.R_below (xr HO_5) hb); have HO440 := aM (Kd.R_lower ho24 (below_size (by repeat (first | (with_reducible first | exact HB.out | apply below_alloc | apply pw_below_drewN | apply below_drew1 | refine below_set ?_ (IsS156.ge HI417.out)) | exact HB.out)))); replace HB := aM (below_step (by repeat (first | (with_reducible first | exact HB.out | apply below_alloc | apply pw_below_drewN | apply below_drew1 | refine below_set ?_ (IsS156.ge HI417.out)) | exact HB.out)) hb); replace HI417 := aM (IsS156.below (by repeat (first | (with_reducible first | exact HI417.out | apply IsS156.alloc | apply IsS156.drewN | apply IsS156.drew | apply IsS156.set_1 | apply IsS156.set_2) | exact HI417.out)) hb); clear hb ho24; obtain ⟨Ao25, co25, eo25⟩ := Kd.R_slice HO440.out; subst eo25) | ((with_reducible refine gate_callee (f := 91) rfl ?_); refine goesL_ (some 27) rfl rfl Try.func91 (by kernel_rfl) rfl #[.pointer (some ⟨g417, 0, none⟩), .slice Ao25 y438.length co25] rfl (by (try simp only [List.map_toArray, List.map_cons, List.map_nil]); first | done | rfl | (simp only [List.length_drop, List.length_take]; rfl)) ?_; (with_reducible refine (spec_l1PickInt.calls g417 t414 t436 t437 _ _ y438 t441 t442 t443 w _ ?side1 ?side2 ?side3 ?side4 ?side5 A17.out).mono ?_); (case side1 => repeat (first | (with_reducible first | exact HI417.out | apply IsS156.alloc | apply IsS156.drewN | apply IsS156.drew | apply IsS156.set_1 | apply IsS156.set_2) | exact HI417.out)); (case side2 => repeat (first | (with_reducible first | exact HB.out | apply below_alloc | apply pw_below_drewN | apply below_drew1 | refine below_set ?_ (IsS156.ge HI417.out)) | exact HB.out)); (case side3 => repeat (first | exact (Kd.R_reads' HO440.out).2.2 | (with_reducible refine Kd.C_alloc ?_ _) | (with_reducible refine Kd.C_drewN ?_ _) | (with_reducible refine Kd.C_drew ?_))); (case side4 => exact (Kd.R_reads' HO440.out).2.1); (case side5 => exact far_slice (IsS156.own_ne HI417.out HO440.out (by decide))); rintro e w26 ⟨rfl, hi, hb, hk⟩; refine ⟨_, rfl, ?_⟩; replace HO_5 := aM (Kd.R_mono (Kd.R_keep (IsS156.apart (show IsS156 w _ g417 t414 t436 t437 from by repeat (first | (with_reducible first | exact HI417.out | apply IsS156.alloc | apply IsS156.drewN | apply IsS156.drew | apply IsS156.set_1 | apply IsS156.set_2) | exact HI417.out)) (xr HO_5) (by decide)) hk (fun _ h => h.2)) (fun _ h => h.1)); replace HO440 := aM (Kd.R_mono (Kd.R_keep (IsS156.apart (show IsS156 w _ g417 t414 t436 t437 from by repeat (first | (with_reducible first | exact HI417.out | apply IsS156.alloc | apply IsS156.drewN | apply IsS156.drew | apply IsS156.set_1 | apply IsS156.set_2) | exact HI417.out)) (xr HO440) (by decide)) hk (fun _ h => h.2)) (fun _ h => h.1)); replace HB := aM (hb); replace HI417 := aM (hi); (try clear hb); (try clear hb2); (try clear hk); (try clear hi); have p20 : 0 ≤ (t435 : Int) := of_decide_eq_true (by first | (with_reducible assumption) | assumption); have q20 : (t435 : Int) < ((x5_4.length : Int) : Int) := of_decide_eq_true (by first | (with_reducible assumption) | assumption); obtain ⟨go20, co20, eo20, gb20, gl20, cl20, HG20⟩ := Kd.R_form HO_5.out (by omega); (first | cases eo20 | (injection eo20 with ea_ en_ ec_; (first | subst ea_ | (injection ea_ with ea_; subst ea_)); subst ec_; clear en_)); have GB20 := aM gb20; have GG20 := aM HG20; clear gb20 gl20 HG20; obtain ⟨hx20_0, hf20_0⟩ := Kd.R_celln 0 HO_5.out (t435 : Int) p20 q20; replace p20 := eq_true p20; replace q20 := eq_true q20; obtain ⟨hy27_, hz27_⟩ := Kd.R_celln 0 HO_5.out (t435 : Int) (of_decide_eq_true (by first | (with_reducible assumption) | assumption)) (of_decide_eq_true (by first | (with_reducible assumption) | assumption)); have HP27 := Kd.R_putg HO_5.out (t435 : Int) ((t441) % 256)) | ((with_reducible refine gate_store (t := 5) (p := 29) rfl ?_); refine store_event (t := 5) (p := 29) (v := ?vo_w28) (w1 := (w26.setCell ⟨go20, (t435 : Int).toNat, none⟩ (.int .u8 ((t441) % 256)))) ?hg ?ho ?hn ?hr ?_; (case ho => rfl); (case hg => rfl); (case hn => rfl); (case hr => first | (go_simp; done) | (go_simp; rfl)); intro w28 hw; have hg : w26.grownBy w28 (some go20) := (by rw [hw]; exact HP27.2); have hp_ : Kd.R (Kd.int .u8) 5 w28 w.heap.size (fun _ => True) (.slice (some ⟨go20, 0, none⟩) x5_4.length co21) y444 := (by rw [hw, Ny444.out]; exact HP27.1); clear HP27; replace HI417 := aM (IsS156.grown (by repeat (first | (with_reducible first | exact HI417.out | apply IsS156.alloc | apply IsS156.drewN | apply IsS156.drew | apply IsS156.set_1 | apply IsS156.set_2) | exact HI417.out)) hg (IsS156.own_ne HI417.out HO_5.out (by decide))); replace HO440 := aM (Kd.R_over' (v := (.slice (some ⟨go20, 0, none⟩) x5_4.length co21)) (xr HO440) (Kd.R_typed HO_5.out) (by decide) hg); replace HO_5 := aM (hp_); replace HB := aM ((by rw [hw]; exact below_set (HB.out) GB20.out : Below w.heap.size w w28)); clear hg hw hp_))
       go_meet
       case rel => exact ⟨_, (y444), (t442), (t443), H', ⟨by have := HJ4.out; first | omega | exact Nat.le_refl _⟩, ⟨by (with_reducible repeat (first | apply Kd.R_alloc | apply Kd.R_drewN | apply Kd.R_drew)); exact HO_5.out⟩, ⟨by repeat (first | (with_reducible first | exact HI417.out | apply IsS156.alloc | apply IsS156.drewN | apply IsS156.drew | apply IsS156.set_1 | apply IsS156.set_2) | exact HI417.out)⟩, ⟨by repeat (first | (with_reducible first | exact HB.out | apply below_alloc | apply pw_below_drewN | apply below_drew1 | refine below_set ?_ (IsS156.ge HI417.out)) | exact HB.out)⟩⟩
      ·rw [if_neg c19] at H
       exact absurd H (by simp)
     ·rw [if_neg c18] at H
      exact absurd H (by simp)
    ·replace c15 := Bool.eq_false_iff.mpr c15
     subst c15
     have H1 : (spec_DrawCmdRead.j1 kj4 x5_4 t414 t433 t434) = some (r1, r2) := by rw [if_neg (show ¬ (false = true) by decide)] at H; exact H
     clear H; have H := H1; clear H1
     have H' := aM H
     clear H
     go_wp2
     go_meet
     case rel => exact ⟨_, (x5_4), (t433), (t434), H', ⟨by have := HJ4.out; first | omega | exact Nat.le_refl _⟩, ⟨by (with_reducible repeat (first | apply Kd.R_alloc | apply Kd.R_drewN | apply Kd.R_drew)); exact HO_5.out⟩, ⟨by repeat (first | (with_reducible first | exact HI417.out | apply IsS156.alloc | apply IsS156.drewN | apply IsS156.drew | apply IsS156.set_1 | apply IsS156.set_2) | exact HI417.out)⟩, ⟨by repeat (first | (with_reducible first | exact HB.out | apply below_alloc | apply pw_below_drewN | apply below_drew1 | refine below_set ?_ (IsS156.ge HI417.out)) | exact HB.out)⟩⟩
   case rest =>
    clear HC13
    try clear c1
    try clear c2
    try clear p2
    try clear q2
    try clear hx2
    try clear hf2
    try clear c7
    try clear c8
    try clear c9
    try clear c15
    try clear c18
    try clear c18b0
    try clear c19
    try clear c19b0
    try clear p20
    try clear q20
    try clear hx20
    try clear hf20
    try clear c26
    try clear hx20_0
    try clear p2
    try clear p20
    try clear q20
    obtain ⟨kq, x5_12, x418001_12, x418002_12, HA, HJ12, HO_5, HI417, HB⟩ := hcut
    cases kq with
    | zero => exact absurd HA.out (by simp [spec_DrawCmdRead.j1])
    | succ kj12 =>
     have H := HA.out; clear HA
     simp only [spec_DrawCmdRead.j1] at H
     replace H := Option.bind_eq_some_iff.mp H
     obtain ⟨⟨t445, t446, t447⟩, A290, H⟩ := H
     replace H : (if t445 = true then ((spec_l1Below.f t414 t446 t447 (wrap64 ((x5_12.length : Int) + 1))).bind fun bt448 => (if 0 ≤ bt448.1 then (if bt448.1 ≤ (x5_12.length : Int) then ((some (x5_12.take (bt448.1 : Int).toNat : List Int)).bind fun y451 => ((some (([9] : List Int) : List Int)).bind fun y454 => (if y454.length + y451.length < 140737488355328 then ((spec_l1PickInt.f t414 bt448.2.1 bt448.2.2 (([1, 1, 1, 1, 0, 2, (-1)] : List Int))).bind fun bt463 => (some ((y454 ++ y451), bt463.1))) else (none)))) else (none)) else (none))) else ((some (([9] : List Int) : List Int)).bind fun y466 => (if y466.length + x5_12.length < 140737488355328 then ((spec_l1PickInt.f t414 t446 t447 (([1, 1, 1, 1, 0, 2, (-1)] : List Int))).bind fun bt475 => (some ((y466 ++ x5_12), bt475.1))) else (none)))) = some (r1, r2) := H; have A29 := aM A290; clear A290
     by_cases c30 : t445 = true
     ·subst c30
      have H1 : ((spec_l1Below.f t414 t446 t447 (wrap64 ((x5_12.length : Int) + 1))).bind fun bt448 => (if 0 ≤ bt448.1 then (if bt448.1 ≤ (x5_12.length : Int) then ((some (x5_12.take (bt448.1 : Int).toNat : List Int)).bind fun y451 => ((some (([9] : List Int) : List Int)).bind fun y454 => (if y454.length + y451.length < 140737488355328 then ((spec_l1PickInt.f t414 bt448.2.1 bt448.2.2 (([1, 1, 1, 1, 0, 2, (-1)] : List Int))).bind fun bt463 => (some ((y454 ++ y451), bt463.1))) else (none)))) else (none)) else (none))) = some (r1, r2) := by rw [if_pos rfl] at H; exact H
      clear H; have H := H1; clear H1; replace H := Option.bind_eq_some_iff.mp H
      obtain ⟨⟨t448, t449, t450⟩, A310, H⟩ := H
      replace H : (if 0 ≤ t448 then (if t448 ≤ (x5_12.length : Int) then ((some (x5_12.take (t448 : Int).toNat : List Int)).bind fun y451 => ((some (([9] : List Int) : List Int)).bind fun y454 => (if y454.length + y451.length < 140737488355328 then ((spec_l1PickInt.f t414 t449 t450 (([1, 1, 1, 1, 0, 2, (-1)] : List Int))).bind fun bt463 => (some ((y454 ++ y451), bt463.1))) else (none)))) else (none)) else (none)) = some (r1, r2) := H; have A31 := aM A310; clear A310
      by_cases c32 : 0 ≤ t448
      ·rw [if_pos c32] at H
       have c32b0 := eq_true c32; have c32b1 : decide (0 ≤ t448) = true := decide_eq_true c32; clear c32
       by_cases c33 : t448 ≤ (x5_12.length : Int)
       ·rw [if_pos c33] at H
        have c33b0 := eq_true c33; have c33b1 : decide (t448 ≤ (x5_12.length : Int)) = true := decide_eq_true c33; clear c33
        obtain ⟨y451, hy451⟩ : ∃ y_ : List Int, y_ = (x5_12.take (t448 : Int).toNat) := ⟨_, rfl⟩
        replace H : ((some (([9] : List Int) : List Int)).bind fun y454 => (if y454.length + y451.length < 140737488355328 then ((spec_l1PickInt.f t414 t449 t450 (([1, 1, 1, 1, 0, 2, (-1)] : List Int))).bind fun bt463 => (some ((y454 ++ y451), bt463.1))) else (none))) = some (r1, r2) := by first | (rw [hy451]; with_reducible exact H) | (have H2_ := (Option.bind_some _ _).symm.trans H; rw [hy451]; with_reducible exact H2_) | (have H2_ := (Option.bind_some _ _).symm.trans H; with_reducible exact H2_) | with_reducible exact H | (rw [hy451]; exact H) | exact H
        have Ny451 := aM hy451; clear hy451
        obtain ⟨y454, hy454⟩ : ∃ y_ : List Int, y_ = (([9] : List Int)) := ⟨_, rfl⟩
        replace H : (if y454.length + y451.length < 140737488355328 then ((spec_l1PickInt.f t414 t449 t450 (([1, 1, 1, 1, 0, 2, (-1)] : List Int))).bind fun bt463 => (some ((y454 ++ y451), bt463.1))) else (none)) = some (r1, r2) := by first | (rw [hy454]; with_reducible exact H) | (have H2_ := (Option.bind_some _ _).symm.trans H; rw [hy454]; with_reducible exact H2_) | (have H2_ := (Option.bind_some _ _).symm.trans H; with_reducible exact H2_) | with_reducible exact H | (rw [hy454]; exact H) | exact H
        have Ny454 := aM hy454; clear hy454
        by_cases c34 : y454.length + y451.length < 140737488355328
        ·rw [if_pos c34] at H
         have LMc34 := aM c34; clear c34
         obtain ⟨y457, hy457⟩ : ∃ y_ : List Int, y_ = (y454 ++ y451) := ⟨_, rfl⟩
         replace H : ((spec_l1PickInt.f t414 t449 t450 (([1, 1, 1, 1, 0, 2, (-1)] : List Int))).bind fun bt463 => (some (y457, bt463.1))) = some (r1, r2) := by first | (rw [hy457]; with_reducible exact H) | (have H2_ := (Option.bind_some _ _).symm.trans H; rw [hy457]; with_reducible exact H2_) | (have H2_ := (Option.bind_some _ _).symm.trans H; with_reducible exact H2_) | with_reducible exact H | (rw [hy457]; exact H) | exact H
         have Ny457 := aM hy457; clear hy457
         obtain ⟨y460, hy460⟩ : ∃ y_ : List Int, y_ = (([1, 1, 1, 1, 0, 2, (-1)] : List Int)) := ⟨_, rfl⟩
         replace H : ((spec_l1PickInt.f t414 t449 t450 y460).bind fun bt463 => (some (y457, bt463.1))) = some (r1, r2) := by first | (rw [hy460]; with_reducible exact H) | (have H2_ := (Option.bind_some _ _).symm.trans H; rw [hy460]; with_reducible exact H2_) | (have H2_ := (Option.bind_some _ _).symm.trans H; with_reducible exact H2_) | with_reducible exact H | (rw [hy460]; exact H) | exact H
         have Ny460 := aM hy460; clear hy460; replace H := Option.bind_eq_some_iff.mp H
         obtain ⟨⟨t463, t464, t465⟩, A350, H⟩ := H
         replace H : (some (y457, t463)) = some (r1, r2) := H; have A35 := aM A350; clear A350
         simp only [Option.some.injEq, Prod.mk.injEq] at H
         obtain ⟨rfl, rfl⟩ := H
         go_wp2_with (first | ((with_reducible refine gate_callee (f := 77) rfl ?_); refine goesL_ (some 31) rfl rfl Try.func77 (by kernel_rfl) rfl #[.pointer (some ⟨g417, 0, none⟩), .int .i64 6] rfl (by (try simp only [List.map_toArray, List.map_cons, List.map_nil]); first | done | rfl | (simp only [List.length_drop, List.length_take]; rfl)) ?_; (with_reducible refine (spec_l1Once.calls g417 t414 x418001_12 x418002_12 6 true t446 t447 w _ ?side1 ?side2 A29.out).mono ?_); (case side1 => repeat (first | (with_reducible first | exact HI417.out | apply IsS156.alloc | apply IsS156.drewN | apply IsS156.drew | apply IsS156.set_1 | apply IsS156.set_2) | exact HI417.out)); (case side2 => repeat (first | (with_reducible first | exact HB.out | apply below_alloc | apply pw_below_drewN | apply below_drew1 | refine below_set ?_ (IsS156.ge HI417.out)) | exact HB.out)); rintro e w36 ⟨rfl, hi, hb, hk⟩; refine ⟨_, rfl, ?_⟩; replace HO_5 := aM (Kd.R_mono (Kd.R_keep (IsS156.apart (show IsS156 w _ g417 t414 x418001_12 x418002_12 from by repeat (first | (with_reducible first | exact HI417.out | apply IsS156.alloc | apply IsS156.drewN | apply IsS156.drew | apply IsS156.set_1 | apply IsS156.set_2) | exact HI417.out)) (xr HO_5) (by decide)) hk (fun _ h => h.2)) (fun _ h => h.1)); replace HB := aM (hb); replace HI417 := aM (hi); (try clear hb); (try clear hb2); (try clear hk); (try clear hi); obtain ⟨Ao37, co37, eo37⟩ := Kd.R_slice HO_5.out; subst eo37) | ((with_reducible refine gate_callee (f := 78) rfl ?_); refine goesL_ (some 37) rfl rfl Try.func78 (by kernel_rfl) rfl #[.pointer (some ⟨g417, 0, none⟩), .int .i64 (wrap64 ((x5_12.length : Int) + 1))] rfl (by (try simp only [List.map_toArray, List.map_cons, List.map_nil]); first | done | rfl | (simp only [List.length_drop, List.length_take]; rfl)) ?_; (with_reducible refine (spec_l1Below.calls g417 t414 t446 t447 (wrap64 ((x5_12.length : Int) + 1)) t448 t449 t450 w _ ?side1 ?side2 A31.out).mono ?_); (case side1 => repeat (first | (with_reducible first | exact HI417.out | apply IsS156.alloc | apply IsS156.drewN | apply IsS156.drew | apply IsS156.set_1 | apply IsS156.set_2) | exact HI417.out)); (case side2 => repeat (first | (with_reducible first | exact HB.out | apply below_alloc | apply pw_below_drewN | apply below_drew1 | refine below_set ?_ (IsS156.ge HI417.out)) | exact HB.out)); rintro e w38 ⟨rfl, hi, hb, hk⟩; refine ⟨_, rfl, ?_⟩; replace HO_5 := aM (Kd.R_mono (Kd.R_keep (IsS156.apart (show IsS156 w _ g417 t414 t446 t447 from by repeat (first | (with_reducible first | exact HI417.out | apply IsS156.alloc | apply IsS156.drewN | apply IsS156.drew | apply IsS156.set_1 | apply IsS156.set_2) | exact HI417.out)) (xr HO_5) (by decide)) hk (fun _ h => h.2)) (fun _ h => h.1)); replace HB := aM (hb); replace HI417 := aM (hi); (try clear hb); (try clear hb2); (try clear hk); (try clear hi); have q39 : (t448 : Int) ≤ ((x5_12.length : Int) : Int) := of_decide_eq_true (by first | (with_reducible assumption) | assumption); obtain ⟨i039, hi039, _, hsz39, _⟩ := info_parts info5; have hcut39 := cut_to (P := Try.prog) 22 5 .i64 Try.underlying22 hi039 Ao37 x5_12.length co37 t448 (of_decide_eq_true (by first | (with_reducible assumption) | assumption)) q39 (Kd.R_reads' HO_5.out).2.1; have hr39 := Kd.R_take (m := (t448 : Int).toNat) HO_5.out (by omega); have hy39 : y451.length = (t448 : Int).toNat := (by rw [Ny451.out, List.length_take]; omega); rw [← Ny451.out] at hr39; rw [← hy39] at hr39 hcut39; clear hy39 hi039 hsz39 HO_5; have HO453 := aM hr39; clear hr39; replace q39 := eq_true q39) | ((with_reducible refine gate_dst (N := 39) rfl ?_); refine Kd.R_lit (Kd.int .u8) _ 5 ?hg (N := 39) ?hd (xs := ([9] : List Int)) (inner := [.int .u8 9]) (ok := fun _ => True) (okp := fun _ => True) ?hr ?hp (fun _ hk => hk) trivial (Below.refl _ _) (Nat.le_refl _) (by simp) ?_; (case hd => rfl); (case hg => rfl); (case hr => first | (go_simp; done) | (go_simp; rfl)); (case hp => exact (Reps.one (show Kd.M (Kd.int .u8) _ _ _ 9 [.int .u8 9] from rfl) (Reps.none _ _))); intro v455 w40 ho41 hb hg_ hnew_; clear hg_ hnew_; (first | rw [← Ny454.out] at ho41 | (simp only [Int.reduceToNat] at ho41; rw [← Ny454.out] at ho41)); have HO456 := aM (Kd.R_lower (Kd.R_new' ho41 (Kd.R_lt (xr HO453))) (below_size (by repeat (first | (with_reducible first | exact HB.out | apply below_alloc | apply pw_below_drewN | apply below_drew1 | refine below_set ?_ (IsS156.ge HI417.out)) | exact HB.out)))); replace HO453 := aM (Kd.R_elder' (xr HO453) (Kd.R_base ho41) hb); replace HB := aM (below_step (by repeat (first | (with_reducible first | exact HB.out | apply below_alloc | apply pw_below_drewN | apply below_drew1 | refine below_set ?_ (IsS156.ge HI417.out)) | exact HB.out)) hb); replace HI417 := aM (IsS156.below (by repeat (first | (with_reducible first | exact HI417.out | apply IsS156.alloc | apply IsS156.drewN | apply IsS156.drew | apply IsS156.set_1 | apply IsS156.set_2) | exact HI417.out)) hb); clear hb ho41) | ((with_reducible refine gate_builtin (b := .append) (xs := #[.tmp 39, .tmp 40]) rfl ?_); at_builtin; refine Kd.R_append_rows (Kd.int .u8) (w0 := w) w.heap.size rfl (.tmp 39) (.tmp 40) 22 5 (.int .u8 0) 1 rfl Try.underlying22 info5 rfl (by decide) (by omega) v455 y454 y451 _ _ _ (fun k_ => some k_ ≠ (.slice Ao37 y451.length co37 : Value).ownBlock) (fun _ => False) rfl rfl ?aO ?aR (fun _ _ h => h) (fun _ h => h.elim) ?aF ?aB ?aS ?aL ?_; (case aR => repeat (first | exact (Kd.R_reads' HO453.out).2.2 | (with_reducible refine Kd.C_alloc ?_ _) | (with_reducible refine Kd.C_drewN ?_ _) | (with_reducible refine Kd.C_drew ?_))); (case aB => exact (by repeat (first | (with_reducible first | exact HB.out | apply below_alloc | apply pw_below_drewN | apply below_drew1 | refine below_set ?_ (IsS156.ge HI417.out)) | exact HB.out))); (case aF => exact (fun k_ hk => Kd.fresh' (Kd.R_lt (xr HO453)) k_ hk)); (case aO => exact (by (with_reducible repeat (first | apply Kd.R_alloc | apply Kd.R_drewN | apply Kd.R_drew)); exact Kd.R_mono HO456.out (fun _ hk => hk.2))); (case aS => exact (below_size (by repeat (first | (with_reducible first | exact HB.out | apply below_alloc | apply pw_below_drewN | apply below_drew1 | refine below_set ?_ (IsS156.ge HI417.out)) | exact HB.out)))); (case aL => have := LMc34.out; omega); intro v458 w42 ho hb hg hat; rw [← Ny457.out] at ho; replace HO453 := aM (Kd.R_after (ok := (fun _ => True)) (xr HO453) hg hat); replace HI417 := aM (IsS156.grown (by repeat (first | (with_reducible first | exact HI417.out | apply IsS156.alloc | apply IsS156.drewN | apply IsS156.drew | apply IsS156.set_1 | apply IsS156.set_2) | exact HI417.out)) hg (IsS156.own_ne HI417.out HO456.out (by decide))); replace HB := aM (hb); have HO459 := aM (ho); clear HO456; clear ho hb hg hat) | ((with_reducible refine gate_dst (N := 43) rfl ?_); refine Kd.R_lit (Kd.int .i64) _ 3 ?hg (N := 43) ?hd (xs := ([1, 1, 1, 1, 0, 2, (-1)] : List Int)) (inner := [.int .i64 1, .int .i64 1, .int .i64 1, .int .i64 1, .int .i64 0, .int .i64 2, .int .i64 (-1)]) (ok := fun _ => True) (okp := fun _ => True) ?hr ?hp (fun _ hk => hk) trivial (Below.refl _ _) (Nat.le_refl _) (by simp) ?_; (case hd => rfl); (case hg => rfl); (case hr => first | (go_simp; done) | (go_simp; rfl)); (case hp => exact (Reps.one (show Kd.M (Kd.int .i64) _ _ _ 1 [.int .i64 1] from rfl) (Reps.one (show Kd.M (Kd.int .i64) _ _ _ 1 [.int .i64 1] from rfl) (Reps.one (show Kd.M (Kd.int .i64) _ _ _ 1 [.int .i64 1] from rfl) (Reps.one (show Kd.M (Kd.int .i64) _ _ _ 1 [.int .i64 1] from rfl) (Reps.one (show Kd.M (Kd.int .i64) _ _ _ 0 [.int .i64 0] from rfl) (Reps.one (show Kd.M (Kd.int .i64) _ _ _ 2 [.int .i64 2] from rfl) (Reps.one (show Kd.M (Kd.int .i64) _ _ _ (-1) [.int .i64 (-1)] from rfl) (Reps.none _ _))))))))); intro v461 w43 ho44 hb hg_ hnew_; clear hg_ hnew_; (first | rw [← Ny460.out] at ho44 | (simp only [Int.reduceToNat] at ho44; rw [← Ny460.out] at ho44)); replace HO453 := aM (Kd.R_below (xr HO453) hb); replace HO459 := aM (Kd.R_below (xr HO459) hb); have HO462 := aM (Kd.R_lower ho44 (below_size (by repeat (first | (with_reducible first | exact HB.out | apply below_alloc | apply pw_below_drewN | apply below_drew1 | refine below_set ?_ (IsS156.ge HI417.out)) | exact HB.out)))); replace HB := aM (below_step (by repeat (first | (with_reducible first | exact HB.out | apply below_alloc | apply pw_below_drewN | apply below_drew1 | refine below_set ?_ (IsS156.ge HI417.out)) | exact HB.out)) hb); replace HI417 := aM (IsS156.below (by repeat (first | (with_reducible first | exact HI417.out | apply IsS156.alloc | apply IsS156.drewN | apply IsS156.drew | apply IsS156.set_1 | apply IsS156.set_2) | exact HI417.out)) hb); clear hb ho44; obtain ⟨Ao45, co45, eo45⟩ := Kd.R_slice HO462.out; subst eo45) | ((with_reducible refine gate_callee (f := 91) rfl ?_); refine goesL_ (some 44) rfl rfl Try.func91 (by kernel_rfl) rfl #[.pointer (some ⟨g417, 0, none⟩), .slice Ao45 y460.length co45] rfl (by (try simp only [List.map_toArray, List.map_cons, List.map_nil]); first | done | rfl | (simp only [List.length_drop, List.length_take]; rfl)) ?_; (with_reducible refine (spec_l1PickInt.calls g417 t414 t449 t450 _ _ y460 t463 t464 t465 w _ ?side1 ?side2 ?side3 ?side4 ?side5 A35.out).mono ?_); (case side1 => repeat (first | (with_reducible first | exact HI417.out | apply IsS156.alloc | apply IsS156.drewN | apply IsS156.drew | apply IsS156.set_1 | apply IsS156.set_2) | exact HI417.out)); (case side2 => repeat (first | (with_reducible first | exact HB.out | apply below_alloc | apply pw_below_drewN | apply below_drew1 | refine below_set ?_ (IsS156.ge HI417.out)) | exact HB.out)); (case side3 => repeat (first | exact (Kd.R_reads' HO462.out).2.2 | (with_reducible refine Kd.C_alloc ?_ _) | (with_reducible refine Kd.C_drewN ?_ _) | (with_reducible refine Kd.C_drew ?_))); (case side4 => exact (Kd.R_reads' HO462.out).2.1); (case side5 => exact far_slice (IsS156.own_ne HI417.out HO462.out (by decide))); rintro e w46 ⟨rfl, hi, hb, hk⟩; refine ⟨_, rfl, ?_⟩; replace HO453 := aM (Kd.R_mono (Kd.R_keep (IsS156.apart (show IsS156 w _ g417 t414 t449 t450 from by repeat (first | (with_reducible first | exact HI417.out | apply IsS156.alloc | apply IsS156.drewN | apply IsS156.drew | apply IsS156.set_1 | apply IsS156.set_2) | exact HI417.out)) (xr HO453) (by decide)) hk (fun _ h => h.2)) (fun _ h => h.1)); replace HO459 := aM (Kd.R_mono (Kd.R_keep (IsS156.apart (show IsS156 w _ g417 t414 t449 t450 from by repeat (first | (with_reducible first | exact HI417.out | apply IsS156.alloc | apply IsS156.drewN | apply IsS156.drew | apply IsS156.set_1 | apply IsS156.set_2) | exact HI417.out)) (xr HO459) (by decide)) hk (fun _ h => h.2)) (fun _ h => h.1)); replace HO462 := aM (Kd.R_mono (Kd.R_keep (IsS156.apart (show IsS156 w _ g417 t414 t449 t450 from by repeat (first | (with_reducible first | exact HI417.out | apply IsS156.alloc | apply IsS156.drewN | apply IsS156.drew | apply IsS156.set_1 | apply IsS156.set_2) | exact HI417.out)) (xr HO462) (by decide)) hk (fun _ h => h.2)) (fun _ h => h.1)); replace HB := aM (hb); replace HI417 := aM (hi); (try clear hb); (try clear hb2); (try clear hk); (try clear hi)))
         go_ret2
         exact ⟨_, by first | rfl | (simp [errW_none, errW_some] <;> rfl) | (simp [*, errW_none, errW_some] <;> rfl), by (with_reducible repeat (first | apply Kd.R_alloc | apply Kd.R_drewN | apply Kd.R_drew)); exact Kd.R_mono HO459.out (fun _ hk => trivial), by repeat (first | (with_reducible first | exact HB.out | apply below_alloc | apply pw_below_drewN | apply below_drew1 | refine below_set ?_ (IsS156.ge HI417.out)) | exact HB.out)⟩
        ·rw [if_neg c34] at H
         exact absurd H (by simp)
       ·rw [if_neg c33] at H
        exact absurd H (by simp)
      ·rw [if_neg c32] at H
       exact absurd H (by simp)
     ·replace c30 := Bool.eq_false_iff.mpr c30
      subst c30
      have H1 : ((some (([9] : List Int) : List Int)).bind fun y466 => (if y466.length + x5_12.length < 140737488355328 then ((spec_l1PickInt.f t414 t446 t447 (([1, 1, 1, 1, 0, 2, (-1)] : List Int))).bind fun bt475 => (some ((y466 ++ x5_12), bt475.1))) else (none))) = some (r1, r2) := by rw [if_neg (show ¬ (false = true) by decide)] at H; exact H
      clear H; have H := H1; clear H1
      obtain ⟨y466, hy466⟩ : ∃ y_ : List Int, y_ = (([9] : List Int)) := ⟨_, rfl⟩
      replace H : (if y466.length + x5_12.length < 140737488355328 then ((spec_l1PickInt.f t414 t446 t447 (([1, 1, 1, 1, 0, 2, (-1)] : List Int))).bind fun bt475 => (some ((y466 ++ x5_12), bt475.1))) else (none)) = some (r1, r2) := by first | (rw [hy466]; with_reducible exact H) | (have H2_ := (Option.bind_some _ _).symm.trans H; rw [hy466]; with_reducible exact H2_) | (have H2_ := (Option.bind_some _ _).symm.trans H; with_reducible exact H2_) | with_reducible exact H | (rw [hy466]; exact H) | exact H
      have Ny466 := aM hy466; clear hy466
      by_cases c47 : y466.length + x5_12.length < 140737488355328
      ·rw [if_pos c47] at H
       have LMc47 := aM c47; clear c47
       obtain ⟨y469, hy469⟩ : ∃ y_ : List Int, y_ = (y466 ++ x5_12) := ⟨_, rfl⟩
       replace H : ((spec_l1PickInt.f t414 t446 t447 (([1, 1, 1, 1, 0, 2, (-1)] : List Int))).bind fun bt475 => (some (y469, bt475.1))) = some (r1, r2) := by first | (rw [hy469]; with_reducible exact H) | (have H2_ := (Option.bind_some _ _).symm.trans H; rw [hy469]; with_reducible exact H2_) | (have H2_ := (Option.bind_some _ _).symm.trans H; with_reducible exact H2_) | with_reducible exact H | (rw [hy469]; exact H) | exact H
       have Ny469 := aM hy469; clear hy469
       obtain ⟨y472, hy472⟩ : ∃ y_ : List Int, y_ = (([1, 1, 1, 1, 0, 2, (-1)] : List Int)) := ⟨_, rfl⟩
       replace H : ((spec_l1PickInt.f t414 t446 t447 y472).bind fun bt475 => (some (y469, bt475.1))) = some (r1, r2) := by first | (rw [hy472]; with_reducible exact H) | (have H2_ := (Option.bind_some _ _).symm.trans H; rw [hy472]; with_reducible exact H2_) | (have H2_ := (Option.bind_some _ _).symm.trans H; with_reducible exact H2_) | with_reducible exact H | (rw [hy472]; exact H) | exact H
       have Ny472 := aM hy472; clear hy472; replace H := Option.bind_eq_some_iff.mp H
       obtain ⟨⟨t475, t476, t477⟩, A480, H⟩ := H
       replace H : (some (y469, t475)) = some (r1, r2) := H; have A48 := aM A480; clear A480
       simp only [Option.some.injEq, Prod.mk.injEq] at H
       obtain ⟨rfl, rfl⟩ := H
       go_wp2_with (first | ((with_reducible refine gate_callee (f := 77) rfl ?_); refine goesL_ (some 31) rfl rfl Try.func77 (by kernel_rfl) rfl #[.pointer (some ⟨g417, 0, none⟩), .int .i64 6] rfl (by (try simp only [List.map_toArray, List.map_cons, List.map_nil]); first | done | rfl | (simp only [List.length_drop, List.length_take]; rfl)) ?_; (with_reducible refine (spec_l1Once.calls g417 t414 x418001_12 x418002_12 6 false t446 t447 w _ ?side1 ?side2 A29.out).mono ?_); (case side1 => repeat (first | (with_reducible first | exact HI417.out | apply IsS156.alloc | apply IsS156.drewN | apply IsS156.drew | apply IsS156.set_1 | apply IsS156.set_2) | exact HI417.out)); (case side2 => repeat (first | (with_reducible first | exact HB.out | apply below_alloc | apply pw_below_drewN | apply below_drew1 | refine below_set ?_ (IsS156.ge HI417.out)) | exact HB.out)); rintro e w49 ⟨rfl, hi, hb, hk⟩; refine ⟨_, rfl, ?_⟩; replace HO_5 := aM (Kd.R_mono (Kd.R_keep (IsS156.apart (show IsS156 w _ g417 t414 x418001_12 x418002_12 from by repeat (first | (with_reducible first | exact HI417.out | apply IsS156.alloc | apply IsS156.drewN | apply IsS156.drew | apply IsS156.set_1 | apply IsS156.set_2) | exact HI417.out)) (xr HO_5) (by decide)) hk (fun _ h => h.2)) (fun _ h => h.1)); replace HB := aM (hb); replace HI417 := aM (hi); (try clear hb); (try clear hb2); (try clear hk); (try clear hi)) | ((with_reducible refine gate_dst (N := 39) rfl ?_); refine Kd.R_lit (Kd.int .u8) _ 5 ?hg (N := 39) ?hd (xs := ([9] : List Int)) (inner := [.int .u8 9]) (ok := fun _ => True) (okp := fun _ => True) ?hr ?hp (fun _ hk => hk) trivial (Below.refl _ _) (Nat.le_refl _) (by simp) ?_; (case hd => rfl); (case hg => rfl); (case hr => first | (go_simp; done) | (go_simp; rfl)); (case hp => exact (Reps.one (show Kd.M (Kd.int .u8) _ _ _ 9 [.int .u8 9] from rfl) (Reps.none _ _))); intro v467 w50 ho51 hb hg_ hnew_; clear hg_ hnew_; (first | rw [← Ny466.out] at ho51 | (simp only [Int.reduceToNat] at ho51; rw [← Ny466.out] at ho51)); have HO468 := aM (Kd.R_lower (Kd.R_new' ho51 (Kd.R_lt (xr HO_5))) (below_size (by repeat (first | (with_reducible first | exact HB.out | apply below_alloc | apply pw_below_drewN | apply below_drew1 | refine below_set ?_ (IsS156.ge HI417.out)) | exact HB.out)))); replace HO_5 := aM (Kd.R_elder' (xr HO_5) (Kd.R_base ho51) hb); replace HB := aM (below_step (by repeat (first | (with_reducible first | exact HB.out | apply below_alloc | apply pw_below_drewN | apply below_drew1 | refine below_set ?_ (IsS156.ge HI417.out)) | exact HB.out)) hb); replace HI417 := aM (IsS156.below (by repeat (first | (with_reducible first | exact HI417.out | apply IsS156.alloc | apply IsS156.drewN | apply IsS156.drew | apply IsS156.set_1 | apply IsS156.set_2) | exact HI417.out)) hb); clear hb ho51; obtain ⟨Ao53, co53, eo53⟩ := Kd.R_slice HO_5.out; subst eo53) | ((with_reducible refine gate_builtin (b := .append) (xs := #[.tmp 39, .tmp 40]) rfl ?_); at_builtin; refine Kd.R_append_rows (Kd.int .u8) (w0 := w) w.heap.size rfl (.tmp 39) (.tmp 40) 22 5 (.int .u8 0) 1 rfl Try.underlying22 info5 rfl (by decide) (by omega) v467 y466 x5_12 _ _ _ (fun k_ => some k_ ≠ (.slice Ao53 x5_12.length co53 : Value).ownBlock) (fun _ => False) rfl rfl ?aO ?aR (fun _ _ h => h) (fun _ h => h.elim) ?aF ?aB ?aS ?aL ?_; (case aR => repeat (first | exact (Kd.R_reads' HO_5.out).2.2 | (with_reducible refine Kd.C_alloc ?_ _) | (with_reducible refine Kd.C_drewN ?_ _) | (with_reducible refine Kd.C_drew ?_))); (case aB => exact (by repeat (first | (with_reducible first | exact HB.out | apply below_alloc | apply pw_below_drewN | apply below_drew1 | refine below_set ?_ (IsS156.ge HI417.out)) | exact HB.out))); (case aF => exact (fun k_ hk => Kd.fresh' (Kd.R_lt (xr HO_5)) k_ hk)); (case aO => exact (by (with_reducible repeat (first | apply Kd.R_alloc | apply Kd.R_drewN | apply Kd.R_drew)); exact Kd.R_mono HO468.out (fun _ hk => hk.2))); (case aS => exact (below_size (by repeat (first | (with_reducible first | exact HB.out | apply below_alloc | apply pw_below_drewN | apply below_drew1 | refine below_set ?_ (IsS156.ge HI417.out)) | exact HB.out)))); (case aL => have := LMc47.out; omega); intro v470 w52 ho hb hg hat; rw [← Ny469.out] at ho; replace HO_5 := aM (Kd.R_after (ok := (fun _ => True)) (xr HO_5) hg hat); replace HI417 := aM (IsS156.grown (by repeat (first | (with_reducible first | exact HI417.out | apply IsS156.alloc | apply IsS156.drewN | apply IsS156.drew | apply IsS156.set_1 | apply IsS156.set_2) | exact HI417.out)) hg (IsS156.own_ne HI417.out HO468.out (by decide))); replace HB := aM (hb); have HO471 := aM (ho); clear HO468; clear ho hb hg hat) | ((with_reducible refine gate_dst (N := 43) rfl ?_); refine Kd.R_lit (Kd.int .i64) _ 3 ?hg (N := 43) ?hd (xs := ([1, 1, 1, 1, 0, 2, (-1)] : List Int)) (inner := [.int .i64 1, .int .i64 1, .int .i64 1, .int .i64 1, .int .i64 0, .int .i64 2, .int .i64 (-1)]) (ok := fun _ => True) (okp := fun _ => True) ?hr ?hp (fun _ hk => hk) trivial (Below.refl _ _) (Nat.le_refl _) (by simp) ?_; (case hd => rfl); (case hg => rfl); (case hr => first | (go_simp; done) | (go_simp; rfl)); (case hp => exact (Reps.one (show Kd.M (Kd.int .i64) _ _ _ 1 [.int .i64 1] from rfl) (Reps.one (show Kd.M (Kd.int .i64) _ _ _ 1 [.int .i64 1] from rfl) (Reps.one (show Kd.M (Kd.int .i64) _ _ _ 1 [.int .i64 1] from rfl) (Reps.one (show Kd.M (Kd.int .i64) _ _ _ 1 [.int .i64 1] from rfl) (Reps.one (show Kd.M (Kd.int .i64) _ _ _ 0 [.int .i64 0] from rfl) (Reps.one (show Kd.M (Kd.int .i64) _ _ _ 2 [.int .i64 2] from rfl) (Reps.one (show Kd.M (Kd.int .i64) _ _ _ (-1) [.int .i64 (-1)] from rfl) (Reps.none _ _))))))))); intro v473 w54 ho55 hb hg_ hnew_; clear hg_ hnew_; (first | rw [← Ny472.out] at ho55 | (simp only [Int.reduceToNat] at ho55; rw [← Ny472.out] at ho55)); replace HO_5 := aM (Kd.R_below (xr HO_5) hb); replace HO471 := aM (Kd.R_below (xr HO471) hb); have HO474 := aM (Kd.R_lower ho55 (below_size (by repeat (first | (with_reducible first | exact HB.out | apply below_alloc | apply pw_below_drewN | apply below_drew1 | refine below_set ?_ (IsS156.ge HI417.out)) | exact HB.out)))); replace HB := aM (below_step (by repeat (first | (with_reducible first | exact HB.out | apply below_alloc | apply pw_below_drewN | apply below_drew1 | refine below_set ?_ (IsS156.ge HI417.out)) | exact HB.out)) hb); replace HI417 := aM (IsS156.below (by repeat (first | (with_reducible first | exact HI417.out | apply IsS156.alloc | apply IsS156.drewN | apply IsS156.drew | apply IsS156.set_1 | apply IsS156.set_2) | exact HI417.out)) hb); clear hb ho55; obtain ⟨Ao56, co56, eo56⟩ := Kd.R_slice HO474.out; subst eo56) | ((with_reducible refine gate_callee (f := 91) rfl ?_); refine goesL_ (some 44) rfl rfl Try.func91 (by kernel_rfl) rfl #[.pointer (some ⟨g417, 0, none⟩), .slice Ao56 y472.length co56] rfl (by (try simp only [List.map_toArray, List.map_cons, List.map_nil]); first | done | rfl | (simp only [List.length_drop, List.length_take]; rfl)) ?_; (with_reducible refine (spec_l1PickInt.calls g417 t414 t446 t447 _ _ y472 t475 t476 t477 w _ ?side1 ?side2 ?side3 ?side4 ?side5 A48.out).mono ?_); (case side1 => repeat (first | (with_reducible first | exact HI417.out | apply IsS156.alloc | apply IsS156.drewN | apply IsS156.drew | apply IsS156.set_1 | apply IsS156.set_2) | exact HI417.out)); (case side2 => repeat (first | (with_reducible first | exact HB.out | apply below_alloc | apply pw_below_drewN | apply below_drew1 | refine below_set ?_ (IsS156.ge HI417.out)) | exact HB.out)); (case side3 => repeat (first | exact (Kd.R_reads' HO474.out).2.2 | (with_reducible refine Kd.C_alloc ?_ _) | (with_reducible refine Kd.C_drewN ?_ _) | (with_reducible refine Kd.C_drew ?_))); (case side4 => exact (Kd.R_reads' HO474.out).2.1); (case side5 => exact far_slice (IsS156.own_ne HI417.out HO474.out (by decide))); rintro e w57 ⟨rfl, hi, hb, hk⟩; refine ⟨_, rfl, ?_⟩; replace HO_5 := aM (Kd.R_mono (Kd.R_keep (IsS156.apart (show IsS156 w _ g417 t414 t446 t447 from by repeat (first | (with_reducible first | exact HI417.out | apply IsS156.alloc | apply IsS156.drewN | apply IsS156.drew | apply IsS156.set_1 | apply IsS156.set_2) | exact HI417.out)) (xr HO_5) (by decide)) hk (fun _ h => h.2)) (fun _ h => h.1)); replace HO471 := aM (Kd.R_mono (Kd.R_keep (IsS156.apart (show IsS156 w _ g417 t414 t446 t447 from by repeat (first | (with_reducible first | exact HI417.out | apply IsS156.alloc | apply IsS156.drewN | apply IsS156.drew | apply IsS156.set_1 | apply IsS156.set_2) | exact HI417.out)) (xr HO471) (by decide)) hk (fun _ h => h.2)) (fun _ h => h.1)); replace HO474 := aM (Kd.R_mono (Kd.R_keep (IsS156.apart (show IsS156 w _ g417 t414 t446 t447 from by repeat (first | (with_reducible first | exact HI417.out | apply IsS156.alloc | apply IsS156.drewN | apply IsS156.drew | apply IsS156.set_1 | apply IsS156.set_2) | exact HI417.out)) (xr HO474) (by decide)) hk (fun _ h => h.2)) (fun _ h => h.1)); replace HB := aM (hb); replace HI417 := aM (hi); (try clear hb); (try clear hb2); (try clear hk); (try clear hi)))
       go_ret2
       exact ⟨_, by first | rfl | (simp [errW_none, errW_some] <;> rfl) | (simp [*, errW_none, errW_some] <;> rfl), by (with_reducible repeat (first | apply Kd.R_alloc | apply Kd.R_drewN | apply Kd.R_drew)); exact Kd.R_mono HO471.out (fun _ hk => trivial), by repeat (first | (with_reducible first | exact HB.out | apply below_alloc | apply pw_below_drewN | apply below_drew1 | refine below_set ?_ (IsS156.ge HI417.out)) | exact HB.out)⟩
      ·rw [if_neg c47] at H
       exact absurd H (by simp)

/-! ### spec_GetNum: function 92 -/
mutual
def spec_GetNum.j0 : Nat → List Int → Int → Bool → Option (Int × Int × Bool)
 | 0, _, _, _ => none
 | k + 1, x0, x1, x18 => if x18 = true then (some (0, 0, false)) else (spec_GetNum.l0 k x0 x1 0 1 0)
def spec_GetNum.l0 : Nat → List Int → Int → Int → Int → Int → Option (Int × Int × Bool)
 | 0, _, _, _, _, _ => none
 | k + 1, x0, x1, x7, x8, x9 => if x9 < 9 then (spec_GetNum.j2 k x0 x1 x7 x8 x9 (decide ((wrap64 (x1 + x9)) < (x0.length : Int)))) else (spec_GetNum.j2 k x0 x1 x7 x8 x9 false)
def spec_GetNum.j2 : Nat → List Int → Int → Int → Int → Int → Bool → Option (Int × Int × Bool)
 | 0, _, _, _, _, _, _ => none
 | k + 1, x0, x1, x7, x8, x9, x28 => if x28 = true then (if 0 ≤ (wrap64 (x1 + x9)) then (if (wrap64 (x1 + x9)) < (x0.length : Int) then (if (wrap64 (rd x0 (wrap64 (x1 + x9)))) < 128 then (if (wrap64 (rd x0 (wrap64 (x1 + x9)))) = 0 then (if x9 > 0 then (some (0, 0, false)) else (some (wrap64 (x7 + (wrap64 ((Int.tmod (wrap64 (rd x0 (wrap64 (x1 + x9)))) 128) * x8))), wrap64 ((wrap64 (x1 + x9)) + 1), true))) else (some (wrap64 (x7 + (wrap64 ((Int.tmod (wrap64 (rd x0 (wrap64 (x1 + x9)))) 128) * x8))), wrap64 ((wrap64 (x1 + x9)) + 1), true))) else (spec_GetNum.l0 k x0 x1 (wrap64 (x7 + (wrap64 ((Int.tmod (wrap64 (rd x0 (wrap64 (x1 + x9)))) 128) * x8)))) (wrap64 (x8 * 128)) (wrap64 (x9 + 1)))) else (none)) else (none)) else (some (0, 0, false))
end
def spec_GetNum.f (k : Nat) (l0 : List Int) (a1 : Int) : Option (Int × Int × Bool) := if a1 < 0 then (spec_GetNum.j0 k l0 a1 true) else (spec_GetNum.j0 k l0 a1 (decide (a1 ≥ (l0.length : Int))))
set_option maxRecDepth 100000 in
theorem spec_GetNum.mono_l : ∀ k, (∀ y0 y1 y2, LeO (spec_GetNum.j0 k y0 y1 y2) (spec_GetNum.j0 (k + 1) y0 y1 y2)) ∧ (∀ y0 y1 y2 y3 y4, LeO (spec_GetNum.l0 k y0 y1 y2 y3 y4) (spec_GetNum.l0 (k + 1) y0 y1 y2 y3 y4)) ∧ (∀ y0 y1 y2 y3 y4 y5, LeO (spec_GetNum.j2 k y0 y1 y2 y3 y4 y5) (spec_GetNum.j2 (k + 1) y0 y1 y2 y3 y4 y5))
 | 0 => ⟨fun _ _ _ r h => by simp [spec_GetNum.j0] at h, fun _ _ _ _ _ r h => by simp [spec_GetNum.l0] at h, fun _ _ _ _ _ _ r h => by simp [spec_GetNum.j2] at h⟩
 | k + 1 => by
  obtain ⟨ih0, ih1, ih2⟩ := spec_GetNum.mono_l k
  refine ⟨?_, ?_, ?_⟩
  ·intro y0 y1 y2
   unfold spec_GetNum.j0
   repeat' first
   | (with_reducible exact ih0 _ _ _)
   | (with_reducible exact ih1 _ _ _ _ _)
   | (with_reducible exact ih2 _ _ _ _ _ _)
   | (with_reducible exact LeO.refl _)
   | (with_reducible exact LeO.none _)
   | (with_reducible refine LeO.ite ?_ ?_)
   | (with_reducible refine LeO.bind ?_ (fun _ => ?_))
   | exact ih0 _ _ _
   | exact ih1 _ _ _ _ _
   | exact ih2 _ _ _ _ _ _
   | exact LeO.none _
   | refine LeO.ite ?_ ?_
   | refine LeO.bind ?_ (fun _ => ?_)
  ·intro y0 y1 y2 y3 y4
   unfold spec_GetNum.l0
   repeat' first
   | (with_reducible exact ih0 _ _ _)
   | (with_reducible exact ih1 _ _ _ _ _)
   | (with_reducible exact ih2 _ _ _ _ _ _)
   | (with_reducible exact LeO.refl _)
   | (with_reducible exact LeO.none _)
   | (with_reducible refine LeO.ite ?_ ?_)
   | (with_reducible refine LeO.bind ?_ (fun _ => ?_))
   | exact ih0 _ _ _
   | exact ih1 _ _ _ _ _
   | exact ih2 _ _ _ _ _ _
   | exact LeO.none _
   | refine LeO.ite ?_ ?_
   | refine LeO.bind ?_ (fun _ => ?_)
  ·intro y0 y1 y2 y3 y4 y5
   unfold spec_GetNum.j2
   repeat' first
   | (with_reducible exact ih0 _ _ _)
   | (with_reducible exact ih1 _ _ _ _ _)
   | (with_reducible exact ih2 _ _ _ _ _ _)
   | (with_reducible exact LeO.refl _)
   | (with_reducible exact LeO.none _)
   | (with_reducible refine LeO.ite ?_ ?_)
   | (with_reducible refine LeO.bind ?_ (fun _ => ?_))
   | exact ih0 _ _ _
   | exact ih1 _ _ _ _ _
   | exact ih2 _ _ _ _ _ _
   | exact LeO.none _
   | refine LeO.ite ?_ ?_
   | refine LeO.bind ?_ (fun _ => ?_)
theorem spec_GetNum.mono : ∀ a0 a1 k, LeO (spec_GetNum.f k a0 a1) (spec_GetNum.f (k + 1) a0 a1) := by
 intro a0 a1 k
 obtain ⟨ih0, ih1, ih2⟩ := spec_GetNum.mono_l k
 unfold spec_GetNum.f
 repeat' first
  | (with_reducible exact ih0 _ _ _)
  | (with_reducible exact ih1 _ _ _ _ _)
  | (with_reducible exact ih2 _ _ _ _ _ _)
  | (with_reducible exact LeO.refl _)
  | (with_reducible exact LeO.none _)
  | (with_reducible refine LeO.ite ?_ ?_)
  | (with_reducible refine LeO.bind ?_ (fun _ => ?_))
  | exact ih0 _ _ _
  | exact ih1 _ _ _ _ _
  | exact ih2 _ _ _ _ _ _
  | exact LeO.none _
  | refine LeO.ite ?_ ?_
  | refine LeO.bind ?_ (fun _ => ?_)
set_option maxHeartbeats 8000000 in
set_option maxRecDepth 100000 in
theorem spec_GetNum.calls (k : Nat) (A0 : Option Addr) (c0 : Nat) (l0 : List Int) (a1 : Int) (r1 : Int) (r2 : Int) (r3 : Bool) (w : World) (hr0 : Kd.C (Kd.int .u8) w A0 l0.length l0) (hc0 : l0.length ≤ c0) (h : spec_GetNum.f k l0 a1 = some (r1, r2, r3)) :
 Calls Try.prog 92 #[.slice A0 l0.length c0, .int .i64 a1] w fun e w' => e = .returned (.tuple #[.int .i64 r1, .int .i64 r2, .bool r3]) ∧ Drawn0 w w' := by
 have HR0 := aM hr0
 have HC0 := aM hc0
 clear hr0 hc0
 have H : (if a1 < 0 then (spec_GetNum.j0 k l0 a1 true) else (spec_GetNum.j0 k l0 a1 (decide (a1 ≥ (l0.length : Int))))) = some (r1, r2, r3) := h
 clear h
 have HC3 := aM H
 clear H
 go_enter Try.func92, Try.ntmps92
 go_upto_region 1 with (fail)
 go_cut [18] (fun v18 wc => ∃ (kq : Nat) (x18_2 : Bool), v18 = .bool x18_2 ∧ Aside0 (spec_GetNum.j0 kq l0 a1 x18_2 = some (r1, r2, r3)) ∧ Aside0 (kq ≤ k) ∧ Drawn0 w wc)
 case first =>
  have H := HC3.out; clear HC3
  by_cases c4 : a1 < 0
  ·rw [if_pos c4] at H
   have c4b0 : decide (a1 < 0) = true := decide_eq_true c4; clear c4
   (first | rw [c4b0] | (simp only [i64_w, i32_w]; rw [c4b0]) | skip)
   have H' := aM H
   clear H
   go_wp2
   go_meet
   case rel => exact ⟨_, (true), (by first | rfl | (simp; done) | (simp [*]; done)), H', ⟨by first | omega | exact Nat.le_refl _⟩, by repeat (first | exact Drawn0.refl _ | apply Drawn0.step)⟩
  ·rw [if_neg c4] at H
   have c4b0 : decide (a1 < 0) = false := decide_eq_false c4; clear c4
   (first | rw [c4b0] | (simp only [i64_w, i32_w]; rw [c4b0]) | skip)
   have H' := aM H
   clear H
   go_wp2
   go_meet
   case rel => exact ⟨_, (decide (a1 ≥ (l0.length : Int))), (by first | rfl | (simp; done) | (simp [*]; done)), H', ⟨by first | omega | exact Nat.le_refl _⟩, by repeat (first | exact Drawn0.refl _ | apply Drawn0.step)⟩
 case rest =>
  clear HC3
  try clear p2
  try clear c4
  try clear c4b0
  obtain ⟨kq, x18_2, rfl, HA, HJ2, ⟨mc2, rfl⟩⟩ := hcut
  cases kq with
  | zero => exact absurd HA.out (by simp [spec_GetNum.j0])
  | succ kj2 =>
   have H := HA.out; clear HA
   simp only [spec_GetNum.j0] at H
   by_cases c5 : x18_2 = true
   ·subst c5
    have H1 : (some (0, 0, false)) = some (r1, r2, r3) := by rw [if_pos rfl] at H; exact H
    clear H; have H := H1; clear H1
    simp only [Option.some.injEq, Prod.mk.injEq] at H
    obtain ⟨rfl, rfl, rfl⟩ := H
    go_wp2
    go_ret3
    exact ⟨by first | rfl | (simp; done) | (simp [*]; done), by repeat (first | exact Drawn0.refl _ | apply Drawn0.step)⟩
   ·replace c5 := Bool.eq_false_iff.mpr c5
    subst c5
    have H1 : (spec_GetNum.l0 kj2 l0 a1 0 1 0) = some (r1, r2, r3) := by rw [if_neg (show ¬ (false = true) by decide)] at H; exact H
    clear H; have H := H1; clear H1
    have H' := aM H
    clear H
    go_wp2
    go_loopg [7, 8, 9] kj2 (fun kq v7 v8 v9 w' => ∃ (x7_2 : Int) (x8_2 : Int) (x9_2 : Int), v7 = .int .i64 x7_2 ∧ v8 = .int .i64 x8_2 ∧ v9 = .int .i64 x9_2 ∧ Aside0 (spec_GetNum.l0 kq l0 a1 x7_2 x8_2 x9_2 = some (r1, r2, r3)) ∧ Aside0 (kq ≤ kj2) ∧ Drawn0 w w')
    case atStart => exact ⟨(0), (1), (0), (by first | rfl | (simp; done) | (simp [*]; done)), (by first | rfl | (simp; done) | (simp [*]; done)), (by first | rfl | (simp; done) | (simp [*]; done)), H', ⟨Nat.le_refl _⟩, by repeat (first | exact Drawn0.refl _ | apply Drawn0.step)⟩
    case round =>
     clear H'
     try clear c2
     try clear p2
     try clear c4
     try clear c4b0
     try clear c5
     try clear p2
     obtain ⟨x7_2, x8_2, x9_2, rfl, rfl, rfl, HA, HK2, ⟨m2, rfl⟩⟩ := hrel
     cases gk with
     | zero => exact absurd HA.out (by simp [spec_GetNum.l0])
     | succ k2 =>
      have H := HA.out; clear HA
      simp only [spec_GetNum.l0] at H
      have HC6 := aM H; clear H
      go_upto_region 6 with (fail)
      go_cut [28] (fun v28 wc => ∃ (kq : Nat) (x28_5 : Bool), v28 = .bool x28_5 ∧ Aside0 (spec_GetNum.j2 kq l0 a1 x7_2 x8_2 x9_2 x28_5 = some (r1, r2, r3)) ∧ Aside0 (kq ≤ k2) ∧ Drawn0 w wc)
      case first =>
       have H := HC6.out; clear HC6
       by_cases c7 : x9_2 < 9
       ·rw [if_pos c7] at H
        have c7b0 : decide (x9_2 < 9) = true := decide_eq_true c7; clear c7
        (first | rw [c7b0] | (simp only [i64_w, i32_w]; rw [c7b0]) | skip)
        have H' := aM H
        clear H
        go_wp2
        go_meet
        case rel => exact ⟨_, (decide ((wrap64 (a1 + x9_2)) < (l0.length : Int))), (by first | rfl | (simp; done) | (simp [*]; done)), H', ⟨by have := HJ2.out; have := HK2.out; first | omega | exact Nat.le_refl _⟩, by repeat (first | exact Drawn0.refl _ | apply Drawn0.step)⟩
       ·rw [if_neg c7] at H
        have c7b0 : decide (x9_2 < 9) = false := decide_eq_false c7; clear c7
        (first | rw [c7b0] | (simp only [i64_w, i32_w]; rw [c7b0]) | skip)
        have H' := aM H
        clear H
        go_wp2
        go_meet
        case rel => exact ⟨_, (false), (by first | rfl | (simp; done) | (simp [*]; done)), H', ⟨by have := HJ2.out; have := HK2.out; first | omega | exact Nat.le_refl _⟩, by repeat (first | exact Drawn0.refl _ | apply Drawn0.step)⟩
      case rest =>
       clear HC6
       try clear c2
       try clear p2
       try clear c4
       try clear c4b0
       try clear c5
       try clear p6
       try clear c7
       try clear c7b0
       try clear p2
       obtain ⟨kq, x28_5, rfl, HA, HJ5, ⟨mc5, rfl⟩⟩ := hcut
       cases kq with
       | zero => exact absurd HA.out (by simp [spec_GetNum.j2])
       | succ kj5 =>
        have H := HA.out; clear HA
        simp only [spec_GetNum.j2] at H
        by_cases c8 : x28_5 = true
        ·subst c8
         have H1 : (if 0 ≤ (wrap64 (a1 + x9_2)) then (if (wrap64 (a1 + x9_2)) < (l0.length : Int) then (if (wrap64 (rd l0 (wrap64 (a1 + x9_2)))) < 128 then (if (wrap64 (rd l0 (wrap64 (a1 + x9_2)))) = 0 then (if x9_2 > 0 then (some (0, 0, false)) else (some (wrap64 (x7_2 + (wrap64 ((Int.tmod (wrap64 (rd l0 (wrap64 (a1 + x9_2)))) 128) * x8_2))), wrap64 ((wrap64 (a1 + x9_2)) + 1), true))) else (some (wrap64 (x7_2 + (wrap64 ((Int.tmod (wrap64 (rd l0 (wrap64 (a1 + x9_2)))) 128) * x8_2))), wrap64 ((wrap64 (a1 + x9_2)) + 1), true))) else (spec_GetNum.l0 kj5 l0 a1 (wrap64 (x7_2 + (wrap64 ((Int.tmod (wrap64 (rd l0 (wrap64 (a1 + x9_2)))) 128) * x8_2)))) (wrap64 (x8_2 * 128)) (wrap64 (x9_2 + 1)))) else (none)) else (none)) = some (r1, r2, r3) := by rw [if_pos rfl] at H; exact H
         clear H; have H := H1; clear H1
         obtain ⟨ji9, hji9⟩ : ∃ j_ : Int, (wrap64 (a1 + x9_2)) = j_ := ⟨_, rfl⟩
         replace H : (if 0 ≤ (ji9) then (if (ji9) < (l0.length : Int) then (if (wrap64 (rd l0 (ji9))) < 128 then (if (wrap64 (rd l0 (ji9))) = 0 then (if x9_2 > 0 then (some (0, 0, false)) else (some (wrap64 (x7_2 + (wrap64 ((Int.tmod (wrap64 (rd l0 (ji9))) 128) * x8_2))), wrap64 ((ji9) + 1), true))) else (some (wrap64 (x7_2 + (wrap64 ((Int.tmod (wrap64 (rd l0 (ji9))) 128) * x8_2))), wrap64 ((ji9) + 1), true))) else (spec_GetNum.l0 kj5 l0 a1 (wrap64 (x7_2 + (wrap64 ((Int.tmod (wrap64 (rd l0 (ji9))) 128) * x8_2)))) (wrap64 (x8_2 * 128)) (wrap64 (x9_2 + 1)))) else (none)) else (none)) = some (r1, r2, r3) := by first | (rw [hji9] at H; exact H) | (simp only [hji9] at H ⊢; exact H)
         have hji9w : (IntKind.i64.wrap (a1 + x9_2)) = ji9 := (i64_w _).trans hji9
         by_cases c10 : 0 ≤ (ji9)
         ·rw [if_pos c10] at H
          have c10b0 : decide (0 ≤ (ji9)) = true := decide_eq_true c10; clear c10
          by_cases c11 : (ji9) < (l0.length : Int)
          ·rw [if_pos c11] at H
           have c11b0 : decide ((ji9) < (l0.length : Int)) = true := decide_eq_true c11; clear c11
           by_cases c12 : (wrap64 (rd l0 (ji9))) < 128
           ·rw [if_pos c12] at H
            have c12b0 : decide ((wrap64 (rd l0 (ji9))) < 128) = true := decide_eq_true c12; clear c12
            by_cases c13 : (wrap64 (rd l0 (ji9))) = 0
            ·rw [if_pos c13] at H
             have c13b0 : ((wrap64 (rd l0 (ji9))) == 0) = true := beq_iff_eq.mpr c13; have c13b1 : ((wrap64 (rd l0 (ji9))) != 0) = false := bne_eq_false_iff_eq.mpr c13; clear c13
             by_cases c14 : x9_2 > 0
             ·rw [if_pos c14] at H
              have c14b0 : decide (0 < x9_2) = true := decide_eq_true c14; clear c14
              simp only [Option.some.injEq, Prod.mk.injEq] at H
              obtain ⟨rfl, rfl, rfl⟩ := H
              have p478 : 0 ≤ ((ji9) : Int) := of_decide_eq_true (by first | (with_reducible assumption) | assumption); have q478 : (ji9) < (l0.length : Int) := of_decide_eq_true (by first | (with_reducible assumption) | assumption)
              obtain ⟨ad478, e478, hx478_0⟩ := Kd.at_int HR0.out (ji9) p478 q478
              cases e478
              replace p478 := eq_true p478; replace q478 := eq_true q478
              go_wp2
              go_ret3
              exact ⟨by first | rfl | (simp; done) | (simp only [← hji9] <;> (first | rfl | simp)) | (simp [*]; done), by repeat (first | exact Drawn0.refl _ | apply Drawn0.step)⟩
             ·rw [if_neg c14] at H
              have c14b0 : decide (0 < x9_2) = false := decide_eq_false c14; clear c14
              simp only [Option.some.injEq, Prod.mk.injEq] at H
              obtain ⟨rfl, rfl, rfl⟩ := H
              have p478 : 0 ≤ ((ji9) : Int) := of_decide_eq_true (by first | (with_reducible assumption) | assumption); have q478 : (ji9) < (l0.length : Int) := of_decide_eq_true (by first | (with_reducible assumption) | assumption)
              obtain ⟨ad478, e478, hx478_0⟩ := Kd.at_int HR0.out (ji9) p478 q478
              cases e478
              replace p478 := eq_true p478; replace q478 := eq_true q478
              go_wp2
              go_ret3
              exact ⟨by first | rfl | (simp; done) | (simp only [← hji9] <;> (first | rfl | simp)) | (simp [*]; done), by repeat (first | exact Drawn0.refl _ | apply Drawn0.step)⟩
            ·rw [if_neg c13] at H
             have c13b0 : ((wrap64 (rd l0 (ji9))) == 0) = false := beq_eq_false_iff_ne.mpr c13; have c13b1 : ((wrap64 (rd l0 (ji9))) != 0) = true := bne_iff_ne.mpr c13
             simp only [Option.some.injEq, Prod.mk.injEq] at H
             obtain ⟨rfl, rfl, rfl⟩ := H
             have p478 : 0 ≤ ((ji9) : Int) := of_decide_eq_true (by first | (with_reducible assumption) | assumption); have q478 : (ji9) < (l0.length : Int) := of_decide_eq_true (by first | (with_reducible assumption) | assumption)
             obtain ⟨ad478, e478, hx478_0⟩ := Kd.at_int HR0.out (ji9) p478 q478
             cases e478
             replace p478 := eq_true p478; replace q478 := eq_true q478
             go_wp2
             go_ret3
             exact ⟨by first | rfl | (simp; done) | (simp only [← hji9] <;> (first | rfl | simp)) | (simp [*]; done), by repeat (first | exact Drawn0.refl _ | apply Drawn0.step)⟩
           ·rw [if_neg c12] at H
            have c12b0 : decide ((wrap64 (rd l0 (ji9))) < 128) = false := decide_eq_false c12; clear c12
            have H' := aM H
            clear H; have p478 : 0 ≤ ((ji9) : Int) := of_decide_eq_true (by first | (with_reducible assumption) | assumption); have q478 : (ji9) < (l0.length : Int) := of_decide_eq_true (by first | (with_reducible assumption) | assumption)
            obtain ⟨ad478, e478, hx478_0⟩ := Kd.at_int HR0.out (ji9) p478 q478
            cases e478
            replace p478 := eq_true p478; replace q478 := eq_true q478
            go_wp2
            go_roundg kj5
            case measure => have := HJ2.out; have := HK2.out; have := HJ5.out; omega
            case rel => exact ⟨(wrap64 (x7_2 + (wrap64 ((Int.tmod (wrap64 (rd l0 (ji9))) 128) * x8_2)))), (wrap64 (x8_2 * 128)), (wrap64 (x9_2 + 1)), (by first | rfl | (simp; done) | (simp only [← hji9] <;> (first | rfl | simp)) | (simp [*]; done)), (by first | rfl | (simp; done) | (simp [*]; done)), (by first | rfl | (simp; done) | (simp [*]; done)), H', ⟨by have := HJ2.out; have := HK2.out; have := HJ5.out; omega⟩, by repeat (first | exact Drawn0.refl _ | apply Drawn0.step)⟩
          ·rw [if_neg c11] at H
           exact absurd H (by simp)
         ·rw [if_neg c10] at H
          exact absurd H (by simp)
        ·replace c8 := Bool.eq_false_iff.mpr c8
         subst c8
         have H1 : (some (0, 0, false)) = some (r1, r2, r3) := by rw [if_neg (show ¬ (false = true) by decide)] at H; exact H
         clear H; have H := H1; clear H1
         simp only [Option.some.injEq, Prod.mk.injEq] at H
         obtain ⟨rfl, rfl, rfl⟩ := H
         go_wp2
         go_ret3
         exact ⟨by first | rfl | (simp; done) | (simp [*]; done), by repeat (first | exact Drawn0.refl _ | apply Drawn0.step)⟩

/-! ### spec_CmdRead: function 27 -/
def crFin (k : Nat) (x1 x2 x3 x4 : Int) (d : ByteArray) (p : Int) (ok : Bool) : Option (Int × Int × Int × Int × ByteArray × Int × Bool) :=
  if ok = true then (spec_CmdOk.f k x1 x2 x3 x4 d).bind fun o => if o = true then some (x1, x2, x3, x4, d, p, true) else some (0, 0, 0, 0, (⟨#[]⟩ : ByteArray), 0, false) else some (0, 0, 0, 0, (⟨#[]⟩ : ByteArray), 0, false)
def spec_CmdRead.f (k : Nat) (l0 : List Int) (a1 : Int) : Option (Int × Int × Int × Int × ByteArray × Int × Bool) :=
  (spec_GetNum.f k l0 a1).bind fun t1 => if t1.2.2 = true then (spec_l1In.f t1.1 1 5).bind fun o1 => if o1 = true then
      (if t1.1 = 1 then some (1, 0, 0, 0, (⟨#[]⟩ : ByteArray), t1.2.1, true)
       else (spec_GetNum.f k l0 t1.2.1).bind fun t2 => if t2.2.2 = true then
          (if t1.1 = 3 then (spec_GetNum.f k l0 t2.2.1).bind fun t3 => crFin k t1.1 t2.1 t3.1 0 (⟨#[]⟩ : ByteArray) t3.2.1 t3.2.2
           else if t1.1 = 2 then (spec_GetNum.f k l0 t2.2.1).bind fun t3 => if t3.2.2 = true then
                (if wrap64 ((l0.length : Int) - t3.2.1) ≥ 32 then (if 0 ≤ t3.2.1 ∧ t3.2.1 + 32 ≤ (l0.length : Int) then crFin k t1.1 t2.1 0 t3.1 (strOfNums ((l0.take (t3.2.1 + 32).toNat).drop t3.2.1.toNat)) (t3.2.1 + 32) true else none)
                 else crFin k t1.1 t2.1 0 t3.1 (⟨#[]⟩ : ByteArray) t3.2.1 true) else some (0, 0, 0, 0, (⟨#[]⟩ : ByteArray), 0, false)
           else crFin k t1.1 t2.1 0 0 (⟨#[]⟩ : ByteArray) t2.2.1 true) else some (0, 0, 0, 0, (⟨#[]⟩ : ByteArray), 0, false))
    else some (0, 0, 0, 0, (⟨#[]⟩ : ByteArray), 0, false) else some (0, 0, 0, 0, (⟨#[]⟩ : ByteArray), 0, false)
theorem crFin.mono (k : Nat) (x1 x2 x3 x4 : Int) (d : ByteArray) (p : Int) (ok : Bool) : LeO (crFin k x1 x2 x3 x4 d p ok) (crFin (k + 1) x1 x2 x3 x4 d p ok) := by
  unfold crFin
  repeat' first
  | exact spec_CmdOk.mono _ _ _ _ _ _
  | exact LeO.refl _
  | refine LeO.ite ?_ ?_
  | refine LeO.bind ?_ (fun _ => ?_)
theorem spec_CmdRead.mono : ∀ a0 a1 k, LeO (spec_CmdRead.f k a0 a1) (spec_CmdRead.f (k + 1) a0 a1) := by
  intro a0 a1 k
  unfold spec_CmdRead.f
  repeat' first
  | exact spec_GetNum.mono _ _ _
  | exact crFin.mono _ _ _ _ _ _ _ _
  | exact LeO.refl _
  | refine LeO.ite ?_ ?_
  | refine LeO.bind ?_ (fun _ => ?_)
theorem cr_at {w : World} {g : Nat} {o : Obj} (h : w.heap.size = g) : (w.alloc o).heap[g]? = some o := h ▸ blk_new w o
theorem cr_fr {w : World} {g b i : Nat} {o : Obj} (h : w.heap[g]? = some o) (hp : g ≠ b) (u : Value) : (w.setCell ⟨b, i, none⟩ u).heap[g]? = some o := (Below.heap_setCell w ⟨b, i, none⟩ u g hp).trans h
theorem cr_set5 {w : World} {b : Nat} {T : TypeId} {v0 v1 v2 v3 v4 : Value} (h : w.heap[b]? = some (.cells #[.int .i64 0, .int .i64 0, .int .i64 0, .int .i64 0, .string (⟨#[]⟩ : ByteArray)] T (0, 0))) :
    (((((w.setCell ⟨b, 0, none⟩ v0).setCell ⟨b, 1, none⟩ v1).setCell ⟨b, 2, none⟩ v2).setCell ⟨b, 3, none⟩ v3).setCell ⟨b, 4, none⟩ v4).heap[b]? = some (.cells #[v0, v1, v2, v3, v4] T (0, 0)) :=
  (blk_set (blk_set (blk_set (blk_set (blk_set h 0 v0) 1 v1) 2 v2) 3 v3) 4 v4).trans rfl
set_option maxHeartbeats 8000000 in
set_option maxRecDepth 100000 in
theorem spec_CmdRead.calls (k : Nat) (A0 : Option Addr) (c0 : Nat) (l0 : List Int) (a1 : Int) (r1 : Int) (r2 : Int) (r3 : Int) (r4 : Int) (r5 : ByteArray) (r6 : Int) (r7 : Bool) (w : World) (hr0 : Kd.C (Kd.int .u8) w A0 l0.length l0) (hc0 : l0.length ≤ c0) (h : spec_CmdRead.f k l0 a1 = some (r1, r2, r3, r4, r5, r6, r7)) :
    Calls Try.prog 27 #[.slice A0 l0.length c0, .int .i64 a1] w fun e w' => e = .returned (.tuple #[.agg #[.int .i64 r1, .int .i64 r2, .int .i64 r3, .int .i64 r4, .string r5], .int .i64 r6, .bool r7]) ∧ Below w.heap.size w w' := by
  have hu := Try.underlying34
  have HR := Aside0.mk hr0
  have HC := Aside0.mk hc0
  unfold spec_CmdRead.f at h
  replace h := Option.bind_eq_some_iff.1 h; obtain ⟨⟨x1, p1, ok1⟩, hA, h⟩ := h
  simp only at h
  have HA1 := Aside0.mk hA
  clear hA hr0 hc0
  cases ok1
  · simp only [Bool.false_eq_true, ↓reduceIte, Option.some.injEq, Prod.mk.injEq] at h
    obtain ⟨rfl, rfl, rfl, rfl, rfl, rfl, rfl⟩ := h
    go_enter Try.func27, Try.ntmps27
    go_wp2_with (first | (go_at_call 92; with_reducible refine (spec_GetNum.calls k A0 c0 l0 a1 x1 p1 false _ (Kd.C_below HR.out (by repeat (with_reducible first | exact Below.refl _ _ | apply below_alloc | apply pw_below_drewN | refine below_set ?_ (by omega)))) HC.out HA1.out).mono ?_; rintro e w' ⟨rfl, ⟨nd1, rfl⟩⟩))
    refine bodyPost_ret (results_ctt rfl _ _ w.heap.size 34 #[.int .i64 0, .int .i64 0, .int .i64 0, .int .i64 0, .string (⟨#[]⟩ : ByteArray)] (0, 0) _ rfl (by (with_reducible repeat (first | refine blk_drewN ?_ _ | refine blk_alloc ?_ _)); with_reducible refine cr_set5 ?_; repeat (with_reducible first | exact HZ.out | exact blk_new _ _ | refine cr_fr ?_ (by omega) _ | refine blk_drewN ?_ _ | refine blk_alloc ?_ _)) hu rfl (by kernel_rfl)) rfl ?_; exact ⟨by first | rfl | (simp; done) | (simp [*]; done), by repeat (with_reducible first | exact Below.refl _ _ | apply below_alloc | apply pw_below_drewN | refine below_set ?_ (by omega))⟩
  · simp only [↓reduceIte] at h
    replace h := Option.bind_eq_some_iff.1 h; obtain ⟨o1, hO, h⟩ := h
    have HO := Aside0.mk hO
    clear hO
    cases o1
    · simp only [Bool.false_eq_true, ↓reduceIte, Option.some.injEq, Prod.mk.injEq] at h
      obtain ⟨rfl, rfl, rfl, rfl, rfl, rfl, rfl⟩ := h
      go_enter Try.func27, Try.ntmps27
      go_wp2_with (first | (go_at_call 92; with_reducible refine (spec_GetNum.calls k A0 c0 l0 a1 x1 p1 true _ (Kd.C_below HR.out (by repeat (with_reducible first | exact Below.refl _ _ | apply below_alloc | apply pw_below_drewN | refine below_set ?_ (by omega)))) HC.out HA1.out).mono ?_; rintro e w' ⟨rfl, ⟨nd1, rfl⟩⟩) | (go_at_call 87; with_reducible refine (spec_l1In.calls x1 1 5 false _ HO.out).mono ?_; rintro e w' ⟨rfl, ⟨nd0, rfl⟩⟩))
      refine bodyPost_ret (results_ctt rfl _ _ w.heap.size 34 #[.int .i64 0, .int .i64 0, .int .i64 0, .int .i64 0, .string (⟨#[]⟩ : ByteArray)] (0, 0) _ rfl (by (with_reducible repeat (first | refine blk_drewN ?_ _ | refine blk_alloc ?_ _)); with_reducible refine cr_set5 ?_; repeat (with_reducible first | exact HZ.out | exact blk_new _ _ | refine cr_fr ?_ (by omega) _ | refine blk_drewN ?_ _ | refine blk_alloc ?_ _)) hu rfl (by kernel_rfl)) rfl ?_; exact ⟨by first | rfl | (simp; done) | (simp [*]; done), by repeat (with_reducible first | exact Below.refl _ _ | apply below_alloc | apply pw_below_drewN | refine below_set ?_ (by omega))⟩
    · simp only [↓reduceIte] at h
      by_cases e1 : x1 = 1
      · subst e1
        simp only [↓reduceIte, Option.some.injEq, Prod.mk.injEq] at h
        obtain ⟨rfl, rfl, rfl, rfl, rfl, rfl, rfl⟩ := h
        go_enter Try.func27, Try.ntmps27
        go_wp2_with (first | (go_at_call 92; with_reducible refine (spec_GetNum.calls k A0 c0 l0 a1 1 p1 true _ (Kd.C_below HR.out (by repeat (with_reducible first | exact Below.refl _ _ | apply below_alloc | apply pw_below_drewN | refine below_set ?_ (by omega)))) HC.out HA1.out).mono ?_; rintro e w' ⟨rfl, ⟨nd1, rfl⟩⟩) | (go_at_call 87; with_reducible refine (spec_l1In.calls 1 1 5 true _ HO.out).mono ?_; rintro e w' ⟨rfl, ⟨nd0, rfl⟩⟩))
        refine bodyPost_ret (results_ctt rfl _ _ w.heap.size 34 #[.int .i64 1, .int .i64 0, .int .i64 0, .int .i64 0, .string (⟨#[]⟩ : ByteArray)] (0, 0) _ rfl (by (with_reducible repeat (first | refine blk_drewN ?_ _ | refine blk_alloc ?_ _)); with_reducible refine cr_set5 ?_; repeat (with_reducible first | exact HZ.out | exact blk_new _ _ | refine cr_fr ?_ (by omega) _ | refine blk_drewN ?_ _ | refine blk_alloc ?_ _)) hu rfl (by kernel_rfl)) rfl ?_; exact ⟨by first | rfl | (simp; done) | (simp [*]; done), by repeat (with_reducible first | exact Below.refl _ _ | apply below_alloc | apply pw_below_drewN | refine below_set ?_ (by omega))⟩
      · rw [if_neg e1] at h
        have e1b : (x1 == 1) = false := beq_eq_false_iff_ne.mpr e1
        clear e1
        replace h := Option.bind_eq_some_iff.1 h; obtain ⟨⟨x2, p2, ok2⟩, hA, h⟩ := h
        simp only at h
        have HA2 := Aside0.mk hA
        clear hA
        cases ok2
        · simp only [Bool.false_eq_true, ↓reduceIte, Option.some.injEq, Prod.mk.injEq] at h
          obtain ⟨rfl, rfl, rfl, rfl, rfl, rfl, rfl⟩ := h
          go_enter Try.func27, Try.ntmps27
          go_wp2_with (first | (go_at_call 92; with_reducible refine (spec_GetNum.calls k A0 c0 l0 a1 x1 p1 true _ (Kd.C_below HR.out (by repeat (with_reducible first | exact Below.refl _ _ | apply below_alloc | apply pw_below_drewN | refine below_set ?_ (by omega)))) HC.out HA1.out).mono ?_; rintro e w' ⟨rfl, ⟨nd1, rfl⟩⟩) | (go_at_call 92; with_reducible refine (spec_GetNum.calls k A0 c0 l0 p1 x2 p2 false _ (Kd.C_below HR.out (by repeat (with_reducible first | exact Below.refl _ _ | apply below_alloc | apply pw_below_drewN | refine below_set ?_ (by omega)))) HC.out HA2.out).mono ?_; rintro e w' ⟨rfl, ⟨nd2, rfl⟩⟩) | (go_at_call 87; with_reducible refine (spec_l1In.calls x1 1 5 true _ HO.out).mono ?_; rintro e w' ⟨rfl, ⟨nd0, rfl⟩⟩))
          refine bodyPost_ret (results_ctt rfl _ _ w.heap.size 34 #[.int .i64 0, .int .i64 0, .int .i64 0, .int .i64 0, .string (⟨#[]⟩ : ByteArray)] (0, 0) _ rfl (by (with_reducible repeat (first | refine blk_drewN ?_ _ | refine blk_alloc ?_ _)); with_reducible refine cr_set5 ?_; repeat (with_reducible first | exact HZ.out | exact blk_new _ _ | refine cr_fr ?_ (by omega) _ | refine blk_drewN ?_ _ | refine blk_alloc ?_ _)) hu rfl (by kernel_rfl)) rfl ?_; exact ⟨by first | rfl | (simp; done) | (simp [*]; done), by repeat (with_reducible first | exact Below.refl _ _ | apply below_alloc | apply pw_below_drewN | refine below_set ?_ (by omega))⟩
        · simp only [↓reduceIte] at h
          by_cases e3 : x1 = 3
          · subst e3
            simp only [↓reduceIte] at h
            replace h := Option.bind_eq_some_iff.1 h; obtain ⟨⟨x3, p3, ok3⟩, hA, h⟩ := h
            simp only at h
            have HA3 := Aside0.mk hA
            clear hA
            cases ok3
            · unfold crFin at h
              simp only [Bool.false_eq_true, ↓reduceIte, Option.some.injEq, Prod.mk.injEq] at h
              obtain ⟨rfl, rfl, rfl, rfl, rfl, rfl, rfl⟩ := h
              go_enter Try.func27, Try.ntmps27
              go_wp2_with (first | (go_at_call 92; with_reducible refine (spec_GetNum.calls k A0 c0 l0 a1 3 p1 true _ (Kd.C_below HR.out (by repeat (with_reducible first | exact Below.refl _ _ | apply below_alloc | apply pw_below_drewN | refine below_set ?_ (by omega)))) HC.out HA1.out).mono ?_; rintro e w' ⟨rfl, ⟨nd1, rfl⟩⟩) | (go_at_call 92; with_reducible refine (spec_GetNum.calls k A0 c0 l0 p1 x2 p2 true _ (Kd.C_below HR.out (by repeat (with_reducible first | exact Below.refl _ _ | apply below_alloc | apply pw_below_drewN | refine below_set ?_ (by omega)))) HC.out HA2.out).mono ?_; rintro e w' ⟨rfl, ⟨nd2, rfl⟩⟩) | (go_at_call 92; with_reducible refine (spec_GetNum.calls k A0 c0 l0 p2 x3 p3 false _ (Kd.C_below HR.out (by repeat (with_reducible first | exact Below.refl _ _ | apply below_alloc | apply pw_below_drewN | refine below_set ?_ (by omega)))) HC.out HA3.out).mono ?_; rintro e w' ⟨rfl, ⟨nd3, rfl⟩⟩) | (go_at_call 87; with_reducible refine (spec_l1In.calls 3 1 5 true _ HO.out).mono ?_; rintro e w' ⟨rfl, ⟨nd0, rfl⟩⟩))
              refine bodyPost_ret (results_ctt rfl _ _ w.heap.size 34 #[.int .i64 0, .int .i64 0, .int .i64 0, .int .i64 0, .string (⟨#[]⟩ : ByteArray)] (0, 0) _ rfl (by (with_reducible repeat (first | refine blk_drewN ?_ _ | refine blk_alloc ?_ _)); with_reducible refine cr_set5 ?_; repeat (with_reducible first | exact HZ.out | exact blk_new _ _ | refine cr_fr ?_ (by omega) _ | refine blk_drewN ?_ _ | refine blk_alloc ?_ _)) hu rfl (by kernel_rfl)) rfl ?_; exact ⟨by first | rfl | (simp; done) | (simp [*]; done), by repeat (with_reducible first | exact Below.refl _ _ | apply below_alloc | apply pw_below_drewN | refine below_set ?_ (by omega))⟩
            · skip
              unfold crFin at h
              simp only [↓reduceIte] at h
              replace h := Option.bind_eq_some_iff.1 h; obtain ⟨o, hK, h⟩ := h
              have HK := Aside0.mk hK
              clear hK
              cases o
              · simp only [Bool.false_eq_true, ↓reduceIte, Option.some.injEq, Prod.mk.injEq] at h
                obtain ⟨rfl, rfl, rfl, rfl, rfl, rfl, rfl⟩ := h
                go_enter Try.func27, Try.ntmps27
                go_wp2_with (first | (go_at_call 92; with_reducible refine (spec_GetNum.calls k A0 c0 l0 a1 3 p1 true _ (Kd.C_below HR.out (by repeat (with_reducible first | exact Below.refl _ _ | apply below_alloc | apply pw_below_drewN | refine below_set ?_ (by omega)))) HC.out HA1.out).mono ?_; rintro e w' ⟨rfl, ⟨nd1, rfl⟩⟩) | (go_at_call 92; with_reducible refine (spec_GetNum.calls k A0 c0 l0 p1 x2 p2 true _ (Kd.C_below HR.out (by repeat (with_reducible first | exact Below.refl _ _ | apply below_alloc | apply pw_below_drewN | refine below_set ?_ (by omega)))) HC.out HA2.out).mono ?_; rintro e w' ⟨rfl, ⟨nd2, rfl⟩⟩) | (go_at_call 92; with_reducible refine (spec_GetNum.calls k A0 c0 l0 p2 x3 p3 true _ (Kd.C_below HR.out (by repeat (with_reducible first | exact Below.refl _ _ | apply below_alloc | apply pw_below_drewN | refine below_set ?_ (by omega)))) HC.out HA3.out).mono ?_; rintro e w' ⟨rfl, ⟨nd3, rfl⟩⟩) | (go_at_call 87; with_reducible refine (spec_l1In.calls 3 1 5 true _ HO.out).mono ?_; rintro e w' ⟨rfl, ⟨nd0, rfl⟩⟩) | (go_at_call 24; with_reducible refine (spec_CmdOk.calls k _ _ _ _ _ _ _ HK.out).mono ?_; rintro e w2 ⟨rfl, hb⟩; have hz := blk_below (g := w.heap.size) (o := .cells #[.int .i64 0, .int .i64 0, .int .i64 0, .int .i64 0, .string (⟨#[]⟩ : ByteArray)] 34 (0, 0)) (by repeat (with_reducible first | exact blk_new _ _ | refine cr_fr ?_ (by omega) _ | refine blk_drewN ?_ _ | refine blk_alloc ?_ _)) hb; have hy := blk_below (g := w.heap.size + 1) (o := .cells #[.int .i64 0, .int .i64 0, .int .i64 0, .int .i64 0, .string (⟨#[]⟩ : ByteArray)] 34 (0, 0)) (by repeat (with_reducible first | refine cr_fr ?_ (by omega) _ | refine blk_drewN ?_ _ | exact cr_at (by simp) | refine blk_drewN ?_ _ | refine blk_alloc ?_ _)) hb; have hx := blk_below (g := w.heap.size + 1 + 1) (o := .cells #[.int .i64 3, .int .i64 x2, .int .i64 x3, .int .i64 0, .string (⟨#[]⟩ : ByteArray)] 34 (0, 0)) (by exact (blk_set (blk_drewN (blk_set (blk_drewN (cr_at (by simp)) _) 1 _) _) 2 _).trans rfl) hb; have HB2 : Aside0 (Below w.heap.size w w2) := ⟨below_step (by repeat (with_reducible first | exact Below.refl _ _ | apply below_alloc | apply pw_below_drewN | refine below_set ?_ (by omega))) hb⟩; have HZ := Aside0.mk hz; have y0 := (blk_cell hy 0).trans rfl; have x0_ := (blk_cell hx 0).trans rfl; have z0_ := (blk_cell hz 0).trans rfl; have y1 := (blk_cell hy 1).trans rfl; have x1_ := (blk_cell hx 1).trans rfl; have z1_ := (blk_cell hz 1).trans rfl; have y2 := (blk_cell hy 2).trans rfl; have x2_ := (blk_cell hx 2).trans rfl; have z2_ := (blk_cell hz 2).trans rfl; have y3 := (blk_cell hy 3).trans rfl; have x3_ := (blk_cell hx 3).trans rfl; have z3_ := (blk_cell hz 3).trans rfl; have y4 := (blk_cell hy 4).trans rfl; have x4_ := (blk_cell hx 4).trans rfl; have z4_ := (blk_cell hz 4).trans rfl; have hfz := fun (i_ : Nat) => blk_frozen hz i_; clear hb hz hy hx))
                refine bodyPost_ret (results_ctt rfl _ _ w.heap.size 34 #[.int .i64 0, .int .i64 0, .int .i64 0, .int .i64 0, .string (⟨#[]⟩ : ByteArray)] (0, 0) _ rfl (by (with_reducible repeat (first | refine blk_drewN ?_ _ | refine blk_alloc ?_ _)); with_reducible refine cr_set5 ?_; repeat (with_reducible first | exact HZ.out | exact blk_new _ _ | refine cr_fr ?_ (by omega) _ | refine blk_drewN ?_ _ | refine blk_alloc ?_ _)) hu rfl (by kernel_rfl)) rfl ?_; exact ⟨by first | rfl | (simp; done) | (simp [*]; done), by repeat (with_reducible first | exact HB2.out | exact Below.refl _ _ | apply below_alloc | apply pw_below_drewN | refine below_set ?_ (by omega))⟩
              · simp only [↓reduceIte, Option.some.injEq, Prod.mk.injEq] at h
                obtain ⟨rfl, rfl, rfl, rfl, rfl, rfl, rfl⟩ := h
                go_enter Try.func27, Try.ntmps27
                go_wp2_with (first | (go_at_call 92; with_reducible refine (spec_GetNum.calls k A0 c0 l0 a1 3 p1 true _ (Kd.C_below HR.out (by repeat (with_reducible first | exact Below.refl _ _ | apply below_alloc | apply pw_below_drewN | refine below_set ?_ (by omega)))) HC.out HA1.out).mono ?_; rintro e w' ⟨rfl, ⟨nd1, rfl⟩⟩) | (go_at_call 92; with_reducible refine (spec_GetNum.calls k A0 c0 l0 p1 x2 p2 true _ (Kd.C_below HR.out (by repeat (with_reducible first | exact Below.refl _ _ | apply below_alloc | apply pw_below_drewN | refine below_set ?_ (by omega)))) HC.out HA2.out).mono ?_; rintro e w' ⟨rfl, ⟨nd2, rfl⟩⟩) | (go_at_call 92; with_reducible refine (spec_GetNum.calls k A0 c0 l0 p2 x3 p3 true _ (Kd.C_below HR.out (by repeat (with_reducible first | exact Below.refl _ _ | apply below_alloc | apply pw_below_drewN | refine below_set ?_ (by omega)))) HC.out HA3.out).mono ?_; rintro e w' ⟨rfl, ⟨nd3, rfl⟩⟩) | (go_at_call 87; with_reducible refine (spec_l1In.calls 3 1 5 true _ HO.out).mono ?_; rintro e w' ⟨rfl, ⟨nd0, rfl⟩⟩) | (go_at_call 24; with_reducible refine (spec_CmdOk.calls k _ _ _ _ _ _ _ HK.out).mono ?_; rintro e w2 ⟨rfl, hb⟩; have hz := blk_below (g := w.heap.size) (o := .cells #[.int .i64 0, .int .i64 0, .int .i64 0, .int .i64 0, .string (⟨#[]⟩ : ByteArray)] 34 (0, 0)) (by repeat (with_reducible first | exact blk_new _ _ | refine cr_fr ?_ (by omega) _ | refine blk_drewN ?_ _ | refine blk_alloc ?_ _)) hb; have hy := blk_below (g := w.heap.size + 1) (o := .cells #[.int .i64 0, .int .i64 0, .int .i64 0, .int .i64 0, .string (⟨#[]⟩ : ByteArray)] 34 (0, 0)) (by repeat (with_reducible first | refine cr_fr ?_ (by omega) _ | refine blk_drewN ?_ _ | exact cr_at (by simp) | refine blk_drewN ?_ _ | refine blk_alloc ?_ _)) hb; have hx := blk_below (g := w.heap.size + 1 + 1) (o := .cells #[.int .i64 3, .int .i64 x2, .int .i64 x3, .int .i64 0, .string (⟨#[]⟩ : ByteArray)] 34 (0, 0)) (by exact (blk_set (blk_drewN (blk_set (blk_drewN (cr_at (by simp)) _) 1 _) _) 2 _).trans rfl) hb; have HB2 : Aside0 (Below w.heap.size w w2) := ⟨below_step (by repeat (with_reducible first | exact Below.refl _ _ | apply below_alloc | apply pw_below_drewN | refine below_set ?_ (by omega))) hb⟩; have HZ := Aside0.mk hz; have y0 := (blk_cell hy 0).trans rfl; have x0_ := (blk_cell hx 0).trans rfl; have z0_ := (blk_cell hz 0).trans rfl; have y1 := (blk_cell hy 1).trans rfl; have x1_ := (blk_cell hx 1).trans rfl; have z1_ := (blk_cell hz 1).trans rfl; have y2 := (blk_cell hy 2).trans rfl; have x2_ := (blk_cell hx 2).trans rfl; have z2_ := (blk_cell hz 2).trans rfl; have y3 := (blk_cell hy 3).trans rfl; have x3_ := (blk_cell hx 3).trans rfl; have z3_ := (blk_cell hz 3).trans rfl; have y4 := (blk_cell hy 4).trans rfl; have x4_ := (blk_cell hx 4).trans rfl; have z4_ := (blk_cell hz 4).trans rfl; have hfz := fun (i_ : Nat) => blk_frozen hz i_; clear hb hz hy hx))
                refine bodyPost_ret (results_ctt rfl _ _ w.heap.size 34 #[.int .i64 3, .int .i64 x2, .int .i64 x3, .int .i64 0, .string (⟨#[]⟩ : ByteArray)] (0, 0) _ rfl (by (with_reducible repeat (first | refine blk_drewN ?_ _ | refine blk_alloc ?_ _)); with_reducible refine cr_set5 ?_; repeat (with_reducible first | exact HZ.out | exact blk_new _ _ | refine cr_fr ?_ (by omega) _ | refine blk_drewN ?_ _ | refine blk_alloc ?_ _)) hu rfl (by kernel_rfl)) rfl ?_; exact ⟨by first | rfl | (simp; done) | (simp [*]; done), by repeat (with_reducible first | exact HB2.out | exact Below.refl _ _ | apply below_alloc | apply pw_below_drewN | refine below_set ?_ (by omega))⟩
          · rw [if_neg e3] at h
            have e3b : (x1 == 3) = false := beq_eq_false_iff_ne.mpr e3
            clear e3
            by_cases e2 : x1 = 2
            · subst e2
              simp only [↓reduceIte] at h
              replace h := Option.bind_eq_some_iff.1 h; obtain ⟨⟨x3, p3, ok3⟩, hA, h⟩ := h
              simp only at h
              have HA3 := Aside0.mk hA
              clear hA
              cases ok3
              · simp only [Bool.false_eq_true, ↓reduceIte, Option.some.injEq, Prod.mk.injEq] at h
                obtain ⟨rfl, rfl, rfl, rfl, rfl, rfl, rfl⟩ := h
                go_enter Try.func27, Try.ntmps27
                go_wp2_with (first | (go_at_call 92; with_reducible refine (spec_GetNum.calls k A0 c0 l0 a1 2 p1 true _ (Kd.C_below HR.out (by repeat (with_reducible first | exact Below.refl _ _ | apply below_alloc | apply pw_below_drewN | refine below_set ?_ (by omega)))) HC.out HA1.out).mono ?_; rintro e w' ⟨rfl, ⟨nd1, rfl⟩⟩) | (go_at_call 92; with_reducible refine (spec_GetNum.calls k A0 c0 l0 p1 x2 p2 true _ (Kd.C_below HR.out (by repeat (with_reducible first | exact Below.refl _ _ | apply below_alloc | apply pw_below_drewN | refine below_set ?_ (by omega)))) HC.out HA2.out).mono ?_; rintro e w' ⟨rfl, ⟨nd2, rfl⟩⟩) | (go_at_call 92; with_reducible refine (spec_GetNum.calls k A0 c0 l0 p2 x3 p3 false _ (Kd.C_below HR.out (by repeat (with_reducible first | exact Below.refl _ _ | apply below_alloc | apply pw_below_drewN | refine below_set ?_ (by omega)))) HC.out HA3.out).mono ?_; rintro e w' ⟨rfl, ⟨nd3, rfl⟩⟩) | (go_at_call 87; with_reducible refine (spec_l1In.calls 2 1 5 true _ HO.out).mono ?_; rintro e w' ⟨rfl, ⟨nd0, rfl⟩⟩))
                refine bodyPost_ret (results_ctt rfl _ _ w.heap.size 34 #[.int .i64 0, .int .i64 0, .int .i64 0, .int .i64 0, .string (⟨#[]⟩ : ByteArray)] (0, 0) _ rfl (by (with_reducible repeat (first | refine blk_drewN ?_ _ | refine blk_alloc ?_ _)); with_reducible refine cr_set5 ?_; repeat (with_reducible first | exact HZ.out | exact blk_new _ _ | refine cr_fr ?_ (by omega) _ | refine blk_drewN ?_ _ | refine blk_alloc ?_ _)) hu rfl (by kernel_rfl)) rfl ?_; exact ⟨by first | rfl | (simp; done) | (simp [*]; done), by repeat (with_reducible first | exact Below.refl _ _ | apply below_alloc | apply pw_below_drewN | refine below_set ?_ (by omega))⟩
              · simp only [↓reduceIte] at h
                by_cases e4 : wrap64 ((l0.length : Int) - p3) ≥ 32
                · rw [if_pos e4] at h
                  have e4b : decide (32 ≤ wrap64 ((l0.length : Int) - p3)) = true := decide_eq_true e4
                  clear e4
                  split at h
                  · rename_i hb
                    obtain ⟨b0, b2⟩ := hb
                    have hcap := HC.out
                    have hmx := Kd.C_max HR.out
                    have f1 : wrap64 (p3 + 32) = p3 + 32 := by unfold wrap64; omega
                    obtain ⟨i0, hi0, _, hsz, _⟩ := info_parts info5
                    obtain ⟨A2, hcut, hA2, hC2⟩ := print_mid_of (P := Try.prog) (Value.int .u8) 0 22 5 .i64 .i64 Try.underlying22 hi0 hsz A0 c0 l0 p3 (p3 + 32) b0 (by omega) b2 hcap
                    have hcv0 : ∀ W, Below w.heap.size w W → (convert 22 9 (.slice A2 ((p3 + 32).toNat - p3.toNat) (c0 - p3.toNat))).run Try.prog W = .ok (.string (strOfNums ((l0.take (p3 + 32).toNat).drop p3.toNat))) W := fun W hW =>
                      Kd.C_string Try.underlying22 Try.underlying5 Try.underlying9 (by
                        have h_ := Kd.C_of_reads (h1 := fun _ => rfl) (hA2 _ (Kd.reads_of_C (Kd.C_below HR.out hW)))
                        rw [show ((l0.take (p3 + 32).toNat).drop p3.toNat).length = (p3 + 32).toNat - p3.toNat from by rw [List.length_drop, List.length_take]; omega] at h_
                        exact h_)
                    rw [show ((l0.take (p3 + 32).toNat).drop p3.toNat).length = (p3 + 32).toNat - p3.toNat from by rw [List.length_drop, List.length_take]; omega] at hcut
                    have HCV := Aside0.mk hcv0
                    clear hA2 hC2 hi0 hsz b0 b2 hcap hmx hcv0
                    unfold crFin at h
                    simp only [↓reduceIte] at h
                    replace h := Option.bind_eq_some_iff.1 h; obtain ⟨o, hK, h⟩ := h
                    have HK := Aside0.mk hK
                    clear hK
                    cases o
                    · simp only [Bool.false_eq_true, ↓reduceIte, Option.some.injEq, Prod.mk.injEq] at h
                      obtain ⟨rfl, rfl, rfl, rfl, rfl, rfl, rfl⟩ := h
                      go_enter Try.func27, Try.ntmps27
                      go_wp2_with (first | (go_at_call 92; with_reducible refine (spec_GetNum.calls k A0 c0 l0 a1 2 p1 true _ (Kd.C_below HR.out (by repeat (with_reducible first | exact Below.refl _ _ | apply below_alloc | apply pw_below_drewN | refine below_set ?_ (by omega)))) HC.out HA1.out).mono ?_; rintro e w' ⟨rfl, ⟨nd1, rfl⟩⟩) | (go_at_call 92; with_reducible refine (spec_GetNum.calls k A0 c0 l0 p1 x2 p2 true _ (Kd.C_below HR.out (by repeat (with_reducible first | exact Below.refl _ _ | apply below_alloc | apply pw_below_drewN | refine below_set ?_ (by omega)))) HC.out HA2.out).mono ?_; rintro e w' ⟨rfl, ⟨nd2, rfl⟩⟩) | (go_at_call 92; with_reducible refine (spec_GetNum.calls k A0 c0 l0 p2 x3 p3 true _ (Kd.C_below HR.out (by repeat (with_reducible first | exact Below.refl _ _ | apply below_alloc | apply pw_below_drewN | refine below_set ?_ (by omega)))) HC.out HA3.out).mono ?_; rintro e w' ⟨rfl, ⟨nd3, rfl⟩⟩; have hcv := HCV.out (World.setCell (World.drewN (World.setCell (World.drewN (World.alloc (World.drewN (World.alloc (World.alloc w (.cells #[.int .i64 0, .int .i64 0, .int .i64 0, .int .i64 0, .string (⟨#[]⟩ : ByteArray)] 34 (0, 0))) (.cells #[.int .i64 0, .int .i64 0, .int .i64 0, .int .i64 0, .string (⟨#[]⟩ : ByteArray)] 34 (0, 0))) (nd1 + nd0)) (.cells #[.int .i64 2, .int .i64 0, .int .i64 0, .int .i64 0, .string (⟨#[]⟩ : ByteArray)] 34 (0, 0))) nd2) ⟨w.heap.size + 1 + 1, 1, none⟩ (.int .i64 x2)) nd3) ⟨w.heap.size + 1 + 1, 3, none⟩ (.int .i64 x3)) (by repeat (with_reducible first | exact Below.refl _ _ | apply below_alloc | apply pw_below_drewN | refine below_set ?_ (by omega)))) | (go_at_call 87; with_reducible refine (spec_l1In.calls 2 1 5 true _ HO.out).mono ?_; rintro e w' ⟨rfl, ⟨nd0, rfl⟩⟩) | (go_at_call 24; with_reducible refine (spec_CmdOk.calls k _ _ _ _ _ _ _ HK.out).mono ?_; rintro e w2 ⟨rfl, hb⟩; have hz := blk_below (g := w.heap.size) (o := .cells #[.int .i64 0, .int .i64 0, .int .i64 0, .int .i64 0, .string (⟨#[]⟩ : ByteArray)] 34 (0, 0)) (by repeat (with_reducible first | exact blk_new _ _ | refine cr_fr ?_ (by omega) _ | refine blk_drewN ?_ _ | refine blk_alloc ?_ _)) hb; have hy := blk_below (g := w.heap.size + 1) (o := .cells #[.int .i64 0, .int .i64 0, .int .i64 0, .int .i64 0, .string (⟨#[]⟩ : ByteArray)] 34 (0, 0)) (by repeat (with_reducible first | refine cr_fr ?_ (by omega) _ | refine blk_drewN ?_ _ | exact cr_at (by simp) | refine blk_drewN ?_ _ | refine blk_alloc ?_ _)) hb; have hx := blk_below (g := w.heap.size + 1 + 1) (o := .cells #[.int .i64 2, .int .i64 x2, .int .i64 0, .int .i64 x3, .string (strOfNums ((l0.take (p3 + 32).toNat).drop p3.toNat))] 34 (0, 0)) (by exact (blk_set (blk_set (blk_drewN (blk_set (blk_drewN (cr_at (by simp)) _) 1 _) _) 3 _) 4 _).trans rfl) hb; have HB2 : Aside0 (Below w.heap.size w w2) := ⟨below_step (by repeat (with_reducible first | exact Below.refl _ _ | apply below_alloc | apply pw_below_drewN | refine below_set ?_ (by omega))) hb⟩; have HZ := Aside0.mk hz; have y0 := (blk_cell hy 0).trans rfl; have x0_ := (blk_cell hx 0).trans rfl; have z0_ := (blk_cell hz 0).trans rfl; have y1 := (blk_cell hy 1).trans rfl; have x1_ := (blk_cell hx 1).trans rfl; have z1_ := (blk_cell hz 1).trans rfl; have y2 := (blk_cell hy 2).trans rfl; have x2_ := (blk_cell hx 2).trans rfl; have z2_ := (blk_cell hz 2).trans rfl; have y3 := (blk_cell hy 3).trans rfl; have x3_ := (blk_cell hx 3).trans rfl; have z3_ := (blk_cell hz 3).trans rfl; have y4 := (blk_cell hy 4).trans rfl; have x4_ := (blk_cell hx 4).trans rfl; have z4_ := (blk_cell hz 4).trans rfl; have hfz := fun (i_ : Nat) => blk_frozen hz i_; clear hb hz hy hx))
                      refine bodyPost_ret (results_ctt rfl _ _ w.heap.size 34 #[.int .i64 0, .int .i64 0, .int .i64 0, .int .i64 0, .string (⟨#[]⟩ : ByteArray)] (0, 0) _ rfl (by (with_reducible repeat (first | refine blk_drewN ?_ _ | refine blk_alloc ?_ _)); with_reducible refine cr_set5 ?_; repeat (with_reducible first | exact HZ.out | exact blk_new _ _ | refine cr_fr ?_ (by omega) _ | refine blk_drewN ?_ _ | refine blk_alloc ?_ _)) hu rfl (by kernel_rfl)) rfl ?_; exact ⟨by first | rfl | (simp; done) | (simp [*]; done), by repeat (with_reducible first | exact HB2.out | exact Below.refl _ _ | apply below_alloc | apply pw_below_drewN | refine below_set ?_ (by omega))⟩
                    · simp only [↓reduceIte, Option.some.injEq, Prod.mk.injEq] at h
                      obtain ⟨rfl, rfl, rfl, rfl, rfl, rfl, rfl⟩ := h
                      go_enter Try.func27, Try.ntmps27
                      go_wp2_with (first | (go_at_call 92; with_reducible refine (spec_GetNum.calls k A0 c0 l0 a1 2 p1 true _ (Kd.C_below HR.out (by repeat (with_reducible first | exact Below.refl _ _ | apply below_alloc | apply pw_below_drewN | refine below_set ?_ (by omega)))) HC.out HA1.out).mono ?_; rintro e w' ⟨rfl, ⟨nd1, rfl⟩⟩) | (go_at_call 92; with_reducible refine (spec_GetNum.calls k A0 c0 l0 p1 x2 p2 true _ (Kd.C_below HR.out (by repeat (with_reducible first | exact Below.refl _ _ | apply below_alloc | apply pw_below_drewN | refine below_set ?_ (by omega)))) HC.out HA2.out).mono ?_; rintro e w' ⟨rfl, ⟨nd2, rfl⟩⟩) | (go_at_call 92; with_reducible refine (spec_GetNum.calls k A0 c0 l0 p2 x3 p3 true _ (Kd.C_below HR.out (by repeat (with_reducible first | exact Below.refl _ _ | apply below_alloc | apply pw_below_drewN | refine below_set ?_ (by omega)))) HC.out HA3.out).mono ?_; rintro e w' ⟨rfl, ⟨nd3, rfl⟩⟩; have hcv := HCV.out (World.setCell (World.drewN (World.setCell (World.drewN (World.alloc (World.drewN (World.alloc (World.alloc w (.cells #[.int .i64 0, .int .i64 0, .int .i64 0, .int .i64 0, .string (⟨#[]⟩ : ByteArray)] 34 (0, 0))) (.cells #[.int .i64 0, .int .i64 0, .int .i64 0, .int .i64 0, .string (⟨#[]⟩ : ByteArray)] 34 (0, 0))) (nd1 + nd0)) (.cells #[.int .i64 2, .int .i64 0, .int .i64 0, .int .i64 0, .string (⟨#[]⟩ : ByteArray)] 34 (0, 0))) nd2) ⟨w.heap.size + 1 + 1, 1, none⟩ (.int .i64 x2)) nd3) ⟨w.heap.size + 1 + 1, 3, none⟩ (.int .i64 x3)) (by repeat (with_reducible first | exact Below.refl _ _ | apply below_alloc | apply pw_below_drewN | refine below_set ?_ (by omega)))) | (go_at_call 87; with_reducible refine (spec_l1In.calls 2 1 5 true _ HO.out).mono ?_; rintro e w' ⟨rfl, ⟨nd0, rfl⟩⟩) | (go_at_call 24; with_reducible refine (spec_CmdOk.calls k _ _ _ _ _ _ _ HK.out).mono ?_; rintro e w2 ⟨rfl, hb⟩; have hz := blk_below (g := w.heap.size) (o := .cells #[.int .i64 0, .int .i64 0, .int .i64 0, .int .i64 0, .string (⟨#[]⟩ : ByteArray)] 34 (0, 0)) (by repeat (with_reducible first | exact blk_new _ _ | refine cr_fr ?_ (by omega) _ | refine blk_drewN ?_ _ | refine blk_alloc ?_ _)) hb; have hy := blk_below (g := w.heap.size + 1) (o := .cells #[.int .i64 0, .int .i64 0, .int .i64 0, .int .i64 0, .string (⟨#[]⟩ : ByteArray)] 34 (0, 0)) (by repeat (with_reducible first | refine cr_fr ?_ (by omega) _ | refine blk_drewN ?_ _ | exact cr_at (by simp) | refine blk_drewN ?_ _ | refine blk_alloc ?_ _)) hb; have hx := blk_below (g := w.heap.size + 1 + 1) (o := .cells #[.int .i64 2, .int .i64 x2, .int .i64 0, .int .i64 x3, .string (strOfNums ((l0.take (p3 + 32).toNat).drop p3.toNat))] 34 (0, 0)) (by exact (blk_set (blk_set (blk_drewN (blk_set (blk_drewN (cr_at (by simp)) _) 1 _) _) 3 _) 4 _).trans rfl) hb; have HB2 : Aside0 (Below w.heap.size w w2) := ⟨below_step (by repeat (with_reducible first | exact Below.refl _ _ | apply below_alloc | apply pw_below_drewN | refine below_set ?_ (by omega))) hb⟩; have HZ := Aside0.mk hz; have y0 := (blk_cell hy 0).trans rfl; have x0_ := (blk_cell hx 0).trans rfl; have z0_ := (blk_cell hz 0).trans rfl; have y1 := (blk_cell hy 1).trans rfl; have x1_ := (blk_cell hx 1).trans rfl; have z1_ := (blk_cell hz 1).trans rfl; have y2 := (blk_cell hy 2).trans rfl; have x2_ := (blk_cell hx 2).trans rfl; have z2_ := (blk_cell hz 2).trans rfl; have y3 := (blk_cell hy 3).trans rfl; have x3_ := (blk_cell hx 3).trans rfl; have z3_ := (blk_cell hz 3).trans rfl; have y4 := (blk_cell hy 4).trans rfl; have x4_ := (blk_cell hx 4).trans rfl; have z4_ := (blk_cell hz 4).trans rfl; have hfz := fun (i_ : Nat) => blk_frozen hz i_; clear hb hz hy hx))
                      refine bodyPost_ret (results_ctt rfl _ _ w.heap.size 34 #[.int .i64 2, .int .i64 x2, .int .i64 0, .int .i64 x3, .string (strOfNums ((l0.take (p3 + 32).toNat).drop p3.toNat))] (0, 0) _ rfl (by (with_reducible repeat (first | refine blk_drewN ?_ _ | refine blk_alloc ?_ _)); with_reducible refine cr_set5 ?_; repeat (with_reducible first | exact HZ.out | exact blk_new _ _ | refine cr_fr ?_ (by omega) _ | refine blk_drewN ?_ _ | refine blk_alloc ?_ _)) hu rfl (by kernel_rfl)) rfl ?_; exact ⟨by first | rfl | (simp; done) | (simp [*]; done), by repeat (with_reducible first | exact HB2.out | exact Below.refl _ _ | apply below_alloc | apply pw_below_drewN | refine below_set ?_ (by omega))⟩
                  · exact absurd h (by simp)
                · rw [if_neg e4] at h
                  have e4b : decide (32 ≤ wrap64 ((l0.length : Int) - p3)) = false := decide_eq_false e4
                  clear e4
                  unfold crFin at h
                  simp only [↓reduceIte] at h
                  replace h := Option.bind_eq_some_iff.1 h; obtain ⟨o, hK, h⟩ := h
                  have HK := Aside0.mk hK
                  clear hK
                  cases o
                  · simp only [Bool.false_eq_true, ↓reduceIte, Option.some.injEq, Prod.mk.injEq] at h
                    obtain ⟨rfl, rfl, rfl, rfl, rfl, rfl, rfl⟩ := h
                    go_enter Try.func27, Try.ntmps27
                    go_wp2_with (first | (go_at_call 92; with_reducible refine (spec_GetNum.calls k A0 c0 l0 a1 2 p1 true _ (Kd.C_below HR.out (by repeat (with_reducible first | exact Below.refl _ _ | apply below_alloc | apply pw_below_drewN | refine below_set ?_ (by omega)))) HC.out HA1.out).mono ?_; rintro e w' ⟨rfl, ⟨nd1, rfl⟩⟩) | (go_at_call 92; with_reducible refine (spec_GetNum.calls k A0 c0 l0 p1 x2 p2 true _ (Kd.C_below HR.out (by repeat (with_reducible first | exact Below.refl _ _ | apply below_alloc | apply pw_below_drewN | refine below_set ?_ (by omega)))) HC.out HA2.out).mono ?_; rintro e w' ⟨rfl, ⟨nd2, rfl⟩⟩) | (go_at_call 92; with_reducible refine (spec_GetNum.calls k A0 c0 l0 p2 x3 p3 true _ (Kd.C_below HR.out (by repeat (with_reducible first | exact Below.refl _ _ | apply below_alloc | apply pw_below_drewN | refine below_set ?_ (by omega)))) HC.out HA3.out).mono ?_; rintro e w' ⟨rfl, ⟨nd3, rfl⟩⟩) | (go_at_call 87; with_reducible refine (spec_l1In.calls 2 1 5 true _ HO.out).mono ?_; rintro e w' ⟨rfl, ⟨nd0, rfl⟩⟩) | (go_at_call 24; with_reducible refine (spec_CmdOk.calls k _ _ _ _ _ _ _ HK.out).mono ?_; rintro e w2 ⟨rfl, hb⟩; have hz := blk_below (g := w.heap.size) (o := .cells #[.int .i64 0, .int .i64 0, .int .i64 0, .int .i64 0, .string (⟨#[]⟩ : ByteArray)] 34 (0, 0)) (by repeat (with_reducible first | exact blk_new _ _ | refine cr_fr ?_ (by omega) _ | refine blk_drewN ?_ _ | refine blk_alloc ?_ _)) hb; have hy := blk_below (g := w.heap.size + 1) (o := .cells #[.int .i64 0, .int .i64 0, .int .i64 0, .int .i64 0, .string (⟨#[]⟩ : ByteArray)] 34 (0, 0)) (by repeat (with_reducible first | refine cr_fr ?_ (by omega) _ | refine blk_drewN ?_ _ | exact cr_at (by simp) | refine blk_drewN ?_ _ | refine blk_alloc ?_ _)) hb; have hx := blk_below (g := w.heap.size + 1 + 1) (o := .cells #[.int .i64 2, .int .i64 x2, .int .i64 0, .int .i64 x3, .string (⟨#[]⟩ : ByteArray)] 34 (0, 0)) (by exact (blk_set (blk_drewN (blk_set (blk_drewN (cr_at (by simp)) _) 1 _) _) 3 _).trans rfl) hb; have HB2 : Aside0 (Below w.heap.size w w2) := ⟨below_step (by repeat (with_reducible first | exact Below.refl _ _ | apply below_alloc | apply pw_below_drewN | refine below_set ?_ (by omega))) hb⟩; have HZ := Aside0.mk hz; have y0 := (blk_cell hy 0).trans rfl; have x0_ := (blk_cell hx 0).trans rfl; have z0_ := (blk_cell hz 0).trans rfl; have y1 := (blk_cell hy 1).trans rfl; have x1_ := (blk_cell hx 1).trans rfl; have z1_ := (blk_cell hz 1).trans rfl; have y2 := (blk_cell hy 2).trans rfl; have x2_ := (blk_cell hx 2).trans rfl; have z2_ := (blk_cell hz 2).trans rfl; have y3 := (blk_cell hy 3).trans rfl; have x3_ := (blk_cell hx 3).trans rfl; have z3_ := (blk_cell hz 3).trans rfl; have y4 := (blk_cell hy 4).trans rfl; have x4_ := (blk_cell hx 4).trans rfl; have z4_ := (blk_cell hz 4).trans rfl; have hfz := fun (i_ : Nat) => blk_frozen hz i_; clear hb hz hy hx))
                    refine bodyPost_ret (results_ctt rfl _ _ w.heap.size 34 #[.int .i64 0, .int .i64 0, .int .i64 0, .int .i64 0, .string (⟨#[]⟩ : ByteArray)] (0, 0) _ rfl (by (with_reducible repeat (first | refine blk_drewN ?_ _ | refine blk_alloc ?_ _)); with_reducible refine cr_set5 ?_; repeat (with_reducible first | exact HZ.out | exact blk_new _ _ | refine cr_fr ?_ (by omega) _ | refine blk_drewN ?_ _ | refine blk_alloc ?_ _)) hu rfl (by kernel_rfl)) rfl ?_; exact ⟨by first | rfl | (simp; done) | (simp [*]; done), by repeat (with_reducible first | exact HB2.out | exact Below.refl _ _ | apply below_alloc | apply pw_below_drewN | refine below_set ?_ (by omega))⟩
                  · simp only [↓reduceIte, Option.some.injEq, Prod.mk.injEq] at h
                    obtain ⟨rfl, rfl, rfl, rfl, rfl, rfl, rfl⟩ := h
                    go_enter Try.func27, Try.ntmps27
                    go_wp2_with (first | (go_at_call 92; with_reducible refine (spec_GetNum.calls k A0 c0 l0 a1 2 p1 true _ (Kd.C_below HR.out (by repeat (with_reducible first | exact Below.refl _ _ | apply below_alloc | apply pw_below_drewN | refine below_set ?_ (by omega)))) HC.out HA1.out).mono ?_; rintro e w' ⟨rfl, ⟨nd1, rfl⟩⟩) | (go_at_call 92; with_reducible refine (spec_GetNum.calls k A0 c0 l0 p1 x2 p2 true _ (Kd.C_below HR.out (by repeat (with_reducible first | exact Below.refl _ _ | apply below_alloc | apply pw_below_drewN | refine below_set ?_ (by omega)))) HC.out HA2.out).mono ?_; rintro e w' ⟨rfl, ⟨nd2, rfl⟩⟩) | (go_at_call 92; with_reducible refine (spec_GetNum.calls k A0 c0 l0 p2 x3 p3 true _ (Kd.C_below HR.out (by repeat (with_reducible first | exact Below.refl _ _ | apply below_alloc | apply pw_below_drewN | refine below_set ?_ (by omega)))) HC.out HA3.out).mono ?_; rintro e w' ⟨rfl, ⟨nd3, rfl⟩⟩) | (go_at_call 87; with_reducible refine (spec_l1In.calls 2 1 5 true _ HO.out).mono ?_; rintro e w' ⟨rfl, ⟨nd0, rfl⟩⟩) | (go_at_call 24; with_reducible refine (spec_CmdOk.calls k _ _ _ _ _ _ _ HK.out).mono ?_; rintro e w2 ⟨rfl, hb⟩; have hz := blk_below (g := w.heap.size) (o := .cells #[.int .i64 0, .int .i64 0, .int .i64 0, .int .i64 0, .string (⟨#[]⟩ : ByteArray)] 34 (0, 0)) (by repeat (with_reducible first | exact blk_new _ _ | refine cr_fr ?_ (by omega) _ | refine blk_drewN ?_ _ | refine blk_alloc ?_ _)) hb; have hy := blk_below (g := w.heap.size + 1) (o := .cells #[.int .i64 0, .int .i64 0, .int .i64 0, .int .i64 0, .string (⟨#[]⟩ : ByteArray)] 34 (0, 0)) (by repeat (with_reducible first | refine cr_fr ?_ (by omega) _ | refine blk_drewN ?_ _ | exact cr_at (by simp) | refine blk_drewN ?_ _ | refine blk_alloc ?_ _)) hb; have hx := blk_below (g := w.heap.size + 1 + 1) (o := .cells #[.int .i64 2, .int .i64 x2, .int .i64 0, .int .i64 x3, .string (⟨#[]⟩ : ByteArray)] 34 (0, 0)) (by exact (blk_set (blk_drewN (blk_set (blk_drewN (cr_at (by simp)) _) 1 _) _) 3 _).trans rfl) hb; have HB2 : Aside0 (Below w.heap.size w w2) := ⟨below_step (by repeat (with_reducible first | exact Below.refl _ _ | apply below_alloc | apply pw_below_drewN | refine below_set ?_ (by omega))) hb⟩; have HZ := Aside0.mk hz; have y0 := (blk_cell hy 0).trans rfl; have x0_ := (blk_cell hx 0).trans rfl; have z0_ := (blk_cell hz 0).trans rfl; have y1 := (blk_cell hy 1).trans rfl; have x1_ := (blk_cell hx 1).trans rfl; have z1_ := (blk_cell hz 1).trans rfl; have y2 := (blk_cell hy 2).trans rfl; have x2_ := (blk_cell hx 2).trans rfl; have z2_ := (blk_cell hz 2).trans rfl; have y3 := (blk_cell hy 3).trans rfl; have x3_ := (blk_cell hx 3).trans rfl; have z3_ := (blk_cell hz 3).trans rfl; have y4 := (blk_cell hy 4).trans rfl; have x4_ := (blk_cell hx 4).trans rfl; have z4_ := (blk_cell hz 4).trans rfl; have hfz := fun (i_ : Nat) => blk_frozen hz i_; clear hb hz hy hx))
                    refine bodyPost_ret (results_ctt rfl _ _ w.heap.size 34 #[.int .i64 2, .int .i64 x2, .int .i64 0, .int .i64 x3, .string (⟨#[]⟩ : ByteArray)] (0, 0) _ rfl (by (with_reducible repeat (first | refine blk_drewN ?_ _ | refine blk_alloc ?_ _)); with_reducible refine cr_set5 ?_; repeat (with_reducible first | exact HZ.out | exact blk_new _ _ | refine cr_fr ?_ (by omega) _ | refine blk_drewN ?_ _ | refine blk_alloc ?_ _)) hu rfl (by kernel_rfl)) rfl ?_; exact ⟨by first | rfl | (simp; done) | (simp [*]; done), by repeat (with_reducible first | exact HB2.out | exact Below.refl _ _ | apply below_alloc | apply pw_below_drewN | refine below_set ?_ (by omega))⟩
            · rw [if_neg e2] at h
              have e2b : (x1 == 2) = false := beq_eq_false_iff_ne.mpr e2
              clear e2
              unfold crFin at h
              simp only [↓reduceIte] at h
              replace h := Option.bind_eq_some_iff.1 h; obtain ⟨o, hK, h⟩ := h
              have HK := Aside0.mk hK
              clear hK
              cases o
              · simp only [Bool.false_eq_true, ↓reduceIte, Option.some.injEq, Prod.mk.injEq] at h
                obtain ⟨rfl, rfl, rfl, rfl, rfl, rfl, rfl⟩ := h
                go_enter Try.func27, Try.ntmps27
                go_wp2_with (first | (go_at_call 92; with_reducible refine (spec_GetNum.calls k A0 c0 l0 a1 x1 p1 true _ (Kd.C_below HR.out (by repeat (with_reducible first | exact Below.refl _ _ | apply below_alloc | apply pw_below_drewN | refine below_set ?_ (by omega)))) HC.out HA1.out).mono ?_; rintro e w' ⟨rfl, ⟨nd1, rfl⟩⟩) | (go_at_call 92; with_reducible refine (spec_GetNum.calls k A0 c0 l0 p1 x2 p2 true _ (Kd.C_below HR.out (by repeat (with_reducible first | exact Below.refl _ _ | apply below_alloc | apply pw_below_drewN | refine below_set ?_ (by omega)))) HC.out HA2.out).mono ?_; rintro e w' ⟨rfl, ⟨nd2, rfl⟩⟩) | (go_at_call 87; with_reducible refine (spec_l1In.calls x1 1 5 true _ HO.out).mono ?_; rintro e w' ⟨rfl, ⟨nd0, rfl⟩⟩) | (go_at_call 24; with_reducible refine (spec_CmdOk.calls k _ _ _ _ _ _ _ HK.out).mono ?_; rintro e w2 ⟨rfl, hb⟩; have hz := blk_below (g := w.heap.size) (o := .cells #[.int .i64 0, .int .i64 0, .int .i64 0, .int .i64 0, .string (⟨#[]⟩ : ByteArray)] 34 (0, 0)) (by repeat (with_reducible first | exact blk_new _ _ | refine cr_fr ?_ (by omega) _ | refine blk_drewN ?_ _ | refine blk_alloc ?_ _)) hb; have hy := blk_below (g := w.heap.size + 1) (o := .cells #[.int .i64 0, .int .i64 0, .int .i64 0, .int .i64 0, .string (⟨#[]⟩ : ByteArray)] 34 (0, 0)) (by repeat (with_reducible first | refine cr_fr ?_ (by omega) _ | refine blk_drewN ?_ _ | exact cr_at (by simp) | refine blk_drewN ?_ _ | refine blk_alloc ?_ _)) hb; have hx := blk_below (g := w.heap.size + 1 + 1) (o := .cells #[.int .i64 x1, .int .i64 x2, .int .i64 0, .int .i64 0, .string (⟨#[]⟩ : ByteArray)] 34 (0, 0)) (by exact (blk_set (blk_drewN (cr_at (by simp)) _) 1 _).trans rfl) hb; have HB2 : Aside0 (Below w.heap.size w w2) := ⟨below_step (by repeat (with_reducible first | exact Below.refl _ _ | apply below_alloc | apply pw_below_drewN | refine below_set ?_ (by omega))) hb⟩; have HZ := Aside0.mk hz; have y0 := (blk_cell hy 0).trans rfl; have x0_ := (blk_cell hx 0).trans rfl; have z0_ := (blk_cell hz 0).trans rfl; have y1 := (blk_cell hy 1).trans rfl; have x1_ := (blk_cell hx 1).trans rfl; have z1_ := (blk_cell hz 1).trans rfl; have y2 := (blk_cell hy 2).trans rfl; have x2_ := (blk_cell hx 2).trans rfl; have z2_ := (blk_cell hz 2).trans rfl; have y3 := (blk_cell hy 3).trans rfl; have x3_ := (blk_cell hx 3).trans rfl; have z3_ := (blk_cell hz 3).trans rfl; have y4 := (blk_cell hy 4).trans rfl; have x4_ := (blk_cell hx 4).trans rfl; have z4_ := (blk_cell hz 4).trans rfl; have hfz := fun (i_ : Nat) => blk_frozen hz i_; clear hb hz hy hx))
                refine bodyPost_ret (results_ctt rfl _ _ w.heap.size 34 #[.int .i64 0, .int .i64 0, .int .i64 0, .int .i64 0, .string (⟨#[]⟩ : ByteArray)] (0, 0) _ rfl (by (with_reducible repeat (first | refine blk_drewN ?_ _ | refine blk_alloc ?_ _)); with_reducible refine cr_set5 ?_; repeat (with_reducible first | exact HZ.out | exact blk_new _ _ | refine cr_fr ?_ (by omega) _ | refine blk_drewN ?_ _ | refine blk_alloc ?_ _)) hu rfl (by kernel_rfl)) rfl ?_; exact ⟨by first | rfl | (simp; done) | (simp [*]; done), by repeat (with_reducible first | exact HB2.out | exact Below.refl _ _ | apply below_alloc | apply pw_below_drewN | refine below_set ?_ (by omega))⟩
              · simp only [↓reduceIte, Option.some.injEq, Prod.mk.injEq] at h
                obtain ⟨rfl, rfl, rfl, rfl, rfl, rfl, rfl⟩ := h
                go_enter Try.func27, Try.ntmps27
                go_wp2_with (first | (go_at_call 92; with_reducible refine (spec_GetNum.calls k A0 c0 l0 a1 x1 p1 true _ (Kd.C_below HR.out (by repeat (with_reducible first | exact Below.refl _ _ | apply below_alloc | apply pw_below_drewN | refine below_set ?_ (by omega)))) HC.out HA1.out).mono ?_; rintro e w' ⟨rfl, ⟨nd1, rfl⟩⟩) | (go_at_call 92; with_reducible refine (spec_GetNum.calls k A0 c0 l0 p1 x2 p2 true _ (Kd.C_below HR.out (by repeat (with_reducible first | exact Below.refl _ _ | apply below_alloc | apply pw_below_drewN | refine below_set ?_ (by omega)))) HC.out HA2.out).mono ?_; rintro e w' ⟨rfl, ⟨nd2, rfl⟩⟩) | (go_at_call 87; with_reducible refine (spec_l1In.calls x1 1 5 true _ HO.out).mono ?_; rintro e w' ⟨rfl, ⟨nd0, rfl⟩⟩) | (go_at_call 24; with_reducible refine (spec_CmdOk.calls k _ _ _ _ _ _ _ HK.out).mono ?_; rintro e w2 ⟨rfl, hb⟩; have hz := blk_below (g := w.heap.size) (o := .cells #[.int .i64 0, .int .i64 0, .int .i64 0, .int .i64 0, .string (⟨#[]⟩ : ByteArray)] 34 (0, 0)) (by repeat (with_reducible first | exact blk_new _ _ | refine cr_fr ?_ (by omega) _ | refine blk_drewN ?_ _ | refine blk_alloc ?_ _)) hb; have hy := blk_below (g := w.heap.size + 1) (o := .cells #[.int .i64 0, .int .i64 0, .int .i64 0, .int .i64 0, .string (⟨#[]⟩ : ByteArray)] 34 (0, 0)) (by repeat (with_reducible first | refine cr_fr ?_ (by omega) _ | refine blk_drewN ?_ _ | exact cr_at (by simp) | refine blk_drewN ?_ _ | refine blk_alloc ?_ _)) hb; have hx := blk_below (g := w.heap.size + 1 + 1) (o := .cells #[.int .i64 x1, .int .i64 x2, .int .i64 0, .int .i64 0, .string (⟨#[]⟩ : ByteArray)] 34 (0, 0)) (by exact (blk_set (blk_drewN (cr_at (by simp)) _) 1 _).trans rfl) hb; have HB2 : Aside0 (Below w.heap.size w w2) := ⟨below_step (by repeat (with_reducible first | exact Below.refl _ _ | apply below_alloc | apply pw_below_drewN | refine below_set ?_ (by omega))) hb⟩; have HZ := Aside0.mk hz; have y0 := (blk_cell hy 0).trans rfl; have x0_ := (blk_cell hx 0).trans rfl; have z0_ := (blk_cell hz 0).trans rfl; have y1 := (blk_cell hy 1).trans rfl; have x1_ := (blk_cell hx 1).trans rfl; have z1_ := (blk_cell hz 1).trans rfl; have y2 := (blk_cell hy 2).trans rfl; have x2_ := (blk_cell hx 2).trans rfl; have z2_ := (blk_cell hz 2).trans rfl; have y3 := (blk_cell hy 3).trans rfl; have x3_ := (blk_cell hx 3).trans rfl; have z3_ := (blk_cell hz 3).trans rfl; have y4 := (blk_cell hy 4).trans rfl; have x4_ := (blk_cell hx 4).trans rfl; have z4_ := (blk_cell hz 4).trans rfl; have hfz := fun (i_ : Nat) => blk_frozen hz i_; clear hb hz hy hx))
                refine bodyPost_ret (results_ctt rfl _ _ w.heap.size 34 #[.int .i64 x1, .int .i64 x2, .int .i64 0, .int .i64 0, .string (⟨#[]⟩ : ByteArray)] (0, 0) _ rfl (by (with_reducible repeat (first | refine blk_drewN ?_ _ | refine blk_alloc ?_ _)); with_reducible refine cr_set5 ?_; repeat (with_reducible first | exact HZ.out | exact blk_new _ _ | refine cr_fr ?_ (by omega) _ | refine blk_drewN ?_ _ | refine blk_alloc ?_ _)) hu rfl (by kernel_rfl)) rfl ?_; exact ⟨by first | rfl | (simp; done) | (simp [*]; done), by repeat (with_reducible first | exact HB2.out | exact Below.refl _ _ | apply below_alloc | apply pw_below_drewN | refine below_set ?_ (by omega))⟩


end Go.Proofs.Ytnjpfllmcmomoaa.QFnCmd
