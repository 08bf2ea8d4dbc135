-- A walk, by a program of this session.
import Derived.Test.YtnjpfllmcmomoaaQFnFilesx0
import Derived.Test.YtnjpfllmcmomoaaQFnFilesx3
import Derived.Test.YtnjpfllmcmomoaaQFnFilesx5
import Derived.Test.YtnjpfllmcmomoaaQFnFilesx6
namespace Go.Proofs.Ytnjpfllmcmomoaa.QFnFiles
open Go.RowKit Go.Proofs.YtnjpfllmcmomoaaW.PrintWords Go.Proofs.YtnjpfllmcmomoaaW.PrintLast Go.Proofs.YtnjpfllmcmomoaaW.PrintMore
attribute [local go_sem] max2_int min2_int max_two min_two max_three min_three max_four min_four   -- for this text's walks alone
set_option linter.unusedVariables false
set_option linter.unusedSimpArgs false

/-! ### spec_l3DrawRight: function 158 -/
mutual
def spec_l3DrawRight.j0 : Nat → List Int → Int → Int → Int → Option (Int × (List (S134)) × Int × Int)
 | 0, _, _, _, _ => none
 | k + 1, x1000, x1001, x1002, x287000 => spec_l3DrawRight.l0 k 0 x1000 x1001 x1002 x287000 ([] : List (S134))
def spec_l3DrawRight.l0 : Nat → Int → List Int → Int → Int → Int → List (S134) → Option (Int × (List (S134)) × Int × Int)
 | 0, _, _, _, _, _, _ => none
 | k + 1, x4, x1000, x1001, x1002, x287000, x287001 => (spec_l1Below.f x1000 x1001 x1002 12).bind fun bt296 => (if x4 < bt296.1 then ((spec_l1Below.f x1000 bt296.2.1 bt296.2.2 5).bind fun bt300 => (if bt300.1 = 0 then (spec_l3DrawRight.j2 k x4 bt300.1 (bt300.1 == 0) x1000 bt300.2.1 bt300.2.2 x287000 x287001) else (if bt300.1 = 1 then (spec_l3DrawRight.j2 k x4 bt300.1 (bt300.1 == 1) x1000 bt300.2.1 bt300.2.2 x287000 x287001) else (spec_l3DrawRight.j2 k x4 bt300.1 (bt300.1 == 2) x1000 bt300.2.1 bt300.2.2 x287000 x287001)))) else (some (x287000, x287001, bt296.2.1, bt296.2.2)))
def spec_l3DrawRight.j2 : Nat → Int → Int → Bool → List Int → Int → Int → Int → List (S134) → Option (Int × (List (S134)) × Int × Int)
 | 0, _, _, _, _, _, _, _, _ => none
 | k + 1, x4, x25, x35, x1000, x1001, x1002, x287000, x287001 => if x35 = true then ((spec_l1Below.f x1000 x1001 x1002 5).bind fun bt303 => ((spec_l3DrawText.f k x1000 bt303.2.1 bt303.2.2 8).bind fun bt306 => ((spec_DiskAppend.f k x287000 x287001 bt303.1 bt306.1).bind fun bt309 => (if bt309.2.2 = 1 then (spec_l3DrawRight.l0 k (wrap64 (x4 + 1)) x1000 bt306.2.1 bt306.2.2 x287000 x287001) else (spec_l3DrawRight.l0 k (wrap64 (x4 + 1)) x1000 bt306.2.1 bt306.2.2 bt309.1 bt309.2.1))))) else (if x25 = 3 then ((spec_l1Below.f x1000 x1001 x1002 5).bind fun bt314 => ((spec_DiskSync.f k x287000 x287001 bt314.1).bind fun bt317 => (if bt317.2.2 = 1 then (spec_l3DrawRight.l0 k (wrap64 (x4 + 1)) x1000 bt314.2.1 bt314.2.2 x287000 x287001) else (spec_l3DrawRight.l0 k (wrap64 (x4 + 1)) x1000 bt314.2.1 bt314.2.2 bt317.1 bt317.2.1)))) else ((spec_l1Below.f x1000 x1001 x1002 5).bind fun bt322 => ((spec_l1Below.f x1000 bt322.2.1 bt322.2.2 8).bind fun bt325 => ((spec_DiskMove.f k x287000 x287001 bt322.1 bt325.1).bind fun bt328 => (if bt328.2.2 = 1 then (spec_l3DrawRight.l0 k (wrap64 (x4 + 1)) x1000 bt325.2.1 bt325.2.2 x287000 x287001) else (spec_l3DrawRight.l0 k (wrap64 (x4 + 1)) x1000 bt325.2.1 bt325.2.2 bt328.1 bt328.2.1))))))
end
def spec_l3DrawRight.f (k : Nat) (s0_0 : List Int) (s0_1 : Int) (s0_2 : Int) : Option (Int × (List (S134)) × Int × Int) := (spec_l1Below.f s0_0 s0_1 s0_2 200).bind fun bt283 => ((spec_l1Once.f s0_0 bt283.2.1 bt283.2.2 9).bind fun bt287 => (if bt287.1 = true then ((spec_l1PickInt.f s0_0 bt287.2.1 bt287.2.2 (([0, 40000, 20] : List Int))).bind fun bt293 => (spec_l3DrawRight.j0 k s0_0 bt293.2.1 bt293.2.2 bt293.1)) else (spec_l3DrawRight.j0 k s0_0 bt287.2.1 bt287.2.2 (wrap64 (60 + bt283.1)))))
set_option maxRecDepth 100000 in
theorem spec_l3DrawRight.mono_l : ∀ k, (∀ y0 y1 y2 y3, LeO (spec_l3DrawRight.j0 k y0 y1 y2 y3) (spec_l3DrawRight.j0 (k + 1) y0 y1 y2 y3)) ∧ (∀ y0 y1 y2 y3 y4 y5, LeO (spec_l3DrawRight.l0 k y0 y1 y2 y3 y4 y5) (spec_l3DrawRight.l0 (k + 1) y0 y1 y2 y3 y4 y5)) ∧ (∀ y0 y1 y2 y3 y4 y5 y6 y7, LeO (spec_l3DrawRight.j2 k y0 y1 y2 y3 y4 y5 y6 y7) (spec_l3DrawRight.j2 (k + 1) y0 y1 y2 y3 y4 y5 y6 y7))
 | 0 => ⟨fun _ _ _ _ r h => by simp [spec_l3DrawRight.j0] at h, fun _ _ _ _ _ _ r h => by simp [spec_l3DrawRight.l0] at h, fun _ _ _ _ _ _ _ _ r h => by simp [spec_l3DrawRight.j2] at h⟩
 | k + 1 => by
  obtain ⟨ih0, ih1, ih2⟩ := spec_l3DrawRight.mono_l k
  refine ⟨?_, ?_, ?_⟩
  ·intro y0 y1 y2 y3
   unfold spec_l3DrawRight.j0
   repeat' first
   | (with_reducible exact ih0 _ _ _ _)
   | (with_reducible exact ih1 _ _ _ _ _ _)
   | (with_reducible exact ih2 _ _ _ _ _ _ _ _)
   | (with_reducible exact spec_DiskAppend.mono _ _ _ _ _)
   | (with_reducible exact spec_DiskMove.mono _ _ _ _ _)
   | (with_reducible exact spec_DiskSync.mono _ _ _ _)
   | (with_reducible exact spec_l3DrawText.mono _ _ _ _ _)
   | (with_reducible exact LeO.refl _)
   | (with_reducible exact LeO.none _)
   | (with_reducible refine LeO.ite ?_ ?_)
   | (with_reducible refine LeO.bind ?_ (fun _ => ?_))
   | exact ih0 _ _ _ _
   | exact ih1 _ _ _ _ _ _
   | exact ih2 _ _ _ _ _ _ _ _
   | exact spec_DiskAppend.mono _ _ _ _ _
   | exact spec_DiskMove.mono _ _ _ _ _
   | exact spec_DiskSync.mono _ _ _ _
   | exact spec_l3DrawText.mono _ _ _ _ _
   | exact LeO.none _
   | refine LeO.ite ?_ ?_
   | refine LeO.bind ?_ (fun _ => ?_)
  ·intro y0 y1 y2 y3 y4 y5
   unfold spec_l3DrawRight.l0
   repeat' first
   | (with_reducible exact ih0 _ _ _ _)
   | (with_reducible exact ih1 _ _ _ _ _ _)
   | (with_reducible exact ih2 _ _ _ _ _ _ _ _)
   | (with_reducible exact spec_DiskAppend.mono _ _ _ _ _)
   | (with_reducible exact spec_DiskMove.mono _ _ _ _ _)
   | (with_reducible exact spec_DiskSync.mono _ _ _ _)
   | (with_reducible exact spec_l3DrawText.mono _ _ _ _ _)
   | (with_reducible exact LeO.refl _)
   | (with_reducible exact LeO.none _)
   | (with_reducible refine LeO.ite ?_ ?_)
   | (with_reducible refine LeO.bind ?_ (fun _ => ?_))
   | exact ih0 _ _ _ _
   | exact ih1 _ _ _ _ _ _
   | exact ih2 _ _ _ _ _ _ _ _
   | exact spec_DiskAppend.mono _ _ _ _ _
   | exact spec_DiskMove.mono _ _ _ _ _
   | exact spec_DiskSync.mono _ _ _ _
   | exact spec_l3DrawText.mono _ _ _ _ _
   | exact LeO.none _
   | refine LeO.ite ?_ ?_
   | refine LeO.bind ?_ (fun _ => ?_)
  ·intro y0 y1 y2 y3 y4 y5 y6 y7
   unfold spec_l3DrawRight.j2
   repeat' first
   | (with_reducible exact ih0 _ _ _ _)
   | (with_reducible exact ih1 _ _ _ _ _ _)
   | (with_reducible exact ih2 _ _ _ _ _ _ _ _)
   | (with_reducible exact spec_DiskAppend.mono _ _ _ _ _)
   | (with_reducible exact spec_DiskMove.mono _ _ _ _ _)
   | (with_reducible exact spec_DiskSync.mono _ _ _ _)
   | (with_reducible exact spec_l3DrawText.mono _ _ _ _ _)
   | (with_reducible exact LeO.refl _)
   | (with_reducible exact LeO.none _)
   | (with_reducible refine LeO.ite ?_ ?_)
   | (with_reducible refine LeO.bind ?_ (fun _ => ?_))
   | exact ih0 _ _ _ _
   | exact ih1 _ _ _ _ _ _
   | exact ih2 _ _ _ _ _ _ _ _
   | exact spec_DiskAppend.mono _ _ _ _ _
   | exact spec_DiskMove.mono _ _ _ _ _
   | exact spec_DiskSync.mono _ _ _ _
   | exact spec_l3DrawText.mono _ _ _ _ _
   | exact LeO.none _
   | refine LeO.ite ?_ ?_
   | refine LeO.bind ?_ (fun _ => ?_)
theorem spec_l3DrawRight.mono : ∀ a0 a1 a2 k, LeO (spec_l3DrawRight.f k a0 a1 a2) (spec_l3DrawRight.f (k + 1) a0 a1 a2) := by
 intro a0 a1 a2 k
 obtain ⟨ih0, ih1, ih2⟩ := spec_l3DrawRight.mono_l k
 unfold spec_l3DrawRight.f
 repeat' first
  | (with_reducible exact ih0 _ _ _ _)
  | (with_reducible exact ih1 _ _ _ _ _ _)
  | (with_reducible exact ih2 _ _ _ _ _ _ _ _)
  | (with_reducible exact spec_DiskAppend.mono _ _ _ _ _)
  | (with_reducible exact spec_DiskMove.mono _ _ _ _ _)
  | (with_reducible exact spec_DiskSync.mono _ _ _ _)
  | (with_reducible exact spec_l3DrawText.mono _ _ _ _ _)
  | (with_reducible exact LeO.refl _)
  | (with_reducible exact LeO.none _)
  | (with_reducible refine LeO.ite ?_ ?_)
  | (with_reducible refine LeO.bind ?_ (fun _ => ?_))
  | exact ih0 _ _ _ _
  | exact ih1 _ _ _ _ _ _
  | exact ih2 _ _ _ _ _ _ _ _
  | exact spec_DiskAppend.mono _ _ _ _ _
  | exact spec_DiskMove.mono _ _ _ _ _
  | exact spec_DiskSync.mono _ _ _ _
  | exact spec_l3DrawText.mono _ _ _ _ _
  | exact LeO.none _
  | refine LeO.ite ?_ ?_
  | refine LeO.bind ?_ (fun _ => ?_)
def spec_l3DrawRight.T9 : Bool × List (List Nat × List Nat) := (true, [([], []), ([], []), ([1], [1]), ([], []), ([3, 2], [3]), ([0, 2, 4, 4], [0, 2, 4]), ([5], [5]), ([6], [6]), ([6], [6]), ([7, 5, 0, 1, 2, 3, 4, 5, 6, 7], [7]), ([8, 9, 0, 1, 2, 3, 4, 5, 6, 7, 8, 9], [8])])
def spec_l3DrawRight.B9 : List Nat := [0, 0, 2, 0, 14, 31, 63, 127, 127, 255, 1023]
theorem spec_l3DrawRight.tab9 : rtab .any (opsOf Try.f158 9) = spec_l3DrawRight.T9 := by kernel_rfl
theorem spec_l3DrawRight.bits9 : waitsOk spec_l3DrawRight.T9.2 spec_l3DrawRight.B9 = true := by kernel_rfl
def spec_l3DrawRight.T13 : Bool × List (List Nat × List Nat) := (true, [([], []), ([], []), ([1], [1]), ([], []), ([3, 2], [3]), ([0, 2, 4, 4], [0, 2, 4]), ([5], [5]), ([6], [6]), ([6], [6]), ([7, 5, 0, 1, 2, 3, 4, 5, 6, 7], [7]), ([8, 9, 0, 1, 2, 3, 4, 5, 6, 7, 8, 9], [8])])
def spec_l3DrawRight.B13 : List Nat := [0, 0, 2, 0, 14, 31, 63, 127, 127, 255, 1023]
theorem spec_l3DrawRight.tab13 : rtab .any (opsOf Try.f158 13) = spec_l3DrawRight.T13 := by kernel_rfl
theorem spec_l3DrawRight.bits13 : waitsOk spec_l3DrawRight.T13.2 spec_l3DrawRight.B13 = true := by kernel_rfl
def spec_l3DrawRight.T15 : Bool × List (List Nat × List Nat) := (true, [([], []), ([], []), ([1], [1]), ([0, 2, 2], [0, 2]), ([3], [3]), ([4], [4]), ([4], [4]), ([5, 3, 0, 1, 2, 3, 4, 5], [5]), ([6, 7, 0, 1, 2, 3, 4, 5, 6, 7], [6])])
def spec_l3DrawRight.B15 : List Nat := [0, 0, 2, 7, 15, 31, 31, 63, 255]
theorem spec_l3DrawRight.tab15 : rtab .any (opsOf Try.f158 15) = spec_l3DrawRight.T15 := by kernel_rfl
theorem spec_l3DrawRight.bits15 : waitsOk spec_l3DrawRight.T15.2 spec_l3DrawRight.B15 = true := by kernel_rfl
set_option maxHeartbeats 8000000 in
set_option maxRecDepth 100000 in
theorem spec_l3DrawRight.calls (k : Nat) (g : Nat) (s0_0 : List Int) (s0_1 : Int) (s0_2 : Int) (r1 : Int) (r2 : List (S134)) (r3 : Int) (r4 : Int) (w0 w : World) (hI : IsS156 w0 w g s0_0 s0_1 s0_2) (hB : Below w0.heap.size w0 w) (h : spec_l3DrawRight.f k s0_0 s0_1 s0_2 = some (r1, r2, r3, r4)) :
 Calls Try.prog 158 #[.pointer (some ⟨g, 0, none⟩)] w fun e w' => ∃ v1_ : Value, e = .returned (.agg #[.int .i64 r1, v1_]) ∧ Kd.R k134 134 w' w.heap.size (fun _ => True) v1_ r2 ∧ IsS156 w0 w' g s0_0 r3 r4 ∧ Below w0.heap.size w0 w' ∧ KeepBut w w' g none := by
 have hu70 := Try.underlying70
 have HI0 := aM hI
 have HK := aM (KeepBut.refl w g none)
 have HL := aM hB.size
 clear hI
 have HW0 := aM hB.size
 have HB := aM hB
 clear hB
 have H : ((spec_l1Below.f s0_0 s0_1 s0_2 200).bind fun bt283 => ((spec_l1Once.f s0_0 bt283.2.1 bt283.2.2 9).bind fun bt287 => (if bt287.1 = true then ((spec_l1PickInt.f s0_0 bt287.2.1 bt287.2.2 (([0, 40000, 20] : List Int))).bind fun bt293 => (spec_l3DrawRight.j0 k s0_0 bt293.2.1 bt293.2.2 bt293.1)) else (spec_l3DrawRight.j0 k s0_0 bt287.2.1 bt287.2.2 (wrap64 (60 + bt283.1)))))) = some (r1, r2, r3, r4) := h
 clear h
 replace H := Option.bind_eq_some_iff.mp H
 obtain ⟨⟨t283, t284, t285⟩, A20, H⟩ := H
 replace H : ((spec_l1Once.f s0_0 t284 t285 9).bind fun bt287 => (if bt287.1 = true then ((spec_l1PickInt.f s0_0 bt287.2.1 bt287.2.2 (([0, 40000, 20] : List Int))).bind fun bt293 => (spec_l3DrawRight.j0 k s0_0 bt293.2.1 bt293.2.2 bt293.1)) else (spec_l3DrawRight.j0 k s0_0 bt287.2.1 bt287.2.2 (wrap64 (60 + t283))))) = some (r1, r2, r3, r4) := H
 have A2 := aM A20
 clear A20
 replace H := Option.bind_eq_some_iff.mp H
 obtain ⟨⟨t287, t288, t289⟩, A30, H⟩ := H
 replace H : (if t287 = true then ((spec_l1PickInt.f s0_0 t288 t289 (([0, 40000, 20] : List Int))).bind fun bt293 => (spec_l3DrawRight.j0 k s0_0 bt293.2.1 bt293.2.2 bt293.1)) else (spec_l3DrawRight.j0 k s0_0 t288 t289 (wrap64 (60 + t283)))) = some (r1, r2, r3, r4) := H
 have A3 := aM A30
 clear A30
 have HC4 := aM H
 clear H
 go_enter Try.func158, Try.ntmps158
 go_upto_if 12 with (first | ((with_reducible refine gate_dst (N := 2) rfl ?_); refine box_event ?hg (N := 2) ?hd (cs := #[.int .i64 0, .slice none 0 0]) (t := 70) ?hr ?_; (case hd => rfl); (case hg => rfl); (case hr => first | (go_simp; done) | (go_simp; rfl)); intro gb282 hg w5 hbox hb; replace HB := aM (below_step (by repeat (first | (with_reducible first | exact HB.out | apply below_alloc | apply pw_below_drewN | apply below_drew1 | refine below_set ?_ (IsS156.ge HI0.out)) | exact HB.out)) hb); have BK282 := aM (hbox); have GW282 := aM ((by rw [hg]; exact (keep_size (w := w) (g := g) (row := none) (by repeat (first | (with_reducible first | exact HK.out | apply KeepBut.set_ | apply keep_drewN | apply keep_drew | apply keep_alloc) | exact HK.out))) : w.heap.size ≤ gb282)); have GE282 := aM ((Nat.le_trans HW0.out (by rw [hg]; exact (keep_size (w := w) (g := g) (row := none) (by repeat (first | (with_reducible first | exact HK.out | apply KeepBut.set_ | apply keep_drewN | apply keep_drew | apply keep_alloc) | exact HK.out))) : w.heap.size ≤ gb282) : w0.heap.size ≤ gb282)); replace HK := aM (KeepBut.trans (by repeat (first | (with_reducible first | exact HK.out | apply KeepBut.set_ | apply keep_drewN | apply keep_drew | apply keep_alloc) | exact HK.out)) (KeepBut.of_below hb g none) (.inl rfl)); have NB0_282 := aM ((by rw [hg]; exact Nat.ne_of_lt (IsS156.lt (show IsS156 w0 _ g s0_0 s0_1 s0_2 from by repeat (first | (with_reducible first | exact HI0.out | apply IsS156.alloc | apply IsS156.drewN | apply IsS156.drew | apply IsS156.set_1 | apply IsS156.set_2) | exact HI0.out))) : g ≠ gb282)); have NB282_0 := aM ((by rw [hg]; exact Nat.ne_of_gt (IsS156.lt (show IsS156 w0 _ g s0_0 s0_1 s0_2 from by repeat (first | (with_reducible first | exact HI0.out | apply IsS156.alloc | apply IsS156.drewN | apply IsS156.drew | apply IsS156.set_1 | apply IsS156.set_2) | exact HI0.out))) : gb282 ≠ g)); replace HI0 := aM (IsS156.below (by repeat (first | (with_reducible first | exact HI0.out | apply IsS156.alloc | apply IsS156.drewN | apply IsS156.drew | apply IsS156.set_1 | apply IsS156.set_2) | exact HI0.out)) hb); clear hb hbox hg) | ((with_reducible refine gate_callee (f := 78) rfl ?_); refine goesL_ (some 8) rfl rfl Try.func78 (by kernel_rfl) rfl #[.pointer (some ⟨g, 0, none⟩), .int .i64 200] rfl (by (try simp only [List.map_toArray, List.map_cons, List.map_nil]); first | done | rfl | (simp only [List.length_drop, List.length_take]; rfl)) ?_; (with_reducible refine (spec_l1Below.calls g s0_0 s0_1 s0_2 200 t283 t284 t285 w0 _ ?side1 ?side2 A2.out).mono ?_); (case side1 => repeat (first | (with_reducible first | exact HI0.out | apply IsS156.alloc | apply IsS156.drewN | apply IsS156.drew | apply IsS156.set_1 | apply IsS156.set_2 | refine IsS156.far ?_ NB0_282.out _) | exact HI0.out)); (case side2 => repeat (first | (with_reducible first | exact HB.out | apply below_alloc | apply pw_below_drewN | apply below_drew1 | refine below_set ?_ (IsS156.ge HI0.out) | refine below_set ?_ GE282.out) | exact HB.out)); rintro e w6 ⟨rfl, hi, hb, hk⟩; refine ⟨_, rfl, ?_⟩; replace BK282 := aM (KeepBut.blk hk (g' := gb282) (o := .cells #[.int .i64 0, .slice none 0 0] 70 (0, 0)) xblk NB282_0.out (by simp)); replace HK := aM (KeepBut.trans (by repeat (first | (with_reducible first | exact HK.out | apply KeepBut.set_ | apply keep_drewN | apply keep_drew | apply keep_alloc | refine keep_far ?_ GW282.out _) | exact HK.out)) hk (.inl rfl)); replace HB := aM (hb); replace HI0 := aM (hi); (try clear hb); (try clear hb2); (try clear hk); (try clear hi)) | ((with_reducible refine gate_dst (N := 3) rfl ?_); refine box_event ?hg (N := 3) ?hd (cs := #[.int .i64 0, .slice none 0 0]) (t := 70) ?hr ?_; (case hd => rfl); (case hg => rfl); (case hr => first | (go_simp; done) | (go_simp; rfl)); intro gb286 hg w7 hbox hb; replace HB := aM (below_step (by repeat (first | (with_reducible first | exact HB.out | apply below_alloc | apply pw_below_drewN | apply below_drew1 | refine below_set ?_ (IsS156.ge HI0.out) | refine below_set ?_ GE282.out) | exact HB.out)) hb); have GW286 := aM ((by rw [hg]; exact (keep_size (w := w) (g := g) (row := none) (by repeat (first | (with_reducible first | exact HK.out | apply KeepBut.set_ | apply keep_drewN | apply keep_drew | apply keep_alloc | refine keep_far ?_ GW282.out _) | exact HK.out))) : w.heap.size ≤ gb286)); have GE286 := aM ((Nat.le_trans HW0.out (by rw [hg]; exact (keep_size (w := w) (g := g) (row := none) (by repeat (first | (with_reducible first | exact HK.out | apply KeepBut.set_ | apply keep_drewN | apply keep_drew | apply keep_alloc | refine keep_far ?_ GW282.out _) | exact HK.out))) : w.heap.size ≤ gb286) : w0.heap.size ≤ gb286)); replace HK := aM (KeepBut.trans (by repeat (first | (with_reducible first | exact HK.out | apply KeepBut.set_ | apply keep_drewN | apply keep_drew | apply keep_alloc | refine keep_far ?_ GW282.out _) | exact HK.out)) (KeepBut.of_below hb g none) (.inl rfl)); have NB282_286 := aM ((by rw [hg]; exact Nat.ne_of_lt (blk_lt (g := gb282) (o := .cells #[.int .i64 0, .slice none 0 0] 70 (0, 0)) xblk) : gb282 ≠ gb286)); have NB286_282 := aM ((by rw [hg]; exact Nat.ne_of_gt (blk_lt (g := gb282) (o := .cells #[.int .i64 0, .slice none 0 0] 70 (0, 0)) xblk) : gb286 ≠ gb282)); replace BK282 := xbb BK282 hb; have BK286 := aM (hbox); have NB0_286 := aM ((by rw [hg]; exact Nat.ne_of_lt (IsS156.lt (show IsS156 w0 _ g s0_0 t284 t285 from by repeat (first | (with_reducible first | exact HI0.out | apply IsS156.alloc | apply IsS156.drewN | apply IsS156.drew | apply IsS156.set_1 | apply IsS156.set_2 | refine IsS156.far ?_ NB0_282.out _) | exact HI0.out))) : g ≠ gb286)); have NB286_0 := aM ((by rw [hg]; exact Nat.ne_of_gt (IsS156.lt (show IsS156 w0 _ g s0_0 t284 t285 from by repeat (first | (with_reducible first | exact HI0.out | apply IsS156.alloc | apply IsS156.drewN | apply IsS156.drew | apply IsS156.set_1 | apply IsS156.set_2 | refine IsS156.far ?_ NB0_282.out _) | exact HI0.out))) : gb286 ≠ g)); replace HI0 := aM (IsS156.below (by repeat (first | (with_reducible first | exact HI0.out | apply IsS156.alloc | apply IsS156.drewN | apply IsS156.drew | apply IsS156.set_1 | apply IsS156.set_2 | refine IsS156.far ?_ NB0_282.out _) | exact HI0.out)) hb); clear hb hbox hg; have hnb8 := NB286_282.out; have hnc8 := NB282_286.out; have hnb9 := NB286_0.out; have hnc9 := NB0_286.out; obtain ⟨hcz10_0, hcz10_1, hfz10_0, hfz10_1⟩ := xf2 (w := w7) BK286) | ((with_reducible refine gate_callee (f := 77) rfl ?_); refine goesL_ (some 12) rfl rfl Try.func77 (by kernel_rfl) rfl #[.pointer (some ⟨g, 0, none⟩), .int .i64 9] rfl (by (try simp only [List.map_toArray, List.map_cons, List.map_nil]); first | done | rfl | (simp only [List.length_drop, List.length_take]; rfl)) ?_; (with_reducible refine (spec_l1Once.calls g s0_0 t284 t285 9 t287 t288 t289 w0 _ ?side1 ?side2 A3.out).mono ?_); (case side1 => repeat (first | (with_reducible first | exact HI0.out | apply IsS156.alloc | apply IsS156.drewN | apply IsS156.drew | apply IsS156.set_1 | apply IsS156.set_2 | refine IsS156.far ?_ NB0_282.out _ | refine IsS156.far ?_ NB0_286.out _) | exact HI0.out)); (case side2 => repeat (first | (with_reducible first | exact HB.out | apply below_alloc | apply pw_below_drewN | apply below_drew1 | refine below_set ?_ (IsS156.ge HI0.out) | refine below_set ?_ GE282.out | refine below_set ?_ GE286.out) | exact HB.out)); rintro e w11 ⟨rfl, hi, hb, hk⟩; refine ⟨_, rfl, ?_⟩; replace BK282 := aM (KeepBut.blk hk (g' := gb282) (o := .cells #[.int .i64 0, .slice none 0 0] 70 (0, 0)) (by (with_reducible repeat (first | refine blk_drewN ?_ _ | refine blk_drew ?_ | refine blk_alloc ?_ _)); refine blk_far ?_ NB282_286.out _; (with_reducible repeat (first | refine blk_drewN ?_ _ | refine blk_drew ?_ | refine blk_alloc ?_ _)); refine blk_far ?_ NB282_286.out _; (with_reducible repeat (first | refine blk_drewN ?_ _ | refine blk_drew ?_ | refine blk_alloc ?_ _)); exact BK282.out) NB282_0.out (by simp)); replace BK286 := aM (KeepBut.blk hk (g' := gb286) (o := .cells #[.int .i64 (wrap64 (60 + t283)), .slice none 0 0] 70 (0, 0)) (by (with_reducible repeat (first | refine blk_drewN ?_ _ | refine blk_drew ?_ | refine blk_alloc ?_ _)); refine blk_put (cs := #[.int .i64 (wrap64 (60 + t283)), .slice none 0 0]) ?_ 1 _ rfl; (with_reducible repeat (first | refine blk_drewN ?_ _ | refine blk_drew ?_ | refine blk_alloc ?_ _)); refine blk_put (cs := #[.int .i64 0, .slice none 0 0]) ?_ 0 _ rfl; (with_reducible repeat (first | refine blk_drewN ?_ _ | refine blk_drew ?_ | refine blk_alloc ?_ _)); exact BK286.out) NB286_0.out (by simp)); replace HK := aM (KeepBut.trans (by repeat (first | (with_reducible first | exact HK.out | apply KeepBut.set_ | apply keep_drewN | apply keep_drew | apply keep_alloc | refine keep_far ?_ GW282.out _ | refine keep_far ?_ GW286.out _) | exact HK.out)) hk (.inl rfl)); replace HB := aM (hb); replace HI0 := aM (hi); (try clear hb); (try clear hb2); (try clear hk); (try clear hi)))
 (try simp only [Act.put, List.setIfInBounds_toArray, List.set_cons_zero, List.set_cons_succ])
 go_cut [] (fun wc => ∃ (kq : Nat) (x1001_3 : Int) (x1002_3 : Int) (x287000_3 : Int), Aside0 (spec_l3DrawRight.j0 kq s0_0 x1001_3 x1002_3 x287000_3 = some (r1, r2, r3, r4)) ∧ Aside0 (kq ≤ k) ∧ Aside0 (wc.heap[gb282]? = some (.cells #[.int .i64 0, (.slice none 0 0)] 70 (0, 0))) ∧ Aside0 (wc.heap[gb286]? = some (.cells #[.int .i64 x287000_3, (.slice none 0 0)] 70 (0, 0))) ∧ Aside0 (IsS156 w0 wc g s0_0 x1001_3 x1002_3) ∧ Aside0 (KeepBut w wc g none) ∧ Aside0 (Below w0.heap.size w0 wc))
 case first =>
  have H := HC4.out; clear HC4
  by_cases c12 : t287 = true
  ·subst c12
   have H1 : ((spec_l1PickInt.f s0_0 t288 t289 (([0, 40000, 20] : List Int))).bind fun bt293 => (spec_l3DrawRight.j0 k s0_0 bt293.2.1 bt293.2.2 bt293.1)) = some (r1, r2, r3, r4) := by rw [if_pos rfl] at H; exact H
   clear H; have H := H1; clear H1
   obtain ⟨y290, hy290⟩ : ∃ y_ : List Int, y_ = (([0, 40000, 20] : List Int)) := ⟨_, rfl⟩
   replace H : ((spec_l1PickInt.f s0_0 t288 t289 y290).bind fun bt293 => (spec_l3DrawRight.j0 k s0_0 bt293.2.1 bt293.2.2 bt293.1)) = some (r1, r2, r3, r4) := by first | (rw [hy290]; with_reducible exact H) | (have H2_ := (Option.bind_some _ _).symm.trans H; rw [hy290]; with_reducible exact H2_) | (have H2_ := (Option.bind_some _ _).symm.trans H; with_reducible exact H2_) | with_reducible exact H | (rw [hy290]; exact H) | exact H
   have Ny290 := aM hy290; clear hy290; replace H := Option.bind_eq_some_iff.mp H
   obtain ⟨⟨t293, t294, t295⟩, A130, H⟩ := H
   replace H : (spec_l3DrawRight.j0 k s0_0 t294 t295 t293) = some (r1, r2, r3, r4) := H; have A13 := aM A130; clear A130
   have H' := aM H
   clear H
   go_wp2_with (first | ((with_reducible refine gate_dst (N := 14) rfl ?_); refine Kd.R_lit (Kd.int .i64) _ 3 ?hg (N := 14) ?hd (xs := ([0, 40000, 20] : List Int)) (inner := [.int .i64 0, .int .i64 40000, .int .i64 20]) (ok := fun _ => True) (okp := fun _ => True) ?hr ?hp (fun _ hk => hk) trivial (Below.refl _ _) (Nat.le_refl _) (by simp) ?_; (case hd => rfl); (case hg => rfl); (case hr => first | (go_simp; done) | (go_simp; rfl)); (case hp => exact (Reps.one (show Kd.M (Kd.int .i64) _ _ _ 0 [.int .i64 0] from rfl) (Reps.one (show Kd.M (Kd.int .i64) _ _ _ 40000 [.int .i64 40000] from rfl) (Reps.one (show Kd.M (Kd.int .i64) _ _ _ 20 [.int .i64 20] from rfl) (Reps.none _ _))))); intro v291 w14 ho15 hb hg_ hnew_; clear hg_ hnew_; (first | rw [← Ny290.out] at ho15 | (simp only [Int.reduceToNat] at ho15; rw [← Ny290.out] at ho15)); have HO292 := aM (Kd.R_lower ho15 (keep_size (w := w) (g := g) (row := none) (by repeat (first | (with_reducible first | exact HK.out | apply KeepBut.set_ | apply keep_drewN | apply keep_drew | apply keep_alloc | refine keep_far ?_ GW282.out _ | refine keep_far ?_ GW286.out _) | exact HK.out)))); replace BK282 := xbb BK282 hb; replace BK286 := xbb BK286 hb; replace HK := aM (KeepBut.trans (by repeat (first | (with_reducible first | exact HK.out | apply KeepBut.set_ | apply keep_drewN | apply keep_drew | apply keep_alloc | refine keep_far ?_ GW282.out _ | refine keep_far ?_ GW286.out _) | exact HK.out)) (KeepBut.of_below hb g none) (.inl rfl)); replace HB := aM (below_step (by repeat (first | (with_reducible first | exact HB.out | apply below_alloc | apply pw_below_drewN | apply below_drew1 | refine below_set ?_ (IsS156.ge HI0.out) | refine below_set ?_ GE282.out | refine below_set ?_ GE286.out) | exact HB.out)) hb); replace HI0 := aM (IsS156.below (by repeat (first | (with_reducible first | exact HI0.out | apply IsS156.alloc | apply IsS156.drewN | apply IsS156.drew | apply IsS156.set_1 | apply IsS156.set_2 | refine IsS156.far ?_ NB0_282.out _ | refine IsS156.far ?_ NB0_286.out _) | exact HI0.out)) hb); clear hb ho15; obtain ⟨Ao16, co16, eo16⟩ := Kd.R_slice HO292.out; subst eo16) | ((with_reducible refine gate_callee (f := 91) rfl ?_); refine goesL_ (some 15) rfl rfl Try.func91 (by kernel_rfl) rfl #[.pointer (some ⟨g, 0, none⟩), .slice Ao16 y290.length co16] rfl (by (try simp only [List.map_toArray, List.map_cons, List.map_nil]); first | done | rfl | (simp only [List.length_drop, List.length_take]; rfl)) ?_; (with_reducible refine (spec_l1PickInt.calls g s0_0 t288 t289 _ _ y290 t293 t294 t295 w0 _ ?side1 ?side2 ?side3 ?side4 ?side5 A13.out).mono ?_); (case side1 => repeat (first | (with_reducible first | exact HI0.out | apply IsS156.alloc | apply IsS156.drewN | apply IsS156.drew | apply IsS156.set_1 | apply IsS156.set_2 | refine IsS156.far ?_ NB0_282.out _ | refine IsS156.far ?_ NB0_286.out _) | exact HI0.out)); (case side2 => repeat (first | (with_reducible first | exact HB.out | apply below_alloc | apply pw_below_drewN | apply below_drew1 | refine below_set ?_ (IsS156.ge HI0.out) | refine below_set ?_ GE282.out | refine below_set ?_ GE286.out) | exact HB.out)); (case side3 => repeat (first | exact (Kd.R_reads' HO292.out).2.2 | (with_reducible refine Kd.C_alloc ?_ _) | (with_reducible refine Kd.C_drewN ?_ _) | (with_reducible refine Kd.C_drew ?_))); (case side4 => exact (Kd.R_reads' HO292.out).2.1); (case side5 => exact far_slice (IsS156.own_ne HI0.out HO292.out (by decide))); rintro e w17 ⟨rfl, hi, hb, hk⟩; refine ⟨_, rfl, ?_⟩; have n0_ := aM (KeepBut.blk hk (g' := gb282) (o := .cells #[.int .i64 0, .slice none 0 0] 70 (0, 0)) xblk NB282_0.out (by simp)); have n1_ := aM (KeepBut.blk hk (g' := gb286) (o := .cells #[.int .i64 (wrap64 (60 + t283)), .slice none 0 0] 70 (0, 0)) xblk NB286_0.out (by simp)); have n2_ := aM (Kd.R_mono (Kd.R_keep (IsS156.apart (show IsS156 w0 _ g s0_0 t288 t289 from by repeat (first | (with_reducible first | exact HI0.out | apply IsS156.alloc | apply IsS156.drewN | apply IsS156.drew | apply IsS156.set_1 | apply IsS156.set_2 | refine IsS156.far ?_ NB0_282.out _ | refine IsS156.far ?_ NB0_286.out _) | exact HI0.out)) (xr HO292) (by decide)) hk (fun _ h => h.2)) (fun _ h => h.1)); have n3_ := aM (KeepBut.trans (by repeat (first | (with_reducible first | exact HK.out | apply KeepBut.set_ | apply keep_drewN | apply keep_drew | apply keep_alloc | refine keep_far ?_ GW282.out _ | refine keep_far ?_ GW286.out _) | exact HK.out)) hk (.inl rfl)); have n4_ := aM (hb); have n5_ := aM (hi); clear BK282; clear BK286; clear HO292; clear HK; clear HB; clear HI0; have BK282 := n0_; have BK286 := n1_; have HO292 := n2_; have HK := n3_; have HB := n4_; have HI0 := n5_; clear n0_ n1_ n2_ n3_ n4_ n5_; (try clear hb); (try clear hb2); (try clear hk); (try clear hi); have hnb18 := NB286_282.out; have hnc18 := NB282_286.out; have hnb19 := NB286_0.out; have hnc19 := NB0_286.out; obtain ⟨hcz20_0, hcz20_1, hfz20_0, hfz20_1⟩ := xf2 (w := w17) BK286))
   go_meet
   case rel => exact ⟨_, (t294), (t295), (t293), H', ⟨by first | omega | exact Nat.le_refl _⟩, ⟨by (with_reducible repeat (first | refine blk_drewN ?_ _ | refine blk_drew ?_ | refine blk_alloc ?_ _)); refine blk_far ?_ NB282_286.out _; (with_reducible repeat (first | refine blk_drewN ?_ _ | refine blk_drew ?_ | refine blk_alloc ?_ _)); exact BK282.out⟩, ⟨by (with_reducible repeat (first | refine blk_drewN ?_ _ | refine blk_drew ?_ | refine blk_alloc ?_ _)); refine blk_put (cs := #[.int .i64 (wrap64 (60 + t283)), .slice none 0 0]) ?_ 0 _ rfl; (with_reducible repeat (first | refine blk_drewN ?_ _ | refine blk_drew ?_ | refine blk_alloc ?_ _)); exact BK286.out⟩, ⟨by repeat (first | (with_reducible first | exact HI0.out | apply IsS156.alloc | apply IsS156.drewN | apply IsS156.drew | apply IsS156.set_1 | apply IsS156.set_2 | refine IsS156.far ?_ NB0_282.out _ | refine IsS156.far ?_ NB0_286.out _) | exact HI0.out)⟩, ⟨by repeat (first | (with_reducible first | exact HK.out | apply KeepBut.set_ | apply keep_drewN | apply keep_drew | apply keep_alloc | refine keep_far ?_ GW282.out _ | refine keep_far ?_ GW286.out _) | exact HK.out)⟩, ⟨by repeat (first | (with_reducible first | exact HB.out | apply below_alloc | apply pw_below_drewN | apply below_drew1 | refine below_set ?_ (IsS156.ge HI0.out) | refine below_set ?_ GE282.out | refine below_set ?_ GE286.out) | exact HB.out)⟩⟩
  ·replace c12 := Bool.eq_false_iff.mpr c12
   subst c12
   have H1 : (spec_l3DrawRight.j0 k s0_0 t288 t289 (wrap64 (60 + t283))) = some (r1, r2, r3, r4) := by rw [if_neg (show ¬ (false = true) by decide)] at H; exact H
   clear H; have H := H1; clear H1
   have H' := aM H
   clear H
   go_wp2
   go_meet
   case rel => exact ⟨_, (t288), (t289), (wrap64 (60 + t283)), H', ⟨by first | omega | exact Nat.le_refl _⟩, ⟨xblk⟩, ⟨xblk⟩, ⟨by repeat (first | (with_reducible first | exact HI0.out | apply IsS156.alloc | apply IsS156.drewN | apply IsS156.drew | apply IsS156.set_1 | apply IsS156.set_2 | refine IsS156.far ?_ NB0_282.out _ | refine IsS156.far ?_ NB0_286.out _) | exact HI0.out)⟩, ⟨by repeat (first | (with_reducible first | exact HK.out | apply KeepBut.set_ | apply keep_drewN | apply keep_drew | apply keep_alloc | refine keep_far ?_ GW282.out _ | refine keep_far ?_ GW286.out _) | exact HK.out)⟩, ⟨by repeat (first | (with_reducible first | exact HB.out | apply below_alloc | apply pw_below_drewN | apply below_drew1 | refine below_set ?_ (IsS156.ge HI0.out) | refine below_set ?_ GE282.out | refine below_set ?_ GE286.out) | exact HB.out)⟩⟩
 case rest =>
  clear HC4
  try clear c1
  try clear p2
  try clear p6
  try clear c7
  try clear c8
  try clear c9
  try clear c12
  try clear c15
  try clear c18
  try clear c19
  try clear hcz10_0
  try clear hcz10_1
  try clear hcz20_0
  try clear hcz20_1
  try clear hfz10_0
  try clear hfz10_1
  try clear hfz20_0
  try clear hfz20_1
  obtain ⟨kq, x1001_3, x1002_3, x287000_3, HA, HJ3, BK282, BK286, HI0, HK, HB⟩ := hcut
  cases kq with
  | zero => exact absurd HA.out (by simp [spec_l3DrawRight.j0])
  | succ kj3 =>
   have H := HA.out; clear HA
   simp only [spec_l3DrawRight.j0] at H
   have H' := aM H
   clear H
   go_wp2
   go_loopg [4] kj3 (fun kq v4 w' => ∃ (x4_2 : Int) (x1001_2 : Int) (x1002_2 : Int) (x287000_2 : Int) (x287001_2 : List (S134)) (u287001 : Value), v4 = .int .i64 x4_2 ∧ Aside0 (spec_l3DrawRight.l0 kq x4_2 s0_0 x1001_2 x1002_2 x287000_2 x287001_2 = some (r1, r2, r3, r4)) ∧ Aside0 (kq ≤ kj3) ∧ Aside0 (Kd.R k134 134 w' w.heap.size (fun _ => True) u287001 x287001_2) ∧ Aside0 (w'.heap[gb282]? = some (.cells #[.int .i64 0, (.slice none 0 0)] 70 (0, 0))) ∧ Aside0 (w'.heap[gb286]? = some (.cells #[.int .i64 x287000_2, u287001] 70 (0, 0))) ∧ Aside0 (IsS156 w0 w' g s0_0 x1001_2 x1002_2) ∧ Aside0 (KeepBut w w' g none) ∧ Aside0 (Below w0.heap.size w0 w'))
   case atStart => exact ⟨(0), (x1001_3), (x1002_3), (x287000_3), (([] : List (S134))), (.slice none 0 0), (by first | rfl | (simp; done) | (simp [*]; done)), H', ⟨Nat.le_refl _⟩, ⟨by first | exact Kd.R_nil _ _ _ _ _ | exact Kd.N_nil _ _ _ _ _ | exact Kd.V_nil _ _ _ _ _ | exact Kd.Q_nil _ _ _ _ _ | exact Kd.S_nil _ _ _ _ _⟩, ⟨xblk⟩, ⟨xblk⟩, ⟨by repeat (first | (with_reducible first | exact HI0.out | apply IsS156.alloc | apply IsS156.drewN | apply IsS156.drew | apply IsS156.set_1 | apply IsS156.set_2 | refine IsS156.far ?_ NB0_282.out _ | refine IsS156.far ?_ NB0_286.out _) | exact HI0.out)⟩, ⟨by repeat (first | (with_reducible first | exact HK.out | apply KeepBut.set_ | apply keep_drewN | apply keep_drew | apply keep_alloc | refine keep_far ?_ GW282.out _ | refine keep_far ?_ GW286.out _) | exact HK.out)⟩, ⟨by repeat (first | (with_reducible first | exact HB.out | apply below_alloc | apply pw_below_drewN | apply below_drew1 | refine below_set ?_ (IsS156.ge HI0.out) | refine below_set ?_ GE282.out | refine below_set ?_ GE286.out) | exact HB.out)⟩⟩
   case round =>
    clear H'
    try clear c1
    try clear p2
    try clear p6
    try clear c7
    try clear c8
    try clear c9
    try clear c12
    try clear c15
    try clear c18
    try clear c19
    try clear hcz10_0
    try clear hcz10_1
    try clear hcz20_0
    try clear hcz20_1
    try clear hfz10_0
    try clear hfz10_1
    try clear hfz20_0
    try clear hfz20_1
    try clear p2
    try clear p6
    obtain ⟨x4_2, x1001_2, x1002_2, x287000_2, x287001_2, u287001, rfl, HA, HK2, HO_287001, BK282, BK286, HI0, HK, HB⟩ := hrel
    cases gk with
    | zero => exact absurd HA.out (by simp [spec_l3DrawRight.l0])
    | succ k2 =>
     have H := HA.out; clear HA
     simp only [spec_l3DrawRight.l0] at H
     replace H := Option.bind_eq_some_iff.mp H
     obtain ⟨⟨t296, t297, t298⟩, A210, H⟩ := H
     replace H : (if x4_2 < t296 then ((spec_l1Below.f s0_0 t297 t298 5).bind fun bt300 => (if bt300.1 = 0 then (spec_l3DrawRight.j2 k2 x4_2 bt300.1 (bt300.1 == 0) s0_0 bt300.2.1 bt300.2.2 x287000_2 x287001_2) else (if bt300.1 = 1 then (spec_l3DrawRight.j2 k2 x4_2 bt300.1 (bt300.1 == 1) s0_0 bt300.2.1 bt300.2.2 x287000_2 x287001_2) else (spec_l3DrawRight.j2 k2 x4_2 bt300.1 (bt300.1 == 2) s0_0 bt300.2.1 bt300.2.2 x287000_2 x287001_2)))) else (some (x287000_2, x287001_2, t297, t298))) = some (r1, r2, r3, r4) := H; have A21 := aM A210; clear A210
     by_cases c22 : x4_2 < t296
     ·rw [if_pos c22] at H
      have c22b0 : decide (x4_2 < t296) = true := decide_eq_true c22; clear c22; replace H := Option.bind_eq_some_iff.mp H
      obtain ⟨⟨t300, t301, t302⟩, A230, H⟩ := H
      replace H : (if t300 = 0 then (spec_l3DrawRight.j2 k2 x4_2 t300 (t300 == 0) s0_0 t301 t302 x287000_2 x287001_2) else (if t300 = 1 then (spec_l3DrawRight.j2 k2 x4_2 t300 (t300 == 1) s0_0 t301 t302 x287000_2 x287001_2) else (spec_l3DrawRight.j2 k2 x4_2 t300 (t300 == 2) s0_0 t301 t302 x287000_2 x287001_2))) = some (r1, r2, r3, r4) := H; have A23 := aM A230; clear A230; have HC24 := aM H; clear H
      go_upto_if 35 with (first | ((with_reducible refine gate_callee (f := 78) rfl ?_); refine goesL_ (some 19) rfl rfl Try.func78 (by kernel_rfl) rfl #[.pointer (some ⟨g, 0, none⟩), .int .i64 12] rfl (by (try simp only [List.map_toArray, List.map_cons, List.map_nil]); first | done | rfl | (simp only [List.length_drop, List.length_take]; rfl)) ?_; (with_reducible refine (spec_l1Below.calls g s0_0 x1001_2 x1002_2 12 t296 t297 t298 w0 _ ?side1 ?side2 A21.out).mono ?_); (case side1 => repeat (first | (with_reducible first | exact HI0.out | apply IsS156.alloc | apply IsS156.drewN | apply IsS156.drew | apply IsS156.set_1 | apply IsS156.set_2 | refine IsS156.far ?_ NB0_282.out _ | refine IsS156.far ?_ NB0_286.out _) | exact HI0.out)); (case side2 => repeat (first | (with_reducible first | exact HB.out | apply below_alloc | apply pw_below_drewN | apply below_drew1 | refine below_set ?_ (IsS156.ge HI0.out) | refine below_set ?_ GE282.out | refine below_set ?_ GE286.out) | exact HB.out)); rintro e w25 ⟨rfl, hi, hb, hk⟩; refine ⟨_, rfl, ?_⟩; have n0_ := aM (Kd.R_mono (Kd.R_keep (IsS156.apart (show IsS156 w0 _ g s0_0 x1001_2 x1002_2 from by repeat (first | (with_reducible first | exact HI0.out | apply IsS156.alloc | apply IsS156.drewN | apply IsS156.drew | apply IsS156.set_1 | apply IsS156.set_2 | refine IsS156.far ?_ NB0_282.out _ | refine IsS156.far ?_ NB0_286.out _) | exact HI0.out)) (xr HO_287001) (by decide)) hk (fun _ h => h.2)) (fun _ h => h.1)); have n1_ := aM (KeepBut.blk hk (g' := gb282) (o := .cells #[.int .i64 0, .slice none 0 0] 70 (0, 0)) xblk NB282_0.out (by simp)); have n2_ := aM (KeepBut.blk hk (g' := gb286) (o := .cells #[.int .i64 x287000_2, u287001] 70 (0, 0)) xblk NB286_0.out (by simp)); have n3_ := aM (KeepBut.trans (by repeat (first | (with_reducible first | exact HK.out | apply KeepBut.set_ | apply keep_drewN | apply keep_drew | apply keep_alloc | refine keep_far ?_ GW282.out _ | refine keep_far ?_ GW286.out _) | exact HK.out)) hk (.inl rfl)); have n4_ := aM (hb); have n5_ := aM (hi); clear HO_287001; clear BK282; clear BK286; clear HK; clear HB; clear HI0; have HO_287001 := n0_; have BK282 := n1_; have BK286 := n2_; have HK := n3_; have HB := n4_; have HI0 := n5_; clear n0_ n1_ n2_ n3_ n4_ n5_; (try clear hb); (try clear hb2); (try clear hk); (try clear hi); have hnb26 := NB286_282.out; have hnc26 := NB282_286.out; have hnb27 := NB286_0.out; have hnc27 := NB0_286.out; obtain ⟨hcz28_0, hcz28_1, hfz28_0, hfz28_1⟩ := xf2 (w := w25) BK286) | ((with_reducible refine gate_dst (N := 5) rfl ?_); refine box_event ?hg (N := 5) ?hd (cs := #[.int .i64 0, .slice none 0 0]) (t := 70) ?hr ?_; (case hd => rfl); (case hg => rfl); (case hr => first | (go_simp; done) | (go_simp; rfl)); intro gb299 hg w29 hbox hb; replace HO_287001 := aM (Kd.R_below (xr HO_287001) hb); replace HB := aM (below_step (by repeat (first | (with_reducible first | exact HB.out | apply below_alloc | apply pw_below_drewN | apply below_drew1 | refine below_set ?_ (IsS156.ge HI0.out) | refine below_set ?_ GE282.out | refine below_set ?_ GE286.out) | exact HB.out)) hb); have GW299 := aM ((by rw [hg]; exact (keep_size (w := w) (g := g) (row := none) (by repeat (first | (with_reducible first | exact HK.out | apply KeepBut.set_ | apply keep_drewN | apply keep_drew | apply keep_alloc | refine keep_far ?_ GW282.out _ | refine keep_far ?_ GW286.out _) | exact HK.out))) : w.heap.size ≤ gb299)); have GE299 := aM ((Nat.le_trans HW0.out (by rw [hg]; exact (keep_size (w := w) (g := g) (row := none) (by repeat (first | (with_reducible first | exact HK.out | apply KeepBut.set_ | apply keep_drewN | apply keep_drew | apply keep_alloc | refine keep_far ?_ GW282.out _ | refine keep_far ?_ GW286.out _) | exact HK.out))) : w.heap.size ≤ gb299) : w0.heap.size ≤ gb299)); replace HK := aM (KeepBut.trans (by repeat (first | (with_reducible first | exact HK.out | apply KeepBut.set_ | apply keep_drewN | apply keep_drew | apply keep_alloc | refine keep_far ?_ GW282.out _ | refine keep_far ?_ GW286.out _) | exact HK.out)) (KeepBut.of_below hb g none) (.inl rfl)); have NB282_299 := aM ((by rw [hg]; exact Nat.ne_of_lt (blk_lt (g := gb282) (o := .cells #[.int .i64 0, .slice none 0 0] 70 (0, 0)) xblk) : gb282 ≠ gb299)); have NB299_282 := aM ((by rw [hg]; exact Nat.ne_of_gt (blk_lt (g := gb282) (o := .cells #[.int .i64 0, .slice none 0 0] 70 (0, 0)) xblk) : gb299 ≠ gb282)); have NB286_299 := aM ((by rw [hg]; exact Nat.ne_of_lt (blk_lt (g := gb286) (o := .cells #[.int .i64 x287000_2, u287001] 70 (0, 0)) xblk) : gb286 ≠ gb299)); have NB299_286 := aM ((by rw [hg]; exact Nat.ne_of_gt (blk_lt (g := gb286) (o := .cells #[.int .i64 x287000_2, u287001] 70 (0, 0)) xblk) : gb299 ≠ gb286)); replace BK282 := xbb BK282 hb; replace BK286 := xbb BK286 hb; have BK299 := aM (hbox); have NB0_299 := aM ((by rw [hg]; exact Nat.ne_of_lt (IsS156.lt (show IsS156 w0 _ g s0_0 t297 t298 from by repeat (first | (with_reducible first | exact HI0.out | apply IsS156.alloc | apply IsS156.drewN | apply IsS156.drew | apply IsS156.set_1 | apply IsS156.set_2 | refine IsS156.far ?_ NB0_282.out _ | refine IsS156.far ?_ NB0_286.out _) | exact HI0.out))) : g ≠ gb299)); have NB299_0 := aM ((by rw [hg]; exact Nat.ne_of_gt (IsS156.lt (show IsS156 w0 _ g s0_0 t297 t298 from by repeat (first | (with_reducible first | exact HI0.out | apply IsS156.alloc | apply IsS156.drewN | apply IsS156.drew | apply IsS156.set_1 | apply IsS156.set_2 | refine IsS156.far ?_ NB0_282.out _ | refine IsS156.far ?_ NB0_286.out _) | exact HI0.out))) : gb299 ≠ g)); replace HI0 := aM (IsS156.below (by repeat (first | (with_reducible first | exact HI0.out | apply IsS156.alloc | apply IsS156.drewN | apply IsS156.drew | apply IsS156.set_1 | apply IsS156.set_2 | refine IsS156.far ?_ NB0_282.out _ | refine IsS156.far ?_ NB0_286.out _) | exact HI0.out)) hb); clear hb hbox hg; have hnb30 := NB299_282.out; have hnc30 := NB282_299.out; have hnb31 := NB299_286.out; have hnc31 := NB286_299.out; have hnb32 := NB299_0.out; have hnc32 := NB0_299.out; obtain ⟨hcz33_0, hcz33_1, hfz33_0, hfz33_1⟩ := xf2 (w := w29) BK299; obtain ⟨Ao34, co34, eo34⟩ := Kd.R_slice HO_287001.out; subst eo34) | ((with_reducible refine gate_callee (f := 78) rfl ?_); refine goesL_ (some 25) rfl rfl Try.func78 (by kernel_rfl) rfl #[.pointer (some ⟨g, 0, none⟩), .int .i64 5] rfl (by (try simp only [List.map_toArray, List.map_cons, List.map_nil]); first | done | rfl | (simp only [List.length_drop, List.length_take]; rfl)) ?_; (with_reducible refine (spec_l1Below.calls g s0_0 t297 t298 5 t300 t301 t302 w0 _ ?side1 ?side2 A23.out).mono ?_); (case side1 => repeat (first | (with_reducible first | exact HI0.out | apply IsS156.alloc | apply IsS156.drewN | apply IsS156.drew | apply IsS156.set_1 | apply IsS156.set_2 | refine IsS156.far ?_ NB0_282.out _ | refine IsS156.far ?_ NB0_286.out _ | refine IsS156.far ?_ NB0_299.out _) | exact HI0.out)); (case side2 => repeat (first | (with_reducible first | exact HB.out | apply below_alloc | apply pw_below_drewN | apply below_drew1 | refine below_set ?_ (IsS156.ge HI0.out) | refine below_set ?_ GE282.out | refine below_set ?_ GE286.out | refine below_set ?_ GE299.out) | exact HB.out)); rintro e w35 ⟨rfl, hi, hb, hk⟩; refine ⟨_, rfl, ?_⟩; replace HO_287001 := aM (Kd.R_mono (Kd.R_keep (IsS156.apart (show IsS156 w0 _ g s0_0 t297 t298 from by repeat (first | (with_reducible first | exact HI0.out | apply IsS156.alloc | apply IsS156.drewN | apply IsS156.drew | apply IsS156.set_1 | apply IsS156.set_2 | refine IsS156.far ?_ NB0_282.out _ | refine IsS156.far ?_ NB0_286.out _ | refine IsS156.far ?_ NB0_299.out _) | exact HI0.out)) (xrt (Kd.R_mono (Kd.R_far (p := ⟨gb299, 1, none⟩) (Kd.R_far (p := ⟨gb299, 0, none⟩) (Kd.R_types HO_287001.out BK299.out (by decide)) (fun _ hk => hk.2) (.int .i64 x287000_2)) (fun _ hk => hk.2) (.slice Ao34 x287001_2.length co34)) (fun _ h_ => h_.1))) (by decide)) hk (fun _ h => h.2)) (fun _ h => h.1)); replace BK282 := aM (KeepBut.blk hk (g' := gb282) (o := .cells #[.int .i64 0, .slice none 0 0] 70 (0, 0)) (by (with_reducible repeat (first | refine blk_drewN ?_ _ | refine blk_drew ?_ | refine blk_alloc ?_ _)); refine blk_far ?_ NB282_299.out _; (with_reducible repeat (first | refine blk_drewN ?_ _ | refine blk_drew ?_ | refine blk_alloc ?_ _)); refine blk_far ?_ NB282_299.out _; (with_reducible repeat (first | refine blk_drewN ?_ _ | refine blk_drew ?_ | refine blk_alloc ?_ _)); exact BK282.out) NB282_0.out (by simp)); replace BK286 := aM (KeepBut.blk hk (g' := gb286) (o := .cells #[.int .i64 x287000_2, .slice Ao34 x287001_2.length co34] 70 (0, 0)) (by (with_reducible repeat (first | refine blk_drewN ?_ _ | refine blk_drew ?_ | refine blk_alloc ?_ _)); refine blk_far ?_ NB286_299.out _; (with_reducible repeat (first | refine blk_drewN ?_ _ | refine blk_drew ?_ | refine blk_alloc ?_ _)); refine blk_far ?_ NB286_299.out _; (with_reducible repeat (first | refine blk_drewN ?_ _ | refine blk_drew ?_ | refine blk_alloc ?_ _)); exact BK286.out) NB286_0.out (by simp)); replace BK299 := aM (KeepBut.blk hk (g' := gb299) (o := .cells #[.int .i64 x287000_2, .slice Ao34 x287001_2.length co34] 70 (0, 0)) (by (with_reducible repeat (first | refine blk_drewN ?_ _ | refine blk_drew ?_ | refine blk_alloc ?_ _)); refine blk_put (cs := #[.int .i64 x287000_2, .slice none 0 0]) ?_ 1 _ rfl; (with_reducible repeat (first | refine blk_drewN ?_ _ | refine blk_drew ?_ | refine blk_alloc ?_ _)); refine blk_put (cs := #[.int .i64 0, .slice none 0 0]) ?_ 0 _ rfl; (with_reducible repeat (first | refine blk_drewN ?_ _ | refine blk_drew ?_ | refine blk_alloc ?_ _)); exact BK299.out) NB299_0.out (by simp)); replace HK := aM (KeepBut.trans (by repeat (first | (with_reducible first | exact HK.out | apply KeepBut.set_ | apply keep_drewN | apply keep_drew | apply keep_alloc | refine keep_far ?_ GW282.out _ | refine keep_far ?_ GW286.out _ | refine keep_far ?_ GW299.out _) | exact HK.out)) hk (.inl rfl)); replace HB := aM (hb); replace HI0 := aM (hi); (try clear hb); (try clear hb2); (try clear hk); (try clear hi)))
      (try simp only [Act.put, List.setIfInBounds_toArray, List.set_cons_zero, List.set_cons_succ])
      go_cut [35] (fun v35 wc => ∃ (kq : Nat) (x35_23 : Bool), v35 = .bool x35_23 ∧ Aside0 (spec_l3DrawRight.j2 kq x4_2 t300 x35_23 s0_0 t301 t302 x287000_2 x287001_2 = some (r1, r2, r3, r4)) ∧ Aside0 (kq ≤ k2) ∧ Aside0 (Kd.R k134 134 wc w.heap.size (fun _ => True) (.slice Ao34 x287001_2.length co34) x287001_2) ∧ Aside0 (Kd.R k134 134 wc w.heap.size (fun _ => True) (.slice Ao34 x287001_2.length co34) x287001_2) ∧ Aside0 (wc.heap[gb282]? = some (.cells #[.int .i64 0, (.slice none 0 0)] 70 (0, 0))) ∧ Aside0 (wc.heap[gb286]? = some (.cells #[.int .i64 x287000_2, (.slice Ao34 x287001_2.length co34)] 70 (0, 0))) ∧ Aside0 (wc.heap[gb299]? = some (.cells #[.int .i64 x287000_2, (.slice Ao34 x287001_2.length co34)] 70 (0, 0))) ∧ Aside0 (IsS156 w0 wc g s0_0 t301 t302) ∧ Aside0 (KeepBut w wc g none) ∧ Aside0 (Below w0.heap.size w0 wc))
      case first =>
       have H := HC24.out; clear HC24
       by_cases c36 : t300 = 0
       ·rw [if_pos c36] at H
        have c36b0 : (t300 == 0) = true := beq_iff_eq.mpr c36; have c36b1 : (t300 != 0) = false := bne_eq_false_iff_eq.mpr c36; clear c36
        (first | rw [c36b0] | (simp only [i64_w, i32_w]; rw [c36b0]) | skip)
        have H' := aM H
        clear H
        go_wp2
        go_meet
        case rel => exact ⟨_, ((t300 == 0)), (by first | rfl | (simp; done) | (simp [*]; done)), H', ⟨by have := HJ3.out; have := HK2.out; first | omega | exact Nat.le_refl _⟩, ⟨by (with_reducible repeat (first | apply Kd.R_alloc | apply Kd.R_drewN | apply Kd.R_drew)); exact HO_287001.out⟩, ⟨by (with_reducible repeat (first | apply Kd.R_alloc | apply Kd.R_drewN | apply Kd.R_drew)); exact HO_287001.out⟩, ⟨xblk⟩, ⟨xblk⟩, ⟨xblk⟩, ⟨by repeat (first | (with_reducible first | exact HI0.out | apply IsS156.alloc | apply IsS156.drewN | apply IsS156.drew | apply IsS156.set_1 | apply IsS156.set_2 | refine IsS156.far ?_ NB0_282.out _ | refine IsS156.far ?_ NB0_286.out _ | refine IsS156.far ?_ NB0_299.out _) | exact HI0.out)⟩, ⟨by repeat (first | (with_reducible first | exact HK.out | apply KeepBut.set_ | apply keep_drewN | apply keep_drew | apply keep_alloc | refine keep_far ?_ GW282.out _ | refine keep_far ?_ GW286.out _ | refine keep_far ?_ GW299.out _) | exact HK.out)⟩, ⟨by repeat (first | (with_reducible first | exact HB.out | apply below_alloc | apply pw_below_drewN | apply below_drew1 | refine below_set ?_ (IsS156.ge HI0.out) | refine below_set ?_ GE282.out | refine below_set ?_ GE286.out | refine below_set ?_ GE299.out) | exact HB.out)⟩⟩
       ·rw [if_neg c36] at H
        have c36b0 : (t300 == 0) = false := beq_eq_false_iff_ne.mpr c36; have c36b1 : (t300 != 0) = true := bne_iff_ne.mpr c36
        (first | rw [c36b0] | (simp only [i64_w, i32_w]; rw [c36b0]) | skip)
        by_cases c37 : t300 = 1
        ·rw [if_pos c37] at H
         have c37b0 : (t300 == 1) = true := beq_iff_eq.mpr c37; have c37b1 : (t300 != 1) = false := bne_eq_false_iff_eq.mpr c37; clear c37
         have H' := aM H
         clear H
         go_wp2
         go_meet
         case rel => exact ⟨_, ((t300 == 1)), (by first | rfl | (simp; done) | (simp [*]; done)), H', ⟨by have := HJ3.out; have := HK2.out; first | omega | exact Nat.le_refl _⟩, ⟨by (with_reducible repeat (first | apply Kd.R_alloc | apply Kd.R_drewN | apply Kd.R_drew)); exact HO_287001.out⟩, ⟨by (with_reducible repeat (first | apply Kd.R_alloc | apply Kd.R_drewN | apply Kd.R_drew)); exact HO_287001.out⟩, ⟨xblk⟩, ⟨xblk⟩, ⟨xblk⟩, ⟨by repeat (first | (with_reducible first | exact HI0.out | apply IsS156.alloc | apply IsS156.drewN | apply IsS156.drew | apply IsS156.set_1 | apply IsS156.set_2 | refine IsS156.far ?_ NB0_282.out _ | refine IsS156.far ?_ NB0_286.out _ | refine IsS156.far ?_ NB0_299.out _) | exact HI0.out)⟩, ⟨by repeat (first | (with_reducible first | exact HK.out | apply KeepBut.set_ | apply keep_drewN | apply keep_drew | apply keep_alloc | refine keep_far ?_ GW282.out _ | refine keep_far ?_ GW286.out _ | refine keep_far ?_ GW299.out _) | exact HK.out)⟩, ⟨by repeat (first | (with_reducible first | exact HB.out | apply below_alloc | apply pw_below_drewN | apply below_drew1 | refine below_set ?_ (IsS156.ge HI0.out) | refine below_set ?_ GE282.out | refine below_set ?_ GE286.out | refine below_set ?_ GE299.out) | exact HB.out)⟩⟩
        ·rw [if_neg c37] at H
         have c37b0 : (t300 == 1) = false := beq_eq_false_iff_ne.mpr c37; have c37b1 : (t300 != 1) = true := bne_iff_ne.mpr c37
         have H' := aM H
         clear H
         go_wp2
         go_meet
         case rel => exact ⟨_, ((t300 == 2)), (by first | rfl | (simp; done) | (simp [*]; done)), H', ⟨by have := HJ3.out; have := HK2.out; first | omega | exact Nat.le_refl _⟩, ⟨by (with_reducible repeat (first | apply Kd.R_alloc | apply Kd.R_drewN | apply Kd.R_drew)); exact HO_287001.out⟩, ⟨by (with_reducible repeat (first | apply Kd.R_alloc | apply Kd.R_drewN | apply Kd.R_drew)); exact HO_287001.out⟩, ⟨xblk⟩, ⟨xblk⟩, ⟨xblk⟩, ⟨by repeat (first | (with_reducible first | exact HI0.out | apply IsS156.alloc | apply IsS156.drewN | apply IsS156.drew | apply IsS156.set_1 | apply IsS156.set_2 | refine IsS156.far ?_ NB0_282.out _ | refine IsS156.far ?_ NB0_286.out _ | refine IsS156.far ?_ NB0_299.out _) | exact HI0.out)⟩, ⟨by repeat (first | (with_reducible first | exact HK.out | apply KeepBut.set_ | apply keep_drewN | apply keep_drew | apply keep_alloc | refine keep_far ?_ GW282.out _ | refine keep_far ?_ GW286.out _ | refine keep_far ?_ GW299.out _) | exact HK.out)⟩, ⟨by repeat (first | (with_reducible first | exact HB.out | apply below_alloc | apply pw_below_drewN | apply below_drew1 | refine below_set ?_ (IsS156.ge HI0.out) | refine below_set ?_ GE282.out | refine below_set ?_ GE286.out | refine below_set ?_ GE299.out) | exact HB.out)⟩⟩
      case rest =>
       clear HC24
       try clear c1
       try clear c2
       try clear p2
       try clear c3
       try clear p6
       try clear c7
       try clear c8
       try clear c9
       try clear c12
       try clear c15
       try clear c18
       try clear c19
       try clear c22
       try clear c22b0
       try clear c26
       try clear c27
       try clear c30
       try clear c31
       try clear c32
       try clear c36
       try clear c36b0
       try clear c36b1
       try clear c37
       try clear c37b0
       try clear c37b1
       try clear hcz10_0
       try clear hcz10_1
       try clear hcz20_0
       try clear hcz20_1
       try clear hcz28_0
       try clear hcz28_1
       try clear hcz33_0
       try clear hcz33_1
       try clear hfz10_0
       try clear hfz10_1
       try clear hfz20_0
       try clear hfz20_1
       try clear hfz28_0
       try clear hfz28_1
       try clear hfz33_0
       try clear hfz33_1
       try clear p2
       try clear p6
       obtain ⟨kq, x35_23, rfl, HA, HJ23, HO_287001, HO_300001, BK282, BK286, BK299, HI0, HK, HB⟩ := hcut
       cases kq with
       | zero => exact absurd HA.out (by simp [spec_l3DrawRight.j2])
       | succ kj23 =>
        have H := HA.out; clear HA
        simp only [spec_l3DrawRight.j2] at H
        by_cases c38 : x35_23 = true
        ·subst c38
         have H1 : ((spec_l1Below.f s0_0 t301 t302 5).bind fun bt303 => ((spec_l3DrawText.f kj23 s0_0 bt303.2.1 bt303.2.2 8).bind fun bt306 => ((spec_DiskAppend.f kj23 x287000_2 x287001_2 bt303.1 bt306.1).bind fun bt309 => (if bt309.2.2 = 1 then (spec_l3DrawRight.l0 kj23 (wrap64 (x4_2 + 1)) s0_0 bt306.2.1 bt306.2.2 x287000_2 x287001_2) else (spec_l3DrawRight.l0 kj23 (wrap64 (x4_2 + 1)) s0_0 bt306.2.1 bt306.2.2 bt309.1 bt309.2.1))))) = some (r1, r2, r3, r4) := by rw [if_pos rfl] at H; exact H
         clear H; have H := H1; clear H1; replace H := Option.bind_eq_some_iff.mp H
         obtain ⟨⟨t303, t304, t305⟩, A390, H⟩ := H
         replace H : ((spec_l3DrawText.f kj23 s0_0 t304 t305 8).bind fun bt306 => ((spec_DiskAppend.f kj23 x287000_2 x287001_2 t303 bt306.1).bind fun bt309 => (if bt309.2.2 = 1 then (spec_l3DrawRight.l0 kj23 (wrap64 (x4_2 + 1)) s0_0 bt306.2.1 bt306.2.2 x287000_2 x287001_2) else (spec_l3DrawRight.l0 kj23 (wrap64 (x4_2 + 1)) s0_0 bt306.2.1 bt306.2.2 bt309.1 bt309.2.1)))) = some (r1, r2, r3, r4) := H; have A39 := aM A390; clear A390; replace H := Option.bind_eq_some_iff.mp H
         obtain ⟨⟨t306, t307, t308⟩, A400, H⟩ := H
         replace H : ((spec_DiskAppend.f kj23 x287000_2 x287001_2 t303 t306).bind fun bt309 => (if bt309.2.2 = 1 then (spec_l3DrawRight.l0 kj23 (wrap64 (x4_2 + 1)) s0_0 t307 t308 x287000_2 x287001_2) else (spec_l3DrawRight.l0 kj23 (wrap64 (x4_2 + 1)) s0_0 t307 t308 bt309.1 bt309.2.1))) = some (r1, r2, r3, r4) := H; have A40 := aM A400; clear A400; replace H := Option.bind_eq_some_iff.mp H
         obtain ⟨⟨t309, t310, t313⟩, A410, H⟩ := H
         replace H : (if t313 = 1 then (spec_l3DrawRight.l0 kj23 (wrap64 (x4_2 + 1)) s0_0 t307 t308 x287000_2 x287001_2) else (spec_l3DrawRight.l0 kj23 (wrap64 (x4_2 + 1)) s0_0 t307 t308 t309 t310)) = some (r1, r2, r3, r4) := H; have A41 := aM A410; clear A410
         by_cases c42 : t313 = 1
         ·rw [if_pos c42] at H
          have c42b0 : (t313 == 1) = true := beq_iff_eq.mpr c42; have c42b1 : (t313 != 1) = false := bne_eq_false_iff_eq.mpr c42; clear c42
          have H' := aM H
          clear H
          try go_wp2
          replace HO_287001 := aM (Kd.R_drew HO_287001.out); replace HO_300001 := aM (Kd.R_drew HO_300001.out); replace BK282 := aM (blk_drew BK282.out); replace BK286 := aM (blk_drew BK286.out); replace BK299 := aM (blk_drew BK299.out); replace HI0 := aM (IsS156.drew HI0.out); replace HK := aM (keep_drew HK.out); replace HB := aM (below_drew1 HB.out)
          refine start_ (n := 11) (S := fun w' => w'.cell? ⟨gb286, 0, none⟩ = some (.int .i64 x287000_2) ∧ w'.cell? ⟨gb286, 1, none⟩ = some (.slice Ao34 x287001_2.length co34)) (ds := []) #[false, false, false, false, false, false, false, false, false, false, false] (by kernel_rfl) rfl rfl ⟨xc BK286 0 rfl, xc BK286 1 rfl⟩ (fun hHeld => ?_); refine with_tabW spec_l3DrawRight.tab13 spec_l3DrawRight.bits13 (fun HT_ HW_ => ?_)
          generalize wc.drew = w43 at HO_287001 HO_300001 BK282 BK286 BK299 HI0 HK HB hHeld ⊢
          refine pv_ 1 41 (h := ?_)
          refine pv_ 3 43 (h := ?_)
          refine tk_ 0 40 (h := ?_)
          refine on_ 2 42 (h := fun K hK => ?_)
          refine goesY Try.func78 #[.pointer (some ⟨g, 0, none⟩), .int .i64 5] ?_
          with_reducible refine (spec_l1Below.calls g s0_0 t301 t302 5 t303 t304 t305 w0 _ ?side1 ?side2 A39.out).mono ?_
          (case side1 => repeat (first | (with_reducible first | exact HI0.out | apply IsS156.alloc | apply IsS156.drewN | apply IsS156.drew | apply IsS156.set_1 | apply IsS156.set_2 | refine IsS156.far ?_ NB0_282.out _ | refine IsS156.far ?_ NB0_286.out _ | refine IsS156.far ?_ NB0_299.out _) | exact HI0.out))
          (case side2 => repeat (first | (with_reducible first | exact HB.out | apply below_alloc | apply pw_below_drewN | apply below_drew1 | refine below_set ?_ (IsS156.ge HI0.out) | refine below_set ?_ GE282.out | refine below_set ?_ GE286.out | refine below_set ?_ GE299.out) | exact HB.out))
          rintro e w44 ⟨rfl, hi, hb, hk⟩
          refine ⟨_, rfl, ?_⟩
          have n0_ := aM (Kd.R_mono (Kd.R_keep (IsS156.apart (show IsS156 w0 _ g s0_0 t301 t302 from by repeat (first | (with_reducible first | exact HI0.out | apply IsS156.alloc | apply IsS156.drewN | apply IsS156.drew | apply IsS156.set_1 | apply IsS156.set_2 | refine IsS156.far ?_ NB0_282.out _ | refine IsS156.far ?_ NB0_286.out _ | refine IsS156.far ?_ NB0_299.out _) | exact HI0.out)) (xr HO_287001) (by decide)) hk (fun _ h => h.2)) (fun _ h => h.1)); have n1_ := aM (Kd.R_mono (Kd.R_keep (IsS156.apart (show IsS156 w0 _ g s0_0 t301 t302 from by repeat (first | (with_reducible first | exact HI0.out | apply IsS156.alloc | apply IsS156.drewN | apply IsS156.drew | apply IsS156.set_1 | apply IsS156.set_2 | refine IsS156.far ?_ NB0_282.out _ | refine IsS156.far ?_ NB0_286.out _ | refine IsS156.far ?_ NB0_299.out _) | exact HI0.out)) (xr HO_300001) (by decide)) hk (fun _ h => h.2)) (fun _ h => h.1)); have n2_ := aM (KeepBut.blk hk (g' := gb282) (o := .cells #[.int .i64 0, .slice none 0 0] 70 (0, 0)) xblk NB282_0.out (by simp)); have n3_ := aM (KeepBut.blk hk (g' := gb286) (o := .cells #[.int .i64 x287000_2, .slice Ao34 x287001_2.length co34] 70 (0, 0)) xblk NB286_0.out (by simp)); have n4_ := aM (KeepBut.blk hk (g' := gb299) (o := .cells #[.int .i64 x287000_2, .slice Ao34 x287001_2.length co34] 70 (0, 0)) xblk NB299_0.out (by simp)); have n5_ := aM (KeepBut.trans (by repeat (first | (with_reducible first | exact HK.out | apply KeepBut.set_ | apply keep_drewN | apply keep_drew | apply keep_alloc | refine keep_far ?_ GW282.out _ | refine keep_far ?_ GW286.out _ | refine keep_far ?_ GW299.out _) | exact HK.out)) hk (.inl rfl))
          have n6_ := aM (hb); have n7_ := aM (hi); clear HO_287001 HO_300001 BK282 BK286 BK299 HK HB HI0; have HO_287001 := n0_; have HO_300001 := n1_; have BK282 := n2_; have BK286 := n3_; have BK299 := n4_; have HK := n5_; have HB := n6_; have HI0 := n7_; clear n0_ n1_ n2_ n3_ n4_ n5_ n6_ n7_
          (try clear hb); (try clear hb2); (try clear hk); (try clear hi)
          refine hK.out _ _ ⟨xc BK286 0 rfl, xc BK286 1 rfl⟩ (fun hHeld => ?_)
          clear hK K
          refine norm_ (a' := ?_) ?_ ?_
          rotate_left
          ·show Act.put _ (some 42) _ = _
           simp only [Act.put, List.setIfInBounds_toArray, List.set_cons_zero, List.set_cons_succ, i64_w, i32_w]
           rfl
          refine on_ 4 44 (h := fun K hK => ?_)
          refine goesY Try.func125 #[.pointer (some ⟨g, 0, none⟩), .int .i64 8] ?_
          with_reducible refine (spec_l3DrawText.calls kj23 g s0_0 t304 t305 8 t306 t307 t308 w0 _ ?side1 ?side2 A40.out).mono ?_
          (case side1 => repeat (first | (with_reducible first | exact HI0.out | apply IsS156.alloc | apply IsS156.drewN | apply IsS156.drew | apply IsS156.set_1 | apply IsS156.set_2 | refine IsS156.far ?_ NB0_282.out _ | refine IsS156.far ?_ NB0_286.out _ | refine IsS156.far ?_ NB0_299.out _) | exact HI0.out))
          (case side2 => repeat (first | (with_reducible first | exact HB.out | apply below_alloc | apply pw_below_drewN | apply below_drew1 | refine below_set ?_ (IsS156.ge HI0.out) | refine below_set ?_ GE282.out | refine below_set ?_ GE286.out | refine below_set ?_ GE299.out) | exact HB.out))
          rintro e w45 ⟨rfl, hi, hb, hk⟩
          refine ⟨_, rfl, ?_⟩
          have n0_ := aM (Kd.R_mono (Kd.R_keep (IsS156.apart (show IsS156 w0 _ g s0_0 t304 t305 from by repeat (first | (with_reducible first | exact HI0.out | apply IsS156.alloc | apply IsS156.drewN | apply IsS156.drew | apply IsS156.set_1 | apply IsS156.set_2 | refine IsS156.far ?_ NB0_282.out _ | refine IsS156.far ?_ NB0_286.out _ | refine IsS156.far ?_ NB0_299.out _) | exact HI0.out)) (xr HO_287001) (by decide)) hk (fun _ h => h.2)) (fun _ h => h.1)); have n1_ := aM (Kd.R_mono (Kd.R_keep (IsS156.apart (show IsS156 w0 _ g s0_0 t304 t305 from by repeat (first | (with_reducible first | exact HI0.out | apply IsS156.alloc | apply IsS156.drewN | apply IsS156.drew | apply IsS156.set_1 | apply IsS156.set_2 | refine IsS156.far ?_ NB0_282.out _ | refine IsS156.far ?_ NB0_286.out _ | refine IsS156.far ?_ NB0_299.out _) | exact HI0.out)) (xr HO_300001) (by decide)) hk (fun _ h => h.2)) (fun _ h => h.1)); have n2_ := aM (KeepBut.blk hk (g' := gb282) (o := .cells #[.int .i64 0, .slice none 0 0] 70 (0, 0)) xblk NB282_0.out (by simp)); have n3_ := aM (KeepBut.blk hk (g' := gb286) (o := .cells #[.int .i64 x287000_2, .slice Ao34 x287001_2.length co34] 70 (0, 0)) xblk NB286_0.out (by simp)); have n4_ := aM (KeepBut.blk hk (g' := gb299) (o := .cells #[.int .i64 x287000_2, .slice Ao34 x287001_2.length co34] 70 (0, 0)) xblk NB299_0.out (by simp)); have n5_ := aM (KeepBut.trans (by repeat (first | (with_reducible first | exact HK.out | apply KeepBut.set_ | apply keep_drewN | apply keep_drew | apply keep_alloc | refine keep_far ?_ GW282.out _ | refine keep_far ?_ GW286.out _ | refine keep_far ?_ GW299.out _) | exact HK.out)) hk (.inl rfl))
          have n6_ := aM (hb); have n7_ := aM (hi); clear HO_287001 HO_300001 BK282 BK286 BK299 HK HB HI0; have HO_287001 := n0_; have HO_300001 := n1_; have BK282 := n2_; have BK286 := n3_; have BK299 := n4_; have HK := n5_; have HB := n6_; have HI0 := n7_; clear n0_ n1_ n2_ n3_ n4_ n5_ n6_ n7_
          (try clear hb); (try clear hb2); (try clear hk); (try clear hi)
          refine hK.out _ _ ⟨xc BK286 0 rfl, xc BK286 1 rfl⟩ (fun hHeld => ?_)
          clear hK K
          refine norm_ (a' := ?_) ?_ ?_
          rotate_left
          ·show Act.put _ (some 44) _ = _
           simp only [Act.put, List.setIfInBounds_toArray, List.set_cons_zero, List.set_cons_succ, i64_w, i32_w]
           rfl
          refine on_ 5 45 (h := fun K hK => ?_)
          refine goesY Try.func38 #[.agg #[.int .i64 x287000_2, .slice Ao34 x287001_2.length co34], .int .i64 t303, .string t306] ?_
          with_reducible refine (spec_DiskAppend.calls kj23 x287000_2 _ _ x287001_2 t303 t306 t309 t310 t313 _ ?side1 ?side2 A41.out).mono ?_
          (case side1 => repeat (first | exact (Kd.R_reads' HO_287001.out).2.2 | (with_reducible refine Kd.C_alloc ?_ _) | (with_reducible refine Kd.C_drewN ?_ _) | (with_reducible refine Kd.C_drew ?_)))
          (case side2 => exact (Kd.R_reads' HO_287001.out).2.1)
          rintro e w46 ⟨v311, rfl, ho0, hb⟩
          refine ⟨_, rfl, ?_⟩
          have HO312 := aM (Kd.R_lower (Kd.R_new' (Kd.R_new' ho0 (Kd.R_lt (xr HO_287001))) (Kd.R_lt (xr HO_300001))) (keep_size (w := w) (g := g) (row := none) (by repeat (first | (with_reducible first | exact HK.out | apply KeepBut.set_ | apply keep_drewN | apply keep_drew | apply keep_alloc | refine keep_far ?_ GW282.out _ | refine keep_far ?_ GW286.out _ | refine keep_far ?_ GW299.out _) | exact HK.out)))); replace HO_287001 := aM (Kd.R_elder' (xr HO_287001) (Kd.R_base ho0) hb); replace HO_300001 := aM (Kd.R_elder' (xr HO_300001) (Kd.R_base ho0) hb); replace BK282 := xbb BK282 hb; replace BK286 := xbb BK286 hb; replace BK299 := xbb BK299 hb; replace HK := aM (KeepBut.trans (by repeat (first | (with_reducible first | exact HK.out | apply KeepBut.set_ | apply keep_drewN | apply keep_drew | apply keep_alloc | refine keep_far ?_ GW282.out _ | refine keep_far ?_ GW286.out _ | refine keep_far ?_ GW299.out _) | exact HK.out)) (KeepBut.of_below hb g none) (.inl rfl)); replace HB := aM (below_step (by repeat (first | (with_reducible first | exact HB.out | apply below_alloc | apply pw_below_drewN | apply below_drew1 | refine below_set ?_ (IsS156.ge HI0.out) | refine below_set ?_ GE282.out | refine below_set ?_ GE286.out | refine below_set ?_ GE299.out) | exact HB.out)) hb); replace HI0 := aM (IsS156.below (by repeat (first | (with_reducible first | exact HI0.out | apply IsS156.alloc | apply IsS156.drewN | apply IsS156.drew | apply IsS156.set_1 | apply IsS156.set_2 | refine IsS156.far ?_ NB0_282.out _ | refine IsS156.far ?_ NB0_286.out _ | refine IsS156.far ?_ NB0_299.out _) | exact HI0.out)) hb)
          (try clear hb); (try clear hb2); (try clear hk); (try clear hi); (try clear ho0)
          obtain ⟨Ao48, co48, eo48⟩ := Kd.R_slice HO312.out
          (first | subst eo48 | (injection eo48 with f1_ f2_ f3_; have f4_ := f1_.symm; have f5_ := f3_.symm; clear f1_ f2_ f3_; subst f4_; subst f5_))
          refine hK.out _ _ ⟨xc BK286 0 rfl, xc BK286 1 rfl⟩ (fun hHeld => ?_)
          clear hK K
          refine norm_ (a' := ?_) ?_ ?_
          rotate_left
          ·show Act.put _ (some 45) _ = _
           simp only [Act.put, List.setIfInBounds_toArray, List.set_cons_zero, List.set_cons_succ, i64_w, i32_w]
           rfl
          refine pv_ 6 39 (h := ?_)
          refine pv_ 7 46 (h := ?_)
          refine pv_ 8 47 (h := ?_)
          refine one_ (i := 9) (N := none) #[true, true, true, true, true, true, true, true, true, true, false] rfl rfl (one_of HT_.out (by kernel_rfl)) (by decide) (fun K hK => ?_)
          have hs47 : w46.cell? ⟨gb299, 0, none⟩ = some (.int .i64 x287000_2) := xc BK299 0 rfl; have hfs47 := blk_frozen BK299.out 0; have hns47_0 := NB282_299.out; have hns47_1 := NB286_299.out; have hms47_0 := NB299_282.out; have hms47_1 := NB299_286.out; have hs49 : w46.cell? ⟨gb299, 1, none⟩ = some (.slice Ao34 x287001_2.length co34) := xc BK299 1 rfl; have hfs49 := blk_frozen BK299.out 1; have hns49_0 := NB282_299.out; have hns49_1 := NB286_299.out; have hms49_0 := NB299_282.out; have hms49_1 := NB299_286.out
          refine skip_ (w1 := ?_) (by rfl) rfl ?_ ?_
          rotate_left
          ·go_simp
           rfl
          refine hK.out _ _ ⟨((cell_far (p := ⟨gb299, _, none⟩) NB286_299.out _).trans (((cell_far (p := ⟨gb299, _, none⟩) NB286_299.out _).trans (hHeld.1)))), ((cell_far (p := ⟨gb299, _, none⟩) NB286_299.out _).trans (((cell_far (p := ⟨gb299, _, none⟩) NB286_299.out _).trans (hHeld.2))))⟩ (fun hHeld => ?_)
          clear hK K
          refine pv_ 10 6 (h := ?_)
          refine done_ (done_of HT_.out (by kernel_rfl)) ?_
          try go_wp2
          go_roundg kj23
          case measure => have := HJ3.out; have := HK2.out; have := HJ23.out; omega
          case rel => exact ⟨(wrap64 (x4_2 + 1)), (t307), (t308), (x287000_2), (x287001_2), (.slice Ao34 x287001_2.length co34), (by first | rfl | (simp; done) | (simp [*]; done)), H', ⟨by have := HJ3.out; have := HK2.out; have := HJ23.out; omega⟩, ⟨by (with_reducible repeat (first | apply Kd.R_alloc | apply Kd.R_drewN | apply Kd.R_drew)); exact Kd.R_mono (Kd.R_far (p := ⟨gb299, 1, none⟩) (Kd.R_far (p := ⟨gb299, 0, none⟩) (Kd.R_types HO_287001.out BK299.out (by decide)) (fun _ hk => hk.2) (.int .i64 t309)) (fun _ hk => hk.2) (.slice Ao48 t310.length co48)) (fun _ hk => trivial)⟩, ⟨by (with_reducible repeat (first | refine blk_drewN ?_ _ | refine blk_drew ?_ | refine blk_alloc ?_ _)); refine blk_far ?_ NB282_299.out _; (with_reducible repeat (first | refine blk_drewN ?_ _ | refine blk_drew ?_ | refine blk_alloc ?_ _)); refine blk_far ?_ NB282_299.out _; (with_reducible repeat (first | refine blk_drewN ?_ _ | refine blk_drew ?_ | refine blk_alloc ?_ _)); exact BK282.out⟩, ⟨by (with_reducible repeat (first | refine blk_drewN ?_ _ | refine blk_drew ?_ | refine blk_alloc ?_ _)); refine blk_far ?_ NB286_299.out _; (with_reducible repeat (first | refine blk_drewN ?_ _ | refine blk_drew ?_ | refine blk_alloc ?_ _)); refine blk_far ?_ NB286_299.out _; (with_reducible repeat (first | refine blk_drewN ?_ _ | refine blk_drew ?_ | refine blk_alloc ?_ _)); exact BK286.out⟩, ⟨by repeat (first | (with_reducible first | exact HI0.out | apply IsS156.alloc | apply IsS156.drewN | apply IsS156.drew | apply IsS156.set_1 | apply IsS156.set_2 | refine IsS156.far ?_ NB0_282.out _ | refine IsS156.far ?_ NB0_286.out _ | refine IsS156.far ?_ NB0_299.out _) | exact HI0.out)⟩, ⟨by repeat (first | (with_reducible first | exact HK.out | apply KeepBut.set_ | apply keep_drewN | apply keep_drew | apply keep_alloc | refine keep_far ?_ GW282.out _ | refine keep_far ?_ GW286.out _ | refine keep_far ?_ GW299.out _) | exact HK.out)⟩, ⟨by repeat (first | (with_reducible first | exact HB.out | apply below_alloc | apply pw_below_drewN | apply below_drew1 | refine below_set ?_ (IsS156.ge HI0.out) | refine below_set ?_ GE282.out | refine below_set ?_ GE286.out | refine below_set ?_ GE299.out) | exact HB.out)⟩⟩
         ·rw [if_neg c42] at H
          have c42b0 : (t313 == 1) = false := beq_eq_false_iff_ne.mpr c42; have c42b1 : (t313 != 1) = true := bne_iff_ne.mpr c42
          have H' := aM H
          clear H
          try go_wp2
          replace HO_287001 := aM (Kd.R_drew HO_287001.out); replace HO_300001 := aM (Kd.R_drew HO_300001.out); replace BK282 := aM (blk_drew BK282.out); replace BK286 := aM (blk_drew BK286.out); replace BK299 := aM (blk_drew BK299.out); replace HI0 := aM (IsS156.drew HI0.out); replace HK := aM (keep_drew HK.out); replace HB := aM (below_drew1 HB.out)
          refine start_ (n := 11) (S := fun w' => w'.cell? ⟨gb286, 0, none⟩ = some (.int .i64 x287000_2) ∧ w'.cell? ⟨gb286, 1, none⟩ = some (.slice Ao34 x287001_2.length co34)) (ds := []) #[false, false, false, false, false, false, false, false, false, false, false] (by kernel_rfl) rfl rfl ⟨xc BK286 0 rfl, xc BK286 1 rfl⟩ (fun hHeld => ?_); refine with_tabW spec_l3DrawRight.tab13 spec_l3DrawRight.bits13 (fun HT_ HW_ => ?_)
          generalize wc.drew = w50 at HO_287001 HO_300001 BK282 BK286 BK299 HI0 HK HB hHeld ⊢
          refine pv_ 1 41 (h := ?_)
          refine pv_ 3 43 (h := ?_)
          refine tk_ 0 40 (h := ?_)
          refine on_ 2 42 (h := fun K hK => ?_)
          refine goesY Try.func78 #[.pointer (some ⟨g, 0, none⟩), .int .i64 5] ?_
          with_reducible refine (spec_l1Below.calls g s0_0 t301 t302 5 t303 t304 t305 w0 _ ?side1 ?side2 A39.out).mono ?_
          (case side1 => repeat (first | (with_reducible first | exact HI0.out | apply IsS156.alloc | apply IsS156.drewN | apply IsS156.drew | apply IsS156.set_1 | apply IsS156.set_2 | refine IsS156.far ?_ NB0_282.out _ | refine IsS156.far ?_ NB0_286.out _ | refine IsS156.far ?_ NB0_299.out _) | exact HI0.out))
          (case side2 => repeat (first | (with_reducible first | exact HB.out | apply below_alloc | apply pw_below_drewN | apply below_drew1 | refine below_set ?_ (IsS156.ge HI0.out) | refine below_set ?_ GE282.out | refine below_set ?_ GE286.out | refine below_set ?_ GE299.out) | exact HB.out))
          rintro e w51 ⟨rfl, hi, hb, hk⟩
          refine ⟨_, rfl, ?_⟩
          have n0_ := aM (Kd.R_mono (Kd.R_keep (IsS156.apart (show IsS156 w0 _ g s0_0 t301 t302 from by repeat (first | (with_reducible first | exact HI0.out | apply IsS156.alloc | apply IsS156.drewN | apply IsS156.drew | apply IsS156.set_1 | apply IsS156.set_2 | refine IsS156.far ?_ NB0_282.out _ | refine IsS156.far ?_ NB0_286.out _ | refine IsS156.far ?_ NB0_299.out _) | exact HI0.out)) (xr HO_287001) (by decide)) hk (fun _ h => h.2)) (fun _ h => h.1)); have n1_ := aM (Kd.R_mono (Kd.R_keep (IsS156.apart (show IsS156 w0 _ g s0_0 t301 t302 from by repeat (first | (with_reducible first | exact HI0.out | apply IsS156.alloc | apply IsS156.drewN | apply IsS156.drew | apply IsS156.set_1 | apply IsS156.set_2 | refine IsS156.far ?_ NB0_282.out _ | refine IsS156.far ?_ NB0_286.out _ | refine IsS156.far ?_ NB0_299.out _) | exact HI0.out)) (xr HO_300001) (by decide)) hk (fun _ h => h.2)) (fun _ h => h.1)); have n2_ := aM (KeepBut.blk hk (g' := gb282) (o := .cells #[.int .i64 0, .slice none 0 0] 70 (0, 0)) xblk NB282_0.out (by simp)); have n3_ := aM (KeepBut.blk hk (g' := gb286) (o := .cells #[.int .i64 x287000_2, .slice Ao34 x287001_2.length co34] 70 (0, 0)) xblk NB286_0.out (by simp)); have n4_ := aM (KeepBut.blk hk (g' := gb299) (o := .cells #[.int .i64 x287000_2, .slice Ao34 x287001_2.length co34] 70 (0, 0)) xblk NB299_0.out (by simp)); have n5_ := aM (KeepBut.trans (by repeat (first | (with_reducible first | exact HK.out | apply KeepBut.set_ | apply keep_drewN | apply keep_drew | apply keep_alloc | refine keep_far ?_ GW282.out _ | refine keep_far ?_ GW286.out _ | refine keep_far ?_ GW299.out _) | exact HK.out)) hk (.inl rfl))
          have n6_ := aM (hb); have n7_ := aM (hi); clear HO_287001 HO_300001 BK282 BK286 BK299 HK HB HI0; have HO_287001 := n0_; have HO_300001 := n1_; have BK282 := n2_; have BK286 := n3_; have BK299 := n4_; have HK := n5_; have HB := n6_; have HI0 := n7_; clear n0_ n1_ n2_ n3_ n4_ n5_ n6_ n7_
          (try clear hb); (try clear hb2); (try clear hk); (try clear hi)
          refine hK.out _ _ ⟨xc BK286 0 rfl, xc BK286 1 rfl⟩ (fun hHeld => ?_)
          clear hK K
          refine norm_ (a' := ?_) ?_ ?_
          rotate_left
          ·show Act.put _ (some 42) _ = _
           simp only [Act.put, List.setIfInBounds_toArray, List.set_cons_zero, List.set_cons_succ, i64_w, i32_w]
           rfl
          refine on_ 4 44 (h := fun K hK => ?_)
          refine goesY Try.func125 #[.pointer (some ⟨g, 0, none⟩), .int .i64 8] ?_
          with_reducible refine (spec_l3DrawText.calls kj23 g s0_0 t304 t305 8 t306 t307 t308 w0 _ ?side1 ?side2 A40.out).mono ?_
          (case side1 => repeat (first | (with_reducible first | exact HI0.out | apply IsS156.alloc | apply IsS156.drewN | apply IsS156.drew | apply IsS156.set_1 | apply IsS156.set_2 | refine IsS156.far ?_ NB0_282.out _ | refine IsS156.far ?_ NB0_286.out _ | refine IsS156.far ?_ NB0_299.out _) | exact HI0.out))
          (case side2 => repeat (first | (with_reducible first | exact HB.out | apply below_alloc | apply pw_below_drewN | apply below_drew1 | refine below_set ?_ (IsS156.ge HI0.out) | refine below_set ?_ GE282.out | refine below_set ?_ GE286.out | refine below_set ?_ GE299.out) | exact HB.out))
          rintro e w52 ⟨rfl, hi, hb, hk⟩
          refine ⟨_, rfl, ?_⟩
          have n0_ := aM (Kd.R_mono (Kd.R_keep (IsS156.apart (show IsS156 w0 _ g s0_0 t304 t305 from by repeat (first | (with_reducible first | exact HI0.out | apply IsS156.alloc | apply IsS156.drewN | apply IsS156.drew | apply IsS156.set_1 | apply IsS156.set_2 | refine IsS156.far ?_ NB0_282.out _ | refine IsS156.far ?_ NB0_286.out _ | refine IsS156.far ?_ NB0_299.out _) | exact HI0.out)) (xr HO_287001) (by decide)) hk (fun _ h => h.2)) (fun _ h => h.1)); have n1_ := aM (Kd.R_mono (Kd.R_keep (IsS156.apart (show IsS156 w0 _ g s0_0 t304 t305 from by repeat (first | (with_reducible first | exact HI0.out | apply IsS156.alloc | apply IsS156.drewN | apply IsS156.drew | apply IsS156.set_1 | apply IsS156.set_2 | refine IsS156.far ?_ NB0_282.out _ | refine IsS156.far ?_ NB0_286.out _ | refine IsS156.far ?_ NB0_299.out _) | exact HI0.out)) (xr HO_300001) (by decide)) hk (fun _ h => h.2)) (fun _ h => h.1)); have n2_ := aM (KeepBut.blk hk (g' := gb282) (o := .cells #[.int .i64 0, .slice none 0 0] 70 (0, 0)) xblk NB282_0.out (by simp)); have n3_ := aM (KeepBut.blk hk (g' := gb286) (o := .cells #[.int .i64 x287000_2, .slice Ao34 x287001_2.length co34] 70 (0, 0)) xblk NB286_0.out (by simp)); have n4_ := aM (KeepBut.blk hk (g' := gb299) (o := .cells #[.int .i64 x287000_2, .slice Ao34 x287001_2.length co34] 70 (0, 0)) xblk NB299_0.out (by simp)); have n5_ := aM (KeepBut.trans (by repeat (first | (with_reducible first | exact HK.out | apply KeepBut.set_ | apply keep_drewN | apply keep_drew | apply keep_alloc | refine keep_far ?_ GW282.out _ | refine keep_far ?_ GW286.out _ | refine keep_far ?_ GW299.out _) | exact HK.out)) hk (.inl rfl))
          have n6_ := aM (hb); have n7_ := aM (hi); clear HO_287001 HO_300001 BK282 BK286 BK299 HK HB HI0; have HO_287001 := n0_; have HO_300001 := n1_; have BK282 := n2_; have BK286 := n3_; have BK299 := n4_; have HK := n5_; have HB := n6_; have HI0 := n7_; clear n0_ n1_ n2_ n3_ n4_ n5_ n6_ n7_
          (try clear hb); (try clear hb2); (try clear hk); (try clear hi)
          refine hK.out _ _ ⟨xc BK286 0 rfl, xc BK286 1 rfl⟩ (fun hHeld => ?_)
          clear hK K
          refine norm_ (a' := ?_) ?_ ?_
          rotate_left
          ·show Act.put _ (some 44) _ = _
           simp only [Act.put, List.setIfInBounds_toArray, List.set_cons_zero, List.set_cons_succ, i64_w, i32_w]
           rfl
          refine on_ 5 45 (h := fun K hK => ?_)
          refine goesY Try.func38 #[.agg #[.int .i64 x287000_2, .slice Ao34 x287001_2.length co34], .int .i64 t303, .string t306] ?_
          with_reducible refine (spec_DiskAppend.calls kj23 x287000_2 _ _ x287001_2 t303 t306 t309 t310 t313 _ ?side1 ?side2 A41.out).mono ?_
          (case side1 => repeat (first | exact (Kd.R_reads' HO_287001.out).2.2 | (with_reducible refine Kd.C_alloc ?_ _) | (with_reducible refine Kd.C_drewN ?_ _) | (with_reducible refine Kd.C_drew ?_)))
          (case side2 => exact (Kd.R_reads' HO_287001.out).2.1)
          rintro e w53 ⟨v311, rfl, ho0, hb⟩
          refine ⟨_, rfl, ?_⟩
          have HO312 := aM (Kd.R_lower (Kd.R_new' (Kd.R_new' ho0 (Kd.R_lt (xr HO_287001))) (Kd.R_lt (xr HO_300001))) (keep_size (w := w) (g := g) (row := none) (by repeat (first | (with_reducible first | exact HK.out | apply KeepBut.set_ | apply keep_drewN | apply keep_drew | apply keep_alloc | refine keep_far ?_ GW282.out _ | refine keep_far ?_ GW286.out _ | refine keep_far ?_ GW299.out _) | exact HK.out)))); replace HO_287001 := aM (Kd.R_elder' (xr HO_287001) (Kd.R_base ho0) hb); replace HO_300001 := aM (Kd.R_elder' (xr HO_300001) (Kd.R_base ho0) hb); replace BK282 := xbb BK282 hb; replace BK286 := xbb BK286 hb; replace BK299 := xbb BK299 hb; replace HK := aM (KeepBut.trans (by repeat (first | (with_reducible first | exact HK.out | apply KeepBut.set_ | apply keep_drewN | apply keep_drew | apply keep_alloc | refine keep_far ?_ GW282.out _ | refine keep_far ?_ GW286.out _ | refine keep_far ?_ GW299.out _) | exact HK.out)) (KeepBut.of_below hb g none) (.inl rfl)); replace HB := aM (below_step (by repeat (first | (with_reducible first | exact HB.out | apply below_alloc | apply pw_below_drewN | apply below_drew1 | refine below_set ?_ (IsS156.ge HI0.out) | refine below_set ?_ GE282.out | refine below_set ?_ GE286.out | refine below_set ?_ GE299.out) | exact HB.out)) hb); replace HI0 := aM (IsS156.below (by repeat (first | (with_reducible first | exact HI0.out | apply IsS156.alloc | apply IsS156.drewN | apply IsS156.drew | apply IsS156.set_1 | apply IsS156.set_2 | refine IsS156.far ?_ NB0_282.out _ | refine IsS156.far ?_ NB0_286.out _ | refine IsS156.far ?_ NB0_299.out _) | exact HI0.out)) hb)
          (try clear hb); (try clear hb2); (try clear hk); (try clear hi); (try clear ho0)
          obtain ⟨Ao55, co55, eo55⟩ := Kd.R_slice HO312.out
          (first | subst eo55 | (injection eo55 with f1_ f2_ f3_; have f4_ := f1_.symm; have f5_ := f3_.symm; clear f1_ f2_ f3_; subst f4_; subst f5_))
          refine hK.out _ _ ⟨xc BK286 0 rfl, xc BK286 1 rfl⟩ (fun hHeld => ?_)
          clear hK K
          refine norm_ (a' := ?_) ?_ ?_
          rotate_left
          ·show Act.put _ (some 45) _ = _
           simp only [Act.put, List.setIfInBounds_toArray, List.set_cons_zero, List.set_cons_succ, i64_w, i32_w]
           rfl
          refine pv_ 6 39 (h := ?_)
          refine pv_ 7 46 (h := ?_)
          refine pv_ 8 47 (h := ?_)
          refine one_ (i := 9) (N := none) #[true, true, true, true, true, true, true, true, true, true, false] rfl rfl (one_of HT_.out (by kernel_rfl)) (by decide) (fun K hK => ?_)
          have hs54 : w53.cell? ⟨gb299, 0, none⟩ = some (.int .i64 x287000_2) := xc BK299 0 rfl; have hfs54 := blk_frozen BK299.out 0; have hns54_0 := NB282_299.out; have hns54_1 := NB286_299.out; have hms54_0 := NB299_282.out; have hms54_1 := NB299_286.out; have hs56 : w53.cell? ⟨gb299, 1, none⟩ = some (.slice Ao34 x287001_2.length co34) := xc BK299 1 rfl; have hfs56 := blk_frozen BK299.out 1; have hns56_0 := NB282_299.out; have hns56_1 := NB286_299.out; have hms56_0 := NB299_282.out; have hms56_1 := NB299_286.out
          refine skip_ (w1 := ?_) (by rfl) rfl ?_ ?_
          rotate_left
          ·go_simp
           rfl
          refine hK.out _ _ ⟨((cell_far (p := ⟨gb299, _, none⟩) NB286_299.out _).trans (((cell_far (p := ⟨gb299, _, none⟩) NB286_299.out _).trans (hHeld.1)))), ((cell_far (p := ⟨gb299, _, none⟩) NB286_299.out _).trans (((cell_far (p := ⟨gb299, _, none⟩) NB286_299.out _).trans (hHeld.2))))⟩ (fun hHeld => ?_)
          clear hK K
          refine pv_ 10 6 (h := ?_)
          refine done_ (done_of HT_.out (by kernel_rfl)) ?_
          have hnb57 := NB299_282.out; have hnc57 := NB282_299.out; have hnb58 := NB299_286.out; have hnc58 := NB286_299.out; have hnb59 := NB299_0.out; have hnc59 := NB0_299.out; obtain ⟨hcz60_0, hcz60_1, hfz60_0, hfz60_1⟩ := xf2 (w := w53) BK299; have hnb61 := NB286_282.out; have hnc61 := NB282_286.out; have hnb62 := NB286_0.out; have hnc62 := NB0_286.out; obtain ⟨hcz63_0, hcz63_1, hfz63_0, hfz63_1⟩ := xf2 (w := w53) BK286
          try go_wp2_with (first | ((with_reducible refine gate_store (t := 70) (p := 3) rfl ?_); refine store_event (t := 70) (p := 3) (v := ?vo_w64) (w1 := ((((w53.setCell ⟨gb299, 0, none⟩ (.int .i64 t309)).setCell ⟨gb299, 1, none⟩ (.slice Ao55 t310.length co55)).setCell ⟨gb286, 0, none⟩ (.int .i64 t309)).setCell ⟨gb286, 1, none⟩ (.slice Ao55 t310.length co55))) ?hg ?ho ?hn ?hr ?_; (case ho | hg | hn => rfl); (case hr => first | (go_simp; done) | (go_simp; rfl)); intro w64 hw; replace HO_287001 : Aside0 (Kd.R k134 134 w64 w.heap.size (fun k_ => some k_ ≠ (.slice Ao55 t310.length co55 : Value).ownBlock) (.slice Ao34 x287001_2.length co34) x287001_2) := ⟨(by rw [hw]; exact (by (with_reducible repeat (first | apply Kd.R_alloc | apply Kd.R_drewN | apply Kd.R_drew)); exact Kd.R_mono (Kd.R_far (p := ⟨gb286, 1, none⟩) (Kd.R_far (p := ⟨gb286, 0, none⟩) (Kd.R_far (p := ⟨gb299, 1, none⟩) (Kd.R_far (p := ⟨gb299, 0, none⟩) (Kd.R_types (Kd.R_types HO_287001.out BK299.out (by decide)) BK286.out (by decide)) (fun _ hk => hk.1.2) (.int .i64 t309)) (fun _ hk => hk.1.2) (.slice Ao55 t310.length co55)) (fun _ hk => hk.2) (.int .i64 t309)) (fun _ hk => hk.2) (.slice Ao55 t310.length co55)) (fun _ hk => hk.1.1.2)))⟩; replace HO_300001 : Aside0 (Kd.R k134 134 w64 w.heap.size (fun k_ => some k_ ≠ (.slice Ao55 t310.length co55 : Value).ownBlock) (.slice Ao34 x287001_2.length co34) x287001_2) := ⟨(by rw [hw]; exact (by (with_reducible repeat (first | apply Kd.R_alloc | apply Kd.R_drewN | apply Kd.R_drew)); exact Kd.R_mono (Kd.R_far (p := ⟨gb286, 1, none⟩) (Kd.R_far (p := ⟨gb286, 0, none⟩) (Kd.R_far (p := ⟨gb299, 1, none⟩) (Kd.R_far (p := ⟨gb299, 0, none⟩) (Kd.R_types (Kd.R_types HO_300001.out BK299.out (by decide)) BK286.out (by decide)) (fun _ hk => hk.1.2) (.int .i64 t309)) (fun _ hk => hk.1.2) (.slice Ao55 t310.length co55)) (fun _ hk => hk.2) (.int .i64 t309)) (fun _ hk => hk.2) (.slice Ao55 t310.length co55)) (fun _ hk => hk.1.1.2)))⟩; replace HO312 : Aside0 (Kd.R k134 134 w64 w.heap.size (fun k_ => some k_ ≠ (.slice Ao34 x287001_2.length co34 : Value).ownBlock ∧ some k_ ≠ (.slice Ao34 x287001_2.length co34 : Value).ownBlock) (.slice Ao55 t310.length co55) t310) := ⟨(by rw [hw]; exact (by (with_reducible repeat (first | apply Kd.R_alloc | apply Kd.R_drewN | apply Kd.R_drew)); exact Kd.R_mono (Kd.R_far (p := ⟨gb286, 1, none⟩) (Kd.R_far (p := ⟨gb286, 0, none⟩) (Kd.R_far (p := ⟨gb299, 1, none⟩) (Kd.R_far (p := ⟨gb299, 0, none⟩) (Kd.R_types (Kd.R_types HO312.out BK299.out (by decide)) BK286.out (by decide)) (fun _ hk => hk.1.2) (.int .i64 t309)) (fun _ hk => hk.1.2) (.slice Ao55 t310.length co55)) (fun _ hk => hk.2) (.int .i64 t309)) (fun _ hk => hk.2) (.slice Ao55 t310.length co55)) (fun _ hk => ⟨hk.1.1.1.2, hk.1.1.2⟩)))⟩; replace BK282 : Aside0 (w64.heap[gb282]? = some (.cells #[.int .i64 0, .slice none 0 0] 70 (0, 0))) := ⟨(by rw [hw]; exact (by (with_reducible repeat (first | refine blk_drewN ?_ _ | refine blk_drew ?_ | refine blk_alloc ?_ _)); refine blk_far ?_ NB282_286.out _; (with_reducible repeat (first | refine blk_drewN ?_ _ | refine blk_drew ?_ | refine blk_alloc ?_ _)); refine blk_far ?_ NB282_286.out _; (with_reducible repeat (first | refine blk_drewN ?_ _ | refine blk_drew ?_ | refine blk_alloc ?_ _)); refine blk_far ?_ NB282_299.out _; (with_reducible repeat (first | refine blk_drewN ?_ _ | refine blk_drew ?_ | refine blk_alloc ?_ _)); refine blk_far ?_ NB282_299.out _; (with_reducible repeat (first | refine blk_drewN ?_ _ | refine blk_drew ?_ | refine blk_alloc ?_ _)); exact BK282.out))⟩; replace BK286 : Aside0 (w64.heap[gb286]? = some (.cells #[.int .i64 t309, .slice Ao55 t310.length co55] 70 (0, 0))) := ⟨(by rw [hw]; exact (by (with_reducible repeat (first | refine blk_drewN ?_ _ | refine blk_drew ?_ | refine blk_alloc ?_ _)); refine blk_put (cs := #[.int .i64 t309, .slice Ao34 x287001_2.length co34]) ?_ 1 _ rfl; (with_reducible repeat (first | refine blk_drewN ?_ _ | refine blk_drew ?_ | refine blk_alloc ?_ _)); refine blk_put (cs := #[.int .i64 x287000_2, .slice Ao34 x287001_2.length co34]) ?_ 0 _ rfl; (with_reducible repeat (first | refine blk_drewN ?_ _ | refine blk_drew ?_ | refine blk_alloc ?_ _)); refine blk_far ?_ NB286_299.out _; (with_reducible repeat (first | refine blk_drewN ?_ _ | refine blk_drew ?_ | refine blk_alloc ?_ _)); refine blk_far ?_ NB286_299.out _; (with_reducible repeat (first | refine blk_drewN ?_ _ | refine blk_drew ?_ | refine blk_alloc ?_ _)); exact BK286.out))⟩; replace BK299 : Aside0 (w64.heap[gb299]? = some (.cells #[.int .i64 t309, .slice Ao55 t310.length co55] 70 (0, 0))) := ⟨(by rw [hw]; exact (by (with_reducible repeat (first | refine blk_drewN ?_ _ | refine blk_drew ?_ | refine blk_alloc ?_ _)); refine blk_far ?_ NB299_286.out _; (with_reducible repeat (first | refine blk_drewN ?_ _ | refine blk_drew ?_ | refine blk_alloc ?_ _)); refine blk_far ?_ NB299_286.out _; (with_reducible repeat (first | refine blk_drewN ?_ _ | refine blk_drew ?_ | refine blk_alloc ?_ _)); refine blk_put (cs := #[.int .i64 t309, .slice Ao34 x287001_2.length co34]) ?_ 1 _ rfl; (with_reducible repeat (first | refine blk_drewN ?_ _ | refine blk_drew ?_ | refine blk_alloc ?_ _)); refine blk_put (cs := #[.int .i64 x287000_2, .slice Ao34 x287001_2.length co34]) ?_ 0 _ rfl; (with_reducible repeat (first | refine blk_drewN ?_ _ | refine blk_drew ?_ | refine blk_alloc ?_ _)); exact BK299.out))⟩; replace HK : Aside0 (KeepBut w w64 g none) := ⟨(by rw [hw]; exact (by repeat (first | (with_reducible first | exact HK.out | apply KeepBut.set_ | apply keep_drewN | apply keep_drew | apply keep_alloc | refine keep_far ?_ GW282.out _ | refine keep_far ?_ GW286.out _ | refine keep_far ?_ GW299.out _) | exact HK.out)))⟩; replace HB : Aside0 (Below w0.heap.size w0 w64) := ⟨(by rw [hw]; exact (by repeat (first | (with_reducible first | exact HB.out | apply below_alloc | apply pw_below_drewN | apply below_drew1 | refine below_set ?_ (IsS156.ge HI0.out) | refine below_set ?_ GE282.out | refine below_set ?_ GE286.out | refine below_set ?_ GE299.out) | exact HB.out)))⟩; replace HI0 : Aside0 (IsS156 w0 w64 g s0_0 t307 t308) := ⟨(by rw [hw]; exact (by repeat (first | (with_reducible first | exact HI0.out | apply IsS156.alloc | apply IsS156.drewN | apply IsS156.drew | apply IsS156.set_1 | apply IsS156.set_2 | refine IsS156.far ?_ NB0_282.out _ | refine IsS156.far ?_ NB0_286.out _ | refine IsS156.far ?_ NB0_299.out _) | exact HI0.out)))⟩; clear hw))
          go_roundg kj23
          case measure => have := HJ3.out; have := HK2.out; have := HJ23.out; omega
          case rel => exact ⟨(wrap64 (x4_2 + 1)), (t307), (t308), (t309), (t310), (.slice Ao55 t310.length co55), (by first | rfl | (simp; done) | (simp [*]; done)), H', ⟨by have := HJ3.out; have := HK2.out; have := HJ23.out; omega⟩, ⟨by (with_reducible repeat (first | apply Kd.R_alloc | apply Kd.R_drewN | apply Kd.R_drew)); exact Kd.R_mono HO312.out (fun _ hk => trivial)⟩, ⟨xblk⟩, ⟨xblk⟩, ⟨by repeat (first | (with_reducible first | exact HI0.out | apply IsS156.alloc | apply IsS156.drewN | apply IsS156.drew | apply IsS156.set_1 | apply IsS156.set_2 | refine IsS156.far ?_ NB0_282.out _ | refine IsS156.far ?_ NB0_286.out _ | refine IsS156.far ?_ NB0_299.out _) | exact HI0.out)⟩, ⟨by repeat (first | (with_reducible first | exact HK.out | apply KeepBut.set_ | apply keep_drewN | apply keep_drew | apply keep_alloc | refine keep_far ?_ GW282.out _ | refine keep_far ?_ GW286.out _ | refine keep_far ?_ GW299.out _) | exact HK.out)⟩, ⟨by repeat (first | (with_reducible first | exact HB.out | apply below_alloc | apply pw_below_drewN | apply below_drew1 | refine below_set ?_ (IsS156.ge HI0.out) | refine below_set ?_ GE282.out | refine below_set ?_ GE286.out | refine below_set ?_ GE299.out) | exact HB.out)⟩⟩
        ·replace c38 := Bool.eq_false_iff.mpr c38
         subst c38
         have H1 : (if t300 = 3 then ((spec_l1Below.f s0_0 t301 t302 5).bind fun bt314 => ((spec_DiskSync.f kj23 x287000_2 x287001_2 bt314.1).bind fun bt317 => (if bt317.2.2 = 1 then (spec_l3DrawRight.l0 kj23 (wrap64 (x4_2 + 1)) s0_0 bt314.2.1 bt314.2.2 x287000_2 x287001_2) else (spec_l3DrawRight.l0 kj23 (wrap64 (x4_2 + 1)) s0_0 bt314.2.1 bt314.2.2 bt317.1 bt317.2.1)))) else ((spec_l1Below.f s0_0 t301 t302 5).bind fun bt322 => ((spec_l1Below.f s0_0 bt322.2.1 bt322.2.2 8).bind fun bt325 => ((spec_DiskMove.f kj23 x287000_2 x287001_2 bt322.1 bt325.1).bind fun bt328 => (if bt328.2.2 = 1 then (spec_l3DrawRight.l0 kj23 (wrap64 (x4_2 + 1)) s0_0 bt325.2.1 bt325.2.2 x287000_2 x287001_2) else (spec_l3DrawRight.l0 kj23 (wrap64 (x4_2 + 1)) s0_0 bt325.2.1 bt325.2.2 bt328.1 bt328.2.1)))))) = some (r1, r2, r3, r4) := by rw [if_neg (show ¬ (false = true) by decide)] at H; exact H
         clear H; have H := H1; clear H1
         by_cases c65 : t300 = 3
         ·rw [if_pos c65] at H
          have c65b0 : (t300 == 3) = true := beq_iff_eq.mpr c65; have c65b1 : (t300 != 3) = false := bne_eq_false_iff_eq.mpr c65; clear c65; replace H := Option.bind_eq_some_iff.mp H
          obtain ⟨⟨t314, t315, t316⟩, A660, H⟩ := H
          replace H : ((spec_DiskSync.f kj23 x287000_2 x287001_2 t314).bind fun bt317 => (if bt317.2.2 = 1 then (spec_l3DrawRight.l0 kj23 (wrap64 (x4_2 + 1)) s0_0 t315 t316 x287000_2 x287001_2) else (spec_l3DrawRight.l0 kj23 (wrap64 (x4_2 + 1)) s0_0 t315 t316 bt317.1 bt317.2.1))) = some (r1, r2, r3, r4) := H; have A66 := aM A660; clear A660; replace H := Option.bind_eq_some_iff.mp H
          obtain ⟨⟨t317, t318, t321⟩, A670, H⟩ := H
          replace H : (if t321 = 1 then (spec_l3DrawRight.l0 kj23 (wrap64 (x4_2 + 1)) s0_0 t315 t316 x287000_2 x287001_2) else (spec_l3DrawRight.l0 kj23 (wrap64 (x4_2 + 1)) s0_0 t315 t316 t317 t318)) = some (r1, r2, r3, r4) := H; have A67 := aM A670; clear A670
          by_cases c68 : t321 = 1
          ·rw [if_pos c68] at H
           have c68b0 : (t321 == 1) = true := beq_iff_eq.mpr c68; have c68b1 : (t321 != 1) = false := bne_eq_false_iff_eq.mpr c68; clear c68
           have H' := aM H
           clear H
           try go_wp2
           replace HO_287001 := aM (Kd.R_drew HO_287001.out); replace HO_300001 := aM (Kd.R_drew HO_300001.out); replace BK282 := aM (blk_drew BK282.out); replace BK286 := aM (blk_drew BK286.out); replace BK299 := aM (blk_drew BK299.out); replace HI0 := aM (IsS156.drew HI0.out); replace HK := aM (keep_drew HK.out); replace HB := aM (below_drew1 HB.out)
           refine start_ (n := 9) (S := fun w' => w'.cell? ⟨gb286, 0, none⟩ = some (.int .i64 x287000_2) ∧ w'.cell? ⟨gb286, 1, none⟩ = some (.slice Ao34 x287001_2.length co34)) (ds := []) #[false, false, false, false, false, false, false, false, false] (by kernel_rfl) rfl rfl ⟨xc BK286 0 rfl, xc BK286 1 rfl⟩ (fun hHeld => ?_); refine with_tabW spec_l3DrawRight.tab15 spec_l3DrawRight.bits15 (fun HT_ HW_ => ?_)
           generalize wc.drew = w69 at HO_287001 HO_300001 BK282 BK286 BK299 HI0 HK HB hHeld ⊢
           refine pv_ 1 52 (h := ?_)
           refine tk_ 0 51 (h := ?_)
           refine on_ 2 53 (h := fun K hK => ?_)
           refine goesY Try.func78 #[.pointer (some ⟨g, 0, none⟩), .int .i64 5] ?_
           with_reducible refine (spec_l1Below.calls g s0_0 t301 t302 5 t314 t315 t316 w0 _ ?side1 ?side2 A66.out).mono ?_
           (case side1 => repeat (first | (with_reducible first | exact HI0.out | apply IsS156.alloc | apply IsS156.drewN | apply IsS156.drew | apply IsS156.set_1 | apply IsS156.set_2 | refine IsS156.far ?_ NB0_282.out _ | refine IsS156.far ?_ NB0_286.out _ | refine IsS156.far ?_ NB0_299.out _) | exact HI0.out))
           (case side2 => repeat (first | (with_reducible first | exact HB.out | apply below_alloc | apply pw_below_drewN | apply below_drew1 | refine below_set ?_ (IsS156.ge HI0.out) | refine below_set ?_ GE282.out | refine below_set ?_ GE286.out | refine below_set ?_ GE299.out) | exact HB.out))
           rintro e w70 ⟨rfl, hi, hb, hk⟩
           refine ⟨_, rfl, ?_⟩
           have n0_ := aM (Kd.R_mono (Kd.R_keep (IsS156.apart (show IsS156 w0 _ g s0_0 t301 t302 from by repeat (first | (with_reducible first | exact HI0.out | apply IsS156.alloc | apply IsS156.drewN | apply IsS156.drew | apply IsS156.set_1 | apply IsS156.set_2 | refine IsS156.far ?_ NB0_282.out _ | refine IsS156.far ?_ NB0_286.out _ | refine IsS156.far ?_ NB0_299.out _) | exact HI0.out)) (xr HO_287001) (by decide)) hk (fun _ h => h.2)) (fun _ h => h.1)); have n1_ := aM (Kd.R_mono (Kd.R_keep (IsS156.apart (show IsS156 w0 _ g s0_0 t301 t302 from by repeat (first | (with_reducible first | exact HI0.out | apply IsS156.alloc | apply IsS156.drewN | apply IsS156.drew | apply IsS156.set_1 | apply IsS156.set_2 | refine IsS156.far ?_ NB0_282.out _ | refine IsS156.far ?_ NB0_286.out _ | refine IsS156.far ?_ NB0_299.out _) | exact HI0.out)) (xr HO_300001) (by decide)) hk (fun _ h => h.2)) (fun _ h => h.1)); have n2_ := aM (KeepBut.blk hk (g' := gb282) (o := .cells #[.int .i64 0, .slice none 0 0] 70 (0, 0)) xblk NB282_0.out (by simp)); have n3_ := aM (KeepBut.blk hk (g' := gb286) (o := .cells #[.int .i64 x287000_2, .slice Ao34 x287001_2.length co34] 70 (0, 0)) xblk NB286_0.out (by simp)); have n4_ := aM (KeepBut.blk hk (g' := gb299) (o := .cells #[.int .i64 x287000_2, .slice Ao34 x287001_2.length co34] 70 (0, 0)) xblk NB299_0.out (by simp)); have n5_ := aM (KeepBut.trans (by repeat (first | (with_reducible first | exact HK.out | apply KeepBut.set_ | apply keep_drewN | apply keep_drew | apply keep_alloc | refine keep_far ?_ GW282.out _ | refine keep_far ?_ GW286.out _ | refine keep_far ?_ GW299.out _) | exact HK.out)) hk (.inl rfl))
           have n6_ := aM (hb); have n7_ := aM (hi); clear HO_287001 HO_300001 BK282 BK286 BK299 HK HB HI0; have HO_287001 := n0_; have HO_300001 := n1_; have BK282 := n2_; have BK286 := n3_; have BK299 := n4_; have HK := n5_; have HB := n6_; have HI0 := n7_; clear n0_ n1_ n2_ n3_ n4_ n5_ n6_ n7_
           (try clear hb); (try clear hb2); (try clear hk); (try clear hi)
           refine hK.out _ _ ⟨xc BK286 0 rfl, xc BK286 1 rfl⟩ (fun hHeld => ?_)
           clear hK K
           refine norm_ (a' := ?_) ?_ ?_
           rotate_left
           ·show Act.put _ (some 53) _ = _
            simp only [Act.put, List.setIfInBounds_toArray, List.set_cons_zero, List.set_cons_succ, i64_w, i32_w]
            rfl
           refine on_ 3 54 (h := fun K hK => ?_)
           refine goesY Try.func130 #[.agg #[.int .i64 x287000_2, .slice Ao34 x287001_2.length co34], .int .i64 t314] ?_
           with_reducible refine (spec_DiskSync.calls kj23 x287000_2 _ _ x287001_2 t314 t317 t318 t321 _ ?side1 ?side2 A67.out).mono ?_
           (case side1 => repeat (first | exact (Kd.R_reads' HO_287001.out).2.2 | (with_reducible refine Kd.C_alloc ?_ _) | (with_reducible refine Kd.C_drewN ?_ _) | (with_reducible refine Kd.C_drew ?_)))
           (case side2 => exact (Kd.R_reads' HO_287001.out).2.1)
           rintro e w71 ⟨v319, rfl, ho0, hb⟩
           refine ⟨_, rfl, ?_⟩
           have HO320 := aM (Kd.R_lower (Kd.R_new' (Kd.R_new' ho0 (Kd.R_lt (xr HO_287001))) (Kd.R_lt (xr HO_300001))) (keep_size (w := w) (g := g) (row := none) (by repeat (first | (with_reducible first | exact HK.out | apply KeepBut.set_ | apply keep_drewN | apply keep_drew | apply keep_alloc | refine keep_far ?_ GW282.out _ | refine keep_far ?_ GW286.out _ | refine keep_far ?_ GW299.out _) | exact HK.out)))); replace HO_287001 := aM (Kd.R_elder' (xr HO_287001) (Kd.R_base ho0) hb); replace HO_300001 := aM (Kd.R_elder' (xr HO_300001) (Kd.R_base ho0) hb); replace BK282 := xbb BK282 hb; replace BK286 := xbb BK286 hb; replace BK299 := xbb BK299 hb; replace HK := aM (KeepBut.trans (by repeat (first | (with_reducible first | exact HK.out | apply KeepBut.set_ | apply keep_drewN | apply keep_drew | apply keep_alloc | refine keep_far ?_ GW282.out _ | refine keep_far ?_ GW286.out _ | refine keep_far ?_ GW299.out _) | exact HK.out)) (KeepBut.of_below hb g none) (.inl rfl)); replace HB := aM (below_step (by repeat (first | (with_reducible first | exact HB.out | apply below_alloc | apply pw_below_drewN | apply below_drew1 | refine below_set ?_ (IsS156.ge HI0.out) | refine below_set ?_ GE282.out | refine below_set ?_ GE286.out | refine below_set ?_ GE299.out) | exact HB.out)) hb); replace HI0 := aM (IsS156.below (by repeat (first | (with_reducible first | exact HI0.out | apply IsS156.alloc | apply IsS156.drewN | apply IsS156.drew | apply IsS156.set_1 | apply IsS156.set_2 | refine IsS156.far ?_ NB0_282.out _ | refine IsS156.far ?_ NB0_286.out _ | refine IsS156.far ?_ NB0_299.out _) | exact HI0.out)) hb)
           (try clear hb); (try clear hb2); (try clear hk); (try clear hi); (try clear ho0)
           obtain ⟨Ao73, co73, eo73⟩ := Kd.R_slice HO320.out
           (first | subst eo73 | (injection eo73 with f1_ f2_ f3_; have f4_ := f1_.symm; have f5_ := f3_.symm; clear f1_ f2_ f3_; subst f4_; subst f5_))
           refine hK.out _ _ ⟨xc BK286 0 rfl, xc BK286 1 rfl⟩ (fun hHeld => ?_)
           clear hK K
           refine norm_ (a' := ?_) ?_ ?_
           rotate_left
           ·show Act.put _ (some 54) _ = _
            simp only [Act.put, List.setIfInBounds_toArray, List.set_cons_zero, List.set_cons_succ, i64_w, i32_w]
            rfl
           refine pv_ 4 50 (h := ?_)
           refine pv_ 5 55 (h := ?_)
           refine pv_ 6 56 (h := ?_)
           refine one_ (i := 7) (N := none) #[true, true, true, true, true, true, true, true, false] rfl rfl (one_of HT_.out (by kernel_rfl)) (by decide) (fun K hK => ?_)
           have hs72 : w71.cell? ⟨gb299, 0, none⟩ = some (.int .i64 x287000_2) := xc BK299 0 rfl; have hfs72 := blk_frozen BK299.out 0; have hns72_0 := NB282_299.out; have hns72_1 := NB286_299.out; have hms72_0 := NB299_282.out; have hms72_1 := NB299_286.out; have hs74 : w71.cell? ⟨gb299, 1, none⟩ = some (.slice Ao34 x287001_2.length co34) := xc BK299 1 rfl; have hfs74 := blk_frozen BK299.out 1; have hns74_0 := NB282_299.out; have hns74_1 := NB286_299.out; have hms74_0 := NB299_282.out; have hms74_1 := NB299_286.out
           refine skip_ (w1 := ?_) (by rfl) rfl ?_ ?_
           rotate_left
           ·go_simp
            rfl
           refine hK.out _ _ ⟨((cell_far (p := ⟨gb299, _, none⟩) NB286_299.out _).trans (((cell_far (p := ⟨gb299, _, none⟩) NB286_299.out _).trans (hHeld.1)))), ((cell_far (p := ⟨gb299, _, none⟩) NB286_299.out _).trans (((cell_far (p := ⟨gb299, _, none⟩) NB286_299.out _).trans (hHeld.2))))⟩ (fun hHeld => ?_)
           clear hK K
           refine pv_ 8 6 (h := ?_)
           refine done_ (done_of HT_.out (by kernel_rfl)) ?_
           try go_wp2
           go_roundg kj23
           case measure => have := HJ3.out; have := HK2.out; have := HJ23.out; omega
           case rel => exact ⟨(wrap64 (x4_2 + 1)), (t315), (t316), (x287000_2), (x287001_2), (.slice Ao34 x287001_2.length co34), (by first | rfl | (simp; done) | (simp [*]; done)), H', ⟨by have := HJ3.out; have := HK2.out; have := HJ23.out; omega⟩, ⟨by (with_reducible repeat (first | apply Kd.R_alloc | apply Kd.R_drewN | apply Kd.R_drew)); exact Kd.R_mono (Kd.R_far (p := ⟨gb299, 1, none⟩) (Kd.R_far (p := ⟨gb299, 0, none⟩) (Kd.R_types HO_287001.out BK299.out (by decide)) (fun _ hk => hk.2) (.int .i64 t317)) (fun _ hk => hk.2) (.slice Ao73 t318.length co73)) (fun _ hk => trivial)⟩, ⟨by (with_reducible repeat (first | refine blk_drewN ?_ _ | refine blk_drew ?_ | refine blk_alloc ?_ _)); refine blk_far ?_ NB282_299.out _; (with_reducible repeat (first | refine blk_drewN ?_ _ | refine blk_drew ?_ | refine blk_alloc ?_ _)); refine blk_far ?_ NB282_299.out _; (with_reducible repeat (first | refine blk_drewN ?_ _ | refine blk_drew ?_ | refine blk_alloc ?_ _)); exact BK282.out⟩, ⟨by (with_reducible repeat (first | refine blk_drewN ?_ _ | refine blk_drew ?_ | refine blk_alloc ?_ _)); refine blk_far ?_ NB286_299.out _; (with_reducible repeat (first | refine blk_drewN ?_ _ | refine blk_drew ?_ | refine blk_alloc ?_ _)); refine blk_far ?_ NB286_299.out _; (with_reducible repeat (first | refine blk_drewN ?_ _ | refine blk_drew ?_ | refine blk_alloc ?_ _)); exact BK286.out⟩, ⟨by repeat (first | (with_reducible first | exact HI0.out | apply IsS156.alloc | apply IsS156.drewN | apply IsS156.drew | apply IsS156.set_1 | apply IsS156.set_2 | refine IsS156.far ?_ NB0_282.out _ | refine IsS156.far ?_ NB0_286.out _ | refine IsS156.far ?_ NB0_299.out _) | exact HI0.out)⟩, ⟨by repeat (first | (with_reducible first | exact HK.out | apply KeepBut.set_ | apply keep_drewN | apply keep_drew | apply keep_alloc | refine keep_far ?_ GW282.out _ | refine keep_far ?_ GW286.out _ | refine keep_far ?_ GW299.out _) | exact HK.out)⟩, ⟨by repeat (first | (with_reducible first | exact HB.out | apply below_alloc | apply pw_below_drewN | apply below_drew1 | refine below_set ?_ (IsS156.ge HI0.out) | refine below_set ?_ GE282.out | refine below_set ?_ GE286.out | refine below_set ?_ GE299.out) | exact HB.out)⟩⟩
          ·rw [if_neg c68] at H
           have c68b0 : (t321 == 1) = false := beq_eq_false_iff_ne.mpr c68; have c68b1 : (t321 != 1) = true := bne_iff_ne.mpr c68
           have H' := aM H
           clear H
           try go_wp2
           replace HO_287001 := aM (Kd.R_drew HO_287001.out); replace HO_300001 := aM (Kd.R_drew HO_300001.out); replace BK282 := aM (blk_drew BK282.out); replace BK286 := aM (blk_drew BK286.out); replace BK299 := aM (blk_drew BK299.out); replace HI0 := aM (IsS156.drew HI0.out); replace HK := aM (keep_drew HK.out); replace HB := aM (below_drew1 HB.out)
           refine start_ (n := 9) (S := fun w' => w'.cell? ⟨gb286, 0, none⟩ = some (.int .i64 x287000_2) ∧ w'.cell? ⟨gb286, 1, none⟩ = some (.slice Ao34 x287001_2.length co34)) (ds := []) #[false, false, false, false, false, false, false, false, false] (by kernel_rfl) rfl rfl ⟨xc BK286 0 rfl, xc BK286 1 rfl⟩ (fun hHeld => ?_); refine with_tabW spec_l3DrawRight.tab15 spec_l3DrawRight.bits15 (fun HT_ HW_ => ?_)
           generalize wc.drew = w75 at HO_287001 HO_300001 BK282 BK286 BK299 HI0 HK HB hHeld ⊢
           refine pv_ 1 52 (h := ?_)
           refine tk_ 0 51 (h := ?_)
           refine on_ 2 53 (h := fun K hK => ?_)
           refine goesY Try.func78 #[.pointer (some ⟨g, 0, none⟩), .int .i64 5] ?_
           with_reducible refine (spec_l1Below.calls g s0_0 t301 t302 5 t314 t315 t316 w0 _ ?side1 ?side2 A66.out).mono ?_
           (case side1 => repeat (first | (with_reducible first | exact HI0.out | apply IsS156.alloc | apply IsS156.drewN | apply IsS156.drew | apply IsS156.set_1 | apply IsS156.set_2 | refine IsS156.far ?_ NB0_282.out _ | refine IsS156.far ?_ NB0_286.out _ | refine IsS156.far ?_ NB0_299.out _) | exact HI0.out))
           (case side2 => repeat (first | (with_reducible first | exact HB.out | apply below_alloc | apply pw_below_drewN | apply below_drew1 | refine below_set ?_ (IsS156.ge HI0.out) | refine below_set ?_ GE282.out | refine below_set ?_ GE286.out | refine below_set ?_ GE299.out) | exact HB.out))
           rintro e w76 ⟨rfl, hi, hb, hk⟩
           refine ⟨_, rfl, ?_⟩
           have n0_ := aM (Kd.R_mono (Kd.R_keep (IsS156.apart (show IsS156 w0 _ g s0_0 t301 t302 from by repeat (first | (with_reducible first | exact HI0.out | apply IsS156.alloc | apply IsS156.drewN | apply IsS156.drew | apply IsS156.set_1 | apply IsS156.set_2 | refine IsS156.far ?_ NB0_282.out _ | refine IsS156.far ?_ NB0_286.out _ | refine IsS156.far ?_ NB0_299.out _) | exact HI0.out)) (xr HO_287001) (by decide)) hk (fun _ h => h.2)) (fun _ h => h.1)); have n1_ := aM (Kd.R_mono (Kd.R_keep (IsS156.apart (show IsS156 w0 _ g s0_0 t301 t302 from by repeat (first | (with_reducible first | exact HI0.out | apply IsS156.alloc | apply IsS156.drewN | apply IsS156.drew | apply IsS156.set_1 | apply IsS156.set_2 | refine IsS156.far ?_ NB0_282.out _ | refine IsS156.far ?_ NB0_286.out _ | refine IsS156.far ?_ NB0_299.out _) | exact HI0.out)) (xr HO_300001) (by decide)) hk (fun _ h => h.2)) (fun _ h => h.1)); have n2_ := aM (KeepBut.blk hk (g' := gb282) (o := .cells #[.int .i64 0, .slice none 0 0] 70 (0, 0)) xblk NB282_0.out (by simp)); have n3_ := aM (KeepBut.blk hk (g' := gb286) (o := .cells #[.int .i64 x287000_2, .slice Ao34 x287001_2.length co34] 70 (0, 0)) xblk NB286_0.out (by simp)); have n4_ := aM (KeepBut.blk hk (g' := gb299) (o := .cells #[.int .i64 x287000_2, .slice Ao34 x287001_2.length co34] 70 (0, 0)) xblk NB299_0.out (by simp)); have n5_ := aM (KeepBut.trans (by repeat (first | (with_reducible first | exact HK.out | apply KeepBut.set_ | apply keep_drewN | apply keep_drew | apply keep_alloc | refine keep_far ?_ GW282.out _ | refine keep_far ?_ GW286.out _ | refine keep_far ?_ GW299.out _) | exact HK.out)) hk (.inl rfl))
           have n6_ := aM (hb); have n7_ := aM (hi); clear HO_287001 HO_300001 BK282 BK286 BK299 HK HB HI0; have HO_287001 := n0_; have HO_300001 := n1_; have BK282 := n2_; have BK286 := n3_; have BK299 := n4_; have HK := n5_; have HB := n6_; have HI0 := n7_; clear n0_ n1_ n2_ n3_ n4_ n5_ n6_ n7_
           (try clear hb); (try clear hb2); (try clear hk); (try clear hi)
           refine hK.out _ _ ⟨xc BK286 0 rfl, xc BK286 1 rfl⟩ (fun hHeld => ?_)
           clear hK K
           refine norm_ (a' := ?_) ?_ ?_
           rotate_left
           ·show Act.put _ (some 53) _ = _
            simp only [Act.put, List.setIfInBounds_toArray, List.set_cons_zero, List.set_cons_succ, i64_w, i32_w]
            rfl
           refine on_ 3 54 (h := fun K hK => ?_)
           refine goesY Try.func130 #[.agg #[.int .i64 x287000_2, .slice Ao34 x287001_2.length co34], .int .i64 t314] ?_
           with_reducible refine (spec_DiskSync.calls kj23 x287000_2 _ _ x287001_2 t314 t317 t318 t321 _ ?side1 ?side2 A67.out).mono ?_
           (case side1 => repeat (first | exact (Kd.R_reads' HO_287001.out).2.2 | (with_reducible refine Kd.C_alloc ?_ _) | (with_reducible refine Kd.C_drewN ?_ _) | (with_reducible refine Kd.C_drew ?_)))
           (case side2 => exact (Kd.R_reads' HO_287001.out).2.1)
           rintro e w77 ⟨v319, rfl, ho0, hb⟩
           refine ⟨_, rfl, ?_⟩
           have HO320 := aM (Kd.R_lower (Kd.R_new' (Kd.R_new' ho0 (Kd.R_lt (xr HO_287001))) (Kd.R_lt (xr HO_300001))) (keep_size (w := w) (g := g) (row := none) (by repeat (first | (with_reducible first | exact HK.out | apply KeepBut.set_ | apply keep_drewN | apply keep_drew | apply keep_alloc | refine keep_far ?_ GW282.out _ | refine keep_far ?_ GW286.out _ | refine keep_far ?_ GW299.out _) | exact HK.out)))); replace HO_287001 := aM (Kd.R_elder' (xr HO_287001) (Kd.R_base ho0) hb); replace HO_300001 := aM (Kd.R_elder' (xr HO_300001) (Kd.R_base ho0) hb); replace BK282 := xbb BK282 hb; replace BK286 := xbb BK286 hb; replace BK299 := xbb BK299 hb; replace HK := aM (KeepBut.trans (by repeat (first | (with_reducible first | exact HK.out | apply KeepBut.set_ | apply keep_drewN | apply keep_drew | apply keep_alloc | refine keep_far ?_ GW282.out _ | refine keep_far ?_ GW286.out _ | refine keep_far ?_ GW299.out _) | exact HK.out)) (KeepBut.of_below hb g none) (.inl rfl)); replace HB := aM (below_step (by repeat (first | (with_reducible first | exact HB.out | apply below_alloc | apply pw_below_drewN | apply below_drew1 | refine below_set ?_ (IsS156.ge HI0.out) | refine below_set ?_ GE282.out | refine below_set ?_ GE286.out | refine below_set ?_ GE299.out) | exact HB.out)) hb); replace HI0 := aM (IsS156.below (by repeat (first | (with_reducible first | exact HI0.out | apply IsS156.alloc | apply IsS156.drewN | apply IsS156.drew | apply IsS156.set_1 | apply IsS156.set_2 | refine IsS156.far ?_ NB0_282.out _ | refine IsS156.far ?_ NB0_286.out _ | refine IsS156.far ?_ NB0_299.out _) | exact HI0.out)) hb)
           (try clear hb); (try clear hb2); (try clear hk); (try clear hi); (try clear ho0)
           obtain ⟨Ao79, co79, eo79⟩ := Kd.R_slice HO320.out
           (first | subst eo79 | (injection eo79 with f1_ f2_ f3_; have f4_ := f1_.symm; have f5_ := f3_.symm; clear f1_ f2_ f3_; subst f4_; subst f5_))
           refine hK.out _ _ ⟨xc BK286 0 rfl, xc BK286 1 rfl⟩ (fun hHeld => ?_)
           clear hK K
           refine norm_ (a' := ?_) ?_ ?_
           rotate_left
           ·show Act.put _ (some 54) _ = _
            simp only [Act.put, List.setIfInBounds_toArray, List.set_cons_zero, List.set_cons_succ, i64_w, i32_w]
            rfl
           refine pv_ 4 50 (h := ?_)
           refine pv_ 5 55 (h := ?_)
           refine pv_ 6 56 (h := ?_)
           refine one_ (i := 7) (N := none) #[true, true, true, true, true, true, true, true, false] rfl rfl (one_of HT_.out (by kernel_rfl)) (by decide) (fun K hK => ?_)
           have hs78 : w77.cell? ⟨gb299, 0, none⟩ = some (.int .i64 x287000_2) := xc BK299 0 rfl; have hfs78 := blk_frozen BK299.out 0; have hns78_0 := NB282_299.out; have hns78_1 := NB286_299.out; have hms78_0 := NB299_282.out; have hms78_1 := NB299_286.out; have hs80 : w77.cell? ⟨gb299, 1, none⟩ = some (.slice Ao34 x287001_2.length co34) := xc BK299 1 rfl; have hfs80 := blk_frozen BK299.out 1; have hns80_0 := NB282_299.out; have hns80_1 := NB286_299.out; have hms80_0 := NB299_282.out; have hms80_1 := NB299_286.out
           refine skip_ (w1 := ?_) (by rfl) rfl ?_ ?_
           rotate_left
           ·go_simp
            rfl
           refine hK.out _ _ ⟨((cell_far (p := ⟨gb299, _, none⟩) NB286_299.out _).trans (((cell_far (p := ⟨gb299, _, none⟩) NB286_299.out _).trans (hHeld.1)))), ((cell_far (p := ⟨gb299, _, none⟩) NB286_299.out _).trans (((cell_far (p := ⟨gb299, _, none⟩) NB286_299.out _).trans (hHeld.2))))⟩ (fun hHeld => ?_)
           clear hK K
           refine pv_ 8 6 (h := ?_)
           refine done_ (done_of HT_.out (by kernel_rfl)) ?_
           have hnb81 := NB299_282.out; have hnc81 := NB282_299.out; have hnb82 := NB299_286.out; have hnc82 := NB286_299.out; have hnb83 := NB299_0.out; have hnc83 := NB0_299.out; obtain ⟨hcz84_0, hcz84_1, hfz84_0, hfz84_1⟩ := xf2 (w := w77) BK299; have hnb85 := NB286_282.out; have hnc85 := NB282_286.out; have hnb86 := NB286_0.out; have hnc86 := NB0_286.out; obtain ⟨hcz87_0, hcz87_1, hfz87_0, hfz87_1⟩ := xf2 (w := w77) BK286
           try go_wp2_with (first | ((with_reducible refine gate_store (t := 70) (p := 3) rfl ?_); refine store_event (t := 70) (p := 3) (v := ?vo_w88) (w1 := ((((w77.setCell ⟨gb299, 0, none⟩ (.int .i64 t317)).setCell ⟨gb299, 1, none⟩ (.slice Ao79 t318.length co79)).setCell ⟨gb286, 0, none⟩ (.int .i64 t317)).setCell ⟨gb286, 1, none⟩ (.slice Ao79 t318.length co79))) ?hg ?ho ?hn ?hr ?_; (case ho | hg | hn => rfl); (case hr => first | (go_simp; done) | (go_simp; rfl)); intro w88 hw; replace HO_287001 : Aside0 (Kd.R k134 134 w88 w.heap.size (fun k_ => some k_ ≠ (.slice Ao79 t318.length co79 : Value).ownBlock) (.slice Ao34 x287001_2.length co34) x287001_2) := ⟨(by rw [hw]; exact (by (with_reducible repeat (first | apply Kd.R_alloc | apply Kd.R_drewN | apply Kd.R_drew)); exact Kd.R_mono (Kd.R_far (p := ⟨gb286, 1, none⟩) (Kd.R_far (p := ⟨gb286, 0, none⟩) (Kd.R_far (p := ⟨gb299, 1, none⟩) (Kd.R_far (p := ⟨gb299, 0, none⟩) (Kd.R_types (Kd.R_types HO_287001.out BK299.out (by decide)) BK286.out (by decide)) (fun _ hk => hk.1.2) (.int .i64 t317)) (fun _ hk => hk.1.2) (.slice Ao79 t318.length co79)) (fun _ hk => hk.2) (.int .i64 t317)) (fun _ hk => hk.2) (.slice Ao79 t318.length co79)) (fun _ hk => hk.1.1.2)))⟩; replace HO_300001 : Aside0 (Kd.R k134 134 w88 w.heap.size (fun k_ => some k_ ≠ (.slice Ao79 t318.length co79 : Value).ownBlock) (.slice Ao34 x287001_2.length co34) x287001_2) := ⟨(by rw [hw]; exact (by (with_reducible repeat (first | apply Kd.R_alloc | apply Kd.R_drewN | apply Kd.R_drew)); exact Kd.R_mono (Kd.R_far (p := ⟨gb286, 1, none⟩) (Kd.R_far (p := ⟨gb286, 0, none⟩) (Kd.R_far (p := ⟨gb299, 1, none⟩) (Kd.R_far (p := ⟨gb299, 0, none⟩) (Kd.R_types (Kd.R_types HO_300001.out BK299.out (by decide)) BK286.out (by decide)) (fun _ hk => hk.1.2) (.int .i64 t317)) (fun _ hk => hk.1.2) (.slice Ao79 t318.length co79)) (fun _ hk => hk.2) (.int .i64 t317)) (fun _ hk => hk.2) (.slice Ao79 t318.length co79)) (fun _ hk => hk.1.1.2)))⟩; replace HO320 : Aside0 (Kd.R k134 134 w88 w.heap.size (fun k_ => some k_ ≠ (.slice Ao34 x287001_2.length co34 : Value).ownBlock ∧ some k_ ≠ (.slice Ao34 x287001_2.length co34 : Value).ownBlock) (.slice Ao79 t318.length co79) t318) := ⟨(by rw [hw]; exact (by (with_reducible repeat (first | apply Kd.R_alloc | apply Kd.R_drewN | apply Kd.R_drew)); exact Kd.R_mono (Kd.R_far (p := ⟨gb286, 1, none⟩) (Kd.R_far (p := ⟨gb286, 0, none⟩) (Kd.R_far (p := ⟨gb299, 1, none⟩) (Kd.R_far (p := ⟨gb299, 0, none⟩) (Kd.R_types (Kd.R_types HO320.out BK299.out (by decide)) BK286.out (by decide)) (fun _ hk => hk.1.2) (.int .i64 t317)) (fun _ hk => hk.1.2) (.slice Ao79 t318.length co79)) (fun _ hk => hk.2) (.int .i64 t317)) (fun _ hk => hk.2) (.slice Ao79 t318.length co79)) (fun _ hk => ⟨hk.1.1.1.2, hk.1.1.2⟩)))⟩; replace BK282 : Aside0 (w88.heap[gb282]? = some (.cells #[.int .i64 0, .slice none 0 0] 70 (0, 0))) := ⟨(by rw [hw]; exact (by (with_reducible repeat (first | refine blk_drewN ?_ _ | refine blk_drew ?_ | refine blk_alloc ?_ _)); refine blk_far ?_ NB282_286.out _; (with_reducible repeat (first | refine blk_drewN ?_ _ | refine blk_drew ?_ | refine blk_alloc ?_ _)); refine blk_far ?_ NB282_286.out _; (with_reducible repeat (first | refine blk_drewN ?_ _ | refine blk_drew ?_ | refine blk_alloc ?_ _)); refine blk_far ?_ NB282_299.out _; (with_reducible repeat (first | refine blk_drewN ?_ _ | refine blk_drew ?_ | refine blk_alloc ?_ _)); refine blk_far ?_ NB282_299.out _; (with_reducible repeat (first | refine blk_drewN ?_ _ | refine blk_drew ?_ | refine blk_alloc ?_ _)); exact BK282.out))⟩; replace BK286 : Aside0 (w88.heap[gb286]? = some (.cells #[.int .i64 t317, .slice Ao79 t318.length co79] 70 (0, 0))) := ⟨(by rw [hw]; exact (by (with_reducible repeat (first | refine blk_drewN ?_ _ | refine blk_drew ?_ | refine blk_alloc ?_ _)); refine blk_put (cs := #[.int .i64 t317, .slice Ao34 x287001_2.length co34]) ?_ 1 _ rfl; (with_reducible repeat (first | refine blk_drewN ?_ _ | refine blk_drew ?_ | refine blk_alloc ?_ _)); refine blk_put (cs := #[.int .i64 x287000_2, .slice Ao34 x287001_2.length co34]) ?_ 0 _ rfl; (with_reducible repeat (first | refine blk_drewN ?_ _ | refine blk_drew ?_ | refine blk_alloc ?_ _)); refine blk_far ?_ NB286_299.out _; (with_reducible repeat (first | refine blk_drewN ?_ _ | refine blk_drew ?_ | refine blk_alloc ?_ _)); refine blk_far ?_ NB286_299.out _; (with_reducible repeat (first | refine blk_drewN ?_ _ | refine blk_drew ?_ | refine blk_alloc ?_ _)); exact BK286.out))⟩; replace BK299 : Aside0 (w88.heap[gb299]? = some (.cells #[.int .i64 t317, .slice Ao79 t318.length co79] 70 (0, 0))) := ⟨(by rw [hw]; exact (by (with_reducible repeat (first | refine blk_drewN ?_ _ | refine blk_drew ?_ | refine blk_alloc ?_ _)); refine blk_far ?_ NB299_286.out _; (with_reducible repeat (first | refine blk_drewN ?_ _ | refine blk_drew ?_ | refine blk_alloc ?_ _)); refine blk_far ?_ NB299_286.out _; (with_reducible repeat (first | refine blk_drewN ?_ _ | refine blk_drew ?_ | refine blk_alloc ?_ _)); refine blk_put (cs := #[.int .i64 t317, .slice Ao34 x287001_2.length co34]) ?_ 1 _ rfl; (with_reducible repeat (first | refine blk_drewN ?_ _ | refine blk_drew ?_ | refine blk_alloc ?_ _)); refine blk_put (cs := #[.int .i64 x287000_2, .slice Ao34 x287001_2.length co34]) ?_ 0 _ rfl; (with_reducible repeat (first | refine blk_drewN ?_ _ | refine blk_drew ?_ | refine blk_alloc ?_ _)); exact BK299.out))⟩; replace HK : Aside0 (KeepBut w w88 g none) := ⟨(by rw [hw]; exact (by repeat (first | (with_reducible first | exact HK.out | apply KeepBut.set_ | apply keep_drewN | apply keep_drew | apply keep_alloc | refine keep_far ?_ GW282.out _ | refine keep_far ?_ GW286.out _ | refine keep_far ?_ GW299.out _) | exact HK.out)))⟩; replace HB : Aside0 (Below w0.heap.size w0 w88) := ⟨(by rw [hw]; exact (by repeat (first | (with_reducible first | exact HB.out | apply below_alloc | apply pw_below_drewN | apply below_drew1 | refine below_set ?_ (IsS156.ge HI0.out) | refine below_set ?_ GE282.out | refine below_set ?_ GE286.out | refine below_set ?_ GE299.out) | exact HB.out)))⟩; replace HI0 : Aside0 (IsS156 w0 w88 g s0_0 t315 t316) := ⟨(by rw [hw]; exact (by repeat (first | (with_reducible first | exact HI0.out | apply IsS156.alloc | apply IsS156.drewN | apply IsS156.drew | apply IsS156.set_1 | apply IsS156.set_2 | refine IsS156.far ?_ NB0_282.out _ | refine IsS156.far ?_ NB0_286.out _ | refine IsS156.far ?_ NB0_299.out _) | exact HI0.out)))⟩; clear hw))
           go_roundg kj23
           case measure => have := HJ3.out; have := HK2.out; have := HJ23.out; omega
           case rel => exact ⟨(wrap64 (x4_2 + 1)), (t315), (t316), (t317), (t318), (.slice Ao79 t318.length co79), (by first | rfl | (simp; done) | (simp [*]; done)), H', ⟨by have := HJ3.out; have := HK2.out; have := HJ23.out; omega⟩, ⟨by (with_reducible repeat (first | apply Kd.R_alloc | apply Kd.R_drewN | apply Kd.R_drew)); exact Kd.R_mono HO320.out (fun _ hk => trivial)⟩, ⟨xblk⟩, ⟨xblk⟩, ⟨by repeat (first | (with_reducible first | exact HI0.out | apply IsS156.alloc | apply IsS156.drewN | apply IsS156.drew | apply IsS156.set_1 | apply IsS156.set_2 | refine IsS156.far ?_ NB0_282.out _ | refine IsS156.far ?_ NB0_286.out _ | refine IsS156.far ?_ NB0_299.out _) | exact HI0.out)⟩, ⟨by repeat (first | (with_reducible first | exact HK.out | apply KeepBut.set_ | apply keep_drewN | apply keep_drew | apply keep_alloc | refine keep_far ?_ GW282.out _ | refine keep_far ?_ GW286.out _ | refine keep_far ?_ GW299.out _) | exact HK.out)⟩, ⟨by repeat (first | (with_reducible first | exact HB.out | apply below_alloc | apply pw_below_drewN | apply below_drew1 | refine below_set ?_ (IsS156.ge HI0.out) | refine below_set ?_ GE282.out | refine below_set ?_ GE286.out | refine below_set ?_ GE299.out) | exact HB.out)⟩⟩
         ·rw [if_neg c65] at H
          have c65b0 : (t300 == 3) = false := beq_eq_false_iff_ne.mpr c65; have c65b1 : (t300 != 3) = true := bne_iff_ne.mpr c65; replace H := Option.bind_eq_some_iff.mp H
          obtain ⟨⟨t322, t323, t324⟩, A890, H⟩ := H
          replace H : ((spec_l1Below.f s0_0 t323 t324 8).bind fun bt325 => ((spec_DiskMove.f kj23 x287000_2 x287001_2 t322 bt325.1).bind fun bt328 => (if bt328.2.2 = 1 then (spec_l3DrawRight.l0 kj23 (wrap64 (x4_2 + 1)) s0_0 bt325.2.1 bt325.2.2 x287000_2 x287001_2) else (spec_l3DrawRight.l0 kj23 (wrap64 (x4_2 + 1)) s0_0 bt325.2.1 bt325.2.2 bt328.1 bt328.2.1)))) = some (r1, r2, r3, r4) := H; have A89 := aM A890; clear A890; replace H := Option.bind_eq_some_iff.mp H
          obtain ⟨⟨t325, t326, t327⟩, A900, H⟩ := H
          replace H : ((spec_DiskMove.f kj23 x287000_2 x287001_2 t322 t325).bind fun bt328 => (if bt328.2.2 = 1 then (spec_l3DrawRight.l0 kj23 (wrap64 (x4_2 + 1)) s0_0 t326 t327 x287000_2 x287001_2) else (spec_l3DrawRight.l0 kj23 (wrap64 (x4_2 + 1)) s0_0 t326 t327 bt328.1 bt328.2.1))) = some (r1, r2, r3, r4) := H; have A90 := aM A900; clear A900; replace H := Option.bind_eq_some_iff.mp H
          obtain ⟨⟨t328, t329, t332⟩, A910, H⟩ := H
          replace H : (if t332 = 1 then (spec_l3DrawRight.l0 kj23 (wrap64 (x4_2 + 1)) s0_0 t326 t327 x287000_2 x287001_2) else (spec_l3DrawRight.l0 kj23 (wrap64 (x4_2 + 1)) s0_0 t326 t327 t328 t329)) = some (r1, r2, r3, r4) := H; have A91 := aM A910; clear A910
          by_cases c92 : t332 = 1
          ·rw [if_pos c92] at H
           have c92b0 : (t332 == 1) = true := beq_iff_eq.mpr c92; have c92b1 : (t332 != 1) = false := bne_eq_false_iff_eq.mpr c92; clear c92
           have H' := aM H
           clear H
           try go_wp2
           replace HO_287001 := aM (Kd.R_drew HO_287001.out); replace HO_300001 := aM (Kd.R_drew HO_300001.out); replace BK282 := aM (blk_drew BK282.out); replace BK286 := aM (blk_drew BK286.out); replace BK299 := aM (blk_drew BK299.out); replace HI0 := aM (IsS156.drew HI0.out); replace HK := aM (keep_drew HK.out); replace HB := aM (below_drew1 HB.out)
           refine start_ (n := 11) (S := fun w' => w'.cell? ⟨gb286, 0, none⟩ = some (.int .i64 x287000_2) ∧ w'.cell? ⟨gb286, 1, none⟩ = some (.slice Ao34 x287001_2.length co34)) (ds := []) #[false, false, false, false, false, false, false, false, false, false, false] (by kernel_rfl) rfl rfl ⟨xc BK286 0 rfl, xc BK286 1 rfl⟩ (fun hHeld => ?_); refine with_tabW spec_l3DrawRight.tab9 spec_l3DrawRight.bits9 (fun HT_ HW_ => ?_)
           generalize wc.drew = w93 at HO_287001 HO_300001 BK282 BK286 BK299 HI0 HK HB hHeld ⊢
           refine pv_ 1 28 (h := ?_)
           refine pv_ 3 30 (h := ?_)
           refine tk_ 0 27 (h := ?_)
           refine on_ 2 29 (h := fun K hK => ?_)
           refine goesY Try.func78 #[.pointer (some ⟨g, 0, none⟩), .int .i64 5] ?_
           with_reducible refine (spec_l1Below.calls g s0_0 t301 t302 5 t322 t323 t324 w0 _ ?side1 ?side2 A89.out).mono ?_
           (case side1 => repeat (first | (with_reducible first | exact HI0.out | apply IsS156.alloc | apply IsS156.drewN | apply IsS156.drew | apply IsS156.set_1 | apply IsS156.set_2 | refine IsS156.far ?_ NB0_282.out _ | refine IsS156.far ?_ NB0_286.out _ | refine IsS156.far ?_ NB0_299.out _) | exact HI0.out))
           (case side2 => repeat (first | (with_reducible first | exact HB.out | apply below_alloc | apply pw_below_drewN | apply below_drew1 | refine below_set ?_ (IsS156.ge HI0.out) | refine below_set ?_ GE282.out | refine below_set ?_ GE286.out | refine below_set ?_ GE299.out) | exact HB.out))
           rintro e w94 ⟨rfl, hi, hb, hk⟩
           refine ⟨_, rfl, ?_⟩
           have n0_ := aM (Kd.R_mono (Kd.R_keep (IsS156.apart (show IsS156 w0 _ g s0_0 t301 t302 from by repeat (first | (with_reducible first | exact HI0.out | apply IsS156.alloc | apply IsS156.drewN | apply IsS156.drew | apply IsS156.set_1 | apply IsS156.set_2 | refine IsS156.far ?_ NB0_282.out _ | refine IsS156.far ?_ NB0_286.out _ | refine IsS156.far ?_ NB0_299.out _) | exact HI0.out)) (xr HO_287001) (by decide)) hk (fun _ h => h.2)) (fun _ h => h.1)); have n1_ := aM (Kd.R_mono (Kd.R_keep (IsS156.apart (show IsS156 w0 _ g s0_0 t301 t302 from by repeat (first | (with_reducible first | exact HI0.out | apply IsS156.alloc | apply IsS156.drewN | apply IsS156.drew | apply IsS156.set_1 | apply IsS156.set_2 | refine IsS156.far ?_ NB0_282.out _ | refine IsS156.far ?_ NB0_286.out _ | refine IsS156.far ?_ NB0_299.out _) | exact HI0.out)) (xr HO_300001) (by decide)) hk (fun _ h => h.2)) (fun _ h => h.1)); have n2_ := aM (KeepBut.blk hk (g' := gb282) (o := .cells #[.int .i64 0, .slice none 0 0] 70 (0, 0)) xblk NB282_0.out (by simp)); have n3_ := aM (KeepBut.blk hk (g' := gb286) (o := .cells #[.int .i64 x287000_2, .slice Ao34 x287001_2.length co34] 70 (0, 0)) xblk NB286_0.out (by simp)); have n4_ := aM (KeepBut.blk hk (g' := gb299) (o := .cells #[.int .i64 x287000_2, .slice Ao34 x287001_2.length co34] 70 (0, 0)) xblk NB299_0.out (by simp)); have n5_ := aM (KeepBut.trans (by repeat (first | (with_reducible first | exact HK.out | apply KeepBut.set_ | apply keep_drewN | apply keep_drew | apply keep_alloc | refine keep_far ?_ GW282.out _ | refine keep_far ?_ GW286.out _ | refine keep_far ?_ GW299.out _) | exact HK.out)) hk (.inl rfl))
           have n6_ := aM (hb); have n7_ := aM (hi); clear HO_287001 HO_300001 BK282 BK286 BK299 HK HB HI0; have HO_287001 := n0_; have HO_300001 := n1_; have BK282 := n2_; have BK286 := n3_; have BK299 := n4_; have HK := n5_; have HB := n6_; have HI0 := n7_; clear n0_ n1_ n2_ n3_ n4_ n5_ n6_ n7_
           (try clear hb); (try clear hb2); (try clear hk); (try clear hi)
           refine hK.out _ _ ⟨xc BK286 0 rfl, xc BK286 1 rfl⟩ (fun hHeld => ?_)
           clear hK K
           refine norm_ (a' := ?_) ?_ ?_
           rotate_left
           ·show Act.put _ (some 29) _ = _
            simp only [Act.put, List.setIfInBounds_toArray, List.set_cons_zero, List.set_cons_succ, i64_w, i32_w]
            rfl
           refine on_ 4 31 (h := fun K hK => ?_)
           refine goesY Try.func78 #[.pointer (some ⟨g, 0, none⟩), .int .i64 8] ?_
           with_reducible refine (spec_l1Below.calls g s0_0 t323 t324 8 t325 t326 t327 w0 _ ?side1 ?side2 A90.out).mono ?_
           (case side1 => repeat (first | (with_reducible first | exact HI0.out | apply IsS156.alloc | apply IsS156.drewN | apply IsS156.drew | apply IsS156.set_1 | apply IsS156.set_2 | refine IsS156.far ?_ NB0_282.out _ | refine IsS156.far ?_ NB0_286.out _ | refine IsS156.far ?_ NB0_299.out _) | exact HI0.out))
           (case side2 => repeat (first | (with_reducible first | exact HB.out | apply below_alloc | apply pw_below_drewN | apply below_drew1 | refine below_set ?_ (IsS156.ge HI0.out) | refine below_set ?_ GE282.out | refine below_set ?_ GE286.out | refine below_set ?_ GE299.out) | exact HB.out))
           rintro e w95 ⟨rfl, hi, hb, hk⟩
           refine ⟨_, rfl, ?_⟩
           have n0_ := aM (Kd.R_mono (Kd.R_keep (IsS156.apart (show IsS156 w0 _ g s0_0 t323 t324 from by repeat (first | (with_reducible first | exact HI0.out | apply IsS156.alloc | apply IsS156.drewN | apply IsS156.drew | apply IsS156.set_1 | apply IsS156.set_2 | refine IsS156.far ?_ NB0_282.out _ | refine IsS156.far ?_ NB0_286.out _ | refine IsS156.far ?_ NB0_299.out _) | exact HI0.out)) (xr HO_287001) (by decide)) hk (fun _ h => h.2)) (fun _ h => h.1)); have n1_ := aM (Kd.R_mono (Kd.R_keep (IsS156.apart (show IsS156 w0 _ g s0_0 t323 t324 from by repeat (first | (with_reducible first | exact HI0.out | apply IsS156.alloc | apply IsS156.drewN | apply IsS156.drew | apply IsS156.set_1 | apply IsS156.set_2 | refine IsS156.far ?_ NB0_282.out _ | refine IsS156.far ?_ NB0_286.out _ | refine IsS156.far ?_ NB0_299.out _) | exact HI0.out)) (xr HO_300001) (by decide)) hk (fun _ h => h.2)) (fun _ h => h.1)); have n2_ := aM (KeepBut.blk hk (g' := gb282) (o := .cells #[.int .i64 0, .slice none 0 0] 70 (0, 0)) xblk NB282_0.out (by simp)); have n3_ := aM (KeepBut.blk hk (g' := gb286) (o := .cells #[.int .i64 x287000_2, .slice Ao34 x287001_2.length co34] 70 (0, 0)) xblk NB286_0.out (by simp)); have n4_ := aM (KeepBut.blk hk (g' := gb299) (o := .cells #[.int .i64 x287000_2, .slice Ao34 x287001_2.length co34] 70 (0, 0)) xblk NB299_0.out (by simp)); have n5_ := aM (KeepBut.trans (by repeat (first | (with_reducible first | exact HK.out | apply KeepBut.set_ | apply keep_drewN | apply keep_drew | apply keep_alloc | refine keep_far ?_ GW282.out _ | refine keep_far ?_ GW286.out _ | refine keep_far ?_ GW299.out _) | exact HK.out)) hk (.inl rfl))
           have n6_ := aM (hb); have n7_ := aM (hi); clear HO_287001 HO_300001 BK282 BK286 BK299 HK HB HI0; have HO_287001 := n0_; have HO_300001 := n1_; have BK282 := n2_; have BK286 := n3_; have BK299 := n4_; have HK := n5_; have HB := n6_; have HI0 := n7_; clear n0_ n1_ n2_ n3_ n4_ n5_ n6_ n7_
           (try clear hb); (try clear hb2); (try clear hk); (try clear hi)
           refine hK.out _ _ ⟨xc BK286 0 rfl, xc BK286 1 rfl⟩ (fun hHeld => ?_)
           clear hK K
           refine norm_ (a' := ?_) ?_ ?_
           rotate_left
           ·show Act.put _ (some 31) _ = _
            simp only [Act.put, List.setIfInBounds_toArray, List.set_cons_zero, List.set_cons_succ, i64_w, i32_w]
            rfl
           refine on_ 5 32 (h := fun K hK => ?_)
           refine goesY Try.func44 #[.agg #[.int .i64 x287000_2, .slice Ao34 x287001_2.length co34], .int .i64 t322, .int .i64 t325] ?_
           with_reducible refine (spec_DiskMove.calls kj23 x287000_2 _ _ x287001_2 t322 t325 t328 t329 t332 _ ?side1 ?side2 A91.out).mono ?_
           (case side1 => repeat (first | exact (Kd.R_reads' HO_287001.out).2.2 | (with_reducible refine Kd.C_alloc ?_ _) | (with_reducible refine Kd.C_drewN ?_ _) | (with_reducible refine Kd.C_drew ?_)))
           (case side2 => exact (Kd.R_reads' HO_287001.out).2.1)
           rintro e w96 ⟨v330, rfl, ho0, hb⟩
           refine ⟨_, rfl, ?_⟩
           have HO331 := aM (Kd.R_lower (Kd.R_new' (Kd.R_new' ho0 (Kd.R_lt (xr HO_287001))) (Kd.R_lt (xr HO_300001))) (keep_size (w := w) (g := g) (row := none) (by repeat (first | (with_reducible first | exact HK.out | apply KeepBut.set_ | apply keep_drewN | apply keep_drew | apply keep_alloc | refine keep_far ?_ GW282.out _ | refine keep_far ?_ GW286.out _ | refine keep_far ?_ GW299.out _) | exact HK.out)))); replace HO_287001 := aM (Kd.R_elder' (xr HO_287001) (Kd.R_base ho0) hb); replace HO_300001 := aM (Kd.R_elder' (xr HO_300001) (Kd.R_base ho0) hb); replace BK282 := xbb BK282 hb; replace BK286 := xbb BK286 hb; replace BK299 := xbb BK299 hb; replace HK := aM (KeepBut.trans (by repeat (first | (with_reducible first | exact HK.out | apply KeepBut.set_ | apply keep_drewN | apply keep_drew | apply keep_alloc | refine keep_far ?_ GW282.out _ | refine keep_far ?_ GW286.out _ | refine keep_far ?_ GW299.out _) | exact HK.out)) (KeepBut.of_below hb g none) (.inl rfl)); replace HB := aM (below_step (by repeat (first | (with_reducible first | exact HB.out | apply below_alloc | apply pw_below_drewN | apply below_drew1 | refine below_set ?_ (IsS156.ge HI0.out) | refine below_set ?_ GE282.out | refine below_set ?_ GE286.out | refine below_set ?_ GE299.out) | exact HB.out)) hb); replace HI0 := aM (IsS156.below (by repeat (first | (with_reducible first | exact HI0.out | apply IsS156.alloc | apply IsS156.drewN | apply IsS156.drew | apply IsS156.set_1 | apply IsS156.set_2 | refine IsS156.far ?_ NB0_282.out _ | refine IsS156.far ?_ NB0_286.out _ | refine IsS156.far ?_ NB0_299.out _) | exact HI0.out)) hb)
           (try clear hb); (try clear hb2); (try clear hk); (try clear hi); (try clear ho0)
           obtain ⟨Ao98, co98, eo98⟩ := Kd.R_slice HO331.out
           (first | subst eo98 | (injection eo98 with f1_ f2_ f3_; have f4_ := f1_.symm; have f5_ := f3_.symm; clear f1_ f2_ f3_; subst f4_; subst f5_))
           refine hK.out _ _ ⟨xc BK286 0 rfl, xc BK286 1 rfl⟩ (fun hHeld => ?_)
           clear hK K
           refine norm_ (a' := ?_) ?_ ?_
           rotate_left
           ·show Act.put _ (some 32) _ = _
            simp only [Act.put, List.setIfInBounds_toArray, List.set_cons_zero, List.set_cons_succ, i64_w, i32_w]
            rfl
           refine pv_ 6 26 (h := ?_)
           refine pv_ 7 33 (h := ?_)
           refine pv_ 8 34 (h := ?_)
           refine one_ (i := 9) (N := none) #[true, true, true, true, true, true, true, true, true, true, false] rfl rfl (one_of HT_.out (by kernel_rfl)) (by decide) (fun K hK => ?_)
           have hs97 : w96.cell? ⟨gb299, 0, none⟩ = some (.int .i64 x287000_2) := xc BK299 0 rfl; have hfs97 := blk_frozen BK299.out 0; have hns97_0 := NB282_299.out; have hns97_1 := NB286_299.out; have hms97_0 := NB299_282.out; have hms97_1 := NB299_286.out; have hs99 : w96.cell? ⟨gb299, 1, none⟩ = some (.slice Ao34 x287001_2.length co34) := xc BK299 1 rfl; have hfs99 := blk_frozen BK299.out 1; have hns99_0 := NB282_299.out; have hns99_1 := NB286_299.out; have hms99_0 := NB299_282.out; have hms99_1 := NB299_286.out
           refine skip_ (w1 := ?_) (by rfl) rfl ?_ ?_
           rotate_left
           ·go_simp
            rfl
           refine hK.out _ _ ⟨((cell_far (p := ⟨gb299, _, none⟩) NB286_299.out _).trans (((cell_far (p := ⟨gb299, _, none⟩) NB286_299.out _).trans (hHeld.1)))), ((cell_far (p := ⟨gb299, _, none⟩) NB286_299.out _).trans (((cell_far (p := ⟨gb299, _, none⟩) NB286_299.out _).trans (hHeld.2))))⟩ (fun hHeld => ?_)
           clear hK K
           refine pv_ 10 6 (h := ?_)
           refine done_ (done_of HT_.out (by kernel_rfl)) ?_
           try go_wp2
           go_roundg kj23
           case measure => have := HJ3.out; have := HK2.out; have := HJ23.out; omega
           case rel => exact ⟨(wrap64 (x4_2 + 1)), (t326), (t327), (x287000_2), (x287001_2), (.slice Ao34 x287001_2.length co34), (by first | rfl | (simp; done) | (simp [*]; done)), H', ⟨by have := HJ3.out; have := HK2.out; have := HJ23.out; omega⟩, ⟨by (with_reducible repeat (first | apply Kd.R_alloc | apply Kd.R_drewN | apply Kd.R_drew)); exact Kd.R_mono (Kd.R_far (p := ⟨gb299, 1, none⟩) (Kd.R_far (p := ⟨gb299, 0, none⟩) (Kd.R_types HO_287001.out BK299.out (by decide)) (fun _ hk => hk.2) (.int .i64 t328)) (fun _ hk => hk.2) (.slice Ao98 t329.length co98)) (fun _ hk => trivial)⟩, ⟨by (with_reducible repeat (first | refine blk_drewN ?_ _ | refine blk_drew ?_ | refine blk_alloc ?_ _)); refine blk_far ?_ NB282_299.out _; (with_reducible repeat (first | refine blk_drewN ?_ _ | refine blk_drew ?_ | refine blk_alloc ?_ _)); refine blk_far ?_ NB282_299.out _; (with_reducible repeat (first | refine blk_drewN ?_ _ | refine blk_drew ?_ | refine blk_alloc ?_ _)); exact BK282.out⟩, ⟨by (with_reducible repeat (first | refine blk_drewN ?_ _ | refine blk_drew ?_ | refine blk_alloc ?_ _)); refine blk_far ?_ NB286_299.out _; (with_reducible repeat (first | refine blk_drewN ?_ _ | refine blk_drew ?_ | refine blk_alloc ?_ _)); refine blk_far ?_ NB286_299.out _; (with_reducible repeat (first | refine blk_drewN ?_ _ | refine blk_drew ?_ | refine blk_alloc ?_ _)); exact BK286.out⟩, ⟨by repeat (first | (with_reducible first | exact HI0.out | apply IsS156.alloc | apply IsS156.drewN | apply IsS156.drew | apply IsS156.set_1 | apply IsS156.set_2 | refine IsS156.far ?_ NB0_282.out _ | refine IsS156.far ?_ NB0_286.out _ | refine IsS156.far ?_ NB0_299.out _) | exact HI0.out)⟩, ⟨by repeat (first | (with_reducible first | exact HK.out | apply KeepBut.set_ | apply keep_drewN | apply keep_drew | apply keep_alloc | refine keep_far ?_ GW282.out _ | refine keep_far ?_ GW286.out _ | refine keep_far ?_ GW299.out _) | exact HK.out)⟩, ⟨by repeat (first | (with_reducible first | exact HB.out | apply below_alloc | apply pw_below_drewN | apply below_drew1 | refine below_set ?_ (IsS156.ge HI0.out) | refine below_set ?_ GE282.out | refine below_set ?_ GE286.out | refine below_set ?_ GE299.out) | exact HB.out)⟩⟩
          ·rw [if_neg c92] at H
           have c92b0 : (t332 == 1) = false := beq_eq_false_iff_ne.mpr c92; have c92b1 : (t332 != 1) = true := bne_iff_ne.mpr c92
           have H' := aM H
           clear H
           try go_wp2
           replace HO_287001 := aM (Kd.R_drew HO_287001.out); replace HO_300001 := aM (Kd.R_drew HO_300001.out); replace BK282 := aM (blk_drew BK282.out); replace BK286 := aM (blk_drew BK286.out); replace BK299 := aM (blk_drew BK299.out); replace HI0 := aM (IsS156.drew HI0.out); replace HK := aM (keep_drew HK.out); replace HB := aM (below_drew1 HB.out)
           refine start_ (n := 11) (S := fun w' => w'.cell? ⟨gb286, 0, none⟩ = some (.int .i64 x287000_2) ∧ w'.cell? ⟨gb286, 1, none⟩ = some (.slice Ao34 x287001_2.length co34)) (ds := []) #[false, false, false, false, false, false, false, false, false, false, false] (by kernel_rfl) rfl rfl ⟨xc BK286 0 rfl, xc BK286 1 rfl⟩ (fun hHeld => ?_); refine with_tabW spec_l3DrawRight.tab9 spec_l3DrawRight.bits9 (fun HT_ HW_ => ?_)
           generalize wc.drew = w100 at HO_287001 HO_300001 BK282 BK286 BK299 HI0 HK HB hHeld ⊢
           refine pv_ 1 28 (h := ?_)
           refine pv_ 3 30 (h := ?_)
           refine tk_ 0 27 (h := ?_)
           refine on_ 2 29 (h := fun K hK => ?_)
           refine goesY Try.func78 #[.pointer (some ⟨g, 0, none⟩), .int .i64 5] ?_
           with_reducible refine (spec_l1Below.calls g s0_0 t301 t302 5 t322 t323 t324 w0 _ ?side1 ?side2 A89.out).mono ?_
           (case side1 => repeat (first | (with_reducible first | exact HI0.out | apply IsS156.alloc | apply IsS156.drewN | apply IsS156.drew | apply IsS156.set_1 | apply IsS156.set_2 | refine IsS156.far ?_ NB0_282.out _ | refine IsS156.far ?_ NB0_286.out _ | refine IsS156.far ?_ NB0_299.out _) | exact HI0.out))
           (case side2 => repeat (first | (with_reducible first | exact HB.out | apply below_alloc | apply pw_below_drewN | apply below_drew1 | refine below_set ?_ (IsS156.ge HI0.out) | refine below_set ?_ GE282.out | refine below_set ?_ GE286.out | refine below_set ?_ GE299.out) | exact HB.out))
           rintro e w101 ⟨rfl, hi, hb, hk⟩
           refine ⟨_, rfl, ?_⟩
           have n0_ := aM (Kd.R_mono (Kd.R_keep (IsS156.apart (show IsS156 w0 _ g s0_0 t301 t302 from by repeat (first | (with_reducible first | exact HI0.out | apply IsS156.alloc | apply IsS156.drewN | apply IsS156.drew | apply IsS156.set_1 | apply IsS156.set_2 | refine IsS156.far ?_ NB0_282.out _ | refine IsS156.far ?_ NB0_286.out _ | refine IsS156.far ?_ NB0_299.out _) | exact HI0.out)) (xr HO_287001) (by decide)) hk (fun _ h => h.2)) (fun _ h => h.1)); have n1_ := aM (Kd.R_mono (Kd.R_keep (IsS156.apart (show IsS156 w0 _ g s0_0 t301 t302 from by repeat (first | (with_reducible first | exact HI0.out | apply IsS156.alloc | apply IsS156.drewN | apply IsS156.drew | apply IsS156.set_1 | apply IsS156.set_2 | refine IsS156.far ?_ NB0_282.out _ | refine IsS156.far ?_ NB0_286.out _ | refine IsS156.far ?_ NB0_299.out _) | exact HI0.out)) (xr HO_300001) (by decide)) hk (fun _ h => h.2)) (fun _ h => h.1)); have n2_ := aM (KeepBut.blk hk (g' := gb282) (o := .cells #[.int .i64 0, .slice none 0 0] 70 (0, 0)) xblk NB282_0.out (by simp)); have n3_ := aM (KeepBut.blk hk (g' := gb286) (o := .cells #[.int .i64 x287000_2, .slice Ao34 x287001_2.length co34] 70 (0, 0)) xblk NB286_0.out (by simp)); have n4_ := aM (KeepBut.blk hk (g' := gb299) (o := .cells #[.int .i64 x287000_2, .slice Ao34 x287001_2.length co34] 70 (0, 0)) xblk NB299_0.out (by simp)); have n5_ := aM (KeepBut.trans (by repeat (first | (with_reducible first | exact HK.out | apply KeepBut.set_ | apply keep_drewN | apply keep_drew | apply keep_alloc | refine keep_far ?_ GW282.out _ | refine keep_far ?_ GW286.out _ | refine keep_far ?_ GW299.out _) | exact HK.out)) hk (.inl rfl))
           have n6_ := aM (hb); have n7_ := aM (hi); clear HO_287001 HO_300001 BK282 BK286 BK299 HK HB HI0; have HO_287001 := n0_; have HO_300001 := n1_; have BK282 := n2_; have BK286 := n3_; have BK299 := n4_; have HK := n5_; have HB := n6_; have HI0 := n7_; clear n0_ n1_ n2_ n3_ n4_ n5_ n6_ n7_
           (try clear hb); (try clear hb2); (try clear hk); (try clear hi)
           refine hK.out _ _ ⟨xc BK286 0 rfl, xc BK286 1 rfl⟩ (fun hHeld => ?_)
           clear hK K
           refine norm_ (a' := ?_) ?_ ?_
           rotate_left
           ·show Act.put _ (some 29) _ = _
            simp only [Act.put, List.setIfInBounds_toArray, List.set_cons_zero, List.set_cons_succ, i64_w, i32_w]
            rfl
           refine on_ 4 31 (h := fun K hK => ?_)
           refine goesY Try.func78 #[.pointer (some ⟨g, 0, none⟩), .int .i64 8] ?_
           with_reducible refine (spec_l1Below.calls g s0_0 t323 t324 8 t325 t326 t327 w0 _ ?side1 ?side2 A90.out).mono ?_
           (case side1 => repeat (first | (with_reducible first | exact HI0.out | apply IsS156.alloc | apply IsS156.drewN | apply IsS156.drew | apply IsS156.set_1 | apply IsS156.set_2 | refine IsS156.far ?_ NB0_282.out _ | refine IsS156.far ?_ NB0_286.out _ | refine IsS156.far ?_ NB0_299.out _) | exact HI0.out))
           (case side2 => repeat (first | (with_reducible first | exact HB.out | apply below_alloc | apply pw_below_drewN | apply below_drew1 | refine below_set ?_ (IsS156.ge HI0.out) | refine below_set ?_ GE282.out | refine below_set ?_ GE286.out | refine below_set ?_ GE299.out) | exact HB.out))
           rintro e w102 ⟨rfl, hi, hb, hk⟩
           refine ⟨_, rfl, ?_⟩
           have n0_ := aM (Kd.R_mono (Kd.R_keep (IsS156.apart (show IsS156 w0 _ g s0_0 t323 t324 from by repeat (first | (with_reducible first | exact HI0.out | apply IsS156.alloc | apply IsS156.drewN | apply IsS156.drew | apply IsS156.set_1 | apply IsS156.set_2 | refine IsS156.far ?_ NB0_282.out _ | refine IsS156.far ?_ NB0_286.out _ | refine IsS156.far ?_ NB0_299.out _) | exact HI0.out)) (xr HO_287001) (by decide)) hk (fun _ h => h.2)) (fun _ h => h.1)); have n1_ := aM (Kd.R_mono (Kd.R_keep (IsS156.apart (show IsS156 w0 _ g s0_0 t323 t324 from by repeat (first | (with_reducible first | exact HI0.out | apply IsS156.alloc | apply IsS156.drewN | apply IsS156.drew | apply IsS156.set_1 | apply IsS156.set_2 | refine IsS156.far ?_ NB0_282.out _ | refine IsS156.far ?_ NB0_286.out _ | refine IsS156.far ?_ NB0_299.out _) | exact HI0.out)) (xr HO_300001) (by decide)) hk (fun _ h => h.2)) (fun _ h => h.1)); have n2_ := aM (KeepBut.blk hk (g' := gb282) (o := .cells #[.int .i64 0, .slice none 0 0] 70 (0, 0)) xblk NB282_0.out (by simp)); have n3_ := aM (KeepBut.blk hk (g' := gb286) (o := .cells #[.int .i64 x287000_2, .slice Ao34 x287001_2.length co34] 70 (0, 0)) xblk NB286_0.out (by simp)); have n4_ := aM (KeepBut.blk hk (g' := gb299) (o := .cells #[.int .i64 x287000_2, .slice Ao34 x287001_2.length co34] 70 (0, 0)) xblk NB299_0.out (by simp)); have n5_ := aM (KeepBut.trans (by repeat (first | (with_reducible first | exact HK.out | apply KeepBut.set_ | apply keep_drewN | apply keep_drew | apply keep_alloc | refine keep_far ?_ GW282.out _ | refine keep_far ?_ GW286.out _ | refine keep_far ?_ GW299.out _) | exact HK.out)) hk (.inl rfl))
           have n6_ := aM (hb); have n7_ := aM (hi); clear HO_287001 HO_300001 BK282 BK286 BK299 HK HB HI0; have HO_287001 := n0_; have HO_300001 := n1_; have BK282 := n2_; have BK286 := n3_; have BK299 := n4_; have HK := n5_; have HB := n6_; have HI0 := n7_; clear n0_ n1_ n2_ n3_ n4_ n5_ n6_ n7_
           (try clear hb); (try clear hb2); (try clear hk); (try clear hi)
           refine hK.out _ _ ⟨xc BK286 0 rfl, xc BK286 1 rfl⟩ (fun hHeld => ?_)
           clear hK K
           refine norm_ (a' := ?_) ?_ ?_
           rotate_left
           ·show Act.put _ (some 31) _ = _
            simp only [Act.put, List.setIfInBounds_toArray, List.set_cons_zero, List.set_cons_succ, i64_w, i32_w]
            rfl
           refine on_ 5 32 (h := fun K hK => ?_)
           refine goesY Try.func44 #[.agg #[.int .i64 x287000_2, .slice Ao34 x287001_2.length co34], .int .i64 t322, .int .i64 t325] ?_
           with_reducible refine (spec_DiskMove.calls kj23 x287000_2 _ _ x287001_2 t322 t325 t328 t329 t332 _ ?side1 ?side2 A91.out).mono ?_
           (case side1 => repeat (first | exact (Kd.R_reads' HO_287001.out).2.2 | (with_reducible refine Kd.C_alloc ?_ _) | (with_reducible refine Kd.C_drewN ?_ _) | (with_reducible refine Kd.C_drew ?_)))
           (case side2 => exact (Kd.R_reads' HO_287001.out).2.1)
           rintro e w103 ⟨v330, rfl, ho0, hb⟩
           refine ⟨_, rfl, ?_⟩
           have HO331 := aM (Kd.R_lower (Kd.R_new' (Kd.R_new' ho0 (Kd.R_lt (xr HO_287001))) (Kd.R_lt (xr HO_300001))) (keep_size (w := w) (g := g) (row := none) (by repeat (first | (with_reducible first | exact HK.out | apply KeepBut.set_ | apply keep_drewN | apply keep_drew | apply keep_alloc | refine keep_far ?_ GW282.out _ | refine keep_far ?_ GW286.out _ | refine keep_far ?_ GW299.out _) | exact HK.out)))); replace HO_287001 := aM (Kd.R_elder' (xr HO_287001) (Kd.R_base ho0) hb); replace HO_300001 := aM (Kd.R_elder' (xr HO_300001) (Kd.R_base ho0) hb); replace BK282 := xbb BK282 hb; replace BK286 := xbb BK286 hb; replace BK299 := xbb BK299 hb; replace HK := aM (KeepBut.trans (by repeat (first | (with_reducible first | exact HK.out | apply KeepBut.set_ | apply keep_drewN | apply keep_drew | apply keep_alloc | refine keep_far ?_ GW282.out _ | refine keep_far ?_ GW286.out _ | refine keep_far ?_ GW299.out _) | exact HK.out)) (KeepBut.of_below hb g none) (.inl rfl)); replace HB := aM (below_step (by repeat (first | (with_reducible first | exact HB.out | apply below_alloc | apply pw_below_drewN | apply below_drew1 | refine below_set ?_ (IsS156.ge HI0.out) | refine below_set ?_ GE282.out | refine below_set ?_ GE286.out | refine below_set ?_ GE299.out) | exact HB.out)) hb); replace HI0 := aM (IsS156.below (by repeat (first | (with_reducible first | exact HI0.out | apply IsS156.alloc | apply IsS156.drewN | apply IsS156.drew | apply IsS156.set_1 | apply IsS156.set_2 | refine IsS156.far ?_ NB0_282.out _ | refine IsS156.far ?_ NB0_286.out _ | refine IsS156.far ?_ NB0_299.out _) | exact HI0.out)) hb)
           (try clear hb); (try clear hb2); (try clear hk); (try clear hi); (try clear ho0)
           obtain ⟨Ao105, co105, eo105⟩ := Kd.R_slice HO331.out
           (first | subst eo105 | (injection eo105 with f1_ f2_ f3_; have f4_ := f1_.symm; have f5_ := f3_.symm; clear f1_ f2_ f3_; subst f4_; subst f5_))
           refine hK.out _ _ ⟨xc BK286 0 rfl, xc BK286 1 rfl⟩ (fun hHeld => ?_)
           clear hK K
           refine norm_ (a' := ?_) ?_ ?_
           rotate_left
           ·show Act.put _ (some 32) _ = _
            simp only [Act.put, List.setIfInBounds_toArray, List.set_cons_zero, List.set_cons_succ, i64_w, i32_w]
            rfl
           refine pv_ 6 26 (h := ?_)
           refine pv_ 7 33 (h := ?_)
           refine pv_ 8 34 (h := ?_)
           refine one_ (i := 9) (N := none) #[true, true, true, true, true, true, true, true, true, true, false] rfl rfl (one_of HT_.out (by kernel_rfl)) (by decide) (fun K hK => ?_)
           have hs104 : w103.cell? ⟨gb299, 0, none⟩ = some (.int .i64 x287000_2) := xc BK299 0 rfl; have hfs104 := blk_frozen BK299.out 0; have hns104_0 := NB282_299.out; have hns104_1 := NB286_299.out; have hms104_0 := NB299_282.out; have hms104_1 := NB299_286.out; have hs106 : w103.cell? ⟨gb299, 1, none⟩ = some (.slice Ao34 x287001_2.length co34) := xc BK299 1 rfl; have hfs106 := blk_frozen BK299.out 1; have hns106_0 := NB282_299.out; have hns106_1 := NB286_299.out; have hms106_0 := NB299_282.out; have hms106_1 := NB299_286.out
           refine skip_ (w1 := ?_) (by rfl) rfl ?_ ?_
           rotate_left
           ·go_simp
            rfl
           refine hK.out _ _ ⟨((cell_far (p := ⟨gb299, _, none⟩) NB286_299.out _).trans (((cell_far (p := ⟨gb299, _, none⟩) NB286_299.out _).trans (hHeld.1)))), ((cell_far (p := ⟨gb299, _, none⟩) NB286_299.out _).trans (((cell_far (p := ⟨gb299, _, none⟩) NB286_299.out _).trans (hHeld.2))))⟩ (fun hHeld => ?_)
           clear hK K
           refine pv_ 10 6 (h := ?_)
           refine done_ (done_of HT_.out (by kernel_rfl)) ?_
           have hnb107 := NB299_282.out; have hnc107 := NB282_299.out; have hnb108 := NB299_286.out; have hnc108 := NB286_299.out; have hnb109 := NB299_0.out; have hnc109 := NB0_299.out; obtain ⟨hcz110_0, hcz110_1, hfz110_0, hfz110_1⟩ := xf2 (w := w103) BK299; have hnb111 := NB286_282.out; have hnc111 := NB282_286.out; have hnb112 := NB286_0.out; have hnc112 := NB0_286.out; obtain ⟨hcz113_0, hcz113_1, hfz113_0, hfz113_1⟩ := xf2 (w := w103) BK286
           try go_wp2_with (first | ((with_reducible refine gate_store (t := 70) (p := 3) rfl ?_); refine store_event (t := 70) (p := 3) (v := ?vo_w114) (w1 := ((((w103.setCell ⟨gb299, 0, none⟩ (.int .i64 t328)).setCell ⟨gb299, 1, none⟩ (.slice Ao105 t329.length co105)).setCell ⟨gb286, 0, none⟩ (.int .i64 t328)).setCell ⟨gb286, 1, none⟩ (.slice Ao105 t329.length co105))) ?hg ?ho ?hn ?hr ?_; (case ho | hg | hn => rfl); (case hr => first | (go_simp; done) | (go_simp; rfl)); intro w114 hw; replace HO_287001 : Aside0 (Kd.R k134 134 w114 w.heap.size (fun k_ => some k_ ≠ (.slice Ao105 t329.length co105 : Value).ownBlock) (.slice Ao34 x287001_2.length co34) x287001_2) := ⟨(by rw [hw]; exact (by (with_reducible repeat (first | apply Kd.R_alloc | apply Kd.R_drewN | apply Kd.R_drew)); exact Kd.R_mono (Kd.R_far (p := ⟨gb286, 1, none⟩) (Kd.R_far (p := ⟨gb286, 0, none⟩) (Kd.R_far (p := ⟨gb299, 1, none⟩) (Kd.R_far (p := ⟨gb299, 0, none⟩) (Kd.R_types (Kd.R_types HO_287001.out BK299.out (by decide)) BK286.out (by decide)) (fun _ hk => hk.1.2) (.int .i64 t328)) (fun _ hk => hk.1.2) (.slice Ao105 t329.length co105)) (fun _ hk => hk.2) (.int .i64 t328)) (fun _ hk => hk.2) (.slice Ao105 t329.length co105)) (fun _ hk => hk.1.1.2)))⟩; replace HO_300001 : Aside0 (Kd.R k134 134 w114 w.heap.size (fun k_ => some k_ ≠ (.slice Ao105 t329.length co105 : Value).ownBlock) (.slice Ao34 x287001_2.length co34) x287001_2) := ⟨(by rw [hw]; exact (by (with_reducible repeat (first | apply Kd.R_alloc | apply Kd.R_drewN | apply Kd.R_drew)); exact Kd.R_mono (Kd.R_far (p := ⟨gb286, 1, none⟩) (Kd.R_far (p := ⟨gb286, 0, none⟩) (Kd.R_far (p := ⟨gb299, 1, none⟩) (Kd.R_far (p := ⟨gb299, 0, none⟩) (Kd.R_types (Kd.R_types HO_300001.out BK299.out (by decide)) BK286.out (by decide)) (fun _ hk => hk.1.2) (.int .i64 t328)) (fun _ hk => hk.1.2) (.slice Ao105 t329.length co105)) (fun _ hk => hk.2) (.int .i64 t328)) (fun _ hk => hk.2) (.slice Ao105 t329.length co105)) (fun _ hk => hk.1.1.2)))⟩; replace HO331 : Aside0 (Kd.R k134 134 w114 w.heap.size (fun k_ => some k_ ≠ (.slice Ao34 x287001_2.length co34 : Value).ownBlock ∧ some k_ ≠ (.slice Ao34 x287001_2.length co34 : Value).ownBlock) (.slice Ao105 t329.length co105) t329) := ⟨(by rw [hw]; exact (by (with_reducible repeat (first | apply Kd.R_alloc | apply Kd.R_drewN | apply Kd.R_drew)); exact Kd.R_mono (Kd.R_far (p := ⟨gb286, 1, none⟩) (Kd.R_far (p := ⟨gb286, 0, none⟩) (Kd.R_far (p := ⟨gb299, 1, none⟩) (Kd.R_far (p := ⟨gb299, 0, none⟩) (Kd.R_types (Kd.R_types HO331.out BK299.out (by decide)) BK286.out (by decide)) (fun _ hk => hk.1.2) (.int .i64 t328)) (fun _ hk => hk.1.2) (.slice Ao105 t329.length co105)) (fun _ hk => hk.2) (.int .i64 t328)) (fun _ hk => hk.2) (.slice Ao105 t329.length co105)) (fun _ hk => ⟨hk.1.1.1.2, hk.1.1.2⟩)))⟩; replace BK282 : Aside0 (w114.heap[gb282]? = some (.cells #[.int .i64 0, .slice none 0 0] 70 (0, 0))) := ⟨(by rw [hw]; exact (by (with_reducible repeat (first | refine blk_drewN ?_ _ | refine blk_drew ?_ | refine blk_alloc ?_ _)); refine blk_far ?_ NB282_286.out _; (with_reducible repeat (first | refine blk_drewN ?_ _ | refine blk_drew ?_ | refine blk_alloc ?_ _)); refine blk_far ?_ NB282_286.out _; (with_reducible repeat (first | refine blk_drewN ?_ _ | refine blk_drew ?_ | refine blk_alloc ?_ _)); refine blk_far ?_ NB282_299.out _; (with_reducible repeat (first | refine blk_drewN ?_ _ | refine blk_drew ?_ | refine blk_alloc ?_ _)); refine blk_far ?_ NB282_299.out _; (with_reducible repeat (first | refine blk_drewN ?_ _ | refine blk_drew ?_ | refine blk_alloc ?_ _)); exact BK282.out))⟩; replace BK286 : Aside0 (w114.heap[gb286]? = some (.cells #[.int .i64 t328, .slice Ao105 t329.length co105] 70 (0, 0))) := ⟨(by rw [hw]; exact (by (with_reducible repeat (first | refine blk_drewN ?_ _ | refine blk_drew ?_ | refine blk_alloc ?_ _)); refine blk_put (cs := #[.int .i64 t328, .slice Ao34 x287001_2.length co34]) ?_ 1 _ rfl; (with_reducible repeat (first | refine blk_drewN ?_ _ | refine blk_drew ?_ | refine blk_alloc ?_ _)); refine blk_put (cs := #[.int .i64 x287000_2, .slice Ao34 x287001_2.length co34]) ?_ 0 _ rfl; (with_reducible repeat (first | refine blk_drewN ?_ _ | refine blk_drew ?_ | refine blk_alloc ?_ _)); refine blk_far ?_ NB286_299.out _; (with_reducible repeat (first | refine blk_drewN ?_ _ | refine blk_drew ?_ | refine blk_alloc ?_ _)); refine blk_far ?_ NB286_299.out _; (with_reducible repeat (first | refine blk_drewN ?_ _ | refine blk_drew ?_ | refine blk_alloc ?_ _)); exact BK286.out))⟩; replace BK299 : Aside0 (w114.heap[gb299]? = some (.cells #[.int .i64 t328, .slice Ao105 t329.length co105] 70 (0, 0))) := ⟨(by rw [hw]; exact (by (with_reducible repeat (first | refine blk_drewN ?_ _ | refine blk_drew ?_ | refine blk_alloc ?_ _)); refine blk_far ?_ NB299_286.out _; (with_reducible repeat (first | refine blk_drewN ?_ _ | refine blk_drew ?_ | refine blk_alloc ?_ _)); refine blk_far ?_ NB299_286.out _; (with_reducible repeat (first | refine blk_drewN ?_ _ | refine blk_drew ?_ | refine blk_alloc ?_ _)); refine blk_put (cs := #[.int .i64 t328, .slice Ao34 x287001_2.length co34]) ?_ 1 _ rfl; (with_reducible repeat (first | refine blk_drewN ?_ _ | refine blk_drew ?_ | refine blk_alloc ?_ _)); refine blk_put (cs := #[.int .i64 x287000_2, .slice Ao34 x287001_2.length co34]) ?_ 0 _ rfl; (with_reducible repeat (first | refine blk_drewN ?_ _ | refine blk_drew ?_ | refine blk_alloc ?_ _)); exact BK299.out))⟩; replace HK : Aside0 (KeepBut w w114 g none) := ⟨(by rw [hw]; exact (by repeat (first | (with_reducible first | exact HK.out | apply KeepBut.set_ | apply keep_drewN | apply keep_drew | apply keep_alloc | refine keep_far ?_ GW282.out _ | refine keep_far ?_ GW286.out _ | refine keep_far ?_ GW299.out _) | exact HK.out)))⟩; replace HB : Aside0 (Below w0.heap.size w0 w114) := ⟨(by rw [hw]; exact (by repeat (first | (with_reducible first | exact HB.out | apply below_alloc | apply pw_below_drewN | apply below_drew1 | refine below_set ?_ (IsS156.ge HI0.out) | refine below_set ?_ GE282.out | refine below_set ?_ GE286.out | refine below_set ?_ GE299.out) | exact HB.out)))⟩; replace HI0 : Aside0 (IsS156 w0 w114 g s0_0 t326 t327) := ⟨(by rw [hw]; exact (by repeat (first | (with_reducible first | exact HI0.out | apply IsS156.alloc | apply IsS156.drewN | apply IsS156.drew | apply IsS156.set_1 | apply IsS156.set_2 | refine IsS156.far ?_ NB0_282.out _ | refine IsS156.far ?_ NB0_286.out _ | refine IsS156.far ?_ NB0_299.out _) | exact HI0.out)))⟩; clear hw))
           go_roundg kj23
           case measure => have := HJ3.out; have := HK2.out; have := HJ23.out; omega
           case rel => exact ⟨(wrap64 (x4_2 + 1)), (t326), (t327), (t328), (t329), (.slice Ao105 t329.length co105), (by first | rfl | (simp; done) | (simp [*]; done)), H', ⟨by have := HJ3.out; have := HK2.out; have := HJ23.out; omega⟩, ⟨by (with_reducible repeat (first | apply Kd.R_alloc | apply Kd.R_drewN | apply Kd.R_drew)); exact Kd.R_mono HO331.out (fun _ hk => trivial)⟩, ⟨xblk⟩, ⟨xblk⟩, ⟨by repeat (first | (with_reducible first | exact HI0.out | apply IsS156.alloc | apply IsS156.drewN | apply IsS156.drew | apply IsS156.set_1 | apply IsS156.set_2 | refine IsS156.far ?_ NB0_282.out _ | refine IsS156.far ?_ NB0_286.out _ | refine IsS156.far ?_ NB0_299.out _) | exact HI0.out)⟩, ⟨by repeat (first | (with_reducible first | exact HK.out | apply KeepBut.set_ | apply keep_drewN | apply keep_drew | apply keep_alloc | refine keep_far ?_ GW282.out _ | refine keep_far ?_ GW286.out _ | refine keep_far ?_ GW299.out _) | exact HK.out)⟩, ⟨by repeat (first | (with_reducible first | exact HB.out | apply below_alloc | apply pw_below_drewN | apply below_drew1 | refine below_set ?_ (IsS156.ge HI0.out) | refine below_set ?_ GE282.out | refine below_set ?_ GE286.out | refine below_set ?_ GE299.out) | exact HB.out)⟩⟩
     ·rw [if_neg c22] at H
      have c22b0 : decide (x4_2 < t296) = false := decide_eq_false c22; clear c22
      simp only [Option.some.injEq, Prod.mk.injEq] at H
      obtain ⟨rfl, rfl, rfl, rfl⟩ := H
      go_wp2_with (first | ((with_reducible refine gate_callee (f := 78) rfl ?_); refine goesL_ (some 19) rfl rfl Try.func78 (by kernel_rfl) rfl #[.pointer (some ⟨g, 0, none⟩), .int .i64 12] rfl (by (try simp only [List.map_toArray, List.map_cons, List.map_nil]); first | done | rfl | (simp only [List.length_drop, List.length_take]; rfl)) ?_; (with_reducible refine (spec_l1Below.calls g s0_0 x1001_2 x1002_2 12 t296 t297 t298 w0 _ ?side1 ?side2 A21.out).mono ?_); (case side1 => repeat (first | (with_reducible first | exact HI0.out | apply IsS156.alloc | apply IsS156.drewN | apply IsS156.drew | apply IsS156.set_1 | apply IsS156.set_2 | refine IsS156.far ?_ NB0_282.out _ | refine IsS156.far ?_ NB0_286.out _) | exact HI0.out)); (case side2 => repeat (first | (with_reducible first | exact HB.out | apply below_alloc | apply pw_below_drewN | apply below_drew1 | refine below_set ?_ (IsS156.ge HI0.out) | refine below_set ?_ GE282.out | refine below_set ?_ GE286.out) | exact HB.out)); rintro e w115 ⟨rfl, hi, hb, hk⟩; refine ⟨_, rfl, ?_⟩; have n0_ := aM (Kd.R_mono (Kd.R_keep (IsS156.apart (show IsS156 w0 _ g s0_0 x1001_2 x1002_2 from by repeat (first | (with_reducible first | exact HI0.out | apply IsS156.alloc | apply IsS156.drewN | apply IsS156.drew | apply IsS156.set_1 | apply IsS156.set_2 | refine IsS156.far ?_ NB0_282.out _ | refine IsS156.far ?_ NB0_286.out _) | exact HI0.out)) (xr HO_287001) (by decide)) hk (fun _ h => h.2)) (fun _ h => h.1)); have n1_ := aM (KeepBut.blk hk (g' := gb282) (o := .cells #[.int .i64 0, .slice none 0 0] 70 (0, 0)) xblk NB282_0.out (by simp)); have n2_ := aM (KeepBut.blk hk (g' := gb286) (o := .cells #[.int .i64 x287000_2, u287001] 70 (0, 0)) xblk NB286_0.out (by simp)); have n3_ := aM (KeepBut.trans (by repeat (first | (with_reducible first | exact HK.out | apply KeepBut.set_ | apply keep_drewN | apply keep_drew | apply keep_alloc | refine keep_far ?_ GW282.out _ | refine keep_far ?_ GW286.out _) | exact HK.out)) hk (.inl rfl)); have n4_ := aM (hb); have n5_ := aM (hi); clear HO_287001; clear BK282; clear BK286; clear HK; clear HB; clear HI0; have HO_287001 := n0_; have BK282 := n1_; have BK286 := n2_; have HK := n3_; have HB := n4_; have HI0 := n5_; clear n0_ n1_ n2_ n3_ n4_ n5_; (try clear hb); (try clear hb2); (try clear hk); (try clear hi); have hnb116 := NB286_282.out; have hnc116 := NB282_286.out; have hnb117 := NB286_0.out; have hnc117 := NB0_286.out; obtain ⟨hcz118_0, hcz118_1, hfz118_0, hfz118_1⟩ := xf2 (w := w115) BK286; have hnb119 := NB282_0.out; have hnc119 := NB0_282.out; obtain ⟨hcz120_0, hcz120_1, hfz120_0, hfz120_1⟩ := xf2 (w := w115) BK282; obtain ⟨Ao121, co121, eo121⟩ := Kd.R_slice HO_287001.out; subst eo121))
      refine bodyPost_ret (results_cell_row rfl _ _ gb282 70 #[.int .i64 x287000_2, .slice Ao121 x287001_2.length co121] (0, 0) _ rfl (by (with_reducible repeat (first | refine blk_drewN ?_ _ | refine blk_drew ?_ | refine blk_alloc ?_ _)); refine blk_put (cs := #[.int .i64 x287000_2, .slice none 0 0]) ?_ 1 _ rfl; (with_reducible repeat (first | refine blk_drewN ?_ _ | refine blk_drew ?_ | refine blk_alloc ?_ _)); refine blk_put (cs := #[.int .i64 0, .slice none 0 0]) ?_ 0 _ rfl; (with_reducible repeat (first | refine blk_drewN ?_ _ | refine blk_drew ?_ | refine blk_alloc ?_ _)); exact BK282.out) Try.underlying70 rfl (by kernel_rfl)) rfl ?_
      exact ⟨_, by first | rfl | (simp [errW_none, errW_some] <;> rfl) | (simp [*, errW_none, errW_some] <;> rfl), by (with_reducible repeat (first | apply Kd.R_alloc | apply Kd.R_drewN | apply Kd.R_drew)); exact Kd.R_mono (Kd.R_far (p := ⟨gb282, 1, none⟩) (Kd.R_far (p := ⟨gb282, 0, none⟩) (Kd.R_types HO_287001.out BK282.out (by decide)) (fun _ hk => hk.2) (.int .i64 x287000_2)) (fun _ hk => hk.2) (.slice Ao121 x287001_2.length co121)) (fun _ hk => trivial), by repeat (first | (with_reducible first | exact HI0.out | apply IsS156.alloc | apply IsS156.drewN | apply IsS156.drew | apply IsS156.set_1 | apply IsS156.set_2 | refine IsS156.far ?_ NB0_282.out _ | refine IsS156.far ?_ NB0_286.out _) | exact HI0.out), by repeat (first | (with_reducible first | exact HB.out | apply below_alloc | apply pw_below_drewN | apply below_drew1 | refine below_set ?_ (IsS156.ge HI0.out) | refine below_set ?_ GE282.out | refine below_set ?_ GE286.out) | exact HB.out), by repeat (first | (with_reducible first | exact HK.out | apply KeepBut.set_ | apply keep_drewN | apply keep_drew | apply keep_alloc | refine keep_far ?_ GW282.out _ | refine keep_far ?_ GW286.out _) | exact HK.out)⟩

end Go.Proofs.Ytnjpfllmcmomoaa.QFnFiles
