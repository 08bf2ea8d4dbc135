-- A walk, by a program of this session.
import Derived.Test.YtkfoojknjmgjdaaQFnDiskx0
import Derived.Test.YtkfoojknjmgjdaaQFnDiskx3
import Derived.Test.YtkfoojknjmgjdaaQFnDiskx7
import Derived.Test.YtkfoojknjmgjdaaQFnDiskx8
namespace Go.Proofs.Ytkfoojknjmgjdaa.QFnDisk
open Go.RowKit Go.Proofs.YtkfoojknjmgjdaaW.PrintWords Go.Proofs.YtkfoojknjmgjdaaW.PrintLast Go.Proofs.YtkfoojknjmgjdaaW.PrintMore
attribute [local go_sem] max2_int min2_int max_two min_two max_three min_three max_four min_four   -- for this text's walks alone
set_option linter.unusedVariables false
set_option linter.unusedSimpArgs false

/-! ### spec_l3DrawRight: function 158 -/
mutual
def spec_l3DrawRight.j0 : Nat → List Int → Int → Int → Int → Option (Int × (List (S81)) × Int × Int)
 | 0, _, _, _, _ => none
 | k + 1, x1000, x1001, x1002, x292000 => spec_l3DrawRight.l0 k 0 x1000 x1001 x1002 x292000 ([] : List (S81))
def spec_l3DrawRight.l0 : Nat → Int → List Int → Int → Int → Int → List (S81) → Option (Int × (List (S81)) × Int × Int)
 | 0, _, _, _, _, _, _ => none
 | k + 1, x4, x1000, x1001, x1002, x292000, x292001 => (spec_l1Below.f x1000 x1001 x1002 12).bind fun bt301 => (if x4 < bt301.1 then ((spec_l1Below.f x1000 bt301.2.1 bt301.2.2 5).bind fun bt305 => (if bt305.1 = 0 then (spec_l3DrawRight.j2 k x4 bt305.1 (bt305.1 == 0) x1000 bt305.2.1 bt305.2.2 x292000 x292001) else (if bt305.1 = 1 then (spec_l3DrawRight.j2 k x4 bt305.1 (bt305.1 == 1) x1000 bt305.2.1 bt305.2.2 x292000 x292001) else (spec_l3DrawRight.j2 k x4 bt305.1 (bt305.1 == 2) x1000 bt305.2.1 bt305.2.2 x292000 x292001)))) else (some (x292000, x292001, bt301.2.1, bt301.2.2)))
def spec_l3DrawRight.j2 : Nat → Int → Int → Bool → List Int → Int → Int → Int → List (S81) → Option (Int × (List (S81)) × Int × Int)
 | 0, _, _, _, _, _, _, _, _ => none
 | k + 1, x4, x25, x35, x1000, x1001, x1002, x292000, x292001 => if x35 = true then ((spec_l1Below.f x1000 x1001 x1002 5).bind fun bt308 => ((spec_l3DrawText.f k x1000 bt308.2.1 bt308.2.2 8).bind fun bt311 => ((spec_DiskAppend.f k x292000 x292001 bt308.1 bt311.1).bind fun bt314 => (if bt314.2.2 = 1 then (spec_l3DrawRight.l0 k (wrap64 (x4 + 1)) x1000 bt311.2.1 bt311.2.2 x292000 x292001) else (spec_l3DrawRight.l0 k (wrap64 (x4 + 1)) x1000 bt311.2.1 bt311.2.2 bt314.1 bt314.2.1))))) else (if x25 = 3 then ((spec_l1Below.f x1000 x1001 x1002 5).bind fun bt319 => ((spec_DiskSync.f k x292000 x292001 bt319.1).bind fun bt322 => (if bt322.2.2 = 1 then (spec_l3DrawRight.l0 k (wrap64 (x4 + 1)) x1000 bt319.2.1 bt319.2.2 x292000 x292001) else (spec_l3DrawRight.l0 k (wrap64 (x4 + 1)) x1000 bt319.2.1 bt319.2.2 bt322.1 bt322.2.1)))) else ((spec_l1Below.f x1000 x1001 x1002 5).bind fun bt327 => ((spec_l1Below.f x1000 bt327.2.1 bt327.2.2 8).bind fun bt330 => ((spec_DiskMove.f k x292000 x292001 bt327.1 bt330.1).bind fun bt333 => (if bt333.2.2 = 1 then (spec_l3DrawRight.l0 k (wrap64 (x4 + 1)) x1000 bt330.2.1 bt330.2.2 x292000 x292001) else (spec_l3DrawRight.l0 k (wrap64 (x4 + 1)) x1000 bt330.2.1 bt330.2.2 bt333.1 bt333.2.1))))))
end
def spec_l3DrawRight.f (k : Nat) (s0_0 : List Int) (s0_1 : Int) (s0_2 : Int) : Option (Int × (List (S81)) × Int × Int) := (spec_l1Below.f s0_0 s0_1 s0_2 200).bind fun bt288 => ((spec_l1Once.f s0_0 bt288.2.1 bt288.2.2 9).bind fun bt292 => (if bt292.1 = true then ((spec_l1PickInt.f s0_0 bt292.2.1 bt292.2.2 (([0, 40000, 20] : List Int))).bind fun bt298 => (spec_l3DrawRight.j0 k s0_0 bt298.2.1 bt298.2.2 bt298.1)) else (spec_l3DrawRight.j0 k s0_0 bt292.2.1 bt292.2.2 (wrap64 (60 + bt288.1)))))
set_option maxRecDepth 100000 in
theorem spec_l3DrawRight.mono_l : ∀ k, (∀ y0 y1 y2 y3, LeO (spec_l3DrawRight.j0 k y0 y1 y2 y3) (spec_l3DrawRight.j0 (k + 1) y0 y1 y2 y3)) ∧ (∀ y0 y1 y2 y3 y4 y5, LeO (spec_l3DrawRight.l0 k y0 y1 y2 y3 y4 y5) (spec_l3DrawRight.l0 (k + 1) y0 y1 y2 y3 y4 y5)) ∧ (∀ y0 y1 y2 y3 y4 y5 y6 y7, LeO (spec_l3DrawRight.j2 k y0 y1 y2 y3 y4 y5 y6 y7) (spec_l3DrawRight.j2 (k + 1) y0 y1 y2 y3 y4 y5 y6 y7))
 | 0 => ⟨fun _ _ _ _ r h => by simp [spec_l3DrawRight.j0] at h, fun _ _ _ _ _ _ r h => by simp [spec_l3DrawRight.l0] at h, fun _ _ _ _ _ _ _ _ r h => by simp [spec_l3DrawRight.j2] at h⟩
 | k + 1 => by
  obtain ⟨ih0, ih1, ih2⟩ := spec_l3DrawRight.mono_l k
  refine ⟨?_, ?_, ?_⟩
  ·intro y0 y1 y2 y3
   unfold spec_l3DrawRight.j0
   repeat' first
   | (with_reducible exact ih0 _ _ _ _)
   | (with_reducible exact ih1 _ _ _ _ _ _)
   | (with_reducible exact ih2 _ _ _ _ _ _ _ _)
   | (with_reducible exact spec_DiskAppend.mono _ _ _ _ _)
   | (with_reducible exact spec_DiskMove.mono _ _ _ _ _)
   | (with_reducible exact spec_DiskSync.mono _ _ _ _)
   | (with_reducible exact spec_l3DrawText.mono _ _ _ _ _)
   | (with_reducible exact LeO.refl _)
   | (with_reducible exact LeO.none _)
   | (with_reducible refine LeO.ite ?_ ?_)
   | (with_reducible refine LeO.bind ?_ (fun _ => ?_))
   | exact ih0 _ _ _ _
   | exact ih1 _ _ _ _ _ _
   | exact ih2 _ _ _ _ _ _ _ _
   | exact spec_DiskAppend.mono _ _ _ _ _
   | exact spec_DiskMove.mono _ _ _ _ _
   | exact spec_DiskSync.mono _ _ _ _
   | exact spec_l3DrawText.mono _ _ _ _ _
   | exact LeO.none _
   | refine LeO.ite ?_ ?_
   | refine LeO.bind ?_ (fun _ => ?_)
  ·intro y0 y1 y2 y3 y4 y5
   unfold spec_l3DrawRight.l0
   repeat' first
   | (with_reducible exact ih0 _ _ _ _)
   | (with_reducible exact ih1 _ _ _ _ _ _)
   | (with_reducible exact ih2 _ _ _ _ _ _ _ _)
   | (with_reducible exact spec_DiskAppend.mono _ _ _ _ _)
   | (with_reducible exact spec_DiskMove.mono _ _ _ _ _)
   | (with_reducible exact spec_DiskSync.mono _ _ _ _)
   | (with_reducible exact spec_l3DrawText.mono _ _ _ _ _)
   | (with_reducible exact LeO.refl _)
   | (with_reducible exact LeO.none _)
   | (with_reducible refine LeO.ite ?_ ?_)
   | (with_reducible refine LeO.bind ?_ (fun _ => ?_))
   | exact ih0 _ _ _ _
   | exact ih1 _ _ _ _ _ _
   | exact ih2 _ _ _ _ _ _ _ _
   | exact spec_DiskAppend.mono _ _ _ _ _
   | exact spec_DiskMove.mono _ _ _ _ _
   | exact spec_DiskSync.mono _ _ _ _
   | exact spec_l3DrawText.mono _ _ _ _ _
   | exact LeO.none _
   | refine LeO.ite ?_ ?_
   | refine LeO.bind ?_ (fun _ => ?_)
  ·intro y0 y1 y2 y3 y4 y5 y6 y7
   unfold spec_l3DrawRight.j2
   repeat' first
   | (with_reducible exact ih0 _ _ _ _)
   | (with_reducible exact ih1 _ _ _ _ _ _)
   | (with_reducible exact ih2 _ _ _ _ _ _ _ _)
   | (with_reducible exact spec_DiskAppend.mono _ _ _ _ _)
   | (with_reducible exact spec_DiskMove.mono _ _ _ _ _)
   | (with_reducible exact spec_DiskSync.mono _ _ _ _)
   | (with_reducible exact spec_l3DrawText.mono _ _ _ _ _)
   | (with_reducible exact LeO.refl _)
   | (with_reducible exact LeO.none _)
   | (with_reducible refine LeO.ite ?_ ?_)
   | (with_reducible refine LeO.bind ?_ (fun _ => ?_))
   | exact ih0 _ _ _ _
   | exact ih1 _ _ _ _ _ _
   | exact ih2 _ _ _ _ _ _ _ _
   | exact spec_DiskAppend.mono _ _ _ _ _
   | exact spec_DiskMove.mono _ _ _ _ _
   | exact spec_DiskSync.mono _ _ _ _
   | exact spec_l3DrawText.mono _ _ _ _ _
   | exact LeO.none _
   | refine LeO.ite ?_ ?_
   | refine LeO.bind ?_ (fun _ => ?_)
theorem spec_l3DrawRight.mono : ∀ a0 a1 a2 k, LeO (spec_l3DrawRight.f k a0 a1 a2) (spec_l3DrawRight.f (k + 1) a0 a1 a2) := by
 intro a0 a1 a2 k
 obtain ⟨ih0, ih1, ih2⟩ := spec_l3DrawRight.mono_l k
 unfold spec_l3DrawRight.f
 repeat' first
  | (with_reducible exact ih0 _ _ _ _)
  | (with_reducible exact ih1 _ _ _ _ _ _)
  | (with_reducible exact ih2 _ _ _ _ _ _ _ _)
  | (with_reducible exact spec_DiskAppend.mono _ _ _ _ _)
  | (with_reducible exact spec_DiskMove.mono _ _ _ _ _)
  | (with_reducible exact spec_DiskSync.mono _ _ _ _)
  | (with_reducible exact spec_l3DrawText.mono _ _ _ _ _)
  | (with_reducible exact LeO.refl _)
  | (with_reducible exact LeO.none _)
  | (with_reducible refine LeO.ite ?_ ?_)
  | (with_reducible refine LeO.bind ?_ (fun _ => ?_))
  | exact ih0 _ _ _ _
  | exact ih1 _ _ _ _ _ _
  | exact ih2 _ _ _ _ _ _ _ _
  | exact spec_DiskAppend.mono _ _ _ _ _
  | exact spec_DiskMove.mono _ _ _ _ _
  | exact spec_DiskSync.mono _ _ _ _
  | exact spec_l3DrawText.mono _ _ _ _ _
  | exact LeO.none _
  | refine LeO.ite ?_ ?_
  | refine LeO.bind ?_ (fun _ => ?_)
def spec_l3DrawRight.T9 : Bool × List (List Nat × List Nat) := (true, [([], []), ([], []), ([1], [1]), ([], []), ([3, 2], [3]), ([0, 2, 4, 4], [0, 2, 4]), ([5], [5]), ([6], [6]), ([6], [6]), ([7, 5, 0, 1, 2, 3, 4, 5, 6, 7], [7]), ([8, 9, 0, 1, 2, 3, 4, 5, 6, 7, 8, 9], [8])])
def spec_l3DrawRight.B9 : List Nat := [0, 0, 2, 0, 14, 31, 63, 127, 127, 255, 1023]
theorem spec_l3DrawRight.tab9 : rtab .any (opsOf Try.f158 9) = spec_l3DrawRight.T9 := by kernel_rfl
theorem spec_l3DrawRight.bits9 : waitsOk spec_l3DrawRight.T9.2 spec_l3DrawRight.B9 = true := by kernel_rfl
def spec_l3DrawRight.T13 : Bool × List (List Nat × List Nat) := (true, [([], []), ([], []), ([1], [1]), ([], []), ([3, 2], [3]), ([0, 2, 4, 4], [0, 2, 4]), ([5], [5]), ([6], [6]), ([6], [6]), ([7, 5, 0, 1, 2, 3, 4, 5, 6, 7], [7]), ([8, 9, 0, 1, 2, 3, 4, 5, 6, 7, 8, 9], [8])])
def spec_l3DrawRight.B13 : List Nat := [0, 0, 2, 0, 14, 31, 63, 127, 127, 255, 1023]
theorem spec_l3DrawRight.tab13 : rtab .any (opsOf Try.f158 13) = spec_l3DrawRight.T13 := by kernel_rfl
theorem spec_l3DrawRight.bits13 : waitsOk spec_l3DrawRight.T13.2 spec_l3DrawRight.B13 = true := by kernel_rfl
def spec_l3DrawRight.T15 : Bool × List (List Nat × List Nat) := (true, [([], []), ([], []), ([1], [1]), ([0, 2, 2], [0, 2]), ([3], [3]), ([4], [4]), ([4], [4]), ([5, 3, 0, 1, 2, 3, 4, 5], [5]), ([6, 7, 0, 1, 2, 3, 4, 5, 6, 7], [6])])
def spec_l3DrawRight.B15 : List Nat := [0, 0, 2, 7, 15, 31, 31, 63, 255]
theorem spec_l3DrawRight.tab15 : rtab .any (opsOf Try.f158 15) = spec_l3DrawRight.T15 := by kernel_rfl
theorem spec_l3DrawRight.bits15 : waitsOk spec_l3DrawRight.T15.2 spec_l3DrawRight.B15 = true := by kernel_rfl
set_option maxHeartbeats 8000000 in
set_option maxRecDepth 100000 in
theorem spec_l3DrawRight.calls (k : Nat) (g : Nat) (s0_0 : List Int) (s0_1 : Int) (s0_2 : Int) (r1 : Int) (r2 : List (S81)) (r3 : Int) (r4 : Int) (w0 w : World) (hI : IsS159 w0 w g s0_0 s0_1 s0_2) (hB : Below w0.heap.size w0 w) (h : spec_l3DrawRight.f k s0_0 s0_1 s0_2 = some (r1, r2, r3, r4)) :
 Calls Try.prog 158 #[.pointer (some ⟨g, 0, none⟩)] w fun e w' => ∃ v1_ : Value, e = .returned (.agg #[.int .i64 r1, v1_]) ∧ Kd.R k81 81 w' w.heap.size (fun _ => True) v1_ r2 ∧ IsS159 w0 w' g s0_0 r3 r4 ∧ Below w0.heap.size w0 w' ∧ KeepBut w w' g none := by
 have hu63 := Try.underlying63
 have HI0 := Aside0.mk hI
 have HK := Aside0.mk (KeepBut.refl w g none)
 have HL := Aside0.mk hB.size
 clear hI
 have HW0 := Aside0.mk hB.size
 have HB := Aside0.mk hB
 clear hB
 have H : ((spec_l1Below.f s0_0 s0_1 s0_2 200).bind fun bt288 => ((spec_l1Once.f s0_0 bt288.2.1 bt288.2.2 9).bind fun bt292 => (if bt292.1 = true then ((spec_l1PickInt.f s0_0 bt292.2.1 bt292.2.2 (([0, 40000, 20] : List Int))).bind fun bt298 => (spec_l3DrawRight.j0 k s0_0 bt298.2.1 bt298.2.2 bt298.1)) else (spec_l3DrawRight.j0 k s0_0 bt292.2.1 bt292.2.2 (wrap64 (60 + bt288.1)))))) = some (r1, r2, r3, r4) := h
 clear h
 replace H := Option.bind_eq_some_iff.mp H
 obtain ⟨⟨t288, t289, t290⟩, A20, H⟩ := H
 replace H : ((spec_l1Once.f s0_0 t289 t290 9).bind fun bt292 => (if bt292.1 = true then ((spec_l1PickInt.f s0_0 bt292.2.1 bt292.2.2 (([0, 40000, 20] : List Int))).bind fun bt298 => (spec_l3DrawRight.j0 k s0_0 bt298.2.1 bt298.2.2 bt298.1)) else (spec_l3DrawRight.j0 k s0_0 bt292.2.1 bt292.2.2 (wrap64 (60 + t288))))) = some (r1, r2, r3, r4) := H
 have A2 := Aside0.mk A20
 clear A20
 replace H := Option.bind_eq_some_iff.mp H
 obtain ⟨⟨t292, t293, t294⟩, A30, H⟩ := H
 replace H : (if t292 = true then ((spec_l1PickInt.f s0_0 t293 t294 (([0, 40000, 20] : List Int))).bind fun bt298 => (spec_l3DrawRight.j0 k s0_0 bt298.2.1 bt298.2.2 bt298.1)) else (spec_l3DrawRight.j0 k s0_0 t293 t294 (wrap64 (60 + t288)))) = some (r1, r2, r3, r4) := H
 have A3 := Aside0.mk A30
 clear A30
 have HC4 := Aside0.mk H
 clear H
 go_enter Try.func158, Try.ntmps158
 go_upto_if 12 with (first | ((with_reducible refine gate_dst (N := 2) rfl ?_); refine box_event ?hg (N := 2) ?hd (cs := #[.int .i64 0, .slice none 0 0]) (t := 63) ?hr ?_; (case hd => rfl); (case hg => rfl); (case hr => first | (go_simp; done) | (go_simp; rfl)); intro gb287 hg w5 hbox hb; replace HB := Aside0.mk (below_step (by repeat (first | (with_reducible first | exact HB.out | apply below_alloc | apply pw_below_drewN | apply below_drew1 | refine below_set ?_ (IsS159.ge HI0.out)) | exact HB.out)) hb); have BK287 := Aside0.mk (hbox); have GW287 := Aside0.mk ((by rw [hg]; exact (keep_size (w := w) (g := g) (row := none) (by repeat (first | (with_reducible first | exact HK.out | apply KeepBut.set_ | apply keep_drewN | apply keep_drew | apply keep_alloc) | exact HK.out))) : w.heap.size ≤ gb287)); have GE287 := Aside0.mk ((Nat.le_trans HW0.out (by rw [hg]; exact (keep_size (w := w) (g := g) (row := none) (by repeat (first | (with_reducible first | exact HK.out | apply KeepBut.set_ | apply keep_drewN | apply keep_drew | apply keep_alloc) | exact HK.out))) : w.heap.size ≤ gb287) : w0.heap.size ≤ gb287)); replace HK := Aside0.mk (KeepBut.trans (by repeat (first | (with_reducible first | exact HK.out | apply KeepBut.set_ | apply keep_drewN | apply keep_drew | apply keep_alloc) | exact HK.out)) (KeepBut.of_below hb g none) (.inl rfl)); have NB0_287 := Aside0.mk ((by rw [hg]; exact Nat.ne_of_lt (IsS159.lt (show IsS159 w0 _ g s0_0 s0_1 s0_2 from by repeat (first | (with_reducible first | exact HI0.out | apply IsS159.alloc | apply IsS159.drewN | apply IsS159.drew | apply IsS159.set_1 | apply IsS159.set_2) | exact HI0.out))) : g ≠ gb287)); have NB287_0 := Aside0.mk ((by rw [hg]; exact Nat.ne_of_gt (IsS159.lt (show IsS159 w0 _ g s0_0 s0_1 s0_2 from by repeat (first | (with_reducible first | exact HI0.out | apply IsS159.alloc | apply IsS159.drewN | apply IsS159.drew | apply IsS159.set_1 | apply IsS159.set_2) | exact HI0.out))) : gb287 ≠ g)); replace HI0 := Aside0.mk (IsS159.below (by repeat (first | (with_reducible first | exact HI0.out | apply IsS159.alloc | apply IsS159.drewN | apply IsS159.drew | apply IsS159.set_1 | apply IsS159.set_2) | exact HI0.out)) hb); clear hb hbox hg) | ((with_reducible refine gate_callee (f := 93) rfl ?_); refine goesL_ (some 8) rfl rfl Try.func93 (by kernel_rfl) rfl #[.pointer (some ⟨g, 0, none⟩), .int .i64 200] rfl (by (try simp only [List.map_toArray, List.map_cons, List.map_nil]); first | done | rfl | (simp only [List.length_drop, List.length_take]; rfl)) ?_; (with_reducible refine (spec_l1Below.calls g s0_0 s0_1 s0_2 200 t288 t289 t290 w0 _ ?side1 ?side2 A2.out).mono ?_); (case side1 => repeat (first | (with_reducible first | exact HI0.out | apply IsS159.alloc | apply IsS159.drewN | apply IsS159.drew | apply IsS159.set_1 | apply IsS159.set_2 | refine IsS159.far ?_ NB0_287.out _) | exact HI0.out)); (case side2 => repeat (first | (with_reducible first | exact HB.out | apply below_alloc | apply pw_below_drewN | apply below_drew1 | refine below_set ?_ (IsS159.ge HI0.out) | refine below_set ?_ GE287.out) | exact HB.out)); rintro e w6 ⟨rfl, hi, hb, hk⟩; refine ⟨_, rfl, ?_⟩; replace BK287 := Aside0.mk (KeepBut.blk hk (g' := gb287) (o := .cells #[.int .i64 0, .slice none 0 0] 63 (0, 0)) xblk NB287_0.out (by simp)); replace HK := Aside0.mk (KeepBut.trans (by repeat (first | (with_reducible first | exact HK.out | apply KeepBut.set_ | apply keep_drewN | apply keep_drew | apply keep_alloc | refine keep_far ?_ GW287.out _) | exact HK.out)) hk (.inl rfl)); replace HB := Aside0.mk (hb); replace HI0 := Aside0.mk (hi); (try clear hb); (try clear hb2); (try clear hk); (try clear hi)) | ((with_reducible refine gate_dst (N := 3) rfl ?_); refine box_event ?hg (N := 3) ?hd (cs := #[.int .i64 0, .slice none 0 0]) (t := 63) ?hr ?_; (case hd => rfl); (case hg => rfl); (case hr => first | (go_simp; done) | (go_simp; rfl)); intro gb291 hg w7 hbox hb; replace HB := Aside0.mk (below_step (by repeat (first | (with_reducible first | exact HB.out | apply below_alloc | apply pw_below_drewN | apply below_drew1 | refine below_set ?_ (IsS159.ge HI0.out) | refine below_set ?_ GE287.out) | exact HB.out)) hb); have GW291 := Aside0.mk ((by rw [hg]; exact (keep_size (w := w) (g := g) (row := none) (by repeat (first | (with_reducible first | exact HK.out | apply KeepBut.set_ | apply keep_drewN | apply keep_drew | apply keep_alloc | refine keep_far ?_ GW287.out _) | exact HK.out))) : w.heap.size ≤ gb291)); have GE291 := Aside0.mk ((Nat.le_trans HW0.out (by rw [hg]; exact (keep_size (w := w) (g := g) (row := none) (by repeat (first | (with_reducible first | exact HK.out | apply KeepBut.set_ | apply keep_drewN | apply keep_drew | apply keep_alloc | refine keep_far ?_ GW287.out _) | exact HK.out))) : w.heap.size ≤ gb291) : w0.heap.size ≤ gb291)); replace HK := Aside0.mk (KeepBut.trans (by repeat (first | (with_reducible first | exact HK.out | apply KeepBut.set_ | apply keep_drewN | apply keep_drew | apply keep_alloc | refine keep_far ?_ GW287.out _) | exact HK.out)) (KeepBut.of_below hb g none) (.inl rfl)); have NB287_291 := Aside0.mk ((by rw [hg]; exact Nat.ne_of_lt (blk_lt (g := gb287) (o := .cells #[.int .i64 0, .slice none 0 0] 63 (0, 0)) xblk) : gb287 ≠ gb291)); have NB291_287 := Aside0.mk ((by rw [hg]; exact Nat.ne_of_gt (blk_lt (g := gb287) (o := .cells #[.int .i64 0, .slice none 0 0] 63 (0, 0)) xblk) : gb291 ≠ gb287)); replace BK287 := xbb BK287 hb; have BK291 := Aside0.mk (hbox); have NB0_291 := Aside0.mk ((by rw [hg]; exact Nat.ne_of_lt (IsS159.lt (show IsS159 w0 _ g s0_0 t289 t290 from by repeat (first | (with_reducible first | exact HI0.out | apply IsS159.alloc | apply IsS159.drewN | apply IsS159.drew | apply IsS159.set_1 | apply IsS159.set_2 | refine IsS159.far ?_ NB0_287.out _) | exact HI0.out))) : g ≠ gb291)); have NB291_0 := Aside0.mk ((by rw [hg]; exact Nat.ne_of_gt (IsS159.lt (show IsS159 w0 _ g s0_0 t289 t290 from by repeat (first | (with_reducible first | exact HI0.out | apply IsS159.alloc | apply IsS159.drewN | apply IsS159.drew | apply IsS159.set_1 | apply IsS159.set_2 | refine IsS159.far ?_ NB0_287.out _) | exact HI0.out))) : gb291 ≠ g)); replace HI0 := Aside0.mk (IsS159.below (by repeat (first | (with_reducible first | exact HI0.out | apply IsS159.alloc | apply IsS159.drewN | apply IsS159.drew | apply IsS159.set_1 | apply IsS159.set_2 | refine IsS159.far ?_ NB0_287.out _) | exact HI0.out)) hb); clear hb hbox hg; have hnb8 := NB291_287.out; have hnc8 := NB287_291.out; have hnb9 := NB291_0.out; have hnc9 := NB0_291.out; have hcz10_0 : w7.cell? ⟨gb291, 0, none⟩ = some (.int .i64 0) := (blk_cell BK291.out 0).trans rfl; have hcz10_1 : w7.cell? ⟨gb291, 1, none⟩ = some (.slice none 0 0) := (blk_cell BK291.out 1).trans rfl; have hfz10_0 := blk_frozen BK291.out 0; have hfz10_1 := blk_frozen BK291.out 1) | ((with_reducible refine gate_callee (f := 91) rfl ?_); refine goesL_ (some 12) rfl rfl Try.func91 (by kernel_rfl) rfl #[.pointer (some ⟨g, 0, none⟩), .int .i64 9] rfl (by (try simp only [List.map_toArray, List.map_cons, List.map_nil]); first | done | rfl | (simp only [List.length_drop, List.length_take]; rfl)) ?_; (with_reducible refine (spec_l1Once.calls g s0_0 t289 t290 9 t292 t293 t294 w0 _ ?side1 ?side2 A3.out).mono ?_); (case side1 => repeat (first | (with_reducible first | exact HI0.out | apply IsS159.alloc | apply IsS159.drewN | apply IsS159.drew | apply IsS159.set_1 | apply IsS159.set_2 | refine IsS159.far ?_ NB0_287.out _ | refine IsS159.far ?_ NB0_291.out _) | exact HI0.out)); (case side2 => repeat (first | (with_reducible first | exact HB.out | apply below_alloc | apply pw_below_drewN | apply below_drew1 | refine below_set ?_ (IsS159.ge HI0.out) | refine below_set ?_ GE287.out | refine below_set ?_ GE291.out) | exact HB.out)); rintro e w11 ⟨rfl, hi, hb, hk⟩; refine ⟨_, rfl, ?_⟩; replace BK287 := Aside0.mk (KeepBut.blk hk (g' := gb287) (o := .cells #[.int .i64 0, .slice none 0 0] 63 (0, 0)) (by (with_reducible repeat (first | refine blk_drewN ?_ _ | refine blk_drew ?_ | refine blk_alloc ?_ _)); refine blk_far ?_ NB287_291.out _; (with_reducible repeat (first | refine blk_drewN ?_ _ | refine blk_drew ?_ | refine blk_alloc ?_ _)); refine blk_far ?_ NB287_291.out _; (with_reducible repeat (first | refine blk_drewN ?_ _ | refine blk_drew ?_ | refine blk_alloc ?_ _)); exact BK287.out) NB287_0.out (by simp)); replace BK291 := Aside0.mk (KeepBut.blk hk (g' := gb291) (o := .cells #[.int .i64 (wrap64 (60 + t288)), .slice none 0 0] 63 (0, 0)) (by (with_reducible repeat (first | refine blk_drewN ?_ _ | refine blk_drew ?_ | refine blk_alloc ?_ _)); refine blk_put (cs := #[.int .i64 (wrap64 (60 + t288)), .slice none 0 0]) ?_ 1 _ rfl; (with_reducible repeat (first | refine blk_drewN ?_ _ | refine blk_drew ?_ | refine blk_alloc ?_ _)); refine blk_put (cs := #[.int .i64 0, .slice none 0 0]) ?_ 0 _ rfl; (with_reducible repeat (first | refine blk_drewN ?_ _ | refine blk_drew ?_ | refine blk_alloc ?_ _)); exact BK291.out) NB291_0.out (by simp)); replace HK := Aside0.mk (KeepBut.trans (by repeat (first | (with_reducible first | exact HK.out | apply KeepBut.set_ | apply keep_drewN | apply keep_drew | apply keep_alloc | refine keep_far ?_ GW287.out _ | refine keep_far ?_ GW291.out _) | exact HK.out)) hk (.inl rfl)); replace HB := Aside0.mk (hb); replace HI0 := Aside0.mk (hi); (try clear hb); (try clear hb2); (try clear hk); (try clear hi)))
 (try simp only [Act.put, List.setIfInBounds_toArray, List.set_cons_zero, List.set_cons_succ])
 go_cut [] (fun wc => ∃ (kq : Nat) (x1001_3 : Int) (x1002_3 : Int) (x292000_3 : Int), Aside0 (spec_l3DrawRight.j0 kq s0_0 x1001_3 x1002_3 x292000_3 = some (r1, r2, r3, r4)) ∧ Aside0 (kq ≤ k) ∧ Aside0 (wc.heap[gb287]? = some (.cells #[.int .i64 0, (.slice none 0 0)] 63 (0, 0))) ∧ Aside0 (wc.heap[gb291]? = some (.cells #[.int .i64 x292000_3, (.slice none 0 0)] 63 (0, 0))) ∧ Aside0 (IsS159 w0 wc g s0_0 x1001_3 x1002_3) ∧ Aside0 (KeepBut w wc g none) ∧ Aside0 (Below w0.heap.size w0 wc))
 case first =>
  have H := HC4.out
  clear HC4
  by_cases c12 : t292 = true
  ·subst c12
   have H1 : ((spec_l1PickInt.f s0_0 t293 t294 (([0, 40000, 20] : List Int))).bind fun bt298 => (spec_l3DrawRight.j0 k s0_0 bt298.2.1 bt298.2.2 bt298.1)) = some (r1, r2, r3, r4) := by rw [if_pos rfl] at H; exact H
   clear H
   have H := H1
   clear H1
   obtain ⟨y295, hy295⟩ : ∃ y_ : List Int, y_ = (([0, 40000, 20] : List Int)) := ⟨_, rfl⟩
   replace H : ((spec_l1PickInt.f s0_0 t293 t294 y295).bind fun bt298 => (spec_l3DrawRight.j0 k s0_0 bt298.2.1 bt298.2.2 bt298.1)) = some (r1, r2, r3, r4) := by first | (rw [hy295]; with_reducible exact H) | (have H2_ := (Option.bind_some _ _).symm.trans H; rw [hy295]; with_reducible exact H2_) | (have H2_ := (Option.bind_some _ _).symm.trans H; with_reducible exact H2_) | with_reducible exact H | (rw [hy295]; exact H) | exact H
   have Ny295 := Aside0.mk hy295
   clear hy295
   replace H := Option.bind_eq_some_iff.mp H
   obtain ⟨⟨t298, t299, t300⟩, A130, H⟩ := H
   replace H : (spec_l3DrawRight.j0 k s0_0 t299 t300 t298) = some (r1, r2, r3, r4) := H
   have A13 := Aside0.mk A130
   clear A130
   have H' := Aside0.mk H
   clear H
   go_wp2_with (first | ((with_reducible refine gate_dst (N := 14) rfl ?_); refine Kd.R_lit (Kd.int .i64) _ 3 ?hg (N := 14) ?hd (xs := ([0, 40000, 20] : List Int)) (inner := [.int .i64 0, .int .i64 40000, .int .i64 20]) (ok := fun _ => True) (okp := fun _ => True) ?hr ?hp (fun _ hk => hk) trivial (Below.refl _ _) (Nat.le_refl _) (by simp) ?_; (case hd => rfl); (case hg => rfl); (case hr => first | (go_simp; done) | (go_simp; rfl)); (case hp => exact (Reps.one (show Kd.M (Kd.int .i64) _ _ _ 0 [.int .i64 0] from rfl) (Reps.one (show Kd.M (Kd.int .i64) _ _ _ 40000 [.int .i64 40000] from rfl) (Reps.one (show Kd.M (Kd.int .i64) _ _ _ 20 [.int .i64 20] from rfl) (Reps.none _ _))))); intro v296 w14 ho15 hb hg_ hnew_; clear hg_ hnew_; (first | rw [← Ny295.out] at ho15 | (simp only [Int.reduceToNat] at ho15; rw [← Ny295.out] at ho15)); have HO297 := Aside0.mk (Kd.R_lower ho15 (keep_size (w := w) (g := g) (row := none) (by repeat (first | (with_reducible first | exact HK.out | apply KeepBut.set_ | apply keep_drewN | apply keep_drew | apply keep_alloc | refine keep_far ?_ GW287.out _ | refine keep_far ?_ GW291.out _) | exact HK.out)))); replace BK287 := xbb BK287 hb; replace BK291 := xbb BK291 hb; replace HK := Aside0.mk (KeepBut.trans (by repeat (first | (with_reducible first | exact HK.out | apply KeepBut.set_ | apply keep_drewN | apply keep_drew | apply keep_alloc | refine keep_far ?_ GW287.out _ | refine keep_far ?_ GW291.out _) | exact HK.out)) (KeepBut.of_below hb g none) (.inl rfl)); replace HB := Aside0.mk (below_step (by repeat (first | (with_reducible first | exact HB.out | apply below_alloc | apply pw_below_drewN | apply below_drew1 | refine below_set ?_ (IsS159.ge HI0.out) | refine below_set ?_ GE287.out | refine below_set ?_ GE291.out) | exact HB.out)) hb); replace HI0 := Aside0.mk (IsS159.below (by repeat (first | (with_reducible first | exact HI0.out | apply IsS159.alloc | apply IsS159.drewN | apply IsS159.drew | apply IsS159.set_1 | apply IsS159.set_2 | refine IsS159.far ?_ NB0_287.out _ | refine IsS159.far ?_ NB0_291.out _) | exact HI0.out)) hb); clear hb ho15; obtain ⟨Ao16, co16, eo16⟩ := Kd.R_slice HO297.out; subst eo16) | ((with_reducible refine gate_callee (f := 138) rfl ?_); refine goesL_ (some 15) rfl rfl Try.func138 (by kernel_rfl) rfl #[.pointer (some ⟨g, 0, none⟩), .slice Ao16 y295.length co16] rfl (by (try simp only [List.map_toArray, List.map_cons, List.map_nil]); first | done | rfl | (simp only [List.length_drop, List.length_take]; rfl)) ?_; (with_reducible refine (spec_l1PickInt.calls g s0_0 t293 t294 _ _ y295 t298 t299 t300 w0 _ ?side1 ?side2 ?side3 ?side4 ?side5 A13.out).mono ?_); (case side1 => repeat (first | (with_reducible first | exact HI0.out | apply IsS159.alloc | apply IsS159.drewN | apply IsS159.drew | apply IsS159.set_1 | apply IsS159.set_2 | refine IsS159.far ?_ NB0_287.out _ | refine IsS159.far ?_ NB0_291.out _) | exact HI0.out)); (case side2 => repeat (first | (with_reducible first | exact HB.out | apply below_alloc | apply pw_below_drewN | apply below_drew1 | refine below_set ?_ (IsS159.ge HI0.out) | refine below_set ?_ GE287.out | refine below_set ?_ GE291.out) | exact HB.out)); (case side3 => repeat (first | exact (Kd.R_reads' HO297.out).2.2 | (with_reducible refine Kd.C_alloc ?_ _) | (with_reducible refine Kd.C_drewN ?_ _) | (with_reducible refine Kd.C_drew ?_))); (case side4 => exact (Kd.R_reads' HO297.out).2.1); (case side5 => exact far_slice (IsS159.own_ne HI0.out HO297.out (by decide))); rintro e w17 ⟨rfl, hi, hb, hk⟩; refine ⟨_, rfl, ?_⟩; have n0_ := Aside0.mk (KeepBut.blk hk (g' := gb287) (o := .cells #[.int .i64 0, .slice none 0 0] 63 (0, 0)) xblk NB287_0.out (by simp)); have n1_ := Aside0.mk (KeepBut.blk hk (g' := gb291) (o := .cells #[.int .i64 (wrap64 (60 + t288)), .slice none 0 0] 63 (0, 0)) xblk NB291_0.out (by simp)); have n2_ := Aside0.mk (Kd.R_mono (Kd.R_keep (IsS159.apart (show IsS159 w0 _ g s0_0 t293 t294 from by repeat (first | (with_reducible first | exact HI0.out | apply IsS159.alloc | apply IsS159.drewN | apply IsS159.drew | apply IsS159.set_1 | apply IsS159.set_2 | refine IsS159.far ?_ NB0_287.out _ | refine IsS159.far ?_ NB0_291.out _) | exact HI0.out)) (by (with_reducible repeat (first | apply Kd.R_alloc | apply Kd.R_drewN | apply Kd.R_drew)); exact HO297.out) (by decide)) hk (fun _ h => h.2)) (fun _ h => h.1)); have n3_ := Aside0.mk (KeepBut.trans (by repeat (first | (with_reducible first | exact HK.out | apply KeepBut.set_ | apply keep_drewN | apply keep_drew | apply keep_alloc | refine keep_far ?_ GW287.out _ | refine keep_far ?_ GW291.out _) | exact HK.out)) hk (.inl rfl)); have n4_ := Aside0.mk (hb); have n5_ := Aside0.mk (hi); clear BK287; clear BK291; clear HO297; clear HK; clear HB; clear HI0; have BK287 := n0_; have BK291 := n1_; have HO297 := n2_; have HK := n3_; have HB := n4_; have HI0 := n5_; clear n0_ n1_ n2_ n3_ n4_ n5_; (try clear hb); (try clear hb2); (try clear hk); (try clear hi); have hnb18 := NB291_287.out; have hnc18 := NB287_291.out; have hnb19 := NB291_0.out; have hnc19 := NB0_291.out; have hcz20_0 : w17.cell? ⟨gb291, 0, none⟩ = some (.int .i64 (wrap64 (60 + t288))) := (blk_cell BK291.out 0).trans rfl; have hcz20_1 : w17.cell? ⟨gb291, 1, none⟩ = some (.slice none 0 0) := (blk_cell BK291.out 1).trans rfl; have hfz20_0 := blk_frozen BK291.out 0; have hfz20_1 := blk_frozen BK291.out 1))
   go_meet
   case rel => exact ⟨_, (t299), (t300), (t298), H', ⟨by first | omega | exact Nat.le_refl _⟩, ⟨by (with_reducible repeat (first | refine blk_drewN ?_ _ | refine blk_drew ?_ | refine blk_alloc ?_ _)); refine blk_far ?_ NB287_291.out _; (with_reducible repeat (first | refine blk_drewN ?_ _ | refine blk_drew ?_ | refine blk_alloc ?_ _)); exact BK287.out⟩, ⟨by (with_reducible repeat (first | refine blk_drewN ?_ _ | refine blk_drew ?_ | refine blk_alloc ?_ _)); refine blk_put (cs := #[.int .i64 (wrap64 (60 + t288)), .slice none 0 0]) ?_ 0 _ rfl; (with_reducible repeat (first | refine blk_drewN ?_ _ | refine blk_drew ?_ | refine blk_alloc ?_ _)); exact BK291.out⟩, ⟨by repeat (first | (with_reducible first | exact HI0.out | apply IsS159.alloc | apply IsS159.drewN | apply IsS159.drew | apply IsS159.set_1 | apply IsS159.set_2 | refine IsS159.far ?_ NB0_287.out _ | refine IsS159.far ?_ NB0_291.out _) | exact HI0.out)⟩, ⟨by repeat (first | (with_reducible first | exact HK.out | apply KeepBut.set_ | apply keep_drewN | apply keep_drew | apply keep_alloc | refine keep_far ?_ GW287.out _ | refine keep_far ?_ GW291.out _) | exact HK.out)⟩, ⟨by repeat (first | (with_reducible first | exact HB.out | apply below_alloc | apply pw_below_drewN | apply below_drew1 | refine below_set ?_ (IsS159.ge HI0.out) | refine below_set ?_ GE287.out | refine below_set ?_ GE291.out) | exact HB.out)⟩⟩
  ·replace c12 := Bool.eq_false_iff.mpr c12
   subst c12
   have H1 : (spec_l3DrawRight.j0 k s0_0 t293 t294 (wrap64 (60 + t288))) = some (r1, r2, r3, r4) := by rw [if_neg (show ¬ (false = true) by decide)] at H; exact H
   clear H
   have H := H1
   clear H1
   have H' := Aside0.mk H
   clear H
   go_wp2
   go_meet
   case rel => exact ⟨_, (t293), (t294), (wrap64 (60 + t288)), H', ⟨by first | omega | exact Nat.le_refl _⟩, ⟨xblk⟩, ⟨xblk⟩, ⟨by repeat (first | (with_reducible first | exact HI0.out | apply IsS159.alloc | apply IsS159.drewN | apply IsS159.drew | apply IsS159.set_1 | apply IsS159.set_2 | refine IsS159.far ?_ NB0_287.out _ | refine IsS159.far ?_ NB0_291.out _) | exact HI0.out)⟩, ⟨by repeat (first | (with_reducible first | exact HK.out | apply KeepBut.set_ | apply keep_drewN | apply keep_drew | apply keep_alloc | refine keep_far ?_ GW287.out _ | refine keep_far ?_ GW291.out _) | exact HK.out)⟩, ⟨by repeat (first | (with_reducible first | exact HB.out | apply below_alloc | apply pw_below_drewN | apply below_drew1 | refine below_set ?_ (IsS159.ge HI0.out) | refine below_set ?_ GE287.out | refine below_set ?_ GE291.out) | exact HB.out)⟩⟩
 case rest =>
  clear HC4
  try clear c1
  try clear p2
  try clear p6
  try clear c8
  try clear c9
  try clear c12
  try clear c13
  try clear c15
  try clear c18
  try clear c19
  try clear hcz10_0
  try clear hcz10_1
  try clear hcz20_0
  try clear hcz20_1
  try clear hfz10_0
  try clear hfz10_1
  try clear hfz20_0
  try clear hfz20_1
  obtain ⟨kq, x1001_3, x1002_3, x292000_3, HA, HJ3, BK287, BK291, HI0, HK, HB⟩ := hcut
  cases kq with
  | zero => exact absurd HA.out (by simp [spec_l3DrawRight.j0])
  | succ kj3 =>
   have H := HA.out
   clear HA
   simp only [spec_l3DrawRight.j0] at H
   have H' := Aside0.mk H
   clear H
   go_wp2
   go_loopg [4] kj3 (fun kq v4 w' => ∃ (x4_2 : Int) (x1001_2 : Int) (x1002_2 : Int) (x292000_2 : Int) (x292001_2 : List (S81)) (u292001 : Value), v4 = .int .i64 x4_2 ∧ Aside0 (spec_l3DrawRight.l0 kq x4_2 s0_0 x1001_2 x1002_2 x292000_2 x292001_2 = some (r1, r2, r3, r4)) ∧ Aside0 (kq ≤ kj3) ∧ Aside0 (Kd.R k81 81 w' w.heap.size (fun _ => True) u292001 x292001_2) ∧ Aside0 (w'.heap[gb287]? = some (.cells #[.int .i64 0, (.slice none 0 0)] 63 (0, 0))) ∧ Aside0 (w'.heap[gb291]? = some (.cells #[.int .i64 x292000_2, u292001] 63 (0, 0))) ∧ Aside0 (IsS159 w0 w' g s0_0 x1001_2 x1002_2) ∧ Aside0 (KeepBut w w' g none) ∧ Aside0 (Below w0.heap.size w0 w'))
   case atStart => exact ⟨(0), (x1001_3), (x1002_3), (x292000_3), (([] : List (S81))), (.slice none 0 0), (by first | rfl | (simp; done) | (simp [*]; done)), H', ⟨Nat.le_refl _⟩, ⟨by first | exact Kd.R_nil _ _ _ _ _ | exact Kd.N_nil _ _ _ _ _ | exact Kd.V_nil _ _ _ _ _ | exact Kd.Q_nil _ _ _ _ _ | exact Kd.S_nil _ _ _ _ _⟩, ⟨xblk⟩, ⟨xblk⟩, ⟨by repeat (first | (with_reducible first | exact HI0.out | apply IsS159.alloc | apply IsS159.drewN | apply IsS159.drew | apply IsS159.set_1 | apply IsS159.set_2 | refine IsS159.far ?_ NB0_287.out _ | refine IsS159.far ?_ NB0_291.out _) | exact HI0.out)⟩, ⟨by repeat (first | (with_reducible first | exact HK.out | apply KeepBut.set_ | apply keep_drewN | apply keep_drew | apply keep_alloc | refine keep_far ?_ GW287.out _ | refine keep_far ?_ GW291.out _) | exact HK.out)⟩, ⟨by repeat (first | (with_reducible first | exact HB.out | apply below_alloc | apply pw_below_drewN | apply below_drew1 | refine below_set ?_ (IsS159.ge HI0.out) | refine below_set ?_ GE287.out | refine below_set ?_ GE291.out) | exact HB.out)⟩⟩
   case round =>
    clear H'
    try clear c1
    try clear p2
    try clear p6
    try clear c8
    try clear c9
    try clear c12
    try clear c13
    try clear c15
    try clear c18
    try clear c19
    try clear hcz10_0
    try clear hcz10_1
    try clear hcz20_0
    try clear hcz20_1
    try clear hfz10_0
    try clear hfz10_1
    try clear hfz20_0
    try clear hfz20_1
    try clear p2
    try clear p6
    obtain ⟨x4_2, x1001_2, x1002_2, x292000_2, x292001_2, u292001, rfl, HA, HK2, HO_292001, BK287, BK291, HI0, HK, HB⟩ := hrel
    cases gk with
    | zero => exact absurd HA.out (by simp [spec_l3DrawRight.l0])
    | succ k2 =>
     have H := HA.out
     clear HA
     simp only [spec_l3DrawRight.l0] at H
     replace H := Option.bind_eq_some_iff.mp H
     obtain ⟨⟨t301, t302, t303⟩, A210, H⟩ := H
     replace H : (if x4_2 < t301 then ((spec_l1Below.f s0_0 t302 t303 5).bind fun bt305 => (if bt305.1 = 0 then (spec_l3DrawRight.j2 k2 x4_2 bt305.1 (bt305.1 == 0) s0_0 bt305.2.1 bt305.2.2 x292000_2 x292001_2) else (if bt305.1 = 1 then (spec_l3DrawRight.j2 k2 x4_2 bt305.1 (bt305.1 == 1) s0_0 bt305.2.1 bt305.2.2 x292000_2 x292001_2) else (spec_l3DrawRight.j2 k2 x4_2 bt305.1 (bt305.1 == 2) s0_0 bt305.2.1 bt305.2.2 x292000_2 x292001_2)))) else (some (x292000_2, x292001_2, t302, t303))) = some (r1, r2, r3, r4) := H
     have A21 := Aside0.mk A210
     clear A210
     by_cases c22 : x4_2 < t301
     ·rw [if_pos c22] at H
      have c22b0 : decide (x4_2 < t301) = true := decide_eq_true c22
      clear c22
      replace H := Option.bind_eq_some_iff.mp H
      obtain ⟨⟨t305, t306, t307⟩, A230, H⟩ := H
      replace H : (if t305 = 0 then (spec_l3DrawRight.j2 k2 x4_2 t305 (t305 == 0) s0_0 t306 t307 x292000_2 x292001_2) else (if t305 = 1 then (spec_l3DrawRight.j2 k2 x4_2 t305 (t305 == 1) s0_0 t306 t307 x292000_2 x292001_2) else (spec_l3DrawRight.j2 k2 x4_2 t305 (t305 == 2) s0_0 t306 t307 x292000_2 x292001_2))) = some (r1, r2, r3, r4) := H
      have A23 := Aside0.mk A230
      clear A230
      have HC24 := Aside0.mk H
      clear H
      go_upto_if 35 with (first | ((with_reducible refine gate_callee (f := 93) rfl ?_); refine goesL_ (some 19) rfl rfl Try.func93 (by kernel_rfl) rfl #[.pointer (some ⟨g, 0, none⟩), .int .i64 12] rfl (by (try simp only [List.map_toArray, List.map_cons, List.map_nil]); first | done | rfl | (simp only [List.length_drop, List.length_take]; rfl)) ?_; (with_reducible refine (spec_l1Below.calls g s0_0 x1001_2 x1002_2 12 t301 t302 t303 w0 _ ?side1 ?side2 A21.out).mono ?_); (case side1 => repeat (first | (with_reducible first | exact HI0.out | apply IsS159.alloc | apply IsS159.drewN | apply IsS159.drew | apply IsS159.set_1 | apply IsS159.set_2 | refine IsS159.far ?_ NB0_287.out _ | refine IsS159.far ?_ NB0_291.out _) | exact HI0.out)); (case side2 => repeat (first | (with_reducible first | exact HB.out | apply below_alloc | apply pw_below_drewN | apply below_drew1 | refine below_set ?_ (IsS159.ge HI0.out) | refine below_set ?_ GE287.out | refine below_set ?_ GE291.out) | exact HB.out)); rintro e w25 ⟨rfl, hi, hb, hk⟩; refine ⟨_, rfl, ?_⟩; have n0_ := Aside0.mk (Kd.R_mono (Kd.R_keep (IsS159.apart (show IsS159 w0 _ g s0_0 x1001_2 x1002_2 from by repeat (first | (with_reducible first | exact HI0.out | apply IsS159.alloc | apply IsS159.drewN | apply IsS159.drew | apply IsS159.set_1 | apply IsS159.set_2 | refine IsS159.far ?_ NB0_287.out _ | refine IsS159.far ?_ NB0_291.out _) | exact HI0.out)) (by (with_reducible repeat (first | apply Kd.R_alloc | apply Kd.R_drewN | apply Kd.R_drew)); exact HO_292001.out) (by decide)) hk (fun _ h => h.2)) (fun _ h => h.1)); have n1_ := Aside0.mk (KeepBut.blk hk (g' := gb287) (o := .cells #[.int .i64 0, .slice none 0 0] 63 (0, 0)) xblk NB287_0.out (by simp)); have n2_ := Aside0.mk (KeepBut.blk hk (g' := gb291) (o := .cells #[.int .i64 x292000_2, u292001] 63 (0, 0)) xblk NB291_0.out (by simp)); have n3_ := Aside0.mk (KeepBut.trans (by repeat (first | (with_reducible first | exact HK.out | apply KeepBut.set_ | apply keep_drewN | apply keep_drew | apply keep_alloc | refine keep_far ?_ GW287.out _ | refine keep_far ?_ GW291.out _) | exact HK.out)) hk (.inl rfl)); have n4_ := Aside0.mk (hb); have n5_ := Aside0.mk (hi); clear HO_292001; clear BK287; clear BK291; clear HK; clear HB; clear HI0; have HO_292001 := n0_; have BK287 := n1_; have BK291 := n2_; have HK := n3_; have HB := n4_; have HI0 := n5_; clear n0_ n1_ n2_ n3_ n4_ n5_; (try clear hb); (try clear hb2); (try clear hk); (try clear hi); have hnb26 := NB291_287.out; have hnc26 := NB287_291.out; have hnb27 := NB291_0.out; have hnc27 := NB0_291.out; have hcz28_0 : w25.cell? ⟨gb291, 0, none⟩ = some (.int .i64 x292000_2) := (blk_cell BK291.out 0).trans rfl; have hcz28_1 : w25.cell? ⟨gb291, 1, none⟩ = some (u292001) := (blk_cell BK291.out 1).trans rfl; have hfz28_0 := blk_frozen BK291.out 0; have hfz28_1 := blk_frozen BK291.out 1) | ((with_reducible refine gate_dst (N := 5) rfl ?_); refine box_event ?hg (N := 5) ?hd (cs := #[.int .i64 0, .slice none 0 0]) (t := 63) ?hr ?_; (case hd => rfl); (case hg => rfl); (case hr => first | (go_simp; done) | (go_simp; rfl)); intro gb304 hg w29 hbox hb; replace HO_292001 := Aside0.mk (Kd.R_below (by (with_reducible repeat (first | apply Kd.R_alloc | apply Kd.R_drewN | apply Kd.R_drew)); exact HO_292001.out) hb); replace HB := Aside0.mk (below_step (by repeat (first | (with_reducible first | exact HB.out | apply below_alloc | apply pw_below_drewN | apply below_drew1 | refine below_set ?_ (IsS159.ge HI0.out) | refine below_set ?_ GE287.out | refine below_set ?_ GE291.out) | exact HB.out)) hb); have GW304 := Aside0.mk ((by rw [hg]; exact (keep_size (w := w) (g := g) (row := none) (by repeat (first | (with_reducible first | exact HK.out | apply KeepBut.set_ | apply keep_drewN | apply keep_drew | apply keep_alloc | refine keep_far ?_ GW287.out _ | refine keep_far ?_ GW291.out _) | exact HK.out))) : w.heap.size ≤ gb304)); have GE304 := Aside0.mk ((Nat.le_trans HW0.out (by rw [hg]; exact (keep_size (w := w) (g := g) (row := none) (by repeat (first | (with_reducible first | exact HK.out | apply KeepBut.set_ | apply keep_drewN | apply keep_drew | apply keep_alloc | refine keep_far ?_ GW287.out _ | refine keep_far ?_ GW291.out _) | exact HK.out))) : w.heap.size ≤ gb304) : w0.heap.size ≤ gb304)); replace HK := Aside0.mk (KeepBut.trans (by repeat (first | (with_reducible first | exact HK.out | apply KeepBut.set_ | apply keep_drewN | apply keep_drew | apply keep_alloc | refine keep_far ?_ GW287.out _ | refine keep_far ?_ GW291.out _) | exact HK.out)) (KeepBut.of_below hb g none) (.inl rfl)); have NB287_304 := Aside0.mk ((by rw [hg]; exact Nat.ne_of_lt (blk_lt (g := gb287) (o := .cells #[.int .i64 0, .slice none 0 0] 63 (0, 0)) xblk) : gb287 ≠ gb304)); have NB304_287 := Aside0.mk ((by rw [hg]; exact Nat.ne_of_gt (blk_lt (g := gb287) (o := .cells #[.int .i64 0, .slice none 0 0] 63 (0, 0)) xblk) : gb304 ≠ gb287)); have NB291_304 := Aside0.mk ((by rw [hg]; exact Nat.ne_of_lt (blk_lt (g := gb291) (o := .cells #[.int .i64 x292000_2, u292001] 63 (0, 0)) xblk) : gb291 ≠ gb304)); have NB304_291 := Aside0.mk ((by rw [hg]; exact Nat.ne_of_gt (blk_lt (g := gb291) (o := .cells #[.int .i64 x292000_2, u292001] 63 (0, 0)) xblk) : gb304 ≠ gb291)); replace BK287 := xbb BK287 hb; replace BK291 := xbb BK291 hb; have BK304 := Aside0.mk (hbox); have NB0_304 := Aside0.mk ((by rw [hg]; exact Nat.ne_of_lt (IsS159.lt (show IsS159 w0 _ g s0_0 t302 t303 from by repeat (first | (with_reducible first | exact HI0.out | apply IsS159.alloc | apply IsS159.drewN | apply IsS159.drew | apply IsS159.set_1 | apply IsS159.set_2 | refine IsS159.far ?_ NB0_287.out _ | refine IsS159.far ?_ NB0_291.out _) | exact HI0.out))) : g ≠ gb304)); have NB304_0 := Aside0.mk ((by rw [hg]; exact Nat.ne_of_gt (IsS159.lt (show IsS159 w0 _ g s0_0 t302 t303 from by repeat (first | (with_reducible first | exact HI0.out | apply IsS159.alloc | apply IsS159.drewN | apply IsS159.drew | apply IsS159.set_1 | apply IsS159.set_2 | refine IsS159.far ?_ NB0_287.out _ | refine IsS159.far ?_ NB0_291.out _) | exact HI0.out))) : gb304 ≠ g)); replace HI0 := Aside0.mk (IsS159.below (by repeat (first | (with_reducible first | exact HI0.out | apply IsS159.alloc | apply IsS159.drewN | apply IsS159.drew | apply IsS159.set_1 | apply IsS159.set_2 | refine IsS159.far ?_ NB0_287.out _ | refine IsS159.far ?_ NB0_291.out _) | exact HI0.out)) hb); clear hb hbox hg; have hnb30 := NB304_287.out; have hnc30 := NB287_304.out; have hnb31 := NB304_291.out; have hnc31 := NB291_304.out; have hnb32 := NB304_0.out; have hnc32 := NB0_304.out; have hcz33_0 : w29.cell? ⟨gb304, 0, none⟩ = some (.int .i64 0) := (blk_cell BK304.out 0).trans rfl; have hcz33_1 : w29.cell? ⟨gb304, 1, none⟩ = some (.slice none 0 0) := (blk_cell BK304.out 1).trans rfl; have hfz33_0 := blk_frozen BK304.out 0; have hfz33_1 := blk_frozen BK304.out 1; obtain ⟨Ao34, co34, eo34⟩ := Kd.R_slice HO_292001.out; subst eo34) | ((with_reducible refine gate_callee (f := 93) rfl ?_); refine goesL_ (some 25) rfl rfl Try.func93 (by kernel_rfl) rfl #[.pointer (some ⟨g, 0, none⟩), .int .i64 5] rfl (by (try simp only [List.map_toArray, List.map_cons, List.map_nil]); first | done | rfl | (simp only [List.length_drop, List.length_take]; rfl)) ?_; (with_reducible refine (spec_l1Below.calls g s0_0 t302 t303 5 t305 t306 t307 w0 _ ?side1 ?side2 A23.out).mono ?_); (case side1 => repeat (first | (with_reducible first | exact HI0.out | apply IsS159.alloc | apply IsS159.drewN | apply IsS159.drew | apply IsS159.set_1 | apply IsS159.set_2 | refine IsS159.far ?_ NB0_287.out _ | refine IsS159.far ?_ NB0_291.out _ | refine IsS159.far ?_ NB0_304.out _) | exact HI0.out)); (case side2 => repeat (first | (with_reducible first | exact HB.out | apply below_alloc | apply pw_below_drewN | apply below_drew1 | refine below_set ?_ (IsS159.ge HI0.out) | refine below_set ?_ GE287.out | refine below_set ?_ GE291.out | refine below_set ?_ GE304.out) | exact HB.out)); rintro e w35 ⟨rfl, hi, hb, hk⟩; refine ⟨_, rfl, ?_⟩; replace HO_292001 := Aside0.mk (Kd.R_mono (Kd.R_keep (IsS159.apart (show IsS159 w0 _ g s0_0 t302 t303 from by repeat (first | (with_reducible first | exact HI0.out | apply IsS159.alloc | apply IsS159.drewN | apply IsS159.drew | apply IsS159.set_1 | apply IsS159.set_2 | refine IsS159.far ?_ NB0_287.out _ | refine IsS159.far ?_ NB0_291.out _ | refine IsS159.far ?_ NB0_304.out _) | exact HI0.out)) (by (with_reducible repeat (first | apply Kd.R_alloc | apply Kd.R_drewN | apply Kd.R_drew)); exact (Kd.R_mono (Kd.R_far (p := ⟨gb304, 1, none⟩) (Kd.R_far (p := ⟨gb304, 0, none⟩) (Kd.R_types HO_292001.out BK304.out (by decide)) (fun _ hk => hk.2) (.int .i64 x292000_2)) (fun _ hk => hk.2) (.slice Ao34 x292001_2.length co34)) (fun _ h_ => h_.1))) (by decide)) hk (fun _ h => h.2)) (fun _ h => h.1)); replace BK287 := Aside0.mk (KeepBut.blk hk (g' := gb287) (o := .cells #[.int .i64 0, .slice none 0 0] 63 (0, 0)) (by (with_reducible repeat (first | refine blk_drewN ?_ _ | refine blk_drew ?_ | refine blk_alloc ?_ _)); refine blk_far ?_ NB287_304.out _; (with_reducible repeat (first | refine blk_drewN ?_ _ | refine blk_drew ?_ | refine blk_alloc ?_ _)); refine blk_far ?_ NB287_304.out _; (with_reducible repeat (first | refine blk_drewN ?_ _ | refine blk_drew ?_ | refine blk_alloc ?_ _)); exact BK287.out) NB287_0.out (by simp)); replace BK291 := Aside0.mk (KeepBut.blk hk (g' := gb291) (o := .cells #[.int .i64 x292000_2, .slice Ao34 x292001_2.length co34] 63 (0, 0)) (by (with_reducible repeat (first | refine blk_drewN ?_ _ | refine blk_drew ?_ | refine blk_alloc ?_ _)); refine blk_far ?_ NB291_304.out _; (with_reducible repeat (first | refine blk_drewN ?_ _ | refine blk_drew ?_ | refine blk_alloc ?_ _)); refine blk_far ?_ NB291_304.out _; (with_reducible repeat (first | refine blk_drewN ?_ _ | refine blk_drew ?_ | refine blk_alloc ?_ _)); exact BK291.out) NB291_0.out (by simp)); replace BK304 := Aside0.mk (KeepBut.blk hk (g' := gb304) (o := .cells #[.int .i64 x292000_2, .slice Ao34 x292001_2.length co34] 63 (0, 0)) (by (with_reducible repeat (first | refine blk_drewN ?_ _ | refine blk_drew ?_ | refine blk_alloc ?_ _)); refine blk_put (cs := #[.int .i64 x292000_2, .slice none 0 0]) ?_ 1 _ rfl; (with_reducible repeat (first | refine blk_drewN ?_ _ | refine blk_drew ?_ | refine blk_alloc ?_ _)); refine blk_put (cs := #[.int .i64 0, .slice none 0 0]) ?_ 0 _ rfl; (with_reducible repeat (first | refine blk_drewN ?_ _ | refine blk_drew ?_ | refine blk_alloc ?_ _)); exact BK304.out) NB304_0.out (by simp)); replace HK := Aside0.mk (KeepBut.trans (by repeat (first | (with_reducible first | exact HK.out | apply KeepBut.set_ | apply keep_drewN | apply keep_drew | apply keep_alloc | refine keep_far ?_ GW287.out _ | refine keep_far ?_ GW291.out _ | refine keep_far ?_ GW304.out _) | exact HK.out)) hk (.inl rfl)); replace HB := Aside0.mk (hb); replace HI0 := Aside0.mk (hi); (try clear hb); (try clear hb2); (try clear hk); (try clear hi)))
      (try simp only [Act.put, List.setIfInBounds_toArray, List.set_cons_zero, List.set_cons_succ])
      go_cut [35] (fun v35 wc => ∃ (kq : Nat) (x35_23 : Bool), v35 = .bool x35_23 ∧ Aside0 (spec_l3DrawRight.j2 kq x4_2 t305 x35_23 s0_0 t306 t307 x292000_2 x292001_2 = some (r1, r2, r3, r4)) ∧ Aside0 (kq ≤ k2) ∧ Aside0 (Kd.R k81 81 wc w.heap.size (fun _ => True) (.slice Ao34 x292001_2.length co34) x292001_2) ∧ Aside0 (Kd.R k81 81 wc w.heap.size (fun _ => True) (.slice Ao34 x292001_2.length co34) x292001_2) ∧ Aside0 (wc.heap[gb287]? = some (.cells #[.int .i64 0, (.slice none 0 0)] 63 (0, 0))) ∧ Aside0 (wc.heap[gb291]? = some (.cells #[.int .i64 x292000_2, (.slice Ao34 x292001_2.length co34)] 63 (0, 0))) ∧ Aside0 (wc.heap[gb304]? = some (.cells #[.int .i64 x292000_2, (.slice Ao34 x292001_2.length co34)] 63 (0, 0))) ∧ Aside0 (IsS159 w0 wc g s0_0 t306 t307) ∧ Aside0 (KeepBut w wc g none) ∧ Aside0 (Below w0.heap.size w0 wc))
      case first =>
       have H := HC24.out
       clear HC24
       by_cases c36 : t305 = 0
       ·rw [if_pos c36] at H
        have c36b0 : (t305 == 0) = true := beq_iff_eq.mpr c36
        have c36b1 : (t305 != 0) = false := bne_eq_false_iff_eq.mpr c36
        clear c36
        (first | rw [c36b0] | (simp only [i64_w, i32_w]; rw [c36b0]) | skip)
        have H' := Aside0.mk H
        clear H
        go_wp2
        go_meet
        case rel => exact ⟨_, ((t305 == 0)), (by first | rfl | (simp; done) | (simp [*]; done)), H', ⟨by have := HJ3.out; have := HK2.out; first | omega | exact Nat.le_refl _⟩, ⟨by (with_reducible repeat (first | apply Kd.R_alloc | apply Kd.R_drewN | apply Kd.R_drew)); exact HO_292001.out⟩, ⟨by (with_reducible repeat (first | apply Kd.R_alloc | apply Kd.R_drewN | apply Kd.R_drew)); exact HO_292001.out⟩, ⟨xblk⟩, ⟨xblk⟩, ⟨xblk⟩, ⟨by repeat (first | (with_reducible first | exact HI0.out | apply IsS159.alloc | apply IsS159.drewN | apply IsS159.drew | apply IsS159.set_1 | apply IsS159.set_2 | refine IsS159.far ?_ NB0_287.out _ | refine IsS159.far ?_ NB0_291.out _ | refine IsS159.far ?_ NB0_304.out _) | exact HI0.out)⟩, ⟨by repeat (first | (with_reducible first | exact HK.out | apply KeepBut.set_ | apply keep_drewN | apply keep_drew | apply keep_alloc | refine keep_far ?_ GW287.out _ | refine keep_far ?_ GW291.out _ | refine keep_far ?_ GW304.out _) | exact HK.out)⟩, ⟨by repeat (first | (with_reducible first | exact HB.out | apply below_alloc | apply pw_below_drewN | apply below_drew1 | refine below_set ?_ (IsS159.ge HI0.out) | refine below_set ?_ GE287.out | refine below_set ?_ GE291.out | refine below_set ?_ GE304.out) | exact HB.out)⟩⟩
       ·rw [if_neg c36] at H
        have c36b0 : (t305 == 0) = false := beq_eq_false_iff_ne.mpr c36
        have c36b1 : (t305 != 0) = true := bne_iff_ne.mpr c36
        (first | rw [c36b0] | (simp only [i64_w, i32_w]; rw [c36b0]) | skip)
        by_cases c37 : t305 = 1
        ·rw [if_pos c37] at H
         have c37b0 : (t305 == 1) = true := beq_iff_eq.mpr c37
         have c37b1 : (t305 != 1) = false := bne_eq_false_iff_eq.mpr c37
         clear c37
         have H' := Aside0.mk H
         clear H
         go_wp2
         go_meet
         case rel => exact ⟨_, ((t305 == 1)), (by first | rfl | (simp; done) | (simp [*]; done)), H', ⟨by have := HJ3.out; have := HK2.out; first | omega | exact Nat.le_refl _⟩, ⟨by (with_reducible repeat (first | apply Kd.R_alloc | apply Kd.R_drewN | apply Kd.R_drew)); exact HO_292001.out⟩, ⟨by (with_reducible repeat (first | apply Kd.R_alloc | apply Kd.R_drewN | apply Kd.R_drew)); exact HO_292001.out⟩, ⟨xblk⟩, ⟨xblk⟩, ⟨xblk⟩, ⟨by repeat (first | (with_reducible first | exact HI0.out | apply IsS159.alloc | apply IsS159.drewN | apply IsS159.drew | apply IsS159.set_1 | apply IsS159.set_2 | refine IsS159.far ?_ NB0_287.out _ | refine IsS159.far ?_ NB0_291.out _ | refine IsS159.far ?_ NB0_304.out _) | exact HI0.out)⟩, ⟨by repeat (first | (with_reducible first | exact HK.out | apply KeepBut.set_ | apply keep_drewN | apply keep_drew | apply keep_alloc | refine keep_far ?_ GW287.out _ | refine keep_far ?_ GW291.out _ | refine keep_far ?_ GW304.out _) | exact HK.out)⟩, ⟨by repeat (first | (with_reducible first | exact HB.out | apply below_alloc | apply pw_below_drewN | apply below_drew1 | refine below_set ?_ (IsS159.ge HI0.out) | refine below_set ?_ GE287.out | refine below_set ?_ GE291.out | refine below_set ?_ GE304.out) | exact HB.out)⟩⟩
        ·rw [if_neg c37] at H
         have c37b0 : (t305 == 1) = false := beq_eq_false_iff_ne.mpr c37
         have c37b1 : (t305 != 1) = true := bne_iff_ne.mpr c37
         have H' := Aside0.mk H
         clear H
         go_wp2
         go_meet
         case rel => exact ⟨_, ((t305 == 2)), (by first | rfl | (simp; done) | (simp [*]; done)), H', ⟨by have := HJ3.out; have := HK2.out; first | omega | exact Nat.le_refl _⟩, ⟨by (with_reducible repeat (first | apply Kd.R_alloc | apply Kd.R_drewN | apply Kd.R_drew)); exact HO_292001.out⟩, ⟨by (with_reducible repeat (first | apply Kd.R_alloc | apply Kd.R_drewN | apply Kd.R_drew)); exact HO_292001.out⟩, ⟨xblk⟩, ⟨xblk⟩, ⟨xblk⟩, ⟨by repeat (first | (with_reducible first | exact HI0.out | apply IsS159.alloc | apply IsS159.drewN | apply IsS159.drew | apply IsS159.set_1 | apply IsS159.set_2 | refine IsS159.far ?_ NB0_287.out _ | refine IsS159.far ?_ NB0_291.out _ | refine IsS159.far ?_ NB0_304.out _) | exact HI0.out)⟩, ⟨by repeat (first | (with_reducible first | exact HK.out | apply KeepBut.set_ | apply keep_drewN | apply keep_drew | apply keep_alloc | refine keep_far ?_ GW287.out _ | refine keep_far ?_ GW291.out _ | refine keep_far ?_ GW304.out _) | exact HK.out)⟩, ⟨by repeat (first | (with_reducible first | exact HB.out | apply below_alloc | apply pw_below_drewN | apply below_drew1 | refine below_set ?_ (IsS159.ge HI0.out) | refine below_set ?_ GE287.out | refine below_set ?_ GE291.out | refine below_set ?_ GE304.out) | exact HB.out)⟩⟩
      case rest =>
       clear HC24
       try clear c1
       try clear c2
       try clear p2
       try clear c3
       try clear p6
       try clear c8
       try clear c9
       try clear c12
       try clear c13
       try clear c15
       try clear c18
       try clear c19
       try clear c22
       try clear c22b0
       try clear c26
       try clear c27
       try clear c30
       try clear c31
       try clear c32
       try clear c36
       try clear c36b0
       try clear c36b1
       try clear c37
       try clear c37b0
       try clear c37b1
       try clear hcz10_0
       try clear hcz10_1
       try clear hcz20_0
       try clear hcz20_1
       try clear hcz28_0
       try clear hcz28_1
       try clear hcz33_0
       try clear hcz33_1
       try clear hfz10_0
       try clear hfz10_1
       try clear hfz20_0
       try clear hfz20_1
       try clear hfz28_0
       try clear hfz28_1
       try clear hfz33_0
       try clear hfz33_1
       try clear p2
       try clear p6
       obtain ⟨kq, x35_23, rfl, HA, HJ23, HO_292001, HO_305001, BK287, BK291, BK304, HI0, HK, HB⟩ := hcut
       cases kq with
       | zero => exact absurd HA.out (by simp [spec_l3DrawRight.j2])
       | succ kj23 =>
        have H := HA.out
        clear HA
        simp only [spec_l3DrawRight.j2] at H
        by_cases c38 : x35_23 = true
        ·subst c38
         have H1 : ((spec_l1Below.f s0_0 t306 t307 5).bind fun bt308 => ((spec_l3DrawText.f kj23 s0_0 bt308.2.1 bt308.2.2 8).bind fun bt311 => ((spec_DiskAppend.f kj23 x292000_2 x292001_2 bt308.1 bt311.1).bind fun bt314 => (if bt314.2.2 = 1 then (spec_l3DrawRight.l0 kj23 (wrap64 (x4_2 + 1)) s0_0 bt311.2.1 bt311.2.2 x292000_2 x292001_2) else (spec_l3DrawRight.l0 kj23 (wrap64 (x4_2 + 1)) s0_0 bt311.2.1 bt311.2.2 bt314.1 bt314.2.1))))) = some (r1, r2, r3, r4) := by rw [if_pos rfl] at H; exact H
         clear H
         have H := H1
         clear H1
         replace H := Option.bind_eq_some_iff.mp H
         obtain ⟨⟨t308, t309, t310⟩, A390, H⟩ := H
         replace H : ((spec_l3DrawText.f kj23 s0_0 t309 t310 8).bind fun bt311 => ((spec_DiskAppend.f kj23 x292000_2 x292001_2 t308 bt311.1).bind fun bt314 => (if bt314.2.2 = 1 then (spec_l3DrawRight.l0 kj23 (wrap64 (x4_2 + 1)) s0_0 bt311.2.1 bt311.2.2 x292000_2 x292001_2) else (spec_l3DrawRight.l0 kj23 (wrap64 (x4_2 + 1)) s0_0 bt311.2.1 bt311.2.2 bt314.1 bt314.2.1)))) = some (r1, r2, r3, r4) := H
         have A39 := Aside0.mk A390
         clear A390
         replace H := Option.bind_eq_some_iff.mp H
         obtain ⟨⟨t311, t312, t313⟩, A400, H⟩ := H
         replace H : ((spec_DiskAppend.f kj23 x292000_2 x292001_2 t308 t311).bind fun bt314 => (if bt314.2.2 = 1 then (spec_l3DrawRight.l0 kj23 (wrap64 (x4_2 + 1)) s0_0 t312 t313 x292000_2 x292001_2) else (spec_l3DrawRight.l0 kj23 (wrap64 (x4_2 + 1)) s0_0 t312 t313 bt314.1 bt314.2.1))) = some (r1, r2, r3, r4) := H
         have A40 := Aside0.mk A400
         clear A400
         replace H := Option.bind_eq_some_iff.mp H
         obtain ⟨⟨t314, t315, t318⟩, A410, H⟩ := H
         replace H : (if t318 = 1 then (spec_l3DrawRight.l0 kj23 (wrap64 (x4_2 + 1)) s0_0 t312 t313 x292000_2 x292001_2) else (spec_l3DrawRight.l0 kj23 (wrap64 (x4_2 + 1)) s0_0 t312 t313 t314 t315)) = some (r1, r2, r3, r4) := H
         have A41 := Aside0.mk A410
         clear A410
         by_cases c42 : t318 = 1
         ·rw [if_pos c42] at H
          have c42b0 : (t318 == 1) = true := beq_iff_eq.mpr c42
          have c42b1 : (t318 != 1) = false := bne_eq_false_iff_eq.mpr c42
          clear c42
          have H' := Aside0.mk H
          clear H
          try go_wp2
          replace HO_292001 := Aside0.mk (Kd.R_drew HO_292001.out)
          replace HO_305001 := Aside0.mk (Kd.R_drew HO_305001.out)
          replace BK287 := Aside0.mk (blk_drew BK287.out)
          replace BK291 := Aside0.mk (blk_drew BK291.out)
          replace BK304 := Aside0.mk (blk_drew BK304.out)
          replace HI0 := Aside0.mk (IsS159.drew HI0.out)
          replace HK := Aside0.mk (keep_drew HK.out)
          replace HB := Aside0.mk (below_drew1 HB.out)
          refine start_ (n := 11) (S := fun w' => w'.cell? ⟨gb291, 0, none⟩ = some (.int .i64 x292000_2) ∧ w'.cell? ⟨gb291, 1, none⟩ = some (.slice Ao34 x292001_2.length co34)) (ds := []) #[false, false, false, false, false, false, false, false, false, false, false] (by kernel_rfl) rfl rfl ⟨(blk_cell BK291.out 0).trans rfl, (blk_cell BK291.out 1).trans rfl⟩ (fun hHeld => ?_); refine with_tabW spec_l3DrawRight.tab13 spec_l3DrawRight.bits13 (fun HT_ HW_ => ?_)
          generalize wc.drew = w43 at HO_292001 HO_305001 BK287 BK291 BK304 HI0 HK HB hHeld ⊢
          refine pv_ 1 41 (h := ?_)
          refine pv_ 3 43 (h := ?_)
          refine tk_ 0 40 (h := ?_)
          refine on_ 2 42 (h := fun K hK => ?_)
          refine goes_ Try.func93 (by kernel_rfl) rfl #[.pointer (some ⟨g, 0, none⟩), .int .i64 5] (by rfl) rfl rfl (by (try simp only [List.map_toArray, List.map_cons, List.map_nil]); first | done | rfl | (simp only [List.length_drop, List.length_take]; rfl)) ?_
          with_reducible refine (spec_l1Below.calls g s0_0 t306 t307 5 t308 t309 t310 w0 _ ?side1 ?side2 A39.out).mono ?_
          (case side1 => repeat (first | (with_reducible first | exact HI0.out | apply IsS159.alloc | apply IsS159.drewN | apply IsS159.drew | apply IsS159.set_1 | apply IsS159.set_2 | refine IsS159.far ?_ NB0_287.out _ | refine IsS159.far ?_ NB0_291.out _ | refine IsS159.far ?_ NB0_304.out _) | exact HI0.out))
          (case side2 => repeat (first | (with_reducible first | exact HB.out | apply below_alloc | apply pw_below_drewN | apply below_drew1 | refine below_set ?_ (IsS159.ge HI0.out) | refine below_set ?_ GE287.out | refine below_set ?_ GE291.out | refine below_set ?_ GE304.out) | exact HB.out))
          rintro e w44 ⟨rfl, hi, hb, hk⟩
          refine ⟨_, rfl, ?_⟩
          have n0_ := Aside0.mk (Kd.R_mono (Kd.R_keep (IsS159.apart (show IsS159 w0 _ g s0_0 t306 t307 from by repeat (first | (with_reducible first | exact HI0.out | apply IsS159.alloc | apply IsS159.drewN | apply IsS159.drew | apply IsS159.set_1 | apply IsS159.set_2 | refine IsS159.far ?_ NB0_287.out _ | refine IsS159.far ?_ NB0_291.out _ | refine IsS159.far ?_ NB0_304.out _) | exact HI0.out)) (by (with_reducible repeat (first | apply Kd.R_alloc | apply Kd.R_drewN | apply Kd.R_drew)); exact HO_292001.out) (by decide)) hk (fun _ h => h.2)) (fun _ h => h.1))
          have n1_ := Aside0.mk (Kd.R_mono (Kd.R_keep (IsS159.apart (show IsS159 w0 _ g s0_0 t306 t307 from by repeat (first | (with_reducible first | exact HI0.out | apply IsS159.alloc | apply IsS159.drewN | apply IsS159.drew | apply IsS159.set_1 | apply IsS159.set_2 | refine IsS159.far ?_ NB0_287.out _ | refine IsS159.far ?_ NB0_291.out _ | refine IsS159.far ?_ NB0_304.out _) | exact HI0.out)) (by (with_reducible repeat (first | apply Kd.R_alloc | apply Kd.R_drewN | apply Kd.R_drew)); exact HO_305001.out) (by decide)) hk (fun _ h => h.2)) (fun _ h => h.1))
          have n2_ := Aside0.mk (KeepBut.blk hk (g' := gb287) (o := .cells #[.int .i64 0, .slice none 0 0] 63 (0, 0)) xblk NB287_0.out (by simp))
          have n3_ := Aside0.mk (KeepBut.blk hk (g' := gb291) (o := .cells #[.int .i64 x292000_2, .slice Ao34 x292001_2.length co34] 63 (0, 0)) xblk NB291_0.out (by simp))
          have n4_ := Aside0.mk (KeepBut.blk hk (g' := gb304) (o := .cells #[.int .i64 x292000_2, .slice Ao34 x292001_2.length co34] 63 (0, 0)) xblk NB304_0.out (by simp))
          have n5_ := Aside0.mk (KeepBut.trans (by repeat (first | (with_reducible first | exact HK.out | apply KeepBut.set_ | apply keep_drewN | apply keep_drew | apply keep_alloc | refine keep_far ?_ GW287.out _ | refine keep_far ?_ GW291.out _ | refine keep_far ?_ GW304.out _) | exact HK.out)) hk (.inl rfl))
          have n6_ := Aside0.mk (hb)
          have n7_ := Aside0.mk (hi)
          clear HO_292001
          clear HO_305001
          clear BK287
          clear BK291
          clear BK304
          clear HK
          clear HB
          clear HI0
          have HO_292001 := n0_
          have HO_305001 := n1_
          have BK287 := n2_
          have BK291 := n3_
          have BK304 := n4_
          have HK := n5_
          have HB := n6_
          have HI0 := n7_
          clear n0_ n1_ n2_ n3_ n4_ n5_ n6_ n7_
          (try clear hb); (try clear hb2); (try clear hk); (try clear hi)
          refine hK.out _ _ ⟨(blk_cell BK291.out 0).trans rfl, (blk_cell BK291.out 1).trans rfl⟩ (fun hHeld => ?_)
          clear hK K
          refine norm_ (a' := ?_) ?_ ?_
          rotate_left
          ·show Act.put _ (some 42) _ = _
           simp only [Act.put, List.setIfInBounds_toArray, List.set_cons_zero, List.set_cons_succ, i64_w, i32_w]
           rfl
          refine on_ 4 44 (h := fun K hK => ?_)
          refine goes_ Try.func171 (by kernel_rfl) rfl #[.pointer (some ⟨g, 0, none⟩), .int .i64 8] (by rfl) rfl rfl (by (try simp only [List.map_toArray, List.map_cons, List.map_nil]); first | done | rfl | (simp only [List.length_drop, List.length_take]; rfl)) ?_
          with_reducible refine (spec_l3DrawText.calls kj23 g s0_0 t309 t310 8 t311 t312 t313 w0 _ ?side1 ?side2 A40.out).mono ?_
          (case side1 => repeat (first | (with_reducible first | exact HI0.out | apply IsS159.alloc | apply IsS159.drewN | apply IsS159.drew | apply IsS159.set_1 | apply IsS159.set_2 | refine IsS159.far ?_ NB0_287.out _ | refine IsS159.far ?_ NB0_291.out _ | refine IsS159.far ?_ NB0_304.out _) | exact HI0.out))
          (case side2 => repeat (first | (with_reducible first | exact HB.out | apply below_alloc | apply pw_below_drewN | apply below_drew1 | refine below_set ?_ (IsS159.ge HI0.out) | refine below_set ?_ GE287.out | refine below_set ?_ GE291.out | refine below_set ?_ GE304.out) | exact HB.out))
          rintro e w45 ⟨rfl, hi, hb, hk⟩
          refine ⟨_, rfl, ?_⟩
          have n0_ := Aside0.mk (Kd.R_mono (Kd.R_keep (IsS159.apart (show IsS159 w0 _ g s0_0 t309 t310 from by repeat (first | (with_reducible first | exact HI0.out | apply IsS159.alloc | apply IsS159.drewN | apply IsS159.drew | apply IsS159.set_1 | apply IsS159.set_2 | refine IsS159.far ?_ NB0_287.out _ | refine IsS159.far ?_ NB0_291.out _ | refine IsS159.far ?_ NB0_304.out _) | exact HI0.out)) (by (with_reducible repeat (first | apply Kd.R_alloc | apply Kd.R_drewN | apply Kd.R_drew)); exact HO_292001.out) (by decide)) hk (fun _ h => h.2)) (fun _ h => h.1))
          have n1_ := Aside0.mk (Kd.R_mono (Kd.R_keep (IsS159.apart (show IsS159 w0 _ g s0_0 t309 t310 from by repeat (first | (with_reducible first | exact HI0.out | apply IsS159.alloc | apply IsS159.drewN | apply IsS159.drew | apply IsS159.set_1 | apply IsS159.set_2 | refine IsS159.far ?_ NB0_287.out _ | refine IsS159.far ?_ NB0_291.out _ | refine IsS159.far ?_ NB0_304.out _) | exact HI0.out)) (by (with_reducible repeat (first | apply Kd.R_alloc | apply Kd.R_drewN | apply Kd.R_drew)); exact HO_305001.out) (by decide)) hk (fun _ h => h.2)) (fun _ h => h.1))
          have n2_ := Aside0.mk (KeepBut.blk hk (g' := gb287) (o := .cells #[.int .i64 0, .slice none 0 0] 63 (0, 0)) xblk NB287_0.out (by simp))
          have n3_ := Aside0.mk (KeepBut.blk hk (g' := gb291) (o := .cells #[.int .i64 x292000_2, .slice Ao34 x292001_2.length co34] 63 (0, 0)) xblk NB291_0.out (by simp))
          have n4_ := Aside0.mk (KeepBut.blk hk (g' := gb304) (o := .cells #[.int .i64 x292000_2, .slice Ao34 x292001_2.length co34] 63 (0, 0)) xblk NB304_0.out (by simp))
          have n5_ := Aside0.mk (KeepBut.trans (by repeat (first | (with_reducible first | exact HK.out | apply KeepBut.set_ | apply keep_drewN | apply keep_drew | apply keep_alloc | refine keep_far ?_ GW287.out _ | refine keep_far ?_ GW291.out _ | refine keep_far ?_ GW304.out _) | exact HK.out)) hk (.inl rfl))
          have n6_ := Aside0.mk (hb)
          have n7_ := Aside0.mk (hi)
          clear HO_292001
          clear HO_305001
          clear BK287
          clear BK291
          clear BK304
          clear HK
          clear HB
          clear HI0
          have HO_292001 := n0_
          have HO_305001 := n1_
          have BK287 := n2_
          have BK291 := n3_
          have BK304 := n4_
          have HK := n5_
          have HB := n6_
          have HI0 := n7_
          clear n0_ n1_ n2_ n3_ n4_ n5_ n6_ n7_
          (try clear hb); (try clear hb2); (try clear hk); (try clear hi)
          refine hK.out _ _ ⟨(blk_cell BK291.out 0).trans rfl, (blk_cell BK291.out 1).trans rfl⟩ (fun hHeld => ?_)
          clear hK K
          refine norm_ (a' := ?_) ?_ ?_
          rotate_left
          ·show Act.put _ (some 44) _ = _
           simp only [Act.put, List.setIfInBounds_toArray, List.set_cons_zero, List.set_cons_succ, i64_w, i32_w]
           rfl
          refine on_ 5 45 (h := fun K hK => ?_)
          refine goes_ Try.func170 (by kernel_rfl) rfl #[.agg #[.int .i64 x292000_2, .slice Ao34 x292001_2.length co34], .int .i64 t308, .string t311] (by rfl) rfl rfl (by (try simp only [List.map_toArray, List.map_cons, List.map_nil]); first | done | rfl | (simp only [List.length_drop, List.length_take]; rfl)) ?_
          with_reducible refine (spec_DiskAppend.calls kj23 x292000_2 _ _ x292001_2 t308 t311 t314 t315 t318 _ ?side1 ?side2 A41.out).mono ?_
          (case side1 => repeat (first | exact (Kd.R_reads' HO_292001.out).2.2 | (with_reducible refine Kd.C_alloc ?_ _) | (with_reducible refine Kd.C_drewN ?_ _) | (with_reducible refine Kd.C_drew ?_)))
          (case side2 => exact (Kd.R_reads' HO_292001.out).2.1)
          rintro e w46 ⟨v316, rfl, ho0, hb⟩
          refine ⟨_, rfl, ?_⟩
          have HO317 := Aside0.mk (Kd.R_lower (Kd.R_new' (Kd.R_new' ho0 (Kd.R_lt (by (with_reducible repeat (first | apply Kd.R_alloc | apply Kd.R_drewN | apply Kd.R_drew)); exact HO_292001.out))) (Kd.R_lt (by (with_reducible repeat (first | apply Kd.R_alloc | apply Kd.R_drewN | apply Kd.R_drew)); exact HO_305001.out))) (keep_size (w := w) (g := g) (row := none) (by repeat (first | (with_reducible first | exact HK.out | apply KeepBut.set_ | apply keep_drewN | apply keep_drew | apply keep_alloc | refine keep_far ?_ GW287.out _ | refine keep_far ?_ GW291.out _ | refine keep_far ?_ GW304.out _) | exact HK.out))))
          replace HO_292001 := Aside0.mk (Kd.R_elder' (by (with_reducible repeat (first | apply Kd.R_alloc | apply Kd.R_drewN | apply Kd.R_drew)); exact HO_292001.out) (Kd.R_base ho0) hb)
          replace HO_305001 := Aside0.mk (Kd.R_elder' (by (with_reducible repeat (first | apply Kd.R_alloc | apply Kd.R_drewN | apply Kd.R_drew)); exact HO_305001.out) (Kd.R_base ho0) hb)
          replace BK287 := xbb BK287 hb
          replace BK291 := xbb BK291 hb
          replace BK304 := xbb BK304 hb
          replace HK := Aside0.mk (KeepBut.trans (by repeat (first | (with_reducible first | exact HK.out | apply KeepBut.set_ | apply keep_drewN | apply keep_drew | apply keep_alloc | refine keep_far ?_ GW287.out _ | refine keep_far ?_ GW291.out _ | refine keep_far ?_ GW304.out _) | exact HK.out)) (KeepBut.of_below hb g none) (.inl rfl))
          replace HB := Aside0.mk (below_step (by repeat (first | (with_reducible first | exact HB.out | apply below_alloc | apply pw_below_drewN | apply below_drew1 | refine below_set ?_ (IsS159.ge HI0.out) | refine below_set ?_ GE287.out | refine below_set ?_ GE291.out | refine below_set ?_ GE304.out) | exact HB.out)) hb)
          replace HI0 := Aside0.mk (IsS159.below (by repeat (first | (with_reducible first | exact HI0.out | apply IsS159.alloc | apply IsS159.drewN | apply IsS159.drew | apply IsS159.set_1 | apply IsS159.set_2 | refine IsS159.far ?_ NB0_287.out _ | refine IsS159.far ?_ NB0_291.out _ | refine IsS159.far ?_ NB0_304.out _) | exact HI0.out)) hb)
          (try clear hb); (try clear hb2); (try clear hk); (try clear hi); (try clear ho0)
          obtain ⟨Ao48, co48, eo48⟩ := Kd.R_slice HO317.out
          (first | subst eo48 | (injection eo48 with f1_ f2_ f3_; have f4_ := f1_.symm; have f5_ := f3_.symm; clear f1_ f2_ f3_; subst f4_; subst f5_))
          refine hK.out _ _ ⟨(blk_cell BK291.out 0).trans rfl, (blk_cell BK291.out 1).trans rfl⟩ (fun hHeld => ?_)
          clear hK K
          refine norm_ (a' := ?_) ?_ ?_
          rotate_left
          ·show Act.put _ (some 45) _ = _
           simp only [Act.put, List.setIfInBounds_toArray, List.set_cons_zero, List.set_cons_succ, i64_w, i32_w]
           rfl
          refine pv_ 6 39 (h := ?_)
          refine pv_ 7 46 (h := ?_)
          refine pv_ 8 47 (h := ?_)
          refine one_ (i := 9) (N := none) #[true, true, true, true, true, true, true, true, true, true, false] rfl rfl (one_of HT_.out (by kernel_rfl)) (by decide) (fun K hK => ?_)
          have hs47 : w46.cell? ⟨gb304, 0, none⟩ = some (.int .i64 x292000_2) := (blk_cell BK304.out 0).trans rfl
          have hfs47 := blk_frozen BK304.out 0
          have hns47_0 := NB287_304.out
          have hns47_1 := NB291_304.out
          have hms47_0 := NB304_287.out
          have hms47_1 := NB304_291.out
          have hs49 : w46.cell? ⟨gb304, 1, none⟩ = some (.slice Ao34 x292001_2.length co34) := (blk_cell BK304.out 1).trans rfl
          have hfs49 := blk_frozen BK304.out 1
          have hns49_0 := NB287_304.out
          have hns49_1 := NB291_304.out
          have hms49_0 := NB304_287.out
          have hms49_1 := NB304_291.out
          refine skip_ (w1 := ?_) (by rfl) rfl ?_ ?_
          rotate_left
          ·go_simp
           rfl
          refine hK.out _ _ ⟨((cell_far (p := ⟨gb304, _, none⟩) NB291_304.out _).trans (((cell_far (p := ⟨gb304, _, none⟩) NB291_304.out _).trans (hHeld.1)))), ((cell_far (p := ⟨gb304, _, none⟩) NB291_304.out _).trans (((cell_far (p := ⟨gb304, _, none⟩) NB291_304.out _).trans (hHeld.2))))⟩ (fun hHeld => ?_)
          clear hK K
          refine pv_ 10 6 (h := ?_)
          refine done_ (done_of HT_.out (by kernel_rfl)) ?_
          try go_wp2
          go_roundg kj23
          case measure => have := HJ3.out; have := HK2.out; have := HJ23.out; omega
          case rel => exact ⟨(wrap64 (x4_2 + 1)), (t312), (t313), (x292000_2), (x292001_2), (.slice Ao34 x292001_2.length co34), (by first | rfl | (simp; done) | (simp [*]; done)), H', ⟨by have := HJ3.out; have := HK2.out; have := HJ23.out; omega⟩, ⟨by (with_reducible repeat (first | apply Kd.R_alloc | apply Kd.R_drewN | apply Kd.R_drew)); exact Kd.R_mono (Kd.R_far (p := ⟨gb304, 1, none⟩) (Kd.R_far (p := ⟨gb304, 0, none⟩) (Kd.R_types HO_292001.out BK304.out (by decide)) (fun _ hk => hk.2) (.int .i64 t314)) (fun _ hk => hk.2) (.slice Ao48 t315.length co48)) (fun _ hk => trivial)⟩, ⟨by (with_reducible repeat (first | refine blk_drewN ?_ _ | refine blk_drew ?_ | refine blk_alloc ?_ _)); refine blk_far ?_ NB287_304.out _; (with_reducible repeat (first | refine blk_drewN ?_ _ | refine blk_drew ?_ | refine blk_alloc ?_ _)); refine blk_far ?_ NB287_304.out _; (with_reducible repeat (first | refine blk_drewN ?_ _ | refine blk_drew ?_ | refine blk_alloc ?_ _)); exact BK287.out⟩, ⟨by (with_reducible repeat (first | refine blk_drewN ?_ _ | refine blk_drew ?_ | refine blk_alloc ?_ _)); refine blk_far ?_ NB291_304.out _; (with_reducible repeat (first | refine blk_drewN ?_ _ | refine blk_drew ?_ | refine blk_alloc ?_ _)); refine blk_far ?_ NB291_304.out _; (with_reducible repeat (first | refine blk_drewN ?_ _ | refine blk_drew ?_ | refine blk_alloc ?_ _)); exact BK291.out⟩, ⟨by repeat (first | (with_reducible first | exact HI0.out | apply IsS159.alloc | apply IsS159.drewN | apply IsS159.drew | apply IsS159.set_1 | apply IsS159.set_2 | refine IsS159.far ?_ NB0_287.out _ | refine IsS159.far ?_ NB0_291.out _ | refine IsS159.far ?_ NB0_304.out _) | exact HI0.out)⟩, ⟨by repeat (first | (with_reducible first | exact HK.out | apply KeepBut.set_ | apply keep_drewN | apply keep_drew | apply keep_alloc | refine keep_far ?_ GW287.out _ | refine keep_far ?_ GW291.out _ | refine keep_far ?_ GW304.out _) | exact HK.out)⟩, ⟨by repeat (first | (with_reducible first | exact HB.out | apply below_alloc | apply pw_below_drewN | apply below_drew1 | refine below_set ?_ (IsS159.ge HI0.out) | refine below_set ?_ GE287.out | refine below_set ?_ GE291.out | refine below_set ?_ GE304.out) | exact HB.out)⟩⟩
         ·rw [if_neg c42] at H
          have c42b0 : (t318 == 1) = false := beq_eq_false_iff_ne.mpr c42
          have c42b1 : (t318 != 1) = true := bne_iff_ne.mpr c42
          have H' := Aside0.mk H
          clear H
          try go_wp2
          replace HO_292001 := Aside0.mk (Kd.R_drew HO_292001.out)
          replace HO_305001 := Aside0.mk (Kd.R_drew HO_305001.out)
          replace BK287 := Aside0.mk (blk_drew BK287.out)
          replace BK291 := Aside0.mk (blk_drew BK291.out)
          replace BK304 := Aside0.mk (blk_drew BK304.out)
          replace HI0 := Aside0.mk (IsS159.drew HI0.out)
          replace HK := Aside0.mk (keep_drew HK.out)
          replace HB := Aside0.mk (below_drew1 HB.out)
          refine start_ (n := 11) (S := fun w' => w'.cell? ⟨gb291, 0, none⟩ = some (.int .i64 x292000_2) ∧ w'.cell? ⟨gb291, 1, none⟩ = some (.slice Ao34 x292001_2.length co34)) (ds := []) #[false, false, false, false, false, false, false, false, false, false, false] (by kernel_rfl) rfl rfl ⟨(blk_cell BK291.out 0).trans rfl, (blk_cell BK291.out 1).trans rfl⟩ (fun hHeld => ?_); refine with_tabW spec_l3DrawRight.tab13 spec_l3DrawRight.bits13 (fun HT_ HW_ => ?_)
          generalize wc.drew = w50 at HO_292001 HO_305001 BK287 BK291 BK304 HI0 HK HB hHeld ⊢
          refine pv_ 1 41 (h := ?_)
          refine pv_ 3 43 (h := ?_)
          refine tk_ 0 40 (h := ?_)
          refine on_ 2 42 (h := fun K hK => ?_)
          refine goes_ Try.func93 (by kernel_rfl) rfl #[.pointer (some ⟨g, 0, none⟩), .int .i64 5] (by rfl) rfl rfl (by (try simp only [List.map_toArray, List.map_cons, List.map_nil]); first | done | rfl | (simp only [List.length_drop, List.length_take]; rfl)) ?_
          with_reducible refine (spec_l1Below.calls g s0_0 t306 t307 5 t308 t309 t310 w0 _ ?side1 ?side2 A39.out).mono ?_
          (case side1 => repeat (first | (with_reducible first | exact HI0.out | apply IsS159.alloc | apply IsS159.drewN | apply IsS159.drew | apply IsS159.set_1 | apply IsS159.set_2 | refine IsS159.far ?_ NB0_287.out _ | refine IsS159.far ?_ NB0_291.out _ | refine IsS159.far ?_ NB0_304.out _) | exact HI0.out))
          (case side2 => repeat (first | (with_reducible first | exact HB.out | apply below_alloc | apply pw_below_drewN | apply below_drew1 | refine below_set ?_ (IsS159.ge HI0.out) | refine below_set ?_ GE287.out | refine below_set ?_ GE291.out | refine below_set ?_ GE304.out) | exact HB.out))
          rintro e w51 ⟨rfl, hi, hb, hk⟩
          refine ⟨_, rfl, ?_⟩
          have n0_ := Aside0.mk (Kd.R_mono (Kd.R_keep (IsS159.apart (show IsS159 w0 _ g s0_0 t306 t307 from by repeat (first | (with_reducible first | exact HI0.out | apply IsS159.alloc | apply IsS159.drewN | apply IsS159.drew | apply IsS159.set_1 | apply IsS159.set_2 | refine IsS159.far ?_ NB0_287.out _ | refine IsS159.far ?_ NB0_291.out _ | refine IsS159.far ?_ NB0_304.out _) | exact HI0.out)) (by (with_reducible repeat (first | apply Kd.R_alloc | apply Kd.R_drewN | apply Kd.R_drew)); exact HO_292001.out) (by decide)) hk (fun _ h => h.2)) (fun _ h => h.1))
          have n1_ := Aside0.mk (Kd.R_mono (Kd.R_keep (IsS159.apart (show IsS159 w0 _ g s0_0 t306 t307 from by repeat (first | (with_reducible first | exact HI0.out | apply IsS159.alloc | apply IsS159.drewN | apply IsS159.drew | apply IsS159.set_1 | apply IsS159.set_2 | refine IsS159.far ?_ NB0_287.out _ | refine IsS159.far ?_ NB0_291.out _ | refine IsS159.far ?_ NB0_304.out _) | exact HI0.out)) (by (with_reducible repeat (first | apply Kd.R_alloc | apply Kd.R_drewN | apply Kd.R_drew)); exact HO_305001.out) (by decide)) hk (fun _ h => h.2)) (fun _ h => h.1))
          have n2_ := Aside0.mk (KeepBut.blk hk (g' := gb287) (o := .cells #[.int .i64 0, .slice none 0 0] 63 (0, 0)) xblk NB287_0.out (by simp))
          have n3_ := Aside0.mk (KeepBut.blk hk (g' := gb291) (o := .cells #[.int .i64 x292000_2, .slice Ao34 x292001_2.length co34] 63 (0, 0)) xblk NB291_0.out (by simp))
          have n4_ := Aside0.mk (KeepBut.blk hk (g' := gb304) (o := .cells #[.int .i64 x292000_2, .slice Ao34 x292001_2.length co34] 63 (0, 0)) xblk NB304_0.out (by simp))
          have n5_ := Aside0.mk (KeepBut.trans (by repeat (first | (with_reducible first | exact HK.out | apply KeepBut.set_ | apply keep_drewN | apply keep_drew | apply keep_alloc | refine keep_far ?_ GW287.out _ | refine keep_far ?_ GW291.out _ | refine keep_far ?_ GW304.out _) | exact HK.out)) hk (.inl rfl))
          have n6_ := Aside0.mk (hb)
          have n7_ := Aside0.mk (hi)
          clear HO_292001
          clear HO_305001
          clear BK287
          clear BK291
          clear BK304
          clear HK
          clear HB
          clear HI0
          have HO_292001 := n0_
          have HO_305001 := n1_
          have BK287 := n2_
          have BK291 := n3_
          have BK304 := n4_
          have HK := n5_
          have HB := n6_
          have HI0 := n7_
          clear n0_ n1_ n2_ n3_ n4_ n5_ n6_ n7_
          (try clear hb); (try clear hb2); (try clear hk); (try clear hi)
          refine hK.out _ _ ⟨(blk_cell BK291.out 0).trans rfl, (blk_cell BK291.out 1).trans rfl⟩ (fun hHeld => ?_)
          clear hK K
          refine norm_ (a' := ?_) ?_ ?_
          rotate_left
          ·show Act.put _ (some 42) _ = _
           simp only [Act.put, List.setIfInBounds_toArray, List.set_cons_zero, List.set_cons_succ, i64_w, i32_w]
           rfl
          refine on_ 4 44 (h := fun K hK => ?_)
          refine goes_ Try.func171 (by kernel_rfl) rfl #[.pointer (some ⟨g, 0, none⟩), .int .i64 8] (by rfl) rfl rfl (by (try simp only [List.map_toArray, List.map_cons, List.map_nil]); first | done | rfl | (simp only [List.length_drop, List.length_take]; rfl)) ?_
          with_reducible refine (spec_l3DrawText.calls kj23 g s0_0 t309 t310 8 t311 t312 t313 w0 _ ?side1 ?side2 A40.out).mono ?_
          (case side1 => repeat (first | (with_reducible first | exact HI0.out | apply IsS159.alloc | apply IsS159.drewN | apply IsS159.drew | apply IsS159.set_1 | apply IsS159.set_2 | refine IsS159.far ?_ NB0_287.out _ | refine IsS159.far ?_ NB0_291.out _ | refine IsS159.far ?_ NB0_304.out _) | exact HI0.out))
          (case side2 => repeat (first | (with_reducible first | exact HB.out | apply below_alloc | apply pw_below_drewN | apply below_drew1 | refine below_set ?_ (IsS159.ge HI0.out) | refine below_set ?_ GE287.out | refine below_set ?_ GE291.out | refine below_set ?_ GE304.out) | exact HB.out))
          rintro e w52 ⟨rfl, hi, hb, hk⟩
          refine ⟨_, rfl, ?_⟩
          have n0_ := Aside0.mk (Kd.R_mono (Kd.R_keep (IsS159.apart (show IsS159 w0 _ g s0_0 t309 t310 from by repeat (first | (with_reducible first | exact HI0.out | apply IsS159.alloc | apply IsS159.drewN | apply IsS159.drew | apply IsS159.set_1 | apply IsS159.set_2 | refine IsS159.far ?_ NB0_287.out _ | refine IsS159.far ?_ NB0_291.out _ | refine IsS159.far ?_ NB0_304.out _) | exact HI0.out)) (by (with_reducible repeat (first | apply Kd.R_alloc | apply Kd.R_drewN | apply Kd.R_drew)); exact HO_292001.out) (by decide)) hk (fun _ h => h.2)) (fun _ h => h.1))
          have n1_ := Aside0.mk (Kd.R_mono (Kd.R_keep (IsS159.apart (show IsS159 w0 _ g s0_0 t309 t310 from by repeat (first | (with_reducible first | exact HI0.out | apply IsS159.alloc | apply IsS159.drewN | apply IsS159.drew | apply IsS159.set_1 | apply IsS159.set_2 | refine IsS159.far ?_ NB0_287.out _ | refine IsS159.far ?_ NB0_291.out _ | refine IsS159.far ?_ NB0_304.out _) | exact HI0.out)) (by (with_reducible repeat (first | apply Kd.R_alloc | apply Kd.R_drewN | apply Kd.R_drew)); exact HO_305001.out) (by decide)) hk (fun _ h => h.2)) (fun _ h => h.1))
          have n2_ := Aside0.mk (KeepBut.blk hk (g' := gb287) (o := .cells #[.int .i64 0, .slice none 0 0] 63 (0, 0)) xblk NB287_0.out (by simp))
          have n3_ := Aside0.mk (KeepBut.blk hk (g' := gb291) (o := .cells #[.int .i64 x292000_2, .slice Ao34 x292001_2.length co34] 63 (0, 0)) xblk NB291_0.out (by simp))
          have n4_ := Aside0.mk (KeepBut.blk hk (g' := gb304) (o := .cells #[.int .i64 x292000_2, .slice Ao34 x292001_2.length co34] 63 (0, 0)) xblk NB304_0.out (by simp))
          have n5_ := Aside0.mk (KeepBut.trans (by repeat (first | (with_reducible first | exact HK.out | apply KeepBut.set_ | apply keep_drewN | apply keep_drew | apply keep_alloc | refine keep_far ?_ GW287.out _ | refine keep_far ?_ GW291.out _ | refine keep_far ?_ GW304.out _) | exact HK.out)) hk (.inl rfl))
          have n6_ := Aside0.mk (hb)
          have n7_ := Aside0.mk (hi)
          clear HO_292001
          clear HO_305001
          clear BK287
          clear BK291
          clear BK304
          clear HK
          clear HB
          clear HI0
          have HO_292001 := n0_
          have HO_305001 := n1_
          have BK287 := n2_
          have BK291 := n3_
          have BK304 := n4_
          have HK := n5_
          have HB := n6_
          have HI0 := n7_
          clear n0_ n1_ n2_ n3_ n4_ n5_ n6_ n7_
          (try clear hb); (try clear hb2); (try clear hk); (try clear hi)
          refine hK.out _ _ ⟨(blk_cell BK291.out 0).trans rfl, (blk_cell BK291.out 1).trans rfl⟩ (fun hHeld => ?_)
          clear hK K
          refine norm_ (a' := ?_) ?_ ?_
          rotate_left
          ·show Act.put _ (some 44) _ = _
           simp only [Act.put, List.setIfInBounds_toArray, List.set_cons_zero, List.set_cons_succ, i64_w, i32_w]
           rfl
          refine on_ 5 45 (h := fun K hK => ?_)
          refine goes_ Try.func170 (by kernel_rfl) rfl #[.agg #[.int .i64 x292000_2, .slice Ao34 x292001_2.length co34], .int .i64 t308, .string t311] (by rfl) rfl rfl (by (try simp only [List.map_toArray, List.map_cons, List.map_nil]); first | done | rfl | (simp only [List.length_drop, List.length_take]; rfl)) ?_
          with_reducible refine (spec_DiskAppend.calls kj23 x292000_2 _ _ x292001_2 t308 t311 t314 t315 t318 _ ?side1 ?side2 A41.out).mono ?_
          (case side1 => repeat (first | exact (Kd.R_reads' HO_292001.out).2.2 | (with_reducible refine Kd.C_alloc ?_ _) | (with_reducible refine Kd.C_drewN ?_ _) | (with_reducible refine Kd.C_drew ?_)))
          (case side2 => exact (Kd.R_reads' HO_292001.out).2.1)
          rintro e w53 ⟨v316, rfl, ho0, hb⟩
          refine ⟨_, rfl, ?_⟩
          have HO317 := Aside0.mk (Kd.R_lower (Kd.R_new' (Kd.R_new' ho0 (Kd.R_lt (by (with_reducible repeat (first | apply Kd.R_alloc | apply Kd.R_drewN | apply Kd.R_drew)); exact HO_292001.out))) (Kd.R_lt (by (with_reducible repeat (first | apply Kd.R_alloc | apply Kd.R_drewN | apply Kd.R_drew)); exact HO_305001.out))) (keep_size (w := w) (g := g) (row := none) (by repeat (first | (with_reducible first | exact HK.out | apply KeepBut.set_ | apply keep_drewN | apply keep_drew | apply keep_alloc | refine keep_far ?_ GW287.out _ | refine keep_far ?_ GW291.out _ | refine keep_far ?_ GW304.out _) | exact HK.out))))
          replace HO_292001 := Aside0.mk (Kd.R_elder' (by (with_reducible repeat (first | apply Kd.R_alloc | apply Kd.R_drewN | apply Kd.R_drew)); exact HO_292001.out) (Kd.R_base ho0) hb)
          replace HO_305001 := Aside0.mk (Kd.R_elder' (by (with_reducible repeat (first | apply Kd.R_alloc | apply Kd.R_drewN | apply Kd.R_drew)); exact HO_305001.out) (Kd.R_base ho0) hb)
          replace BK287 := xbb BK287 hb
          replace BK291 := xbb BK291 hb
          replace BK304 := xbb BK304 hb
          replace HK := Aside0.mk (KeepBut.trans (by repeat (first | (with_reducible first | exact HK.out | apply KeepBut.set_ | apply keep_drewN | apply keep_drew | apply keep_alloc | refine keep_far ?_ GW287.out _ | refine keep_far ?_ GW291.out _ | refine keep_far ?_ GW304.out _) | exact HK.out)) (KeepBut.of_below hb g none) (.inl rfl))
          replace HB := Aside0.mk (below_step (by repeat (first | (with_reducible first | exact HB.out | apply below_alloc | apply pw_below_drewN | apply below_drew1 | refine below_set ?_ (IsS159.ge HI0.out) | refine below_set ?_ GE287.out | refine below_set ?_ GE291.out | refine below_set ?_ GE304.out) | exact HB.out)) hb)
          replace HI0 := Aside0.mk (IsS159.below (by repeat (first | (with_reducible first | exact HI0.out | apply IsS159.alloc | apply IsS159.drewN | apply IsS159.drew | apply IsS159.set_1 | apply IsS159.set_2 | refine IsS159.far ?_ NB0_287.out _ | refine IsS159.far ?_ NB0_291.out _ | refine IsS159.far ?_ NB0_304.out _) | exact HI0.out)) hb)
          (try clear hb); (try clear hb2); (try clear hk); (try clear hi); (try clear ho0)
          obtain ⟨Ao55, co55, eo55⟩ := Kd.R_slice HO317.out
          (first | subst eo55 | (injection eo55 with f1_ f2_ f3_; have f4_ := f1_.symm; have f5_ := f3_.symm; clear f1_ f2_ f3_; subst f4_; subst f5_))
          refine hK.out _ _ ⟨(blk_cell BK291.out 0).trans rfl, (blk_cell BK291.out 1).trans rfl⟩ (fun hHeld => ?_)
          clear hK K
          refine norm_ (a' := ?_) ?_ ?_
          rotate_left
          ·show Act.put _ (some 45) _ = _
           simp only [Act.put, List.setIfInBounds_toArray, List.set_cons_zero, List.set_cons_succ, i64_w, i32_w]
           rfl
          refine pv_ 6 39 (h := ?_)
          refine pv_ 7 46 (h := ?_)
          refine pv_ 8 47 (h := ?_)
          refine one_ (i := 9) (N := none) #[true, true, true, true, true, true, true, true, true, true, false] rfl rfl (one_of HT_.out (by kernel_rfl)) (by decide) (fun K hK => ?_)
          have hs54 : w53.cell? ⟨gb304, 0, none⟩ = some (.int .i64 x292000_2) := (blk_cell BK304.out 0).trans rfl
          have hfs54 := blk_frozen BK304.out 0
          have hns54_0 := NB287_304.out
          have hns54_1 := NB291_304.out
          have hms54_0 := NB304_287.out
          have hms54_1 := NB304_291.out
          have hs56 : w53.cell? ⟨gb304, 1, none⟩ = some (.slice Ao34 x292001_2.length co34) := (blk_cell BK304.out 1).trans rfl
          have hfs56 := blk_frozen BK304.out 1
          have hns56_0 := NB287_304.out
          have hns56_1 := NB291_304.out
          have hms56_0 := NB304_287.out
          have hms56_1 := NB304_291.out
          refine skip_ (w1 := ?_) (by rfl) rfl ?_ ?_
          rotate_left
          ·go_simp
           rfl
          refine hK.out _ _ ⟨((cell_far (p := ⟨gb304, _, none⟩) NB291_304.out _).trans (((cell_far (p := ⟨gb304, _, none⟩) NB291_304.out _).trans (hHeld.1)))), ((cell_far (p := ⟨gb304, _, none⟩) NB291_304.out _).trans (((cell_far (p := ⟨gb304, _, none⟩) NB291_304.out _).trans (hHeld.2))))⟩ (fun hHeld => ?_)
          clear hK K
          refine pv_ 10 6 (h := ?_)
          refine done_ (done_of HT_.out (by kernel_rfl)) ?_
          have hnb57 := NB304_287.out
          have hnc57 := NB287_304.out
          have hnb58 := NB304_291.out
          have hnc58 := NB291_304.out
          have hnb59 := NB304_0.out
          have hnc59 := NB0_304.out
          have hcz60_0 : w53.cell? ⟨gb304, 0, none⟩ = some (.int .i64 x292000_2) := (blk_cell BK304.out 0).trans rfl
          have hcz60_1 : w53.cell? ⟨gb304, 1, none⟩ = some (.slice Ao34 x292001_2.length co34) := (blk_cell BK304.out 1).trans rfl
          have hfz60_0 := blk_frozen BK304.out 0
          have hfz60_1 := blk_frozen BK304.out 1
          have hnb61 := NB291_287.out
          have hnc61 := NB287_291.out
          have hnb62 := NB291_0.out
          have hnc62 := NB0_291.out
          have hcz63_0 : w53.cell? ⟨gb291, 0, none⟩ = some (.int .i64 x292000_2) := (blk_cell BK291.out 0).trans rfl
          have hcz63_1 : w53.cell? ⟨gb291, 1, none⟩ = some (.slice Ao34 x292001_2.length co34) := (blk_cell BK291.out 1).trans rfl
          have hfz63_0 := blk_frozen BK291.out 0
          have hfz63_1 := blk_frozen BK291.out 1
          try go_wp2_with (first | ((with_reducible refine gate_store (t := 63) (p := 3) rfl ?_); refine store_event (t := 63) (p := 3) (v := ?vo_w64) (w1 := ((((w53.setCell ⟨gb304, 0, none⟩ (.int .i64 t314)).setCell ⟨gb304, 1, none⟩ (.slice Ao55 t315.length co55)).setCell ⟨gb291, 0, none⟩ (.int .i64 t314)).setCell ⟨gb291, 1, none⟩ (.slice Ao55 t315.length co55))) ?hg ?ho ?hn ?hr ?_; (case ho => rfl); (case hg => rfl); (case hn => rfl); (case hr => first | (go_simp; done) | (go_simp; rfl)); intro w64 hw; replace HO_292001 : Aside0 (Kd.R k81 81 w64 w.heap.size (fun k_ => some k_ ≠ (.slice Ao55 t315.length co55 : Value).ownBlock) (.slice Ao34 x292001_2.length co34) x292001_2) := ⟨(by rw [hw]; exact (by (with_reducible repeat (first | apply Kd.R_alloc | apply Kd.R_drewN | apply Kd.R_drew)); exact Kd.R_mono (Kd.R_far (p := ⟨gb291, 1, none⟩) (Kd.R_far (p := ⟨gb291, 0, none⟩) (Kd.R_far (p := ⟨gb304, 1, none⟩) (Kd.R_far (p := ⟨gb304, 0, none⟩) (Kd.R_types (Kd.R_types HO_292001.out BK304.out (by decide)) BK291.out (by decide)) (fun _ hk => hk.1.2) (.int .i64 t314)) (fun _ hk => hk.1.2) (.slice Ao55 t315.length co55)) (fun _ hk => hk.2) (.int .i64 t314)) (fun _ hk => hk.2) (.slice Ao55 t315.length co55)) (fun _ hk => hk.1.1.2)))⟩; replace HO_305001 : Aside0 (Kd.R k81 81 w64 w.heap.size (fun k_ => some k_ ≠ (.slice Ao55 t315.length co55 : Value).ownBlock) (.slice Ao34 x292001_2.length co34) x292001_2) := ⟨(by rw [hw]; exact (by (with_reducible repeat (first | apply Kd.R_alloc | apply Kd.R_drewN | apply Kd.R_drew)); exact Kd.R_mono (Kd.R_far (p := ⟨gb291, 1, none⟩) (Kd.R_far (p := ⟨gb291, 0, none⟩) (Kd.R_far (p := ⟨gb304, 1, none⟩) (Kd.R_far (p := ⟨gb304, 0, none⟩) (Kd.R_types (Kd.R_types HO_305001.out BK304.out (by decide)) BK291.out (by decide)) (fun _ hk => hk.1.2) (.int .i64 t314)) (fun _ hk => hk.1.2) (.slice Ao55 t315.length co55)) (fun _ hk => hk.2) (.int .i64 t314)) (fun _ hk => hk.2) (.slice Ao55 t315.length co55)) (fun _ hk => hk.1.1.2)))⟩; replace HO317 : Aside0 (Kd.R k81 81 w64 w.heap.size (fun k_ => some k_ ≠ (.slice Ao34 x292001_2.length co34 : Value).ownBlock ∧ some k_ ≠ (.slice Ao34 x292001_2.length co34 : Value).ownBlock) (.slice Ao55 t315.length co55) t315) := ⟨(by rw [hw]; exact (by (with_reducible repeat (first | apply Kd.R_alloc | apply Kd.R_drewN | apply Kd.R_drew)); exact Kd.R_mono (Kd.R_far (p := ⟨gb291, 1, none⟩) (Kd.R_far (p := ⟨gb291, 0, none⟩) (Kd.R_far (p := ⟨gb304, 1, none⟩) (Kd.R_far (p := ⟨gb304, 0, none⟩) (Kd.R_types (Kd.R_types HO317.out BK304.out (by decide)) BK291.out (by decide)) (fun _ hk => hk.1.2) (.int .i64 t314)) (fun _ hk => hk.1.2) (.slice Ao55 t315.length co55)) (fun _ hk => hk.2) (.int .i64 t314)) (fun _ hk => hk.2) (.slice Ao55 t315.length co55)) (fun _ hk => ⟨hk.1.1.1.2, hk.1.1.2⟩)))⟩; replace BK287 : Aside0 (w64.heap[gb287]? = some (.cells #[.int .i64 0, .slice none 0 0] 63 (0, 0))) := ⟨(by rw [hw]; exact (by (with_reducible repeat (first | refine blk_drewN ?_ _ | refine blk_drew ?_ | refine blk_alloc ?_ _)); refine blk_far ?_ NB287_291.out _; (with_reducible repeat (first | refine blk_drewN ?_ _ | refine blk_drew ?_ | refine blk_alloc ?_ _)); refine blk_far ?_ NB287_291.out _; (with_reducible repeat (first | refine blk_drewN ?_ _ | refine blk_drew ?_ | refine blk_alloc ?_ _)); refine blk_far ?_ NB287_304.out _; (with_reducible repeat (first | refine blk_drewN ?_ _ | refine blk_drew ?_ | refine blk_alloc ?_ _)); refine blk_far ?_ NB287_304.out _; (with_reducible repeat (first | refine blk_drewN ?_ _ | refine blk_drew ?_ | refine blk_alloc ?_ _)); exact BK287.out))⟩; replace BK291 : Aside0 (w64.heap[gb291]? = some (.cells #[.int .i64 t314, .slice Ao55 t315.length co55] 63 (0, 0))) := ⟨(by rw [hw]; exact (by (with_reducible repeat (first | refine blk_drewN ?_ _ | refine blk_drew ?_ | refine blk_alloc ?_ _)); refine blk_put (cs := #[.int .i64 t314, .slice Ao34 x292001_2.length co34]) ?_ 1 _ rfl; (with_reducible repeat (first | refine blk_drewN ?_ _ | refine blk_drew ?_ | refine blk_alloc ?_ _)); refine blk_put (cs := #[.int .i64 x292000_2, .slice Ao34 x292001_2.length co34]) ?_ 0 _ rfl; (with_reducible repeat (first | refine blk_drewN ?_ _ | refine blk_drew ?_ | refine blk_alloc ?_ _)); refine blk_far ?_ NB291_304.out _; (with_reducible repeat (first | refine blk_drewN ?_ _ | refine blk_drew ?_ | refine blk_alloc ?_ _)); refine blk_far ?_ NB291_304.out _; (with_reducible repeat (first | refine blk_drewN ?_ _ | refine blk_drew ?_ | refine blk_alloc ?_ _)); exact BK291.out))⟩; replace BK304 : Aside0 (w64.heap[gb304]? = some (.cells #[.int .i64 t314, .slice Ao55 t315.length co55] 63 (0, 0))) := ⟨(by rw [hw]; exact (by (with_reducible repeat (first | refine blk_drewN ?_ _ | refine blk_drew ?_ | refine blk_alloc ?_ _)); refine blk_far ?_ NB304_291.out _; (with_reducible repeat (first | refine blk_drewN ?_ _ | refine blk_drew ?_ | refine blk_alloc ?_ _)); refine blk_far ?_ NB304_291.out _; (with_reducible repeat (first | refine blk_drewN ?_ _ | refine blk_drew ?_ | refine blk_alloc ?_ _)); refine blk_put (cs := #[.int .i64 t314, .slice Ao34 x292001_2.length co34]) ?_ 1 _ rfl; (with_reducible repeat (first | refine blk_drewN ?_ _ | refine blk_drew ?_ | refine blk_alloc ?_ _)); refine blk_put (cs := #[.int .i64 x292000_2, .slice Ao34 x292001_2.length co34]) ?_ 0 _ rfl; (with_reducible repeat (first | refine blk_drewN ?_ _ | refine blk_drew ?_ | refine blk_alloc ?_ _)); exact BK304.out))⟩; replace HK : Aside0 (KeepBut w w64 g none) := ⟨(by rw [hw]; exact (by repeat (first | (with_reducible first | exact HK.out | apply KeepBut.set_ | apply keep_drewN | apply keep_drew | apply keep_alloc | refine keep_far ?_ GW287.out _ | refine keep_far ?_ GW291.out _ | refine keep_far ?_ GW304.out _) | exact HK.out)))⟩; replace HB : Aside0 (Below w0.heap.size w0 w64) := ⟨(by rw [hw]; exact (by repeat (first | (with_reducible first | exact HB.out | apply below_alloc | apply pw_below_drewN | apply below_drew1 | refine below_set ?_ (IsS159.ge HI0.out) | refine below_set ?_ GE287.out | refine below_set ?_ GE291.out | refine below_set ?_ GE304.out) | exact HB.out)))⟩; replace HI0 : Aside0 (IsS159 w0 w64 g s0_0 t312 t313) := ⟨(by rw [hw]; exact (by repeat (first | (with_reducible first | exact HI0.out | apply IsS159.alloc | apply IsS159.drewN | apply IsS159.drew | apply IsS159.set_1 | apply IsS159.set_2 | refine IsS159.far ?_ NB0_287.out _ | refine IsS159.far ?_ NB0_291.out _ | refine IsS159.far ?_ NB0_304.out _) | exact HI0.out)))⟩; clear hw))
          go_roundg kj23
          case measure => have := HJ3.out; have := HK2.out; have := HJ23.out; omega
          case rel => exact ⟨(wrap64 (x4_2 + 1)), (t312), (t313), (t314), (t315), (.slice Ao55 t315.length co55), (by first | rfl | (simp; done) | (simp [*]; done)), H', ⟨by have := HJ3.out; have := HK2.out; have := HJ23.out; omega⟩, ⟨by (with_reducible repeat (first | apply Kd.R_alloc | apply Kd.R_drewN | apply Kd.R_drew)); exact Kd.R_mono HO317.out (fun _ hk => trivial)⟩, ⟨xblk⟩, ⟨xblk⟩, ⟨by repeat (first | (with_reducible first | exact HI0.out | apply IsS159.alloc | apply IsS159.drewN | apply IsS159.drew | apply IsS159.set_1 | apply IsS159.set_2 | refine IsS159.far ?_ NB0_287.out _ | refine IsS159.far ?_ NB0_291.out _ | refine IsS159.far ?_ NB0_304.out _) | exact HI0.out)⟩, ⟨by repeat (first | (with_reducible first | exact HK.out | apply KeepBut.set_ | apply keep_drewN | apply keep_drew | apply keep_alloc | refine keep_far ?_ GW287.out _ | refine keep_far ?_ GW291.out _ | refine keep_far ?_ GW304.out _) | exact HK.out)⟩, ⟨by repeat (first | (with_reducible first | exact HB.out | apply below_alloc | apply pw_below_drewN | apply below_drew1 | refine below_set ?_ (IsS159.ge HI0.out) | refine below_set ?_ GE287.out | refine below_set ?_ GE291.out | refine below_set ?_ GE304.out) | exact HB.out)⟩⟩
        ·replace c38 := Bool.eq_false_iff.mpr c38
         subst c38
         have H1 : (if t305 = 3 then ((spec_l1Below.f s0_0 t306 t307 5).bind fun bt319 => ((spec_DiskSync.f kj23 x292000_2 x292001_2 bt319.1).bind fun bt322 => (if bt322.2.2 = 1 then (spec_l3DrawRight.l0 kj23 (wrap64 (x4_2 + 1)) s0_0 bt319.2.1 bt319.2.2 x292000_2 x292001_2) else (spec_l3DrawRight.l0 kj23 (wrap64 (x4_2 + 1)) s0_0 bt319.2.1 bt319.2.2 bt322.1 bt322.2.1)))) else ((spec_l1Below.f s0_0 t306 t307 5).bind fun bt327 => ((spec_l1Below.f s0_0 bt327.2.1 bt327.2.2 8).bind fun bt330 => ((spec_DiskMove.f kj23 x292000_2 x292001_2 bt327.1 bt330.1).bind fun bt333 => (if bt333.2.2 = 1 then (spec_l3DrawRight.l0 kj23 (wrap64 (x4_2 + 1)) s0_0 bt330.2.1 bt330.2.2 x292000_2 x292001_2) else (spec_l3DrawRight.l0 kj23 (wrap64 (x4_2 + 1)) s0_0 bt330.2.1 bt330.2.2 bt333.1 bt333.2.1)))))) = some (r1, r2, r3, r4) := by rw [if_neg (show ¬ (false = true) by decide)] at H; exact H
         clear H
         have H := H1
         clear H1
         by_cases c65 : t305 = 3
         ·rw [if_pos c65] at H
          have c65b0 : (t305 == 3) = true := beq_iff_eq.mpr c65
          have c65b1 : (t305 != 3) = false := bne_eq_false_iff_eq.mpr c65
          clear c65
          replace H := Option.bind_eq_some_iff.mp H
          obtain ⟨⟨t319, t320, t321⟩, A660, H⟩ := H
          replace H : ((spec_DiskSync.f kj23 x292000_2 x292001_2 t319).bind fun bt322 => (if bt322.2.2 = 1 then (spec_l3DrawRight.l0 kj23 (wrap64 (x4_2 + 1)) s0_0 t320 t321 x292000_2 x292001_2) else (spec_l3DrawRight.l0 kj23 (wrap64 (x4_2 + 1)) s0_0 t320 t321 bt322.1 bt322.2.1))) = some (r1, r2, r3, r4) := H
          have A66 := Aside0.mk A660
          clear A660
          replace H := Option.bind_eq_some_iff.mp H
          obtain ⟨⟨t322, t323, t326⟩, A670, H⟩ := H
          replace H : (if t326 = 1 then (spec_l3DrawRight.l0 kj23 (wrap64 (x4_2 + 1)) s0_0 t320 t321 x292000_2 x292001_2) else (spec_l3DrawRight.l0 kj23 (wrap64 (x4_2 + 1)) s0_0 t320 t321 t322 t323)) = some (r1, r2, r3, r4) := H
          have A67 := Aside0.mk A670
          clear A670
          by_cases c68 : t326 = 1
          ·rw [if_pos c68] at H
           have c68b0 : (t326 == 1) = true := beq_iff_eq.mpr c68
           have c68b1 : (t326 != 1) = false := bne_eq_false_iff_eq.mpr c68
           clear c68
           have H' := Aside0.mk H
           clear H
           try go_wp2
           replace HO_292001 := Aside0.mk (Kd.R_drew HO_292001.out)
           replace HO_305001 := Aside0.mk (Kd.R_drew HO_305001.out)
           replace BK287 := Aside0.mk (blk_drew BK287.out)
           replace BK291 := Aside0.mk (blk_drew BK291.out)
           replace BK304 := Aside0.mk (blk_drew BK304.out)
           replace HI0 := Aside0.mk (IsS159.drew HI0.out)
           replace HK := Aside0.mk (keep_drew HK.out)
           replace HB := Aside0.mk (below_drew1 HB.out)
           refine start_ (n := 9) (S := fun w' => w'.cell? ⟨gb291, 0, none⟩ = some (.int .i64 x292000_2) ∧ w'.cell? ⟨gb291, 1, none⟩ = some (.slice Ao34 x292001_2.length co34)) (ds := []) #[false, false, false, false, false, false, false, false, false] (by kernel_rfl) rfl rfl ⟨(blk_cell BK291.out 0).trans rfl, (blk_cell BK291.out 1).trans rfl⟩ (fun hHeld => ?_); refine with_tabW spec_l3DrawRight.tab15 spec_l3DrawRight.bits15 (fun HT_ HW_ => ?_)
           generalize wc.drew = w69 at HO_292001 HO_305001 BK287 BK291 BK304 HI0 HK HB hHeld ⊢
           refine pv_ 1 52 (h := ?_)
           refine tk_ 0 51 (h := ?_)
           refine on_ 2 53 (h := fun K hK => ?_)
           refine goes_ Try.func93 (by kernel_rfl) rfl #[.pointer (some ⟨g, 0, none⟩), .int .i64 5] (by rfl) rfl rfl (by (try simp only [List.map_toArray, List.map_cons, List.map_nil]); first | done | rfl | (simp only [List.length_drop, List.length_take]; rfl)) ?_
           with_reducible refine (spec_l1Below.calls g s0_0 t306 t307 5 t319 t320 t321 w0 _ ?side1 ?side2 A66.out).mono ?_
           (case side1 => repeat (first | (with_reducible first | exact HI0.out | apply IsS159.alloc | apply IsS159.drewN | apply IsS159.drew | apply IsS159.set_1 | apply IsS159.set_2 | refine IsS159.far ?_ NB0_287.out _ | refine IsS159.far ?_ NB0_291.out _ | refine IsS159.far ?_ NB0_304.out _) | exact HI0.out))
           (case side2 => repeat (first | (with_reducible first | exact HB.out | apply below_alloc | apply pw_below_drewN | apply below_drew1 | refine below_set ?_ (IsS159.ge HI0.out) | refine below_set ?_ GE287.out | refine below_set ?_ GE291.out | refine below_set ?_ GE304.out) | exact HB.out))
           rintro e w70 ⟨rfl, hi, hb, hk⟩
           refine ⟨_, rfl, ?_⟩
           have n0_ := Aside0.mk (Kd.R_mono (Kd.R_keep (IsS159.apart (show IsS159 w0 _ g s0_0 t306 t307 from by repeat (first | (with_reducible first | exact HI0.out | apply IsS159.alloc | apply IsS159.drewN | apply IsS159.drew | apply IsS159.set_1 | apply IsS159.set_2 | refine IsS159.far ?_ NB0_287.out _ | refine IsS159.far ?_ NB0_291.out _ | refine IsS159.far ?_ NB0_304.out _) | exact HI0.out)) (by (with_reducible repeat (first | apply Kd.R_alloc | apply Kd.R_drewN | apply Kd.R_drew)); exact HO_292001.out) (by decide)) hk (fun _ h => h.2)) (fun _ h => h.1))
           have n1_ := Aside0.mk (Kd.R_mono (Kd.R_keep (IsS159.apart (show IsS159 w0 _ g s0_0 t306 t307 from by repeat (first | (with_reducible first | exact HI0.out | apply IsS159.alloc | apply IsS159.drewN | apply IsS159.drew | apply IsS159.set_1 | apply IsS159.set_2 | refine IsS159.far ?_ NB0_287.out _ | refine IsS159.far ?_ NB0_291.out _ | refine IsS159.far ?_ NB0_304.out _) | exact HI0.out)) (by (with_reducible repeat (first | apply Kd.R_alloc | apply Kd.R_drewN | apply Kd.R_drew)); exact HO_305001.out) (by decide)) hk (fun _ h => h.2)) (fun _ h => h.1))
           have n2_ := Aside0.mk (KeepBut.blk hk (g' := gb287) (o := .cells #[.int .i64 0, .slice none 0 0] 63 (0, 0)) xblk NB287_0.out (by simp))
           have n3_ := Aside0.mk (KeepBut.blk hk (g' := gb291) (o := .cells #[.int .i64 x292000_2, .slice Ao34 x292001_2.length co34] 63 (0, 0)) xblk NB291_0.out (by simp))
           have n4_ := Aside0.mk (KeepBut.blk hk (g' := gb304) (o := .cells #[.int .i64 x292000_2, .slice Ao34 x292001_2.length co34] 63 (0, 0)) xblk NB304_0.out (by simp))
           have n5_ := Aside0.mk (KeepBut.trans (by repeat (first | (with_reducible first | exact HK.out | apply KeepBut.set_ | apply keep_drewN | apply keep_drew | apply keep_alloc | refine keep_far ?_ GW287.out _ | refine keep_far ?_ GW291.out _ | refine keep_far ?_ GW304.out _) | exact HK.out)) hk (.inl rfl))
           have n6_ := Aside0.mk (hb)
           have n7_ := Aside0.mk (hi)
           clear HO_292001
           clear HO_305001
           clear BK287
           clear BK291
           clear BK304
           clear HK
           clear HB
           clear HI0
           have HO_292001 := n0_
           have HO_305001 := n1_
           have BK287 := n2_
           have BK291 := n3_
           have BK304 := n4_
           have HK := n5_
           have HB := n6_
           have HI0 := n7_
           clear n0_ n1_ n2_ n3_ n4_ n5_ n6_ n7_
           (try clear hb); (try clear hb2); (try clear hk); (try clear hi)
           refine hK.out _ _ ⟨(blk_cell BK291.out 0).trans rfl, (blk_cell BK291.out 1).trans rfl⟩ (fun hHeld => ?_)
           clear hK K
           refine norm_ (a' := ?_) ?_ ?_
           rotate_left
           ·show Act.put _ (some 53) _ = _
            simp only [Act.put, List.setIfInBounds_toArray, List.set_cons_zero, List.set_cons_succ, i64_w, i32_w]
            rfl
           refine on_ 3 54 (h := fun K hK => ?_)
           refine goes_ Try.func33 (by kernel_rfl) rfl #[.agg #[.int .i64 x292000_2, .slice Ao34 x292001_2.length co34], .int .i64 t319] (by rfl) rfl rfl (by (try simp only [List.map_toArray, List.map_cons, List.map_nil]); first | done | rfl | (simp only [List.length_drop, List.length_take]; rfl)) ?_
           with_reducible refine (spec_DiskSync.calls kj23 x292000_2 _ _ x292001_2 t319 t322 t323 t326 _ ?side1 ?side2 A67.out).mono ?_
           (case side1 => repeat (first | exact (Kd.R_reads' HO_292001.out).2.2 | (with_reducible refine Kd.C_alloc ?_ _) | (with_reducible refine Kd.C_drewN ?_ _) | (with_reducible refine Kd.C_drew ?_)))
           (case side2 => exact (Kd.R_reads' HO_292001.out).2.1)
           rintro e w71 ⟨v324, rfl, ho0, hb⟩
           refine ⟨_, rfl, ?_⟩
           have HO325 := Aside0.mk (Kd.R_lower (Kd.R_new' (Kd.R_new' ho0 (Kd.R_lt (by (with_reducible repeat (first | apply Kd.R_alloc | apply Kd.R_drewN | apply Kd.R_drew)); exact HO_292001.out))) (Kd.R_lt (by (with_reducible repeat (first | apply Kd.R_alloc | apply Kd.R_drewN | apply Kd.R_drew)); exact HO_305001.out))) (keep_size (w := w) (g := g) (row := none) (by repeat (first | (with_reducible first | exact HK.out | apply KeepBut.set_ | apply keep_drewN | apply keep_drew | apply keep_alloc | refine keep_far ?_ GW287.out _ | refine keep_far ?_ GW291.out _ | refine keep_far ?_ GW304.out _) | exact HK.out))))
           replace HO_292001 := Aside0.mk (Kd.R_elder' (by (with_reducible repeat (first | apply Kd.R_alloc | apply Kd.R_drewN | apply Kd.R_drew)); exact HO_292001.out) (Kd.R_base ho0) hb)
           replace HO_305001 := Aside0.mk (Kd.R_elder' (by (with_reducible repeat (first | apply Kd.R_alloc | apply Kd.R_drewN | apply Kd.R_drew)); exact HO_305001.out) (Kd.R_base ho0) hb)
           replace BK287 := xbb BK287 hb
           replace BK291 := xbb BK291 hb
           replace BK304 := xbb BK304 hb
           replace HK := Aside0.mk (KeepBut.trans (by repeat (first | (with_reducible first | exact HK.out | apply KeepBut.set_ | apply keep_drewN | apply keep_drew | apply keep_alloc | refine keep_far ?_ GW287.out _ | refine keep_far ?_ GW291.out _ | refine keep_far ?_ GW304.out _) | exact HK.out)) (KeepBut.of_below hb g none) (.inl rfl))
           replace HB := Aside0.mk (below_step (by repeat (first | (with_reducible first | exact HB.out | apply below_alloc | apply pw_below_drewN | apply below_drew1 | refine below_set ?_ (IsS159.ge HI0.out) | refine below_set ?_ GE287.out | refine below_set ?_ GE291.out | refine below_set ?_ GE304.out) | exact HB.out)) hb)
           replace HI0 := Aside0.mk (IsS159.below (by repeat (first | (with_reducible first | exact HI0.out | apply IsS159.alloc | apply IsS159.drewN | apply IsS159.drew | apply IsS159.set_1 | apply IsS159.set_2 | refine IsS159.far ?_ NB0_287.out _ | refine IsS159.far ?_ NB0_291.out _ | refine IsS159.far ?_ NB0_304.out _) | exact HI0.out)) hb)
           (try clear hb); (try clear hb2); (try clear hk); (try clear hi); (try clear ho0)
           obtain ⟨Ao73, co73, eo73⟩ := Kd.R_slice HO325.out
           (first | subst eo73 | (injection eo73 with f1_ f2_ f3_; have f4_ := f1_.symm; have f5_ := f3_.symm; clear f1_ f2_ f3_; subst f4_; subst f5_))
           refine hK.out _ _ ⟨(blk_cell BK291.out 0).trans rfl, (blk_cell BK291.out 1).trans rfl⟩ (fun hHeld => ?_)
           clear hK K
           refine norm_ (a' := ?_) ?_ ?_
           rotate_left
           ·show Act.put _ (some 54) _ = _
            simp only [Act.put, List.setIfInBounds_toArray, List.set_cons_zero, List.set_cons_succ, i64_w, i32_w]
            rfl
           refine pv_ 4 50 (h := ?_)
           refine pv_ 5 55 (h := ?_)
           refine pv_ 6 56 (h := ?_)
           refine one_ (i := 7) (N := none) #[true, true, true, true, true, true, true, true, false] rfl rfl (one_of HT_.out (by kernel_rfl)) (by decide) (fun K hK => ?_)
           have hs72 : w71.cell? ⟨gb304, 0, none⟩ = some (.int .i64 x292000_2) := (blk_cell BK304.out 0).trans rfl
           have hfs72 := blk_frozen BK304.out 0
           have hns72_0 := NB287_304.out
           have hns72_1 := NB291_304.out
           have hms72_0 := NB304_287.out
           have hms72_1 := NB304_291.out
           have hs74 : w71.cell? ⟨gb304, 1, none⟩ = some (.slice Ao34 x292001_2.length co34) := (blk_cell BK304.out 1).trans rfl
           have hfs74 := blk_frozen BK304.out 1
           have hns74_0 := NB287_304.out
           have hns74_1 := NB291_304.out
           have hms74_0 := NB304_287.out
           have hms74_1 := NB304_291.out
           refine skip_ (w1 := ?_) (by rfl) rfl ?_ ?_
           rotate_left
           ·go_simp
            rfl
           refine hK.out _ _ ⟨((cell_far (p := ⟨gb304, _, none⟩) NB291_304.out _).trans (((cell_far (p := ⟨gb304, _, none⟩) NB291_304.out _).trans (hHeld.1)))), ((cell_far (p := ⟨gb304, _, none⟩) NB291_304.out _).trans (((cell_far (p := ⟨gb304, _, none⟩) NB291_304.out _).trans (hHeld.2))))⟩ (fun hHeld => ?_)
           clear hK K
           refine pv_ 8 6 (h := ?_)
           refine done_ (done_of HT_.out (by kernel_rfl)) ?_
           try go_wp2
           go_roundg kj23
           case measure => have := HJ3.out; have := HK2.out; have := HJ23.out; omega
           case rel => exact ⟨(wrap64 (x4_2 + 1)), (t320), (t321), (x292000_2), (x292001_2), (.slice Ao34 x292001_2.length co34), (by first | rfl | (simp; done) | (simp [*]; done)), H', ⟨by have := HJ3.out; have := HK2.out; have := HJ23.out; omega⟩, ⟨by (with_reducible repeat (first | apply Kd.R_alloc | apply Kd.R_drewN | apply Kd.R_drew)); exact Kd.R_mono (Kd.R_far (p := ⟨gb304, 1, none⟩) (Kd.R_far (p := ⟨gb304, 0, none⟩) (Kd.R_types HO_292001.out BK304.out (by decide)) (fun _ hk => hk.2) (.int .i64 t322)) (fun _ hk => hk.2) (.slice Ao73 t323.length co73)) (fun _ hk => trivial)⟩, ⟨by (with_reducible repeat (first | refine blk_drewN ?_ _ | refine blk_drew ?_ | refine blk_alloc ?_ _)); refine blk_far ?_ NB287_304.out _; (with_reducible repeat (first | refine blk_drewN ?_ _ | refine blk_drew ?_ | refine blk_alloc ?_ _)); refine blk_far ?_ NB287_304.out _; (with_reducible repeat (first | refine blk_drewN ?_ _ | refine blk_drew ?_ | refine blk_alloc ?_ _)); exact BK287.out⟩, ⟨by (with_reducible repeat (first | refine blk_drewN ?_ _ | refine blk_drew ?_ | refine blk_alloc ?_ _)); refine blk_far ?_ NB291_304.out _; (with_reducible repeat (first | refine blk_drewN ?_ _ | refine blk_drew ?_ | refine blk_alloc ?_ _)); refine blk_far ?_ NB291_304.out _; (with_reducible repeat (first | refine blk_drewN ?_ _ | refine blk_drew ?_ | refine blk_alloc ?_ _)); exact BK291.out⟩, ⟨by repeat (first | (with_reducible first | exact HI0.out | apply IsS159.alloc | apply IsS159.drewN | apply IsS159.drew | apply IsS159.set_1 | apply IsS159.set_2 | refine IsS159.far ?_ NB0_287.out _ | refine IsS159.far ?_ NB0_291.out _ | refine IsS159.far ?_ NB0_304.out _) | exact HI0.out)⟩, ⟨by repeat (first | (with_reducible first | exact HK.out | apply KeepBut.set_ | apply keep_drewN | apply keep_drew | apply keep_alloc | refine keep_far ?_ GW287.out _ | refine keep_far ?_ GW291.out _ | refine keep_far ?_ GW304.out _) | exact HK.out)⟩, ⟨by repeat (first | (with_reducible first | exact HB.out | apply below_alloc | apply pw_below_drewN | apply below_drew1 | refine below_set ?_ (IsS159.ge HI0.out) | refine below_set ?_ GE287.out | refine below_set ?_ GE291.out | refine below_set ?_ GE304.out) | exact HB.out)⟩⟩
          ·rw [if_neg c68] at H
           have c68b0 : (t326 == 1) = false := beq_eq_false_iff_ne.mpr c68
           have c68b1 : (t326 != 1) = true := bne_iff_ne.mpr c68
           have H' := Aside0.mk H
           clear H
           try go_wp2
           replace HO_292001 := Aside0.mk (Kd.R_drew HO_292001.out)
           replace HO_305001 := Aside0.mk (Kd.R_drew HO_305001.out)
           replace BK287 := Aside0.mk (blk_drew BK287.out)
           replace BK291 := Aside0.mk (blk_drew BK291.out)
           replace BK304 := Aside0.mk (blk_drew BK304.out)
           replace HI0 := Aside0.mk (IsS159.drew HI0.out)
           replace HK := Aside0.mk (keep_drew HK.out)
           replace HB := Aside0.mk (below_drew1 HB.out)
           refine start_ (n := 9) (S := fun w' => w'.cell? ⟨gb291, 0, none⟩ = some (.int .i64 x292000_2) ∧ w'.cell? ⟨gb291, 1, none⟩ = some (.slice Ao34 x292001_2.length co34)) (ds := []) #[false, false, false, false, false, false, false, false, false] (by kernel_rfl) rfl rfl ⟨(blk_cell BK291.out 0).trans rfl, (blk_cell BK291.out 1).trans rfl⟩ (fun hHeld => ?_); refine with_tabW spec_l3DrawRight.tab15 spec_l3DrawRight.bits15 (fun HT_ HW_ => ?_)
           generalize wc.drew = w75 at HO_292001 HO_305001 BK287 BK291 BK304 HI0 HK HB hHeld ⊢
           refine pv_ 1 52 (h := ?_)
           refine tk_ 0 51 (h := ?_)
           refine on_ 2 53 (h := fun K hK => ?_)
           refine goes_ Try.func93 (by kernel_rfl) rfl #[.pointer (some ⟨g, 0, none⟩), .int .i64 5] (by rfl) rfl rfl (by (try simp only [List.map_toArray, List.map_cons, List.map_nil]); first | done | rfl | (simp only [List.length_drop, List.length_take]; rfl)) ?_
           with_reducible refine (spec_l1Below.calls g s0_0 t306 t307 5 t319 t320 t321 w0 _ ?side1 ?side2 A66.out).mono ?_
           (case side1 => repeat (first | (with_reducible first | exact HI0.out | apply IsS159.alloc | apply IsS159.drewN | apply IsS159.drew | apply IsS159.set_1 | apply IsS159.set_2 | refine IsS159.far ?_ NB0_287.out _ | refine IsS159.far ?_ NB0_291.out _ | refine IsS159.far ?_ NB0_304.out _) | exact HI0.out))
           (case side2 => repeat (first | (with_reducible first | exact HB.out | apply below_alloc | apply pw_below_drewN | apply below_drew1 | refine below_set ?_ (IsS159.ge HI0.out) | refine below_set ?_ GE287.out | refine below_set ?_ GE291.out | refine below_set ?_ GE304.out) | exact HB.out))
           rintro e w76 ⟨rfl, hi, hb, hk⟩
           refine ⟨_, rfl, ?_⟩
           have n0_ := Aside0.mk (Kd.R_mono (Kd.R_keep (IsS159.apart (show IsS159 w0 _ g s0_0 t306 t307 from by repeat (first | (with_reducible first | exact HI0.out | apply IsS159.alloc | apply IsS159.drewN | apply IsS159.drew | apply IsS159.set_1 | apply IsS159.set_2 | refine IsS159.far ?_ NB0_287.out _ | refine IsS159.far ?_ NB0_291.out _ | refine IsS159.far ?_ NB0_304.out _) | exact HI0.out)) (by (with_reducible repeat (first | apply Kd.R_alloc | apply Kd.R_drewN | apply Kd.R_drew)); exact HO_292001.out) (by decide)) hk (fun _ h => h.2)) (fun _ h => h.1))
           have n1_ := Aside0.mk (Kd.R_mono (Kd.R_keep (IsS159.apart (show IsS159 w0 _ g s0_0 t306 t307 from by repeat (first | (with_reducible first | exact HI0.out | apply IsS159.alloc | apply IsS159.drewN | apply IsS159.drew | apply IsS159.set_1 | apply IsS159.set_2 | refine IsS159.far ?_ NB0_287.out _ | refine IsS159.far ?_ NB0_291.out _ | refine IsS159.far ?_ NB0_304.out _) | exact HI0.out)) (by (with_reducible repeat (first | apply Kd.R_alloc | apply Kd.R_drewN | apply Kd.R_drew)); exact HO_305001.out) (by decide)) hk (fun _ h => h.2)) (fun _ h => h.1))
           have n2_ := Aside0.mk (KeepBut.blk hk (g' := gb287) (o := .cells #[.int .i64 0, .slice none 0 0] 63 (0, 0)) xblk NB287_0.out (by simp))
           have n3_ := Aside0.mk (KeepBut.blk hk (g' := gb291) (o := .cells #[.int .i64 x292000_2, .slice Ao34 x292001_2.length co34] 63 (0, 0)) xblk NB291_0.out (by simp))
           have n4_ := Aside0.mk (KeepBut.blk hk (g' := gb304) (o := .cells #[.int .i64 x292000_2, .slice Ao34 x292001_2.length co34] 63 (0, 0)) xblk NB304_0.out (by simp))
           have n5_ := Aside0.mk (KeepBut.trans (by repeat (first | (with_reducible first | exact HK.out | apply KeepBut.set_ | apply keep_drewN | apply keep_drew | apply keep_alloc | refine keep_far ?_ GW287.out _ | refine keep_far ?_ GW291.out _ | refine keep_far ?_ GW304.out _) | exact HK.out)) hk (.inl rfl))
           have n6_ := Aside0.mk (hb)
           have n7_ := Aside0.mk (hi)
           clear HO_292001
           clear HO_305001
           clear BK287
           clear BK291
           clear BK304
           clear HK
           clear HB
           clear HI0
           have HO_292001 := n0_
           have HO_305001 := n1_
           have BK287 := n2_
           have BK291 := n3_
           have BK304 := n4_
           have HK := n5_
           have HB := n6_
           have HI0 := n7_
           clear n0_ n1_ n2_ n3_ n4_ n5_ n6_ n7_
           (try clear hb); (try clear hb2); (try clear hk); (try clear hi)
           refine hK.out _ _ ⟨(blk_cell BK291.out 0).trans rfl, (blk_cell BK291.out 1).trans rfl⟩ (fun hHeld => ?_)
           clear hK K
           refine norm_ (a' := ?_) ?_ ?_
           rotate_left
           ·show Act.put _ (some 53) _ = _
            simp only [Act.put, List.setIfInBounds_toArray, List.set_cons_zero, List.set_cons_succ, i64_w, i32_w]
            rfl
           refine on_ 3 54 (h := fun K hK => ?_)
           refine goes_ Try.func33 (by kernel_rfl) rfl #[.agg #[.int .i64 x292000_2, .slice Ao34 x292001_2.length co34], .int .i64 t319] (by rfl) rfl rfl (by (try simp only [List.map_toArray, List.map_cons, List.map_nil]); first | done | rfl | (simp only [List.length_drop, List.length_take]; rfl)) ?_
           with_reducible refine (spec_DiskSync.calls kj23 x292000_2 _ _ x292001_2 t319 t322 t323 t326 _ ?side1 ?side2 A67.out).mono ?_
           (case side1 => repeat (first | exact (Kd.R_reads' HO_292001.out).2.2 | (with_reducible refine Kd.C_alloc ?_ _) | (with_reducible refine Kd.C_drewN ?_ _) | (with_reducible refine Kd.C_drew ?_)))
           (case side2 => exact (Kd.R_reads' HO_292001.out).2.1)
           rintro e w77 ⟨v324, rfl, ho0, hb⟩
           refine ⟨_, rfl, ?_⟩
           have HO325 := Aside0.mk (Kd.R_lower (Kd.R_new' (Kd.R_new' ho0 (Kd.R_lt (by (with_reducible repeat (first | apply Kd.R_alloc | apply Kd.R_drewN | apply Kd.R_drew)); exact HO_292001.out))) (Kd.R_lt (by (with_reducible repeat (first | apply Kd.R_alloc | apply Kd.R_drewN | apply Kd.R_drew)); exact HO_305001.out))) (keep_size (w := w) (g := g) (row := none) (by repeat (first | (with_reducible first | exact HK.out | apply KeepBut.set_ | apply keep_drewN | apply keep_drew | apply keep_alloc | refine keep_far ?_ GW287.out _ | refine keep_far ?_ GW291.out _ | refine keep_far ?_ GW304.out _) | exact HK.out))))
           replace HO_292001 := Aside0.mk (Kd.R_elder' (by (with_reducible repeat (first | apply Kd.R_alloc | apply Kd.R_drewN | apply Kd.R_drew)); exact HO_292001.out) (Kd.R_base ho0) hb)
           replace HO_305001 := Aside0.mk (Kd.R_elder' (by (with_reducible repeat (first | apply Kd.R_alloc | apply Kd.R_drewN | apply Kd.R_drew)); exact HO_305001.out) (Kd.R_base ho0) hb)
           replace BK287 := xbb BK287 hb
           replace BK291 := xbb BK291 hb
           replace BK304 := xbb BK304 hb
           replace HK := Aside0.mk (KeepBut.trans (by repeat (first | (with_reducible first | exact HK.out | apply KeepBut.set_ | apply keep_drewN | apply keep_drew | apply keep_alloc | refine keep_far ?_ GW287.out _ | refine keep_far ?_ GW291.out _ | refine keep_far ?_ GW304.out _) | exact HK.out)) (KeepBut.of_below hb g none) (.inl rfl))
           replace HB := Aside0.mk (below_step (by repeat (first | (with_reducible first | exact HB.out | apply below_alloc | apply pw_below_drewN | apply below_drew1 | refine below_set ?_ (IsS159.ge HI0.out) | refine below_set ?_ GE287.out | refine below_set ?_ GE291.out | refine below_set ?_ GE304.out) | exact HB.out)) hb)
           replace HI0 := Aside0.mk (IsS159.below (by repeat (first | (with_reducible first | exact HI0.out | apply IsS159.alloc | apply IsS159.drewN | apply IsS159.drew | apply IsS159.set_1 | apply IsS159.set_2 | refine IsS159.far ?_ NB0_287.out _ | refine IsS159.far ?_ NB0_291.out _ | refine IsS159.far ?_ NB0_304.out _) | exact HI0.out)) hb)
           (try clear hb); (try clear hb2); (try clear hk); (try clear hi); (try clear ho0)
           obtain ⟨Ao79, co79, eo79⟩ := Kd.R_slice HO325.out
           (first | subst eo79 | (injection eo79 with f1_ f2_ f3_; have f4_ := f1_.symm; have f5_ := f3_.symm; clear f1_ f2_ f3_; subst f4_; subst f5_))
           refine hK.out _ _ ⟨(blk_cell BK291.out 0).trans rfl, (blk_cell BK291.out 1).trans rfl⟩ (fun hHeld => ?_)
           clear hK K
           refine norm_ (a' := ?_) ?_ ?_
           rotate_left
           ·show Act.put _ (some 54) _ = _
            simp only [Act.put, List.setIfInBounds_toArray, List.set_cons_zero, List.set_cons_succ, i64_w, i32_w]
            rfl
           refine pv_ 4 50 (h := ?_)
           refine pv_ 5 55 (h := ?_)
           refine pv_ 6 56 (h := ?_)
           refine one_ (i := 7) (N := none) #[true, true, true, true, true, true, true, true, false] rfl rfl (one_of HT_.out (by kernel_rfl)) (by decide) (fun K hK => ?_)
           have hs78 : w77.cell? ⟨gb304, 0, none⟩ = some (.int .i64 x292000_2) := (blk_cell BK304.out 0).trans rfl
           have hfs78 := blk_frozen BK304.out 0
           have hns78_0 := NB287_304.out
           have hns78_1 := NB291_304.out
           have hms78_0 := NB304_287.out
           have hms78_1 := NB304_291.out
           have hs80 : w77.cell? ⟨gb304, 1, none⟩ = some (.slice Ao34 x292001_2.length co34) := (blk_cell BK304.out 1).trans rfl
           have hfs80 := blk_frozen BK304.out 1
           have hns80_0 := NB287_304.out
           have hns80_1 := NB291_304.out
           have hms80_0 := NB304_287.out
           have hms80_1 := NB304_291.out
           refine skip_ (w1 := ?_) (by rfl) rfl ?_ ?_
           rotate_left
           ·go_simp
            rfl
           refine hK.out _ _ ⟨((cell_far (p := ⟨gb304, _, none⟩) NB291_304.out _).trans (((cell_far (p := ⟨gb304, _, none⟩) NB291_304.out _).trans (hHeld.1)))), ((cell_far (p := ⟨gb304, _, none⟩) NB291_304.out _).trans (((cell_far (p := ⟨gb304, _, none⟩) NB291_304.out _).trans (hHeld.2))))⟩ (fun hHeld => ?_)
           clear hK K
           refine pv_ 8 6 (h := ?_)
           refine done_ (done_of HT_.out (by kernel_rfl)) ?_
           have hnb81 := NB304_287.out
           have hnc81 := NB287_304.out
           have hnb82 := NB304_291.out
           have hnc82 := NB291_304.out
           have hnb83 := NB304_0.out
           have hnc83 := NB0_304.out
           have hcz84_0 : w77.cell? ⟨gb304, 0, none⟩ = some (.int .i64 x292000_2) := (blk_cell BK304.out 0).trans rfl
           have hcz84_1 : w77.cell? ⟨gb304, 1, none⟩ = some (.slice Ao34 x292001_2.length co34) := (blk_cell BK304.out 1).trans rfl
           have hfz84_0 := blk_frozen BK304.out 0
           have hfz84_1 := blk_frozen BK304.out 1
           have hnb85 := NB291_287.out
           have hnc85 := NB287_291.out
           have hnb86 := NB291_0.out
           have hnc86 := NB0_291.out
           have hcz87_0 : w77.cell? ⟨gb291, 0, none⟩ = some (.int .i64 x292000_2) := (blk_cell BK291.out 0).trans rfl
           have hcz87_1 : w77.cell? ⟨gb291, 1, none⟩ = some (.slice Ao34 x292001_2.length co34) := (blk_cell BK291.out 1).trans rfl
           have hfz87_0 := blk_frozen BK291.out 0
           have hfz87_1 := blk_frozen BK291.out 1
           try go_wp2_with (first | ((with_reducible refine gate_store (t := 63) (p := 3) rfl ?_); refine store_event (t := 63) (p := 3) (v := ?vo_w88) (w1 := ((((w77.setCell ⟨gb304, 0, none⟩ (.int .i64 t322)).setCell ⟨gb304, 1, none⟩ (.slice Ao79 t323.length co79)).setCell ⟨gb291, 0, none⟩ (.int .i64 t322)).setCell ⟨gb291, 1, none⟩ (.slice Ao79 t323.length co79))) ?hg ?ho ?hn ?hr ?_; (case ho => rfl); (case hg => rfl); (case hn => rfl); (case hr => first | (go_simp; done) | (go_simp; rfl)); intro w88 hw; replace HO_292001 : Aside0 (Kd.R k81 81 w88 w.heap.size (fun k_ => some k_ ≠ (.slice Ao79 t323.length co79 : Value).ownBlock) (.slice Ao34 x292001_2.length co34) x292001_2) := ⟨(by rw [hw]; exact (by (with_reducible repeat (first | apply Kd.R_alloc | apply Kd.R_drewN | apply Kd.R_drew)); exact Kd.R_mono (Kd.R_far (p := ⟨gb291, 1, none⟩) (Kd.R_far (p := ⟨gb291, 0, none⟩) (Kd.R_far (p := ⟨gb304, 1, none⟩) (Kd.R_far (p := ⟨gb304, 0, none⟩) (Kd.R_types (Kd.R_types HO_292001.out BK304.out (by decide)) BK291.out (by decide)) (fun _ hk => hk.1.2) (.int .i64 t322)) (fun _ hk => hk.1.2) (.slice Ao79 t323.length co79)) (fun _ hk => hk.2) (.int .i64 t322)) (fun _ hk => hk.2) (.slice Ao79 t323.length co79)) (fun _ hk => hk.1.1.2)))⟩; replace HO_305001 : Aside0 (Kd.R k81 81 w88 w.heap.size (fun k_ => some k_ ≠ (.slice Ao79 t323.length co79 : Value).ownBlock) (.slice Ao34 x292001_2.length co34) x292001_2) := ⟨(by rw [hw]; exact (by (with_reducible repeat (first | apply Kd.R_alloc | apply Kd.R_drewN | apply Kd.R_drew)); exact Kd.R_mono (Kd.R_far (p := ⟨gb291, 1, none⟩) (Kd.R_far (p := ⟨gb291, 0, none⟩) (Kd.R_far (p := ⟨gb304, 1, none⟩) (Kd.R_far (p := ⟨gb304, 0, none⟩) (Kd.R_types (Kd.R_types HO_305001.out BK304.out (by decide)) BK291.out (by decide)) (fun _ hk => hk.1.2) (.int .i64 t322)) (fun _ hk => hk.1.2) (.slice Ao79 t323.length co79)) (fun _ hk => hk.2) (.int .i64 t322)) (fun _ hk => hk.2) (.slice Ao79 t323.length co79)) (fun _ hk => hk.1.1.2)))⟩; replace HO325 : Aside0 (Kd.R k81 81 w88 w.heap.size (fun k_ => some k_ ≠ (.slice Ao34 x292001_2.length co34 : Value).ownBlock ∧ some k_ ≠ (.slice Ao34 x292001_2.length co34 : Value).ownBlock) (.slice Ao79 t323.length co79) t323) := ⟨(by rw [hw]; exact (by (with_reducible repeat (first | apply Kd.R_alloc | apply Kd.R_drewN | apply Kd.R_drew)); exact Kd.R_mono (Kd.R_far (p := ⟨gb291, 1, none⟩) (Kd.R_far (p := ⟨gb291, 0, none⟩) (Kd.R_far (p := ⟨gb304, 1, none⟩) (Kd.R_far (p := ⟨gb304, 0, none⟩) (Kd.R_types (Kd.R_types HO325.out BK304.out (by decide)) BK291.out (by decide)) (fun _ hk => hk.1.2) (.int .i64 t322)) (fun _ hk => hk.1.2) (.slice Ao79 t323.length co79)) (fun _ hk => hk.2) (.int .i64 t322)) (fun _ hk => hk.2) (.slice Ao79 t323.length co79)) (fun _ hk => ⟨hk.1.1.1.2, hk.1.1.2⟩)))⟩; replace BK287 : Aside0 (w88.heap[gb287]? = some (.cells #[.int .i64 0, .slice none 0 0] 63 (0, 0))) := ⟨(by rw [hw]; exact (by (with_reducible repeat (first | refine blk_drewN ?_ _ | refine blk_drew ?_ | refine blk_alloc ?_ _)); refine blk_far ?_ NB287_291.out _; (with_reducible repeat (first | refine blk_drewN ?_ _ | refine blk_drew ?_ | refine blk_alloc ?_ _)); refine blk_far ?_ NB287_291.out _; (with_reducible repeat (first | refine blk_drewN ?_ _ | refine blk_drew ?_ | refine blk_alloc ?_ _)); refine blk_far ?_ NB287_304.out _; (with_reducible repeat (first | refine blk_drewN ?_ _ | refine blk_drew ?_ | refine blk_alloc ?_ _)); refine blk_far ?_ NB287_304.out _; (with_reducible repeat (first | refine blk_drewN ?_ _ | refine blk_drew ?_ | refine blk_alloc ?_ _)); exact BK287.out))⟩; replace BK291 : Aside0 (w88.heap[gb291]? = some (.cells #[.int .i64 t322, .slice Ao79 t323.length co79] 63 (0, 0))) := ⟨(by rw [hw]; exact (by (with_reducible repeat (first | refine blk_drewN ?_ _ | refine blk_drew ?_ | refine blk_alloc ?_ _)); refine blk_put (cs := #[.int .i64 t322, .slice Ao34 x292001_2.length co34]) ?_ 1 _ rfl; (with_reducible repeat (first | refine blk_drewN ?_ _ | refine blk_drew ?_ | refine blk_alloc ?_ _)); refine blk_put (cs := #[.int .i64 x292000_2, .slice Ao34 x292001_2.length co34]) ?_ 0 _ rfl; (with_reducible repeat (first | refine blk_drewN ?_ _ | refine blk_drew ?_ | refine blk_alloc ?_ _)); refine blk_far ?_ NB291_304.out _; (with_reducible repeat (first | refine blk_drewN ?_ _ | refine blk_drew ?_ | refine blk_alloc ?_ _)); refine blk_far ?_ NB291_304.out _; (with_reducible repeat (first | refine blk_drewN ?_ _ | refine blk_drew ?_ | refine blk_alloc ?_ _)); exact BK291.out))⟩; replace BK304 : Aside0 (w88.heap[gb304]? = some (.cells #[.int .i64 t322, .slice Ao79 t323.length co79] 63 (0, 0))) := ⟨(by rw [hw]; exact (by (with_reducible repeat (first | refine blk_drewN ?_ _ | refine blk_drew ?_ | refine blk_alloc ?_ _)); refine blk_far ?_ NB304_291.out _; (with_reducible repeat (first | refine blk_drewN ?_ _ | refine blk_drew ?_ | refine blk_alloc ?_ _)); refine blk_far ?_ NB304_291.out _; (with_reducible repeat (first | refine blk_drewN ?_ _ | refine blk_drew ?_ | refine blk_alloc ?_ _)); refine blk_put (cs := #[.int .i64 t322, .slice Ao34 x292001_2.length co34]) ?_ 1 _ rfl; (with_reducible repeat (first | refine blk_drewN ?_ _ | refine blk_drew ?_ | refine blk_alloc ?_ _)); refine blk_put (cs := #[.int .i64 x292000_2, .slice Ao34 x292001_2.length co34]) ?_ 0 _ rfl; (with_reducible repeat (first | refine blk_drewN ?_ _ | refine blk_drew ?_ | refine blk_alloc ?_ _)); exact BK304.out))⟩; replace HK : Aside0 (KeepBut w w88 g none) := ⟨(by rw [hw]; exact (by repeat (first | (with_reducible first | exact HK.out | apply KeepBut.set_ | apply keep_drewN | apply keep_drew | apply keep_alloc | refine keep_far ?_ GW287.out _ | refine keep_far ?_ GW291.out _ | refine keep_far ?_ GW304.out _) | exact HK.out)))⟩; replace HB : Aside0 (Below w0.heap.size w0 w88) := ⟨(by rw [hw]; exact (by repeat (first | (with_reducible first | exact HB.out | apply below_alloc | apply pw_below_drewN | apply below_drew1 | refine below_set ?_ (IsS159.ge HI0.out) | refine below_set ?_ GE287.out | refine below_set ?_ GE291.out | refine below_set ?_ GE304.out) | exact HB.out)))⟩; replace HI0 : Aside0 (IsS159 w0 w88 g s0_0 t320 t321) := ⟨(by rw [hw]; exact (by repeat (first | (with_reducible first | exact HI0.out | apply IsS159.alloc | apply IsS159.drewN | apply IsS159.drew | apply IsS159.set_1 | apply IsS159.set_2 | refine IsS159.far ?_ NB0_287.out _ | refine IsS159.far ?_ NB0_291.out _ | refine IsS159.far ?_ NB0_304.out _) | exact HI0.out)))⟩; clear hw))
           go_roundg kj23
           case measure => have := HJ3.out; have := HK2.out; have := HJ23.out; omega
           case rel => exact ⟨(wrap64 (x4_2 + 1)), (t320), (t321), (t322), (t323), (.slice Ao79 t323.length co79), (by first | rfl | (simp; done) | (simp [*]; done)), H', ⟨by have := HJ3.out; have := HK2.out; have := HJ23.out; omega⟩, ⟨by (with_reducible repeat (first | apply Kd.R_alloc | apply Kd.R_drewN | apply Kd.R_drew)); exact Kd.R_mono HO325.out (fun _ hk => trivial)⟩, ⟨xblk⟩, ⟨xblk⟩, ⟨by repeat (first | (with_reducible first | exact HI0.out | apply IsS159.alloc | apply IsS159.drewN | apply IsS159.drew | apply IsS159.set_1 | apply IsS159.set_2 | refine IsS159.far ?_ NB0_287.out _ | refine IsS159.far ?_ NB0_291.out _ | refine IsS159.far ?_ NB0_304.out _) | exact HI0.out)⟩, ⟨by repeat (first | (with_reducible first | exact HK.out | apply KeepBut.set_ | apply keep_drewN | apply keep_drew | apply keep_alloc | refine keep_far ?_ GW287.out _ | refine keep_far ?_ GW291.out _ | refine keep_far ?_ GW304.out _) | exact HK.out)⟩, ⟨by repeat (first | (with_reducible first | exact HB.out | apply below_alloc | apply pw_below_drewN | apply below_drew1 | refine below_set ?_ (IsS159.ge HI0.out) | refine below_set ?_ GE287.out | refine below_set ?_ GE291.out | refine below_set ?_ GE304.out) | exact HB.out)⟩⟩
         ·rw [if_neg c65] at H
          have c65b0 : (t305 == 3) = false := beq_eq_false_iff_ne.mpr c65
          have c65b1 : (t305 != 3) = true := bne_iff_ne.mpr c65
          replace H := Option.bind_eq_some_iff.mp H
          obtain ⟨⟨t327, t328, t329⟩, A890, H⟩ := H
          replace H : ((spec_l1Below.f s0_0 t328 t329 8).bind fun bt330 => ((spec_DiskMove.f kj23 x292000_2 x292001_2 t327 bt330.1).bind fun bt333 => (if bt333.2.2 = 1 then (spec_l3DrawRight.l0 kj23 (wrap64 (x4_2 + 1)) s0_0 bt330.2.1 bt330.2.2 x292000_2 x292001_2) else (spec_l3DrawRight.l0 kj23 (wrap64 (x4_2 + 1)) s0_0 bt330.2.1 bt330.2.2 bt333.1 bt333.2.1)))) = some (r1, r2, r3, r4) := H
          have A89 := Aside0.mk A890
          clear A890
          replace H := Option.bind_eq_some_iff.mp H
          obtain ⟨⟨t330, t331, t332⟩, A900, H⟩ := H
          replace H : ((spec_DiskMove.f kj23 x292000_2 x292001_2 t327 t330).bind fun bt333 => (if bt333.2.2 = 1 then (spec_l3DrawRight.l0 kj23 (wrap64 (x4_2 + 1)) s0_0 t331 t332 x292000_2 x292001_2) else (spec_l3DrawRight.l0 kj23 (wrap64 (x4_2 + 1)) s0_0 t331 t332 bt333.1 bt333.2.1))) = some (r1, r2, r3, r4) := H
          have A90 := Aside0.mk A900
          clear A900
          replace H := Option.bind_eq_some_iff.mp H
          obtain ⟨⟨t333, t334, t337⟩, A910, H⟩ := H
          replace H : (if t337 = 1 then (spec_l3DrawRight.l0 kj23 (wrap64 (x4_2 + 1)) s0_0 t331 t332 x292000_2 x292001_2) else (spec_l3DrawRight.l0 kj23 (wrap64 (x4_2 + 1)) s0_0 t331 t332 t333 t334)) = some (r1, r2, r3, r4) := H
          have A91 := Aside0.mk A910
          clear A910
          by_cases c92 : t337 = 1
          ·rw [if_pos c92] at H
           have c92b0 : (t337 == 1) = true := beq_iff_eq.mpr c92
           have c92b1 : (t337 != 1) = false := bne_eq_false_iff_eq.mpr c92
           clear c92
           have H' := Aside0.mk H
           clear H
           try go_wp2
           replace HO_292001 := Aside0.mk (Kd.R_drew HO_292001.out)
           replace HO_305001 := Aside0.mk (Kd.R_drew HO_305001.out)
           replace BK287 := Aside0.mk (blk_drew BK287.out)
           replace BK291 := Aside0.mk (blk_drew BK291.out)
           replace BK304 := Aside0.mk (blk_drew BK304.out)
           replace HI0 := Aside0.mk (IsS159.drew HI0.out)
           replace HK := Aside0.mk (keep_drew HK.out)
           replace HB := Aside0.mk (below_drew1 HB.out)
           refine start_ (n := 11) (S := fun w' => w'.cell? ⟨gb291, 0, none⟩ = some (.int .i64 x292000_2) ∧ w'.cell? ⟨gb291, 1, none⟩ = some (.slice Ao34 x292001_2.length co34)) (ds := []) #[false, false, false, false, false, false, false, false, false, false, false] (by kernel_rfl) rfl rfl ⟨(blk_cell BK291.out 0).trans rfl, (blk_cell BK291.out 1).trans rfl⟩ (fun hHeld => ?_); refine with_tabW spec_l3DrawRight.tab9 spec_l3DrawRight.bits9 (fun HT_ HW_ => ?_)
           generalize wc.drew = w93 at HO_292001 HO_305001 BK287 BK291 BK304 HI0 HK HB hHeld ⊢
           refine pv_ 1 28 (h := ?_)
           refine pv_ 3 30 (h := ?_)
           refine tk_ 0 27 (h := ?_)
           refine on_ 2 29 (h := fun K hK => ?_)
           refine goes_ Try.func93 (by kernel_rfl) rfl #[.pointer (some ⟨g, 0, none⟩), .int .i64 5] (by rfl) rfl rfl (by (try simp only [List.map_toArray, List.map_cons, List.map_nil]); first | done | rfl | (simp only [List.length_drop, List.length_take]; rfl)) ?_
           with_reducible refine (spec_l1Below.calls g s0_0 t306 t307 5 t327 t328 t329 w0 _ ?side1 ?side2 A89.out).mono ?_
           (case side1 => repeat (first | (with_reducible first | exact HI0.out | apply IsS159.alloc | apply IsS159.drewN | apply IsS159.drew | apply IsS159.set_1 | apply IsS159.set_2 | refine IsS159.far ?_ NB0_287.out _ | refine IsS159.far ?_ NB0_291.out _ | refine IsS159.far ?_ NB0_304.out _) | exact HI0.out))
           (case side2 => repeat (first | (with_reducible first | exact HB.out | apply below_alloc | apply pw_below_drewN | apply below_drew1 | refine below_set ?_ (IsS159.ge HI0.out) | refine below_set ?_ GE287.out | refine below_set ?_ GE291.out | refine below_set ?_ GE304.out) | exact HB.out))
           rintro e w94 ⟨rfl, hi, hb, hk⟩
           refine ⟨_, rfl, ?_⟩
           have n0_ := Aside0.mk (Kd.R_mono (Kd.R_keep (IsS159.apart (show IsS159 w0 _ g s0_0 t306 t307 from by repeat (first | (with_reducible first | exact HI0.out | apply IsS159.alloc | apply IsS159.drewN | apply IsS159.drew | apply IsS159.set_1 | apply IsS159.set_2 | refine IsS159.far ?_ NB0_287.out _ | refine IsS159.far ?_ NB0_291.out _ | refine IsS159.far ?_ NB0_304.out _) | exact HI0.out)) (by (with_reducible repeat (first | apply Kd.R_alloc | apply Kd.R_drewN | apply Kd.R_drew)); exact HO_292001.out) (by decide)) hk (fun _ h => h.2)) (fun _ h => h.1))
           have n1_ := Aside0.mk (Kd.R_mono (Kd.R_keep (IsS159.apart (show IsS159 w0 _ g s0_0 t306 t307 from by repeat (first | (with_reducible first | exact HI0.out | apply IsS159.alloc | apply IsS159.drewN | apply IsS159.drew | apply IsS159.set_1 | apply IsS159.set_2 | refine IsS159.far ?_ NB0_287.out _ | refine IsS159.far ?_ NB0_291.out _ | refine IsS159.far ?_ NB0_304.out _) | exact HI0.out)) (by (with_reducible repeat (first | apply Kd.R_alloc | apply Kd.R_drewN | apply Kd.R_drew)); exact HO_305001.out) (by decide)) hk (fun _ h => h.2)) (fun _ h => h.1))
           have n2_ := Aside0.mk (KeepBut.blk hk (g' := gb287) (o := .cells #[.int .i64 0, .slice none 0 0] 63 (0, 0)) xblk NB287_0.out (by simp))
           have n3_ := Aside0.mk (KeepBut.blk hk (g' := gb291) (o := .cells #[.int .i64 x292000_2, .slice Ao34 x292001_2.length co34] 63 (0, 0)) xblk NB291_0.out (by simp))
           have n4_ := Aside0.mk (KeepBut.blk hk (g' := gb304) (o := .cells #[.int .i64 x292000_2, .slice Ao34 x292001_2.length co34] 63 (0, 0)) xblk NB304_0.out (by simp))
           have n5_ := Aside0.mk (KeepBut.trans (by repeat (first | (with_reducible first | exact HK.out | apply KeepBut.set_ | apply keep_drewN | apply keep_drew | apply keep_alloc | refine keep_far ?_ GW287.out _ | refine keep_far ?_ GW291.out _ | refine keep_far ?_ GW304.out _) | exact HK.out)) hk (.inl rfl))
           have n6_ := Aside0.mk (hb)
           have n7_ := Aside0.mk (hi)
           clear HO_292001
           clear HO_305001
           clear BK287
           clear BK291
           clear BK304
           clear HK
           clear HB
           clear HI0
           have HO_292001 := n0_
           have HO_305001 := n1_
           have BK287 := n2_
           have BK291 := n3_
           have BK304 := n4_
           have HK := n5_
           have HB := n6_
           have HI0 := n7_
           clear n0_ n1_ n2_ n3_ n4_ n5_ n6_ n7_
           (try clear hb); (try clear hb2); (try clear hk); (try clear hi)
           refine hK.out _ _ ⟨(blk_cell BK291.out 0).trans rfl, (blk_cell BK291.out 1).trans rfl⟩ (fun hHeld => ?_)
           clear hK K
           refine norm_ (a' := ?_) ?_ ?_
           rotate_left
           ·show Act.put _ (some 29) _ = _
            simp only [Act.put, List.setIfInBounds_toArray, List.set_cons_zero, List.set_cons_succ, i64_w, i32_w]
            rfl
           refine on_ 4 31 (h := fun K hK => ?_)
           refine goes_ Try.func93 (by kernel_rfl) rfl #[.pointer (some ⟨g, 0, none⟩), .int .i64 8] (by rfl) rfl rfl (by (try simp only [List.map_toArray, List.map_cons, List.map_nil]); first | done | rfl | (simp only [List.length_drop, List.length_take]; rfl)) ?_
           with_reducible refine (spec_l1Below.calls g s0_0 t328 t329 8 t330 t331 t332 w0 _ ?side1 ?side2 A90.out).mono ?_
           (case side1 => repeat (first | (with_reducible first | exact HI0.out | apply IsS159.alloc | apply IsS159.drewN | apply IsS159.drew | apply IsS159.set_1 | apply IsS159.set_2 | refine IsS159.far ?_ NB0_287.out _ | refine IsS159.far ?_ NB0_291.out _ | refine IsS159.far ?_ NB0_304.out _) | exact HI0.out))
           (case side2 => repeat (first | (with_reducible first | exact HB.out | apply below_alloc | apply pw_below_drewN | apply below_drew1 | refine below_set ?_ (IsS159.ge HI0.out) | refine below_set ?_ GE287.out | refine below_set ?_ GE291.out | refine below_set ?_ GE304.out) | exact HB.out))
           rintro e w95 ⟨rfl, hi, hb, hk⟩
           refine ⟨_, rfl, ?_⟩
           have n0_ := Aside0.mk (Kd.R_mono (Kd.R_keep (IsS159.apart (show IsS159 w0 _ g s0_0 t328 t329 from by repeat (first | (with_reducible first | exact HI0.out | apply IsS159.alloc | apply IsS159.drewN | apply IsS159.drew | apply IsS159.set_1 | apply IsS159.set_2 | refine IsS159.far ?_ NB0_287.out _ | refine IsS159.far ?_ NB0_291.out _ | refine IsS159.far ?_ NB0_304.out _) | exact HI0.out)) (by (with_reducible repeat (first | apply Kd.R_alloc | apply Kd.R_drewN | apply Kd.R_drew)); exact HO_292001.out) (by decide)) hk (fun _ h => h.2)) (fun _ h => h.1))
           have n1_ := Aside0.mk (Kd.R_mono (Kd.R_keep (IsS159.apart (show IsS159 w0 _ g s0_0 t328 t329 from by repeat (first | (with_reducible first | exact HI0.out | apply IsS159.alloc | apply IsS159.drewN | apply IsS159.drew | apply IsS159.set_1 | apply IsS159.set_2 | refine IsS159.far ?_ NB0_287.out _ | refine IsS159.far ?_ NB0_291.out _ | refine IsS159.far ?_ NB0_304.out _) | exact HI0.out)) (by (with_reducible repeat (first | apply Kd.R_alloc | apply Kd.R_drewN | apply Kd.R_drew)); exact HO_305001.out) (by decide)) hk (fun _ h => h.2)) (fun _ h => h.1))
           have n2_ := Aside0.mk (KeepBut.blk hk (g' := gb287) (o := .cells #[.int .i64 0, .slice none 0 0] 63 (0, 0)) xblk NB287_0.out (by simp))
           have n3_ := Aside0.mk (KeepBut.blk hk (g' := gb291) (o := .cells #[.int .i64 x292000_2, .slice Ao34 x292001_2.length co34] 63 (0, 0)) xblk NB291_0.out (by simp))
           have n4_ := Aside0.mk (KeepBut.blk hk (g' := gb304) (o := .cells #[.int .i64 x292000_2, .slice Ao34 x292001_2.length co34] 63 (0, 0)) xblk NB304_0.out (by simp))
           have n5_ := Aside0.mk (KeepBut.trans (by repeat (first | (with_reducible first | exact HK.out | apply KeepBut.set_ | apply keep_drewN | apply keep_drew | apply keep_alloc | refine keep_far ?_ GW287.out _ | refine keep_far ?_ GW291.out _ | refine keep_far ?_ GW304.out _) | exact HK.out)) hk (.inl rfl))
           have n6_ := Aside0.mk (hb)
           have n7_ := Aside0.mk (hi)
           clear HO_292001
           clear HO_305001
           clear BK287
           clear BK291
           clear BK304
           clear HK
           clear HB
           clear HI0
           have HO_292001 := n0_
           have HO_305001 := n1_
           have BK287 := n2_
           have BK291 := n3_
           have BK304 := n4_
           have HK := n5_
           have HB := n6_
           have HI0 := n7_
           clear n0_ n1_ n2_ n3_ n4_ n5_ n6_ n7_
           (try clear hb); (try clear hb2); (try clear hk); (try clear hi)
           refine hK.out _ _ ⟨(blk_cell BK291.out 0).trans rfl, (blk_cell BK291.out 1).trans rfl⟩ (fun hHeld => ?_)
           clear hK K
           refine norm_ (a' := ?_) ?_ ?_
           rotate_left
           ·show Act.put _ (some 31) _ = _
            simp only [Act.put, List.setIfInBounds_toArray, List.set_cons_zero, List.set_cons_succ, i64_w, i32_w]
            rfl
           refine on_ 5 32 (h := fun K hK => ?_)
           refine goes_ Try.func172 (by kernel_rfl) rfl #[.agg #[.int .i64 x292000_2, .slice Ao34 x292001_2.length co34], .int .i64 t327, .int .i64 t330] (by rfl) rfl rfl (by (try simp only [List.map_toArray, List.map_cons, List.map_nil]); first | done | rfl | (simp only [List.length_drop, List.length_take]; rfl)) ?_
           with_reducible refine (spec_DiskMove.calls kj23 x292000_2 _ _ x292001_2 t327 t330 t333 t334 t337 _ ?side1 ?side2 A91.out).mono ?_
           (case side1 => repeat (first | exact (Kd.R_reads' HO_292001.out).2.2 | (with_reducible refine Kd.C_alloc ?_ _) | (with_reducible refine Kd.C_drewN ?_ _) | (with_reducible refine Kd.C_drew ?_)))
           (case side2 => exact (Kd.R_reads' HO_292001.out).2.1)
           rintro e w96 ⟨v335, rfl, ho0, hb⟩
           refine ⟨_, rfl, ?_⟩
           have HO336 := Aside0.mk (Kd.R_lower (Kd.R_new' (Kd.R_new' ho0 (Kd.R_lt (by (with_reducible repeat (first | apply Kd.R_alloc | apply Kd.R_drewN | apply Kd.R_drew)); exact HO_292001.out))) (Kd.R_lt (by (with_reducible repeat (first | apply Kd.R_alloc | apply Kd.R_drewN | apply Kd.R_drew)); exact HO_305001.out))) (keep_size (w := w) (g := g) (row := none) (by repeat (first | (with_reducible first | exact HK.out | apply KeepBut.set_ | apply keep_drewN | apply keep_drew | apply keep_alloc | refine keep_far ?_ GW287.out _ | refine keep_far ?_ GW291.out _ | refine keep_far ?_ GW304.out _) | exact HK.out))))
           replace HO_292001 := Aside0.mk (Kd.R_elder' (by (with_reducible repeat (first | apply Kd.R_alloc | apply Kd.R_drewN | apply Kd.R_drew)); exact HO_292001.out) (Kd.R_base ho0) hb)
           replace HO_305001 := Aside0.mk (Kd.R_elder' (by (with_reducible repeat (first | apply Kd.R_alloc | apply Kd.R_drewN | apply Kd.R_drew)); exact HO_305001.out) (Kd.R_base ho0) hb)
           replace BK287 := xbb BK287 hb
           replace BK291 := xbb BK291 hb
           replace BK304 := xbb BK304 hb
           replace HK := Aside0.mk (KeepBut.trans (by repeat (first | (with_reducible first | exact HK.out | apply KeepBut.set_ | apply keep_drewN | apply keep_drew | apply keep_alloc | refine keep_far ?_ GW287.out _ | refine keep_far ?_ GW291.out _ | refine keep_far ?_ GW304.out _) | exact HK.out)) (KeepBut.of_below hb g none) (.inl rfl))
           replace HB := Aside0.mk (below_step (by repeat (first | (with_reducible first | exact HB.out | apply below_alloc | apply pw_below_drewN | apply below_drew1 | refine below_set ?_ (IsS159.ge HI0.out) | refine below_set ?_ GE287.out | refine below_set ?_ GE291.out | refine below_set ?_ GE304.out) | exact HB.out)) hb)
           replace HI0 := Aside0.mk (IsS159.below (by repeat (first | (with_reducible first | exact HI0.out | apply IsS159.alloc | apply IsS159.drewN | apply IsS159.drew | apply IsS159.set_1 | apply IsS159.set_2 | refine IsS159.far ?_ NB0_287.out _ | refine IsS159.far ?_ NB0_291.out _ | refine IsS159.far ?_ NB0_304.out _) | exact HI0.out)) hb)
           (try clear hb); (try clear hb2); (try clear hk); (try clear hi); (try clear ho0)
           obtain ⟨Ao98, co98, eo98⟩ := Kd.R_slice HO336.out
           (first | subst eo98 | (injection eo98 with f1_ f2_ f3_; have f4_ := f1_.symm; have f5_ := f3_.symm; clear f1_ f2_ f3_; subst f4_; subst f5_))
           refine hK.out _ _ ⟨(blk_cell BK291.out 0).trans rfl, (blk_cell BK291.out 1).trans rfl⟩ (fun hHeld => ?_)
           clear hK K
           refine norm_ (a' := ?_) ?_ ?_
           rotate_left
           ·show Act.put _ (some 32) _ = _
            simp only [Act.put, List.setIfInBounds_toArray, List.set_cons_zero, List.set_cons_succ, i64_w, i32_w]
            rfl
           refine pv_ 6 26 (h := ?_)
           refine pv_ 7 33 (h := ?_)
           refine pv_ 8 34 (h := ?_)
           refine one_ (i := 9) (N := none) #[true, true, true, true, true, true, true, true, true, true, false] rfl rfl (one_of HT_.out (by kernel_rfl)) (by decide) (fun K hK => ?_)
           have hs97 : w96.cell? ⟨gb304, 0, none⟩ = some (.int .i64 x292000_2) := (blk_cell BK304.out 0).trans rfl
           have hfs97 := blk_frozen BK304.out 0
           have hns97_0 := NB287_304.out
           have hns97_1 := NB291_304.out
           have hms97_0 := NB304_287.out
           have hms97_1 := NB304_291.out
           have hs99 : w96.cell? ⟨gb304, 1, none⟩ = some (.slice Ao34 x292001_2.length co34) := (blk_cell BK304.out 1).trans rfl
           have hfs99 := blk_frozen BK304.out 1
           have hns99_0 := NB287_304.out
           have hns99_1 := NB291_304.out
           have hms99_0 := NB304_287.out
           have hms99_1 := NB304_291.out
           refine skip_ (w1 := ?_) (by rfl) rfl ?_ ?_
           rotate_left
           ·go_simp
            rfl
           refine hK.out _ _ ⟨((cell_far (p := ⟨gb304, _, none⟩) NB291_304.out _).trans (((cell_far (p := ⟨gb304, _, none⟩) NB291_304.out _).trans (hHeld.1)))), ((cell_far (p := ⟨gb304, _, none⟩) NB291_304.out _).trans (((cell_far (p := ⟨gb304, _, none⟩) NB291_304.out _).trans (hHeld.2))))⟩ (fun hHeld => ?_)
           clear hK K
           refine pv_ 10 6 (h := ?_)
           refine done_ (done_of HT_.out (by kernel_rfl)) ?_
           try go_wp2
           go_roundg kj23
           case measure => have := HJ3.out; have := HK2.out; have := HJ23.out; omega
           case rel => exact ⟨(wrap64 (x4_2 + 1)), (t331), (t332), (x292000_2), (x292001_2), (.slice Ao34 x292001_2.length co34), (by first | rfl | (simp; done) | (simp [*]; done)), H', ⟨by have := HJ3.out; have := HK2.out; have := HJ23.out; omega⟩, ⟨by (with_reducible repeat (first | apply Kd.R_alloc | apply Kd.R_drewN | apply Kd.R_drew)); exact Kd.R_mono (Kd.R_far (p := ⟨gb304, 1, none⟩) (Kd.R_far (p := ⟨gb304, 0, none⟩) (Kd.R_types HO_292001.out BK304.out (by decide)) (fun _ hk => hk.2) (.int .i64 t333)) (fun _ hk => hk.2) (.slice Ao98 t334.length co98)) (fun _ hk => trivial)⟩, ⟨by (with_reducible repeat (first | refine blk_drewN ?_ _ | refine blk_drew ?_ | refine blk_alloc ?_ _)); refine blk_far ?_ NB287_304.out _; (with_reducible repeat (first | refine blk_drewN ?_ _ | refine blk_drew ?_ | refine blk_alloc ?_ _)); refine blk_far ?_ NB287_304.out _; (with_reducible repeat (first | refine blk_drewN ?_ _ | refine blk_drew ?_ | refine blk_alloc ?_ _)); exact BK287.out⟩, ⟨by (with_reducible repeat (first | refine blk_drewN ?_ _ | refine blk_drew ?_ | refine blk_alloc ?_ _)); refine blk_far ?_ NB291_304.out _; (with_reducible repeat (first | refine blk_drewN ?_ _ | refine blk_drew ?_ | refine blk_alloc ?_ _)); refine blk_far ?_ NB291_304.out _; (with_reducible repeat (first | refine blk_drewN ?_ _ | refine blk_drew ?_ | refine blk_alloc ?_ _)); exact BK291.out⟩, ⟨by repeat (first | (with_reducible first | exact HI0.out | apply IsS159.alloc | apply IsS159.drewN | apply IsS159.drew | apply IsS159.set_1 | apply IsS159.set_2 | refine IsS159.far ?_ NB0_287.out _ | refine IsS159.far ?_ NB0_291.out _ | refine IsS159.far ?_ NB0_304.out _) | exact HI0.out)⟩, ⟨by repeat (first | (with_reducible first | exact HK.out | apply KeepBut.set_ | apply keep_drewN | apply keep_drew | apply keep_alloc | refine keep_far ?_ GW287.out _ | refine keep_far ?_ GW291.out _ | refine keep_far ?_ GW304.out _) | exact HK.out)⟩, ⟨by repeat (first | (with_reducible first | exact HB.out | apply below_alloc | apply pw_below_drewN | apply below_drew1 | refine below_set ?_ (IsS159.ge HI0.out) | refine below_set ?_ GE287.out | refine below_set ?_ GE291.out | refine below_set ?_ GE304.out) | exact HB.out)⟩⟩
          ·rw [if_neg c92] at H
           have c92b0 : (t337 == 1) = false := beq_eq_false_iff_ne.mpr c92
           have c92b1 : (t337 != 1) = true := bne_iff_ne.mpr c92
           have H' := Aside0.mk H
           clear H
           try go_wp2
           replace HO_292001 := Aside0.mk (Kd.R_drew HO_292001.out)
           replace HO_305001 := Aside0.mk (Kd.R_drew HO_305001.out)
           replace BK287 := Aside0.mk (blk_drew BK287.out)
           replace BK291 := Aside0.mk (blk_drew BK291.out)
           replace BK304 := Aside0.mk (blk_drew BK304.out)
           replace HI0 := Aside0.mk (IsS159.drew HI0.out)
           replace HK := Aside0.mk (keep_drew HK.out)
           replace HB := Aside0.mk (below_drew1 HB.out)
           refine start_ (n := 11) (S := fun w' => w'.cell? ⟨gb291, 0, none⟩ = some (.int .i64 x292000_2) ∧ w'.cell? ⟨gb291, 1, none⟩ = some (.slice Ao34 x292001_2.length co34)) (ds := []) #[false, false, false, false, false, false, false, false, false, false, false] (by kernel_rfl) rfl rfl ⟨(blk_cell BK291.out 0).trans rfl, (blk_cell BK291.out 1).trans rfl⟩ (fun hHeld => ?_); refine with_tabW spec_l3DrawRight.tab9 spec_l3DrawRight.bits9 (fun HT_ HW_ => ?_)
           generalize wc.drew = w100 at HO_292001 HO_305001 BK287 BK291 BK304 HI0 HK HB hHeld ⊢
           refine pv_ 1 28 (h := ?_)
           refine pv_ 3 30 (h := ?_)
           refine tk_ 0 27 (h := ?_)
           refine on_ 2 29 (h := fun K hK => ?_)
           refine goes_ Try.func93 (by kernel_rfl) rfl #[.pointer (some ⟨g, 0, none⟩), .int .i64 5] (by rfl) rfl rfl (by (try simp only [List.map_toArray, List.map_cons, List.map_nil]); first | done | rfl | (simp only [List.length_drop, List.length_take]; rfl)) ?_
           with_reducible refine (spec_l1Below.calls g s0_0 t306 t307 5 t327 t328 t329 w0 _ ?side1 ?side2 A89.out).mono ?_
           (case side1 => repeat (first | (with_reducible first | exact HI0.out | apply IsS159.alloc | apply IsS159.drewN | apply IsS159.drew | apply IsS159.set_1 | apply IsS159.set_2 | refine IsS159.far ?_ NB0_287.out _ | refine IsS159.far ?_ NB0_291.out _ | refine IsS159.far ?_ NB0_304.out _) | exact HI0.out))
           (case side2 => repeat (first | (with_reducible first | exact HB.out | apply below_alloc | apply pw_below_drewN | apply below_drew1 | refine below_set ?_ (IsS159.ge HI0.out) | refine below_set ?_ GE287.out | refine below_set ?_ GE291.out | refine below_set ?_ GE304.out) | exact HB.out))
           rintro e w101 ⟨rfl, hi, hb, hk⟩
           refine ⟨_, rfl, ?_⟩
           have n0_ := Aside0.mk (Kd.R_mono (Kd.R_keep (IsS159.apart (show IsS159 w0 _ g s0_0 t306 t307 from by repeat (first | (with_reducible first | exact HI0.out | apply IsS159.alloc | apply IsS159.drewN | apply IsS159.drew | apply IsS159.set_1 | apply IsS159.set_2 | refine IsS159.far ?_ NB0_287.out _ | refine IsS159.far ?_ NB0_291.out _ | refine IsS159.far ?_ NB0_304.out _) | exact HI0.out)) (by (with_reducible repeat (first | apply Kd.R_alloc | apply Kd.R_drewN | apply Kd.R_drew)); exact HO_292001.out) (by decide)) hk (fun _ h => h.2)) (fun _ h => h.1))
           have n1_ := Aside0.mk (Kd.R_mono (Kd.R_keep (IsS159.apart (show IsS159 w0 _ g s0_0 t306 t307 from by repeat (first | (with_reducible first | exact HI0.out | apply IsS159.alloc | apply IsS159.drewN | apply IsS159.drew | apply IsS159.set_1 | apply IsS159.set_2 | refine IsS159.far ?_ NB0_287.out _ | refine IsS159.far ?_ NB0_291.out _ | refine IsS159.far ?_ NB0_304.out _) | exact HI0.out)) (by (with_reducible repeat (first | apply Kd.R_alloc | apply Kd.R_drewN | apply Kd.R_drew)); exact HO_305001.out) (by decide)) hk (fun _ h => h.2)) (fun _ h => h.1))
           have n2_ := Aside0.mk (KeepBut.blk hk (g' := gb287) (o := .cells #[.int .i64 0, .slice none 0 0] 63 (0, 0)) xblk NB287_0.out (by simp))
           have n3_ := Aside0.mk (KeepBut.blk hk (g' := gb291) (o := .cells #[.int .i64 x292000_2, .slice Ao34 x292001_2.length co34] 63 (0, 0)) xblk NB291_0.out (by simp))
           have n4_ := Aside0.mk (KeepBut.blk hk (g' := gb304) (o := .cells #[.int .i64 x292000_2, .slice Ao34 x292001_2.length co34] 63 (0, 0)) xblk NB304_0.out (by simp))
           have n5_ := Aside0.mk (KeepBut.trans (by repeat (first | (with_reducible first | exact HK.out | apply KeepBut.set_ | apply keep_drewN | apply keep_drew | apply keep_alloc | refine keep_far ?_ GW287.out _ | refine keep_far ?_ GW291.out _ | refine keep_far ?_ GW304.out _) | exact HK.out)) hk (.inl rfl))
           have n6_ := Aside0.mk (hb)
           have n7_ := Aside0.mk (hi)
           clear HO_292001
           clear HO_305001
           clear BK287
           clear BK291
           clear BK304
           clear HK
           clear HB
           clear HI0
           have HO_292001 := n0_
           have HO_305001 := n1_
           have BK287 := n2_
           have BK291 := n3_
           have BK304 := n4_
           have HK := n5_
           have HB := n6_
           have HI0 := n7_
           clear n0_ n1_ n2_ n3_ n4_ n5_ n6_ n7_
           (try clear hb); (try clear hb2); (try clear hk); (try clear hi)
           refine hK.out _ _ ⟨(blk_cell BK291.out 0).trans rfl, (blk_cell BK291.out 1).trans rfl⟩ (fun hHeld => ?_)
           clear hK K
           refine norm_ (a' := ?_) ?_ ?_
           rotate_left
           ·show Act.put _ (some 29) _ = _
            simp only [Act.put, List.setIfInBounds_toArray, List.set_cons_zero, List.set_cons_succ, i64_w, i32_w]
            rfl
           refine on_ 4 31 (h := fun K hK => ?_)
           refine goes_ Try.func93 (by kernel_rfl) rfl #[.pointer (some ⟨g, 0, none⟩), .int .i64 8] (by rfl) rfl rfl (by (try simp only [List.map_toArray, List.map_cons, List.map_nil]); first | done | rfl | (simp only [List.length_drop, List.length_take]; rfl)) ?_
           with_reducible refine (spec_l1Below.calls g s0_0 t328 t329 8 t330 t331 t332 w0 _ ?side1 ?side2 A90.out).mono ?_
           (case side1 => repeat (first | (with_reducible first | exact HI0.out | apply IsS159.alloc | apply IsS159.drewN | apply IsS159.drew | apply IsS159.set_1 | apply IsS159.set_2 | refine IsS159.far ?_ NB0_287.out _ | refine IsS159.far ?_ NB0_291.out _ | refine IsS159.far ?_ NB0_304.out _) | exact HI0.out))
           (case side2 => repeat (first | (with_reducible first | exact HB.out | apply below_alloc | apply pw_below_drewN | apply below_drew1 | refine below_set ?_ (IsS159.ge HI0.out) | refine below_set ?_ GE287.out | refine below_set ?_ GE291.out | refine below_set ?_ GE304.out) | exact HB.out))
           rintro e w102 ⟨rfl, hi, hb, hk⟩
           refine ⟨_, rfl, ?_⟩
           have n0_ := Aside0.mk (Kd.R_mono (Kd.R_keep (IsS159.apart (show IsS159 w0 _ g s0_0 t328 t329 from by repeat (first | (with_reducible first | exact HI0.out | apply IsS159.alloc | apply IsS159.drewN | apply IsS159.drew | apply IsS159.set_1 | apply IsS159.set_2 | refine IsS159.far ?_ NB0_287.out _ | refine IsS159.far ?_ NB0_291.out _ | refine IsS159.far ?_ NB0_304.out _) | exact HI0.out)) (by (with_reducible repeat (first | apply Kd.R_alloc | apply Kd.R_drewN | apply Kd.R_drew)); exact HO_292001.out) (by decide)) hk (fun _ h => h.2)) (fun _ h => h.1))
           have n1_ := Aside0.mk (Kd.R_mono (Kd.R_keep (IsS159.apart (show IsS159 w0 _ g s0_0 t328 t329 from by repeat (first | (with_reducible first | exact HI0.out | apply IsS159.alloc | apply IsS159.drewN | apply IsS159.drew | apply IsS159.set_1 | apply IsS159.set_2 | refine IsS159.far ?_ NB0_287.out _ | refine IsS159.far ?_ NB0_291.out _ | refine IsS159.far ?_ NB0_304.out _) | exact HI0.out)) (by (with_reducible repeat (first | apply Kd.R_alloc | apply Kd.R_drewN | apply Kd.R_drew)); exact HO_305001.out) (by decide)) hk (fun _ h => h.2)) (fun _ h => h.1))
           have n2_ := Aside0.mk (KeepBut.blk hk (g' := gb287) (o := .cells #[.int .i64 0, .slice none 0 0] 63 (0, 0)) xblk NB287_0.out (by simp))
           have n3_ := Aside0.mk (KeepBut.blk hk (g' := gb291) (o := .cells #[.int .i64 x292000_2, .slice Ao34 x292001_2.length co34] 63 (0, 0)) xblk NB291_0.out (by simp))
           have n4_ := Aside0.mk (KeepBut.blk hk (g' := gb304) (o := .cells #[.int .i64 x292000_2, .slice Ao34 x292001_2.length co34] 63 (0, 0)) xblk NB304_0.out (by simp))
           have n5_ := Aside0.mk (KeepBut.trans (by repeat (first | (with_reducible first | exact HK.out | apply KeepBut.set_ | apply keep_drewN | apply keep_drew | apply keep_alloc | refine keep_far ?_ GW287.out _ | refine keep_far ?_ GW291.out _ | refine keep_far ?_ GW304.out _) | exact HK.out)) hk (.inl rfl))
           have n6_ := Aside0.mk (hb)
           have n7_ := Aside0.mk (hi)
           clear HO_292001
           clear HO_305001
           clear BK287
           clear BK291
           clear BK304
           clear HK
           clear HB
           clear HI0
           have HO_292001 := n0_
           have HO_305001 := n1_
           have BK287 := n2_
           have BK291 := n3_
           have BK304 := n4_
           have HK := n5_
           have HB := n6_
           have HI0 := n7_
           clear n0_ n1_ n2_ n3_ n4_ n5_ n6_ n7_
           (try clear hb); (try clear hb2); (try clear hk); (try clear hi)
           refine hK.out _ _ ⟨(blk_cell BK291.out 0).trans rfl, (blk_cell BK291.out 1).trans rfl⟩ (fun hHeld => ?_)
           clear hK K
           refine norm_ (a' := ?_) ?_ ?_
           rotate_left
           ·show Act.put _ (some 31) _ = _
            simp only [Act.put, List.setIfInBounds_toArray, List.set_cons_zero, List.set_cons_succ, i64_w, i32_w]
            rfl
           refine on_ 5 32 (h := fun K hK => ?_)
           refine goes_ Try.func172 (by kernel_rfl) rfl #[.agg #[.int .i64 x292000_2, .slice Ao34 x292001_2.length co34], .int .i64 t327, .int .i64 t330] (by rfl) rfl rfl (by (try simp only [List.map_toArray, List.map_cons, List.map_nil]); first | done | rfl | (simp only [List.length_drop, List.length_take]; rfl)) ?_
           with_reducible refine (spec_DiskMove.calls kj23 x292000_2 _ _ x292001_2 t327 t330 t333 t334 t337 _ ?side1 ?side2 A91.out).mono ?_
           (case side1 => repeat (first | exact (Kd.R_reads' HO_292001.out).2.2 | (with_reducible refine Kd.C_alloc ?_ _) | (with_reducible refine Kd.C_drewN ?_ _) | (with_reducible refine Kd.C_drew ?_)))
           (case side2 => exact (Kd.R_reads' HO_292001.out).2.1)
           rintro e w103 ⟨v335, rfl, ho0, hb⟩
           refine ⟨_, rfl, ?_⟩
           have HO336 := Aside0.mk (Kd.R_lower (Kd.R_new' (Kd.R_new' ho0 (Kd.R_lt (by (with_reducible repeat (first | apply Kd.R_alloc | apply Kd.R_drewN | apply Kd.R_drew)); exact HO_292001.out))) (Kd.R_lt (by (with_reducible repeat (first | apply Kd.R_alloc | apply Kd.R_drewN | apply Kd.R_drew)); exact HO_305001.out))) (keep_size (w := w) (g := g) (row := none) (by repeat (first | (with_reducible first | exact HK.out | apply KeepBut.set_ | apply keep_drewN | apply keep_drew | apply keep_alloc | refine keep_far ?_ GW287.out _ | refine keep_far ?_ GW291.out _ | refine keep_far ?_ GW304.out _) | exact HK.out))))
           replace HO_292001 := Aside0.mk (Kd.R_elder' (by (with_reducible repeat (first | apply Kd.R_alloc | apply Kd.R_drewN | apply Kd.R_drew)); exact HO_292001.out) (Kd.R_base ho0) hb)
           replace HO_305001 := Aside0.mk (Kd.R_elder' (by (with_reducible repeat (first | apply Kd.R_alloc | apply Kd.R_drewN | apply Kd.R_drew)); exact HO_305001.out) (Kd.R_base ho0) hb)
           replace BK287 := xbb BK287 hb
           replace BK291 := xbb BK291 hb
           replace BK304 := xbb BK304 hb
           replace HK := Aside0.mk (KeepBut.trans (by repeat (first | (with_reducible first | exact HK.out | apply KeepBut.set_ | apply keep_drewN | apply keep_drew | apply keep_alloc | refine keep_far ?_ GW287.out _ | refine keep_far ?_ GW291.out _ | refine keep_far ?_ GW304.out _) | exact HK.out)) (KeepBut.of_below hb g none) (.inl rfl))
           replace HB := Aside0.mk (below_step (by repeat (first | (with_reducible first | exact HB.out | apply below_alloc | apply pw_below_drewN | apply below_drew1 | refine below_set ?_ (IsS159.ge HI0.out) | refine below_set ?_ GE287.out | refine below_set ?_ GE291.out | refine below_set ?_ GE304.out) | exact HB.out)) hb)
           replace HI0 := Aside0.mk (IsS159.below (by repeat (first | (with_reducible first | exact HI0.out | apply IsS159.alloc | apply IsS159.drewN | apply IsS159.drew | apply IsS159.set_1 | apply IsS159.set_2 | refine IsS159.far ?_ NB0_287.out _ | refine IsS159.far ?_ NB0_291.out _ | refine IsS159.far ?_ NB0_304.out _) | exact HI0.out)) hb)
           (try clear hb); (try clear hb2); (try clear hk); (try clear hi); (try clear ho0)
           obtain ⟨Ao105, co105, eo105⟩ := Kd.R_slice HO336.out
           (first | subst eo105 | (injection eo105 with f1_ f2_ f3_; have f4_ := f1_.symm; have f5_ := f3_.symm; clear f1_ f2_ f3_; subst f4_; subst f5_))
           refine hK.out _ _ ⟨(blk_cell BK291.out 0).trans rfl, (blk_cell BK291.out 1).trans rfl⟩ (fun hHeld => ?_)
           clear hK K
           refine norm_ (a' := ?_) ?_ ?_
           rotate_left
           ·show Act.put _ (some 32) _ = _
            simp only [Act.put, List.setIfInBounds_toArray, List.set_cons_zero, List.set_cons_succ, i64_w, i32_w]
            rfl
           refine pv_ 6 26 (h := ?_)
           refine pv_ 7 33 (h := ?_)
           refine pv_ 8 34 (h := ?_)
           refine one_ (i := 9) (N := none) #[true, true, true, true, true, true, true, true, true, true, false] rfl rfl (one_of HT_.out (by kernel_rfl)) (by decide) (fun K hK => ?_)
           have hs104 : w103.cell? ⟨gb304, 0, none⟩ = some (.int .i64 x292000_2) := (blk_cell BK304.out 0).trans rfl
           have hfs104 := blk_frozen BK304.out 0
           have hns104_0 := NB287_304.out
           have hns104_1 := NB291_304.out
           have hms104_0 := NB304_287.out
           have hms104_1 := NB304_291.out
           have hs106 : w103.cell? ⟨gb304, 1, none⟩ = some (.slice Ao34 x292001_2.length co34) := (blk_cell BK304.out 1).trans rfl
           have hfs106 := blk_frozen BK304.out 1
           have hns106_0 := NB287_304.out
           have hns106_1 := NB291_304.out
           have hms106_0 := NB304_287.out
           have hms106_1 := NB304_291.out
           refine skip_ (w1 := ?_) (by rfl) rfl ?_ ?_
           rotate_left
           ·go_simp
            rfl
           refine hK.out _ _ ⟨((cell_far (p := ⟨gb304, _, none⟩) NB291_304.out _).trans (((cell_far (p := ⟨gb304, _, none⟩) NB291_304.out _).trans (hHeld.1)))), ((cell_far (p := ⟨gb304, _, none⟩) NB291_304.out _).trans (((cell_far (p := ⟨gb304, _, none⟩) NB291_304.out _).trans (hHeld.2))))⟩ (fun hHeld => ?_)
           clear hK K
           refine pv_ 10 6 (h := ?_)
           refine done_ (done_of HT_.out (by kernel_rfl)) ?_
           have hnb107 := NB304_287.out
           have hnc107 := NB287_304.out
           have hnb108 := NB304_291.out
           have hnc108 := NB291_304.out
           have hnb109 := NB304_0.out
           have hnc109 := NB0_304.out
           have hcz110_0 : w103.cell? ⟨gb304, 0, none⟩ = some (.int .i64 x292000_2) := (blk_cell BK304.out 0).trans rfl
           have hcz110_1 : w103.cell? ⟨gb304, 1, none⟩ = some (.slice Ao34 x292001_2.length co34) := (blk_cell BK304.out 1).trans rfl
           have hfz110_0 := blk_frozen BK304.out 0
           have hfz110_1 := blk_frozen BK304.out 1
           have hnb111 := NB291_287.out
           have hnc111 := NB287_291.out
           have hnb112 := NB291_0.out
           have hnc112 := NB0_291.out
           have hcz113_0 : w103.cell? ⟨gb291, 0, none⟩ = some (.int .i64 x292000_2) := (blk_cell BK291.out 0).trans rfl
           have hcz113_1 : w103.cell? ⟨gb291, 1, none⟩ = some (.slice Ao34 x292001_2.length co34) := (blk_cell BK291.out 1).trans rfl
           have hfz113_0 := blk_frozen BK291.out 0
           have hfz113_1 := blk_frozen BK291.out 1
           try go_wp2_with (first | ((with_reducible refine gate_store (t := 63) (p := 3) rfl ?_); refine store_event (t := 63) (p := 3) (v := ?vo_w114) (w1 := ((((w103.setCell ⟨gb304, 0, none⟩ (.int .i64 t333)).setCell ⟨gb304, 1, none⟩ (.slice Ao105 t334.length co105)).setCell ⟨gb291, 0, none⟩ (.int .i64 t333)).setCell ⟨gb291, 1, none⟩ (.slice Ao105 t334.length co105))) ?hg ?ho ?hn ?hr ?_; (case ho => rfl); (case hg => rfl); (case hn => rfl); (case hr => first | (go_simp; done) | (go_simp; rfl)); intro w114 hw; replace HO_292001 : Aside0 (Kd.R k81 81 w114 w.heap.size (fun k_ => some k_ ≠ (.slice Ao105 t334.length co105 : Value).ownBlock) (.slice Ao34 x292001_2.length co34) x292001_2) := ⟨(by rw [hw]; exact (by (with_reducible repeat (first | apply Kd.R_alloc | apply Kd.R_drewN | apply Kd.R_drew)); exact Kd.R_mono (Kd.R_far (p := ⟨gb291, 1, none⟩) (Kd.R_far (p := ⟨gb291, 0, none⟩) (Kd.R_far (p := ⟨gb304, 1, none⟩) (Kd.R_far (p := ⟨gb304, 0, none⟩) (Kd.R_types (Kd.R_types HO_292001.out BK304.out (by decide)) BK291.out (by decide)) (fun _ hk => hk.1.2) (.int .i64 t333)) (fun _ hk => hk.1.2) (.slice Ao105 t334.length co105)) (fun _ hk => hk.2) (.int .i64 t333)) (fun _ hk => hk.2) (.slice Ao105 t334.length co105)) (fun _ hk => hk.1.1.2)))⟩; replace HO_305001 : Aside0 (Kd.R k81 81 w114 w.heap.size (fun k_ => some k_ ≠ (.slice Ao105 t334.length co105 : Value).ownBlock) (.slice Ao34 x292001_2.length co34) x292001_2) := ⟨(by rw [hw]; exact (by (with_reducible repeat (first | apply Kd.R_alloc | apply Kd.R_drewN | apply Kd.R_drew)); exact Kd.R_mono (Kd.R_far (p := ⟨gb291, 1, none⟩) (Kd.R_far (p := ⟨gb291, 0, none⟩) (Kd.R_far (p := ⟨gb304, 1, none⟩) (Kd.R_far (p := ⟨gb304, 0, none⟩) (Kd.R_types (Kd.R_types HO_305001.out BK304.out (by decide)) BK291.out (by decide)) (fun _ hk => hk.1.2) (.int .i64 t333)) (fun _ hk => hk.1.2) (.slice Ao105 t334.length co105)) (fun _ hk => hk.2) (.int .i64 t333)) (fun _ hk => hk.2) (.slice Ao105 t334.length co105)) (fun _ hk => hk.1.1.2)))⟩; replace HO336 : Aside0 (Kd.R k81 81 w114 w.heap.size (fun k_ => some k_ ≠ (.slice Ao34 x292001_2.length co34 : Value).ownBlock ∧ some k_ ≠ (.slice Ao34 x292001_2.length co34 : Value).ownBlock) (.slice Ao105 t334.length co105) t334) := ⟨(by rw [hw]; exact (by (with_reducible repeat (first | apply Kd.R_alloc | apply Kd.R_drewN | apply Kd.R_drew)); exact Kd.R_mono (Kd.R_far (p := ⟨gb291, 1, none⟩) (Kd.R_far (p := ⟨gb291, 0, none⟩) (Kd.R_far (p := ⟨gb304, 1, none⟩) (Kd.R_far (p := ⟨gb304, 0, none⟩) (Kd.R_types (Kd.R_types HO336.out BK304.out (by decide)) BK291.out (by decide)) (fun _ hk => hk.1.2) (.int .i64 t333)) (fun _ hk => hk.1.2) (.slice Ao105 t334.length co105)) (fun _ hk => hk.2) (.int .i64 t333)) (fun _ hk => hk.2) (.slice Ao105 t334.length co105)) (fun _ hk => ⟨hk.1.1.1.2, hk.1.1.2⟩)))⟩; replace BK287 : Aside0 (w114.heap[gb287]? = some (.cells #[.int .i64 0, .slice none 0 0] 63 (0, 0))) := ⟨(by rw [hw]; exact (by (with_reducible repeat (first | refine blk_drewN ?_ _ | refine blk_drew ?_ | refine blk_alloc ?_ _)); refine blk_far ?_ NB287_291.out _; (with_reducible repeat (first | refine blk_drewN ?_ _ | refine blk_drew ?_ | refine blk_alloc ?_ _)); refine blk_far ?_ NB287_291.out _; (with_reducible repeat (first | refine blk_drewN ?_ _ | refine blk_drew ?_ | refine blk_alloc ?_ _)); refine blk_far ?_ NB287_304.out _; (with_reducible repeat (first | refine blk_drewN ?_ _ | refine blk_drew ?_ | refine blk_alloc ?_ _)); refine blk_far ?_ NB287_304.out _; (with_reducible repeat (first | refine blk_drewN ?_ _ | refine blk_drew ?_ | refine blk_alloc ?_ _)); exact BK287.out))⟩; replace BK291 : Aside0 (w114.heap[gb291]? = some (.cells #[.int .i64 t333, .slice Ao105 t334.length co105] 63 (0, 0))) := ⟨(by rw [hw]; exact (by (with_reducible repeat (first | refine blk_drewN ?_ _ | refine blk_drew ?_ | refine blk_alloc ?_ _)); refine blk_put (cs := #[.int .i64 t333, .slice Ao34 x292001_2.length co34]) ?_ 1 _ rfl; (with_reducible repeat (first | refine blk_drewN ?_ _ | refine blk_drew ?_ | refine blk_alloc ?_ _)); refine blk_put (cs := #[.int .i64 x292000_2, .slice Ao34 x292001_2.length co34]) ?_ 0 _ rfl; (with_reducible repeat (first | refine blk_drewN ?_ _ | refine blk_drew ?_ | refine blk_alloc ?_ _)); refine blk_far ?_ NB291_304.out _; (with_reducible repeat (first | refine blk_drewN ?_ _ | refine blk_drew ?_ | refine blk_alloc ?_ _)); refine blk_far ?_ NB291_304.out _; (with_reducible repeat (first | refine blk_drewN ?_ _ | refine blk_drew ?_ | refine blk_alloc ?_ _)); exact BK291.out))⟩; replace BK304 : Aside0 (w114.heap[gb304]? = some (.cells #[.int .i64 t333, .slice Ao105 t334.length co105] 63 (0, 0))) := ⟨(by rw [hw]; exact (by (with_reducible repeat (first | refine blk_drewN ?_ _ | refine blk_drew ?_ | refine blk_alloc ?_ _)); refine blk_far ?_ NB304_291.out _; (with_reducible repeat (first | refine blk_drewN ?_ _ | refine blk_drew ?_ | refine blk_alloc ?_ _)); refine blk_far ?_ NB304_291.out _; (with_reducible repeat (first | refine blk_drewN ?_ _ | refine blk_drew ?_ | refine blk_alloc ?_ _)); refine blk_put (cs := #[.int .i64 t333, .slice Ao34 x292001_2.length co34]) ?_ 1 _ rfl; (with_reducible repeat (first | refine blk_drewN ?_ _ | refine blk_drew ?_ | refine blk_alloc ?_ _)); refine blk_put (cs := #[.int .i64 x292000_2, .slice Ao34 x292001_2.length co34]) ?_ 0 _ rfl; (with_reducible repeat (first | refine blk_drewN ?_ _ | refine blk_drew ?_ | refine blk_alloc ?_ _)); exact BK304.out))⟩; replace HK : Aside0 (KeepBut w w114 g none) := ⟨(by rw [hw]; exact (by repeat (first | (with_reducible first | exact HK.out | apply KeepBut.set_ | apply keep_drewN | apply keep_drew | apply keep_alloc | refine keep_far ?_ GW287.out _ | refine keep_far ?_ GW291.out _ | refine keep_far ?_ GW304.out _) | exact HK.out)))⟩; replace HB : Aside0 (Below w0.heap.size w0 w114) := ⟨(by rw [hw]; exact (by repeat (first | (with_reducible first | exact HB.out | apply below_alloc | apply pw_below_drewN | apply below_drew1 | refine below_set ?_ (IsS159.ge HI0.out) | refine below_set ?_ GE287.out | refine below_set ?_ GE291.out | refine below_set ?_ GE304.out) | exact HB.out)))⟩; replace HI0 : Aside0 (IsS159 w0 w114 g s0_0 t331 t332) := ⟨(by rw [hw]; exact (by repeat (first | (with_reducible first | exact HI0.out | apply IsS159.alloc | apply IsS159.drewN | apply IsS159.drew | apply IsS159.set_1 | apply IsS159.set_2 | refine IsS159.far ?_ NB0_287.out _ | refine IsS159.far ?_ NB0_291.out _ | refine IsS159.far ?_ NB0_304.out _) | exact HI0.out)))⟩; clear hw))
           go_roundg kj23
           case measure => have := HJ3.out; have := HK2.out; have := HJ23.out; omega
           case rel => exact ⟨(wrap64 (x4_2 + 1)), (t331), (t332), (t333), (t334), (.slice Ao105 t334.length co105), (by first | rfl | (simp; done) | (simp [*]; done)), H', ⟨by have := HJ3.out; have := HK2.out; have := HJ23.out; omega⟩, ⟨by (with_reducible repeat (first | apply Kd.R_alloc | apply Kd.R_drewN | apply Kd.R_drew)); exact Kd.R_mono HO336.out (fun _ hk => trivial)⟩, ⟨xblk⟩, ⟨xblk⟩, ⟨by repeat (first | (with_reducible first | exact HI0.out | apply IsS159.alloc | apply IsS159.drewN | apply IsS159.drew | apply IsS159.set_1 | apply IsS159.set_2 | refine IsS159.far ?_ NB0_287.out _ | refine IsS159.far ?_ NB0_291.out _ | refine IsS159.far ?_ NB0_304.out _) | exact HI0.out)⟩, ⟨by repeat (first | (with_reducible first | exact HK.out | apply KeepBut.set_ | apply keep_drewN | apply keep_drew | apply keep_alloc | refine keep_far ?_ GW287.out _ | refine keep_far ?_ GW291.out _ | refine keep_far ?_ GW304.out _) | exact HK.out)⟩, ⟨by repeat (first | (with_reducible first | exact HB.out | apply below_alloc | apply pw_below_drewN | apply below_drew1 | refine below_set ?_ (IsS159.ge HI0.out) | refine below_set ?_ GE287.out | refine below_set ?_ GE291.out | refine below_set ?_ GE304.out) | exact HB.out)⟩⟩
     ·rw [if_neg c22] at H
      have c22b0 : decide (x4_2 < t301) = false := decide_eq_false c22
      clear c22
      simp only [Option.some.injEq, Prod.mk.injEq] at H
      obtain ⟨rfl, rfl, rfl, rfl⟩ := H
      go_wp2_with (first | ((with_reducible refine gate_callee (f := 93) rfl ?_); refine goesL_ (some 19) rfl rfl Try.func93 (by kernel_rfl) rfl #[.pointer (some ⟨g, 0, none⟩), .int .i64 12] rfl (by (try simp only [List.map_toArray, List.map_cons, List.map_nil]); first | done | rfl | (simp only [List.length_drop, List.length_take]; rfl)) ?_; (with_reducible refine (spec_l1Below.calls g s0_0 x1001_2 x1002_2 12 t301 t302 t303 w0 _ ?side1 ?side2 A21.out).mono ?_); (case side1 => repeat (first | (with_reducible first | exact HI0.out | apply IsS159.alloc | apply IsS159.drewN | apply IsS159.drew | apply IsS159.set_1 | apply IsS159.set_2 | refine IsS159.far ?_ NB0_287.out _ | refine IsS159.far ?_ NB0_291.out _) | exact HI0.out)); (case side2 => repeat (first | (with_reducible first | exact HB.out | apply below_alloc | apply pw_below_drewN | apply below_drew1 | refine below_set ?_ (IsS159.ge HI0.out) | refine below_set ?_ GE287.out | refine below_set ?_ GE291.out) | exact HB.out)); rintro e w115 ⟨rfl, hi, hb, hk⟩; refine ⟨_, rfl, ?_⟩; have n0_ := Aside0.mk (Kd.R_mono (Kd.R_keep (IsS159.apart (show IsS159 w0 _ g s0_0 x1001_2 x1002_2 from by repeat (first | (with_reducible first | exact HI0.out | apply IsS159.alloc | apply IsS159.drewN | apply IsS159.drew | apply IsS159.set_1 | apply IsS159.set_2 | refine IsS159.far ?_ NB0_287.out _ | refine IsS159.far ?_ NB0_291.out _) | exact HI0.out)) (by (with_reducible repeat (first | apply Kd.R_alloc | apply Kd.R_drewN | apply Kd.R_drew)); exact HO_292001.out) (by decide)) hk (fun _ h => h.2)) (fun _ h => h.1)); have n1_ := Aside0.mk (KeepBut.blk hk (g' := gb287) (o := .cells #[.int .i64 0, .slice none 0 0] 63 (0, 0)) xblk NB287_0.out (by simp)); have n2_ := Aside0.mk (KeepBut.blk hk (g' := gb291) (o := .cells #[.int .i64 x292000_2, u292001] 63 (0, 0)) xblk NB291_0.out (by simp)); have n3_ := Aside0.mk (KeepBut.trans (by repeat (first | (with_reducible first | exact HK.out | apply KeepBut.set_ | apply keep_drewN | apply keep_drew | apply keep_alloc | refine keep_far ?_ GW287.out _ | refine keep_far ?_ GW291.out _) | exact HK.out)) hk (.inl rfl)); have n4_ := Aside0.mk (hb); have n5_ := Aside0.mk (hi); clear HO_292001; clear BK287; clear BK291; clear HK; clear HB; clear HI0; have HO_292001 := n0_; have BK287 := n1_; have BK291 := n2_; have HK := n3_; have HB := n4_; have HI0 := n5_; clear n0_ n1_ n2_ n3_ n4_ n5_; (try clear hb); (try clear hb2); (try clear hk); (try clear hi); have hnb116 := NB291_287.out; have hnc116 := NB287_291.out; have hnb117 := NB291_0.out; have hnc117 := NB0_291.out; have hcz118_0 : w115.cell? ⟨gb291, 0, none⟩ = some (.int .i64 x292000_2) := (blk_cell BK291.out 0).trans rfl; have hcz118_1 : w115.cell? ⟨gb291, 1, none⟩ = some (u292001) := (blk_cell BK291.out 1).trans rfl; have hfz118_0 := blk_frozen BK291.out 0; have hfz118_1 := blk_frozen BK291.out 1; have hnb119 := NB287_0.out; have hnc119 := NB0_287.out; have hcz120_0 : w115.cell? ⟨gb287, 0, none⟩ = some (.int .i64 0) := (blk_cell BK287.out 0).trans rfl; have hcz120_1 : w115.cell? ⟨gb287, 1, none⟩ = some (.slice none 0 0) := (blk_cell BK287.out 1).trans rfl; have hfz120_0 := blk_frozen BK287.out 0; have hfz120_1 := blk_frozen BK287.out 1; obtain ⟨Ao121, co121, eo121⟩ := Kd.R_slice HO_292001.out; subst eo121))
      refine bodyPost_ret (results_cell_row rfl _ _ gb287 63 #[.int .i64 x292000_2, .slice Ao121 x292001_2.length co121] (0, 0) _ rfl (by (with_reducible repeat (first | refine blk_drewN ?_ _ | refine blk_drew ?_ | refine blk_alloc ?_ _)); refine blk_put (cs := #[.int .i64 x292000_2, .slice none 0 0]) ?_ 1 _ rfl; (with_reducible repeat (first | refine blk_drewN ?_ _ | refine blk_drew ?_ | refine blk_alloc ?_ _)); refine blk_put (cs := #[.int .i64 0, .slice none 0 0]) ?_ 0 _ rfl; (with_reducible repeat (first | refine blk_drewN ?_ _ | refine blk_drew ?_ | refine blk_alloc ?_ _)); exact BK287.out) Try.underlying63 rfl (by kernel_rfl)) rfl ?_
      exact ⟨_, by first | rfl | (simp [errW_none, errW_some] <;> rfl) | (simp [*, errW_none, errW_some] <;> rfl), by (with_reducible repeat (first | apply Kd.R_alloc | apply Kd.R_drewN | apply Kd.R_drew)); exact Kd.R_mono (Kd.R_far (p := ⟨gb287, 1, none⟩) (Kd.R_far (p := ⟨gb287, 0, none⟩) (Kd.R_types HO_292001.out BK287.out (by decide)) (fun _ hk => hk.2) (.int .i64 x292000_2)) (fun _ hk => hk.2) (.slice Ao121 x292001_2.length co121)) (fun _ hk => trivial), by repeat (first | (with_reducible first | exact HI0.out | apply IsS159.alloc | apply IsS159.drewN | apply IsS159.drew | apply IsS159.set_1 | apply IsS159.set_2 | refine IsS159.far ?_ NB0_287.out _ | refine IsS159.far ?_ NB0_291.out _) | exact HI0.out), by repeat (first | (with_reducible first | exact HB.out | apply below_alloc | apply pw_below_drewN | apply below_drew1 | refine below_set ?_ (IsS159.ge HI0.out) | refine below_set ?_ GE287.out | refine below_set ?_ GE291.out) | exact HB.out), by repeat (first | (with_reducible first | exact HK.out | apply KeepBut.set_ | apply keep_drewN | apply keep_drew | apply keep_alloc | refine keep_far ?_ GW287.out _ | refine keep_far ?_ GW291.out _) | exact HK.out)⟩

end Go.Proofs.Ytkfoojknjmgjdaa.QFnDisk
