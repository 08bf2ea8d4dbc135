-- A walk, by a program of this session.
import Derived.Test.YtkfoojknjmgjdaaQFnSyncsx0
import Derived.Test.YtkfoojknjmgjdaaQFnSyncsx1
import Derived.Test.YtkfoojknjmgjdaaQFnSyncsx2
import Derived.Test.YtkfoojknjmgjdaaQFnSyncsx5
import Derived.Test.YtkfoojknjmgjdaaQFnSyncsx6
import Derived.Test.YtkfoojknjmgjdaaQFnSyncsx7
import Derived.Test.YtkfoojknjmgjdaaQFnSyncsx11
namespace Go.Proofs.Ytkfoojknjmgjdaa.QFnSyncs
open Go.RowKit Go.Proofs.YtkfoojknjmgjdaaW.PrintWords Go.Proofs.YtkfoojknjmgjdaaW.PrintLast Go.Proofs.YtkfoojknjmgjdaaW.PrintMore
attribute [local go_sem] max2_int min2_int max_two min_two max_three min_three max_four min_four   -- for this text's walks alone
set_option linter.unusedVariables false
set_option linter.unusedSimpArgs false

attribute [local go_sem high] eqA81
/-! ### laws_FnSyncs: function 10 -/
mutual
def laws_FnSyncs.j0 : Nat → List Int → Option (Bool)
 | 0, _ => none
 | k + 1, x0 => (spec_DrawDiskSync.f k x0).bind fun bt410 => ((impl_DiskSync.f k bt410.1 bt410.2.1 bt410.2.2).bind fun bt416 => ((spec_DiskSync.f k bt410.1 bt410.2.1 bt410.2.2).bind fun bt422 => (if bt416.2.2 = bt422.2.2 then (laws_FnSyncs.j1 k bt410.2.2 bt416.2.2 bt410.1 bt410.2.1 bt416.1 bt416.2.1) else (some false))))
def laws_FnSyncs.j1 : Nat → Int → Int → Int → List (S81) → Int → List (S81) → Option (Bool)
 | 0, _, _, _, _, _, _ => none
 | k + 1, x4, x6, x416000, x416001, x422000, x422001 => if x6 = 0 then (laws_FnSyncs.j2 k x4 x416000 x416001 x422000 x422001) else (if x6 = 1 then (some true) else ((impl_DiskSize.f k x422000 x422001).bind fun t428 => ((impl_DiskSize.f k x416000 x416001).bind fun t429 => (some (t428 == t429)))))
def laws_FnSyncs.j2 : Nat → Int → Int → List (S81) → Int → List (S81) → Option (Bool)
 | 0, _, _, _, _, _ => none
 | k + 1, x4, x416000, x416001, x422000, x422001 => (impl_DiskSync.f k x422000 x422001 x4).bind fun bt430 => ((spec_DiskRead.f k x416000 x416001 x4).bind fun bt436 => ((impl_DiskCut.f k x416000 x416001 x4 (bt436.1.size : Int)).bind fun bt438 => (if bt430.2.2 = 0 then (if bt438.2.2 = 0 then (if (bt430.2.1.length : Int) = (x416001.length : Int) then (laws_FnSyncs.j3 k x4 ((bt438.2.1.length : Int) != (x416001.length : Int)) x416000 x416001 x422000 x422001 bt430.1 bt430.2.1 bt438.1 bt438.2.1) else (laws_FnSyncs.j3 k x4 true x416000 x416001 x422000 x422001 bt430.1 bt430.2.1 bt438.1 bt438.2.1)) else (laws_FnSyncs.j3 k x4 true x416000 x416001 x422000 x422001 bt430.1 bt430.2.1 bt438.1 bt438.2.1)) else (laws_FnSyncs.j3 k x4 true x416000 x416001 x422000 x422001 bt430.1 bt430.2.1 bt438.1 bt438.2.1))))
def laws_FnSyncs.j3 : Nat → Int → Bool → Int → List (S81) → Int → List (S81) → Int → List (S81) → Int → List (S81) → Option (Bool)
 | 0, _, _, _, _, _, _, _, _, _, _ => none
 | k + 1, x4, x92, x416000, x416001, x422000, x422001, x436000, x436001, x444000, x444001 => if x92 = true then (some false) else (laws_FnSyncs.j4 k x4 x416000 x416001 x422000 x422001 x436000 x436001 x444000 x444001)
def laws_FnSyncs.j4 : Nat → Int → Int → List (S81) → Int → List (S81) → Int → List (S81) → Int → List (S81) → Option (Bool)
 | 0, _, _, _, _, _, _, _, _, _ => none
 | k + 1, x4, x416000, x416001, x422000, x422001, x436000, x436001, x444000, x444001 => laws_FnSyncs.l0 k x4 0 x416000 x416001 x422000 x422001 x436000 x436001 x444000 x444001
def laws_FnSyncs.l0 : Nat → Int → Int → Int → List (S81) → Int → List (S81) → Int → List (S81) → Int → List (S81) → Option (Bool)
 | 0, _, _, _, _, _, _, _, _, _, _ => none
 | k + 1, x4, x15, x416000, x416001, x422000, x422001, x436000, x436001, x444000, x444001 => if x15 < (x416001.length : Int) then (if 0 ≤ x15 then (if x15 < (x436001.length : Int) then (if x15 < (x422001.length : Int) then (if (!(((rd_T81 x436001 x15).f0) == ((rd_T81 x422001 x15).f0)) || (!((((rd_T81 x436001 x15).f1).toList) == (((rd_T81 x422001 x15).f1).toList)) || (!((((rd_T81 x436001 x15).f2).toList) == (((rd_T81 x422001 x15).f2).toList))))) = true then (some false) else (if x15 < (x444001.length : Int) then (if (!(((rd_T81 x444001 x15).f0) == ((rd_T81 x416001 x15).f0)) || (!((((rd_T81 x444001 x15).f1).toList) == (((rd_T81 x416001 x15).f1).toList)) || (!((((rd_T81 x444001 x15).f2).toList) == (((rd_T81 x416001 x15).f2).toList))))) = true then (some false) else (if ((rd_T81 x416001 x15).f0) = x4 then (laws_FnSyncs.l0 k x4 (wrap64 (x15 + 1)) x416000 x416001 x422000 x422001 x436000 x436001 x444000 x444001) else (if (!(((rd_T81 x422001 x15).f0) == ((rd_T81 x416001 x15).f0)) || (!((((rd_T81 x422001 x15).f1).toList) == (((rd_T81 x416001 x15).f1).toList)) || (!((((rd_T81 x422001 x15).f2).toList) == (((rd_T81 x416001 x15).f2).toList))))) = true then (some false) else (laws_FnSyncs.l0 k x4 (wrap64 (x15 + 1)) x416000 x416001 x422000 x422001 x436000 x436001 x444000 x444001)))) else (none))) else (none)) else (none)) else (none)) else (some true)
end
def laws_FnSyncs.f (k : Nat) (l0 : List Int) : Option (Bool) := (laws_big.f l0).bind fun t409 => (if t409 = true then (some true) else (laws_FnSyncs.j0 k l0))
set_option maxRecDepth 100000 in
theorem laws_FnSyncs.mono_l : ∀ k, (∀ y0, LeO (laws_FnSyncs.j0 k y0) (laws_FnSyncs.j0 (k + 1) y0)) ∧ (∀ y0 y1 y2 y3 y4 y5, LeO (laws_FnSyncs.j1 k y0 y1 y2 y3 y4 y5) (laws_FnSyncs.j1 (k + 1) y0 y1 y2 y3 y4 y5)) ∧ (∀ y0 y1 y2 y3 y4, LeO (laws_FnSyncs.j2 k y0 y1 y2 y3 y4) (laws_FnSyncs.j2 (k + 1) y0 y1 y2 y3 y4)) ∧ (∀ y0 y1 y2 y3 y4 y5 y6 y7 y8 y9, LeO (laws_FnSyncs.j3 k y0 y1 y2 y3 y4 y5 y6 y7 y8 y9) (laws_FnSyncs.j3 (k + 1) y0 y1 y2 y3 y4 y5 y6 y7 y8 y9)) ∧ (∀ y0 y1 y2 y3 y4 y5 y6 y7 y8, LeO (laws_FnSyncs.j4 k y0 y1 y2 y3 y4 y5 y6 y7 y8) (laws_FnSyncs.j4 (k + 1) y0 y1 y2 y3 y4 y5 y6 y7 y8)) ∧ (∀ y0 y1 y2 y3 y4 y5 y6 y7 y8 y9, LeO (laws_FnSyncs.l0 k y0 y1 y2 y3 y4 y5 y6 y7 y8 y9) (laws_FnSyncs.l0 (k + 1) y0 y1 y2 y3 y4 y5 y6 y7 y8 y9))
 | 0 => ⟨fun _ r h => by simp [laws_FnSyncs.j0] at h, fun _ _ _ _ _ _ r h => by simp [laws_FnSyncs.j1] at h, fun _ _ _ _ _ r h => by simp [laws_FnSyncs.j2] at h, fun _ _ _ _ _ _ _ _ _ _ r h => by simp [laws_FnSyncs.j3] at h, fun _ _ _ _ _ _ _ _ _ r h => by simp [laws_FnSyncs.j4] at h, fun _ _ _ _ _ _ _ _ _ _ r h => by simp [laws_FnSyncs.l0] at h⟩
 | k + 1 => by
  obtain ⟨ih0, ih1, ih2, ih3, ih4, ih5⟩ := laws_FnSyncs.mono_l k
  refine ⟨?_, ?_, ?_, ?_, ?_, ?_⟩
  ·intro y0
   unfold laws_FnSyncs.j0
   repeat' first
   | (with_reducible exact ih0 _)
   | (with_reducible exact ih1 _ _ _ _ _ _)
   | (with_reducible exact ih2 _ _ _ _ _)
   | (with_reducible exact ih3 _ _ _ _ _ _ _ _ _ _)
   | (with_reducible exact ih4 _ _ _ _ _ _ _ _ _)
   | (with_reducible exact ih5 _ _ _ _ _ _ _ _ _ _)
   | (with_reducible exact impl_DiskCut.mono _ _ _ _ _)
   | (with_reducible exact impl_DiskSize.mono _ _ _)
   | (with_reducible exact impl_DiskSync.mono _ _ _ _)
   | (with_reducible exact spec_DiskRead.mono _ _ _ _)
   | (with_reducible exact spec_DiskSync.mono _ _ _ _)
   | (with_reducible exact spec_DrawDiskSync.mono _ _)
   | (with_reducible exact LeO.refl _)
   | (with_reducible exact LeO.none _)
   | (with_reducible refine LeO.ite ?_ ?_)
   | (with_reducible refine LeO.bind ?_ (fun _ => ?_))
   | exact ih0 _
   | exact ih1 _ _ _ _ _ _
   | exact ih2 _ _ _ _ _
   | exact ih3 _ _ _ _ _ _ _ _ _ _
   | exact ih4 _ _ _ _ _ _ _ _ _
   | exact ih5 _ _ _ _ _ _ _ _ _ _
   | exact impl_DiskCut.mono _ _ _ _ _
   | exact impl_DiskSize.mono _ _ _
   | exact impl_DiskSync.mono _ _ _ _
   | exact spec_DiskRead.mono _ _ _ _
   | exact spec_DiskSync.mono _ _ _ _
   | exact spec_DrawDiskSync.mono _ _
   | exact LeO.none _
   | refine LeO.ite ?_ ?_
   | refine LeO.bind ?_ (fun _ => ?_)
  ·intro y0 y1 y2 y3 y4 y5
   unfold laws_FnSyncs.j1
   repeat' first
   | (with_reducible exact ih0 _)
   | (with_reducible exact ih1 _ _ _ _ _ _)
   | (with_reducible exact ih2 _ _ _ _ _)
   | (with_reducible exact ih3 _ _ _ _ _ _ _ _ _ _)
   | (with_reducible exact ih4 _ _ _ _ _ _ _ _ _)
   | (with_reducible exact ih5 _ _ _ _ _ _ _ _ _ _)
   | (with_reducible exact impl_DiskCut.mono _ _ _ _ _)
   | (with_reducible exact impl_DiskSize.mono _ _ _)
   | (with_reducible exact impl_DiskSync.mono _ _ _ _)
   | (with_reducible exact spec_DiskRead.mono _ _ _ _)
   | (with_reducible exact spec_DiskSync.mono _ _ _ _)
   | (with_reducible exact spec_DrawDiskSync.mono _ _)
   | (with_reducible exact LeO.refl _)
   | (with_reducible exact LeO.none _)
   | (with_reducible refine LeO.ite ?_ ?_)
   | (with_reducible refine LeO.bind ?_ (fun _ => ?_))
   | exact ih0 _
   | exact ih1 _ _ _ _ _ _
   | exact ih2 _ _ _ _ _
   | exact ih3 _ _ _ _ _ _ _ _ _ _
   | exact ih4 _ _ _ _ _ _ _ _ _
   | exact ih5 _ _ _ _ _ _ _ _ _ _
   | exact impl_DiskCut.mono _ _ _ _ _
   | exact impl_DiskSize.mono _ _ _
   | exact impl_DiskSync.mono _ _ _ _
   | exact spec_DiskRead.mono _ _ _ _
   | exact spec_DiskSync.mono _ _ _ _
   | exact spec_DrawDiskSync.mono _ _
   | exact LeO.none _
   | refine LeO.ite ?_ ?_
   | refine LeO.bind ?_ (fun _ => ?_)
  ·intro y0 y1 y2 y3 y4
   unfold laws_FnSyncs.j2
   repeat' first
   | (with_reducible exact ih0 _)
   | (with_reducible exact ih1 _ _ _ _ _ _)
   | (with_reducible exact ih2 _ _ _ _ _)
   | (with_reducible exact ih3 _ _ _ _ _ _ _ _ _ _)
   | (with_reducible exact ih4 _ _ _ _ _ _ _ _ _)
   | (with_reducible exact ih5 _ _ _ _ _ _ _ _ _ _)
   | (with_reducible exact impl_DiskCut.mono _ _ _ _ _)
   | (with_reducible exact impl_DiskSize.mono _ _ _)
   | (with_reducible exact impl_DiskSync.mono _ _ _ _)
   | (with_reducible exact spec_DiskRead.mono _ _ _ _)
   | (with_reducible exact spec_DiskSync.mono _ _ _ _)
   | (with_reducible exact spec_DrawDiskSync.mono _ _)
   | (with_reducible exact LeO.refl _)
   | (with_reducible exact LeO.none _)
   | (with_reducible refine LeO.ite ?_ ?_)
   | (with_reducible refine LeO.bind ?_ (fun _ => ?_))
   | exact ih0 _
   | exact ih1 _ _ _ _ _ _
   | exact ih2 _ _ _ _ _
   | exact ih3 _ _ _ _ _ _ _ _ _ _
   | exact ih4 _ _ _ _ _ _ _ _ _
   | exact ih5 _ _ _ _ _ _ _ _ _ _
   | exact impl_DiskCut.mono _ _ _ _ _
   | exact impl_DiskSize.mono _ _ _
   | exact impl_DiskSync.mono _ _ _ _
   | exact spec_DiskRead.mono _ _ _ _
   | exact spec_DiskSync.mono _ _ _ _
   | exact spec_DrawDiskSync.mono _ _
   | exact LeO.none _
   | refine LeO.ite ?_ ?_
   | refine LeO.bind ?_ (fun _ => ?_)
  ·intro y0 y1 y2 y3 y4 y5 y6 y7 y8 y9
   unfold laws_FnSyncs.j3
   repeat' first
   | (with_reducible exact ih0 _)
   | (with_reducible exact ih1 _ _ _ _ _ _)
   | (with_reducible exact ih2 _ _ _ _ _)
   | (with_reducible exact ih3 _ _ _ _ _ _ _ _ _ _)
   | (with_reducible exact ih4 _ _ _ _ _ _ _ _ _)
   | (with_reducible exact ih5 _ _ _ _ _ _ _ _ _ _)
   | (with_reducible exact impl_DiskCut.mono _ _ _ _ _)
   | (with_reducible exact impl_DiskSize.mono _ _ _)
   | (with_reducible exact impl_DiskSync.mono _ _ _ _)
   | (with_reducible exact spec_DiskRead.mono _ _ _ _)
   | (with_reducible exact spec_DiskSync.mono _ _ _ _)
   | (with_reducible exact spec_DrawDiskSync.mono _ _)
   | (with_reducible exact LeO.refl _)
   | (with_reducible exact LeO.none _)
   | (with_reducible refine LeO.ite ?_ ?_)
   | (with_reducible refine LeO.bind ?_ (fun _ => ?_))
   | exact ih0 _
   | exact ih1 _ _ _ _ _ _
   | exact ih2 _ _ _ _ _
   | exact ih3 _ _ _ _ _ _ _ _ _ _
   | exact ih4 _ _ _ _ _ _ _ _ _
   | exact ih5 _ _ _ _ _ _ _ _ _ _
   | exact impl_DiskCut.mono _ _ _ _ _
   | exact impl_DiskSize.mono _ _ _
   | exact impl_DiskSync.mono _ _ _ _
   | exact spec_DiskRead.mono _ _ _ _
   | exact spec_DiskSync.mono _ _ _ _
   | exact spec_DrawDiskSync.mono _ _
   | exact LeO.none _
   | refine LeO.ite ?_ ?_
   | refine LeO.bind ?_ (fun _ => ?_)
  ·intro y0 y1 y2 y3 y4 y5 y6 y7 y8
   unfold laws_FnSyncs.j4
   repeat' first
   | (with_reducible exact ih0 _)
   | (with_reducible exact ih1 _ _ _ _ _ _)
   | (with_reducible exact ih2 _ _ _ _ _)
   | (with_reducible exact ih3 _ _ _ _ _ _ _ _ _ _)
   | (with_reducible exact ih4 _ _ _ _ _ _ _ _ _)
   | (with_reducible exact ih5 _ _ _ _ _ _ _ _ _ _)
   | (with_reducible exact impl_DiskCut.mono _ _ _ _ _)
   | (with_reducible exact impl_DiskSize.mono _ _ _)
   | (with_reducible exact impl_DiskSync.mono _ _ _ _)
   | (with_reducible exact spec_DiskRead.mono _ _ _ _)
   | (with_reducible exact spec_DiskSync.mono _ _ _ _)
   | (with_reducible exact spec_DrawDiskSync.mono _ _)
   | (with_reducible exact LeO.refl _)
   | (with_reducible exact LeO.none _)
   | (with_reducible refine LeO.ite ?_ ?_)
   | (with_reducible refine LeO.bind ?_ (fun _ => ?_))
   | exact ih0 _
   | exact ih1 _ _ _ _ _ _
   | exact ih2 _ _ _ _ _
   | exact ih3 _ _ _ _ _ _ _ _ _ _
   | exact ih4 _ _ _ _ _ _ _ _ _
   | exact ih5 _ _ _ _ _ _ _ _ _ _
   | exact impl_DiskCut.mono _ _ _ _ _
   | exact impl_DiskSize.mono _ _ _
   | exact impl_DiskSync.mono _ _ _ _
   | exact spec_DiskRead.mono _ _ _ _
   | exact spec_DiskSync.mono _ _ _ _
   | exact spec_DrawDiskSync.mono _ _
   | exact LeO.none _
   | refine LeO.ite ?_ ?_
   | refine LeO.bind ?_ (fun _ => ?_)
  ·intro y0 y1 y2 y3 y4 y5 y6 y7 y8 y9
   unfold laws_FnSyncs.l0
   repeat' first
   | (with_reducible exact ih0 _)
   | (with_reducible exact ih1 _ _ _ _ _ _)
   | (with_reducible exact ih2 _ _ _ _ _)
   | (with_reducible exact ih3 _ _ _ _ _ _ _ _ _ _)
   | (with_reducible exact ih4 _ _ _ _ _ _ _ _ _)
   | (with_reducible exact ih5 _ _ _ _ _ _ _ _ _ _)
   | (with_reducible exact impl_DiskCut.mono _ _ _ _ _)
   | (with_reducible exact impl_DiskSize.mono _ _ _)
   | (with_reducible exact impl_DiskSync.mono _ _ _ _)
   | (with_reducible exact spec_DiskRead.mono _ _ _ _)
   | (with_reducible exact spec_DiskSync.mono _ _ _ _)
   | (with_reducible exact spec_DrawDiskSync.mono _ _)
   | (with_reducible exact LeO.refl _)
   | (with_reducible exact LeO.none _)
   | (with_reducible refine LeO.ite ?_ ?_)
   | (with_reducible refine LeO.bind ?_ (fun _ => ?_))
   | exact ih0 _
   | exact ih1 _ _ _ _ _ _
   | exact ih2 _ _ _ _ _
   | exact ih3 _ _ _ _ _ _ _ _ _ _
   | exact ih4 _ _ _ _ _ _ _ _ _
   | exact ih5 _ _ _ _ _ _ _ _ _ _
   | exact impl_DiskCut.mono _ _ _ _ _
   | exact impl_DiskSize.mono _ _ _
   | exact impl_DiskSync.mono _ _ _ _
   | exact spec_DiskRead.mono _ _ _ _
   | exact spec_DiskSync.mono _ _ _ _
   | exact spec_DrawDiskSync.mono _ _
   | exact LeO.none _
   | refine LeO.ite ?_ ?_
   | refine LeO.bind ?_ (fun _ => ?_)
theorem laws_FnSyncs.mono : ∀ a0 k, LeO (laws_FnSyncs.f k a0) (laws_FnSyncs.f (k + 1) a0) := by
 intro a0 k
 obtain ⟨ih0, ih1, ih2, ih3, ih4, ih5⟩ := laws_FnSyncs.mono_l k
 unfold laws_FnSyncs.f
 repeat' first
  | (with_reducible exact ih0 _)
  | (with_reducible exact ih1 _ _ _ _ _ _)
  | (with_reducible exact ih2 _ _ _ _ _)
  | (with_reducible exact ih3 _ _ _ _ _ _ _ _ _ _)
  | (with_reducible exact ih4 _ _ _ _ _ _ _ _ _)
  | (with_reducible exact ih5 _ _ _ _ _ _ _ _ _ _)
  | (with_reducible exact impl_DiskCut.mono _ _ _ _ _)
  | (with_reducible exact impl_DiskSize.mono _ _ _)
  | (with_reducible exact impl_DiskSync.mono _ _ _ _)
  | (with_reducible exact spec_DiskRead.mono _ _ _ _)
  | (with_reducible exact spec_DiskSync.mono _ _ _ _)
  | (with_reducible exact spec_DrawDiskSync.mono _ _)
  | (with_reducible exact LeO.refl _)
  | (with_reducible exact LeO.none _)
  | (with_reducible refine LeO.ite ?_ ?_)
  | (with_reducible refine LeO.bind ?_ (fun _ => ?_))
  | exact ih0 _
  | exact ih1 _ _ _ _ _ _
  | exact ih2 _ _ _ _ _
  | exact ih3 _ _ _ _ _ _ _ _ _ _
  | exact ih4 _ _ _ _ _ _ _ _ _
  | exact ih5 _ _ _ _ _ _ _ _ _ _
  | exact impl_DiskCut.mono _ _ _ _ _
  | exact impl_DiskSize.mono _ _ _
  | exact impl_DiskSync.mono _ _ _ _
  | exact spec_DiskRead.mono _ _ _ _
  | exact spec_DiskSync.mono _ _ _ _
  | exact spec_DrawDiskSync.mono _ _
  | exact LeO.none _
  | refine LeO.ite ?_ ?_
  | refine LeO.bind ?_ (fun _ => ?_)
def laws_FnSyncs.T9 : Bool × List (List Nat × List Nat) := (true, [([], []), ([0], [0]), ([1], [1]), ([2], [2]), ([3, 2, 2], [2, 3]), ([2], [2]), ([5, 4, 2], [2, 5]), ([4, 6, 2], [2, 4, 6]), ([2, 7], [2, 7]), ([8, 6, 0, 1, 2, 3, 4, 5, 6, 7, 8], [8])])
def laws_FnSyncs.B9 : List Nat := [0, 1, 3, 7, 15, 7, 63, 127, 255, 511]
theorem laws_FnSyncs.tab9 : rtab .any (opsOf Try.f10 9) = laws_FnSyncs.T9 := by kernel_rfl
theorem laws_FnSyncs.bits9 : waitsOk laws_FnSyncs.T9.2 laws_FnSyncs.B9 = true := by kernel_rfl
def laws_FnSyncs.T18 : Bool × List (List Nat × List Nat) := (true, [([], []), ([0], [0]), ([], []), ([1, 2], [1, 2]), ([3], [3]), ([], []), ([5], [5]), ([], []), ([6, 7], [6, 7]), ([8], [8]), ([4, 9], [4, 9]), ([10], [10]), ([11], [11]), ([12, 11], [11, 12]), ([11], [11]), ([13, 14, 11], [11, 13, 14]), ([15, 11], [11, 15]), ([11], [11]), ([17, 11], [11, 17]), ([11], [11]), ([18, 19, 11], [11, 18, 19]), ([20, 11], [11, 20]), ([16, 21, 11], [11, 16, 21]), ([11, 22], [11, 22]), ([23, 11], [23]), ([24], [24]), ([25, 24], [24, 25]), ([24], [24]), ([26, 27, 24], [24, 26, 27]), ([28, 24], [24, 28]), ([29, 24], [24, 29]), ([24], [24]), ([30, 31, 24], [24, 30, 31]), ([32, 24, 24], [24, 32]), ([33], [33]), ([34, 33], [33, 34]), ([33], [33]), ([35, 36, 33], [33, 35, 36]), ([37, 33], [33, 37]), ([33], [33]), ([39, 33], [33, 39]), ([33], [33]), ([40, 41, 33], [33, 40, 41]), ([42, 33], [33, 42]), ([38, 43, 33], [33, 38, 43]), ([33, 44, 24], [24, 33, 44]), ([24, 45], [24, 45])])
def laws_FnSyncs.B18 : List Nat := [0, 1, 0, 7, 15, 0, 32, 0, 224, 480, 1023, 2047, 4095, 8191, 4095, 32767, 65535, 4095, 135167, 4095, 921599, 1970175, 4194303, 8388607, 16777215, 33554431, 67108863, 33554431, 268435455, 536870911, 1073741823, 33554431, 4294967295, 8589934591, 17179869183, 34359738367, 17179869183, 137438953471, 274877906943, 17179869183, 566935683071, 17179869183, 3865470566399, 8263517077503, 17592186044415, 35184372088831, 70368744177663]
theorem laws_FnSyncs.tab18 : rtab .any (opsOf Try.f10 18) = laws_FnSyncs.T18 := by kernel_rfl
theorem laws_FnSyncs.bits18 : waitsOk laws_FnSyncs.T18.2 laws_FnSyncs.B18 = true := by kernel_rfl
set_option maxHeartbeats 8000000 in
set_option maxRecDepth 100000 in
theorem laws_FnSyncs.calls (k : Nat) (A0 : Option Addr) (c0 : Nat) (l0 : List Int) (r : Bool) (w : World) (hr0 : Kd.C (Kd.int .u8) w A0 l0.length l0) (hc0 : l0.length ≤ c0) (h : laws_FnSyncs.f k l0 = some r) :
 Calls Try.prog 10 #[.slice A0 l0.length c0] w fun e w' => e = .returned (.bool r) ∧ Below w.heap.size w w' := by
 have hu63 := Try.underlying63
 have hu81 := Try.underlying81
 have HR0 := Aside0.mk hr0
 have HC0 := Aside0.mk hc0
 clear hr0 hc0
 have HB := Aside0.mk (Below.refl w.heap.size w)
 have H : ((laws_big.f l0).bind fun t409 => (if t409 = true then (some true) else (laws_FnSyncs.j0 k l0))) = some r := h
 clear h
 replace H := Option.bind_eq_some_iff.mp H
 obtain ⟨t409, A20, H⟩ := H
 replace H : (if t409 = true then (some true) else (laws_FnSyncs.j0 k l0)) = some r := H
 have A2 := Aside0.mk A20
 clear A20
 have HC3 := Aside0.mk H
 clear H
 go_enter Try.func10, Try.ntmps10
 go_upto_if 17 with (first | ((with_reducible refine gate_callee (f := 20) rfl ?_); refine goesL_ (some 17) rfl rfl Try.func20 (by kernel_rfl) rfl #[.slice A0 l0.length c0] rfl (by (try simp only [List.map_toArray, List.map_cons, List.map_nil]); first | done | rfl | (simp only [List.length_drop, List.length_take]; rfl)) ?_; (with_reducible refine (laws_big.calls _ _ l0 t409 _ ?side1 ?side2 A2.out).mono ?_); (case side1 => repeat (first | exact HR0.out | (with_reducible refine Kd.C_alloc ?_ _) | (with_reducible refine Kd.C_drewN ?_ _) | (with_reducible refine Kd.C_drew ?_))); (case side2 => exact HC0.out); rintro e w' ⟨rfl, ⟨nd, rfl⟩⟩; refine ⟨_, rfl, ?_⟩))
 (try simp only [Act.put, List.setIfInBounds_toArray, List.set_cons_zero, List.set_cons_succ])
 go_cut [] (fun wc => ∃ (kq : Nat), Aside0 (laws_FnSyncs.j0 kq l0 = some r) ∧ Aside0 (kq ≤ k) ∧ Aside0 (Below w.heap.size w wc))
 case first =>
  have H := HC3.out
  clear HC3
  by_cases c4 : t409 = true
  ·subst c4
   have H1 : (some true) = some r := by rw [if_pos rfl] at H; exact H
   clear H
   have H := H1
   clear H1
   obtain rfl := Option.some.inj H
   go_wp2
   go_ret
   exact ⟨by first | rfl | (simp [errW_none, errW_some] <;> rfl) | (simp [*, errW_none, errW_some] <;> rfl), xbel⟩
  ·replace c4 := Bool.eq_false_iff.mpr c4
   subst c4
   have H1 : (laws_FnSyncs.j0 k l0) = some r := by rw [if_neg (show ¬ (false = true) by decide)] at H; exact H
   clear H
   have H := H1
   clear H1
   have H' := Aside0.mk H
   clear H
   go_wp2
   go_meet
   case rel => exact ⟨_, H', ⟨by first | omega | exact Nat.le_refl _⟩, ⟨xbel⟩⟩
 case rest =>
  clear HC3
  try clear c1
  try clear c2
  try clear p2
  try clear c4
  obtain ⟨kq, HA, HJ2, HB⟩ := hcut
  cases kq with
  | zero => exact absurd HA.out (by simp [laws_FnSyncs.j0])
  | succ kj2 =>
   have H := HA.out
   clear HA
   simp only [laws_FnSyncs.j0] at H
   replace H := Option.bind_eq_some_iff.mp H
   obtain ⟨⟨t410, t411, t414⟩, A50, H⟩ := H
   replace H : ((impl_DiskSync.f kj2 t410 t411 t414).bind fun bt416 => ((spec_DiskSync.f kj2 t410 t411 t414).bind fun bt422 => (if bt416.2.2 = bt422.2.2 then (laws_FnSyncs.j1 kj2 t414 bt416.2.2 t410 t411 bt416.1 bt416.2.1) else (some false)))) = some r := H
   have A5 := Aside0.mk A50
   clear A50
   replace H := Option.bind_eq_some_iff.mp H
   obtain ⟨⟨t416, t417, t420⟩, A60, H⟩ := H
   replace H : ((spec_DiskSync.f kj2 t410 t411 t414).bind fun bt422 => (if t420 = bt422.2.2 then (laws_FnSyncs.j1 kj2 t414 t420 t410 t411 t416 t417) else (some false))) = some r := H
   have A6 := Aside0.mk A60
   clear A60
   replace H := Option.bind_eq_some_iff.mp H
   obtain ⟨⟨t422, t423, t426⟩, A70, H⟩ := H
   replace H : (if t420 = t426 then (laws_FnSyncs.j1 kj2 t414 t420 t410 t411 t416 t417) else (some false)) = some r := H
   have A7 := Aside0.mk A70
   clear A70
   have HC8 := Aside0.mk H
   clear H
   go_upto_if 37 with (first | ((with_reducible refine gate_callee (f := 51) rfl ?_); refine goesL_ (some 20) rfl rfl Try.func51 (by kernel_rfl) rfl #[.slice A0 l0.length c0] rfl (by (try simp only [List.map_toArray, List.map_cons, List.map_nil]); first | done | rfl | (simp only [List.length_drop, List.length_take]; rfl)) ?_; (with_reducible refine (spec_DrawDiskSync.calls kj2 _ _ l0 t410 t411 t414 _ ?side1 ?side2 A5.out).mono ?_); (case side1 => exact xcb HR0); (case side2 => exact HC0.out); rintro e w9 ⟨v412, rfl, ho0, hb⟩; refine ⟨_, rfl, ?_⟩; have HO413 := Aside0.mk (Kd.R_lower ho0 (below_size xbel)); replace HB := xbs hb; (try clear hb); (try clear hb2); (try clear hk); (try clear hi); (try clear ho0)) | ((with_reducible refine gate_dst (N := 3) rfl ?_); (try (refine gate_guard (by rfl) ?_; dsimp only)); refine box_event ?hg (N := 3) ?hd (cs := #[.int .i64 0, .slice none 0 0]) (t := 63) ?hr ?_; (case hd => rfl); (case hg => rfl); (case hr => first | (go_simp; done) | (go_simp; rfl)); intro gb415 hg w10 hbox hb; replace HO413 := Aside0.mk (Kd.R_below (by (with_reducible repeat (first | apply Kd.R_alloc | apply Kd.R_drewN | apply Kd.R_drew)); exact HO413.out) hb); have BK415 := Aside0.mk (hbox); have GW415 := Aside0.mk (xge hg); have GE415 := Aside0.mk (xge hg); replace HB := xbs hb; clear hb hbox hg; have hcz11_0 : w10.cell? ⟨gb415, 0, none⟩ = some (.int .i64 0) := (blk_cell BK415.out 0).trans rfl; have hcz11_1 : w10.cell? ⟨gb415, 1, none⟩ = some (.slice none 0 0) := (blk_cell BK415.out 1).trans rfl; have hfz11_0 := blk_frozen BK415.out 0; have hfz11_1 := blk_frozen BK415.out 1; obtain ⟨Ao12, co12, eo12⟩ := Kd.R_slice HO413.out; subst eo12) | ((with_reducible refine gate_callee (f := 35) rfl ?_); refine goesL_ (some 26) rfl rfl Try.func35 (by kernel_rfl) rfl #[.agg #[.int .i64 t410, .slice Ao12 t411.length co12], .int .i64 t414] rfl (by (try simp only [List.map_toArray, List.map_cons, List.map_nil]); first | done | rfl | (simp only [List.length_drop, List.length_take]; rfl)) ?_; (with_reducible refine (impl_DiskSync.calls kj2 t410 _ _ t411 t414 t416 t417 t420 _ ?side1 ?side2 A6.out).mono ?_); (case side1 => refine (Kd.R_reads' (e := 81) (base := w.heap.size) (ok := fun k_ => True) (n := t411.length) (c := co12) ?_).2.2; exact (by (with_reducible repeat (first | apply Kd.R_alloc | apply Kd.R_drewN | apply Kd.R_drew)); exact (Kd.R_mono (Kd.R_far (p := ⟨gb415, 1, none⟩) (Kd.R_far (p := ⟨gb415, 0, none⟩) (Kd.R_types HO413.out BK415.out (by decide)) (fun _ hk => hk.2) (.int .i64 t410)) (fun _ hk => hk.2) (.slice Ao12 t411.length co12)) (fun _ h_ => h_.1)))); (case side2 => exact (Kd.R_reads' HO413.out).2.1); rintro e w13 ⟨v418, rfl, ho0, hb⟩; refine ⟨_, rfl, ?_⟩; have HO419 := Aside0.mk (Kd.R_lower (Kd.R_new' ho0 (Kd.R_lt (by (with_reducible repeat (first | apply Kd.R_alloc | apply Kd.R_drewN | apply Kd.R_drew)); exact (Kd.R_mono (Kd.R_far (p := ⟨gb415, 1, none⟩) (Kd.R_far (p := ⟨gb415, 0, none⟩) (Kd.R_types HO413.out BK415.out (by decide)) (fun _ hk => hk.2) (.int .i64 t410)) (fun _ hk => hk.2) (.slice Ao12 t411.length co12)) (fun _ h_ => h_.1))))) (below_size xbg)); replace HO413 := Aside0.mk (Kd.R_elder' (by (with_reducible repeat (first | apply Kd.R_alloc | apply Kd.R_drewN | apply Kd.R_drew)); exact (Kd.R_mono (Kd.R_far (p := ⟨gb415, 1, none⟩) (Kd.R_far (p := ⟨gb415, 0, none⟩) (Kd.R_types HO413.out BK415.out (by decide)) (fun _ hk => hk.2) (.int .i64 t410)) (fun _ hk => hk.2) (.slice Ao12 t411.length co12)) (fun _ h_ => h_.1))) (Kd.R_base ho0) hb); replace BK415 := Aside0.mk (blk_below (g := gb415) (o := .cells #[.int .i64 t410, .slice Ao12 t411.length co12] 63 (0, 0)) (by (with_reducible repeat (first | refine blk_drewN ?_ _ | refine blk_drew ?_ | refine blk_alloc ?_ _)); refine blk_put (cs := #[.int .i64 t410, .slice none 0 0]) ?_ 1 _ rfl; (with_reducible repeat (first | refine blk_drewN ?_ _ | refine blk_drew ?_ | refine blk_alloc ?_ _)); refine blk_put (cs := #[.int .i64 0, .slice none 0 0]) ?_ 0 _ rfl; (with_reducible repeat (first | refine blk_drewN ?_ _ | refine blk_drew ?_ | refine blk_alloc ?_ _)); exact BK415.out) hb); replace HB := xbs hb; (try clear hb); (try clear hb2); (try clear hk); (try clear hi); (try clear ho0)) | ((with_reducible refine gate_dst (N := 5) rfl ?_); (try (refine gate_guard (by rfl) ?_; dsimp only)); refine box_event ?hg (N := 5) ?hd (cs := #[.int .i64 0, .slice none 0 0]) (t := 63) ?hr ?_; (case hd => rfl); (case hg => rfl); (case hr => first | (go_simp; done) | (go_simp; rfl)); intro gb421 hg w14 hbox hb; replace HO413 := Aside0.mk (Kd.R_below (by (with_reducible repeat (first | apply Kd.R_alloc | apply Kd.R_drewN | apply Kd.R_drew)); exact HO413.out) hb); replace HO419 := Aside0.mk (Kd.R_below (by (with_reducible repeat (first | apply Kd.R_alloc | apply Kd.R_drewN | apply Kd.R_drew)); exact HO419.out) hb); have GW421 := Aside0.mk (xge hg); have GE421 := Aside0.mk (xge hg); replace HB := xbs hb; have NB415_421 := Aside0.mk ((by rw [hg]; exact Nat.ne_of_lt (blk_lt (g := gb415) (o := .cells #[.int .i64 t410, .slice Ao12 t411.length co12] 63 (0, 0)) xblk) : gb415 ≠ gb421)); have NB421_415 := Aside0.mk ((by rw [hg]; exact Nat.ne_of_gt (blk_lt (g := gb415) (o := .cells #[.int .i64 t410, .slice Ao12 t411.length co12] 63 (0, 0)) xblk) : gb421 ≠ gb415)); replace BK415 := xbb BK415 hb; have BK421 := Aside0.mk (hbox); clear hb hbox hg; have hnb15 := NB421_415.out; have hnc15 := NB415_421.out; have hcz16_0 : w14.cell? ⟨gb421, 0, none⟩ = some (.int .i64 0) := (blk_cell BK421.out 0).trans rfl; have hcz16_1 : w14.cell? ⟨gb421, 1, none⟩ = some (.slice none 0 0) := (blk_cell BK421.out 1).trans rfl; have hfz16_0 := blk_frozen BK421.out 0; have hfz16_1 := blk_frozen BK421.out 1; obtain ⟨Ao17, co17, eo17⟩ := Kd.R_slice HO419.out; subst eo17; have hcz18_0 : w14.cell? ⟨gb415, 0, none⟩ = some (.int .i64 t410) := (blk_cell BK415.out 0).trans rfl; have hcz18_1 : w14.cell? ⟨gb415, 1, none⟩ = some (.slice Ao12 t411.length co12) := (blk_cell BK415.out 1).trans rfl; have hfz18_0 := blk_frozen BK415.out 0; have hfz18_1 := blk_frozen BK415.out 1) | ((with_reducible refine gate_callee (f := 33) rfl ?_); refine goesL_ (some 32) rfl rfl Try.func33 (by kernel_rfl) rfl #[.agg #[.int .i64 t410, .slice Ao12 t411.length co12], .int .i64 t414] rfl (by (try simp only [List.map_toArray, List.map_cons, List.map_nil]); first | done | rfl | (simp only [List.length_drop, List.length_take]; rfl)) ?_; (with_reducible refine (spec_DiskSync.calls kj2 t410 _ _ t411 t414 t422 t423 t426 _ ?side1 ?side2 A7.out).mono ?_); (case side1 => refine (Kd.R_reads' (e := 81) (base := w.heap.size) (ok := fun k_ => (True ∧ some k_ ≠ (.slice Ao17 t417.length co17 : Value).ownBlock)) (n := t411.length) (c := co12) ?_).2.2; exact (by (with_reducible repeat (first | apply Kd.R_alloc | apply Kd.R_drewN | apply Kd.R_drew)); exact (Kd.R_mono (Kd.R_far (p := ⟨gb421, 1, none⟩) (Kd.R_far (p := ⟨gb421, 0, none⟩) (Kd.R_types HO413.out BK421.out (by decide)) (fun _ hk => hk.2) (.int .i64 t416)) (fun _ hk => hk.2) (.slice Ao17 t417.length co17)) (fun _ h_ => h_.1)))); (case side2 => exact (Kd.R_reads' HO413.out).2.1); rintro e w19 ⟨v424, rfl, ho0, hb⟩; refine ⟨_, rfl, ?_⟩; have HO425 := Aside0.mk (Kd.R_lower (Kd.R_new' (Kd.R_new' ho0 (Kd.R_lt (by (with_reducible repeat (first | apply Kd.R_alloc | apply Kd.R_drewN | apply Kd.R_drew)); exact (Kd.R_mono (Kd.R_far (p := ⟨gb421, 1, none⟩) (Kd.R_far (p := ⟨gb421, 0, none⟩) (Kd.R_types HO413.out BK421.out (by decide)) (fun _ hk => hk.2) (.int .i64 t416)) (fun _ hk => hk.2) (.slice Ao17 t417.length co17)) (fun _ h_ => h_.1))))) (Kd.R_lt (by (with_reducible repeat (first | apply Kd.R_alloc | apply Kd.R_drewN | apply Kd.R_drew)); exact (Kd.R_mono (Kd.R_far (p := ⟨gb421, 1, none⟩) (Kd.R_far (p := ⟨gb421, 0, none⟩) (Kd.R_types HO419.out BK421.out (by decide)) (fun _ hk => hk.2) (.int .i64 t416)) (fun _ hk => hk.2) (.slice Ao17 t417.length co17)) (fun _ h_ => h_.1))))) (below_size xbg)); replace HO413 := Aside0.mk (Kd.R_elder' (by (with_reducible repeat (first | apply Kd.R_alloc | apply Kd.R_drewN | apply Kd.R_drew)); exact (Kd.R_mono (Kd.R_far (p := ⟨gb421, 1, none⟩) (Kd.R_far (p := ⟨gb421, 0, none⟩) (Kd.R_types HO413.out BK421.out (by decide)) (fun _ hk => hk.2) (.int .i64 t416)) (fun _ hk => hk.2) (.slice Ao17 t417.length co17)) (fun _ h_ => h_.1))) (Kd.R_base ho0) hb); replace HO419 := Aside0.mk (Kd.R_elder' (by (with_reducible repeat (first | apply Kd.R_alloc | apply Kd.R_drewN | apply Kd.R_drew)); exact (Kd.R_mono (Kd.R_far (p := ⟨gb421, 1, none⟩) (Kd.R_far (p := ⟨gb421, 0, none⟩) (Kd.R_types HO419.out BK421.out (by decide)) (fun _ hk => hk.2) (.int .i64 t416)) (fun _ hk => hk.2) (.slice Ao17 t417.length co17)) (fun _ h_ => h_.1))) (Kd.R_base ho0) hb); replace BK415 := Aside0.mk (blk_below (g := gb415) (o := .cells #[.int .i64 t410, .slice Ao12 t411.length co12] 63 (0, 0)) (by (with_reducible repeat (first | refine blk_drewN ?_ _ | refine blk_drew ?_ | refine blk_alloc ?_ _)); refine blk_far ?_ NB415_421.out _; (with_reducible repeat (first | refine blk_drewN ?_ _ | refine blk_drew ?_ | refine blk_alloc ?_ _)); refine blk_far ?_ NB415_421.out _; (with_reducible repeat (first | refine blk_drewN ?_ _ | refine blk_drew ?_ | refine blk_alloc ?_ _)); exact BK415.out) hb); replace BK421 := Aside0.mk (blk_below (g := gb421) (o := .cells #[.int .i64 t416, .slice Ao17 t417.length co17] 63 (0, 0)) (by (with_reducible repeat (first | refine blk_drewN ?_ _ | refine blk_drew ?_ | refine blk_alloc ?_ _)); refine blk_put (cs := #[.int .i64 t416, .slice none 0 0]) ?_ 1 _ rfl; (with_reducible repeat (first | refine blk_drewN ?_ _ | refine blk_drew ?_ | refine blk_alloc ?_ _)); refine blk_put (cs := #[.int .i64 0, .slice none 0 0]) ?_ 0 _ rfl; (with_reducible repeat (first | refine blk_drewN ?_ _ | refine blk_drew ?_ | refine blk_alloc ?_ _)); exact BK421.out) hb); replace HB := xbs hb; (try clear hb); (try clear hb2); (try clear hk); (try clear hi); (try clear ho0)) | ((with_reducible refine gate_dst (N := 7) rfl ?_); (try (refine gate_guard (by rfl) ?_; dsimp only)); refine box_event ?hg (N := 7) ?hd (cs := #[.int .i64 0, .slice none 0 0]) (t := 63) ?hr ?_; (case hd => rfl); (case hg => rfl); (case hr => first | (go_simp; done) | (go_simp; rfl)); intro gb427 hg w20 hbox hb; replace HO413 := Aside0.mk (Kd.R_below (by (with_reducible repeat (first | apply Kd.R_alloc | apply Kd.R_drewN | apply Kd.R_drew)); exact HO413.out) hb); replace HO419 := Aside0.mk (Kd.R_below (by (with_reducible repeat (first | apply Kd.R_alloc | apply Kd.R_drewN | apply Kd.R_drew)); exact HO419.out) hb); replace HO425 := Aside0.mk (Kd.R_below (by (with_reducible repeat (first | apply Kd.R_alloc | apply Kd.R_drewN | apply Kd.R_drew)); exact HO425.out) hb); have GW427 := Aside0.mk (xge hg); have GE427 := Aside0.mk (xge hg); replace HB := xbs hb; have NB415_427 := Aside0.mk ((by rw [hg]; exact Nat.ne_of_lt (blk_lt (g := gb415) (o := .cells #[.int .i64 t410, .slice Ao12 t411.length co12] 63 (0, 0)) xblk) : gb415 ≠ gb427)); have NB427_415 := Aside0.mk ((by rw [hg]; exact Nat.ne_of_gt (blk_lt (g := gb415) (o := .cells #[.int .i64 t410, .slice Ao12 t411.length co12] 63 (0, 0)) xblk) : gb427 ≠ gb415)); have NB421_427 := Aside0.mk ((by rw [hg]; exact Nat.ne_of_lt (blk_lt (g := gb421) (o := .cells #[.int .i64 t416, .slice Ao17 t417.length co17] 63 (0, 0)) xblk) : gb421 ≠ gb427)); have NB427_421 := Aside0.mk ((by rw [hg]; exact Nat.ne_of_gt (blk_lt (g := gb421) (o := .cells #[.int .i64 t416, .slice Ao17 t417.length co17] 63 (0, 0)) xblk) : gb427 ≠ gb421)); replace BK415 := xbb BK415 hb; replace BK421 := xbb BK421 hb; have BK427 := Aside0.mk (hbox); clear hb hbox hg; have hnb21 := NB427_415.out; have hnc21 := NB415_427.out; have hnb22 := NB427_421.out; have hnc22 := NB421_427.out; have hcz23_0 : w20.cell? ⟨gb427, 0, none⟩ = some (.int .i64 0) := (blk_cell BK427.out 0).trans rfl; have hcz23_1 : w20.cell? ⟨gb427, 1, none⟩ = some (.slice none 0 0) := (blk_cell BK427.out 1).trans rfl; have hfz23_0 := blk_frozen BK427.out 0; have hfz23_1 := blk_frozen BK427.out 1; obtain ⟨Ao24, co24, eo24⟩ := Kd.R_slice HO425.out; subst eo24))
   (try simp only [Act.put, List.setIfInBounds_toArray, List.set_cons_zero, List.set_cons_succ])
   go_cut [] (fun wc => ∃ (kq : Nat), Aside0 (laws_FnSyncs.j1 kq t414 t420 t410 t411 t416 t417 = some r) ∧ Aside0 (kq ≤ kj2) ∧ Aside0 (Kd.R k81 81 wc w.heap.size (fun k_ => some k_ ≠ ((.slice Ao17 t417.length co17) : Value).ownBlock ∧ some k_ ≠ ((.slice Ao24 t423.length co24) : Value).ownBlock) (.slice Ao12 t411.length co12) t411) ∧ Aside0 (Kd.R k81 81 wc w.heap.size (fun k_ => some k_ ≠ ((.slice Ao12 t411.length co12) : Value).ownBlock ∧ some k_ ≠ ((.slice Ao24 t423.length co24) : Value).ownBlock) (.slice Ao17 t417.length co17) t417) ∧ Aside0 (Kd.R k81 81 wc w.heap.size (fun k_ => some k_ ≠ ((.slice Ao12 t411.length co12) : Value).ownBlock ∧ some k_ ≠ ((.slice Ao17 t417.length co17) : Value).ownBlock) (.slice Ao24 t423.length co24) t423) ∧ Aside0 (wc.heap[gb415]? = some (.cells #[.int .i64 t410, (.slice Ao12 t411.length co12)] 63 (0, 0))) ∧ Aside0 (wc.heap[gb421]? = some (.cells #[.int .i64 t416, (.slice Ao17 t417.length co17)] 63 (0, 0))) ∧ Aside0 (wc.heap[gb427]? = some (.cells #[.int .i64 t422, (.slice Ao24 t423.length co24)] 63 (0, 0))) ∧ Aside0 (Below w.heap.size w wc))
   case first =>
    have H := HC8.out
    clear HC8
    by_cases c25 : t420 = t426
    ·rw [if_pos c25] at H
     have c25b0 : (t420 == t426) = true := beq_iff_eq.mpr c25
     have c25b1 : (t420 != t426) = false := bne_eq_false_iff_eq.mpr c25
     clear c25
     (first | rw [c25b0] | (simp only [i64_w, i32_w]; rw [c25b0]) | skip)
     have H' := Aside0.mk H
     clear H
     go_wp2
     go_meet
     case rel => exact ⟨_, H', ⟨by have := HJ2.out; first | omega | exact Nat.le_refl _⟩, ⟨by (with_reducible repeat (first | apply Kd.R_alloc | apply Kd.R_drewN | apply Kd.R_drew)); exact Kd.R_mono (Kd.R_far (p := ⟨gb427, 1, none⟩) (Kd.R_far (p := ⟨gb427, 0, none⟩) (Kd.R_types HO413.out BK427.out (by decide)) (fun _ hk => hk.2) (.int .i64 t422)) (fun _ hk => hk.2) (.slice Ao24 t423.length co24)) (fun _ hk => ⟨hk.1.1.2, hk.1.2⟩)⟩, ⟨by (with_reducible repeat (first | apply Kd.R_alloc | apply Kd.R_drewN | apply Kd.R_drew)); exact Kd.R_mono (Kd.R_far (p := ⟨gb427, 1, none⟩) (Kd.R_far (p := ⟨gb427, 0, none⟩) (Kd.R_types HO419.out BK427.out (by decide)) (fun _ hk => hk.2) (.int .i64 t422)) (fun _ hk => hk.2) (.slice Ao24 t423.length co24)) (fun _ hk => ⟨hk.1.1.2, hk.1.2⟩)⟩, ⟨by (with_reducible repeat (first | apply Kd.R_alloc | apply Kd.R_drewN | apply Kd.R_drew)); exact Kd.R_mono (Kd.R_far (p := ⟨gb427, 1, none⟩) (Kd.R_far (p := ⟨gb427, 0, none⟩) (Kd.R_types HO425.out BK427.out (by decide)) (fun _ hk => hk.2) (.int .i64 t422)) (fun _ hk => hk.2) (.slice Ao24 t423.length co24)) (fun _ hk => ⟨hk.1.1.2, hk.1.2⟩)⟩, ⟨by (with_reducible repeat (first | refine blk_drewN ?_ _ | refine blk_drew ?_ | refine blk_alloc ?_ _)); refine blk_far ?_ NB415_427.out _; (with_reducible repeat (first | refine blk_drewN ?_ _ | refine blk_drew ?_ | refine blk_alloc ?_ _)); refine blk_far ?_ NB415_427.out _; (with_reducible repeat (first | refine blk_drewN ?_ _ | refine blk_drew ?_ | refine blk_alloc ?_ _)); exact BK415.out⟩, ⟨by (with_reducible repeat (first | refine blk_drewN ?_ _ | refine blk_drew ?_ | refine blk_alloc ?_ _)); refine blk_far ?_ NB421_427.out _; (with_reducible repeat (first | refine blk_drewN ?_ _ | refine blk_drew ?_ | refine blk_alloc ?_ _)); refine blk_far ?_ NB421_427.out _; (with_reducible repeat (first | refine blk_drewN ?_ _ | refine blk_drew ?_ | refine blk_alloc ?_ _)); exact BK421.out⟩, ⟨by (with_reducible repeat (first | refine blk_drewN ?_ _ | refine blk_drew ?_ | refine blk_alloc ?_ _)); refine blk_put (cs := #[.int .i64 t422, .slice none 0 0]) ?_ 1 _ rfl; (with_reducible repeat (first | refine blk_drewN ?_ _ | refine blk_drew ?_ | refine blk_alloc ?_ _)); refine blk_put (cs := #[.int .i64 0, .slice none 0 0]) ?_ 0 _ rfl; (with_reducible repeat (first | refine blk_drewN ?_ _ | refine blk_drew ?_ | refine blk_alloc ?_ _)); exact BK427.out⟩, ⟨xbg⟩⟩
    ·rw [if_neg c25] at H
     have c25b0 : (t420 == t426) = false := beq_eq_false_iff_ne.mpr c25
     have c25b1 : (t420 != t426) = true := bne_iff_ne.mpr c25
     (first | rw [c25b0] | (simp only [i64_w, i32_w]; rw [c25b0]) | skip)
     obtain rfl := Option.some.inj H
     go_wp2
     go_ret
     exact ⟨by first | rfl | (simp [errW_none, errW_some] <;> rfl) | (simp [*, errW_none, errW_some] <;> rfl), xbg⟩
   case rest =>
    clear HC8
    try clear c1
    try clear c2
    try clear p2
    try clear c3
    try clear c4
    try clear c5
    try clear c10
    try clear c15
    try clear c20
    try clear c21
    try clear c22
    try clear c25
    try clear c25b0
    try clear c25b1
    try clear hcz11_0
    try clear hcz11_1
    try clear hcz16_0
    try clear hcz16_1
    try clear hcz18_0
    try clear hcz18_1
    try clear hcz23_0
    try clear hcz23_1
    try clear hfz11_0
    try clear hfz11_1
    try clear hfz16_0
    try clear hfz16_1
    try clear hfz18_0
    try clear hfz18_1
    try clear hfz23_0
    try clear hfz23_1
    try clear p2
    obtain ⟨kq, HA, HJ7, HO_416001, HO_422001, HO_428001, BK415, BK421, BK427, HB⟩ := hcut
    cases kq with
    | zero => exact absurd HA.out (by simp [laws_FnSyncs.j1])
    | succ kj7 =>
     have H := HA.out
     clear HA
     simp only [laws_FnSyncs.j1] at H
     have HC26 := Aside0.mk H
     clear H
     go_upto_if 39 with (fail)
     go_cut [] (fun wc => ∃ (kq : Nat), Aside0 (laws_FnSyncs.j2 kq t414 t410 t411 t416 t417 = some r) ∧ Aside0 (kq ≤ kj7) ∧ Aside0 (Kd.R k81 81 wc w.heap.size (fun k_ => some k_ ≠ ((.slice Ao17 t417.length co17) : Value).ownBlock ∧ some k_ ≠ ((.slice Ao24 t423.length co24) : Value).ownBlock) (.slice Ao12 t411.length co12) t411) ∧ Aside0 (Kd.R k81 81 wc w.heap.size (fun k_ => some k_ ≠ ((.slice Ao12 t411.length co12) : Value).ownBlock ∧ some k_ ≠ ((.slice Ao24 t423.length co24) : Value).ownBlock) (.slice Ao17 t417.length co17) t417) ∧ Aside0 (Kd.R k81 81 wc w.heap.size (fun k_ => some k_ ≠ ((.slice Ao12 t411.length co12) : Value).ownBlock ∧ some k_ ≠ ((.slice Ao17 t417.length co17) : Value).ownBlock) (.slice Ao24 t423.length co24) t423) ∧ Aside0 (wc.heap[gb415]? = some (.cells #[.int .i64 t410, (.slice Ao12 t411.length co12)] 63 (0, 0))) ∧ Aside0 (wc.heap[gb421]? = some (.cells #[.int .i64 t416, (.slice Ao17 t417.length co17)] 63 (0, 0))) ∧ Aside0 (wc.heap[gb427]? = some (.cells #[.int .i64 t422, (.slice Ao24 t423.length co24)] 63 (0, 0))) ∧ Aside0 (Below w.heap.size w wc))
     case first =>
      have H := HC26.out
      clear HC26
      by_cases c27 : t420 = 0
      ·rw [if_pos c27] at H
       have c27b0 : (t420 == 0) = true := beq_iff_eq.mpr c27
       have c27b1 : (t420 != 0) = false := bne_eq_false_iff_eq.mpr c27
       clear c27
       (first | rw [c27b0] | (simp only [i64_w, i32_w]; rw [c27b0]) | skip)
       have H' := Aside0.mk H
       clear H
       go_wp2
       go_meet
       case rel => exact ⟨_, H', ⟨by have := HJ2.out; have := HJ7.out; first | omega | exact Nat.le_refl _⟩, ⟨by (with_reducible repeat (first | apply Kd.R_alloc | apply Kd.R_drewN | apply Kd.R_drew)); exact HO_416001.out⟩, ⟨by (with_reducible repeat (first | apply Kd.R_alloc | apply Kd.R_drewN | apply Kd.R_drew)); exact HO_422001.out⟩, ⟨by (with_reducible repeat (first | apply Kd.R_alloc | apply Kd.R_drewN | apply Kd.R_drew)); exact HO_428001.out⟩, ⟨xblk⟩, ⟨xblk⟩, ⟨xblk⟩, ⟨xbg⟩⟩
      ·rw [if_neg c27] at H
       have c27b0 : (t420 == 0) = false := beq_eq_false_iff_ne.mpr c27
       have c27b1 : (t420 != 0) = true := bne_iff_ne.mpr c27
       (first | rw [c27b0] | (simp only [i64_w, i32_w]; rw [c27b0]) | skip)
       by_cases c28 : t420 = 1
       ·rw [if_pos c28] at H
        have c28b0 : (t420 == 1) = true := beq_iff_eq.mpr c28
        have c28b1 : (t420 != 1) = false := bne_eq_false_iff_eq.mpr c28
        clear c28
        obtain rfl := Option.some.inj H
        try go_wp2
        replace HO_416001 := Aside0.mk (Kd.R_drew HO_416001.out)
        replace HO_422001 := Aside0.mk (Kd.R_drew HO_422001.out)
        replace HO_428001 := Aside0.mk (Kd.R_drew HO_428001.out)
        replace BK415 := Aside0.mk (blk_drew BK415.out)
        replace BK421 := Aside0.mk (blk_drew BK421.out)
        replace BK427 := Aside0.mk (blk_drew BK427.out)
        replace HB := Aside0.mk (below_drew1 HB.out)
        refine start_ (n := 10) (S := fun w' => True) (ds := []) #[false, false, false, false, false, false, false, false, false, false] (by kernel_rfl) rfl rfl trivial (fun hHeld => ?_); refine with_tabW laws_FnSyncs.tab9 laws_FnSyncs.bits9 (fun HT_ HW_ => ?_)
        generalize wc.drew = w29 at HO_416001 HO_422001 HO_428001 BK415 BK421 BK427 HB hHeld ⊢
        refine pv_ 0 40 (h := ?_)
        refine pv_ 1 41 (h := ?_)
        refine pv_ 2 42 (h := ?_)
        refine pu_ 3 43 (h := ?_)
        refine pu_ 4 44 (h := ?_)
        refine pu_ 5 45 (h := ?_)
        refine pu_ 6 46 (h := ?_)
        refine pu_ 7 47 (h := ?_)
        refine pv_ 8 48 (h := ?_)
        refine pv_ 9 2 (h := ?_)
        refine done_ (done_of HT_.out (by kernel_rfl)) ?_
        try go_wp2
        go_ret
        exact ⟨by first | rfl | (simp [errW_none, errW_some] <;> rfl) | (simp [*, errW_none, errW_some] <;> rfl), xbg⟩
       ·rw [if_neg c28] at H
        have c28b0 : (t420 == 1) = false := beq_eq_false_iff_ne.mpr c28
        have c28b1 : (t420 != 1) = true := bne_iff_ne.mpr c28
        replace H := Option.bind_eq_some_iff.mp H
        obtain ⟨t428, A300, H⟩ := H
        replace H : ((impl_DiskSize.f kj7 t410 t411).bind fun t429 => (some (t428 == t429))) = some r := H
        have A30 := Aside0.mk A300
        clear A300
        replace H := Option.bind_eq_some_iff.mp H
        obtain ⟨t429, A310, H⟩ := H
        replace H : (some (t428 == t429)) = some r := H
        have A31 := Aside0.mk A310
        clear A310
        obtain rfl := Option.some.inj H
        try go_wp2
        replace HO_416001 := Aside0.mk (Kd.R_drew HO_416001.out)
        replace HO_422001 := Aside0.mk (Kd.R_drew HO_422001.out)
        replace HO_428001 := Aside0.mk (Kd.R_drew HO_428001.out)
        replace BK415 := Aside0.mk (blk_drew BK415.out)
        replace BK421 := Aside0.mk (blk_drew BK421.out)
        replace BK427 := Aside0.mk (blk_drew BK427.out)
        replace HB := Aside0.mk (below_drew1 HB.out)
        refine start_ (n := 10) (S := fun w' => w'.cell? ⟨gb421, 0, none⟩ = some (.int .i64 t416) ∧ w'.cell? ⟨gb421, 1, none⟩ = some (.slice Ao17 t417.length co17) ∧ w'.cell? ⟨gb415, 0, none⟩ = some (.int .i64 t410) ∧ w'.cell? ⟨gb415, 1, none⟩ = some (.slice Ao12 t411.length co12)) (ds := []) #[false, false, false, false, false, false, false, false, false, false] (by kernel_rfl) rfl rfl ⟨(blk_cell BK421.out 0).trans rfl, (blk_cell BK421.out 1).trans rfl, (blk_cell BK415.out 0).trans rfl, (blk_cell BK415.out 1).trans rfl⟩ (fun hHeld => ?_); refine with_tabW laws_FnSyncs.tab9 laws_FnSyncs.bits9 (fun HT_ HW_ => ?_)
        generalize wc.drew = w32 at HO_416001 HO_422001 HO_428001 BK415 BK421 BK427 HB hHeld ⊢
        refine pv_ 0 40 (h := ?_)
        refine pv_ 1 41 (h := ?_)
        refine pv_ 2 42 (h := ?_)
        refine tk_ 3 43 (h := ?_)
        refine tk_ 5 45 (h := ?_)
        refine on_ 4 44 (h := fun K hK => ?_)
        refine goes_ Try.func50 (by kernel_rfl) rfl #[.agg #[.int .i64 t416, .slice Ao17 t417.length co17]] (by rfl) rfl rfl (by (try simp only [List.map_toArray, List.map_cons, List.map_nil]); first | done | rfl | (simp only [List.length_drop, List.length_take]; rfl)) ?_
        with_reducible refine (impl_DiskSize.calls kj7 t416 _ _ t417 t428 _ ?side1 ?side2 A30.out).mono ?_
        (case side1 => repeat (first | exact (Kd.R_reads' HO_422001.out).2.2 | (with_reducible refine Kd.C_alloc ?_ _) | (with_reducible refine Kd.C_drewN ?_ _) | (with_reducible refine Kd.C_drew ?_)))
        (case side2 => exact (Kd.R_reads' HO_422001.out).2.1)
        rintro e w33 ⟨rfl, hb⟩
        refine ⟨_, rfl, ?_⟩
        replace HO_416001 := Aside0.mk (Kd.R_below (by (with_reducible repeat (first | apply Kd.R_alloc | apply Kd.R_drewN | apply Kd.R_drew)); exact HO_416001.out) hb)
        replace HO_422001 := Aside0.mk (Kd.R_below (by (with_reducible repeat (first | apply Kd.R_alloc | apply Kd.R_drewN | apply Kd.R_drew)); exact HO_422001.out) hb)
        replace HO_428001 := Aside0.mk (Kd.R_below (by (with_reducible repeat (first | apply Kd.R_alloc | apply Kd.R_drewN | apply Kd.R_drew)); exact HO_428001.out) hb)
        replace BK415 := xbb BK415 hb
        replace BK421 := xbb BK421 hb
        replace BK427 := xbb BK427 hb
        replace HB := xbs hb
        (try clear hb); (try clear hb2); (try clear hk); (try clear hi)
        refine hK.out _ _ ⟨(blk_cell BK421.out 0).trans rfl, (blk_cell BK421.out 1).trans rfl, (blk_cell BK415.out 0).trans rfl, (blk_cell BK415.out 1).trans rfl⟩ (fun hHeld => ?_)
        clear hK K
        refine norm_ (a' := ?_) ?_ ?_
        rotate_left
        ·show Act.put _ (some 44) _ = _
         simp only [Act.put, List.setIfInBounds_toArray, List.set_cons_zero, List.set_cons_succ, i64_w, i32_w]
         rfl
        refine on_ 6 46 (h := fun K hK => ?_)
        refine goes_ Try.func50 (by kernel_rfl) rfl #[.agg #[.int .i64 t410, .slice Ao12 t411.length co12]] (by rfl) rfl rfl (by (try simp only [List.map_toArray, List.map_cons, List.map_nil]); first | done | rfl | (simp only [List.length_drop, List.length_take]; rfl)) ?_
        with_reducible refine (impl_DiskSize.calls kj7 t410 _ _ t411 t429 _ ?side1 ?side2 A31.out).mono ?_
        (case side1 => repeat (first | exact (Kd.R_reads' HO_416001.out).2.2 | (with_reducible refine Kd.C_alloc ?_ _) | (with_reducible refine Kd.C_drewN ?_ _) | (with_reducible refine Kd.C_drew ?_)))
        (case side2 => exact (Kd.R_reads' HO_416001.out).2.1)
        rintro e w34 ⟨rfl, hb⟩
        refine ⟨_, rfl, ?_⟩
        replace HO_416001 := Aside0.mk (Kd.R_below (by (with_reducible repeat (first | apply Kd.R_alloc | apply Kd.R_drewN | apply Kd.R_drew)); exact HO_416001.out) hb)
        replace HO_422001 := Aside0.mk (Kd.R_below (by (with_reducible repeat (first | apply Kd.R_alloc | apply Kd.R_drewN | apply Kd.R_drew)); exact HO_422001.out) hb)
        replace HO_428001 := Aside0.mk (Kd.R_below (by (with_reducible repeat (first | apply Kd.R_alloc | apply Kd.R_drewN | apply Kd.R_drew)); exact HO_428001.out) hb)
        replace BK415 := xbb BK415 hb
        replace BK421 := xbb BK421 hb
        replace BK427 := xbb BK427 hb
        replace HB := xbs hb
        (try clear hb); (try clear hb2); (try clear hk); (try clear hi)
        refine hK.out _ _ ⟨(blk_cell BK421.out 0).trans rfl, (blk_cell BK421.out 1).trans rfl, (blk_cell BK415.out 0).trans rfl, (blk_cell BK415.out 1).trans rfl⟩ (fun hHeld => ?_)
        clear hK K
        refine norm_ (a' := ?_) ?_ ?_
        rotate_left
        ·show Act.put _ (some 46) _ = _
         simp only [Act.put, List.setIfInBounds_toArray, List.set_cons_zero, List.set_cons_succ, i64_w, i32_w]
         rfl
        refine pv_ 7 47 (h := ?_)
        refine pv_ 8 48 (h := ?_)
        refine pv_ 9 2 (h := ?_)
        refine done_ (done_of HT_.out (by kernel_rfl)) ?_
        try go_wp2
        go_ret
        exact ⟨by first | rfl | (simp [errW_none, errW_some] <;> rfl) | (simp [*, errW_none, errW_some] <;> rfl), xbg⟩
     case rest =>
      clear HC26
      try clear c1
      try clear c2
      try clear p2
      try clear c3
      try clear c4
      try clear c5
      try clear c10
      try clear c15
      try clear c20
      try clear c21
      try clear c22
      try clear c25
      try clear c25b0
      try clear c25b1
      try clear c27
      try clear c27b0
      try clear c27b1
      try clear c28
      try clear c28b0
      try clear c28b1
      try clear c33
      try clear hcz11_0
      try clear hcz11_1
      try clear hcz16_0
      try clear hcz16_1
      try clear hcz18_0
      try clear hcz18_1
      try clear hcz23_0
      try clear hcz23_1
      try clear hfz11_0
      try clear hfz11_1
      try clear hfz16_0
      try clear hfz16_1
      try clear hfz18_0
      try clear hfz18_1
      try clear hfz23_0
      try clear hfz23_1
      try clear p2
      obtain ⟨kq, HA, HJ25, HO_416001, HO_422001, HO_428001, BK415, BK421, BK427, HB⟩ := hcut
      cases kq with
      | zero => exact absurd HA.out (by simp [laws_FnSyncs.j2])
      | succ kj25 =>
       have H := HA.out
       clear HA
       simp only [laws_FnSyncs.j2] at H
       replace H := Option.bind_eq_some_iff.mp H
       obtain ⟨⟨t430, t431, t434⟩, A350, H⟩ := H
       replace H : ((spec_DiskRead.f kj25 t410 t411 t414).bind fun bt436 => ((impl_DiskCut.f kj25 t410 t411 t414 (bt436.1.size : Int)).bind fun bt438 => (if t434 = 0 then (if bt438.2.2 = 0 then (if (t431.length : Int) = (t411.length : Int) then (laws_FnSyncs.j3 kj25 t414 ((bt438.2.1.length : Int) != (t411.length : Int)) t410 t411 t416 t417 t430 t431 bt438.1 bt438.2.1) else (laws_FnSyncs.j3 kj25 t414 true t410 t411 t416 t417 t430 t431 bt438.1 bt438.2.1)) else (laws_FnSyncs.j3 kj25 t414 true t410 t411 t416 t417 t430 t431 bt438.1 bt438.2.1)) else (laws_FnSyncs.j3 kj25 t414 true t410 t411 t416 t417 t430 t431 bt438.1 bt438.2.1)))) = some r := H
       have A35 := Aside0.mk A350
       clear A350
       replace H := Option.bind_eq_some_iff.mp H
       obtain ⟨⟨t436, t437⟩, A360, H⟩ := H
       replace H : ((impl_DiskCut.f kj25 t410 t411 t414 (t436.size : Int)).bind fun bt438 => (if t434 = 0 then (if bt438.2.2 = 0 then (if (t431.length : Int) = (t411.length : Int) then (laws_FnSyncs.j3 kj25 t414 ((bt438.2.1.length : Int) != (t411.length : Int)) t410 t411 t416 t417 t430 t431 bt438.1 bt438.2.1) else (laws_FnSyncs.j3 kj25 t414 true t410 t411 t416 t417 t430 t431 bt438.1 bt438.2.1)) else (laws_FnSyncs.j3 kj25 t414 true t410 t411 t416 t417 t430 t431 bt438.1 bt438.2.1)) else (laws_FnSyncs.j3 kj25 t414 true t410 t411 t416 t417 t430 t431 bt438.1 bt438.2.1))) = some r := H
       have A36 := Aside0.mk A360
       clear A360
       replace H := Option.bind_eq_some_iff.mp H
       obtain ⟨⟨t438, t439, t442⟩, A370, H⟩ := H
       replace H : (if t434 = 0 then (if t442 = 0 then (if (t431.length : Int) = (t411.length : Int) then (laws_FnSyncs.j3 kj25 t414 ((t439.length : Int) != (t411.length : Int)) t410 t411 t416 t417 t430 t431 t438 t439) else (laws_FnSyncs.j3 kj25 t414 true t410 t411 t416 t417 t430 t431 t438 t439)) else (laws_FnSyncs.j3 kj25 t414 true t410 t411 t416 t417 t430 t431 t438 t439)) else (laws_FnSyncs.j3 kj25 t414 true t410 t411 t416 t417 t430 t431 t438 t439)) = some r := H
       have A37 := Aside0.mk A370
       clear A370
       have HC38 := Aside0.mk H
       clear H
       have hnb39 := NB421_415.out
       have hnc39 := NB415_421.out
       have hnb40 := NB421_427.out
       have hnc40 := NB427_421.out
       have hcz41_0 : wc.cell? ⟨gb421, 0, none⟩ = some (.int .i64 t416) := (blk_cell BK421.out 0).trans rfl
       have hcz41_1 : wc.cell? ⟨gb421, 1, none⟩ = some (.slice Ao17 t417.length co17) := (blk_cell BK421.out 1).trans rfl
       have hfz41_0 := blk_frozen BK421.out 0
       have hfz41_1 := blk_frozen BK421.out 1
       go_upto_region 13 with (first | ((with_reducible refine gate_callee (f := 35) rfl ?_); refine goesL_ (some 52) rfl rfl Try.func35 (by kernel_rfl) rfl #[.agg #[.int .i64 t416, .slice Ao17 t417.length co17], .int .i64 t414] rfl (by (try simp only [List.map_toArray, List.map_cons, List.map_nil]); first | done | rfl | (simp only [List.length_drop, List.length_take]; rfl)) ?_; (with_reducible refine (impl_DiskSync.calls kj25 t416 _ _ t417 t414 t430 t431 t434 _ ?side1 ?side2 A35.out).mono ?_); (case side1 => repeat (first | exact (Kd.R_reads' HO_422001.out).2.2 | (with_reducible refine Kd.C_alloc ?_ _) | (with_reducible refine Kd.C_drewN ?_ _) | (with_reducible refine Kd.C_drew ?_))); (case side2 => exact (Kd.R_reads' HO_422001.out).2.1); rintro e w42 ⟨v432, rfl, ho0, hb⟩; refine ⟨_, rfl, ?_⟩; have HO433 := Aside0.mk (Kd.R_lower (Kd.R_new' (Kd.R_new' (Kd.R_new' ho0 (Kd.R_lt (by (with_reducible repeat (first | apply Kd.R_alloc | apply Kd.R_drewN | apply Kd.R_drew)); exact HO_416001.out))) (Kd.R_lt (by (with_reducible repeat (first | apply Kd.R_alloc | apply Kd.R_drewN | apply Kd.R_drew)); exact HO_422001.out))) (Kd.R_lt (by (with_reducible repeat (first | apply Kd.R_alloc | apply Kd.R_drewN | apply Kd.R_drew)); exact HO_428001.out))) (below_size xbg)); replace HO_416001 := Aside0.mk (Kd.R_elder' (by (with_reducible repeat (first | apply Kd.R_alloc | apply Kd.R_drewN | apply Kd.R_drew)); exact HO_416001.out) (Kd.R_base ho0) hb); replace HO_422001 := Aside0.mk (Kd.R_elder' (by (with_reducible repeat (first | apply Kd.R_alloc | apply Kd.R_drewN | apply Kd.R_drew)); exact HO_422001.out) (Kd.R_base ho0) hb); replace HO_428001 := Aside0.mk (Kd.R_elder' (by (with_reducible repeat (first | apply Kd.R_alloc | apply Kd.R_drewN | apply Kd.R_drew)); exact HO_428001.out) (Kd.R_base ho0) hb); replace BK415 := xbb BK415 hb; replace BK421 := xbb BK421 hb; replace BK427 := xbb BK427 hb; replace HB := xbs hb; (try clear hb); (try clear hb2); (try clear hk); (try clear hi); (try clear ho0)) | ((with_reducible refine gate_dst (N := 9) rfl ?_); (try (refine gate_guard (by rfl) ?_; dsimp only)); refine box_event ?hg (N := 9) ?hd (cs := #[.int .i64 0, .slice none 0 0]) (t := 63) ?hr ?_; (case hd => rfl); (case hg => rfl); (case hr => first | (go_simp; done) | (go_simp; rfl)); intro gb435 hg w43 hbox hb; replace HO_416001 := Aside0.mk (Kd.R_below (by (with_reducible repeat (first | apply Kd.R_alloc | apply Kd.R_drewN | apply Kd.R_drew)); exact HO_416001.out) hb); replace HO_422001 := Aside0.mk (Kd.R_below (by (with_reducible repeat (first | apply Kd.R_alloc | apply Kd.R_drewN | apply Kd.R_drew)); exact HO_422001.out) hb); replace HO_428001 := Aside0.mk (Kd.R_below (by (with_reducible repeat (first | apply Kd.R_alloc | apply Kd.R_drewN | apply Kd.R_drew)); exact HO_428001.out) hb); replace HO433 := Aside0.mk (Kd.R_below (by (with_reducible repeat (first | apply Kd.R_alloc | apply Kd.R_drewN | apply Kd.R_drew)); exact HO433.out) hb); have GW435 := Aside0.mk (xge hg); have GE435 := Aside0.mk (xge hg); replace HB := xbs hb; have NB415_435 := Aside0.mk ((by rw [hg]; exact Nat.ne_of_lt (blk_lt (g := gb415) (o := .cells #[.int .i64 t410, .slice Ao12 t411.length co12] 63 (0, 0)) xblk) : gb415 ≠ gb435)); have NB435_415 := Aside0.mk ((by rw [hg]; exact Nat.ne_of_gt (blk_lt (g := gb415) (o := .cells #[.int .i64 t410, .slice Ao12 t411.length co12] 63 (0, 0)) xblk) : gb435 ≠ gb415)); have NB421_435 := Aside0.mk ((by rw [hg]; exact Nat.ne_of_lt (blk_lt (g := gb421) (o := .cells #[.int .i64 t416, .slice Ao17 t417.length co17] 63 (0, 0)) xblk) : gb421 ≠ gb435)); have NB435_421 := Aside0.mk ((by rw [hg]; exact Nat.ne_of_gt (blk_lt (g := gb421) (o := .cells #[.int .i64 t416, .slice Ao17 t417.length co17] 63 (0, 0)) xblk) : gb435 ≠ gb421)); have NB427_435 := Aside0.mk ((by rw [hg]; exact Nat.ne_of_lt (blk_lt (g := gb427) (o := .cells #[.int .i64 t422, .slice Ao24 t423.length co24] 63 (0, 0)) xblk) : gb427 ≠ gb435)); have NB435_427 := Aside0.mk ((by rw [hg]; exact Nat.ne_of_gt (blk_lt (g := gb427) (o := .cells #[.int .i64 t422, .slice Ao24 t423.length co24] 63 (0, 0)) xblk) : gb435 ≠ gb427)); replace BK415 := xbb BK415 hb; replace BK421 := xbb BK421 hb; replace BK427 := xbb BK427 hb; have BK435 := Aside0.mk (hbox); clear hb hbox hg; have hnb44 := NB435_415.out; have hnc44 := NB415_435.out; have hnb45 := NB435_421.out; have hnc45 := NB421_435.out; have hnb46 := NB435_427.out; have hnc46 := NB427_435.out; have hcz47_0 : w43.cell? ⟨gb435, 0, none⟩ = some (.int .i64 0) := (blk_cell BK435.out 0).trans rfl; have hcz47_1 : w43.cell? ⟨gb435, 1, none⟩ = some (.slice none 0 0) := (blk_cell BK435.out 1).trans rfl; have hfz47_0 := blk_frozen BK435.out 0; have hfz47_1 := blk_frozen BK435.out 1; obtain ⟨Ao48, co48, eo48⟩ := Kd.R_slice HO433.out; subst eo48; have hnb49 := NB415_427.out; have hnc49 := NB427_415.out; have hcz50_0 : w43.cell? ⟨gb415, 0, none⟩ = some (.int .i64 t410) := (blk_cell BK415.out 0).trans rfl; have hcz50_1 : w43.cell? ⟨gb415, 1, none⟩ = some (.slice Ao12 t411.length co12) := (blk_cell BK415.out 1).trans rfl; have hfz50_0 := blk_frozen BK415.out 0; have hfz50_1 := blk_frozen BK415.out 1) | ((with_reducible refine gate_callee (f := 52) rfl ?_); refine goesL_ (some 58) rfl rfl Try.func52 (by kernel_rfl) rfl #[.agg #[.int .i64 t410, .slice Ao12 t411.length co12], .int .i64 t414] rfl (by (try simp only [List.map_toArray, List.map_cons, List.map_nil]); first | done | rfl | (simp only [List.length_drop, List.length_take]; rfl)) ?_; (with_reducible refine (spec_DiskRead.calls kj25 t410 _ _ t411 t414 t436 t437 _ ?side1 ?side2 A36.out).mono ?_); (case side1 => refine (Kd.R_reads' (e := 81) (base := w.heap.size) (ok := fun k_ => ((some k_ ≠ (.slice Ao17 t417.length co17 : Value).ownBlock ∧ some k_ ≠ (.slice Ao24 t423.length co24 : Value).ownBlock) ∧ some k_ ≠ (.slice Ao48 t431.length co48 : Value).ownBlock)) (n := t411.length) (c := co12) ?_).2.2; exact (by (with_reducible repeat (first | apply Kd.R_alloc | apply Kd.R_drewN | apply Kd.R_drew)); exact (Kd.R_mono (Kd.R_far (p := ⟨gb435, 1, none⟩) (Kd.R_far (p := ⟨gb435, 0, none⟩) (Kd.R_types HO_416001.out BK435.out (by decide)) (fun _ hk => hk.2) (.int .i64 t430)) (fun _ hk => hk.2) (.slice Ao48 t431.length co48)) (fun _ h_ => h_.1)))); (case side2 => exact (Kd.R_reads' HO_416001.out).2.1); rintro e w51 ⟨rfl, hb⟩; refine ⟨_, rfl, ?_⟩; replace HO_416001 := Aside0.mk (Kd.R_below (by (with_reducible repeat (first | apply Kd.R_alloc | apply Kd.R_drewN | apply Kd.R_drew)); exact (Kd.R_mono (Kd.R_far (p := ⟨gb435, 1, none⟩) (Kd.R_far (p := ⟨gb435, 0, none⟩) (Kd.R_types HO_416001.out BK435.out (by decide)) (fun _ hk => hk.2) (.int .i64 t430)) (fun _ hk => hk.2) (.slice Ao48 t431.length co48)) (fun _ h_ => h_.1))) hb); replace HO_422001 := Aside0.mk (Kd.R_below (by (with_reducible repeat (first | apply Kd.R_alloc | apply Kd.R_drewN | apply Kd.R_drew)); exact (Kd.R_mono (Kd.R_far (p := ⟨gb435, 1, none⟩) (Kd.R_far (p := ⟨gb435, 0, none⟩) (Kd.R_types HO_422001.out BK435.out (by decide)) (fun _ hk => hk.2) (.int .i64 t430)) (fun _ hk => hk.2) (.slice Ao48 t431.length co48)) (fun _ h_ => h_.1))) hb); replace HO_428001 := Aside0.mk (Kd.R_below (by (with_reducible repeat (first | apply Kd.R_alloc | apply Kd.R_drewN | apply Kd.R_drew)); exact (Kd.R_mono (Kd.R_far (p := ⟨gb435, 1, none⟩) (Kd.R_far (p := ⟨gb435, 0, none⟩) (Kd.R_types HO_428001.out BK435.out (by decide)) (fun _ hk => hk.2) (.int .i64 t430)) (fun _ hk => hk.2) (.slice Ao48 t431.length co48)) (fun _ h_ => h_.1))) hb); replace HO433 := Aside0.mk (Kd.R_below (by (with_reducible repeat (first | apply Kd.R_alloc | apply Kd.R_drewN | apply Kd.R_drew)); exact (Kd.R_mono (Kd.R_far (p := ⟨gb435, 1, none⟩) (Kd.R_far (p := ⟨gb435, 0, none⟩) (Kd.R_types HO433.out BK435.out (by decide)) (fun _ hk => hk.2) (.int .i64 t430)) (fun _ hk => hk.2) (.slice Ao48 t431.length co48)) (fun _ h_ => h_.1))) hb); replace BK415 := Aside0.mk (blk_below (g := gb415) (o := .cells #[.int .i64 t410, .slice Ao12 t411.length co12] 63 (0, 0)) (by (with_reducible repeat (first | refine blk_drewN ?_ _ | refine blk_drew ?_ | refine blk_alloc ?_ _)); refine blk_far ?_ NB415_435.out _; (with_reducible repeat (first | refine blk_drewN ?_ _ | refine blk_drew ?_ | refine blk_alloc ?_ _)); refine blk_far ?_ NB415_435.out _; (with_reducible repeat (first | refine blk_drewN ?_ _ | refine blk_drew ?_ | refine blk_alloc ?_ _)); exact BK415.out) hb); replace BK421 := Aside0.mk (blk_below (g := gb421) (o := .cells #[.int .i64 t416, .slice Ao17 t417.length co17] 63 (0, 0)) (by (with_reducible repeat (first | refine blk_drewN ?_ _ | refine blk_drew ?_ | refine blk_alloc ?_ _)); refine blk_far ?_ NB421_435.out _; (with_reducible repeat (first | refine blk_drewN ?_ _ | refine blk_drew ?_ | refine blk_alloc ?_ _)); refine blk_far ?_ NB421_435.out _; (with_reducible repeat (first | refine blk_drewN ?_ _ | refine blk_drew ?_ | refine blk_alloc ?_ _)); exact BK421.out) hb); replace BK427 := Aside0.mk (blk_below (g := gb427) (o := .cells #[.int .i64 t422, .slice Ao24 t423.length co24] 63 (0, 0)) (by (with_reducible repeat (first | refine blk_drewN ?_ _ | refine blk_drew ?_ | refine blk_alloc ?_ _)); refine blk_far ?_ NB427_435.out _; (with_reducible repeat (first | refine blk_drewN ?_ _ | refine blk_drew ?_ | refine blk_alloc ?_ _)); refine blk_far ?_ NB427_435.out _; (with_reducible repeat (first | refine blk_drewN ?_ _ | refine blk_drew ?_ | refine blk_alloc ?_ _)); exact BK427.out) hb); replace BK435 := Aside0.mk (blk_below (g := gb435) (o := .cells #[.int .i64 t430, .slice Ao48 t431.length co48] 63 (0, 0)) (by (with_reducible repeat (first | refine blk_drewN ?_ _ | refine blk_drew ?_ | refine blk_alloc ?_ _)); refine blk_put (cs := #[.int .i64 t430, .slice none 0 0]) ?_ 1 _ rfl; (with_reducible repeat (first | refine blk_drewN ?_ _ | refine blk_drew ?_ | refine blk_alloc ?_ _)); refine blk_put (cs := #[.int .i64 0, .slice none 0 0]) ?_ 0 _ rfl; (with_reducible repeat (first | refine blk_drewN ?_ _ | refine blk_drew ?_ | refine blk_alloc ?_ _)); exact BK435.out) hb); replace HB := xbs hb; (try clear hb); (try clear hb2); (try clear hk); (try clear hi); have hcz52_0 : w51.cell? ⟨gb415, 0, none⟩ = some (.int .i64 t410) := (blk_cell BK415.out 0).trans rfl; have hcz52_1 : w51.cell? ⟨gb415, 1, none⟩ = some (.slice Ao12 t411.length co12) := (blk_cell BK415.out 1).trans rfl; have hfz52_0 := blk_frozen BK415.out 0; have hfz52_1 := blk_frozen BK415.out 1) | ((with_reducible refine gate_callee (f := 45) rfl ?_); refine goesL_ (some 66) rfl rfl Try.func45 (by kernel_rfl) rfl #[.agg #[.int .i64 t410, .slice Ao12 t411.length co12], .int .i64 t414, .int .i64 (t436.size : Int)] rfl (by (try simp only [List.map_toArray, List.map_cons, List.map_nil]); first | done | rfl | (simp only [List.length_drop, List.length_take]; rfl)) ?_; (with_reducible refine (impl_DiskCut.calls kj25 t410 _ _ t411 t414 (t436.size : Int) t438 t439 t442 _ ?side1 ?side2 A37.out).mono ?_); (case side1 => repeat (first | exact (Kd.R_reads' HO_416001.out).2.2 | (with_reducible refine Kd.C_alloc ?_ _) | (with_reducible refine Kd.C_drewN ?_ _) | (with_reducible refine Kd.C_drew ?_))); (case side2 => exact (Kd.R_reads' HO_416001.out).2.1); rintro e w53 ⟨v440, rfl, ho0, hb⟩; refine ⟨_, rfl, ?_⟩; have HO441 := Aside0.mk (Kd.R_lower (Kd.R_new' (Kd.R_new' (Kd.R_new' (Kd.R_new' ho0 (Kd.R_lt (by (with_reducible repeat (first | apply Kd.R_alloc | apply Kd.R_drewN | apply Kd.R_drew)); exact HO_416001.out))) (Kd.R_lt (by (with_reducible repeat (first | apply Kd.R_alloc | apply Kd.R_drewN | apply Kd.R_drew)); exact HO_422001.out))) (Kd.R_lt (by (with_reducible repeat (first | apply Kd.R_alloc | apply Kd.R_drewN | apply Kd.R_drew)); exact HO_428001.out))) (Kd.R_lt (by (with_reducible repeat (first | apply Kd.R_alloc | apply Kd.R_drewN | apply Kd.R_drew)); exact HO433.out))) (below_size xbg)); replace HO_416001 := Aside0.mk (Kd.R_elder' (by (with_reducible repeat (first | apply Kd.R_alloc | apply Kd.R_drewN | apply Kd.R_drew)); exact HO_416001.out) (Kd.R_base ho0) hb); replace HO_422001 := Aside0.mk (Kd.R_elder' (by (with_reducible repeat (first | apply Kd.R_alloc | apply Kd.R_drewN | apply Kd.R_drew)); exact HO_422001.out) (Kd.R_base ho0) hb); replace HO_428001 := Aside0.mk (Kd.R_elder' (by (with_reducible repeat (first | apply Kd.R_alloc | apply Kd.R_drewN | apply Kd.R_drew)); exact HO_428001.out) (Kd.R_base ho0) hb); replace HO433 := Aside0.mk (Kd.R_elder' (by (with_reducible repeat (first | apply Kd.R_alloc | apply Kd.R_drewN | apply Kd.R_drew)); exact HO433.out) (Kd.R_base ho0) hb); replace BK415 := xbb BK415 hb; replace BK421 := xbb BK421 hb; replace BK427 := xbb BK427 hb; replace BK435 := xbb BK435 hb; replace HB := xbs hb; (try clear hb); (try clear hb2); (try clear hk); (try clear hi); (try clear ho0)) | ((with_reducible refine gate_dst (N := 13) rfl ?_); (try (refine gate_guard (by rfl) ?_; dsimp only)); refine box_event ?hg (N := 13) ?hd (cs := #[.int .i64 0, .slice none 0 0]) (t := 63) ?hr ?_; (case hd => rfl); (case hg => rfl); (case hr => first | (go_simp; done) | (go_simp; rfl)); intro gb443 hg w54 hbox hb; replace HO_416001 := Aside0.mk (Kd.R_below (by (with_reducible repeat (first | apply Kd.R_alloc | apply Kd.R_drewN | apply Kd.R_drew)); exact HO_416001.out) hb); replace HO_422001 := Aside0.mk (Kd.R_below (by (with_reducible repeat (first | apply Kd.R_alloc | apply Kd.R_drewN | apply Kd.R_drew)); exact HO_422001.out) hb); replace HO_428001 := Aside0.mk (Kd.R_below (by (with_reducible repeat (first | apply Kd.R_alloc | apply Kd.R_drewN | apply Kd.R_drew)); exact HO_428001.out) hb); replace HO433 := Aside0.mk (Kd.R_below (by (with_reducible repeat (first | apply Kd.R_alloc | apply Kd.R_drewN | apply Kd.R_drew)); exact HO433.out) hb); replace HO441 := Aside0.mk (Kd.R_below (by (with_reducible repeat (first | apply Kd.R_alloc | apply Kd.R_drewN | apply Kd.R_drew)); exact HO441.out) hb); have GW443 := Aside0.mk (xge hg); have GE443 := Aside0.mk (xge hg); replace HB := xbs hb; have NB415_443 := Aside0.mk ((by rw [hg]; exact Nat.ne_of_lt (blk_lt (g := gb415) (o := .cells #[.int .i64 t410, .slice Ao12 t411.length co12] 63 (0, 0)) xblk) : gb415 ≠ gb443)); have NB443_415 := Aside0.mk ((by rw [hg]; exact Nat.ne_of_gt (blk_lt (g := gb415) (o := .cells #[.int .i64 t410, .slice Ao12 t411.length co12] 63 (0, 0)) xblk) : gb443 ≠ gb415)); have NB421_443 := Aside0.mk ((by rw [hg]; exact Nat.ne_of_lt (blk_lt (g := gb421) (o := .cells #[.int .i64 t416, .slice Ao17 t417.length co17] 63 (0, 0)) xblk) : gb421 ≠ gb443)); have NB443_421 := Aside0.mk ((by rw [hg]; exact Nat.ne_of_gt (blk_lt (g := gb421) (o := .cells #[.int .i64 t416, .slice Ao17 t417.length co17] 63 (0, 0)) xblk) : gb443 ≠ gb421)); have NB427_443 := Aside0.mk ((by rw [hg]; exact Nat.ne_of_lt (blk_lt (g := gb427) (o := .cells #[.int .i64 t422, .slice Ao24 t423.length co24] 63 (0, 0)) xblk) : gb427 ≠ gb443)); have NB443_427 := Aside0.mk ((by rw [hg]; exact Nat.ne_of_gt (blk_lt (g := gb427) (o := .cells #[.int .i64 t422, .slice Ao24 t423.length co24] 63 (0, 0)) xblk) : gb443 ≠ gb427)); have NB435_443 := Aside0.mk ((by rw [hg]; exact Nat.ne_of_lt (blk_lt (g := gb435) (o := .cells #[.int .i64 t430, .slice Ao48 t431.length co48] 63 (0, 0)) xblk) : gb435 ≠ gb443)); have NB443_435 := Aside0.mk ((by rw [hg]; exact Nat.ne_of_gt (blk_lt (g := gb435) (o := .cells #[.int .i64 t430, .slice Ao48 t431.length co48] 63 (0, 0)) xblk) : gb443 ≠ gb435)); replace BK415 := xbb BK415 hb; replace BK421 := xbb BK421 hb; replace BK427 := xbb BK427 hb; replace BK435 := xbb BK435 hb; have BK443 := Aside0.mk (hbox); clear hb hbox hg; have hnb55 := NB443_415.out; have hnc55 := NB415_443.out; have hnb56 := NB443_421.out; have hnc56 := NB421_443.out; have hnb57 := NB443_427.out; have hnc57 := NB427_443.out; have hnb58 := NB443_435.out; have hnc58 := NB435_443.out; have hcz59_0 : w54.cell? ⟨gb443, 0, none⟩ = some (.int .i64 0) := (blk_cell BK443.out 0).trans rfl; have hcz59_1 : w54.cell? ⟨gb443, 1, none⟩ = some (.slice none 0 0) := (blk_cell BK443.out 1).trans rfl; have hfz59_0 := blk_frozen BK443.out 0; have hfz59_1 := blk_frozen BK443.out 1; obtain ⟨Ao60, co60, eo60⟩ := Kd.R_slice HO441.out; subst eo60))
       (try simp only [Act.put, List.setIfInBounds_toArray, List.set_cons_zero, List.set_cons_succ])
       go_cut [92] (fun v92 wc => ∃ (kq : Nat) (x92_37 : Bool), v92 = .bool x92_37 ∧ Aside0 (laws_FnSyncs.j3 kq t414 x92_37 t410 t411 t416 t417 t430 t431 t438 t439 = some r) ∧ Aside0 (kq ≤ kj25) ∧ Aside0 (Kd.R k81 81 wc w.heap.size (fun k_ => some k_ ≠ ((.slice Ao17 t417.length co17) : Value).ownBlock ∧ some k_ ≠ ((.slice Ao24 t423.length co24) : Value).ownBlock ∧ some k_ ≠ ((.slice Ao48 t431.length co48) : Value).ownBlock ∧ some k_ ≠ ((.slice Ao60 t439.length co60) : Value).ownBlock) (.slice Ao12 t411.length co12) t411) ∧ Aside0 (Kd.R k81 81 wc w.heap.size (fun k_ => some k_ ≠ ((.slice Ao12 t411.length co12) : Value).ownBlock ∧ some k_ ≠ ((.slice Ao24 t423.length co24) : Value).ownBlock ∧ some k_ ≠ ((.slice Ao48 t431.length co48) : Value).ownBlock ∧ some k_ ≠ ((.slice Ao60 t439.length co60) : Value).ownBlock) (.slice Ao17 t417.length co17) t417) ∧ Aside0 (Kd.R k81 81 wc w.heap.size (fun k_ => some k_ ≠ ((.slice Ao12 t411.length co12) : Value).ownBlock ∧ some k_ ≠ ((.slice Ao17 t417.length co17) : Value).ownBlock ∧ some k_ ≠ ((.slice Ao48 t431.length co48) : Value).ownBlock ∧ some k_ ≠ ((.slice Ao60 t439.length co60) : Value).ownBlock) (.slice Ao24 t423.length co24) t423) ∧ Aside0 (Kd.R k81 81 wc w.heap.size (fun k_ => some k_ ≠ ((.slice Ao12 t411.length co12) : Value).ownBlock ∧ some k_ ≠ ((.slice Ao17 t417.length co17) : Value).ownBlock ∧ some k_ ≠ ((.slice Ao24 t423.length co24) : Value).ownBlock ∧ some k_ ≠ ((.slice Ao60 t439.length co60) : Value).ownBlock) (.slice Ao48 t431.length co48) t431) ∧ Aside0 (Kd.R k81 81 wc w.heap.size (fun k_ => some k_ ≠ ((.slice Ao12 t411.length co12) : Value).ownBlock ∧ some k_ ≠ ((.slice Ao17 t417.length co17) : Value).ownBlock ∧ some k_ ≠ ((.slice Ao24 t423.length co24) : Value).ownBlock ∧ some k_ ≠ ((.slice Ao48 t431.length co48) : Value).ownBlock) (.slice Ao60 t439.length co60) t439) ∧ Aside0 (wc.heap[gb415]? = some (.cells #[.int .i64 t410, (.slice Ao12 t411.length co12)] 63 (0, 0))) ∧ Aside0 (wc.heap[gb421]? = some (.cells #[.int .i64 t416, (.slice Ao17 t417.length co17)] 63 (0, 0))) ∧ Aside0 (wc.heap[gb427]? = some (.cells #[.int .i64 t422, (.slice Ao24 t423.length co24)] 63 (0, 0))) ∧ Aside0 (wc.heap[gb435]? = some (.cells #[.int .i64 t430, (.slice Ao48 t431.length co48)] 63 (0, 0))) ∧ Aside0 (wc.heap[gb443]? = some (.cells #[.int .i64 t438, (.slice Ao60 t439.length co60)] 63 (0, 0))) ∧ Aside0 (Below w.heap.size w wc))
       case first =>
        have H := HC38.out
        clear HC38
        by_cases c61 : t434 = 0
        ·rw [if_pos c61] at H
         have c61b0 : (t434 == 0) = true := beq_iff_eq.mpr c61
         have c61b1 : (t434 != 0) = false := bne_eq_false_iff_eq.mpr c61
         clear c61
         (first | rw [c61b0] | (simp only [i64_w, i32_w]; rw [c61b0]) | skip)
         by_cases c62 : t442 = 0
         ·rw [if_pos c62] at H
          have c62b0 : (t442 == 0) = true := beq_iff_eq.mpr c62
          have c62b1 : (t442 != 0) = false := bne_eq_false_iff_eq.mpr c62
          clear c62
          by_cases c63 : (t431.length : Int) = (t411.length : Int)
          ·rw [if_pos c63] at H
           have c63b0 : ((t431.length : Int) == (t411.length : Int)) = true := beq_iff_eq.mpr c63
           have c63b1 : ((t431.length : Int) != (t411.length : Int)) = false := bne_eq_false_iff_eq.mpr c63
           have c63b2 : (t431.length == t411.length) = true := by first | simpa using c63 | (simp at c63 ⊢; omega)
           clear c63
           have H' := Aside0.mk H
           clear H
           have hnb64 := NB435_415.out
           have hnc64 := NB415_435.out
           have hnb65 := NB435_421.out
           have hnc65 := NB421_435.out
           have hnb66 := NB435_427.out
           have hnc66 := NB427_435.out
           have hnb67 := NB435_443.out
           have hnc67 := NB443_435.out
           have hcz68_0 : w54.cell? ⟨gb435, 0, none⟩ = some (.int .i64 t430) := (blk_cell BK435.out 0).trans rfl
           have hcz68_1 : w54.cell? ⟨gb435, 1, none⟩ = some (.slice Ao48 t431.length co48) := (blk_cell BK435.out 1).trans rfl
           have hfz68_0 := blk_frozen BK435.out 0
           have hfz68_1 := blk_frozen BK435.out 1
           have hnb69 := NB415_421.out
           have hnc69 := NB421_415.out
           have hnb70 := NB415_427.out
           have hnc70 := NB427_415.out
           have hnb71 := NB415_443.out
           have hnc71 := NB443_415.out
           have hcz72_0 : w54.cell? ⟨gb415, 0, none⟩ = some (.int .i64 t410) := (blk_cell BK415.out 0).trans rfl
           have hcz72_1 : w54.cell? ⟨gb415, 1, none⟩ = some (.slice Ao12 t411.length co12) := (blk_cell BK415.out 1).trans rfl
           have hfz72_0 := blk_frozen BK415.out 0
           have hfz72_1 := blk_frozen BK415.out 1
           have hnb73 := NB443_421.out
           have hnc73 := NB421_443.out
           have hnb74 := NB443_427.out
           have hnc74 := NB427_443.out
           have hcz75_0 : w54.cell? ⟨gb443, 0, none⟩ = some (.int .i64 0) := (blk_cell BK443.out 0).trans rfl
           have hcz75_1 : w54.cell? ⟨gb443, 1, none⟩ = some (.slice none 0 0) := (blk_cell BK443.out 1).trans rfl
           have hfz75_0 := blk_frozen BK443.out 0
           have hfz75_1 := blk_frozen BK443.out 1
           go_wp2
           go_meet
           case rel => exact ⟨_, (((t439.length : Int) != (t411.length : Int))), (by first | rfl | (simp; done) | (simp [*]; done)), H', ⟨by have := HJ2.out; have := HJ7.out; have := HJ25.out; first | omega | exact Nat.le_refl _⟩, ⟨by (with_reducible repeat (first | apply Kd.R_alloc | apply Kd.R_drewN | apply Kd.R_drew)); exact Kd.R_mono (Kd.R_far (p := ⟨gb443, 1, none⟩) (Kd.R_far (p := ⟨gb443, 0, none⟩) (Kd.R_types HO_416001.out BK443.out (by decide)) (fun _ hk => hk.2) (.int .i64 t438)) (fun _ hk => hk.2) (.slice Ao60 t439.length co60)) (fun _ hk => ⟨hk.1.1.1.1, ⟨hk.1.1.1.2, ⟨hk.1.1.2, hk.1.2⟩⟩⟩)⟩, ⟨by (with_reducible repeat (first | apply Kd.R_alloc | apply Kd.R_drewN | apply Kd.R_drew)); exact Kd.R_mono (Kd.R_far (p := ⟨gb443, 1, none⟩) (Kd.R_far (p := ⟨gb443, 0, none⟩) (Kd.R_types HO_422001.out BK443.out (by decide)) (fun _ hk => hk.2) (.int .i64 t438)) (fun _ hk => hk.2) (.slice Ao60 t439.length co60)) (fun _ hk => ⟨hk.1.1.1.1, ⟨hk.1.1.1.2, ⟨hk.1.1.2, hk.1.2⟩⟩⟩)⟩, ⟨by (with_reducible repeat (first | apply Kd.R_alloc | apply Kd.R_drewN | apply Kd.R_drew)); exact Kd.R_mono (Kd.R_far (p := ⟨gb443, 1, none⟩) (Kd.R_far (p := ⟨gb443, 0, none⟩) (Kd.R_types HO_428001.out BK443.out (by decide)) (fun _ hk => hk.2) (.int .i64 t438)) (fun _ hk => hk.2) (.slice Ao60 t439.length co60)) (fun _ hk => ⟨hk.1.1.1.1, ⟨hk.1.1.1.2, ⟨hk.1.1.2, hk.1.2⟩⟩⟩)⟩, ⟨by (with_reducible repeat (first | apply Kd.R_alloc | apply Kd.R_drewN | apply Kd.R_drew)); exact Kd.R_mono (Kd.R_far (p := ⟨gb443, 1, none⟩) (Kd.R_far (p := ⟨gb443, 0, none⟩) (Kd.R_types HO433.out BK443.out (by decide)) (fun _ hk => hk.2) (.int .i64 t438)) (fun _ hk => hk.2) (.slice Ao60 t439.length co60)) (fun _ hk => ⟨hk.1.1.1.1.2, ⟨hk.1.1.1.2, ⟨hk.1.1.2, hk.1.2⟩⟩⟩)⟩, ⟨by (with_reducible repeat (first | apply Kd.R_alloc | apply Kd.R_drewN | apply Kd.R_drew)); exact Kd.R_mono (Kd.R_far (p := ⟨gb443, 1, none⟩) (Kd.R_far (p := ⟨gb443, 0, none⟩) (Kd.R_types HO441.out BK443.out (by decide)) (fun _ hk => hk.2) (.int .i64 t438)) (fun _ hk => hk.2) (.slice Ao60 t439.length co60)) (fun _ hk => ⟨hk.1.1.1.1.2, ⟨hk.1.1.1.2, ⟨hk.1.1.2, hk.1.2⟩⟩⟩)⟩, ⟨by (with_reducible repeat (first | refine blk_drewN ?_ _ | refine blk_drew ?_ | refine blk_alloc ?_ _)); refine blk_far ?_ NB415_443.out _; (with_reducible repeat (first | refine blk_drewN ?_ _ | refine blk_drew ?_ | refine blk_alloc ?_ _)); refine blk_far ?_ NB415_443.out _; (with_reducible repeat (first | refine blk_drewN ?_ _ | refine blk_drew ?_ | refine blk_alloc ?_ _)); exact BK415.out⟩, ⟨by (with_reducible repeat (first | refine blk_drewN ?_ _ | refine blk_drew ?_ | refine blk_alloc ?_ _)); refine blk_far ?_ NB421_443.out _; (with_reducible repeat (first | refine blk_drewN ?_ _ | refine blk_drew ?_ | refine blk_alloc ?_ _)); refine blk_far ?_ NB421_443.out _; (with_reducible repeat (first | refine blk_drewN ?_ _ | refine blk_drew ?_ | refine blk_alloc ?_ _)); exact BK421.out⟩, ⟨by (with_reducible repeat (first | refine blk_drewN ?_ _ | refine blk_drew ?_ | refine blk_alloc ?_ _)); refine blk_far ?_ NB427_443.out _; (with_reducible repeat (first | refine blk_drewN ?_ _ | refine blk_drew ?_ | refine blk_alloc ?_ _)); refine blk_far ?_ NB427_443.out _; (with_reducible repeat (first | refine blk_drewN ?_ _ | refine blk_drew ?_ | refine blk_alloc ?_ _)); exact BK427.out⟩, ⟨by (with_reducible repeat (first | refine blk_drewN ?_ _ | refine blk_drew ?_ | refine blk_alloc ?_ _)); refine blk_far ?_ NB435_443.out _; (with_reducible repeat (first | refine blk_drewN ?_ _ | refine blk_drew ?_ | refine blk_alloc ?_ _)); refine blk_far ?_ NB435_443.out _; (with_reducible repeat (first | refine blk_drewN ?_ _ | refine blk_drew ?_ | refine blk_alloc ?_ _)); exact BK435.out⟩, ⟨by (with_reducible repeat (first | refine blk_drewN ?_ _ | refine blk_drew ?_ | refine blk_alloc ?_ _)); refine blk_put (cs := #[.int .i64 t438, .slice none 0 0]) ?_ 1 _ rfl; (with_reducible repeat (first | refine blk_drewN ?_ _ | refine blk_drew ?_ | refine blk_alloc ?_ _)); refine blk_put (cs := #[.int .i64 0, .slice none 0 0]) ?_ 0 _ rfl; (with_reducible repeat (first | refine blk_drewN ?_ _ | refine blk_drew ?_ | refine blk_alloc ?_ _)); exact BK443.out⟩, ⟨xbg⟩⟩
          ·rw [if_neg c63] at H
           have c63b0 : ((t431.length : Int) == (t411.length : Int)) = false := beq_eq_false_iff_ne.mpr c63
           have c63b1 : ((t431.length : Int) != (t411.length : Int)) = true := bne_iff_ne.mpr c63
           have c63b2 : (t431.length == t411.length) = false := by first | simpa using c63 | (simp at c63 ⊢; omega)
           have H' := Aside0.mk H
           clear H
           have hnb76 := NB435_415.out
           have hnc76 := NB415_435.out
           have hnb77 := NB435_421.out
           have hnc77 := NB421_435.out
           have hnb78 := NB435_427.out
           have hnc78 := NB427_435.out
           have hnb79 := NB435_443.out
           have hnc79 := NB443_435.out
           have hcz80_0 : w54.cell? ⟨gb435, 0, none⟩ = some (.int .i64 t430) := (blk_cell BK435.out 0).trans rfl
           have hcz80_1 : w54.cell? ⟨gb435, 1, none⟩ = some (.slice Ao48 t431.length co48) := (blk_cell BK435.out 1).trans rfl
           have hfz80_0 := blk_frozen BK435.out 0
           have hfz80_1 := blk_frozen BK435.out 1
           have hnb81 := NB415_421.out
           have hnc81 := NB421_415.out
           have hnb82 := NB415_427.out
           have hnc82 := NB427_415.out
           have hnb83 := NB415_443.out
           have hnc83 := NB443_415.out
           have hcz84_0 : w54.cell? ⟨gb415, 0, none⟩ = some (.int .i64 t410) := (blk_cell BK415.out 0).trans rfl
           have hcz84_1 : w54.cell? ⟨gb415, 1, none⟩ = some (.slice Ao12 t411.length co12) := (blk_cell BK415.out 1).trans rfl
           have hfz84_0 := blk_frozen BK415.out 0
           have hfz84_1 := blk_frozen BK415.out 1
           go_wp2
           go_meet
           case rel => exact ⟨_, (true), (by first | rfl | (simp; done) | (simp [*]; done)), H', ⟨by have := HJ2.out; have := HJ7.out; have := HJ25.out; first | omega | exact Nat.le_refl _⟩, ⟨by (with_reducible repeat (first | apply Kd.R_alloc | apply Kd.R_drewN | apply Kd.R_drew)); exact Kd.R_mono (Kd.R_far (p := ⟨gb443, 1, none⟩) (Kd.R_far (p := ⟨gb443, 0, none⟩) (Kd.R_types HO_416001.out BK443.out (by decide)) (fun _ hk => hk.2) (.int .i64 t438)) (fun _ hk => hk.2) (.slice Ao60 t439.length co60)) (fun _ hk => ⟨hk.1.1.1.1, ⟨hk.1.1.1.2, ⟨hk.1.1.2, hk.1.2⟩⟩⟩)⟩, ⟨by (with_reducible repeat (first | apply Kd.R_alloc | apply Kd.R_drewN | apply Kd.R_drew)); exact Kd.R_mono (Kd.R_far (p := ⟨gb443, 1, none⟩) (Kd.R_far (p := ⟨gb443, 0, none⟩) (Kd.R_types HO_422001.out BK443.out (by decide)) (fun _ hk => hk.2) (.int .i64 t438)) (fun _ hk => hk.2) (.slice Ao60 t439.length co60)) (fun _ hk => ⟨hk.1.1.1.1, ⟨hk.1.1.1.2, ⟨hk.1.1.2, hk.1.2⟩⟩⟩)⟩, ⟨by (with_reducible repeat (first | apply Kd.R_alloc | apply Kd.R_drewN | apply Kd.R_drew)); exact Kd.R_mono (Kd.R_far (p := ⟨gb443, 1, none⟩) (Kd.R_far (p := ⟨gb443, 0, none⟩) (Kd.R_types HO_428001.out BK443.out (by decide)) (fun _ hk => hk.2) (.int .i64 t438)) (fun _ hk => hk.2) (.slice Ao60 t439.length co60)) (fun _ hk => ⟨hk.1.1.1.1, ⟨hk.1.1.1.2, ⟨hk.1.1.2, hk.1.2⟩⟩⟩)⟩, ⟨by (with_reducible repeat (first | apply Kd.R_alloc | apply Kd.R_drewN | apply Kd.R_drew)); exact Kd.R_mono (Kd.R_far (p := ⟨gb443, 1, none⟩) (Kd.R_far (p := ⟨gb443, 0, none⟩) (Kd.R_types HO433.out BK443.out (by decide)) (fun _ hk => hk.2) (.int .i64 t438)) (fun _ hk => hk.2) (.slice Ao60 t439.length co60)) (fun _ hk => ⟨hk.1.1.1.1.2, ⟨hk.1.1.1.2, ⟨hk.1.1.2, hk.1.2⟩⟩⟩)⟩, ⟨by (with_reducible repeat (first | apply Kd.R_alloc | apply Kd.R_drewN | apply Kd.R_drew)); exact Kd.R_mono (Kd.R_far (p := ⟨gb443, 1, none⟩) (Kd.R_far (p := ⟨gb443, 0, none⟩) (Kd.R_types HO441.out BK443.out (by decide)) (fun _ hk => hk.2) (.int .i64 t438)) (fun _ hk => hk.2) (.slice Ao60 t439.length co60)) (fun _ hk => ⟨hk.1.1.1.1.2, ⟨hk.1.1.1.2, ⟨hk.1.1.2, hk.1.2⟩⟩⟩)⟩, ⟨by (with_reducible repeat (first | refine blk_drewN ?_ _ | refine blk_drew ?_ | refine blk_alloc ?_ _)); refine blk_far ?_ NB415_443.out _; (with_reducible repeat (first | refine blk_drewN ?_ _ | refine blk_drew ?_ | refine blk_alloc ?_ _)); refine blk_far ?_ NB415_443.out _; (with_reducible repeat (first | refine blk_drewN ?_ _ | refine blk_drew ?_ | refine blk_alloc ?_ _)); exact BK415.out⟩, ⟨by (with_reducible repeat (first | refine blk_drewN ?_ _ | refine blk_drew ?_ | refine blk_alloc ?_ _)); refine blk_far ?_ NB421_443.out _; (with_reducible repeat (first | refine blk_drewN ?_ _ | refine blk_drew ?_ | refine blk_alloc ?_ _)); refine blk_far ?_ NB421_443.out _; (with_reducible repeat (first | refine blk_drewN ?_ _ | refine blk_drew ?_ | refine blk_alloc ?_ _)); exact BK421.out⟩, ⟨by (with_reducible repeat (first | refine blk_drewN ?_ _ | refine blk_drew ?_ | refine blk_alloc ?_ _)); refine blk_far ?_ NB427_443.out _; (with_reducible repeat (first | refine blk_drewN ?_ _ | refine blk_drew ?_ | refine blk_alloc ?_ _)); refine blk_far ?_ NB427_443.out _; (with_reducible repeat (first | refine blk_drewN ?_ _ | refine blk_drew ?_ | refine blk_alloc ?_ _)); exact BK427.out⟩, ⟨by (with_reducible repeat (first | refine blk_drewN ?_ _ | refine blk_drew ?_ | refine blk_alloc ?_ _)); refine blk_far ?_ NB435_443.out _; (with_reducible repeat (first | refine blk_drewN ?_ _ | refine blk_drew ?_ | refine blk_alloc ?_ _)); refine blk_far ?_ NB435_443.out _; (with_reducible repeat (first | refine blk_drewN ?_ _ | refine blk_drew ?_ | refine blk_alloc ?_ _)); exact BK435.out⟩, ⟨by (with_reducible repeat (first | refine blk_drewN ?_ _ | refine blk_drew ?_ | refine blk_alloc ?_ _)); refine blk_put (cs := #[.int .i64 t438, .slice none 0 0]) ?_ 1 _ rfl; (with_reducible repeat (first | refine blk_drewN ?_ _ | refine blk_drew ?_ | refine blk_alloc ?_ _)); refine blk_put (cs := #[.int .i64 0, .slice none 0 0]) ?_ 0 _ rfl; (with_reducible repeat (first | refine blk_drewN ?_ _ | refine blk_drew ?_ | refine blk_alloc ?_ _)); exact BK443.out⟩, ⟨xbg⟩⟩
         ·rw [if_neg c62] at H
          have c62b0 : (t442 == 0) = false := beq_eq_false_iff_ne.mpr c62
          have c62b1 : (t442 != 0) = true := bne_iff_ne.mpr c62
          have H' := Aside0.mk H
          clear H
          go_wp2
          go_meet
          case rel => exact ⟨_, (true), (by first | rfl | (simp; done) | (simp [*]; done)), H', ⟨by have := HJ2.out; have := HJ7.out; have := HJ25.out; first | omega | exact Nat.le_refl _⟩, ⟨by (with_reducible repeat (first | apply Kd.R_alloc | apply Kd.R_drewN | apply Kd.R_drew)); exact Kd.R_mono (Kd.R_far (p := ⟨gb443, 1, none⟩) (Kd.R_far (p := ⟨gb443, 0, none⟩) (Kd.R_types HO_416001.out BK443.out (by decide)) (fun _ hk => hk.2) (.int .i64 t438)) (fun _ hk => hk.2) (.slice Ao60 t439.length co60)) (fun _ hk => ⟨hk.1.1.1.1, ⟨hk.1.1.1.2, ⟨hk.1.1.2, hk.1.2⟩⟩⟩)⟩, ⟨by (with_reducible repeat (first | apply Kd.R_alloc | apply Kd.R_drewN | apply Kd.R_drew)); exact Kd.R_mono (Kd.R_far (p := ⟨gb443, 1, none⟩) (Kd.R_far (p := ⟨gb443, 0, none⟩) (Kd.R_types HO_422001.out BK443.out (by decide)) (fun _ hk => hk.2) (.int .i64 t438)) (fun _ hk => hk.2) (.slice Ao60 t439.length co60)) (fun _ hk => ⟨hk.1.1.1.1, ⟨hk.1.1.1.2, ⟨hk.1.1.2, hk.1.2⟩⟩⟩)⟩, ⟨by (with_reducible repeat (first | apply Kd.R_alloc | apply Kd.R_drewN | apply Kd.R_drew)); exact Kd.R_mono (Kd.R_far (p := ⟨gb443, 1, none⟩) (Kd.R_far (p := ⟨gb443, 0, none⟩) (Kd.R_types HO_428001.out BK443.out (by decide)) (fun _ hk => hk.2) (.int .i64 t438)) (fun _ hk => hk.2) (.slice Ao60 t439.length co60)) (fun _ hk => ⟨hk.1.1.1.1, ⟨hk.1.1.1.2, ⟨hk.1.1.2, hk.1.2⟩⟩⟩)⟩, ⟨by (with_reducible repeat (first | apply Kd.R_alloc | apply Kd.R_drewN | apply Kd.R_drew)); exact Kd.R_mono (Kd.R_far (p := ⟨gb443, 1, none⟩) (Kd.R_far (p := ⟨gb443, 0, none⟩) (Kd.R_types HO433.out BK443.out (by decide)) (fun _ hk => hk.2) (.int .i64 t438)) (fun _ hk => hk.2) (.slice Ao60 t439.length co60)) (fun _ hk => ⟨hk.1.1.1.1.2, ⟨hk.1.1.1.2, ⟨hk.1.1.2, hk.1.2⟩⟩⟩)⟩, ⟨by (with_reducible repeat (first | apply Kd.R_alloc | apply Kd.R_drewN | apply Kd.R_drew)); exact Kd.R_mono (Kd.R_far (p := ⟨gb443, 1, none⟩) (Kd.R_far (p := ⟨gb443, 0, none⟩) (Kd.R_types HO441.out BK443.out (by decide)) (fun _ hk => hk.2) (.int .i64 t438)) (fun _ hk => hk.2) (.slice Ao60 t439.length co60)) (fun _ hk => ⟨hk.1.1.1.1.2, ⟨hk.1.1.1.2, ⟨hk.1.1.2, hk.1.2⟩⟩⟩)⟩, ⟨by (with_reducible repeat (first | refine blk_drewN ?_ _ | refine blk_drew ?_ | refine blk_alloc ?_ _)); refine blk_far ?_ NB415_443.out _; (with_reducible repeat (first | refine blk_drewN ?_ _ | refine blk_drew ?_ | refine blk_alloc ?_ _)); refine blk_far ?_ NB415_443.out _; (with_reducible repeat (first | refine blk_drewN ?_ _ | refine blk_drew ?_ | refine blk_alloc ?_ _)); exact BK415.out⟩, ⟨by (with_reducible repeat (first | refine blk_drewN ?_ _ | refine blk_drew ?_ | refine blk_alloc ?_ _)); refine blk_far ?_ NB421_443.out _; (with_reducible repeat (first | refine blk_drewN ?_ _ | refine blk_drew ?_ | refine blk_alloc ?_ _)); refine blk_far ?_ NB421_443.out _; (with_reducible repeat (first | refine blk_drewN ?_ _ | refine blk_drew ?_ | refine blk_alloc ?_ _)); exact BK421.out⟩, ⟨by (with_reducible repeat (first | refine blk_drewN ?_ _ | refine blk_drew ?_ | refine blk_alloc ?_ _)); refine blk_far ?_ NB427_443.out _; (with_reducible repeat (first | refine blk_drewN ?_ _ | refine blk_drew ?_ | refine blk_alloc ?_ _)); refine blk_far ?_ NB427_443.out _; (with_reducible repeat (first | refine blk_drewN ?_ _ | refine blk_drew ?_ | refine blk_alloc ?_ _)); exact BK427.out⟩, ⟨by (with_reducible repeat (first | refine blk_drewN ?_ _ | refine blk_drew ?_ | refine blk_alloc ?_ _)); refine blk_far ?_ NB435_443.out _; (with_reducible repeat (first | refine blk_drewN ?_ _ | refine blk_drew ?_ | refine blk_alloc ?_ _)); refine blk_far ?_ NB435_443.out _; (with_reducible repeat (first | refine blk_drewN ?_ _ | refine blk_drew ?_ | refine blk_alloc ?_ _)); exact BK435.out⟩, ⟨by (with_reducible repeat (first | refine blk_drewN ?_ _ | refine blk_drew ?_ | refine blk_alloc ?_ _)); refine blk_put (cs := #[.int .i64 t438, .slice none 0 0]) ?_ 1 _ rfl; (with_reducible repeat (first | refine blk_drewN ?_ _ | refine blk_drew ?_ | refine blk_alloc ?_ _)); refine blk_put (cs := #[.int .i64 0, .slice none 0 0]) ?_ 0 _ rfl; (with_reducible repeat (first | refine blk_drewN ?_ _ | refine blk_drew ?_ | refine blk_alloc ?_ _)); exact BK443.out⟩, ⟨xbg⟩⟩
        ·rw [if_neg c61] at H
         have c61b0 : (t434 == 0) = false := beq_eq_false_iff_ne.mpr c61
         have c61b1 : (t434 != 0) = true := bne_iff_ne.mpr c61
         (first | rw [c61b0] | (simp only [i64_w, i32_w]; rw [c61b0]) | skip)
         have H' := Aside0.mk H
         clear H
         go_wp2
         go_meet
         case rel => exact ⟨_, (true), (by first | rfl | (simp; done) | (simp [*]; done)), H', ⟨by have := HJ2.out; have := HJ7.out; have := HJ25.out; first | omega | exact Nat.le_refl _⟩, ⟨by (with_reducible repeat (first | apply Kd.R_alloc | apply Kd.R_drewN | apply Kd.R_drew)); exact Kd.R_mono (Kd.R_far (p := ⟨gb443, 1, none⟩) (Kd.R_far (p := ⟨gb443, 0, none⟩) (Kd.R_types HO_416001.out BK443.out (by decide)) (fun _ hk => hk.2) (.int .i64 t438)) (fun _ hk => hk.2) (.slice Ao60 t439.length co60)) (fun _ hk => ⟨hk.1.1.1.1, ⟨hk.1.1.1.2, ⟨hk.1.1.2, hk.1.2⟩⟩⟩)⟩, ⟨by (with_reducible repeat (first | apply Kd.R_alloc | apply Kd.R_drewN | apply Kd.R_drew)); exact Kd.R_mono (Kd.R_far (p := ⟨gb443, 1, none⟩) (Kd.R_far (p := ⟨gb443, 0, none⟩) (Kd.R_types HO_422001.out BK443.out (by decide)) (fun _ hk => hk.2) (.int .i64 t438)) (fun _ hk => hk.2) (.slice Ao60 t439.length co60)) (fun _ hk => ⟨hk.1.1.1.1, ⟨hk.1.1.1.2, ⟨hk.1.1.2, hk.1.2⟩⟩⟩)⟩, ⟨by (with_reducible repeat (first | apply Kd.R_alloc | apply Kd.R_drewN | apply Kd.R_drew)); exact Kd.R_mono (Kd.R_far (p := ⟨gb443, 1, none⟩) (Kd.R_far (p := ⟨gb443, 0, none⟩) (Kd.R_types HO_428001.out BK443.out (by decide)) (fun _ hk => hk.2) (.int .i64 t438)) (fun _ hk => hk.2) (.slice Ao60 t439.length co60)) (fun _ hk => ⟨hk.1.1.1.1, ⟨hk.1.1.1.2, ⟨hk.1.1.2, hk.1.2⟩⟩⟩)⟩, ⟨by (with_reducible repeat (first | apply Kd.R_alloc | apply Kd.R_drewN | apply Kd.R_drew)); exact Kd.R_mono (Kd.R_far (p := ⟨gb443, 1, none⟩) (Kd.R_far (p := ⟨gb443, 0, none⟩) (Kd.R_types HO433.out BK443.out (by decide)) (fun _ hk => hk.2) (.int .i64 t438)) (fun _ hk => hk.2) (.slice Ao60 t439.length co60)) (fun _ hk => ⟨hk.1.1.1.1.2, ⟨hk.1.1.1.2, ⟨hk.1.1.2, hk.1.2⟩⟩⟩)⟩, ⟨by (with_reducible repeat (first | apply Kd.R_alloc | apply Kd.R_drewN | apply Kd.R_drew)); exact Kd.R_mono (Kd.R_far (p := ⟨gb443, 1, none⟩) (Kd.R_far (p := ⟨gb443, 0, none⟩) (Kd.R_types HO441.out BK443.out (by decide)) (fun _ hk => hk.2) (.int .i64 t438)) (fun _ hk => hk.2) (.slice Ao60 t439.length co60)) (fun _ hk => ⟨hk.1.1.1.1.2, ⟨hk.1.1.1.2, ⟨hk.1.1.2, hk.1.2⟩⟩⟩)⟩, ⟨by (with_reducible repeat (first | refine blk_drewN ?_ _ | refine blk_drew ?_ | refine blk_alloc ?_ _)); refine blk_far ?_ NB415_443.out _; (with_reducible repeat (first | refine blk_drewN ?_ _ | refine blk_drew ?_ | refine blk_alloc ?_ _)); refine blk_far ?_ NB415_443.out _; (with_reducible repeat (first | refine blk_drewN ?_ _ | refine blk_drew ?_ | refine blk_alloc ?_ _)); exact BK415.out⟩, ⟨by (with_reducible repeat (first | refine blk_drewN ?_ _ | refine blk_drew ?_ | refine blk_alloc ?_ _)); refine blk_far ?_ NB421_443.out _; (with_reducible repeat (first | refine blk_drewN ?_ _ | refine blk_drew ?_ | refine blk_alloc ?_ _)); refine blk_far ?_ NB421_443.out _; (with_reducible repeat (first | refine blk_drewN ?_ _ | refine blk_drew ?_ | refine blk_alloc ?_ _)); exact BK421.out⟩, ⟨by (with_reducible repeat (first | refine blk_drewN ?_ _ | refine blk_drew ?_ | refine blk_alloc ?_ _)); refine blk_far ?_ NB427_443.out _; (with_reducible repeat (first | refine blk_drewN ?_ _ | refine blk_drew ?_ | refine blk_alloc ?_ _)); refine blk_far ?_ NB427_443.out _; (with_reducible repeat (first | refine blk_drewN ?_ _ | refine blk_drew ?_ | refine blk_alloc ?_ _)); exact BK427.out⟩, ⟨by (with_reducible repeat (first | refine blk_drewN ?_ _ | refine blk_drew ?_ | refine blk_alloc ?_ _)); refine blk_far ?_ NB435_443.out _; (with_reducible repeat (first | refine blk_drewN ?_ _ | refine blk_drew ?_ | refine blk_alloc ?_ _)); refine blk_far ?_ NB435_443.out _; (with_reducible repeat (first | refine blk_drewN ?_ _ | refine blk_drew ?_ | refine blk_alloc ?_ _)); exact BK435.out⟩, ⟨by (with_reducible repeat (first | refine blk_drewN ?_ _ | refine blk_drew ?_ | refine blk_alloc ?_ _)); refine blk_put (cs := #[.int .i64 t438, .slice none 0 0]) ?_ 1 _ rfl; (with_reducible repeat (first | refine blk_drewN ?_ _ | refine blk_drew ?_ | refine blk_alloc ?_ _)); refine blk_put (cs := #[.int .i64 0, .slice none 0 0]) ?_ 0 _ rfl; (with_reducible repeat (first | refine blk_drewN ?_ _ | refine blk_drew ?_ | refine blk_alloc ?_ _)); exact BK443.out⟩, ⟨xbg⟩⟩
       case rest =>
        clear HC38
        try clear c1
        try clear c2
        try clear p2
        try clear c3
        try clear c4
        try clear c5
        try clear c6
        try clear c7
        try clear c8
        try clear c10
        try clear c15
        try clear c20
        try clear c21
        try clear c22
        try clear c25
        try clear c25b0
        try clear c25b1
        try clear c27
        try clear c27b0
        try clear c27b1
        try clear c28
        try clear c28b0
        try clear c28b1
        try clear c33
        try clear c35
        try clear c39
        try clear c40
        try clear c44
        try clear c45
        try clear c46
        try clear c49
        try clear c50
        try clear c51
        try clear c52
        try clear c55
        try clear c56
        try clear c57
        try clear c58
        try clear c61
        try clear c61b0
        try clear c61b1
        try clear c62
        try clear c62b0
        try clear c62b1
        try clear c63
        try clear c63b0
        try clear c63b1
        try clear c63b2
        try clear c64
        try clear c65
        try clear c66
        try clear c67
        try clear c69
        try clear c70
        try clear c71
        try clear c73
        try clear c74
        try clear c76
        try clear c77
        try clear c78
        try clear c79
        try clear c81
        try clear c82
        try clear c83
        try clear hcz11_0
        try clear hcz11_1
        try clear hcz16_0
        try clear hcz16_1
        try clear hcz18_0
        try clear hcz18_1
        try clear hcz23_0
        try clear hcz23_1
        try clear hcz41_0
        try clear hcz41_1
        try clear hcz47_0
        try clear hcz47_1
        try clear hcz50_0
        try clear hcz50_1
        try clear hcz52_0
        try clear hcz52_1
        try clear hcz59_0
        try clear hcz59_1
        try clear hcz68_0
        try clear hcz68_1
        try clear hcz72_0
        try clear hcz72_1
        try clear hcz75_0
        try clear hcz75_1
        try clear hcz80_0
        try clear hcz80_1
        try clear hcz84_0
        try clear hcz84_1
        try clear hfz11_0
        try clear hfz11_1
        try clear hfz16_0
        try clear hfz16_1
        try clear hfz18_0
        try clear hfz18_1
        try clear hfz23_0
        try clear hfz23_1
        try clear hfz41_0
        try clear hfz41_1
        try clear hfz47_0
        try clear hfz47_1
        try clear hfz50_0
        try clear hfz50_1
        try clear hfz52_0
        try clear hfz52_1
        try clear hfz59_0
        try clear hfz59_1
        try clear hfz68_0
        try clear hfz68_1
        try clear hfz72_0
        try clear hfz72_1
        try clear hfz75_0
        try clear hfz75_1
        try clear hfz80_0
        try clear hfz80_1
        try clear hfz84_0
        try clear hfz84_1
        try clear p2
        obtain ⟨kq, x92_37, rfl, HA, HJ37, HO_416001, HO_422001, HO_428001, HO_436001, HO_444001, BK415, BK421, BK427, BK435, BK443, HB⟩ := hcut
        cases kq with
        | zero => exact absurd HA.out (by simp [laws_FnSyncs.j3])
        | succ kj37 =>
         have H := HA.out
         clear HA
         simp only [laws_FnSyncs.j3] at H
         have HC85 := Aside0.mk H
         clear H
         go_upto_if 92 with (fail)
         go_cut [] (fun wc => ∃ (kq : Nat), Aside0 (laws_FnSyncs.j4 kq t414 t410 t411 t416 t417 t430 t431 t438 t439 = some r) ∧ Aside0 (kq ≤ kj37) ∧ Aside0 (Kd.R k81 81 wc w.heap.size (fun k_ => some k_ ≠ ((.slice Ao17 t417.length co17) : Value).ownBlock ∧ some k_ ≠ ((.slice Ao24 t423.length co24) : Value).ownBlock ∧ some k_ ≠ ((.slice Ao48 t431.length co48) : Value).ownBlock ∧ some k_ ≠ ((.slice Ao60 t439.length co60) : Value).ownBlock) (.slice Ao12 t411.length co12) t411) ∧ Aside0 (Kd.R k81 81 wc w.heap.size (fun k_ => some k_ ≠ ((.slice Ao12 t411.length co12) : Value).ownBlock ∧ some k_ ≠ ((.slice Ao24 t423.length co24) : Value).ownBlock ∧ some k_ ≠ ((.slice Ao48 t431.length co48) : Value).ownBlock ∧ some k_ ≠ ((.slice Ao60 t439.length co60) : Value).ownBlock) (.slice Ao17 t417.length co17) t417) ∧ Aside0 (Kd.R k81 81 wc w.heap.size (fun k_ => some k_ ≠ ((.slice Ao12 t411.length co12) : Value).ownBlock ∧ some k_ ≠ ((.slice Ao17 t417.length co17) : Value).ownBlock ∧ some k_ ≠ ((.slice Ao48 t431.length co48) : Value).ownBlock ∧ some k_ ≠ ((.slice Ao60 t439.length co60) : Value).ownBlock) (.slice Ao24 t423.length co24) t423) ∧ Aside0 (Kd.R k81 81 wc w.heap.size (fun k_ => some k_ ≠ ((.slice Ao12 t411.length co12) : Value).ownBlock ∧ some k_ ≠ ((.slice Ao17 t417.length co17) : Value).ownBlock ∧ some k_ ≠ ((.slice Ao24 t423.length co24) : Value).ownBlock ∧ some k_ ≠ ((.slice Ao60 t439.length co60) : Value).ownBlock) (.slice Ao48 t431.length co48) t431) ∧ Aside0 (Kd.R k81 81 wc w.heap.size (fun k_ => some k_ ≠ ((.slice Ao12 t411.length co12) : Value).ownBlock ∧ some k_ ≠ ((.slice Ao17 t417.length co17) : Value).ownBlock ∧ some k_ ≠ ((.slice Ao24 t423.length co24) : Value).ownBlock ∧ some k_ ≠ ((.slice Ao48 t431.length co48) : Value).ownBlock) (.slice Ao60 t439.length co60) t439) ∧ Aside0 (wc.heap[gb415]? = some (.cells #[.int .i64 t410, (.slice Ao12 t411.length co12)] 63 (0, 0))) ∧ Aside0 (wc.heap[gb421]? = some (.cells #[.int .i64 t416, (.slice Ao17 t417.length co17)] 63 (0, 0))) ∧ Aside0 (wc.heap[gb427]? = some (.cells #[.int .i64 t422, (.slice Ao24 t423.length co24)] 63 (0, 0))) ∧ Aside0 (wc.heap[gb435]? = some (.cells #[.int .i64 t430, (.slice Ao48 t431.length co48)] 63 (0, 0))) ∧ Aside0 (wc.heap[gb443]? = some (.cells #[.int .i64 t438, (.slice Ao60 t439.length co60)] 63 (0, 0))) ∧ Aside0 (Below w.heap.size w wc))
         case first =>
          have H := HC85.out
          clear HC85
          by_cases c86 : x92_37 = true
          ·subst c86
           have H1 : (some false) = some r := by rw [if_pos rfl] at H; exact H
           clear H
           have H := H1
           clear H1
           obtain rfl := Option.some.inj H
           go_wp2
           go_ret
           exact ⟨by first | rfl | (simp [errW_none, errW_some] <;> rfl) | (simp [*, errW_none, errW_some] <;> rfl), xbg⟩
          ·replace c86 := Bool.eq_false_iff.mpr c86
           subst c86
           have H1 : (laws_FnSyncs.j4 kj37 t414 t410 t411 t416 t417 t430 t431 t438 t439) = some r := by rw [if_neg (show ¬ (false = true) by decide)] at H; exact H
           clear H
           have H := H1
           clear H1
           have H' := Aside0.mk H
           clear H
           go_wp2
           go_meet
           case rel => exact ⟨_, H', ⟨by have := HJ2.out; have := HJ7.out; have := HJ25.out; have := HJ37.out; first | omega | exact Nat.le_refl _⟩, ⟨by (with_reducible repeat (first | apply Kd.R_alloc | apply Kd.R_drewN | apply Kd.R_drew)); exact HO_416001.out⟩, ⟨by (with_reducible repeat (first | apply Kd.R_alloc | apply Kd.R_drewN | apply Kd.R_drew)); exact HO_422001.out⟩, ⟨by (with_reducible repeat (first | apply Kd.R_alloc | apply Kd.R_drewN | apply Kd.R_drew)); exact HO_428001.out⟩, ⟨by (with_reducible repeat (first | apply Kd.R_alloc | apply Kd.R_drewN | apply Kd.R_drew)); exact HO_436001.out⟩, ⟨by (with_reducible repeat (first | apply Kd.R_alloc | apply Kd.R_drewN | apply Kd.R_drew)); exact HO_444001.out⟩, ⟨xblk⟩, ⟨xblk⟩, ⟨xblk⟩, ⟨xblk⟩, ⟨xblk⟩, ⟨xbg⟩⟩
         case rest =>
          clear HC85
          try clear c1
          try clear c2
          try clear p2
          try clear c3
          try clear c4
          try clear c5
          try clear c6
          try clear c7
          try clear c8
          try clear c10
          try clear c15
          try clear c20
          try clear c21
          try clear c22
          try clear c25
          try clear c25b0
          try clear c25b1
          try clear c27
          try clear c27b0
          try clear c27b1
          try clear c28
          try clear c28b0
          try clear c28b1
          try clear c33
          try clear c35
          try clear c39
          try clear c40
          try clear c44
          try clear c45
          try clear c46
          try clear c49
          try clear c50
          try clear c51
          try clear c52
          try clear c55
          try clear c56
          try clear c57
          try clear c58
          try clear c61
          try clear c61b0
          try clear c61b1
          try clear c62
          try clear c62b0
          try clear c62b1
          try clear c63
          try clear c63b0
          try clear c63b1
          try clear c63b2
          try clear c64
          try clear c65
          try clear c66
          try clear c67
          try clear c69
          try clear c70
          try clear c71
          try clear c73
          try clear c74
          try clear c76
          try clear c77
          try clear c78
          try clear c79
          try clear c81
          try clear c82
          try clear c83
          try clear c86
          try clear hcz11_0
          try clear hcz11_1
          try clear hcz16_0
          try clear hcz16_1
          try clear hcz18_0
          try clear hcz18_1
          try clear hcz23_0
          try clear hcz23_1
          try clear hcz41_0
          try clear hcz41_1
          try clear hcz47_0
          try clear hcz47_1
          try clear hcz50_0
          try clear hcz50_1
          try clear hcz52_0
          try clear hcz52_1
          try clear hcz59_0
          try clear hcz59_1
          try clear hcz68_0
          try clear hcz68_1
          try clear hcz72_0
          try clear hcz72_1
          try clear hcz75_0
          try clear hcz75_1
          try clear hcz80_0
          try clear hcz80_1
          try clear hcz84_0
          try clear hcz84_1
          try clear hfz11_0
          try clear hfz11_1
          try clear hfz16_0
          try clear hfz16_1
          try clear hfz18_0
          try clear hfz18_1
          try clear hfz23_0
          try clear hfz23_1
          try clear hfz41_0
          try clear hfz41_1
          try clear hfz47_0
          try clear hfz47_1
          try clear hfz50_0
          try clear hfz50_1
          try clear hfz52_0
          try clear hfz52_1
          try clear hfz59_0
          try clear hfz59_1
          try clear hfz68_0
          try clear hfz68_1
          try clear hfz72_0
          try clear hfz72_1
          try clear hfz75_0
          try clear hfz75_1
          try clear hfz80_0
          try clear hfz80_1
          try clear hfz84_0
          try clear hfz84_1
          try clear p2
          obtain ⟨kq, HA, HJ84, HO_416001, HO_422001, HO_428001, HO_436001, HO_444001, BK415, BK421, BK427, BK435, BK443, HB⟩ := hcut
          cases kq with
          | zero => exact absurd HA.out (by simp [laws_FnSyncs.j4])
          | succ kj84 =>
           have H := HA.out
           clear HA
           simp only [laws_FnSyncs.j4] at H
           have H' := Aside0.mk H
           clear H
           go_wp2
           go_loopg [15] kj84 (fun kq v15 w' => ∃ (x15_6 : Int), v15 = .int .i64 x15_6 ∧ Aside0 (laws_FnSyncs.l0 kq t414 x15_6 t410 t411 t416 t417 t430 t431 t438 t439 = some r) ∧ Aside0 (kq ≤ kj84) ∧ Aside0 (Kd.R k81 81 w' w.heap.size (fun k_ => some k_ ≠ ((.slice Ao17 t417.length co17) : Value).ownBlock ∧ some k_ ≠ ((.slice Ao24 t423.length co24) : Value).ownBlock ∧ some k_ ≠ ((.slice Ao48 t431.length co48) : Value).ownBlock ∧ some k_ ≠ ((.slice Ao60 t439.length co60) : Value).ownBlock) (.slice Ao12 t411.length co12) t411) ∧ Aside0 (Kd.R k81 81 w' w.heap.size (fun k_ => some k_ ≠ ((.slice Ao12 t411.length co12) : Value).ownBlock ∧ some k_ ≠ ((.slice Ao24 t423.length co24) : Value).ownBlock ∧ some k_ ≠ ((.slice Ao48 t431.length co48) : Value).ownBlock ∧ some k_ ≠ ((.slice Ao60 t439.length co60) : Value).ownBlock) (.slice Ao17 t417.length co17) t417) ∧ Aside0 (Kd.R k81 81 w' w.heap.size (fun k_ => some k_ ≠ ((.slice Ao12 t411.length co12) : Value).ownBlock ∧ some k_ ≠ ((.slice Ao17 t417.length co17) : Value).ownBlock ∧ some k_ ≠ ((.slice Ao48 t431.length co48) : Value).ownBlock ∧ some k_ ≠ ((.slice Ao60 t439.length co60) : Value).ownBlock) (.slice Ao24 t423.length co24) t423) ∧ Aside0 (Kd.R k81 81 w' w.heap.size (fun k_ => some k_ ≠ ((.slice Ao12 t411.length co12) : Value).ownBlock ∧ some k_ ≠ ((.slice Ao17 t417.length co17) : Value).ownBlock ∧ some k_ ≠ ((.slice Ao24 t423.length co24) : Value).ownBlock ∧ some k_ ≠ ((.slice Ao60 t439.length co60) : Value).ownBlock) (.slice Ao48 t431.length co48) t431) ∧ Aside0 (Kd.R k81 81 w' w.heap.size (fun k_ => some k_ ≠ ((.slice Ao12 t411.length co12) : Value).ownBlock ∧ some k_ ≠ ((.slice Ao17 t417.length co17) : Value).ownBlock ∧ some k_ ≠ ((.slice Ao24 t423.length co24) : Value).ownBlock ∧ some k_ ≠ ((.slice Ao48 t431.length co48) : Value).ownBlock) (.slice Ao60 t439.length co60) t439) ∧ Aside0 (w'.heap[gb415]? = some (.cells #[.int .i64 t410, (.slice Ao12 t411.length co12)] 63 (0, 0))) ∧ Aside0 (w'.heap[gb421]? = some (.cells #[.int .i64 t416, (.slice Ao17 t417.length co17)] 63 (0, 0))) ∧ Aside0 (w'.heap[gb427]? = some (.cells #[.int .i64 t422, (.slice Ao24 t423.length co24)] 63 (0, 0))) ∧ Aside0 (w'.heap[gb435]? = some (.cells #[.int .i64 t430, (.slice Ao48 t431.length co48)] 63 (0, 0))) ∧ Aside0 (w'.heap[gb443]? = some (.cells #[.int .i64 t438, (.slice Ao60 t439.length co60)] 63 (0, 0))) ∧ Aside0 (Below w.heap.size w w'))
           case atStart => exact ⟨(0), (by first | rfl | (simp; done) | (simp [*]; done)), H', ⟨Nat.le_refl _⟩, ⟨by (with_reducible repeat (first | apply Kd.R_alloc | apply Kd.R_drewN | apply Kd.R_drew)); exact HO_416001.out⟩, ⟨by (with_reducible repeat (first | apply Kd.R_alloc | apply Kd.R_drewN | apply Kd.R_drew)); exact HO_422001.out⟩, ⟨by (with_reducible repeat (first | apply Kd.R_alloc | apply Kd.R_drewN | apply Kd.R_drew)); exact HO_428001.out⟩, ⟨by (with_reducible repeat (first | apply Kd.R_alloc | apply Kd.R_drewN | apply Kd.R_drew)); exact HO_436001.out⟩, ⟨by (with_reducible repeat (first | apply Kd.R_alloc | apply Kd.R_drewN | apply Kd.R_drew)); exact HO_444001.out⟩, ⟨xblk⟩, ⟨xblk⟩, ⟨xblk⟩, ⟨xblk⟩, ⟨xblk⟩, ⟨xbg⟩⟩
           case round =>
            clear H'
            try clear c1
            try clear c2
            try clear p2
            try clear c3
            try clear c4
            try clear c5
            try clear c6
            try clear c7
            try clear c8
            try clear c10
            try clear c15
            try clear c20
            try clear c21
            try clear c22
            try clear c25
            try clear c25b0
            try clear c25b1
            try clear c27
            try clear c27b0
            try clear c27b1
            try clear c28
            try clear c28b0
            try clear c28b1
            try clear c33
            try clear c35
            try clear c39
            try clear c40
            try clear c44
            try clear c45
            try clear c46
            try clear c49
            try clear c50
            try clear c51
            try clear c52
            try clear c55
            try clear c56
            try clear c57
            try clear c58
            try clear c61
            try clear c61b0
            try clear c61b1
            try clear c62
            try clear c62b0
            try clear c62b1
            try clear c63
            try clear c63b0
            try clear c63b1
            try clear c63b2
            try clear c64
            try clear c65
            try clear c66
            try clear c67
            try clear c69
            try clear c70
            try clear c71
            try clear c73
            try clear c74
            try clear c76
            try clear c77
            try clear c78
            try clear c79
            try clear c81
            try clear c82
            try clear c83
            try clear c86
            try clear hcz11_0
            try clear hcz11_1
            try clear hcz16_0
            try clear hcz16_1
            try clear hcz18_0
            try clear hcz18_1
            try clear hcz23_0
            try clear hcz23_1
            try clear hcz41_0
            try clear hcz41_1
            try clear hcz47_0
            try clear hcz47_1
            try clear hcz50_0
            try clear hcz50_1
            try clear hcz52_0
            try clear hcz52_1
            try clear hcz59_0
            try clear hcz59_1
            try clear hcz68_0
            try clear hcz68_1
            try clear hcz72_0
            try clear hcz72_1
            try clear hcz75_0
            try clear hcz75_1
            try clear hcz80_0
            try clear hcz80_1
            try clear hcz84_0
            try clear hcz84_1
            try clear hfz11_0
            try clear hfz11_1
            try clear hfz16_0
            try clear hfz16_1
            try clear hfz18_0
            try clear hfz18_1
            try clear hfz23_0
            try clear hfz23_1
            try clear hfz41_0
            try clear hfz41_1
            try clear hfz47_0
            try clear hfz47_1
            try clear hfz50_0
            try clear hfz50_1
            try clear hfz52_0
            try clear hfz52_1
            try clear hfz59_0
            try clear hfz59_1
            try clear hfz68_0
            try clear hfz68_1
            try clear hfz72_0
            try clear hfz72_1
            try clear hfz75_0
            try clear hfz75_1
            try clear hfz80_0
            try clear hfz80_1
            try clear hfz84_0
            try clear hfz84_1
            try clear p2
            obtain ⟨x15_6, rfl, HA, HK6, HO_416001, HO_422001, HO_428001, HO_436001, HO_444001, BK415, BK421, BK427, BK435, BK443, HB⟩ := hrel
            cases gk with
            | zero => exact absurd HA.out (by simp [laws_FnSyncs.l0])
            | succ k6 =>
             have H := HA.out
             clear HA
             simp only [laws_FnSyncs.l0] at H
             by_cases c87 : x15_6 < (t411.length : Int)
             ·rw [if_pos c87] at H
              have c87b0 : decide (x15_6 < (t411.length : Int)) = true := decide_eq_true c87
              clear c87
              by_cases c88 : 0 ≤ x15_6
              ·rw [if_pos c88] at H
               have c88b0 : decide (0 ≤ x15_6) = true := decide_eq_true c88
               clear c88
               by_cases c89 : x15_6 < (t431.length : Int)
               ·rw [if_pos c89] at H
                have c89b0 : decide (x15_6 < (t431.length : Int)) = true := decide_eq_true c89
                clear c89
                by_cases c90 : x15_6 < (t417.length : Int)
                ·rw [if_pos c90] at H
                 have c90b0 : decide (x15_6 < (t417.length : Int)) = true := decide_eq_true c90
                 clear c90
                 by_cases c91 : (!(((rd_T81 t431 x15_6).f0) == ((rd_T81 t417 x15_6).f0)) || (!((((rd_T81 t431 x15_6).f1).toList) == (((rd_T81 t417 x15_6).f1).toList)) || (!((((rd_T81 t431 x15_6).f2).toList) == (((rd_T81 t417 x15_6).f2).toList))))) = true
                 ·rw [if_pos c91] at H
                  have c91b0 : (!(((rd_T81 t431 x15_6).f0) == ((rd_T81 t417 x15_6).f0)) || (!((((rd_T81 t431 x15_6).f1).toList) == (((rd_T81 t417 x15_6).f1).toList)) || (!((((rd_T81 t431 x15_6).f2).toList) == (((rd_T81 t417 x15_6).f2).toList))))) = true := c91
                  clear c91
                  obtain rfl := Option.some.inj H
                  have hnb92 := NB415_421.out
                  have hnc92 := NB421_415.out
                  have hnb93 := NB415_427.out
                  have hnc93 := NB427_415.out
                  have hnb94 := NB415_435.out
                  have hnc94 := NB435_415.out
                  have hnb95 := NB415_443.out
                  have hnc95 := NB443_415.out
                  have hcz96_0 : wr.cell? ⟨gb415, 0, none⟩ = some (.int .i64 t410) := (blk_cell BK415.out 0).trans rfl
                  have hcz96_1 : wr.cell? ⟨gb415, 1, none⟩ = some (.slice Ao12 t411.length co12) := (blk_cell BK415.out 1).trans rfl
                  have hfz96_0 := blk_frozen BK415.out 0
                  have hfz96_1 := blk_frozen BK415.out 1
                  try go_wp2
                  replace HO_416001 := Aside0.mk (Kd.R_drew HO_416001.out)
                  replace HO_422001 := Aside0.mk (Kd.R_drew HO_422001.out)
                  replace HO_428001 := Aside0.mk (Kd.R_drew HO_428001.out)
                  replace HO_436001 := Aside0.mk (Kd.R_drew HO_436001.out)
                  replace HO_444001 := Aside0.mk (Kd.R_drew HO_444001.out)
                  replace BK415 := Aside0.mk (blk_drew BK415.out)
                  replace BK421 := Aside0.mk (blk_drew BK421.out)
                  replace BK427 := Aside0.mk (blk_drew BK427.out)
                  replace BK435 := Aside0.mk (blk_drew BK435.out)
                  replace BK443 := Aside0.mk (blk_drew BK443.out)
                  replace HB := Aside0.mk (below_drew1 HB.out)
                  have p444 : 0 ≤ (x15_6 : Int) := of_decide_eq_true (by first | (with_reducible assumption) | assumption)
                  have q444 : x15_6 < (t431.length : Int) := of_decide_eq_true (by first | (with_reducible assumption) | assumption)
                  obtain ⟨ad444, e444, hx444_0, hx444_1, hx444_2⟩ := at_T81 (Kd.R_reads' HO_436001.out).2.2 x15_6 p444 q444
                  cases e444
                  replace p444 := eq_true p444
                  replace q444 := eq_true q444
                  have p445 : 0 ≤ (x15_6 : Int) := of_decide_eq_true (by first | (with_reducible assumption) | assumption)
                  have q445 : x15_6 < (t417.length : Int) := of_decide_eq_true (by first | (with_reducible assumption) | assumption)
                  obtain ⟨ad445, e445, hx445_0, hx445_1, hx445_2⟩ := at_T81 (Kd.R_reads' HO_422001.out).2.2 x15_6 p445 q445
                  cases e445
                  replace p445 := eq_true p445
                  replace q445 := eq_true q445
                  refine start_ (n := 47) (S := fun w' => w'.cell? ⟨gb435, 0, none⟩ = some (.int .i64 t430) ∧ w'.cell? ⟨gb435, 1, none⟩ = some (.slice (some ad444) t431.length co48) ∧ w'.cell? ⟨gb421, 0, none⟩ = some (.int .i64 t416) ∧ w'.cell? ⟨gb421, 1, none⟩ = some (.slice (some ad445) t417.length co17) ∧ w'.cell? (ad444.add ((x15_6).toNat * 3)) = some (.int .i64 ((rd_T81 t431 x15_6).f0)) ∧ w'.cell? ⟨(ad444.add ((x15_6).toNat * 3)).block, (ad444.add ((x15_6).toNat * 3)).off + 1, none⟩ = some (.string ((rd_T81 t431 x15_6).f1)) ∧ w'.cell? ⟨(ad444.add ((x15_6).toNat * 3)).block, (ad444.add ((x15_6).toNat * 3)).off + 2, none⟩ = some (.string ((rd_T81 t431 x15_6).f2)) ∧ w'.cell? (ad445.add ((x15_6).toNat * 3)) = some (.int .i64 ((rd_T81 t417 x15_6).f0)) ∧ w'.cell? ⟨(ad445.add ((x15_6).toNat * 3)).block, (ad445.add ((x15_6).toNat * 3)).off + 1, none⟩ = some (.string ((rd_T81 t417 x15_6).f1)) ∧ w'.cell? ⟨(ad445.add ((x15_6).toNat * 3)).block, (ad445.add ((x15_6).toNat * 3)).off + 2, none⟩ = some (.string ((rd_T81 t417 x15_6).f2))) (ds := []) #[false, false, false, false, false, false, false, false, false, false, false, false, false, false, false, false, false, false, false, false, false, false, false, false, false, false, false, false, false, false, false, false, false, false, false, false, false, false, false, false, false, false, false, false, false, false, false] (by kernel_rfl) rfl rfl ⟨(blk_cell BK435.out 0).trans rfl, (blk_cell BK435.out 1).trans rfl, (blk_cell BK421.out 0).trans rfl, (blk_cell BK421.out 1).trans rfl, hx444_0, hx444_1, hx444_2, hx445_0, hx445_1, hx445_2⟩ (fun hHeld => ?_); refine with_tabW laws_FnSyncs.tab18 laws_FnSyncs.bits18 (fun HT_ HW_ => ?_)
                  generalize wr.drew = w97 at HO_416001 HO_422001 HO_428001 HO_436001 HO_444001 BK415 BK421 BK427 BK435 BK443 HB hx444_0 hx444_1 hx444_2 hx445_0 hx445_1 hx445_2 hHeld ⊢
                  refine pv_ 0 100 (h := ?_)
                  refine pv_ 2 102 (h := ?_)
                  refine pv_ 5 105 (h := ?_)
                  refine pv_ 7 107 (h := ?_)
                  refine tk_ 1 101 (h := ?_)
                  refine pv_ 3 103 (h := ?_)
                  refine tk_ 4 104 (h := ?_)
                  refine tk_ 6 106 (h := ?_)
                  refine pv_ 8 108 (h := ?_)
                  refine tk_ 9 109 (h := ?_)
                  refine pv_ 10 110 (h := ?_)
                  refine pv_ 11 111 (h := ?_)
                  refine pu_ 12 112 (h := ?_)
                  refine pu_ 13 113 (h := ?_)
                  refine pu_ 14 114 (h := ?_)
                  refine pu_ 15 115 (h := ?_)
                  refine pu_ 16 116 (h := ?_)
                  refine pu_ 17 117 (h := ?_)
                  refine pu_ 18 118 (h := ?_)
                  refine pu_ 19 119 (h := ?_)
                  refine pu_ 20 120 (h := ?_)
                  refine pu_ 21 121 (h := ?_)
                  refine pu_ 22 122 (h := ?_)
                  refine pv_ 23 123 (h := ?_)
                  refine pv_ 24 124 (h := ?_)
                  refine pu_ 25 125 (h := ?_)
                  refine pu_ 26 126 (h := ?_)
                  refine pu_ 27 127 (h := ?_)
                  refine pu_ 28 128 (h := ?_)
                  refine pu_ 29 129 (h := ?_)
                  refine pu_ 30 130 (h := ?_)
                  refine pu_ 31 131 (h := ?_)
                  refine pu_ 32 132 (h := ?_)
                  refine pu_ 33 133 (h := ?_)
                  refine pu_ 34 134 (h := ?_)
                  refine pu_ 35 135 (h := ?_)
                  refine pu_ 36 136 (h := ?_)
                  refine pu_ 37 137 (h := ?_)
                  refine pu_ 38 138 (h := ?_)
                  refine pu_ 39 139 (h := ?_)
                  refine pu_ 40 140 (h := ?_)
                  refine pu_ 41 141 (h := ?_)
                  refine pu_ 42 142 (h := ?_)
                  refine pu_ 43 143 (h := ?_)
                  refine pu_ 44 144 (h := ?_)
                  refine pu_ 45 145 (h := ?_)
                  refine pv_ 46 146 (h := ?_)
                  refine done_ (done_of HT_.out (by kernel_rfl)) ?_
                  try go_wp2
                  go_ret
                  exact ⟨by first | rfl | (simp [errW_none, errW_some] <;> rfl) | (simp [*, errW_none, errW_some] <;> rfl), xbg⟩
                 ·rw [if_neg c91] at H
                  have c91b0 : (!(((rd_T81 t431 x15_6).f0) == ((rd_T81 t417 x15_6).f0)) || (!((((rd_T81 t431 x15_6).f1).toList) == (((rd_T81 t417 x15_6).f1).toList)) || (!((((rd_T81 t431 x15_6).f2).toList) == (((rd_T81 t417 x15_6).f2).toList))))) = false := by simpa using c91
                  clear c91
                  by_cases c98 : x15_6 < (t439.length : Int)
                  ·rw [if_pos c98] at H
                   have c98b0 : decide (x15_6 < (t439.length : Int)) = true := decide_eq_true c98
                   clear c98
                   by_cases c99 : (!(((rd_T81 t439 x15_6).f0) == ((rd_T81 t411 x15_6).f0)) || (!((((rd_T81 t439 x15_6).f1).toList) == (((rd_T81 t411 x15_6).f1).toList)) || (!((((rd_T81 t439 x15_6).f2).toList) == (((rd_T81 t411 x15_6).f2).toList))))) = true
                   ·rw [if_pos c99] at H
                    have c99b0 : (!(((rd_T81 t439 x15_6).f0) == ((rd_T81 t411 x15_6).f0)) || (!((((rd_T81 t439 x15_6).f1).toList) == (((rd_T81 t411 x15_6).f1).toList)) || (!((((rd_T81 t439 x15_6).f2).toList) == (((rd_T81 t411 x15_6).f2).toList))))) = true := c99
                    clear c99
                    obtain rfl := Option.some.inj H
                    have hnb100 := NB415_421.out
                    have hnc100 := NB421_415.out
                    have hnb101 := NB415_427.out
                    have hnc101 := NB427_415.out
                    have hnb102 := NB415_435.out
                    have hnc102 := NB435_415.out
                    have hnb103 := NB415_443.out
                    have hnc103 := NB443_415.out
                    have hcz104_0 : wr.cell? ⟨gb415, 0, none⟩ = some (.int .i64 t410) := (blk_cell BK415.out 0).trans rfl
                    have hcz104_1 : wr.cell? ⟨gb415, 1, none⟩ = some (.slice Ao12 t411.length co12) := (blk_cell BK415.out 1).trans rfl
                    have hfz104_0 := blk_frozen BK415.out 0
                    have hfz104_1 := blk_frozen BK415.out 1
                    try go_wp2
                    replace HO_416001 := Aside0.mk (Kd.R_drew HO_416001.out)
                    replace HO_422001 := Aside0.mk (Kd.R_drew HO_422001.out)
                    replace HO_428001 := Aside0.mk (Kd.R_drew HO_428001.out)
                    replace HO_436001 := Aside0.mk (Kd.R_drew HO_436001.out)
                    replace HO_444001 := Aside0.mk (Kd.R_drew HO_444001.out)
                    replace BK415 := Aside0.mk (blk_drew BK415.out)
                    replace BK421 := Aside0.mk (blk_drew BK421.out)
                    replace BK427 := Aside0.mk (blk_drew BK427.out)
                    replace BK435 := Aside0.mk (blk_drew BK435.out)
                    replace BK443 := Aside0.mk (blk_drew BK443.out)
                    replace HB := Aside0.mk (below_drew1 HB.out)
                    have p444 : 0 ≤ (x15_6 : Int) := of_decide_eq_true (by first | (with_reducible assumption) | assumption)
                    have q444 : x15_6 < (t431.length : Int) := of_decide_eq_true (by first | (with_reducible assumption) | assumption)
                    obtain ⟨ad444, e444, hx444_0, hx444_1, hx444_2⟩ := at_T81 (Kd.R_reads' HO_436001.out).2.2 x15_6 p444 q444
                    cases e444
                    replace p444 := eq_true p444
                    replace q444 := eq_true q444
                    have p445 : 0 ≤ (x15_6 : Int) := of_decide_eq_true (by first | (with_reducible assumption) | assumption)
                    have q445 : x15_6 < (t417.length : Int) := of_decide_eq_true (by first | (with_reducible assumption) | assumption)
                    obtain ⟨ad445, e445, hx445_0, hx445_1, hx445_2⟩ := at_T81 (Kd.R_reads' HO_422001.out).2.2 x15_6 p445 q445
                    cases e445
                    replace p445 := eq_true p445
                    replace q445 := eq_true q445
                    have p446 : 0 ≤ (x15_6 : Int) := of_decide_eq_true (by first | (with_reducible assumption) | assumption)
                    have q446 : x15_6 < (t439.length : Int) := of_decide_eq_true (by first | (with_reducible assumption) | assumption)
                    obtain ⟨ad446, e446, hx446_0, hx446_1, hx446_2⟩ := at_T81 (Kd.R_reads' HO_444001.out).2.2 x15_6 p446 q446
                    cases e446
                    replace p446 := eq_true p446
                    replace q446 := eq_true q446
                    have p447 : 0 ≤ (x15_6 : Int) := of_decide_eq_true (by first | (with_reducible assumption) | assumption)
                    have q447 : x15_6 < (t411.length : Int) := of_decide_eq_true (by first | (with_reducible assumption) | assumption)
                    obtain ⟨ad447, e447, hx447_0, hx447_1, hx447_2⟩ := at_T81 (Kd.R_reads' HO_416001.out).2.2 x15_6 p447 q447
                    cases e447
                    replace p447 := eq_true p447
                    replace q447 := eq_true q447
                    refine start_ (n := 47) (S := fun w' => w'.cell? ⟨gb435, 0, none⟩ = some (.int .i64 t430) ∧ w'.cell? ⟨gb435, 1, none⟩ = some (.slice (some ad444) t431.length co48) ∧ w'.cell? ⟨gb421, 0, none⟩ = some (.int .i64 t416) ∧ w'.cell? ⟨gb421, 1, none⟩ = some (.slice (some ad445) t417.length co17) ∧ w'.cell? ⟨gb443, 0, none⟩ = some (.int .i64 t438) ∧ w'.cell? ⟨gb443, 1, none⟩ = some (.slice (some ad446) t439.length co60) ∧ w'.cell? ⟨gb415, 0, none⟩ = some (.int .i64 t410) ∧ w'.cell? ⟨gb415, 1, none⟩ = some (.slice (some ad447) t411.length co12) ∧ w'.cell? (ad444.add ((x15_6).toNat * 3)) = some (.int .i64 ((rd_T81 t431 x15_6).f0)) ∧ w'.cell? ⟨(ad444.add ((x15_6).toNat * 3)).block, (ad444.add ((x15_6).toNat * 3)).off + 1, none⟩ = some (.string ((rd_T81 t431 x15_6).f1)) ∧ w'.cell? ⟨(ad444.add ((x15_6).toNat * 3)).block, (ad444.add ((x15_6).toNat * 3)).off + 2, none⟩ = some (.string ((rd_T81 t431 x15_6).f2)) ∧ w'.cell? (ad445.add ((x15_6).toNat * 3)) = some (.int .i64 ((rd_T81 t417 x15_6).f0)) ∧ w'.cell? ⟨(ad445.add ((x15_6).toNat * 3)).block, (ad445.add ((x15_6).toNat * 3)).off + 1, none⟩ = some (.string ((rd_T81 t417 x15_6).f1)) ∧ w'.cell? ⟨(ad445.add ((x15_6).toNat * 3)).block, (ad445.add ((x15_6).toNat * 3)).off + 2, none⟩ = some (.string ((rd_T81 t417 x15_6).f2)) ∧ w'.cell? (ad446.add ((x15_6).toNat * 3)) = some (.int .i64 ((rd_T81 t439 x15_6).f0)) ∧ w'.cell? ⟨(ad446.add ((x15_6).toNat * 3)).block, (ad446.add ((x15_6).toNat * 3)).off + 1, none⟩ = some (.string ((rd_T81 t439 x15_6).f1)) ∧ w'.cell? ⟨(ad446.add ((x15_6).toNat * 3)).block, (ad446.add ((x15_6).toNat * 3)).off + 2, none⟩ = some (.string ((rd_T81 t439 x15_6).f2)) ∧ w'.cell? (ad447.add ((x15_6).toNat * 3)) = some (.int .i64 ((rd_T81 t411 x15_6).f0)) ∧ w'.cell? ⟨(ad447.add ((x15_6).toNat * 3)).block, (ad447.add ((x15_6).toNat * 3)).off + 1, none⟩ = some (.string ((rd_T81 t411 x15_6).f1)) ∧ w'.cell? ⟨(ad447.add ((x15_6).toNat * 3)).block, (ad447.add ((x15_6).toNat * 3)).off + 2, none⟩ = some (.string ((rd_T81 t411 x15_6).f2))) (ds := []) #[false, false, false, false, false, false, false, false, false, false, false, false, false, false, false, false, false, false, false, false, false, false, false, false, false, false, false, false, false, false, false, false, false, false, false, false, false, false, false, false, false, false, false, false, false, false, false] (by kernel_rfl) rfl rfl ⟨(blk_cell BK435.out 0).trans rfl, (blk_cell BK435.out 1).trans rfl, (blk_cell BK421.out 0).trans rfl, (blk_cell BK421.out 1).trans rfl, (blk_cell BK443.out 0).trans rfl, (blk_cell BK443.out 1).trans rfl, (blk_cell BK415.out 0).trans rfl, (blk_cell BK415.out 1).trans rfl, hx444_0, hx444_1, hx444_2, hx445_0, hx445_1, hx445_2, hx446_0, hx446_1, hx446_2, hx447_0, hx447_1, hx447_2⟩ (fun hHeld => ?_); refine with_tabW laws_FnSyncs.tab18 laws_FnSyncs.bits18 (fun HT_ HW_ => ?_)
                    generalize wr.drew = w105 at HO_416001 HO_422001 HO_428001 HO_436001 HO_444001 BK415 BK421 BK427 BK435 BK443 HB hx444_0 hx444_1 hx444_2 hx445_0 hx445_1 hx445_2 hx446_0 hx446_1 hx446_2 hx447_0 hx447_1 hx447_2 hHeld ⊢
                    refine pv_ 0 100 (h := ?_)
                    refine pv_ 2 102 (h := ?_)
                    refine pv_ 5 105 (h := ?_)
                    refine pv_ 7 107 (h := ?_)
                    refine tk_ 1 101 (h := ?_)
                    refine pv_ 3 103 (h := ?_)
                    refine tk_ 4 104 (h := ?_)
                    refine tk_ 6 106 (h := ?_)
                    refine pv_ 8 108 (h := ?_)
                    refine tk_ 9 109 (h := ?_)
                    refine pv_ 10 110 (h := ?_)
                    refine pv_ 11 111 (h := ?_)
                    refine pv_ 12 112 (h := ?_)
                    refine pv_ 14 114 (h := ?_)
                    refine pv_ 17 117 (h := ?_)
                    refine pv_ 19 119 (h := ?_)
                    refine tk_ 13 113 (h := ?_)
                    refine pv_ 15 115 (h := ?_)
                    refine tk_ 16 116 (h := ?_)
                    refine tk_ 18 118 (h := ?_)
                    refine pv_ 20 120 (h := ?_)
                    refine tk_ 21 121 (h := ?_)
                    refine pv_ 22 122 (h := ?_)
                    refine pv_ 23 123 (h := ?_)
                    refine pv_ 24 124 (h := ?_)
                    refine pu_ 25 125 (h := ?_)
                    refine pu_ 26 126 (h := ?_)
                    refine pu_ 27 127 (h := ?_)
                    refine pu_ 28 128 (h := ?_)
                    refine pu_ 29 129 (h := ?_)
                    refine pu_ 30 130 (h := ?_)
                    refine pu_ 31 131 (h := ?_)
                    refine pu_ 32 132 (h := ?_)
                    refine pu_ 33 133 (h := ?_)
                    refine pu_ 34 134 (h := ?_)
                    refine pu_ 35 135 (h := ?_)
                    refine pu_ 36 136 (h := ?_)
                    refine pu_ 37 137 (h := ?_)
                    refine pu_ 38 138 (h := ?_)
                    refine pu_ 39 139 (h := ?_)
                    refine pu_ 40 140 (h := ?_)
                    refine pu_ 41 141 (h := ?_)
                    refine pu_ 42 142 (h := ?_)
                    refine pu_ 43 143 (h := ?_)
                    refine pu_ 44 144 (h := ?_)
                    refine pu_ 45 145 (h := ?_)
                    refine pv_ 46 146 (h := ?_)
                    refine done_ (done_of HT_.out (by kernel_rfl)) ?_
                    try go_wp2
                    go_ret
                    exact ⟨by first | rfl | (simp [errW_none, errW_some] <;> rfl) | (simp [*, errW_none, errW_some] <;> rfl), xbg⟩
                   ·rw [if_neg c99] at H
                    have c99b0 : (!(((rd_T81 t439 x15_6).f0) == ((rd_T81 t411 x15_6).f0)) || (!((((rd_T81 t439 x15_6).f1).toList) == (((rd_T81 t411 x15_6).f1).toList)) || (!((((rd_T81 t439 x15_6).f2).toList) == (((rd_T81 t411 x15_6).f2).toList))))) = false := by simpa using c99
                    clear c99
                    by_cases c106 : ((rd_T81 t411 x15_6).f0) = t414
                    ·rw [if_pos c106] at H
                     have c106b0 : (((rd_T81 t411 x15_6).f0) == t414) = true := beq_iff_eq.mpr c106
                     have c106b1 : (((rd_T81 t411 x15_6).f0) != t414) = false := bne_eq_false_iff_eq.mpr c106
                     clear c106
                     have H' := Aside0.mk H
                     clear H
                     have hnb107 := NB415_421.out
                     have hnc107 := NB421_415.out
                     have hnb108 := NB415_427.out
                     have hnc108 := NB427_415.out
                     have hnb109 := NB415_435.out
                     have hnc109 := NB435_415.out
                     have hnb110 := NB415_443.out
                     have hnc110 := NB443_415.out
                     have hcz111_0 : wr.cell? ⟨gb415, 0, none⟩ = some (.int .i64 t410) := (blk_cell BK415.out 0).trans rfl
                     have hcz111_1 : wr.cell? ⟨gb415, 1, none⟩ = some (.slice Ao12 t411.length co12) := (blk_cell BK415.out 1).trans rfl
                     have hfz111_0 := blk_frozen BK415.out 0
                     have hfz111_1 := blk_frozen BK415.out 1
                     try go_wp2
                     replace HO_416001 := Aside0.mk (Kd.R_drew HO_416001.out)
                     replace HO_422001 := Aside0.mk (Kd.R_drew HO_422001.out)
                     replace HO_428001 := Aside0.mk (Kd.R_drew HO_428001.out)
                     replace HO_436001 := Aside0.mk (Kd.R_drew HO_436001.out)
                     replace HO_444001 := Aside0.mk (Kd.R_drew HO_444001.out)
                     replace BK415 := Aside0.mk (blk_drew BK415.out)
                     replace BK421 := Aside0.mk (blk_drew BK421.out)
                     replace BK427 := Aside0.mk (blk_drew BK427.out)
                     replace BK435 := Aside0.mk (blk_drew BK435.out)
                     replace BK443 := Aside0.mk (blk_drew BK443.out)
                     replace HB := Aside0.mk (below_drew1 HB.out)
                     have p444 : 0 ≤ (x15_6 : Int) := of_decide_eq_true (by first | (with_reducible assumption) | assumption)
                     have q444 : x15_6 < (t431.length : Int) := of_decide_eq_true (by first | (with_reducible assumption) | assumption)
                     obtain ⟨ad444, e444, hx444_0, hx444_1, hx444_2⟩ := at_T81 (Kd.R_reads' HO_436001.out).2.2 x15_6 p444 q444
                     cases e444
                     replace p444 := eq_true p444
                     replace q444 := eq_true q444
                     have p445 : 0 ≤ (x15_6 : Int) := of_decide_eq_true (by first | (with_reducible assumption) | assumption)
                     have q445 : x15_6 < (t417.length : Int) := of_decide_eq_true (by first | (with_reducible assumption) | assumption)
                     obtain ⟨ad445, e445, hx445_0, hx445_1, hx445_2⟩ := at_T81 (Kd.R_reads' HO_422001.out).2.2 x15_6 p445 q445
                     cases e445
                     replace p445 := eq_true p445
                     replace q445 := eq_true q445
                     have p446 : 0 ≤ (x15_6 : Int) := of_decide_eq_true (by first | (with_reducible assumption) | assumption)
                     have q446 : x15_6 < (t439.length : Int) := of_decide_eq_true (by first | (with_reducible assumption) | assumption)
                     obtain ⟨ad446, e446, hx446_0, hx446_1, hx446_2⟩ := at_T81 (Kd.R_reads' HO_444001.out).2.2 x15_6 p446 q446
                     cases e446
                     replace p446 := eq_true p446
                     replace q446 := eq_true q446
                     have p447 : 0 ≤ (x15_6 : Int) := of_decide_eq_true (by first | (with_reducible assumption) | assumption)
                     have q447 : x15_6 < (t411.length : Int) := of_decide_eq_true (by first | (with_reducible assumption) | assumption)
                     obtain ⟨ad447, e447, hx447_0, hx447_1, hx447_2⟩ := at_T81 (Kd.R_reads' HO_416001.out).2.2 x15_6 p447 q447
                     cases e447
                     replace p447 := eq_true p447
                     replace q447 := eq_true q447
                     have p448 : 0 ≤ (x15_6 : Int) := of_decide_eq_true (by first | (with_reducible assumption) | assumption)
                     have q448 : x15_6 < (t411.length : Int) := of_decide_eq_true (by first | (with_reducible assumption) | assumption)
                     obtain ⟨ad448, e448, hx448_0, hx448_1, hx448_2⟩ := at_T81 (Kd.R_reads' HO_416001.out).2.2 x15_6 p448 q448
                     obtain rfl : ad447 = ad448 := (by injection e448)
                     replace p448 := eq_true p448
                     replace q448 := eq_true q448
                     refine start_ (n := 47) (S := fun w' => w'.cell? ⟨gb435, 0, none⟩ = some (.int .i64 t430) ∧ w'.cell? ⟨gb435, 1, none⟩ = some (.slice (some ad444) t431.length co48) ∧ w'.cell? ⟨gb421, 0, none⟩ = some (.int .i64 t416) ∧ w'.cell? ⟨gb421, 1, none⟩ = some (.slice (some ad445) t417.length co17) ∧ w'.cell? ⟨gb443, 0, none⟩ = some (.int .i64 t438) ∧ w'.cell? ⟨gb443, 1, none⟩ = some (.slice (some ad446) t439.length co60) ∧ w'.cell? ⟨gb415, 0, none⟩ = some (.int .i64 t410) ∧ w'.cell? ⟨gb415, 1, none⟩ = some (.slice (some ad447) t411.length co12) ∧ w'.cell? (ad444.add ((x15_6).toNat * 3)) = some (.int .i64 ((rd_T81 t431 x15_6).f0)) ∧ w'.cell? ⟨(ad444.add ((x15_6).toNat * 3)).block, (ad444.add ((x15_6).toNat * 3)).off + 1, none⟩ = some (.string ((rd_T81 t431 x15_6).f1)) ∧ w'.cell? ⟨(ad444.add ((x15_6).toNat * 3)).block, (ad444.add ((x15_6).toNat * 3)).off + 2, none⟩ = some (.string ((rd_T81 t431 x15_6).f2)) ∧ w'.cell? (ad445.add ((x15_6).toNat * 3)) = some (.int .i64 ((rd_T81 t417 x15_6).f0)) ∧ w'.cell? ⟨(ad445.add ((x15_6).toNat * 3)).block, (ad445.add ((x15_6).toNat * 3)).off + 1, none⟩ = some (.string ((rd_T81 t417 x15_6).f1)) ∧ w'.cell? ⟨(ad445.add ((x15_6).toNat * 3)).block, (ad445.add ((x15_6).toNat * 3)).off + 2, none⟩ = some (.string ((rd_T81 t417 x15_6).f2)) ∧ w'.cell? (ad446.add ((x15_6).toNat * 3)) = some (.int .i64 ((rd_T81 t439 x15_6).f0)) ∧ w'.cell? ⟨(ad446.add ((x15_6).toNat * 3)).block, (ad446.add ((x15_6).toNat * 3)).off + 1, none⟩ = some (.string ((rd_T81 t439 x15_6).f1)) ∧ w'.cell? ⟨(ad446.add ((x15_6).toNat * 3)).block, (ad446.add ((x15_6).toNat * 3)).off + 2, none⟩ = some (.string ((rd_T81 t439 x15_6).f2)) ∧ w'.cell? (ad447.add ((x15_6).toNat * 3)) = some (.int .i64 ((rd_T81 t411 x15_6).f0)) ∧ w'.cell? ⟨(ad447.add ((x15_6).toNat * 3)).block, (ad447.add ((x15_6).toNat * 3)).off + 1, none⟩ = some (.string ((rd_T81 t411 x15_6).f1)) ∧ w'.cell? ⟨(ad447.add ((x15_6).toNat * 3)).block, (ad447.add ((x15_6).toNat * 3)).off + 2, none⟩ = some (.string ((rd_T81 t411 x15_6).f2)) ∧ w'.cell? (ad447.add ((x15_6).toNat * 3)) = some (.int .i64 ((rd_T81 t411 x15_6).f0)) ∧ w'.cell? ⟨(ad447.add ((x15_6).toNat * 3)).block, (ad447.add ((x15_6).toNat * 3)).off + 1, none⟩ = some (.string ((rd_T81 t411 x15_6).f1)) ∧ w'.cell? ⟨(ad447.add ((x15_6).toNat * 3)).block, (ad447.add ((x15_6).toNat * 3)).off + 2, none⟩ = some (.string ((rd_T81 t411 x15_6).f2))) (ds := []) #[false, false, false, false, false, false, false, false, false, false, false, false, false, false, false, false, false, false, false, false, false, false, false, false, false, false, false, false, false, false, false, false, false, false, false, false, false, false, false, false, false, false, false, false, false, false, false] (by kernel_rfl) rfl rfl ⟨(blk_cell BK435.out 0).trans rfl, (blk_cell BK435.out 1).trans rfl, (blk_cell BK421.out 0).trans rfl, (blk_cell BK421.out 1).trans rfl, (blk_cell BK443.out 0).trans rfl, (blk_cell BK443.out 1).trans rfl, (blk_cell BK415.out 0).trans rfl, (blk_cell BK415.out 1).trans rfl, hx444_0, hx444_1, hx444_2, hx445_0, hx445_1, hx445_2, hx446_0, hx446_1, hx446_2, hx447_0, hx447_1, hx447_2, hx448_0, hx448_1, hx448_2⟩ (fun hHeld => ?_); refine with_tabW laws_FnSyncs.tab18 laws_FnSyncs.bits18 (fun HT_ HW_ => ?_)
                     generalize wr.drew = w112 at HO_416001 HO_422001 HO_428001 HO_436001 HO_444001 BK415 BK421 BK427 BK435 BK443 HB hx444_0 hx444_1 hx444_2 hx445_0 hx445_1 hx445_2 hx446_0 hx446_1 hx446_2 hx447_0 hx447_1 hx447_2 hx448_0 hx448_1 hx448_2 hHeld ⊢
                     refine pv_ 0 100 (h := ?_)
                     refine pv_ 2 102 (h := ?_)
                     refine pv_ 5 105 (h := ?_)
                     refine pv_ 7 107 (h := ?_)
                     refine tk_ 1 101 (h := ?_)
                     refine pv_ 3 103 (h := ?_)
                     refine tk_ 4 104 (h := ?_)
                     refine tk_ 6 106 (h := ?_)
                     refine pv_ 8 108 (h := ?_)
                     refine tk_ 9 109 (h := ?_)
                     refine pv_ 10 110 (h := ?_)
                     refine pv_ 11 111 (h := ?_)
                     refine pv_ 12 112 (h := ?_)
                     refine pv_ 14 114 (h := ?_)
                     refine pv_ 17 117 (h := ?_)
                     refine pv_ 19 119 (h := ?_)
                     refine tk_ 13 113 (h := ?_)
                     refine pv_ 15 115 (h := ?_)
                     refine tk_ 16 116 (h := ?_)
                     refine tk_ 18 118 (h := ?_)
                     refine pv_ 20 120 (h := ?_)
                     refine tk_ 21 121 (h := ?_)
                     refine pv_ 22 122 (h := ?_)
                     refine pv_ 23 123 (h := ?_)
                     refine pv_ 24 124 (h := ?_)
                     refine pv_ 25 125 (h := ?_)
                     refine pv_ 27 127 (h := ?_)
                     refine pv_ 31 131 (h := ?_)
                     refine tk_ 26 126 (h := ?_)
                     refine pv_ 28 128 (h := ?_)
                     refine pv_ 29 129 (h := ?_)
                     refine tk_ 30 130 (h := ?_)
                     refine pv_ 32 132 (h := ?_)
                     refine pv_ 33 133 (h := ?_)
                     refine pu_ 34 134 (h := ?_)
                     refine pu_ 35 135 (h := ?_)
                     refine pu_ 36 136 (h := ?_)
                     refine pu_ 37 137 (h := ?_)
                     refine pu_ 38 138 (h := ?_)
                     refine pu_ 39 139 (h := ?_)
                     refine pu_ 40 140 (h := ?_)
                     refine pu_ 41 141 (h := ?_)
                     refine pu_ 42 142 (h := ?_)
                     refine pu_ 43 143 (h := ?_)
                     refine pu_ 44 144 (h := ?_)
                     refine pv_ 45 145 (h := ?_)
                     refine pv_ 46 146 (h := ?_)
                     refine done_ (done_of HT_.out (by kernel_rfl)) ?_
                     try go_wp2
                     go_roundg k6
                     case measure => have := HJ2.out; have := HJ7.out; have := HJ25.out; have := HJ37.out; have := HJ84.out; have := HK6.out; omega
                     case rel => exact ⟨(wrap64 (x15_6 + 1)), (by first | rfl | (simp; done) | (simp [*]; done)), H', ⟨by have := HJ2.out; have := HJ7.out; have := HJ25.out; have := HJ37.out; have := HJ84.out; have := HK6.out; omega⟩, ⟨by (with_reducible repeat (first | apply Kd.R_alloc | apply Kd.R_drewN | apply Kd.R_drew)); exact HO_416001.out⟩, ⟨by (with_reducible repeat (first | apply Kd.R_alloc | apply Kd.R_drewN | apply Kd.R_drew)); exact HO_422001.out⟩, ⟨by (with_reducible repeat (first | apply Kd.R_alloc | apply Kd.R_drewN | apply Kd.R_drew)); exact HO_428001.out⟩, ⟨by (with_reducible repeat (first | apply Kd.R_alloc | apply Kd.R_drewN | apply Kd.R_drew)); exact HO_436001.out⟩, ⟨by (with_reducible repeat (first | apply Kd.R_alloc | apply Kd.R_drewN | apply Kd.R_drew)); exact HO_444001.out⟩, ⟨xblk⟩, ⟨xblk⟩, ⟨xblk⟩, ⟨xblk⟩, ⟨xblk⟩, ⟨xbg⟩⟩
                    ·rw [if_neg c106] at H
                     have c106b0 : (((rd_T81 t411 x15_6).f0) == t414) = false := beq_eq_false_iff_ne.mpr c106
                     have c106b1 : (((rd_T81 t411 x15_6).f0) != t414) = true := bne_iff_ne.mpr c106
                     by_cases c113 : (!(((rd_T81 t417 x15_6).f0) == ((rd_T81 t411 x15_6).f0)) || (!((((rd_T81 t417 x15_6).f1).toList) == (((rd_T81 t411 x15_6).f1).toList)) || (!((((rd_T81 t417 x15_6).f2).toList) == (((rd_T81 t411 x15_6).f2).toList))))) = true
                     ·rw [if_pos c113] at H
                      have c113b0 : (!(((rd_T81 t417 x15_6).f0) == ((rd_T81 t411 x15_6).f0)) || (!((((rd_T81 t417 x15_6).f1).toList) == (((rd_T81 t411 x15_6).f1).toList)) || (!((((rd_T81 t417 x15_6).f2).toList) == (((rd_T81 t411 x15_6).f2).toList))))) = true := c113
                      clear c113
                      obtain rfl := Option.some.inj H
                      have hnb114 := NB415_421.out
                      have hnc114 := NB421_415.out
                      have hnb115 := NB415_427.out
                      have hnc115 := NB427_415.out
                      have hnb116 := NB415_435.out
                      have hnc116 := NB435_415.out
                      have hnb117 := NB415_443.out
                      have hnc117 := NB443_415.out
                      have hcz118_0 : wr.cell? ⟨gb415, 0, none⟩ = some (.int .i64 t410) := (blk_cell BK415.out 0).trans rfl
                      have hcz118_1 : wr.cell? ⟨gb415, 1, none⟩ = some (.slice Ao12 t411.length co12) := (blk_cell BK415.out 1).trans rfl
                      have hfz118_0 := blk_frozen BK415.out 0
                      have hfz118_1 := blk_frozen BK415.out 1
                      try go_wp2
                      replace HO_416001 := Aside0.mk (Kd.R_drew HO_416001.out)
                      replace HO_422001 := Aside0.mk (Kd.R_drew HO_422001.out)
                      replace HO_428001 := Aside0.mk (Kd.R_drew HO_428001.out)
                      replace HO_436001 := Aside0.mk (Kd.R_drew HO_436001.out)
                      replace HO_444001 := Aside0.mk (Kd.R_drew HO_444001.out)
                      replace BK415 := Aside0.mk (blk_drew BK415.out)
                      replace BK421 := Aside0.mk (blk_drew BK421.out)
                      replace BK427 := Aside0.mk (blk_drew BK427.out)
                      replace BK435 := Aside0.mk (blk_drew BK435.out)
                      replace BK443 := Aside0.mk (blk_drew BK443.out)
                      replace HB := Aside0.mk (below_drew1 HB.out)
                      have p444 : 0 ≤ (x15_6 : Int) := of_decide_eq_true (by first | (with_reducible assumption) | assumption)
                      have q444 : x15_6 < (t431.length : Int) := of_decide_eq_true (by first | (with_reducible assumption) | assumption)
                      obtain ⟨ad444, e444, hx444_0, hx444_1, hx444_2⟩ := at_T81 (Kd.R_reads' HO_436001.out).2.2 x15_6 p444 q444
                      cases e444
                      replace p444 := eq_true p444
                      replace q444 := eq_true q444
                      have p445 : 0 ≤ (x15_6 : Int) := of_decide_eq_true (by first | (with_reducible assumption) | assumption)
                      have q445 : x15_6 < (t417.length : Int) := of_decide_eq_true (by first | (with_reducible assumption) | assumption)
                      obtain ⟨ad445, e445, hx445_0, hx445_1, hx445_2⟩ := at_T81 (Kd.R_reads' HO_422001.out).2.2 x15_6 p445 q445
                      cases e445
                      replace p445 := eq_true p445
                      replace q445 := eq_true q445
                      have p446 : 0 ≤ (x15_6 : Int) := of_decide_eq_true (by first | (with_reducible assumption) | assumption)
                      have q446 : x15_6 < (t439.length : Int) := of_decide_eq_true (by first | (with_reducible assumption) | assumption)
                      obtain ⟨ad446, e446, hx446_0, hx446_1, hx446_2⟩ := at_T81 (Kd.R_reads' HO_444001.out).2.2 x15_6 p446 q446
                      cases e446
                      replace p446 := eq_true p446
                      replace q446 := eq_true q446
                      have p447 : 0 ≤ (x15_6 : Int) := of_decide_eq_true (by first | (with_reducible assumption) | assumption)
                      have q447 : x15_6 < (t411.length : Int) := of_decide_eq_true (by first | (with_reducible assumption) | assumption)
                      obtain ⟨ad447, e447, hx447_0, hx447_1, hx447_2⟩ := at_T81 (Kd.R_reads' HO_416001.out).2.2 x15_6 p447 q447
                      cases e447
                      replace p447 := eq_true p447
                      replace q447 := eq_true q447
                      have p448 : 0 ≤ (x15_6 : Int) := of_decide_eq_true (by first | (with_reducible assumption) | assumption)
                      have q448 : x15_6 < (t411.length : Int) := of_decide_eq_true (by first | (with_reducible assumption) | assumption)
                      obtain ⟨ad448, e448, hx448_0, hx448_1, hx448_2⟩ := at_T81 (Kd.R_reads' HO_416001.out).2.2 x15_6 p448 q448
                      obtain rfl : ad447 = ad448 := (by injection e448)
                      replace p448 := eq_true p448
                      replace q448 := eq_true q448
                      have p449 : 0 ≤ (x15_6 : Int) := of_decide_eq_true (by first | (with_reducible assumption) | assumption)
                      have q449 : x15_6 < (t417.length : Int) := of_decide_eq_true (by first | (with_reducible assumption) | assumption)
                      obtain ⟨ad449, e449, hx449_0, hx449_1, hx449_2⟩ := at_T81 (Kd.R_reads' HO_422001.out).2.2 x15_6 p449 q449
                      obtain rfl : ad445 = ad449 := (by injection e449)
                      replace p449 := eq_true p449
                      replace q449 := eq_true q449
                      have p450 : 0 ≤ (x15_6 : Int) := of_decide_eq_true (by first | (with_reducible assumption) | assumption)
                      have q450 : x15_6 < (t411.length : Int) := of_decide_eq_true (by first | (with_reducible assumption) | assumption)
                      obtain ⟨ad450, e450, hx450_0, hx450_1, hx450_2⟩ := at_T81 (Kd.R_reads' HO_416001.out).2.2 x15_6 p450 q450
                      obtain rfl : ad447 = ad450 := (by injection e450)
                      replace p450 := eq_true p450
                      replace q450 := eq_true q450
                      refine start_ (n := 47) (S := fun w' => w'.cell? ⟨gb435, 0, none⟩ = some (.int .i64 t430) ∧ w'.cell? ⟨gb435, 1, none⟩ = some (.slice (some ad444) t431.length co48) ∧ w'.cell? ⟨gb421, 0, none⟩ = some (.int .i64 t416) ∧ w'.cell? ⟨gb421, 1, none⟩ = some (.slice (some ad445) t417.length co17) ∧ w'.cell? ⟨gb443, 0, none⟩ = some (.int .i64 t438) ∧ w'.cell? ⟨gb443, 1, none⟩ = some (.slice (some ad446) t439.length co60) ∧ w'.cell? ⟨gb415, 0, none⟩ = some (.int .i64 t410) ∧ w'.cell? ⟨gb415, 1, none⟩ = some (.slice (some ad447) t411.length co12) ∧ w'.cell? (ad444.add ((x15_6).toNat * 3)) = some (.int .i64 ((rd_T81 t431 x15_6).f0)) ∧ w'.cell? ⟨(ad444.add ((x15_6).toNat * 3)).block, (ad444.add ((x15_6).toNat * 3)).off + 1, none⟩ = some (.string ((rd_T81 t431 x15_6).f1)) ∧ w'.cell? ⟨(ad444.add ((x15_6).toNat * 3)).block, (ad444.add ((x15_6).toNat * 3)).off + 2, none⟩ = some (.string ((rd_T81 t431 x15_6).f2)) ∧ w'.cell? (ad445.add ((x15_6).toNat * 3)) = some (.int .i64 ((rd_T81 t417 x15_6).f0)) ∧ w'.cell? ⟨(ad445.add ((x15_6).toNat * 3)).block, (ad445.add ((x15_6).toNat * 3)).off + 1, none⟩ = some (.string ((rd_T81 t417 x15_6).f1)) ∧ w'.cell? ⟨(ad445.add ((x15_6).toNat * 3)).block, (ad445.add ((x15_6).toNat * 3)).off + 2, none⟩ = some (.string ((rd_T81 t417 x15_6).f2)) ∧ w'.cell? (ad446.add ((x15_6).toNat * 3)) = some (.int .i64 ((rd_T81 t439 x15_6).f0)) ∧ w'.cell? ⟨(ad446.add ((x15_6).toNat * 3)).block, (ad446.add ((x15_6).toNat * 3)).off + 1, none⟩ = some (.string ((rd_T81 t439 x15_6).f1)) ∧ w'.cell? ⟨(ad446.add ((x15_6).toNat * 3)).block, (ad446.add ((x15_6).toNat * 3)).off + 2, none⟩ = some (.string ((rd_T81 t439 x15_6).f2)) ∧ w'.cell? (ad447.add ((x15_6).toNat * 3)) = some (.int .i64 ((rd_T81 t411 x15_6).f0)) ∧ w'.cell? ⟨(ad447.add ((x15_6).toNat * 3)).block, (ad447.add ((x15_6).toNat * 3)).off + 1, none⟩ = some (.string ((rd_T81 t411 x15_6).f1)) ∧ w'.cell? ⟨(ad447.add ((x15_6).toNat * 3)).block, (ad447.add ((x15_6).toNat * 3)).off + 2, none⟩ = some (.string ((rd_T81 t411 x15_6).f2)) ∧ w'.cell? (ad447.add ((x15_6).toNat * 3)) = some (.int .i64 ((rd_T81 t411 x15_6).f0)) ∧ w'.cell? ⟨(ad447.add ((x15_6).toNat * 3)).block, (ad447.add ((x15_6).toNat * 3)).off + 1, none⟩ = some (.string ((rd_T81 t411 x15_6).f1)) ∧ w'.cell? ⟨(ad447.add ((x15_6).toNat * 3)).block, (ad447.add ((x15_6).toNat * 3)).off + 2, none⟩ = some (.string ((rd_T81 t411 x15_6).f2)) ∧ w'.cell? (ad445.add ((x15_6).toNat * 3)) = some (.int .i64 ((rd_T81 t417 x15_6).f0)) ∧ w'.cell? ⟨(ad445.add ((x15_6).toNat * 3)).block, (ad445.add ((x15_6).toNat * 3)).off + 1, none⟩ = some (.string ((rd_T81 t417 x15_6).f1)) ∧ w'.cell? ⟨(ad445.add ((x15_6).toNat * 3)).block, (ad445.add ((x15_6).toNat * 3)).off + 2, none⟩ = some (.string ((rd_T81 t417 x15_6).f2)) ∧ w'.cell? (ad447.add ((x15_6).toNat * 3)) = some (.int .i64 ((rd_T81 t411 x15_6).f0)) ∧ w'.cell? ⟨(ad447.add ((x15_6).toNat * 3)).block, (ad447.add ((x15_6).toNat * 3)).off + 1, none⟩ = some (.string ((rd_T81 t411 x15_6).f1)) ∧ w'.cell? ⟨(ad447.add ((x15_6).toNat * 3)).block, (ad447.add ((x15_6).toNat * 3)).off + 2, none⟩ = some (.string ((rd_T81 t411 x15_6).f2))) (ds := []) #[false, false, false, false, false, false, false, false, false, false, false, false, false, false, false, false, false, false, false, false, false, false, false, false, false, false, false, false, false, false, false, false, false, false, false, false, false, false, false, false, false, false, false, false, false, false, false] (by kernel_rfl) rfl rfl ⟨(blk_cell BK435.out 0).trans rfl, (blk_cell BK435.out 1).trans rfl, (blk_cell BK421.out 0).trans rfl, (blk_cell BK421.out 1).trans rfl, (blk_cell BK443.out 0).trans rfl, (blk_cell BK443.out 1).trans rfl, (blk_cell BK415.out 0).trans rfl, (blk_cell BK415.out 1).trans rfl, hx444_0, hx444_1, hx444_2, hx445_0, hx445_1, hx445_2, hx446_0, hx446_1, hx446_2, hx447_0, hx447_1, hx447_2, hx448_0, hx448_1, hx448_2, hx449_0, hx449_1, hx449_2, hx450_0, hx450_1, hx450_2⟩ (fun hHeld => ?_); refine with_tabW laws_FnSyncs.tab18 laws_FnSyncs.bits18 (fun HT_ HW_ => ?_)
                      generalize wr.drew = w119 at HO_416001 HO_422001 HO_428001 HO_436001 HO_444001 BK415 BK421 BK427 BK435 BK443 HB hx444_0 hx444_1 hx444_2 hx445_0 hx445_1 hx445_2 hx446_0 hx446_1 hx446_2 hx447_0 hx447_1 hx447_2 hx448_0 hx448_1 hx448_2 hx449_0 hx449_1 hx449_2 hx450_0 hx450_1 hx450_2 hHeld ⊢
                      refine pv_ 0 100 (h := ?_)
                      refine pv_ 2 102 (h := ?_)
                      refine pv_ 5 105 (h := ?_)
                      refine pv_ 7 107 (h := ?_)
                      refine tk_ 1 101 (h := ?_)
                      refine pv_ 3 103 (h := ?_)
                      refine tk_ 4 104 (h := ?_)
                      refine tk_ 6 106 (h := ?_)
                      refine pv_ 8 108 (h := ?_)
                      refine tk_ 9 109 (h := ?_)
                      refine pv_ 10 110 (h := ?_)
                      refine pv_ 11 111 (h := ?_)
                      refine pv_ 12 112 (h := ?_)
                      refine pv_ 14 114 (h := ?_)
                      refine pv_ 17 117 (h := ?_)
                      refine pv_ 19 119 (h := ?_)
                      refine tk_ 13 113 (h := ?_)
                      refine pv_ 15 115 (h := ?_)
                      refine tk_ 16 116 (h := ?_)
                      refine tk_ 18 118 (h := ?_)
                      refine pv_ 20 120 (h := ?_)
                      refine tk_ 21 121 (h := ?_)
                      refine pv_ 22 122 (h := ?_)
                      refine pv_ 23 123 (h := ?_)
                      refine pv_ 24 124 (h := ?_)
                      refine pv_ 25 125 (h := ?_)
                      refine pv_ 27 127 (h := ?_)
                      refine pv_ 31 131 (h := ?_)
                      refine tk_ 26 126 (h := ?_)
                      refine pv_ 28 128 (h := ?_)
                      refine pv_ 29 129 (h := ?_)
                      refine tk_ 30 130 (h := ?_)
                      refine pv_ 32 132 (h := ?_)
                      refine pv_ 33 133 (h := ?_)
                      refine pv_ 34 134 (h := ?_)
                      refine pv_ 36 136 (h := ?_)
                      refine pv_ 39 139 (h := ?_)
                      refine pv_ 41 141 (h := ?_)
                      refine tk_ 35 135 (h := ?_)
                      refine pv_ 37 137 (h := ?_)
                      refine tk_ 38 138 (h := ?_)
                      refine tk_ 40 140 (h := ?_)
                      refine pv_ 42 142 (h := ?_)
                      refine tk_ 43 143 (h := ?_)
                      refine pv_ 44 144 (h := ?_)
                      refine pv_ 45 145 (h := ?_)
                      refine pv_ 46 146 (h := ?_)
                      refine done_ (done_of HT_.out (by kernel_rfl)) ?_
                      try go_wp2
                      go_ret
                      exact ⟨by first | rfl | (simp [errW_none, errW_some] <;> rfl) | (simp [*, errW_none, errW_some] <;> rfl), xbg⟩
                     ·rw [if_neg c113] at H
                      have c113b0 : (!(((rd_T81 t417 x15_6).f0) == ((rd_T81 t411 x15_6).f0)) || (!((((rd_T81 t417 x15_6).f1).toList) == (((rd_T81 t411 x15_6).f1).toList)) || (!((((rd_T81 t417 x15_6).f2).toList) == (((rd_T81 t411 x15_6).f2).toList))))) = false := by simpa using c113
                      clear c113
                      have H' := Aside0.mk H
                      clear H
                      have hnb120 := NB415_421.out
                      have hnc120 := NB421_415.out
                      have hnb121 := NB415_427.out
                      have hnc121 := NB427_415.out
                      have hnb122 := NB415_435.out
                      have hnc122 := NB435_415.out
                      have hnb123 := NB415_443.out
                      have hnc123 := NB443_415.out
                      have hcz124_0 : wr.cell? ⟨gb415, 0, none⟩ = some (.int .i64 t410) := (blk_cell BK415.out 0).trans rfl
                      have hcz124_1 : wr.cell? ⟨gb415, 1, none⟩ = some (.slice Ao12 t411.length co12) := (blk_cell BK415.out 1).trans rfl
                      have hfz124_0 := blk_frozen BK415.out 0
                      have hfz124_1 := blk_frozen BK415.out 1
                      try go_wp2
                      replace HO_416001 := Aside0.mk (Kd.R_drew HO_416001.out)
                      replace HO_422001 := Aside0.mk (Kd.R_drew HO_422001.out)
                      replace HO_428001 := Aside0.mk (Kd.R_drew HO_428001.out)
                      replace HO_436001 := Aside0.mk (Kd.R_drew HO_436001.out)
                      replace HO_444001 := Aside0.mk (Kd.R_drew HO_444001.out)
                      replace BK415 := Aside0.mk (blk_drew BK415.out)
                      replace BK421 := Aside0.mk (blk_drew BK421.out)
                      replace BK427 := Aside0.mk (blk_drew BK427.out)
                      replace BK435 := Aside0.mk (blk_drew BK435.out)
                      replace BK443 := Aside0.mk (blk_drew BK443.out)
                      replace HB := Aside0.mk (below_drew1 HB.out)
                      have p444 : 0 ≤ (x15_6 : Int) := of_decide_eq_true (by first | (with_reducible assumption) | assumption)
                      have q444 : x15_6 < (t431.length : Int) := of_decide_eq_true (by first | (with_reducible assumption) | assumption)
                      obtain ⟨ad444, e444, hx444_0, hx444_1, hx444_2⟩ := at_T81 (Kd.R_reads' HO_436001.out).2.2 x15_6 p444 q444
                      cases e444
                      replace p444 := eq_true p444
                      replace q444 := eq_true q444
                      have p445 : 0 ≤ (x15_6 : Int) := of_decide_eq_true (by first | (with_reducible assumption) | assumption)
                      have q445 : x15_6 < (t417.length : Int) := of_decide_eq_true (by first | (with_reducible assumption) | assumption)
                      obtain ⟨ad445, e445, hx445_0, hx445_1, hx445_2⟩ := at_T81 (Kd.R_reads' HO_422001.out).2.2 x15_6 p445 q445
                      cases e445
                      replace p445 := eq_true p445
                      replace q445 := eq_true q445
                      have p446 : 0 ≤ (x15_6 : Int) := of_decide_eq_true (by first | (with_reducible assumption) | assumption)
                      have q446 : x15_6 < (t439.length : Int) := of_decide_eq_true (by first | (with_reducible assumption) | assumption)
                      obtain ⟨ad446, e446, hx446_0, hx446_1, hx446_2⟩ := at_T81 (Kd.R_reads' HO_444001.out).2.2 x15_6 p446 q446
                      cases e446
                      replace p446 := eq_true p446
                      replace q446 := eq_true q446
                      have p447 : 0 ≤ (x15_6 : Int) := of_decide_eq_true (by first | (with_reducible assumption) | assumption)
                      have q447 : x15_6 < (t411.length : Int) := of_decide_eq_true (by first | (with_reducible assumption) | assumption)
                      obtain ⟨ad447, e447, hx447_0, hx447_1, hx447_2⟩ := at_T81 (Kd.R_reads' HO_416001.out).2.2 x15_6 p447 q447
                      cases e447
                      replace p447 := eq_true p447
                      replace q447 := eq_true q447
                      have p448 : 0 ≤ (x15_6 : Int) := of_decide_eq_true (by first | (with_reducible assumption) | assumption)
                      have q448 : x15_6 < (t411.length : Int) := of_decide_eq_true (by first | (with_reducible assumption) | assumption)
                      obtain ⟨ad448, e448, hx448_0, hx448_1, hx448_2⟩ := at_T81 (Kd.R_reads' HO_416001.out).2.2 x15_6 p448 q448
                      obtain rfl : ad447 = ad448 := (by injection e448)
                      replace p448 := eq_true p448
                      replace q448 := eq_true q448
                      have p449 : 0 ≤ (x15_6 : Int) := of_decide_eq_true (by first | (with_reducible assumption) | assumption)
                      have q449 : x15_6 < (t417.length : Int) := of_decide_eq_true (by first | (with_reducible assumption) | assumption)
                      obtain ⟨ad449, e449, hx449_0, hx449_1, hx449_2⟩ := at_T81 (Kd.R_reads' HO_422001.out).2.2 x15_6 p449 q449
                      obtain rfl : ad445 = ad449 := (by injection e449)
                      replace p449 := eq_true p449
                      replace q449 := eq_true q449
                      have p450 : 0 ≤ (x15_6 : Int) := of_decide_eq_true (by first | (with_reducible assumption) | assumption)
                      have q450 : x15_6 < (t411.length : Int) := of_decide_eq_true (by first | (with_reducible assumption) | assumption)
                      obtain ⟨ad450, e450, hx450_0, hx450_1, hx450_2⟩ := at_T81 (Kd.R_reads' HO_416001.out).2.2 x15_6 p450 q450
                      obtain rfl : ad447 = ad450 := (by injection e450)
                      replace p450 := eq_true p450
                      replace q450 := eq_true q450
                      refine start_ (n := 47) (S := fun w' => w'.cell? ⟨gb435, 0, none⟩ = some (.int .i64 t430) ∧ w'.cell? ⟨gb435, 1, none⟩ = some (.slice (some ad444) t431.length co48) ∧ w'.cell? ⟨gb421, 0, none⟩ = some (.int .i64 t416) ∧ w'.cell? ⟨gb421, 1, none⟩ = some (.slice (some ad445) t417.length co17) ∧ w'.cell? ⟨gb443, 0, none⟩ = some (.int .i64 t438) ∧ w'.cell? ⟨gb443, 1, none⟩ = some (.slice (some ad446) t439.length co60) ∧ w'.cell? ⟨gb415, 0, none⟩ = some (.int .i64 t410) ∧ w'.cell? ⟨gb415, 1, none⟩ = some (.slice (some ad447) t411.length co12) ∧ w'.cell? (ad444.add ((x15_6).toNat * 3)) = some (.int .i64 ((rd_T81 t431 x15_6).f0)) ∧ w'.cell? ⟨(ad444.add ((x15_6).toNat * 3)).block, (ad444.add ((x15_6).toNat * 3)).off + 1, none⟩ = some (.string ((rd_T81 t431 x15_6).f1)) ∧ w'.cell? ⟨(ad444.add ((x15_6).toNat * 3)).block, (ad444.add ((x15_6).toNat * 3)).off + 2, none⟩ = some (.string ((rd_T81 t431 x15_6).f2)) ∧ w'.cell? (ad445.add ((x15_6).toNat * 3)) = some (.int .i64 ((rd_T81 t417 x15_6).f0)) ∧ w'.cell? ⟨(ad445.add ((x15_6).toNat * 3)).block, (ad445.add ((x15_6).toNat * 3)).off + 1, none⟩ = some (.string ((rd_T81 t417 x15_6).f1)) ∧ w'.cell? ⟨(ad445.add ((x15_6).toNat * 3)).block, (ad445.add ((x15_6).toNat * 3)).off + 2, none⟩ = some (.string ((rd_T81 t417 x15_6).f2)) ∧ w'.cell? (ad446.add ((x15_6).toNat * 3)) = some (.int .i64 ((rd_T81 t439 x15_6).f0)) ∧ w'.cell? ⟨(ad446.add ((x15_6).toNat * 3)).block, (ad446.add ((x15_6).toNat * 3)).off + 1, none⟩ = some (.string ((rd_T81 t439 x15_6).f1)) ∧ w'.cell? ⟨(ad446.add ((x15_6).toNat * 3)).block, (ad446.add ((x15_6).toNat * 3)).off + 2, none⟩ = some (.string ((rd_T81 t439 x15_6).f2)) ∧ w'.cell? (ad447.add ((x15_6).toNat * 3)) = some (.int .i64 ((rd_T81 t411 x15_6).f0)) ∧ w'.cell? ⟨(ad447.add ((x15_6).toNat * 3)).block, (ad447.add ((x15_6).toNat * 3)).off + 1, none⟩ = some (.string ((rd_T81 t411 x15_6).f1)) ∧ w'.cell? ⟨(ad447.add ((x15_6).toNat * 3)).block, (ad447.add ((x15_6).toNat * 3)).off + 2, none⟩ = some (.string ((rd_T81 t411 x15_6).f2)) ∧ w'.cell? (ad447.add ((x15_6).toNat * 3)) = some (.int .i64 ((rd_T81 t411 x15_6).f0)) ∧ w'.cell? ⟨(ad447.add ((x15_6).toNat * 3)).block, (ad447.add ((x15_6).toNat * 3)).off + 1, none⟩ = some (.string ((rd_T81 t411 x15_6).f1)) ∧ w'.cell? ⟨(ad447.add ((x15_6).toNat * 3)).block, (ad447.add ((x15_6).toNat * 3)).off + 2, none⟩ = some (.string ((rd_T81 t411 x15_6).f2)) ∧ w'.cell? (ad445.add ((x15_6).toNat * 3)) = some (.int .i64 ((rd_T81 t417 x15_6).f0)) ∧ w'.cell? ⟨(ad445.add ((x15_6).toNat * 3)).block, (ad445.add ((x15_6).toNat * 3)).off + 1, none⟩ = some (.string ((rd_T81 t417 x15_6).f1)) ∧ w'.cell? ⟨(ad445.add ((x15_6).toNat * 3)).block, (ad445.add ((x15_6).toNat * 3)).off + 2, none⟩ = some (.string ((rd_T81 t417 x15_6).f2)) ∧ w'.cell? (ad447.add ((x15_6).toNat * 3)) = some (.int .i64 ((rd_T81 t411 x15_6).f0)) ∧ w'.cell? ⟨(ad447.add ((x15_6).toNat * 3)).block, (ad447.add ((x15_6).toNat * 3)).off + 1, none⟩ = some (.string ((rd_T81 t411 x15_6).f1)) ∧ w'.cell? ⟨(ad447.add ((x15_6).toNat * 3)).block, (ad447.add ((x15_6).toNat * 3)).off + 2, none⟩ = some (.string ((rd_T81 t411 x15_6).f2))) (ds := []) #[false, false, false, false, false, false, false, false, false, false, false, false, false, false, false, false, false, false, false, false, false, false, false, false, false, false, false, false, false, false, false, false, false, false, false, false, false, false, false, false, false, false, false, false, false, false, false] (by kernel_rfl) rfl rfl ⟨(blk_cell BK435.out 0).trans rfl, (blk_cell BK435.out 1).trans rfl, (blk_cell BK421.out 0).trans rfl, (blk_cell BK421.out 1).trans rfl, (blk_cell BK443.out 0).trans rfl, (blk_cell BK443.out 1).trans rfl, (blk_cell BK415.out 0).trans rfl, (blk_cell BK415.out 1).trans rfl, hx444_0, hx444_1, hx444_2, hx445_0, hx445_1, hx445_2, hx446_0, hx446_1, hx446_2, hx447_0, hx447_1, hx447_2, hx448_0, hx448_1, hx448_2, hx449_0, hx449_1, hx449_2, hx450_0, hx450_1, hx450_2⟩ (fun hHeld => ?_); refine with_tabW laws_FnSyncs.tab18 laws_FnSyncs.bits18 (fun HT_ HW_ => ?_)
                      generalize wr.drew = w125 at HO_416001 HO_422001 HO_428001 HO_436001 HO_444001 BK415 BK421 BK427 BK435 BK443 HB hx444_0 hx444_1 hx444_2 hx445_0 hx445_1 hx445_2 hx446_0 hx446_1 hx446_2 hx447_0 hx447_1 hx447_2 hx448_0 hx448_1 hx448_2 hx449_0 hx449_1 hx449_2 hx450_0 hx450_1 hx450_2 hHeld ⊢
                      refine pv_ 0 100 (h := ?_)
                      refine pv_ 2 102 (h := ?_)
                      refine pv_ 5 105 (h := ?_)
                      refine pv_ 7 107 (h := ?_)
                      refine tk_ 1 101 (h := ?_)
                      refine pv_ 3 103 (h := ?_)
                      refine tk_ 4 104 (h := ?_)
                      refine tk_ 6 106 (h := ?_)
                      refine pv_ 8 108 (h := ?_)
                      refine tk_ 9 109 (h := ?_)
                      refine pv_ 10 110 (h := ?_)
                      refine pv_ 11 111 (h := ?_)
                      refine pv_ 12 112 (h := ?_)
                      refine pv_ 14 114 (h := ?_)
                      refine pv_ 17 117 (h := ?_)
                      refine pv_ 19 119 (h := ?_)
                      refine tk_ 13 113 (h := ?_)
                      refine pv_ 15 115 (h := ?_)
                      refine tk_ 16 116 (h := ?_)
                      refine tk_ 18 118 (h := ?_)
                      refine pv_ 20 120 (h := ?_)
                      refine tk_ 21 121 (h := ?_)
                      refine pv_ 22 122 (h := ?_)
                      refine pv_ 23 123 (h := ?_)
                      refine pv_ 24 124 (h := ?_)
                      refine pv_ 25 125 (h := ?_)
                      refine pv_ 27 127 (h := ?_)
                      refine pv_ 31 131 (h := ?_)
                      refine tk_ 26 126 (h := ?_)
                      refine pv_ 28 128 (h := ?_)
                      refine pv_ 29 129 (h := ?_)
                      refine tk_ 30 130 (h := ?_)
                      refine pv_ 32 132 (h := ?_)
                      refine pv_ 33 133 (h := ?_)
                      refine pv_ 34 134 (h := ?_)
                      refine pv_ 36 136 (h := ?_)
                      refine pv_ 39 139 (h := ?_)
                      refine pv_ 41 141 (h := ?_)
                      refine tk_ 35 135 (h := ?_)
                      refine pv_ 37 137 (h := ?_)
                      refine tk_ 38 138 (h := ?_)
                      refine tk_ 40 140 (h := ?_)
                      refine pv_ 42 142 (h := ?_)
                      refine tk_ 43 143 (h := ?_)
                      refine pv_ 44 144 (h := ?_)
                      refine pv_ 45 145 (h := ?_)
                      refine pv_ 46 146 (h := ?_)
                      refine done_ (done_of HT_.out (by kernel_rfl)) ?_
                      try go_wp2
                      go_roundg k6
                      case measure => have := HJ2.out; have := HJ7.out; have := HJ25.out; have := HJ37.out; have := HJ84.out; have := HK6.out; omega
                      case rel => exact ⟨(wrap64 (x15_6 + 1)), (by first | rfl | (simp; done) | (simp [*]; done)), H', ⟨by have := HJ2.out; have := HJ7.out; have := HJ25.out; have := HJ37.out; have := HJ84.out; have := HK6.out; omega⟩, ⟨by (with_reducible repeat (first | apply Kd.R_alloc | apply Kd.R_drewN | apply Kd.R_drew)); exact HO_416001.out⟩, ⟨by (with_reducible repeat (first | apply Kd.R_alloc | apply Kd.R_drewN | apply Kd.R_drew)); exact HO_422001.out⟩, ⟨by (with_reducible repeat (first | apply Kd.R_alloc | apply Kd.R_drewN | apply Kd.R_drew)); exact HO_428001.out⟩, ⟨by (with_reducible repeat (first | apply Kd.R_alloc | apply Kd.R_drewN | apply Kd.R_drew)); exact HO_436001.out⟩, ⟨by (with_reducible repeat (first | apply Kd.R_alloc | apply Kd.R_drewN | apply Kd.R_drew)); exact HO_444001.out⟩, ⟨xblk⟩, ⟨xblk⟩, ⟨xblk⟩, ⟨xblk⟩, ⟨xblk⟩, ⟨xbg⟩⟩
                  ·rw [if_neg c98] at H
                   exact absurd H (by simp)
                ·rw [if_neg c90] at H
                 exact absurd H (by simp)
               ·rw [if_neg c89] at H
                exact absurd H (by simp)
              ·rw [if_neg c88] at H
               exact absurd H (by simp)
             ·rw [if_neg c87] at H
              have c87b0 : decide (x15_6 < (t411.length : Int)) = false := decide_eq_false c87
              clear c87
              obtain rfl := Option.some.inj H
              have hnb126 := NB415_421.out
              have hnc126 := NB421_415.out
              have hnb127 := NB415_427.out
              have hnc127 := NB427_415.out
              have hnb128 := NB415_435.out
              have hnc128 := NB435_415.out
              have hnb129 := NB415_443.out
              have hnc129 := NB443_415.out
              have hcz130_0 : wr.cell? ⟨gb415, 0, none⟩ = some (.int .i64 t410) := (blk_cell BK415.out 0).trans rfl
              have hcz130_1 : wr.cell? ⟨gb415, 1, none⟩ = some (.slice Ao12 t411.length co12) := (blk_cell BK415.out 1).trans rfl
              have hfz130_0 := blk_frozen BK415.out 0
              have hfz130_1 := blk_frozen BK415.out 1
              go_wp2
              go_ret
              exact ⟨by first | rfl | (simp [errW_none, errW_some] <;> rfl) | (simp [*, errW_none, errW_some] <;> rfl), xbg⟩

/-- THE ONE PURE STATEMENT of laws_FnSyncs. -/
def laws_FnSyncs.Pure : Prop := ∀ (l0 : List Int), l0.length ≤ maxLen → l0.length * 1 ≤ 140737488351232 → (∀ x ∈ l0, (Lit.int .u8 x).wf = true) → ∃ k, laws_FnSyncs.f k l0 = some true
theorem laws_FnSyncs.walk (P : laws_FnSyncs.Pure) (A0 : Option Addr) (c0 : Nat) (l0 : List Int) (w : World) (hr0 : Kd.C (Kd.int .u8) w A0 l0.length l0) (hc0 : l0.length ≤ c0) (hm0 : l0.length ≤ maxLen) (hz0 : l0.length * 1 ≤ 140737488351232) (hw0 : ∀ x ∈ l0, (Lit.int .u8 x).wf = true) :
 Calls Try.prog 10 #[.slice A0 l0.length c0] w fun e w' => e = .returned (.bool true) ∧ Below w.heap.size w w' := by
 obtain ⟨k, h⟩ := P l0 hm0 hz0 hw0
 refine (laws_FnSyncs.calls k A0 c0 l0 true w hr0 hc0 h).mono ?_
 rintro e w' ⟨rfl, hd⟩
 exact ⟨rfl, hd⟩

end Go.Proofs.Ytkfoojknjmgjdaa.QFnSyncs
