-- A walk, by a program of this session.
import Derived.Test.YtkfoojknjmgjdaaQFnDiskx0
import Derived.Test.YtkfoojknjmgjdaaQFnDiskx1
import Derived.Test.YtkfoojknjmgjdaaQFnDiskx2
import Derived.Test.YtkfoojknjmgjdaaQFnDiskx4
import Derived.Test.YtkfoojknjmgjdaaQFnDiskx10
namespace Go.Proofs.Ytkfoojknjmgjdaa.QFnDisk
open Go.RowKit Go.Proofs.YtkfoojknjmgjdaaW.PrintWords Go.Proofs.YtkfoojknjmgjdaaW.PrintLast Go.Proofs.YtkfoojknjmgjdaaW.PrintMore
attribute [local go_sem] max2_int min2_int max_two min_two max_three min_three max_four min_four   -- for this text's walks alone
set_option linter.unusedVariables false
set_option linter.unusedSimpArgs false

/-! ### laws_FnDisk: function 9 -/
mutual
def laws_FnDisk.j0 : Nat → List Int → Option (Bool)
 | 0, _ => none
 | k + 1, x0 => (spec_DrawDiskCrash.f k x0).bind fun bt406 => ((impl_DiskCrash.f k bt406.1 bt406.2.1 bt406.2.2).bind fun bt414 => ((spec_DiskOk.f k bt406.1 bt406.2.1).bind fun t419 => (if t419 = true then (laws_FnDisk.j1 k bt406.2.2 (decide ((bt406.2.2.length : Int) > 8)) bt406.1 bt406.2.1 bt414.1 bt414.2) else (laws_FnDisk.j1 k bt406.2.2 true bt406.1 bt406.2.1 bt414.1 bt414.2))))
def laws_FnDisk.j1 : Nat → List Int → Bool → Int → List (S81) → Int → List (S81) → Option (Bool)
 | 0, _, _, _, _, _, _ => none
 | k + 1, x4, x30, x414000, x414001, x419000, x419001 => if x30 = true then (if x419000 = 0 then (some ((x419001.length : Int) == 0)) else (some false)) else (laws_FnDisk.j2 k x4 x414000 x414001 x419000 x419001)
def laws_FnDisk.j2 : Nat → List Int → Int → List (S81) → Int → List (S81) → Option (Bool)
 | 0, _, _, _, _, _ => none
 | k + 1, x4, x414000, x414001, x419000, x419001 => laws_FnDisk.l0 k x4 0 x414000 x414001 x419000 x419001
def laws_FnDisk.l0 : Nat → List Int → Int → Int → List (S81) → Int → List (S81) → Option (Bool)
 | 0, _, _, _, _, _, _ => none
 | k + 1, x4, x6, x414000, x414001, x419000, x419001 => if x6 < (x414001.length : Int) then (laws_FnDisk.j4 k x4 x6 x414000 x414001 x419000 x419001) else ((impl_DiskOk.f k x419000 x419001).bind fun t420 => (if t420 = true then ((impl_DiskSize.f k x419000 x419001).bind fun t421 => ((impl_DiskSize.f k x414000 x414001).bind fun t422 => (if t421 ≤ t422 then (some ((x419001.length : Int) == (x414001.length : Int))) else (some false)))) else (some false)))
def laws_FnDisk.j4 : Nat → List Int → Int → Int → List (S81) → Int → List (S81) → Option (Bool)
 | 0, _, _, _, _, _, _ => none
 | k + 1, x4, x6, x414000, x414001, x419000, x419001 => if 0 ≤ x6 then (if x6 < (x414001.length : Int) then ((impl_DiskRead.f k x419000 x419001 ((rd_T81 x414001 x6).f0)).bind fun bt425 => (if ((rd_T81 x414001 x6).f1).size + ((rd_T81 x414001 x6).f2).size ≤ 9223372036854775807 then (if bt425.2 = true then (if (bt425.1.size : Int) < (((rd_T81 x414001 x6).f1).size : Int) then (laws_FnDisk.j5 k x4 x6 (((rd_T81 x414001 x6).f1) ++ ((rd_T81 x414001 x6).f2)) true x414000 x414001 x419000 x419001 ((rd_T81 x414001 x6).f0) ((rd_T81 x414001 x6).f1) ((rd_T81 x414001 x6).f2)) else (if (bt425.1.size : Int) > ((((rd_T81 x414001 x6).f1) ++ ((rd_T81 x414001 x6).f2)).size : Int) then (laws_FnDisk.j5 k x4 x6 (((rd_T81 x414001 x6).f1) ++ ((rd_T81 x414001 x6).f2)) true x414000 x414001 x419000 x419001 ((rd_T81 x414001 x6).f0) ((rd_T81 x414001 x6).f1) ((rd_T81 x414001 x6).f2)) else (if 0 ≤ (bt425.1.size : Int) then (if (bt425.1.size : Int) ≤ ((((rd_T81 x414001 x6).f1) ++ ((rd_T81 x414001 x6).f2)).size : Int) then (laws_FnDisk.j5 k x4 x6 (((rd_T81 x414001 x6).f1) ++ ((rd_T81 x414001 x6).f2)) (((((rd_T81 x414001 x6).f1) ++ ((rd_T81 x414001 x6).f2)).extract 0 ((bt425.1.size : Int) : Int).toNat).toList != bt425.1.toList) x414000 x414001 x419000 x419001 ((rd_T81 x414001 x6).f0) ((rd_T81 x414001 x6).f1) ((rd_T81 x414001 x6).f2)) else (none)) else (none)))) else (laws_FnDisk.j5 k x4 x6 (((rd_T81 x414001 x6).f1) ++ ((rd_T81 x414001 x6).f2)) true x414000 x414001 x419000 x419001 ((rd_T81 x414001 x6).f0) ((rd_T81 x414001 x6).f1) ((rd_T81 x414001 x6).f2))) else (none))) else (none)) else (none)
def laws_FnDisk.j5 : Nat → List Int → Int → ByteArray → Bool → Int → List (S81) → Int → List (S81) → Int → ByteArray → ByteArray → Option (Bool)
 | 0, _, _, _, _, _, _, _, _, _, _, _ => none
 | k + 1, x4, x6, x10, x88, x414000, x414001, x419000, x419001, x425000, x425001, x425002 => if x88 = true then (some false) else (laws_FnDisk.j6 k x4 x6 x10 x414000 x414001 x419000 x419001 x425000 x425001 x425002)
def laws_FnDisk.j6 : Nat → List Int → Int → ByteArray → Int → List (S81) → Int → List (S81) → Int → ByteArray → ByteArray → Option (Bool)
 | 0, _, _, _, _, _, _, _, _, _, _ => none
 | k + 1, x4, x6, x10, x414000, x414001, x419000, x419001, x425000, x425001, x425002 => (impl_DiskSync.f k x414000 x414001 x425000).bind fun bt427 => ((impl_DiskCrash.f k bt427.1 bt427.2.1 x4).bind fun bt433 => ((impl_DiskRead.f k bt433.1 bt433.2 x425000).bind fun bt437 => (if bt427.2.2 = 0 then (if bt437.2 = true then (if bt437.1.toList = x10.toList then (laws_FnDisk.l0 k x4 (wrap64 (x6 + 1)) x414000 x414001 x419000 x419001) else (some false)) else (some false)) else (some false))))
end
def laws_FnDisk.f (k : Nat) (l0 : List Int) : Option (Bool) := (laws_big.f l0).bind fun t405 => (if t405 = true then (some true) else (laws_FnDisk.j0 k l0))
set_option maxRecDepth 100000 in
theorem laws_FnDisk.mono_l : ∀ k, (∀ y0, LeO (laws_FnDisk.j0 k y0) (laws_FnDisk.j0 (k + 1) y0)) ∧ (∀ y0 y1 y2 y3 y4 y5, LeO (laws_FnDisk.j1 k y0 y1 y2 y3 y4 y5) (laws_FnDisk.j1 (k + 1) y0 y1 y2 y3 y4 y5)) ∧ (∀ y0 y1 y2 y3 y4, LeO (laws_FnDisk.j2 k y0 y1 y2 y3 y4) (laws_FnDisk.j2 (k + 1) y0 y1 y2 y3 y4)) ∧ (∀ y0 y1 y2 y3 y4 y5, LeO (laws_FnDisk.l0 k y0 y1 y2 y3 y4 y5) (laws_FnDisk.l0 (k + 1) y0 y1 y2 y3 y4 y5)) ∧ (∀ y0 y1 y2 y3 y4 y5, LeO (laws_FnDisk.j4 k y0 y1 y2 y3 y4 y5) (laws_FnDisk.j4 (k + 1) y0 y1 y2 y3 y4 y5)) ∧ (∀ y0 y1 y2 y3 y4 y5 y6 y7 y8 y9 y10, LeO (laws_FnDisk.j5 k y0 y1 y2 y3 y4 y5 y6 y7 y8 y9 y10) (laws_FnDisk.j5 (k + 1) y0 y1 y2 y3 y4 y5 y6 y7 y8 y9 y10)) ∧ (∀ y0 y1 y2 y3 y4 y5 y6 y7 y8 y9, LeO (laws_FnDisk.j6 k y0 y1 y2 y3 y4 y5 y6 y7 y8 y9) (laws_FnDisk.j6 (k + 1) y0 y1 y2 y3 y4 y5 y6 y7 y8 y9))
 | 0 => ⟨fun _ r h => by simp [laws_FnDisk.j0] at h, fun _ _ _ _ _ _ r h => by simp [laws_FnDisk.j1] at h, fun _ _ _ _ _ r h => by simp [laws_FnDisk.j2] at h, fun _ _ _ _ _ _ r h => by simp [laws_FnDisk.l0] at h, fun _ _ _ _ _ _ r h => by simp [laws_FnDisk.j4] at h, fun _ _ _ _ _ _ _ _ _ _ _ r h => by simp [laws_FnDisk.j5] at h, fun _ _ _ _ _ _ _ _ _ _ r h => by simp [laws_FnDisk.j6] at h⟩
 | k + 1 => by
  obtain ⟨ih0, ih1, ih2, ih3, ih4, ih5, ih6⟩ := laws_FnDisk.mono_l k
  refine ⟨?_, ?_, ?_, ?_, ?_, ?_, ?_⟩
  ·intro y0
   unfold laws_FnDisk.j0
   repeat' first
   | (with_reducible exact ih0 _)
   | (with_reducible exact ih1 _ _ _ _ _ _)
   | (with_reducible exact ih2 _ _ _ _ _)
   | (with_reducible exact ih3 _ _ _ _ _ _)
   | (with_reducible exact ih4 _ _ _ _ _ _)
   | (with_reducible exact ih5 _ _ _ _ _ _ _ _ _ _ _)
   | (with_reducible exact ih6 _ _ _ _ _ _ _ _ _ _)
   | (with_reducible exact impl_DiskCrash.mono _ _ _ _)
   | (with_reducible exact impl_DiskOk.mono _ _ _)
   | (with_reducible exact impl_DiskRead.mono _ _ _ _)
   | (with_reducible exact impl_DiskSize.mono _ _ _)
   | (with_reducible exact impl_DiskSync.mono _ _ _ _)
   | (with_reducible exact spec_DiskOk.mono _ _ _)
   | (with_reducible exact spec_DrawDiskCrash.mono _ _)
   | (with_reducible exact LeO.refl _)
   | (with_reducible exact LeO.none _)
   | (with_reducible refine LeO.ite ?_ ?_)
   | (with_reducible refine LeO.bind ?_ (fun _ => ?_))
   | exact ih0 _
   | exact ih1 _ _ _ _ _ _
   | exact ih2 _ _ _ _ _
   | exact ih3 _ _ _ _ _ _
   | exact ih4 _ _ _ _ _ _
   | exact ih5 _ _ _ _ _ _ _ _ _ _ _
   | exact ih6 _ _ _ _ _ _ _ _ _ _
   | exact impl_DiskCrash.mono _ _ _ _
   | exact impl_DiskOk.mono _ _ _
   | exact impl_DiskRead.mono _ _ _ _
   | exact impl_DiskSize.mono _ _ _
   | exact impl_DiskSync.mono _ _ _ _
   | exact spec_DiskOk.mono _ _ _
   | exact spec_DrawDiskCrash.mono _ _
   | exact LeO.none _
   | refine LeO.ite ?_ ?_
   | refine LeO.bind ?_ (fun _ => ?_)
  ·intro y0 y1 y2 y3 y4 y5
   unfold laws_FnDisk.j1
   repeat' first
   | (with_reducible exact ih0 _)
   | (with_reducible exact ih1 _ _ _ _ _ _)
   | (with_reducible exact ih2 _ _ _ _ _)
   | (with_reducible exact ih3 _ _ _ _ _ _)
   | (with_reducible exact ih4 _ _ _ _ _ _)
   | (with_reducible exact ih5 _ _ _ _ _ _ _ _ _ _ _)
   | (with_reducible exact ih6 _ _ _ _ _ _ _ _ _ _)
   | (with_reducible exact impl_DiskCrash.mono _ _ _ _)
   | (with_reducible exact impl_DiskOk.mono _ _ _)
   | (with_reducible exact impl_DiskRead.mono _ _ _ _)
   | (with_reducible exact impl_DiskSize.mono _ _ _)
   | (with_reducible exact impl_DiskSync.mono _ _ _ _)
   | (with_reducible exact spec_DiskOk.mono _ _ _)
   | (with_reducible exact spec_DrawDiskCrash.mono _ _)
   | (with_reducible exact LeO.refl _)
   | (with_reducible exact LeO.none _)
   | (with_reducible refine LeO.ite ?_ ?_)
   | (with_reducible refine LeO.bind ?_ (fun _ => ?_))
   | exact ih0 _
   | exact ih1 _ _ _ _ _ _
   | exact ih2 _ _ _ _ _
   | exact ih3 _ _ _ _ _ _
   | exact ih4 _ _ _ _ _ _
   | exact ih5 _ _ _ _ _ _ _ _ _ _ _
   | exact ih6 _ _ _ _ _ _ _ _ _ _
   | exact impl_DiskCrash.mono _ _ _ _
   | exact impl_DiskOk.mono _ _ _
   | exact impl_DiskRead.mono _ _ _ _
   | exact impl_DiskSize.mono _ _ _
   | exact impl_DiskSync.mono _ _ _ _
   | exact spec_DiskOk.mono _ _ _
   | exact spec_DrawDiskCrash.mono _ _
   | exact LeO.none _
   | refine LeO.ite ?_ ?_
   | refine LeO.bind ?_ (fun _ => ?_)
  ·intro y0 y1 y2 y3 y4
   unfold laws_FnDisk.j2
   repeat' first
   | (with_reducible exact ih0 _)
   | (with_reducible exact ih1 _ _ _ _ _ _)
   | (with_reducible exact ih2 _ _ _ _ _)
   | (with_reducible exact ih3 _ _ _ _ _ _)
   | (with_reducible exact ih4 _ _ _ _ _ _)
   | (with_reducible exact ih5 _ _ _ _ _ _ _ _ _ _ _)
   | (with_reducible exact ih6 _ _ _ _ _ _ _ _ _ _)
   | (with_reducible exact impl_DiskCrash.mono _ _ _ _)
   | (with_reducible exact impl_DiskOk.mono _ _ _)
   | (with_reducible exact impl_DiskRead.mono _ _ _ _)
   | (with_reducible exact impl_DiskSize.mono _ _ _)
   | (with_reducible exact impl_DiskSync.mono _ _ _ _)
   | (with_reducible exact spec_DiskOk.mono _ _ _)
   | (with_reducible exact spec_DrawDiskCrash.mono _ _)
   | (with_reducible exact LeO.refl _)
   | (with_reducible exact LeO.none _)
   | (with_reducible refine LeO.ite ?_ ?_)
   | (with_reducible refine LeO.bind ?_ (fun _ => ?_))
   | exact ih0 _
   | exact ih1 _ _ _ _ _ _
   | exact ih2 _ _ _ _ _
   | exact ih3 _ _ _ _ _ _
   | exact ih4 _ _ _ _ _ _
   | exact ih5 _ _ _ _ _ _ _ _ _ _ _
   | exact ih6 _ _ _ _ _ _ _ _ _ _
   | exact impl_DiskCrash.mono _ _ _ _
   | exact impl_DiskOk.mono _ _ _
   | exact impl_DiskRead.mono _ _ _ _
   | exact impl_DiskSize.mono _ _ _
   | exact impl_DiskSync.mono _ _ _ _
   | exact spec_DiskOk.mono _ _ _
   | exact spec_DrawDiskCrash.mono _ _
   | exact LeO.none _
   | refine LeO.ite ?_ ?_
   | refine LeO.bind ?_ (fun _ => ?_)
  ·intro y0 y1 y2 y3 y4 y5
   unfold laws_FnDisk.l0
   repeat' first
   | (with_reducible exact ih0 _)
   | (with_reducible exact ih1 _ _ _ _ _ _)
   | (with_reducible exact ih2 _ _ _ _ _)
   | (with_reducible exact ih3 _ _ _ _ _ _)
   | (with_reducible exact ih4 _ _ _ _ _ _)
   | (with_reducible exact ih5 _ _ _ _ _ _ _ _ _ _ _)
   | (with_reducible exact ih6 _ _ _ _ _ _ _ _ _ _)
   | (with_reducible exact impl_DiskCrash.mono _ _ _ _)
   | (with_reducible exact impl_DiskOk.mono _ _ _)
   | (with_reducible exact impl_DiskRead.mono _ _ _ _)
   | (with_reducible exact impl_DiskSize.mono _ _ _)
   | (with_reducible exact impl_DiskSync.mono _ _ _ _)
   | (with_reducible exact spec_DiskOk.mono _ _ _)
   | (with_reducible exact spec_DrawDiskCrash.mono _ _)
   | (with_reducible exact LeO.refl _)
   | (with_reducible exact LeO.none _)
   | (with_reducible refine LeO.ite ?_ ?_)
   | (with_reducible refine LeO.bind ?_ (fun _ => ?_))
   | exact ih0 _
   | exact ih1 _ _ _ _ _ _
   | exact ih2 _ _ _ _ _
   | exact ih3 _ _ _ _ _ _
   | exact ih4 _ _ _ _ _ _
   | exact ih5 _ _ _ _ _ _ _ _ _ _ _
   | exact ih6 _ _ _ _ _ _ _ _ _ _
   | exact impl_DiskCrash.mono _ _ _ _
   | exact impl_DiskOk.mono _ _ _
   | exact impl_DiskRead.mono _ _ _ _
   | exact impl_DiskSize.mono _ _ _
   | exact impl_DiskSync.mono _ _ _ _
   | exact spec_DiskOk.mono _ _ _
   | exact spec_DrawDiskCrash.mono _ _
   | exact LeO.none _
   | refine LeO.ite ?_ ?_
   | refine LeO.bind ?_ (fun _ => ?_)
  ·intro y0 y1 y2 y3 y4 y5
   unfold laws_FnDisk.j4
   repeat' first
   | (with_reducible exact ih0 _)
   | (with_reducible exact ih1 _ _ _ _ _ _)
   | (with_reducible exact ih2 _ _ _ _ _)
   | (with_reducible exact ih3 _ _ _ _ _ _)
   | (with_reducible exact ih4 _ _ _ _ _ _)
   | (with_reducible exact ih5 _ _ _ _ _ _ _ _ _ _ _)
   | (with_reducible exact ih6 _ _ _ _ _ _ _ _ _ _)
   | (with_reducible exact impl_DiskCrash.mono _ _ _ _)
   | (with_reducible exact impl_DiskOk.mono _ _ _)
   | (with_reducible exact impl_DiskRead.mono _ _ _ _)
   | (with_reducible exact impl_DiskSize.mono _ _ _)
   | (with_reducible exact impl_DiskSync.mono _ _ _ _)
   | (with_reducible exact spec_DiskOk.mono _ _ _)
   | (with_reducible exact spec_DrawDiskCrash.mono _ _)
   | (with_reducible exact LeO.refl _)
   | (with_reducible exact LeO.none _)
   | (with_reducible refine LeO.ite ?_ ?_)
   | (with_reducible refine LeO.bind ?_ (fun _ => ?_))
   | exact ih0 _
   | exact ih1 _ _ _ _ _ _
   | exact ih2 _ _ _ _ _
   | exact ih3 _ _ _ _ _ _
   | exact ih4 _ _ _ _ _ _
   | exact ih5 _ _ _ _ _ _ _ _ _ _ _
   | exact ih6 _ _ _ _ _ _ _ _ _ _
   | exact impl_DiskCrash.mono _ _ _ _
   | exact impl_DiskOk.mono _ _ _
   | exact impl_DiskRead.mono _ _ _ _
   | exact impl_DiskSize.mono _ _ _
   | exact impl_DiskSync.mono _ _ _ _
   | exact spec_DiskOk.mono _ _ _
   | exact spec_DrawDiskCrash.mono _ _
   | exact LeO.none _
   | refine LeO.ite ?_ ?_
   | refine LeO.bind ?_ (fun _ => ?_)
  ·intro y0 y1 y2 y3 y4 y5 y6 y7 y8 y9 y10
   unfold laws_FnDisk.j5
   repeat' first
   | (with_reducible exact ih0 _)
   | (with_reducible exact ih1 _ _ _ _ _ _)
   | (with_reducible exact ih2 _ _ _ _ _)
   | (with_reducible exact ih3 _ _ _ _ _ _)
   | (with_reducible exact ih4 _ _ _ _ _ _)
   | (with_reducible exact ih5 _ _ _ _ _ _ _ _ _ _ _)
   | (with_reducible exact ih6 _ _ _ _ _ _ _ _ _ _)
   | (with_reducible exact impl_DiskCrash.mono _ _ _ _)
   | (with_reducible exact impl_DiskOk.mono _ _ _)
   | (with_reducible exact impl_DiskRead.mono _ _ _ _)
   | (with_reducible exact impl_DiskSize.mono _ _ _)
   | (with_reducible exact impl_DiskSync.mono _ _ _ _)
   | (with_reducible exact spec_DiskOk.mono _ _ _)
   | (with_reducible exact spec_DrawDiskCrash.mono _ _)
   | (with_reducible exact LeO.refl _)
   | (with_reducible exact LeO.none _)
   | (with_reducible refine LeO.ite ?_ ?_)
   | (with_reducible refine LeO.bind ?_ (fun _ => ?_))
   | exact ih0 _
   | exact ih1 _ _ _ _ _ _
   | exact ih2 _ _ _ _ _
   | exact ih3 _ _ _ _ _ _
   | exact ih4 _ _ _ _ _ _
   | exact ih5 _ _ _ _ _ _ _ _ _ _ _
   | exact ih6 _ _ _ _ _ _ _ _ _ _
   | exact impl_DiskCrash.mono _ _ _ _
   | exact impl_DiskOk.mono _ _ _
   | exact impl_DiskRead.mono _ _ _ _
   | exact impl_DiskSize.mono _ _ _
   | exact impl_DiskSync.mono _ _ _ _
   | exact spec_DiskOk.mono _ _ _
   | exact spec_DrawDiskCrash.mono _ _
   | exact LeO.none _
   | refine LeO.ite ?_ ?_
   | refine LeO.bind ?_ (fun _ => ?_)
  ·intro y0 y1 y2 y3 y4 y5 y6 y7 y8 y9
   unfold laws_FnDisk.j6
   repeat' first
   | (with_reducible exact ih0 _)
   | (with_reducible exact ih1 _ _ _ _ _ _)
   | (with_reducible exact ih2 _ _ _ _ _)
   | (with_reducible exact ih3 _ _ _ _ _ _)
   | (with_reducible exact ih4 _ _ _ _ _ _)
   | (with_reducible exact ih5 _ _ _ _ _ _ _ _ _ _ _)
   | (with_reducible exact ih6 _ _ _ _ _ _ _ _ _ _)
   | (with_reducible exact impl_DiskCrash.mono _ _ _ _)
   | (with_reducible exact impl_DiskOk.mono _ _ _)
   | (with_reducible exact impl_DiskRead.mono _ _ _ _)
   | (with_reducible exact impl_DiskSize.mono _ _ _)
   | (with_reducible exact impl_DiskSync.mono _ _ _ _)
   | (with_reducible exact spec_DiskOk.mono _ _ _)
   | (with_reducible exact spec_DrawDiskCrash.mono _ _)
   | (with_reducible exact LeO.refl _)
   | (with_reducible exact LeO.none _)
   | (with_reducible refine LeO.ite ?_ ?_)
   | (with_reducible refine LeO.bind ?_ (fun _ => ?_))
   | exact ih0 _
   | exact ih1 _ _ _ _ _ _
   | exact ih2 _ _ _ _ _
   | exact ih3 _ _ _ _ _ _
   | exact ih4 _ _ _ _ _ _
   | exact ih5 _ _ _ _ _ _ _ _ _ _ _
   | exact ih6 _ _ _ _ _ _ _ _ _ _
   | exact impl_DiskCrash.mono _ _ _ _
   | exact impl_DiskOk.mono _ _ _
   | exact impl_DiskRead.mono _ _ _ _
   | exact impl_DiskSize.mono _ _ _
   | exact impl_DiskSync.mono _ _ _ _
   | exact spec_DiskOk.mono _ _ _
   | exact spec_DrawDiskCrash.mono _ _
   | exact LeO.none _
   | refine LeO.ite ?_ ?_
   | refine LeO.bind ?_ (fun _ => ?_)
theorem laws_FnDisk.mono : ∀ a0 k, LeO (laws_FnDisk.f k a0) (laws_FnDisk.f (k + 1) a0) := by
 intro a0 k
 obtain ⟨ih0, ih1, ih2, ih3, ih4, ih5, ih6⟩ := laws_FnDisk.mono_l k
 unfold laws_FnDisk.f
 repeat' first
  | (with_reducible exact ih0 _)
  | (with_reducible exact ih1 _ _ _ _ _ _)
  | (with_reducible exact ih2 _ _ _ _ _)
  | (with_reducible exact ih3 _ _ _ _ _ _)
  | (with_reducible exact ih4 _ _ _ _ _ _)
  | (with_reducible exact ih5 _ _ _ _ _ _ _ _ _ _ _)
  | (with_reducible exact ih6 _ _ _ _ _ _ _ _ _ _)
  | (with_reducible exact impl_DiskCrash.mono _ _ _ _)
  | (with_reducible exact impl_DiskOk.mono _ _ _)
  | (with_reducible exact impl_DiskRead.mono _ _ _ _)
  | (with_reducible exact impl_DiskSize.mono _ _ _)
  | (with_reducible exact impl_DiskSync.mono _ _ _ _)
  | (with_reducible exact spec_DiskOk.mono _ _ _)
  | (with_reducible exact spec_DrawDiskCrash.mono _ _)
  | (with_reducible exact LeO.refl _)
  | (with_reducible exact LeO.none _)
  | (with_reducible refine LeO.ite ?_ ?_)
  | (with_reducible refine LeO.bind ?_ (fun _ => ?_))
  | exact ih0 _
  | exact ih1 _ _ _ _ _ _
  | exact ih2 _ _ _ _ _
  | exact ih3 _ _ _ _ _ _
  | exact ih4 _ _ _ _ _ _
  | exact ih5 _ _ _ _ _ _ _ _ _ _ _
  | exact ih6 _ _ _ _ _ _ _ _ _ _
  | exact impl_DiskCrash.mono _ _ _ _
  | exact impl_DiskOk.mono _ _ _
  | exact impl_DiskRead.mono _ _ _ _
  | exact impl_DiskSize.mono _ _ _
  | exact impl_DiskSync.mono _ _ _ _
  | exact spec_DiskOk.mono _ _ _
  | exact spec_DrawDiskCrash.mono _ _
  | exact LeO.none _
  | refine LeO.ite ?_ ?_
  | refine LeO.bind ?_ (fun _ => ?_)
def laws_FnDisk.T16 : Bool × List (List Nat × List Nat) := (true, [([], []), ([], []), ([0, 1], [0, 1]), ([], []), ([3], [3]), ([2, 4, 2], [2, 4]), ([5], [5]), ([6], [6]), ([6], [6]), ([7, 5, 0, 1, 2, 3, 4, 5, 6, 7], [7]), ([8, 9, 0, 1, 2, 3, 4, 5, 6, 7, 8, 9], [8])])
def laws_FnDisk.B16 : List Nat := [0, 0, 3, 0, 8, 31, 63, 127, 127, 255, 1023]
theorem laws_FnDisk.tab16 : rtab .any (opsOf Try.f9 16) = laws_FnDisk.T16 := by kernel_rfl
theorem laws_FnDisk.bits16 : waitsOk laws_FnDisk.T16.2 laws_FnDisk.B16 = true := by kernel_rfl
def laws_FnDisk.T19 : Bool × List (List Nat × List Nat) := (true, [([], []), ([0], [0]), ([1, 1], [1]), ([2], [2]), ([3, 2, 2], [2, 3]), ([2], [2]), ([5, 4, 2], [2, 5]), ([4, 6, 2], [2, 4, 6]), ([2, 7], [2, 7]), ([8, 6], [8]), ([9], [9]), ([10, 9], [9, 10]), ([11, 9], [9, 11]), ([9], [9]), ([13, 9], [9, 13]), ([14, 9], [9, 14]), ([12, 15, 9], [9, 12, 15]), ([9, 16], [9, 16]), ([17, 9, 0, 1, 2, 3, 4, 5, 6, 7, 8, 9, 10, 11, 12, 13, 14, 15, 16, 17], [17])])
def laws_FnDisk.B19 : List Nat := [0, 1, 3, 7, 15, 7, 63, 127, 255, 511, 1023, 2047, 4095, 1023, 9215, 25599, 65535, 131071, 262143]
theorem laws_FnDisk.tab19 : rtab .any (opsOf Try.f9 19) = laws_FnDisk.T19 := by kernel_rfl
theorem laws_FnDisk.bits19 : waitsOk laws_FnDisk.T19.2 laws_FnDisk.B19 = true := by kernel_rfl
set_option maxHeartbeats 8000000 in
set_option maxRecDepth 100000 in
theorem laws_FnDisk.calls (k : Nat) (A0 : Option Addr) (c0 : Nat) (l0 : List Int) (r : Bool) (w : World) (hr0 : Kd.C (Kd.int .u8) w A0 l0.length l0) (hc0 : l0.length ≤ c0) (h : laws_FnDisk.f k l0 = some r) :
 Calls Try.prog 9 #[.slice A0 l0.length c0] w fun e w' => e = .returned (.bool r) ∧ Below w.heap.size w w' := by
 have hu63 := Try.underlying63
 have hu81 := Try.underlying81
 have HR0 := Aside0.mk hr0
 have HC0 := Aside0.mk hc0
 clear hr0 hc0
 have HB := Aside0.mk (Below.refl w.heap.size w)
 have H : ((laws_big.f l0).bind fun t405 => (if t405 = true then (some true) else (laws_FnDisk.j0 k l0))) = some r := h
 clear h
 replace H := Option.bind_eq_some_iff.mp H
 obtain ⟨t405, A20, H⟩ := H
 replace H : (if t405 = true then (some true) else (laws_FnDisk.j0 k l0)) = some r := H
 have A2 := Aside0.mk A20
 clear A20
 have HC3 := Aside0.mk H
 clear H
 go_enter Try.func9, Try.ntmps9
 go_upto_if 14 with (first | ((with_reducible refine gate_callee (f := 20) rfl ?_); refine goesL_ (some 14) rfl rfl Try.func20 (by kernel_rfl) rfl #[.slice A0 l0.length c0] rfl (by (try simp only [List.map_toArray, List.map_cons, List.map_nil]); first | done | rfl | (simp only [List.length_drop, List.length_take]; rfl)) ?_; (with_reducible refine (laws_big.calls _ _ l0 t405 _ ?side1 ?side2 A2.out).mono ?_); (case side1 => repeat (first | exact HR0.out | (with_reducible refine Kd.C_alloc ?_ _) | (with_reducible refine Kd.C_drewN ?_ _) | (with_reducible refine Kd.C_drew ?_))); (case side2 => exact HC0.out); rintro e w' ⟨rfl, ⟨nd, rfl⟩⟩; refine ⟨_, rfl, ?_⟩))
 (try simp only [Act.put, List.setIfInBounds_toArray, List.set_cons_zero, List.set_cons_succ])
 go_cut [] (fun wc => ∃ (kq : Nat), Aside0 (laws_FnDisk.j0 kq l0 = some r) ∧ Aside0 (kq ≤ k) ∧ Aside0 (Below w.heap.size w wc))
 case first =>
  have H := HC3.out
  clear HC3
  by_cases c4 : t405 = true
  ·subst c4
   have H1 : (some true) = some r := by rw [if_pos rfl] at H; exact H
   clear H
   have H := H1
   clear H1
   obtain rfl := Option.some.inj H
   go_wp2
   go_ret
   exact ⟨by first | rfl | (simp [errW_none, errW_some] <;> rfl) | (simp [*, errW_none, errW_some] <;> rfl), xbel⟩
  ·replace c4 := Bool.eq_false_iff.mpr c4
   subst c4
   have H1 : (laws_FnDisk.j0 k l0) = some r := by rw [if_neg (show ¬ (false = true) by decide)] at H; exact H
   clear H
   have H := H1
   clear H1
   have H' := Aside0.mk H
   clear H
   go_wp2
   go_meet
   case rel => exact ⟨_, H', ⟨by first | omega | exact Nat.le_refl _⟩, ⟨xbel⟩⟩
 case rest =>
  clear HC3
  try clear c2
  try clear p2
  try clear c4
  obtain ⟨kq, HA, HJ2, HB⟩ := hcut
  cases kq with
  | zero => exact absurd HA.out (by simp [laws_FnDisk.j0])
  | succ kj2 =>
   have H := HA.out
   clear HA
   simp only [laws_FnDisk.j0] at H
   replace H := Option.bind_eq_some_iff.mp H
   obtain ⟨⟨t406, t407, t410⟩, A50, H⟩ := H
   replace H : ((impl_DiskCrash.f kj2 t406 t407 t410).bind fun bt414 => ((spec_DiskOk.f kj2 t406 t407).bind fun t419 => (if t419 = true then (laws_FnDisk.j1 kj2 t410 (decide ((t410.length : Int) > 8)) t406 t407 bt414.1 bt414.2) else (laws_FnDisk.j1 kj2 t410 true t406 t407 bt414.1 bt414.2)))) = some r := H
   have A5 := Aside0.mk A50
   clear A50
   replace H := Option.bind_eq_some_iff.mp H
   obtain ⟨⟨t414, t415⟩, A60, H⟩ := H
   replace H : ((spec_DiskOk.f kj2 t406 t407).bind fun t419 => (if t419 = true then (laws_FnDisk.j1 kj2 t410 (decide ((t410.length : Int) > 8)) t406 t407 t414 t415) else (laws_FnDisk.j1 kj2 t410 true t406 t407 t414 t415))) = some r := H
   have A6 := Aside0.mk A60
   clear A60
   have HC7 := Aside0.mk H
   clear H
   go_upto_region 5 with (first | ((with_reducible refine gate_callee (f := 46) rfl ?_); refine goesL_ (some 17) rfl rfl Try.func46 (by kernel_rfl) rfl #[.slice A0 l0.length c0] rfl (by (try simp only [List.map_toArray, List.map_cons, List.map_nil]); first | done | rfl | (simp only [List.length_drop, List.length_take]; rfl)) ?_; (with_reducible refine (spec_DrawDiskCrash.calls kj2 _ _ l0 t406 t407 t410 _ ?side1 ?side2 A5.out).mono ?_); (case side1 => exact xcb HR0); (case side2 => exact HC0.out); rintro e w8 ⟨v408, v411, rfl, ho0, ho1, hb⟩; refine ⟨_, rfl, ?_⟩; have HO409 := Aside0.mk (Kd.R_lower ho0 (below_size xbel)); have HO412 := Aside0.mk (Kd.R_lower ho1 (below_size xbel)); replace HB := xbs hb; (try clear hb); (try clear hb2); (try clear hk); (try clear hi); (try clear ho0); (try clear ho1)) | ((with_reducible refine gate_dst (N := 3) rfl ?_); (try (refine gate_guard (by rfl) ?_; dsimp only)); refine box_event ?hg (N := 3) ?hd (cs := #[.int .i64 0, .slice none 0 0]) (t := 63) ?hr ?_; (case hd => rfl); (case hg => rfl); (case hr => first | (go_simp; done) | (go_simp; rfl)); intro gb413 hg w9 hbox hb; replace HO409 := Aside0.mk (Kd.R_below (by (with_reducible repeat (first | apply Kd.R_alloc | apply Kd.R_drewN | apply Kd.R_drew)); exact HO409.out) hb); replace HO412 := Aside0.mk (Kd.R_below (by (with_reducible repeat (first | apply Kd.R_alloc | apply Kd.R_drewN | apply Kd.R_drew)); exact HO412.out) hb); have BK413 := Aside0.mk (hbox); have GW413 := Aside0.mk (xge hg); have GE413 := Aside0.mk (xge hg); replace HB := xbs hb; clear hb hbox hg; have hcz10_0 : w9.cell? ⟨gb413, 0, none⟩ = some (.int .i64 0) := (blk_cell BK413.out 0).trans rfl; have hcz10_1 : w9.cell? ⟨gb413, 1, none⟩ = some (.slice none 0 0) := (blk_cell BK413.out 1).trans rfl; have hfz10_0 := blk_frozen BK413.out 0; have hfz10_1 := blk_frozen BK413.out 1; obtain ⟨Ao11, co11, eo11⟩ := Kd.R_slice HO409.out; subst eo11; obtain ⟨Ao12, co12, eo12⟩ := Kd.R_slice HO412.out; subst eo12) | ((with_reducible refine gate_callee (f := 41) rfl ?_); refine goesL_ (some 22) rfl rfl Try.func41 (by kernel_rfl) rfl #[.agg #[.int .i64 t406, .slice Ao11 t407.length co11], .slice Ao12 t410.length co12] rfl (by (try simp only [List.map_toArray, List.map_cons, List.map_nil]); first | done | rfl | (simp only [List.length_drop, List.length_take]; rfl)) ?_; (with_reducible refine (impl_DiskCrash.calls kj2 t406 _ _ t407 _ _ t410 t414 t415 _ ?side1 ?side2 ?side3 ?side4 A6.out).mono ?_); (case side1 => refine (Kd.R_reads' (e := 81) (base := w.heap.size) (ok := fun k_ => True) (n := t407.length) (c := co11) ?_).2.2; exact (by (with_reducible repeat (first | apply Kd.R_alloc | apply Kd.R_drewN | apply Kd.R_drew)); exact (Kd.R_mono (Kd.R_far (p := ⟨gb413, 1, none⟩) (Kd.R_far (p := ⟨gb413, 0, none⟩) (Kd.R_types HO409.out BK413.out (by decide)) (fun _ hk => hk.2) (.int .i64 t406)) (fun _ hk => hk.2) (.slice Ao11 t407.length co11)) (fun _ h_ => h_.1)))); (case side2 => exact (Kd.R_reads' HO409.out).2.1); (case side3 => refine (Kd.R_reads' (e := 3) (base := w.heap.size) (ok := fun k_ => True) (n := t410.length) (c := co12) ?_).2.2; exact (by (with_reducible repeat (first | apply Kd.R_alloc | apply Kd.R_drewN | apply Kd.R_drew)); exact (Kd.R_mono (Kd.R_far (p := ⟨gb413, 1, none⟩) (Kd.R_far (p := ⟨gb413, 0, none⟩) (Kd.R_types HO412.out BK413.out (by decide)) (fun _ hk => hk.2) (.int .i64 t406)) (fun _ hk => hk.2) (.slice Ao11 t407.length co11)) (fun _ h_ => h_.1)))); (case side4 => exact (Kd.R_reads' HO412.out).2.1); rintro e w13 ⟨v416, rfl, ho0, hb⟩; refine ⟨_, rfl, ?_⟩; replace HO412 := Aside0.mk (Kd.R_below (by (with_reducible repeat (first | apply Kd.R_alloc | apply Kd.R_drewN | apply Kd.R_drew)); exact (Kd.R_mono (Kd.R_far (p := ⟨gb413, 1, none⟩) (Kd.R_far (p := ⟨gb413, 0, none⟩) (Kd.R_types HO412.out BK413.out (by decide)) (fun _ hk => hk.2) (.int .i64 t406)) (fun _ hk => hk.2) (.slice Ao11 t407.length co11)) (fun _ h_ => h_.1))) hb); have HO417 := Aside0.mk (Kd.R_lower (Kd.R_new' ho0 (Kd.R_lt (by (with_reducible repeat (first | apply Kd.R_alloc | apply Kd.R_drewN | apply Kd.R_drew)); exact (Kd.R_mono (Kd.R_far (p := ⟨gb413, 1, none⟩) (Kd.R_far (p := ⟨gb413, 0, none⟩) (Kd.R_types HO409.out BK413.out (by decide)) (fun _ hk => hk.2) (.int .i64 t406)) (fun _ hk => hk.2) (.slice Ao11 t407.length co11)) (fun _ h_ => h_.1))))) (below_size xbg)); replace HO409 := Aside0.mk (Kd.R_elder' (by (with_reducible repeat (first | apply Kd.R_alloc | apply Kd.R_drewN | apply Kd.R_drew)); exact (Kd.R_mono (Kd.R_far (p := ⟨gb413, 1, none⟩) (Kd.R_far (p := ⟨gb413, 0, none⟩) (Kd.R_types HO409.out BK413.out (by decide)) (fun _ hk => hk.2) (.int .i64 t406)) (fun _ hk => hk.2) (.slice Ao11 t407.length co11)) (fun _ h_ => h_.1))) (Kd.R_base ho0) hb); replace BK413 := Aside0.mk (blk_below (g := gb413) (o := .cells #[.int .i64 t406, .slice Ao11 t407.length co11] 63 (0, 0)) (by (with_reducible repeat (first | refine blk_drewN ?_ _ | refine blk_drew ?_ | refine blk_alloc ?_ _)); refine blk_put (cs := #[.int .i64 t406, .slice none 0 0]) ?_ 1 _ rfl; (with_reducible repeat (first | refine blk_drewN ?_ _ | refine blk_drew ?_ | refine blk_alloc ?_ _)); refine blk_put (cs := #[.int .i64 0, .slice none 0 0]) ?_ 0 _ rfl; (with_reducible repeat (first | refine blk_drewN ?_ _ | refine blk_drew ?_ | refine blk_alloc ?_ _)); exact BK413.out) hb); replace HB := xbs hb; (try clear hb); (try clear hb2); (try clear hk); (try clear hi); (try clear ho0)) | ((with_reducible refine gate_dst (N := 5) rfl ?_); (try (refine gate_guard (by rfl) ?_; dsimp only)); refine box_event ?hg (N := 5) ?hd (cs := #[.int .i64 0, .slice none 0 0]) (t := 63) ?hr ?_; (case hd => rfl); (case hg => rfl); (case hr => first | (go_simp; done) | (go_simp; rfl)); intro gb418 hg w14 hbox hb; replace HO409 := Aside0.mk (Kd.R_below (by (with_reducible repeat (first | apply Kd.R_alloc | apply Kd.R_drewN | apply Kd.R_drew)); exact HO409.out) hb); replace HO412 := Aside0.mk (Kd.R_below (by (with_reducible repeat (first | apply Kd.R_alloc | apply Kd.R_drewN | apply Kd.R_drew)); exact HO412.out) hb); replace HO417 := Aside0.mk (Kd.R_below (by (with_reducible repeat (first | apply Kd.R_alloc | apply Kd.R_drewN | apply Kd.R_drew)); exact HO417.out) hb); have GW418 := Aside0.mk (xge hg); have GE418 := Aside0.mk (xge hg); replace HB := xbs hb; have NB413_418 := Aside0.mk ((by rw [hg]; exact Nat.ne_of_lt (blk_lt (g := gb413) (o := .cells #[.int .i64 t406, .slice Ao11 t407.length co11] 63 (0, 0)) xblk) : gb413 ≠ gb418)); have NB418_413 := Aside0.mk ((by rw [hg]; exact Nat.ne_of_gt (blk_lt (g := gb413) (o := .cells #[.int .i64 t406, .slice Ao11 t407.length co11] 63 (0, 0)) xblk) : gb418 ≠ gb413)); replace BK413 := xbb BK413 hb; have BK418 := Aside0.mk (hbox); clear hb hbox hg; have hnb15 := NB418_413.out; have hnc15 := NB413_418.out; have hcz16_0 : w14.cell? ⟨gb418, 0, none⟩ = some (.int .i64 0) := (blk_cell BK418.out 0).trans rfl; have hcz16_1 : w14.cell? ⟨gb418, 1, none⟩ = some (.slice none 0 0) := (blk_cell BK418.out 1).trans rfl; have hfz16_0 := blk_frozen BK418.out 0; have hfz16_1 := blk_frozen BK418.out 1; obtain ⟨Ao17, co17, eo17⟩ := Kd.R_slice HO417.out; subst eo17))
   (try simp only [Act.put, List.setIfInBounds_toArray, List.set_cons_zero, List.set_cons_succ])
   go_cut [30] (fun v30 wc => ∃ (kq : Nat) (x30_6 : Bool), v30 = .bool x30_6 ∧ Aside0 (laws_FnDisk.j1 kq t410 x30_6 t406 t407 t414 t415 = some r) ∧ Aside0 (kq ≤ kj2) ∧ Aside0 (Kd.R (Kd.int .i64) 3 wc w.heap.size (fun _ => True) (.slice Ao12 t410.length co12) t410) ∧ Aside0 (Kd.R k81 81 wc w.heap.size (fun k_ => some k_ ≠ ((.slice Ao17 t415.length co17) : Value).ownBlock) (.slice Ao11 t407.length co11) t407) ∧ Aside0 (Kd.R k81 81 wc w.heap.size (fun k_ => some k_ ≠ ((.slice Ao11 t407.length co11) : Value).ownBlock) (.slice Ao17 t415.length co17) t415) ∧ Aside0 (wc.heap[gb413]? = some (.cells #[.int .i64 t406, (.slice Ao11 t407.length co11)] 63 (0, 0))) ∧ Aside0 (wc.heap[gb418]? = some (.cells #[.int .i64 t414, (.slice Ao17 t415.length co17)] 63 (0, 0))) ∧ Aside0 (Below w.heap.size w wc))
   case first =>
    have H := HC7.out
    clear HC7
    replace H := Option.bind_eq_some_iff.mp H
    obtain ⟨t419, A180, H⟩ := H
    replace H : (if t419 = true then (laws_FnDisk.j1 kj2 t410 (decide ((t410.length : Int) > 8)) t406 t407 t414 t415) else (laws_FnDisk.j1 kj2 t410 true t406 t407 t414 t415)) = some r := H
    have A18 := Aside0.mk A180
    clear A180
    by_cases c19 : t419 = true
    ·subst c19
     have H1 : (laws_FnDisk.j1 kj2 t410 (decide ((t410.length : Int) > 8)) t406 t407 t414 t415) = some r := by rw [if_pos rfl] at H; exact H
     clear H
     have H := H1
     clear H1
     have H' := Aside0.mk H
     clear H
     have hnb20 := NB413_418.out
     have hnc20 := NB418_413.out
     have hcz21_0 : w14.cell? ⟨gb413, 0, none⟩ = some (.int .i64 t406) := (blk_cell BK413.out 0).trans rfl
     have hcz21_1 : w14.cell? ⟨gb413, 1, none⟩ = some (.slice Ao11 t407.length co11) := (blk_cell BK413.out 1).trans rfl
     have hfz21_0 := blk_frozen BK413.out 0
     have hfz21_1 := blk_frozen BK413.out 1
     go_wp2_with (first | ((with_reducible refine gate_callee (f := 47) rfl ?_); refine goesL_ (some 24) rfl rfl Try.func47 (by kernel_rfl) rfl #[.agg #[.int .i64 t406, .slice Ao11 t407.length co11]] rfl (by (try simp only [List.map_toArray, List.map_cons, List.map_nil]); first | done | rfl | (simp only [List.length_drop, List.length_take]; rfl)) ?_; (with_reducible refine (spec_DiskOk.calls kj2 t406 _ _ t407 true _ ?side1 ?side2 A18.out).mono ?_); (case side1 => refine (Kd.R_reads' (e := 81) (base := w.heap.size) (ok := fun k_ => (True ∧ some k_ ≠ (.slice Ao17 t415.length co17 : Value).ownBlock)) (n := t407.length) (c := co11) ?_).2.2; exact (by (with_reducible repeat (first | apply Kd.R_alloc | apply Kd.R_drewN | apply Kd.R_drew)); exact (Kd.R_mono (Kd.R_far (p := ⟨gb418, 1, none⟩) (Kd.R_far (p := ⟨gb418, 0, none⟩) (Kd.R_types HO409.out BK418.out (by decide)) (fun _ hk => hk.2) (.int .i64 t414)) (fun _ hk => hk.2) (.slice Ao17 t415.length co17)) (fun _ h_ => h_.1)))); (case side2 => exact (Kd.R_reads' HO409.out).2.1); rintro e w22 ⟨rfl, hb⟩; refine ⟨_, rfl, ?_⟩; replace HO409 := Aside0.mk (Kd.R_below (by (with_reducible repeat (first | apply Kd.R_alloc | apply Kd.R_drewN | apply Kd.R_drew)); exact (Kd.R_mono (Kd.R_far (p := ⟨gb418, 1, none⟩) (Kd.R_far (p := ⟨gb418, 0, none⟩) (Kd.R_types HO409.out BK418.out (by decide)) (fun _ hk => hk.2) (.int .i64 t414)) (fun _ hk => hk.2) (.slice Ao17 t415.length co17)) (fun _ h_ => h_.1))) hb); replace HO412 := Aside0.mk (Kd.R_below (by (with_reducible repeat (first | apply Kd.R_alloc | apply Kd.R_drewN | apply Kd.R_drew)); exact (Kd.R_mono (Kd.R_far (p := ⟨gb418, 1, none⟩) (Kd.R_far (p := ⟨gb418, 0, none⟩) (Kd.R_types HO412.out BK418.out (by decide)) (fun _ hk => hk.2) (.int .i64 t414)) (fun _ hk => hk.2) (.slice Ao17 t415.length co17)) (fun _ h_ => h_.1))) hb); replace HO417 := Aside0.mk (Kd.R_below (by (with_reducible repeat (first | apply Kd.R_alloc | apply Kd.R_drewN | apply Kd.R_drew)); exact (Kd.R_mono (Kd.R_far (p := ⟨gb418, 1, none⟩) (Kd.R_far (p := ⟨gb418, 0, none⟩) (Kd.R_types HO417.out BK418.out (by decide)) (fun _ hk => hk.2) (.int .i64 t414)) (fun _ hk => hk.2) (.slice Ao17 t415.length co17)) (fun _ h_ => h_.1))) hb); replace BK413 := Aside0.mk (blk_below (g := gb413) (o := .cells #[.int .i64 t406, .slice Ao11 t407.length co11] 63 (0, 0)) (by (with_reducible repeat (first | refine blk_drewN ?_ _ | refine blk_drew ?_ | refine blk_alloc ?_ _)); refine blk_far ?_ NB413_418.out _; (with_reducible repeat (first | refine blk_drewN ?_ _ | refine blk_drew ?_ | refine blk_alloc ?_ _)); refine blk_far ?_ NB413_418.out _; (with_reducible repeat (first | refine blk_drewN ?_ _ | refine blk_drew ?_ | refine blk_alloc ?_ _)); exact BK413.out) hb); replace BK418 := Aside0.mk (blk_below (g := gb418) (o := .cells #[.int .i64 t414, .slice Ao17 t415.length co17] 63 (0, 0)) (by (with_reducible repeat (first | refine blk_drewN ?_ _ | refine blk_drew ?_ | refine blk_alloc ?_ _)); refine blk_put (cs := #[.int .i64 t414, .slice none 0 0]) ?_ 1 _ rfl; (with_reducible repeat (first | refine blk_drewN ?_ _ | refine blk_drew ?_ | refine blk_alloc ?_ _)); refine blk_put (cs := #[.int .i64 0, .slice none 0 0]) ?_ 0 _ rfl; (with_reducible repeat (first | refine blk_drewN ?_ _ | refine blk_drew ?_ | refine blk_alloc ?_ _)); exact BK418.out) hb); replace HB := xbs hb; (try clear hb); (try clear hb2); (try clear hk); (try clear hi)))
     go_meet
     case rel => exact ⟨_, (decide ((t410.length : Int) > 8)), (by first | rfl | (simp; done) | (simp [*]; done)), H', ⟨by have := HJ2.out; first | omega | exact Nat.le_refl _⟩, ⟨by (with_reducible repeat (first | apply Kd.R_alloc | apply Kd.R_drewN | apply Kd.R_drew)); exact HO412.out⟩, ⟨by (with_reducible repeat (first | apply Kd.R_alloc | apply Kd.R_drewN | apply Kd.R_drew)); exact Kd.R_mono HO409.out (fun _ hk => hk.2)⟩, ⟨by (with_reducible repeat (first | apply Kd.R_alloc | apply Kd.R_drewN | apply Kd.R_drew)); exact Kd.R_mono HO417.out (fun _ hk => hk.2)⟩, ⟨xblk⟩, ⟨xblk⟩, ⟨xbg⟩⟩
    ·replace c19 := Bool.eq_false_iff.mpr c19
     subst c19
     have H1 : (laws_FnDisk.j1 kj2 t410 true t406 t407 t414 t415) = some r := by rw [if_neg (show ¬ (false = true) by decide)] at H; exact H
     clear H
     have H := H1
     clear H1
     have H' := Aside0.mk H
     clear H
     have hnb23 := NB413_418.out
     have hnc23 := NB418_413.out
     have hcz24_0 : w14.cell? ⟨gb413, 0, none⟩ = some (.int .i64 t406) := (blk_cell BK413.out 0).trans rfl
     have hcz24_1 : w14.cell? ⟨gb413, 1, none⟩ = some (.slice Ao11 t407.length co11) := (blk_cell BK413.out 1).trans rfl
     have hfz24_0 := blk_frozen BK413.out 0
     have hfz24_1 := blk_frozen BK413.out 1
     go_wp2_with (first | ((with_reducible refine gate_callee (f := 47) rfl ?_); refine goesL_ (some 24) rfl rfl Try.func47 (by kernel_rfl) rfl #[.agg #[.int .i64 t406, .slice Ao11 t407.length co11]] rfl (by (try simp only [List.map_toArray, List.map_cons, List.map_nil]); first | done | rfl | (simp only [List.length_drop, List.length_take]; rfl)) ?_; (with_reducible refine (spec_DiskOk.calls kj2 t406 _ _ t407 false _ ?side1 ?side2 A18.out).mono ?_); (case side1 => refine (Kd.R_reads' (e := 81) (base := w.heap.size) (ok := fun k_ => (True ∧ some k_ ≠ (.slice Ao17 t415.length co17 : Value).ownBlock)) (n := t407.length) (c := co11) ?_).2.2; exact (by (with_reducible repeat (first | apply Kd.R_alloc | apply Kd.R_drewN | apply Kd.R_drew)); exact (Kd.R_mono (Kd.R_far (p := ⟨gb418, 1, none⟩) (Kd.R_far (p := ⟨gb418, 0, none⟩) (Kd.R_types HO409.out BK418.out (by decide)) (fun _ hk => hk.2) (.int .i64 t414)) (fun _ hk => hk.2) (.slice Ao17 t415.length co17)) (fun _ h_ => h_.1)))); (case side2 => exact (Kd.R_reads' HO409.out).2.1); rintro e w25 ⟨rfl, hb⟩; refine ⟨_, rfl, ?_⟩; replace HO409 := Aside0.mk (Kd.R_below (by (with_reducible repeat (first | apply Kd.R_alloc | apply Kd.R_drewN | apply Kd.R_drew)); exact (Kd.R_mono (Kd.R_far (p := ⟨gb418, 1, none⟩) (Kd.R_far (p := ⟨gb418, 0, none⟩) (Kd.R_types HO409.out BK418.out (by decide)) (fun _ hk => hk.2) (.int .i64 t414)) (fun _ hk => hk.2) (.slice Ao17 t415.length co17)) (fun _ h_ => h_.1))) hb); replace HO412 := Aside0.mk (Kd.R_below (by (with_reducible repeat (first | apply Kd.R_alloc | apply Kd.R_drewN | apply Kd.R_drew)); exact (Kd.R_mono (Kd.R_far (p := ⟨gb418, 1, none⟩) (Kd.R_far (p := ⟨gb418, 0, none⟩) (Kd.R_types HO412.out BK418.out (by decide)) (fun _ hk => hk.2) (.int .i64 t414)) (fun _ hk => hk.2) (.slice Ao17 t415.length co17)) (fun _ h_ => h_.1))) hb); replace HO417 := Aside0.mk (Kd.R_below (by (with_reducible repeat (first | apply Kd.R_alloc | apply Kd.R_drewN | apply Kd.R_drew)); exact (Kd.R_mono (Kd.R_far (p := ⟨gb418, 1, none⟩) (Kd.R_far (p := ⟨gb418, 0, none⟩) (Kd.R_types HO417.out BK418.out (by decide)) (fun _ hk => hk.2) (.int .i64 t414)) (fun _ hk => hk.2) (.slice Ao17 t415.length co17)) (fun _ h_ => h_.1))) hb); replace BK413 := Aside0.mk (blk_below (g := gb413) (o := .cells #[.int .i64 t406, .slice Ao11 t407.length co11] 63 (0, 0)) (by (with_reducible repeat (first | refine blk_drewN ?_ _ | refine blk_drew ?_ | refine blk_alloc ?_ _)); refine blk_far ?_ NB413_418.out _; (with_reducible repeat (first | refine blk_drewN ?_ _ | refine blk_drew ?_ | refine blk_alloc ?_ _)); refine blk_far ?_ NB413_418.out _; (with_reducible repeat (first | refine blk_drewN ?_ _ | refine blk_drew ?_ | refine blk_alloc ?_ _)); exact BK413.out) hb); replace BK418 := Aside0.mk (blk_below (g := gb418) (o := .cells #[.int .i64 t414, .slice Ao17 t415.length co17] 63 (0, 0)) (by (with_reducible repeat (first | refine blk_drewN ?_ _ | refine blk_drew ?_ | refine blk_alloc ?_ _)); refine blk_put (cs := #[.int .i64 t414, .slice none 0 0]) ?_ 1 _ rfl; (with_reducible repeat (first | refine blk_drewN ?_ _ | refine blk_drew ?_ | refine blk_alloc ?_ _)); refine blk_put (cs := #[.int .i64 0, .slice none 0 0]) ?_ 0 _ rfl; (with_reducible repeat (first | refine blk_drewN ?_ _ | refine blk_drew ?_ | refine blk_alloc ?_ _)); exact BK418.out) hb); replace HB := xbs hb; (try clear hb); (try clear hb2); (try clear hk); (try clear hi)))
     go_meet
     case rel => exact ⟨_, (true), (by first | rfl | (simp; done) | (simp [*]; done)), H', ⟨by have := HJ2.out; first | omega | exact Nat.le_refl _⟩, ⟨by (with_reducible repeat (first | apply Kd.R_alloc | apply Kd.R_drewN | apply Kd.R_drew)); exact HO412.out⟩, ⟨by (with_reducible repeat (first | apply Kd.R_alloc | apply Kd.R_drewN | apply Kd.R_drew)); exact Kd.R_mono HO409.out (fun _ hk => hk.2)⟩, ⟨by (with_reducible repeat (first | apply Kd.R_alloc | apply Kd.R_drewN | apply Kd.R_drew)); exact Kd.R_mono HO417.out (fun _ hk => hk.2)⟩, ⟨xblk⟩, ⟨xblk⟩, ⟨xbg⟩⟩
   case rest =>
    clear HC7
    try clear c1
    try clear c2
    try clear p2
    try clear c4
    try clear c9
    try clear c15
    try clear c19
    try clear c20
    try clear c23
    try clear hcz10_0
    try clear hcz10_1
    try clear hcz16_0
    try clear hcz16_1
    try clear hcz21_0
    try clear hcz21_1
    try clear hcz24_0
    try clear hcz24_1
    try clear hfz10_0
    try clear hfz10_1
    try clear hfz16_0
    try clear hfz16_1
    try clear hfz21_0
    try clear hfz21_1
    try clear hfz24_0
    try clear hfz24_1
    try clear p2
    obtain ⟨kq, x30_6, rfl, HA, HJ6, HO_4, HO_414001, HO_419001, BK413, BK418, HB⟩ := hcut
    cases kq with
    | zero => exact absurd HA.out (by simp [laws_FnDisk.j1])
    | succ kj6 =>
     have H := HA.out
     clear HA
     simp only [laws_FnDisk.j1] at H
     have HC26 := Aside0.mk H
     clear H
     go_upto_if 30 with (fail)
     go_cut [] (fun wc => ∃ (kq : Nat), Aside0 (laws_FnDisk.j2 kq t410 t406 t407 t414 t415 = some r) ∧ Aside0 (kq ≤ kj6) ∧ Aside0 (Kd.R (Kd.int .i64) 3 wc w.heap.size (fun _ => True) (.slice Ao12 t410.length co12) t410) ∧ Aside0 (Kd.R k81 81 wc w.heap.size (fun k_ => some k_ ≠ ((.slice Ao17 t415.length co17) : Value).ownBlock) (.slice Ao11 t407.length co11) t407) ∧ Aside0 (Kd.R k81 81 wc w.heap.size (fun k_ => some k_ ≠ ((.slice Ao11 t407.length co11) : Value).ownBlock) (.slice Ao17 t415.length co17) t415) ∧ Aside0 (wc.heap[gb413]? = some (.cells #[.int .i64 t406, (.slice Ao11 t407.length co11)] 63 (0, 0))) ∧ Aside0 (wc.heap[gb418]? = some (.cells #[.int .i64 t414, (.slice Ao17 t415.length co17)] 63 (0, 0))) ∧ Aside0 (Below w.heap.size w wc))
     case first =>
      have H := HC26.out
      clear HC26
      by_cases c27 : x30_6 = true
      ·subst c27
       have H1 : (if t414 = 0 then (some ((t415.length : Int) == 0)) else (some false)) = some r := by rw [if_pos rfl] at H; exact H
       clear H
       have H := H1
       clear H1
       by_cases c28 : t414 = 0
       ·rw [if_pos c28] at H
        have c28b0 : (t414 == 0) = true := beq_iff_eq.mpr c28
        have c28b1 : (t414 != 0) = false := bne_eq_false_iff_eq.mpr c28
        clear c28
        (first | rw [c28b0] | (simp only [i64_w, i32_w]; rw [c28b0]) | skip)
        obtain rfl := Option.some.inj H
        have hnb29 := NB418_413.out
        have hnc29 := NB413_418.out
        have hcz30_0 : wc.cell? ⟨gb418, 0, none⟩ = some (.int .i64 t414) := (blk_cell BK418.out 0).trans rfl
        have hcz30_1 : wc.cell? ⟨gb418, 1, none⟩ = some (.slice Ao17 t415.length co17) := (blk_cell BK418.out 1).trans rfl
        have hfz30_0 := blk_frozen BK418.out 0
        have hfz30_1 := blk_frozen BK418.out 1
        go_wp2
        go_ret
        exact ⟨by first | rfl | (simp [errW_none, errW_some] <;> rfl) | (simp [*, errW_none, errW_some] <;> rfl), xbg⟩
       ·rw [if_neg c28] at H
        have c28b0 : (t414 == 0) = false := beq_eq_false_iff_ne.mpr c28
        have c28b1 : (t414 != 0) = true := bne_iff_ne.mpr c28
        (first | rw [c28b0] | (simp only [i64_w, i32_w]; rw [c28b0]) | skip)
        obtain rfl := Option.some.inj H
        have hnb31 := NB418_413.out
        have hnc31 := NB413_418.out
        have hcz32_0 : wc.cell? ⟨gb418, 0, none⟩ = some (.int .i64 t414) := (blk_cell BK418.out 0).trans rfl
        have hcz32_1 : wc.cell? ⟨gb418, 1, none⟩ = some (.slice Ao17 t415.length co17) := (blk_cell BK418.out 1).trans rfl
        have hfz32_0 := blk_frozen BK418.out 0
        have hfz32_1 := blk_frozen BK418.out 1
        go_wp2
        go_ret
        exact ⟨by first | rfl | (simp [errW_none, errW_some] <;> rfl) | (simp [*, errW_none, errW_some] <;> rfl), xbg⟩
      ·replace c27 := Bool.eq_false_iff.mpr c27
       subst c27
       have H1 : (laws_FnDisk.j2 kj6 t410 t406 t407 t414 t415) = some r := by rw [if_neg (show ¬ (false = true) by decide)] at H; exact H
       clear H
       have H := H1
       clear H1
       have H' := Aside0.mk H
       clear H
       go_wp2
       go_meet
       case rel => exact ⟨_, H', ⟨by have := HJ2.out; have := HJ6.out; first | omega | exact Nat.le_refl _⟩, ⟨by (with_reducible repeat (first | apply Kd.R_alloc | apply Kd.R_drewN | apply Kd.R_drew)); exact HO_4.out⟩, ⟨by (with_reducible repeat (first | apply Kd.R_alloc | apply Kd.R_drewN | apply Kd.R_drew)); exact HO_414001.out⟩, ⟨by (with_reducible repeat (first | apply Kd.R_alloc | apply Kd.R_drewN | apply Kd.R_drew)); exact HO_419001.out⟩, ⟨xblk⟩, ⟨xblk⟩, ⟨xbg⟩⟩
     case rest =>
      clear HC26
      try clear c1
      try clear c2
      try clear p2
      try clear c3
      try clear c4
      try clear c9
      try clear c15
      try clear c19
      try clear c20
      try clear c23
      try clear c27
      try clear c28
      try clear c28b0
      try clear c28b1
      try clear c29
      try clear c31
      try clear hcz10_0
      try clear hcz10_1
      try clear hcz16_0
      try clear hcz16_1
      try clear hcz21_0
      try clear hcz21_1
      try clear hcz24_0
      try clear hcz24_1
      try clear hcz30_0
      try clear hcz30_1
      try clear hcz32_0
      try clear hcz32_1
      try clear hfz10_0
      try clear hfz10_1
      try clear hfz16_0
      try clear hfz16_1
      try clear hfz21_0
      try clear hfz21_1
      try clear hfz24_0
      try clear hfz24_1
      try clear hfz30_0
      try clear hfz30_1
      try clear hfz32_0
      try clear hfz32_1
      try clear p2
      obtain ⟨kq, HA, HJ25, HO_4, HO_414001, HO_419001, BK413, BK418, HB⟩ := hcut
      cases kq with
      | zero => exact absurd HA.out (by simp [laws_FnDisk.j2])
      | succ kj25 =>
       have H := HA.out
       clear HA
       simp only [laws_FnDisk.j2] at H
       have H' := Aside0.mk H
       clear H
       go_wp2
       go_loopg [6] kj25 (fun kq v6 w' => ∃ (x6_4 : Int), v6 = .int .i64 x6_4 ∧ Aside0 (laws_FnDisk.l0 kq t410 x6_4 t406 t407 t414 t415 = some r) ∧ Aside0 (kq ≤ kj25) ∧ Aside0 (Kd.R (Kd.int .i64) 3 w' w.heap.size (fun _ => True) (.slice Ao12 t410.length co12) t410) ∧ Aside0 (Kd.R k81 81 w' w.heap.size (fun k_ => some k_ ≠ ((.slice Ao17 t415.length co17) : Value).ownBlock) (.slice Ao11 t407.length co11) t407) ∧ Aside0 (Kd.R k81 81 w' w.heap.size (fun k_ => some k_ ≠ ((.slice Ao11 t407.length co11) : Value).ownBlock) (.slice Ao17 t415.length co17) t415) ∧ Aside0 (w'.heap[gb413]? = some (.cells #[.int .i64 t406, (.slice Ao11 t407.length co11)] 63 (0, 0))) ∧ Aside0 (w'.heap[gb418]? = some (.cells #[.int .i64 t414, (.slice Ao17 t415.length co17)] 63 (0, 0))) ∧ Aside0 (Below w.heap.size w w'))
       case atStart => exact ⟨(0), (by first | rfl | (simp; done) | (simp [*]; done)), H', ⟨Nat.le_refl _⟩, ⟨by (with_reducible repeat (first | apply Kd.R_alloc | apply Kd.R_drewN | apply Kd.R_drew)); exact HO_4.out⟩, ⟨by (with_reducible repeat (first | apply Kd.R_alloc | apply Kd.R_drewN | apply Kd.R_drew)); exact HO_414001.out⟩, ⟨by (with_reducible repeat (first | apply Kd.R_alloc | apply Kd.R_drewN | apply Kd.R_drew)); exact HO_419001.out⟩, ⟨xblk⟩, ⟨xblk⟩, ⟨xbg⟩⟩
       case round =>
        clear H'
        try clear c1
        try clear c2
        try clear p2
        try clear c3
        try clear c4
        try clear c9
        try clear c15
        try clear c19
        try clear c20
        try clear c23
        try clear c27
        try clear c28
        try clear c28b0
        try clear c28b1
        try clear c29
        try clear c31
        try clear hcz10_0
        try clear hcz10_1
        try clear hcz16_0
        try clear hcz16_1
        try clear hcz21_0
        try clear hcz21_1
        try clear hcz24_0
        try clear hcz24_1
        try clear hcz30_0
        try clear hcz30_1
        try clear hcz32_0
        try clear hcz32_1
        try clear hfz10_0
        try clear hfz10_1
        try clear hfz16_0
        try clear hfz16_1
        try clear hfz21_0
        try clear hfz21_1
        try clear hfz24_0
        try clear hfz24_1
        try clear hfz30_0
        try clear hfz30_1
        try clear hfz32_0
        try clear hfz32_1
        try clear p2
        obtain ⟨x6_4, rfl, HA, HK4, HO_4, HO_414001, HO_419001, BK413, BK418, HB⟩ := hrel
        cases gk with
        | zero => exact absurd HA.out (by simp [laws_FnDisk.l0])
        | succ k4 =>
         have H := HA.out
         clear HA
         simp only [laws_FnDisk.l0] at H
         have HC33 := Aside0.mk H
         clear H
         have hnb34 := NB413_418.out
         have hnc34 := NB418_413.out
         have hcz35_0 : wr.cell? ⟨gb413, 0, none⟩ = some (.int .i64 t406) := (blk_cell BK413.out 0).trans rfl
         have hcz35_1 : wr.cell? ⟨gb413, 1, none⟩ = some (.slice Ao11 t407.length co11) := (blk_cell BK413.out 1).trans rfl
         have hfz35_0 := blk_frozen BK413.out 0
         have hfz35_1 := blk_frozen BK413.out 1
         go_upto_if 44 with (fail)
         go_cut [] (fun wc => ∃ (kq : Nat), Aside0 (laws_FnDisk.j4 kq t410 x6_4 t406 t407 t414 t415 = some r) ∧ Aside0 (kq ≤ k4) ∧ Aside0 (Kd.R (Kd.int .i64) 3 wc w.heap.size (fun _ => True) (.slice Ao12 t410.length co12) t410) ∧ Aside0 (Kd.R k81 81 wc w.heap.size (fun k_ => some k_ ≠ ((.slice Ao17 t415.length co17) : Value).ownBlock) (.slice Ao11 t407.length co11) t407) ∧ Aside0 (Kd.R k81 81 wc w.heap.size (fun k_ => some k_ ≠ ((.slice Ao11 t407.length co11) : Value).ownBlock) (.slice Ao17 t415.length co17) t415) ∧ Aside0 (wc.heap[gb413]? = some (.cells #[.int .i64 t406, (.slice Ao11 t407.length co11)] 63 (0, 0))) ∧ Aside0 (wc.heap[gb418]? = some (.cells #[.int .i64 t414, (.slice Ao17 t415.length co17)] 63 (0, 0))) ∧ Aside0 (Below w.heap.size w wc))
         case first =>
          have H := HC33.out
          clear HC33
          by_cases c36 : x6_4 < (t407.length : Int)
          ·rw [if_pos c36] at H
           have c36b0 : decide (x6_4 < (t407.length : Int)) = true := decide_eq_true c36
           clear c36
           (first | rw [c36b0] | (simp only [i64_w, i32_w]; rw [c36b0]) | skip)
           have H' := Aside0.mk H
           clear H
           go_wp2
           go_meet
           case rel => exact ⟨_, H', ⟨by have := HJ2.out; have := HJ6.out; have := HJ25.out; have := HK4.out; first | omega | exact Nat.le_refl _⟩, ⟨by (with_reducible repeat (first | apply Kd.R_alloc | apply Kd.R_drewN | apply Kd.R_drew)); exact HO_4.out⟩, ⟨by (with_reducible repeat (first | apply Kd.R_alloc | apply Kd.R_drewN | apply Kd.R_drew)); exact HO_414001.out⟩, ⟨by (with_reducible repeat (first | apply Kd.R_alloc | apply Kd.R_drewN | apply Kd.R_drew)); exact HO_419001.out⟩, ⟨xblk⟩, ⟨xblk⟩, ⟨xbg⟩⟩
          ·rw [if_neg c36] at H
           have c36b0 : decide (x6_4 < (t407.length : Int)) = false := decide_eq_false c36
           clear c36
           (first | rw [c36b0] | (simp only [i64_w, i32_w]; rw [c36b0]) | skip)
           replace H := Option.bind_eq_some_iff.mp H
           obtain ⟨t420, A370, H⟩ := H
           replace H : (if t420 = true then ((impl_DiskSize.f k4 t414 t415).bind fun t421 => ((impl_DiskSize.f k4 t406 t407).bind fun t422 => (if t421 ≤ t422 then (some ((t415.length : Int) == (t407.length : Int))) else (some false)))) else (some false)) = some r := H
           have A37 := Aside0.mk A370
           clear A370
           by_cases c38 : t420 = true
           ·subst c38
            have H1 : ((impl_DiskSize.f k4 t414 t415).bind fun t421 => ((impl_DiskSize.f k4 t406 t407).bind fun t422 => (if t421 ≤ t422 then (some ((t415.length : Int) == (t407.length : Int))) else (some false)))) = some r := by rw [if_pos rfl] at H; exact H
            clear H
            have H := H1
            clear H1
            replace H := Option.bind_eq_some_iff.mp H
            obtain ⟨t421, A390, H⟩ := H
            replace H : ((impl_DiskSize.f k4 t406 t407).bind fun t422 => (if t421 ≤ t422 then (some ((t415.length : Int) == (t407.length : Int))) else (some false))) = some r := H
            have A39 := Aside0.mk A390
            clear A390
            replace H := Option.bind_eq_some_iff.mp H
            obtain ⟨t422, A400, H⟩ := H
            replace H : (if t421 ≤ t422 then (some ((t415.length : Int) == (t407.length : Int))) else (some false)) = some r := H
            have A40 := Aside0.mk A400
            clear A400
            by_cases c41 : t421 ≤ t422
            ·rw [if_pos c41] at H
             have c41b0 : decide (t421 ≤ t422) = true := decide_eq_true c41
             clear c41
             obtain rfl := Option.some.inj H
             try go_wp2
             replace HO_4 := Aside0.mk (Kd.R_drew HO_4.out)
             replace HO_414001 := Aside0.mk (Kd.R_drew HO_414001.out)
             replace HO_419001 := Aside0.mk (Kd.R_drew HO_419001.out)
             replace BK413 := Aside0.mk (blk_drew BK413.out)
             replace BK418 := Aside0.mk (blk_drew BK418.out)
             replace HB := Aside0.mk (below_drew1 HB.out)
             refine start_ (n := 19) (S := fun w' => w'.cell? ⟨gb418, 0, none⟩ = some (.int .i64 t414) ∧ w'.cell? ⟨gb418, 1, none⟩ = some (.slice Ao17 t415.length co17) ∧ w'.cell? ⟨gb413, 0, none⟩ = some (.int .i64 t406) ∧ w'.cell? ⟨gb413, 1, none⟩ = some (.slice Ao11 t407.length co11)) (ds := []) #[false, false, false, false, false, false, false, false, false, false, false, false, false, false, false, false, false, false, false] (by kernel_rfl) rfl rfl ⟨(blk_cell BK418.out 0).trans rfl, (blk_cell BK418.out 1).trans rfl, (blk_cell BK413.out 0).trans rfl, (blk_cell BK413.out 1).trans rfl⟩ (fun hHeld => ?_); refine with_tabW laws_FnDisk.tab19 laws_FnDisk.bits19 (fun HT_ HW_ => ?_)
             generalize wr.drew = w42 at HO_4 HO_414001 HO_419001 BK413 BK418 HB hHeld ⊢
             refine tk_ 0 116 (h := ?_)
             refine on_ 1 117 (h := fun K hK => ?_)
             refine goes_ Try.func49 (by kernel_rfl) rfl #[.agg #[.int .i64 t414, .slice Ao17 t415.length co17]] (by rfl) rfl rfl (by (try simp only [List.map_toArray, List.map_cons, List.map_nil]); first | done | rfl | (simp only [List.length_drop, List.length_take]; rfl)) ?_
             with_reducible refine (impl_DiskOk.calls k4 t414 _ _ t415 true _ ?side1 ?side2 A37.out).mono ?_
             (case side1 => repeat (first | exact (Kd.R_reads' HO_419001.out).2.2 | (with_reducible refine Kd.C_alloc ?_ _) | (with_reducible refine Kd.C_drewN ?_ _) | (with_reducible refine Kd.C_drew ?_)))
             (case side2 => exact (Kd.R_reads' HO_419001.out).2.1)
             rintro e w43 ⟨rfl, hb⟩
             refine ⟨_, rfl, ?_⟩
             replace HO_4 := Aside0.mk (Kd.R_below (by (with_reducible repeat (first | apply Kd.R_alloc | apply Kd.R_drewN | apply Kd.R_drew)); exact HO_4.out) hb)
             replace HO_414001 := Aside0.mk (Kd.R_below (by (with_reducible repeat (first | apply Kd.R_alloc | apply Kd.R_drewN | apply Kd.R_drew)); exact HO_414001.out) hb)
             replace HO_419001 := Aside0.mk (Kd.R_below (by (with_reducible repeat (first | apply Kd.R_alloc | apply Kd.R_drewN | apply Kd.R_drew)); exact HO_419001.out) hb)
             replace BK413 := xbb BK413 hb
             replace BK418 := xbb BK418 hb
             replace HB := xbs hb
             (try clear hb); (try clear hb2); (try clear hk); (try clear hi)
             refine hK.out _ _ ⟨(blk_cell BK418.out 0).trans rfl, (blk_cell BK418.out 1).trans rfl, (blk_cell BK413.out 0).trans rfl, (blk_cell BK413.out 1).trans rfl⟩ (fun hHeld => ?_)
             clear hK K
             refine norm_ (a' := ?_) ?_ ?_
             rotate_left
             ·show Act.put _ (some 117) _ = _
              simp only [Act.put, List.setIfInBounds_toArray, List.set_cons_zero, List.set_cons_succ, i64_w, i32_w]
              rfl
             refine pv_ 2 118 (h := ?_)
             refine tk_ 3 119 (h := ?_)
             refine tk_ 5 121 (h := ?_)
             refine on_ 4 120 (h := fun K hK => ?_)
             refine goes_ Try.func50 (by kernel_rfl) rfl #[.agg #[.int .i64 t414, .slice Ao17 t415.length co17]] (by rfl) rfl rfl (by (try simp only [List.map_toArray, List.map_cons, List.map_nil]); first | done | rfl | (simp only [List.length_drop, List.length_take]; rfl)) ?_
             with_reducible refine (impl_DiskSize.calls k4 t414 _ _ t415 t421 _ ?side1 ?side2 A39.out).mono ?_
             (case side1 => repeat (first | exact (Kd.R_reads' HO_419001.out).2.2 | (with_reducible refine Kd.C_alloc ?_ _) | (with_reducible refine Kd.C_drewN ?_ _) | (with_reducible refine Kd.C_drew ?_)))
             (case side2 => exact (Kd.R_reads' HO_419001.out).2.1)
             rintro e w44 ⟨rfl, hb⟩
             refine ⟨_, rfl, ?_⟩
             replace HO_4 := Aside0.mk (Kd.R_below (by (with_reducible repeat (first | apply Kd.R_alloc | apply Kd.R_drewN | apply Kd.R_drew)); exact HO_4.out) hb)
             replace HO_414001 := Aside0.mk (Kd.R_below (by (with_reducible repeat (first | apply Kd.R_alloc | apply Kd.R_drewN | apply Kd.R_drew)); exact HO_414001.out) hb)
             replace HO_419001 := Aside0.mk (Kd.R_below (by (with_reducible repeat (first | apply Kd.R_alloc | apply Kd.R_drewN | apply Kd.R_drew)); exact HO_419001.out) hb)
             replace BK413 := xbb BK413 hb
             replace BK418 := xbb BK418 hb
             replace HB := xbs hb
             (try clear hb); (try clear hb2); (try clear hk); (try clear hi)
             refine hK.out _ _ ⟨(blk_cell BK418.out 0).trans rfl, (blk_cell BK418.out 1).trans rfl, (blk_cell BK413.out 0).trans rfl, (blk_cell BK413.out 1).trans rfl⟩ (fun hHeld => ?_)
             clear hK K
             refine norm_ (a' := ?_) ?_ ?_
             rotate_left
             ·show Act.put _ (some 120) _ = _
              simp only [Act.put, List.setIfInBounds_toArray, List.set_cons_zero, List.set_cons_succ, i64_w, i32_w]
              rfl
             refine on_ 6 122 (h := fun K hK => ?_)
             refine goes_ Try.func50 (by kernel_rfl) rfl #[.agg #[.int .i64 t406, .slice Ao11 t407.length co11]] (by rfl) rfl rfl (by (try simp only [List.map_toArray, List.map_cons, List.map_nil]); first | done | rfl | (simp only [List.length_drop, List.length_take]; rfl)) ?_
             with_reducible refine (impl_DiskSize.calls k4 t406 _ _ t407 t422 _ ?side1 ?side2 A40.out).mono ?_
             (case side1 => repeat (first | exact (Kd.R_reads' HO_414001.out).2.2 | (with_reducible refine Kd.C_alloc ?_ _) | (with_reducible refine Kd.C_drewN ?_ _) | (with_reducible refine Kd.C_drew ?_)))
             (case side2 => exact (Kd.R_reads' HO_414001.out).2.1)
             rintro e w45 ⟨rfl, hb⟩
             refine ⟨_, rfl, ?_⟩
             replace HO_4 := Aside0.mk (Kd.R_below (by (with_reducible repeat (first | apply Kd.R_alloc | apply Kd.R_drewN | apply Kd.R_drew)); exact HO_4.out) hb)
             replace HO_414001 := Aside0.mk (Kd.R_below (by (with_reducible repeat (first | apply Kd.R_alloc | apply Kd.R_drewN | apply Kd.R_drew)); exact HO_414001.out) hb)
             replace HO_419001 := Aside0.mk (Kd.R_below (by (with_reducible repeat (first | apply Kd.R_alloc | apply Kd.R_drewN | apply Kd.R_drew)); exact HO_419001.out) hb)
             replace BK413 := xbb BK413 hb
             replace BK418 := xbb BK418 hb
             replace HB := xbs hb
             (try clear hb); (try clear hb2); (try clear hk); (try clear hi)
             refine hK.out _ _ ⟨(blk_cell BK418.out 0).trans rfl, (blk_cell BK418.out 1).trans rfl, (blk_cell BK413.out 0).trans rfl, (blk_cell BK413.out 1).trans rfl⟩ (fun hHeld => ?_)
             clear hK K
             refine norm_ (a' := ?_) ?_ ?_
             rotate_left
             ·show Act.put _ (some 122) _ = _
              simp only [Act.put, List.setIfInBounds_toArray, List.set_cons_zero, List.set_cons_succ, i64_w, i32_w]
              rfl
             refine pv_ 7 123 (h := ?_)
             refine pv_ 8 124 (h := ?_)
             refine pv_ 9 125 (h := ?_)
             refine pv_ 10 126 (h := ?_)
             refine pv_ 13 129 (h := ?_)
             refine tk_ 11 127 (h := ?_)
             refine pv_ 12 128 (h := ?_)
             refine tk_ 14 130 (h := ?_)
             refine pv_ 15 131 (h := ?_)
             refine pv_ 16 132 (h := ?_)
             refine pv_ 17 133 (h := ?_)
             refine pv_ 18 2 (h := ?_)
             refine done_ (done_of HT_.out (by kernel_rfl)) ?_
             try go_wp2
             go_ret
             exact ⟨by first | rfl | (simp [errW_none, errW_some] <;> rfl) | (simp [*, errW_none, errW_some] <;> rfl), xbg⟩
            ·rw [if_neg c41] at H
             have c41b0 : decide (t421 ≤ t422) = false := decide_eq_false c41
             clear c41
             obtain rfl := Option.some.inj H
             try go_wp2
             replace HO_4 := Aside0.mk (Kd.R_drew HO_4.out)
             replace HO_414001 := Aside0.mk (Kd.R_drew HO_414001.out)
             replace HO_419001 := Aside0.mk (Kd.R_drew HO_419001.out)
             replace BK413 := Aside0.mk (blk_drew BK413.out)
             replace BK418 := Aside0.mk (blk_drew BK418.out)
             replace HB := Aside0.mk (below_drew1 HB.out)
             refine start_ (n := 19) (S := fun w' => w'.cell? ⟨gb418, 0, none⟩ = some (.int .i64 t414) ∧ w'.cell? ⟨gb418, 1, none⟩ = some (.slice Ao17 t415.length co17) ∧ w'.cell? ⟨gb413, 0, none⟩ = some (.int .i64 t406) ∧ w'.cell? ⟨gb413, 1, none⟩ = some (.slice Ao11 t407.length co11)) (ds := []) #[false, false, false, false, false, false, false, false, false, false, false, false, false, false, false, false, false, false, false] (by kernel_rfl) rfl rfl ⟨(blk_cell BK418.out 0).trans rfl, (blk_cell BK418.out 1).trans rfl, (blk_cell BK413.out 0).trans rfl, (blk_cell BK413.out 1).trans rfl⟩ (fun hHeld => ?_); refine with_tabW laws_FnDisk.tab19 laws_FnDisk.bits19 (fun HT_ HW_ => ?_)
             generalize wr.drew = w46 at HO_4 HO_414001 HO_419001 BK413 BK418 HB hHeld ⊢
             refine tk_ 0 116 (h := ?_)
             refine on_ 1 117 (h := fun K hK => ?_)
             refine goes_ Try.func49 (by kernel_rfl) rfl #[.agg #[.int .i64 t414, .slice Ao17 t415.length co17]] (by rfl) rfl rfl (by (try simp only [List.map_toArray, List.map_cons, List.map_nil]); first | done | rfl | (simp only [List.length_drop, List.length_take]; rfl)) ?_
             with_reducible refine (impl_DiskOk.calls k4 t414 _ _ t415 true _ ?side1 ?side2 A37.out).mono ?_
             (case side1 => repeat (first | exact (Kd.R_reads' HO_419001.out).2.2 | (with_reducible refine Kd.C_alloc ?_ _) | (with_reducible refine Kd.C_drewN ?_ _) | (with_reducible refine Kd.C_drew ?_)))
             (case side2 => exact (Kd.R_reads' HO_419001.out).2.1)
             rintro e w47 ⟨rfl, hb⟩
             refine ⟨_, rfl, ?_⟩
             replace HO_4 := Aside0.mk (Kd.R_below (by (with_reducible repeat (first | apply Kd.R_alloc | apply Kd.R_drewN | apply Kd.R_drew)); exact HO_4.out) hb)
             replace HO_414001 := Aside0.mk (Kd.R_below (by (with_reducible repeat (first | apply Kd.R_alloc | apply Kd.R_drewN | apply Kd.R_drew)); exact HO_414001.out) hb)
             replace HO_419001 := Aside0.mk (Kd.R_below (by (with_reducible repeat (first | apply Kd.R_alloc | apply Kd.R_drewN | apply Kd.R_drew)); exact HO_419001.out) hb)
             replace BK413 := xbb BK413 hb
             replace BK418 := xbb BK418 hb
             replace HB := xbs hb
             (try clear hb); (try clear hb2); (try clear hk); (try clear hi)
             refine hK.out _ _ ⟨(blk_cell BK418.out 0).trans rfl, (blk_cell BK418.out 1).trans rfl, (blk_cell BK413.out 0).trans rfl, (blk_cell BK413.out 1).trans rfl⟩ (fun hHeld => ?_)
             clear hK K
             refine norm_ (a' := ?_) ?_ ?_
             rotate_left
             ·show Act.put _ (some 117) _ = _
              simp only [Act.put, List.setIfInBounds_toArray, List.set_cons_zero, List.set_cons_succ, i64_w, i32_w]
              rfl
             refine pv_ 2 118 (h := ?_)
             refine tk_ 3 119 (h := ?_)
             refine tk_ 5 121 (h := ?_)
             refine on_ 4 120 (h := fun K hK => ?_)
             refine goes_ Try.func50 (by kernel_rfl) rfl #[.agg #[.int .i64 t414, .slice Ao17 t415.length co17]] (by rfl) rfl rfl (by (try simp only [List.map_toArray, List.map_cons, List.map_nil]); first | done | rfl | (simp only [List.length_drop, List.length_take]; rfl)) ?_
             with_reducible refine (impl_DiskSize.calls k4 t414 _ _ t415 t421 _ ?side1 ?side2 A39.out).mono ?_
             (case side1 => repeat (first | exact (Kd.R_reads' HO_419001.out).2.2 | (with_reducible refine Kd.C_alloc ?_ _) | (with_reducible refine Kd.C_drewN ?_ _) | (with_reducible refine Kd.C_drew ?_)))
             (case side2 => exact (Kd.R_reads' HO_419001.out).2.1)
             rintro e w48 ⟨rfl, hb⟩
             refine ⟨_, rfl, ?_⟩
             replace HO_4 := Aside0.mk (Kd.R_below (by (with_reducible repeat (first | apply Kd.R_alloc | apply Kd.R_drewN | apply Kd.R_drew)); exact HO_4.out) hb)
             replace HO_414001 := Aside0.mk (Kd.R_below (by (with_reducible repeat (first | apply Kd.R_alloc | apply Kd.R_drewN | apply Kd.R_drew)); exact HO_414001.out) hb)
             replace HO_419001 := Aside0.mk (Kd.R_below (by (with_reducible repeat (first | apply Kd.R_alloc | apply Kd.R_drewN | apply Kd.R_drew)); exact HO_419001.out) hb)
             replace BK413 := xbb BK413 hb
             replace BK418 := xbb BK418 hb
             replace HB := xbs hb
             (try clear hb); (try clear hb2); (try clear hk); (try clear hi)
             refine hK.out _ _ ⟨(blk_cell BK418.out 0).trans rfl, (blk_cell BK418.out 1).trans rfl, (blk_cell BK413.out 0).trans rfl, (blk_cell BK413.out 1).trans rfl⟩ (fun hHeld => ?_)
             clear hK K
             refine norm_ (a' := ?_) ?_ ?_
             rotate_left
             ·show Act.put _ (some 120) _ = _
              simp only [Act.put, List.setIfInBounds_toArray, List.set_cons_zero, List.set_cons_succ, i64_w, i32_w]
              rfl
             refine on_ 6 122 (h := fun K hK => ?_)
             refine goes_ Try.func50 (by kernel_rfl) rfl #[.agg #[.int .i64 t406, .slice Ao11 t407.length co11]] (by rfl) rfl rfl (by (try simp only [List.map_toArray, List.map_cons, List.map_nil]); first | done | rfl | (simp only [List.length_drop, List.length_take]; rfl)) ?_
             with_reducible refine (impl_DiskSize.calls k4 t406 _ _ t407 t422 _ ?side1 ?side2 A40.out).mono ?_
             (case side1 => repeat (first | exact (Kd.R_reads' HO_414001.out).2.2 | (with_reducible refine Kd.C_alloc ?_ _) | (with_reducible refine Kd.C_drewN ?_ _) | (with_reducible refine Kd.C_drew ?_)))
             (case side2 => exact (Kd.R_reads' HO_414001.out).2.1)
             rintro e w49 ⟨rfl, hb⟩
             refine ⟨_, rfl, ?_⟩
             replace HO_4 := Aside0.mk (Kd.R_below (by (with_reducible repeat (first | apply Kd.R_alloc | apply Kd.R_drewN | apply Kd.R_drew)); exact HO_4.out) hb)
             replace HO_414001 := Aside0.mk (Kd.R_below (by (with_reducible repeat (first | apply Kd.R_alloc | apply Kd.R_drewN | apply Kd.R_drew)); exact HO_414001.out) hb)
             replace HO_419001 := Aside0.mk (Kd.R_below (by (with_reducible repeat (first | apply Kd.R_alloc | apply Kd.R_drewN | apply Kd.R_drew)); exact HO_419001.out) hb)
             replace BK413 := xbb BK413 hb
             replace BK418 := xbb BK418 hb
             replace HB := xbs hb
             (try clear hb); (try clear hb2); (try clear hk); (try clear hi)
             refine hK.out _ _ ⟨(blk_cell BK418.out 0).trans rfl, (blk_cell BK418.out 1).trans rfl, (blk_cell BK413.out 0).trans rfl, (blk_cell BK413.out 1).trans rfl⟩ (fun hHeld => ?_)
             clear hK K
             refine norm_ (a' := ?_) ?_ ?_
             rotate_left
             ·show Act.put _ (some 122) _ = _
              simp only [Act.put, List.setIfInBounds_toArray, List.set_cons_zero, List.set_cons_succ, i64_w, i32_w]
              rfl
             refine pv_ 7 123 (h := ?_)
             refine pv_ 8 124 (h := ?_)
             refine pv_ 9 125 (h := ?_)
             refine pu_ 10 126 (h := ?_)
             refine pu_ 11 127 (h := ?_)
             refine pu_ 12 128 (h := ?_)
             refine pu_ 13 129 (h := ?_)
             refine pu_ 14 130 (h := ?_)
             refine pu_ 15 131 (h := ?_)
             refine pu_ 16 132 (h := ?_)
             refine pv_ 17 133 (h := ?_)
             refine pv_ 18 2 (h := ?_)
             refine done_ (done_of HT_.out (by kernel_rfl)) ?_
             try go_wp2
             go_ret
             exact ⟨by first | rfl | (simp [errW_none, errW_some] <;> rfl) | (simp [*, errW_none, errW_some] <;> rfl), xbg⟩
           ·replace c38 := Bool.eq_false_iff.mpr c38
            subst c38
            have H1 : (some false) = some r := by rw [if_neg (show ¬ (false = true) by decide)] at H; exact H
            clear H
            have H := H1
            clear H1
            obtain rfl := Option.some.inj H
            try go_wp2
            replace HO_4 := Aside0.mk (Kd.R_drew HO_4.out)
            replace HO_414001 := Aside0.mk (Kd.R_drew HO_414001.out)
            replace HO_419001 := Aside0.mk (Kd.R_drew HO_419001.out)
            replace BK413 := Aside0.mk (blk_drew BK413.out)
            replace BK418 := Aside0.mk (blk_drew BK418.out)
            replace HB := Aside0.mk (below_drew1 HB.out)
            refine start_ (n := 19) (S := fun w' => w'.cell? ⟨gb418, 0, none⟩ = some (.int .i64 t414) ∧ w'.cell? ⟨gb418, 1, none⟩ = some (.slice Ao17 t415.length co17)) (ds := []) #[false, false, false, false, false, false, false, false, false, false, false, false, false, false, false, false, false, false, false] (by kernel_rfl) rfl rfl ⟨(blk_cell BK418.out 0).trans rfl, (blk_cell BK418.out 1).trans rfl⟩ (fun hHeld => ?_); refine with_tabW laws_FnDisk.tab19 laws_FnDisk.bits19 (fun HT_ HW_ => ?_)
            generalize wr.drew = w50 at HO_4 HO_414001 HO_419001 BK413 BK418 HB hHeld ⊢
            refine tk_ 0 116 (h := ?_)
            refine on_ 1 117 (h := fun K hK => ?_)
            refine goes_ Try.func49 (by kernel_rfl) rfl #[.agg #[.int .i64 t414, .slice Ao17 t415.length co17]] (by rfl) rfl rfl (by (try simp only [List.map_toArray, List.map_cons, List.map_nil]); first | done | rfl | (simp only [List.length_drop, List.length_take]; rfl)) ?_
            with_reducible refine (impl_DiskOk.calls k4 t414 _ _ t415 false _ ?side1 ?side2 A37.out).mono ?_
            (case side1 => repeat (first | exact (Kd.R_reads' HO_419001.out).2.2 | (with_reducible refine Kd.C_alloc ?_ _) | (with_reducible refine Kd.C_drewN ?_ _) | (with_reducible refine Kd.C_drew ?_)))
            (case side2 => exact (Kd.R_reads' HO_419001.out).2.1)
            rintro e w51 ⟨rfl, hb⟩
            refine ⟨_, rfl, ?_⟩
            replace HO_4 := Aside0.mk (Kd.R_below (by (with_reducible repeat (first | apply Kd.R_alloc | apply Kd.R_drewN | apply Kd.R_drew)); exact HO_4.out) hb)
            replace HO_414001 := Aside0.mk (Kd.R_below (by (with_reducible repeat (first | apply Kd.R_alloc | apply Kd.R_drewN | apply Kd.R_drew)); exact HO_414001.out) hb)
            replace HO_419001 := Aside0.mk (Kd.R_below (by (with_reducible repeat (first | apply Kd.R_alloc | apply Kd.R_drewN | apply Kd.R_drew)); exact HO_419001.out) hb)
            replace BK413 := xbb BK413 hb
            replace BK418 := xbb BK418 hb
            replace HB := xbs hb
            (try clear hb); (try clear hb2); (try clear hk); (try clear hi)
            refine hK.out _ _ ⟨(blk_cell BK418.out 0).trans rfl, (blk_cell BK418.out 1).trans rfl⟩ (fun hHeld => ?_)
            clear hK K
            refine norm_ (a' := ?_) ?_ ?_
            rotate_left
            ·show Act.put _ (some 117) _ = _
             simp only [Act.put, List.setIfInBounds_toArray, List.set_cons_zero, List.set_cons_succ, i64_w, i32_w]
             rfl
            refine pv_ 2 118 (h := ?_)
            refine pu_ 3 119 (h := ?_)
            refine pu_ 4 120 (h := ?_)
            refine pu_ 5 121 (h := ?_)
            refine pu_ 6 122 (h := ?_)
            refine pu_ 7 123 (h := ?_)
            refine pv_ 8 124 (h := ?_)
            refine pv_ 9 125 (h := ?_)
            refine pu_ 10 126 (h := ?_)
            refine pu_ 11 127 (h := ?_)
            refine pu_ 12 128 (h := ?_)
            refine pu_ 13 129 (h := ?_)
            refine pu_ 14 130 (h := ?_)
            refine pu_ 15 131 (h := ?_)
            refine pu_ 16 132 (h := ?_)
            refine pv_ 17 133 (h := ?_)
            refine pv_ 18 2 (h := ?_)
            refine done_ (done_of HT_.out (by kernel_rfl)) ?_
            try go_wp2
            go_ret
            exact ⟨by first | rfl | (simp [errW_none, errW_some] <;> rfl) | (simp [*, errW_none, errW_some] <;> rfl), xbg⟩
         case rest =>
          clear HC33
          try clear p2
          try clear c3
          try clear c4
          try clear c5
          try clear c38
          try clear c41
          try clear c41b0
          try clear c49
          try clear c50
          obtain ⟨kq, HA, HJ32, HO_4, HO_414001, HO_419001, BK413, BK418, HB⟩ := hcut
          cases kq with
          | zero => exact absurd HA.out (by simp [laws_FnDisk.j4])
          | succ kj32 =>
           have H := HA.out
           clear HA
           simp only [laws_FnDisk.j4] at H
           by_cases c52 : 0 ≤ x6_4
           ·rw [if_pos c52] at H
            have c52b0 : decide (0 ≤ x6_4) = true := decide_eq_true c52
            clear c52
            by_cases c53 : x6_4 < (t407.length : Int)
            ·rw [if_pos c53] at H
             have c53b0 : decide (x6_4 < (t407.length : Int)) = true := decide_eq_true c53
             clear c53
             replace H := Option.bind_eq_some_iff.mp H
             obtain ⟨⟨t425, t426⟩, A540, H⟩ := H
             replace H : (if ((rd_T81 t407 x6_4).f1).size + ((rd_T81 t407 x6_4).f2).size ≤ 9223372036854775807 then (if t426 = true then (if (t425.size : Int) < (((rd_T81 t407 x6_4).f1).size : Int) then (laws_FnDisk.j5 kj32 t410 x6_4 (((rd_T81 t407 x6_4).f1) ++ ((rd_T81 t407 x6_4).f2)) true t406 t407 t414 t415 ((rd_T81 t407 x6_4).f0) ((rd_T81 t407 x6_4).f1) ((rd_T81 t407 x6_4).f2)) else (if (t425.size : Int) > ((((rd_T81 t407 x6_4).f1) ++ ((rd_T81 t407 x6_4).f2)).size : Int) then (laws_FnDisk.j5 kj32 t410 x6_4 (((rd_T81 t407 x6_4).f1) ++ ((rd_T81 t407 x6_4).f2)) true t406 t407 t414 t415 ((rd_T81 t407 x6_4).f0) ((rd_T81 t407 x6_4).f1) ((rd_T81 t407 x6_4).f2)) else (if 0 ≤ (t425.size : Int) then (if (t425.size : Int) ≤ ((((rd_T81 t407 x6_4).f1) ++ ((rd_T81 t407 x6_4).f2)).size : Int) then (laws_FnDisk.j5 kj32 t410 x6_4 (((rd_T81 t407 x6_4).f1) ++ ((rd_T81 t407 x6_4).f2)) (((((rd_T81 t407 x6_4).f1) ++ ((rd_T81 t407 x6_4).f2)).extract 0 ((t425.size : Int) : Int).toNat).toList != t425.toList) t406 t407 t414 t415 ((rd_T81 t407 x6_4).f0) ((rd_T81 t407 x6_4).f1) ((rd_T81 t407 x6_4).f2)) else (none)) else (none)))) else (laws_FnDisk.j5 kj32 t410 x6_4 (((rd_T81 t407 x6_4).f1) ++ ((rd_T81 t407 x6_4).f2)) true t406 t407 t414 t415 ((rd_T81 t407 x6_4).f0) ((rd_T81 t407 x6_4).f1) ((rd_T81 t407 x6_4).f2))) else (none)) = some r := H
             have A54 := Aside0.mk A540
             clear A540
             by_cases c55 : ((rd_T81 t407 x6_4).f1).size + ((rd_T81 t407 x6_4).f2).size ≤ 9223372036854775807
             ·rw [if_pos c55] at H
              have c55b0 := eq_true c55
              have c55b1 : decide (((rd_T81 t407 x6_4).f1).size + ((rd_T81 t407 x6_4).f2).size ≤ 9223372036854775807) = true := decide_eq_true c55
              try have c55b2 : (9223372036854775807 < ((rd_T81 t407 x6_4).f1).size + ((rd_T81 t407 x6_4).f2).size) = False := eq_false (Nat.not_lt.2 c55)
              have HC56 := Aside0.mk H
              clear H
              have hnb57 := NB413_418.out
              have hnc57 := NB418_413.out
              have hcz58_0 : wc.cell? ⟨gb413, 0, none⟩ = some (.int .i64 t406) := (blk_cell BK413.out 0).trans rfl
              have hcz58_1 : wc.cell? ⟨gb413, 1, none⟩ = some (.slice Ao11 t407.length co11) := (blk_cell BK413.out 1).trans rfl
              have hfz58_0 := blk_frozen BK413.out 0
              have hfz58_1 := blk_frozen BK413.out 1
              have p423 : 0 ≤ (x6_4 : Int) := of_decide_eq_true (by first | (with_reducible assumption) | assumption)
              have q423 : x6_4 < (t407.length : Int) := of_decide_eq_true (by first | (with_reducible assumption) | assumption)
              obtain ⟨ad423, e423, hx423_0, hx423_1, hx423_2⟩ := at_T81 (Kd.R_reads' HO_414001.out).2.2 x6_4 p423 q423
              cases e423
              replace p423 := eq_true p423
              replace q423 := eq_true q423
              go_upto_region 13 with (first | ((with_reducible refine gate_dst (N := 7) rfl ?_); (try (refine gate_guard (by rfl) ?_; dsimp only)); refine box_event ?hg (N := 7) ?hd (cs := #[.int .i64 0, .string (⟨#[]⟩ : ByteArray), .string (⟨#[]⟩ : ByteArray)]) (t := 81) ?hr ?_; (case hd => rfl); (case hg => rfl); (case hr => first | (go_simp; done) | (go_simp; rfl)); intro gb424 hg w59 hbox hb; replace HO_4 := Aside0.mk (Kd.R_below (by (with_reducible repeat (first | apply Kd.R_alloc | apply Kd.R_drewN | apply Kd.R_drew)); exact HO_4.out) hb); replace HO_414001 := Aside0.mk (Kd.R_below (Kd.R_elderB (by (with_reducible repeat (first | apply Kd.R_alloc | apply Kd.R_drewN | apply Kd.R_drew)); exact HO_414001.out) gb424 (Nat.le_of_eq hg.symm)) hb); replace HO_419001 := Aside0.mk (Kd.R_below (Kd.R_elderB (by (with_reducible repeat (first | apply Kd.R_alloc | apply Kd.R_drewN | apply Kd.R_drew)); exact HO_419001.out) gb424 (Nat.le_of_eq hg.symm)) hb); have GW424 := Aside0.mk (xge hg); have GE424 := Aside0.mk (xge hg); replace HB := xbs hb; have NB413_424 := Aside0.mk ((by rw [hg]; exact Nat.ne_of_lt (blk_lt (g := gb413) (o := .cells #[.int .i64 t406, .slice (some ad423) t407.length co11] 63 (0, 0)) xblk) : gb413 ≠ gb424)); have NB424_413 := Aside0.mk ((by rw [hg]; exact Nat.ne_of_gt (blk_lt (g := gb413) (o := .cells #[.int .i64 t406, .slice (some ad423) t407.length co11] 63 (0, 0)) xblk) : gb424 ≠ gb413)); have NB418_424 := Aside0.mk ((by rw [hg]; exact Nat.ne_of_lt (blk_lt (g := gb418) (o := .cells #[.int .i64 t414, .slice Ao17 t415.length co17] 63 (0, 0)) xblk) : gb418 ≠ gb424)); have NB424_418 := Aside0.mk ((by rw [hg]; exact Nat.ne_of_gt (blk_lt (g := gb418) (o := .cells #[.int .i64 t414, .slice Ao17 t415.length co17] 63 (0, 0)) xblk) : gb424 ≠ gb418)); replace BK413 := xbb BK413 hb; replace BK418 := xbb BK418 hb; have BK424 := Aside0.mk (hbox); clear hb hbox hg; have hnb60 := NB424_413.out; have hnc60 := NB413_424.out; have hnb61 := NB424_418.out; have hnc61 := NB418_424.out; have hcz62_0 : w59.cell? ⟨gb424, 0, none⟩ = some (.int .i64 0) := (blk_cell BK424.out 0).trans rfl; have hcz62_1 : w59.cell? ⟨gb424, 1, none⟩ = some (.string (⟨#[]⟩ : ByteArray)) := (blk_cell BK424.out 1).trans rfl; have hcz62_2 : w59.cell? ⟨gb424, 2, none⟩ = some (.string (⟨#[]⟩ : ByteArray)) := (blk_cell BK424.out 2).trans rfl; have hfz62_0 := blk_frozen BK424.out 0; have hfz62_1 := blk_frozen BK424.out 1; have hfz62_2 := blk_frozen BK424.out 2; have hcz63_0 : w59.cell? ⟨gb418, 0, none⟩ = some (.int .i64 t414) := (blk_cell BK418.out 0).trans rfl; have hcz63_1 : w59.cell? ⟨gb418, 1, none⟩ = some (.slice Ao17 t415.length co17) := (blk_cell BK418.out 1).trans rfl; have hfz63_0 := blk_frozen BK418.out 0; have hfz63_1 := blk_frozen BK418.out 1) | ((with_reducible refine gate_callee (f := 48) rfl ?_); refine goesL_ (some 56) rfl rfl Try.func48 (by kernel_rfl) rfl #[.agg #[.int .i64 t414, .slice Ao17 t415.length co17], .int .i64 ((rd_T81 t407 x6_4).f0)] rfl (by (try simp only [List.map_toArray, List.map_cons, List.map_nil]); first | done | rfl | (simp only [List.length_drop, List.length_take]; rfl)) ?_; (with_reducible refine (impl_DiskRead.calls kj32 t414 _ _ t415 ((rd_T81 t407 x6_4).f0) t425 t426 _ ?side1 ?side2 A54.out).mono ?_); (case side1 => refine (Kd.R_reads' (e := 81) (base := w.heap.size) (ok := fun k_ => (some k_ ≠ (.slice (some ad423) t407.length co11 : Value).ownBlock ∧ k_ ≠ gb424)) (n := t415.length) (c := co17) ?_).2.2; exact (by (with_reducible repeat (first | apply Kd.R_alloc | apply Kd.R_drewN | apply Kd.R_drew)); exact (Kd.R_mono (Kd.R_far (p := ⟨gb424, 2, none⟩) (Kd.R_far (p := ⟨gb424, 1, none⟩) (Kd.R_far (p := ⟨gb424, 0, none⟩) (Kd.R_mono HO_419001.out (fun k_ hk => (⟨hk, hk.2⟩ : _ ∧ k_ ≠ gb424))) (fun _ hk => hk.2) (.int .i64 ((rd_T81 t407 x6_4).f0))) (fun _ hk => hk.2) (.string ((rd_T81 t407 x6_4).f1))) (fun _ hk => hk.2) (.string ((rd_T81 t407 x6_4).f2))) (fun _ h_ => h_.1)))); (case side2 => exact (Kd.R_reads' HO_419001.out).2.1); rintro e w64 ⟨rfl, hb⟩; refine ⟨_, rfl, ?_⟩; replace HO_4 := Aside0.mk (Kd.R_below (by (with_reducible repeat (first | apply Kd.R_alloc | apply Kd.R_drewN | apply Kd.R_drew)); exact (Kd.R_mono (Kd.R_far (p := ⟨gb424, 2, none⟩) (Kd.R_far (p := ⟨gb424, 1, none⟩) (Kd.R_far (p := ⟨gb424, 0, none⟩) (Kd.R_types HO_4.out BK424.out (by decide)) (fun _ hk => hk.2) (.int .i64 ((rd_T81 t407 x6_4).f0))) (fun _ hk => hk.2) (.string ((rd_T81 t407 x6_4).f1))) (fun _ hk => hk.2) (.string ((rd_T81 t407 x6_4).f2))) (fun _ h_ => h_.1))) hb); replace HO_414001 := Aside0.mk (Kd.R_below (by (with_reducible repeat (first | apply Kd.R_alloc | apply Kd.R_drewN | apply Kd.R_drew)); exact (Kd.R_mono (Kd.R_far (p := ⟨gb424, 2, none⟩) (Kd.R_far (p := ⟨gb424, 1, none⟩) (Kd.R_far (p := ⟨gb424, 0, none⟩) (Kd.R_mono HO_414001.out (fun k_ hk => (⟨hk, hk.2⟩ : _ ∧ k_ ≠ gb424))) (fun _ hk => hk.2) (.int .i64 ((rd_T81 t407 x6_4).f0))) (fun _ hk => hk.2) (.string ((rd_T81 t407 x6_4).f1))) (fun _ hk => hk.2) (.string ((rd_T81 t407 x6_4).f2))) (fun _ h_ => h_.1))) hb); replace HO_419001 := Aside0.mk (Kd.R_below (by (with_reducible repeat (first | apply Kd.R_alloc | apply Kd.R_drewN | apply Kd.R_drew)); exact (Kd.R_mono (Kd.R_far (p := ⟨gb424, 2, none⟩) (Kd.R_far (p := ⟨gb424, 1, none⟩) (Kd.R_far (p := ⟨gb424, 0, none⟩) (Kd.R_mono HO_419001.out (fun k_ hk => (⟨hk, hk.2⟩ : _ ∧ k_ ≠ gb424))) (fun _ hk => hk.2) (.int .i64 ((rd_T81 t407 x6_4).f0))) (fun _ hk => hk.2) (.string ((rd_T81 t407 x6_4).f1))) (fun _ hk => hk.2) (.string ((rd_T81 t407 x6_4).f2))) (fun _ h_ => h_.1))) hb); replace BK413 := Aside0.mk (blk_below (g := gb413) (o := .cells #[.int .i64 t406, .slice (some ad423) t407.length co11] 63 (0, 0)) (by (with_reducible repeat (first | refine blk_drewN ?_ _ | refine blk_drew ?_ | refine blk_alloc ?_ _)); refine blk_far ?_ NB413_424.out _; (with_reducible repeat (first | refine blk_drewN ?_ _ | refine blk_drew ?_ | refine blk_alloc ?_ _)); refine blk_far ?_ NB413_424.out _; (with_reducible repeat (first | refine blk_drewN ?_ _ | refine blk_drew ?_ | refine blk_alloc ?_ _)); refine blk_far ?_ NB413_424.out _; (with_reducible repeat (first | refine blk_drewN ?_ _ | refine blk_drew ?_ | refine blk_alloc ?_ _)); exact BK413.out) hb); replace BK418 := Aside0.mk (blk_below (g := gb418) (o := .cells #[.int .i64 t414, .slice Ao17 t415.length co17] 63 (0, 0)) (by (with_reducible repeat (first | refine blk_drewN ?_ _ | refine blk_drew ?_ | refine blk_alloc ?_ _)); refine blk_far ?_ NB418_424.out _; (with_reducible repeat (first | refine blk_drewN ?_ _ | refine blk_drew ?_ | refine blk_alloc ?_ _)); refine blk_far ?_ NB418_424.out _; (with_reducible repeat (first | refine blk_drewN ?_ _ | refine blk_drew ?_ | refine blk_alloc ?_ _)); refine blk_far ?_ NB418_424.out _; (with_reducible repeat (first | refine blk_drewN ?_ _ | refine blk_drew ?_ | refine blk_alloc ?_ _)); exact BK418.out) hb); replace BK424 := Aside0.mk (blk_below (g := gb424) (o := .cells #[.int .i64 ((rd_T81 t407 x6_4).f0), .string ((rd_T81 t407 x6_4).f1), .string ((rd_T81 t407 x6_4).f2)] 81 (0, 0)) (by (with_reducible repeat (first | refine blk_drewN ?_ _ | refine blk_drew ?_ | refine blk_alloc ?_ _)); refine blk_put (cs := #[.int .i64 ((rd_T81 t407 x6_4).f0), .string ((rd_T81 t407 x6_4).f1), .string (⟨#[]⟩ : ByteArray)]) ?_ 2 _ rfl; (with_reducible repeat (first | refine blk_drewN ?_ _ | refine blk_drew ?_ | refine blk_alloc ?_ _)); refine blk_put (cs := #[.int .i64 ((rd_T81 t407 x6_4).f0), .string (⟨#[]⟩ : ByteArray), .string (⟨#[]⟩ : ByteArray)]) ?_ 1 _ rfl; (with_reducible repeat (first | refine blk_drewN ?_ _ | refine blk_drew ?_ | refine blk_alloc ?_ _)); refine blk_put (cs := #[.int .i64 0, .string (⟨#[]⟩ : ByteArray), .string (⟨#[]⟩ : ByteArray)]) ?_ 0 _ rfl; (with_reducible repeat (first | refine blk_drewN ?_ _ | refine blk_drew ?_ | refine blk_alloc ?_ _)); exact BK424.out) hb); replace HB := xbs hb; (try clear hb); (try clear hb2); (try clear hk); (try clear hi); have hcz65_0 : w64.cell? ⟨gb424, 0, none⟩ = some (.int .i64 ((rd_T81 t407 x6_4).f0)) := (blk_cell BK424.out 0).trans rfl; have hcz65_1 : w64.cell? ⟨gb424, 1, none⟩ = some (.string ((rd_T81 t407 x6_4).f1)) := (blk_cell BK424.out 1).trans rfl; have hcz65_2 : w64.cell? ⟨gb424, 2, none⟩ = some (.string ((rd_T81 t407 x6_4).f2)) := (blk_cell BK424.out 2).trans rfl; have hfz65_0 := blk_frozen BK424.out 0; have hfz65_1 := blk_frozen BK424.out 1; have hfz65_2 := blk_frozen BK424.out 2))
              (try simp only [Act.put, List.setIfInBounds_toArray, List.set_cons_zero, List.set_cons_succ])
              go_cut [88] (fun v88 wc => ∃ (kq : Nat) (x88_55 : Bool), v88 = .bool x88_55 ∧ Aside0 (laws_FnDisk.j5 kq t410 x6_4 (((rd_T81 t407 x6_4).f1) ++ ((rd_T81 t407 x6_4).f2)) x88_55 t406 t407 t414 t415 ((rd_T81 t407 x6_4).f0) ((rd_T81 t407 x6_4).f1) ((rd_T81 t407 x6_4).f2) = some r) ∧ Aside0 (kq ≤ kj32) ∧ Aside0 (Kd.R (Kd.int .i64) 3 wc w.heap.size (fun _ => True) (.slice Ao12 t410.length co12) t410) ∧ Aside0 (Kd.R k81 81 wc w.heap.size (fun k_ => some k_ ≠ ((.slice Ao17 t415.length co17) : Value).ownBlock ∧ k_ ≠ gb424) (.slice (some ad423) t407.length co11) t407) ∧ Aside0 (Kd.R k81 81 wc w.heap.size (fun k_ => some k_ ≠ ((.slice (some ad423) t407.length co11) : Value).ownBlock ∧ k_ ≠ gb424) (.slice Ao17 t415.length co17) t415) ∧ Aside0 (wc.heap[gb413]? = some (.cells #[.int .i64 t406, (.slice (some ad423) t407.length co11)] 63 (0, 0))) ∧ Aside0 (wc.heap[gb418]? = some (.cells #[.int .i64 t414, (.slice Ao17 t415.length co17)] 63 (0, 0))) ∧ Aside0 (wc.heap[gb424]? = some (.cells #[.int .i64 ((rd_T81 t407 x6_4).f0), .string ((rd_T81 t407 x6_4).f1), .string ((rd_T81 t407 x6_4).f2)] 81 (0, 0))) ∧ Aside0 (Below w.heap.size w wc))
              case first =>
               have H := HC56.out
               clear HC56
               by_cases c66 : t426 = true
               ·subst c66
                have H1 : (if (t425.size : Int) < (((rd_T81 t407 x6_4).f1).size : Int) then (laws_FnDisk.j5 kj32 t410 x6_4 (((rd_T81 t407 x6_4).f1) ++ ((rd_T81 t407 x6_4).f2)) true t406 t407 t414 t415 ((rd_T81 t407 x6_4).f0) ((rd_T81 t407 x6_4).f1) ((rd_T81 t407 x6_4).f2)) else (if (t425.size : Int) > ((((rd_T81 t407 x6_4).f1) ++ ((rd_T81 t407 x6_4).f2)).size : Int) then (laws_FnDisk.j5 kj32 t410 x6_4 (((rd_T81 t407 x6_4).f1) ++ ((rd_T81 t407 x6_4).f2)) true t406 t407 t414 t415 ((rd_T81 t407 x6_4).f0) ((rd_T81 t407 x6_4).f1) ((rd_T81 t407 x6_4).f2)) else (if 0 ≤ (t425.size : Int) then (if (t425.size : Int) ≤ ((((rd_T81 t407 x6_4).f1) ++ ((rd_T81 t407 x6_4).f2)).size : Int) then (laws_FnDisk.j5 kj32 t410 x6_4 (((rd_T81 t407 x6_4).f1) ++ ((rd_T81 t407 x6_4).f2)) (((((rd_T81 t407 x6_4).f1) ++ ((rd_T81 t407 x6_4).f2)).extract 0 ((t425.size : Int) : Int).toNat).toList != t425.toList) t406 t407 t414 t415 ((rd_T81 t407 x6_4).f0) ((rd_T81 t407 x6_4).f1) ((rd_T81 t407 x6_4).f2)) else (none)) else (none)))) = some r := by rw [if_pos rfl] at H; exact H
                clear H
                have H := H1
                clear H1
                by_cases c67 : (t425.size : Int) < (((rd_T81 t407 x6_4).f1).size : Int)
                ·rw [if_pos c67] at H
                 have c67b0 : decide ((t425.size : Int) < (((rd_T81 t407 x6_4).f1).size : Int)) = true := decide_eq_true c67
                 have c67b1 : decide (t425.size < ((rd_T81 t407 x6_4).f1).size) = true := decide_eq_true (Int.ofNat_lt.mp c67)
                 clear c67
                 (first | rw [c67b0] | (simp only [i64_w, i32_w]; rw [c67b0]) | skip)
                 have H' := Aside0.mk H
                 clear H
                 have hnb68 := NB424_413.out
                 have hnc68 := NB413_424.out
                 have hnb69 := NB424_418.out
                 have hnc69 := NB418_424.out
                 have hcz70_0 : w64.cell? ⟨gb424, 0, none⟩ = some (.int .i64 ((rd_T81 t407 x6_4).f0)) := (blk_cell BK424.out 0).trans rfl
                 have hcz70_1 : w64.cell? ⟨gb424, 1, none⟩ = some (.string ((rd_T81 t407 x6_4).f1)) := (blk_cell BK424.out 1).trans rfl
                 have hcz70_2 : w64.cell? ⟨gb424, 2, none⟩ = some (.string ((rd_T81 t407 x6_4).f2)) := (blk_cell BK424.out 2).trans rfl
                 have hfz70_0 := blk_frozen BK424.out 0
                 have hfz70_1 := blk_frozen BK424.out 1
                 have hfz70_2 := blk_frozen BK424.out 2
                 go_wp2
                 go_meet
                 case rel => exact ⟨_, (true), (by first | rfl | (simp; done) | (simp [*]; done)), H', ⟨by have := HJ2.out; have := HJ6.out; have := HJ25.out; have := HK4.out; have := HJ32.out; first | omega | exact Nat.le_refl _⟩, ⟨by (with_reducible repeat (first | apply Kd.R_alloc | apply Kd.R_drewN | apply Kd.R_drew)); exact HO_4.out⟩, ⟨by (with_reducible repeat (first | apply Kd.R_alloc | apply Kd.R_drewN | apply Kd.R_drew)); exact HO_414001.out⟩, ⟨by (with_reducible repeat (first | apply Kd.R_alloc | apply Kd.R_drewN | apply Kd.R_drew)); exact HO_419001.out⟩, ⟨xblk⟩, ⟨xblk⟩, ⟨xblk⟩, ⟨xbg⟩⟩
                ·rw [if_neg c67] at H
                 have c67b0 : decide ((t425.size : Int) < (((rd_T81 t407 x6_4).f1).size : Int)) = false := decide_eq_false c67
                 have c67b1 : decide (t425.size < ((rd_T81 t407 x6_4).f1).size) = false := decide_eq_false (fun h => c67 (Int.ofNat_lt.mpr h))
                 clear c67
                 (first | rw [c67b0] | (simp only [i64_w, i32_w]; rw [c67b0]) | skip)
                 by_cases c71 : (t425.size : Int) > ((((rd_T81 t407 x6_4).f1) ++ ((rd_T81 t407 x6_4).f2)).size : Int)
                 ·rw [if_pos c71] at H
                  have c71b0 : decide (((((rd_T81 t407 x6_4).f1) ++ ((rd_T81 t407 x6_4).f2)).size : Int) < (t425.size : Int)) = true := decide_eq_true c71
                  have c71b1 : decide ((((rd_T81 t407 x6_4).f1) ++ ((rd_T81 t407 x6_4).f2)).size < t425.size) = true := decide_eq_true (Int.ofNat_lt.mp c71)
                  have c71s := c71
                  simp only [ByteArray.size_append, Int.natCast_add, gt_iff_lt] at c71s
                  have c71s0 := eq_true c71s
                  have c71s1 := decide_eq_true c71s
                  clear c71s
                  clear c71
                  have H' := Aside0.mk H
                  clear H
                  have hnb72 := NB424_413.out
                  have hnc72 := NB413_424.out
                  have hnb73 := NB424_418.out
                  have hnc73 := NB418_424.out
                  have hcz74_0 : w64.cell? ⟨gb424, 0, none⟩ = some (.int .i64 ((rd_T81 t407 x6_4).f0)) := (blk_cell BK424.out 0).trans rfl
                  have hcz74_1 : w64.cell? ⟨gb424, 1, none⟩ = some (.string ((rd_T81 t407 x6_4).f1)) := (blk_cell BK424.out 1).trans rfl
                  have hcz74_2 : w64.cell? ⟨gb424, 2, none⟩ = some (.string ((rd_T81 t407 x6_4).f2)) := (blk_cell BK424.out 2).trans rfl
                  have hfz74_0 := blk_frozen BK424.out 0
                  have hfz74_1 := blk_frozen BK424.out 1
                  have hfz74_2 := blk_frozen BK424.out 2
                  go_wp2
                  go_meet
                  case rel => exact ⟨_, (true), (by first | rfl | (simp; done) | (simp [*]; done)), H', ⟨by have := HJ2.out; have := HJ6.out; have := HJ25.out; have := HK4.out; have := HJ32.out; first | omega | exact Nat.le_refl _⟩, ⟨by (with_reducible repeat (first | apply Kd.R_alloc | apply Kd.R_drewN | apply Kd.R_drew)); exact HO_4.out⟩, ⟨by (with_reducible repeat (first | apply Kd.R_alloc | apply Kd.R_drewN | apply Kd.R_drew)); exact HO_414001.out⟩, ⟨by (with_reducible repeat (first | apply Kd.R_alloc | apply Kd.R_drewN | apply Kd.R_drew)); exact HO_419001.out⟩, ⟨xblk⟩, ⟨xblk⟩, ⟨xblk⟩, ⟨xbg⟩⟩
                 ·rw [if_neg c71] at H
                  have c71b0 : decide (((((rd_T81 t407 x6_4).f1) ++ ((rd_T81 t407 x6_4).f2)).size : Int) < (t425.size : Int)) = false := decide_eq_false c71
                  have c71b1 : decide ((((rd_T81 t407 x6_4).f1) ++ ((rd_T81 t407 x6_4).f2)).size < t425.size) = false := decide_eq_false (fun h => c71 (Int.ofNat_lt.mpr h))
                  have c71s := c71
                  simp only [ByteArray.size_append, Int.natCast_add, gt_iff_lt] at c71s
                  have c71s0 := eq_false c71s
                  have c71s1 := decide_eq_false c71s
                  clear c71s
                  clear c71
                  by_cases c75 : 0 ≤ (t425.size : Int)
                  ·rw [if_pos c75] at H
                   have c75b0 := eq_true c75
                   have c75b1 : decide (0 ≤ (t425.size : Int)) = true := decide_eq_true c75
                   clear c75
                   by_cases c76 : (t425.size : Int) ≤ ((((rd_T81 t407 x6_4).f1) ++ ((rd_T81 t407 x6_4).f2)).size : Int)
                   ·rw [if_pos c76] at H
                    have c76b0 := eq_true c76
                    have c76b1 : decide ((t425.size : Int) ≤ ((((rd_T81 t407 x6_4).f1) ++ ((rd_T81 t407 x6_4).f2)).size : Int)) = true := decide_eq_true c76
                    have H' := Aside0.mk H
                    clear H
                    have hnb77 := NB424_413.out
                    have hnc77 := NB413_424.out
                    have hnb78 := NB424_418.out
                    have hnc78 := NB418_424.out
                    have hcz79_0 : w64.cell? ⟨gb424, 0, none⟩ = some (.int .i64 ((rd_T81 t407 x6_4).f0)) := (blk_cell BK424.out 0).trans rfl
                    have hcz79_1 : w64.cell? ⟨gb424, 1, none⟩ = some (.string ((rd_T81 t407 x6_4).f1)) := (blk_cell BK424.out 1).trans rfl
                    have hcz79_2 : w64.cell? ⟨gb424, 2, none⟩ = some (.string ((rd_T81 t407 x6_4).f2)) := (blk_cell BK424.out 2).trans rfl
                    have hfz79_0 := blk_frozen BK424.out 0
                    have hfz79_1 := blk_frozen BK424.out 1
                    have hfz79_2 := blk_frozen BK424.out 2
                    go_wp2
                    go_meet
                    case rel => exact ⟨_, ((((((rd_T81 t407 x6_4).f1) ++ ((rd_T81 t407 x6_4).f2)).extract 0 ((t425.size : Int) : Int).toNat).toList != t425.toList)), (by first | rfl | (simp; done) | (simp [*]; done)), H', ⟨by have := HJ2.out; have := HJ6.out; have := HJ25.out; have := HK4.out; have := HJ32.out; first | omega | exact Nat.le_refl _⟩, ⟨by (with_reducible repeat (first | apply Kd.R_alloc | apply Kd.R_drewN | apply Kd.R_drew)); exact HO_4.out⟩, ⟨by (with_reducible repeat (first | apply Kd.R_alloc | apply Kd.R_drewN | apply Kd.R_drew)); exact HO_414001.out⟩, ⟨by (with_reducible repeat (first | apply Kd.R_alloc | apply Kd.R_drewN | apply Kd.R_drew)); exact HO_419001.out⟩, ⟨xblk⟩, ⟨xblk⟩, ⟨xblk⟩, ⟨xbg⟩⟩
                   ·rw [if_neg c76] at H
                    exact absurd H (by simp)
                  ·rw [if_neg c75] at H
                   exact absurd H (by simp)
               ·replace c66 := Bool.eq_false_iff.mpr c66
                subst c66
                have H1 : (laws_FnDisk.j5 kj32 t410 x6_4 (((rd_T81 t407 x6_4).f1) ++ ((rd_T81 t407 x6_4).f2)) true t406 t407 t414 t415 ((rd_T81 t407 x6_4).f0) ((rd_T81 t407 x6_4).f1) ((rd_T81 t407 x6_4).f2)) = some r := by rw [if_neg (show ¬ (false = true) by decide)] at H; exact H
                clear H
                have H := H1
                clear H1
                have H' := Aside0.mk H
                clear H
                go_wp2
                go_meet
                case rel => exact ⟨_, (true), (by first | rfl | (simp; done) | (simp [*]; done)), H', ⟨by have := HJ2.out; have := HJ6.out; have := HJ25.out; have := HK4.out; have := HJ32.out; first | omega | exact Nat.le_refl _⟩, ⟨by (with_reducible repeat (first | apply Kd.R_alloc | apply Kd.R_drewN | apply Kd.R_drew)); exact HO_4.out⟩, ⟨by (with_reducible repeat (first | apply Kd.R_alloc | apply Kd.R_drewN | apply Kd.R_drew)); exact HO_414001.out⟩, ⟨by (with_reducible repeat (first | apply Kd.R_alloc | apply Kd.R_drewN | apply Kd.R_drew)); exact HO_419001.out⟩, ⟨xblk⟩, ⟨xblk⟩, ⟨xblk⟩, ⟨xbg⟩⟩
              case rest =>
               clear HC56
               try clear p2
               try clear c3
               try clear c4
               try clear p4
               try clear q4
               try clear hx4
               try clear c5
               try clear c6
               try clear c7
               try clear c38
               try clear c41
               try clear c41b0
               try clear p42
               try clear q42
               try clear hx42
               try clear c48
               try clear c49
               try clear c50
               try clear c52
               try clear c52b0
               try clear c53
               try clear c53b0
               try clear c55
               try clear c55b0
               try clear c55b1
               try clear c55b2
               try clear c57
               try clear c60
               try clear c61
               try clear c66
               try clear c67
               try clear c67b0
               try clear c67b1
               try clear c68
               try clear c69
               try clear c71
               try clear c71b0
               try clear c71b1
               try clear c72
               try clear c73
               try clear c75
               try clear c75b0
               try clear c75b1
               try clear c76
               try clear c76b0
               try clear c76b1
               try clear c77
               try clear c78
               try clear hcz58_0
               try clear hcz58_1
               try clear hcz62_0
               try clear hcz62_1
               try clear hcz62_2
               try clear hcz63_0
               try clear hcz63_1
               try clear hcz65_0
               try clear hcz65_1
               try clear hcz65_2
               try clear hcz70_0
               try clear hcz70_1
               try clear hcz70_2
               try clear hcz74_0
               try clear hcz74_1
               try clear hcz74_2
               try clear hcz79_0
               try clear hcz79_1
               try clear hcz79_2
               try clear hfz58_0
               try clear hfz58_1
               try clear hfz62_0
               try clear hfz62_1
               try clear hfz62_2
               try clear hfz63_0
               try clear hfz63_1
               try clear hfz65_0
               try clear hfz65_1
               try clear hfz65_2
               try clear hfz70_0
               try clear hfz70_1
               try clear hfz70_2
               try clear hfz74_0
               try clear hfz74_1
               try clear hfz74_2
               try clear hfz79_0
               try clear hfz79_1
               try clear hfz79_2
               try clear hx423_0
               try clear hx423_1
               try clear hx423_2
               try clear p2
               try clear p423
               try clear q423
               obtain ⟨kq, x88_55, rfl, HA, HJ55, HO_4, HO_414001, HO_419001, BK413, BK418, BK424, HB⟩ := hcut
               cases kq with
               | zero => exact absurd HA.out (by simp [laws_FnDisk.j5])
               | succ kj55 =>
                have H := HA.out
                clear HA
                simp only [laws_FnDisk.j5] at H
                have HC80 := Aside0.mk H
                clear H
                go_upto_if 88 with (fail)
                go_cut [] (fun wc => ∃ (kq : Nat), Aside0 (laws_FnDisk.j6 kq t410 x6_4 (((rd_T81 t407 x6_4).f1) ++ ((rd_T81 t407 x6_4).f2)) t406 t407 t414 t415 ((rd_T81 t407 x6_4).f0) ((rd_T81 t407 x6_4).f1) ((rd_T81 t407 x6_4).f2) = some r) ∧ Aside0 (kq ≤ kj55) ∧ Aside0 (Kd.R (Kd.int .i64) 3 wc w.heap.size (fun _ => True) (.slice Ao12 t410.length co12) t410) ∧ Aside0 (Kd.R k81 81 wc w.heap.size (fun k_ => some k_ ≠ ((.slice Ao17 t415.length co17) : Value).ownBlock ∧ k_ ≠ gb424) (.slice (some ad423) t407.length co11) t407) ∧ Aside0 (Kd.R k81 81 wc w.heap.size (fun k_ => some k_ ≠ ((.slice (some ad423) t407.length co11) : Value).ownBlock ∧ k_ ≠ gb424) (.slice Ao17 t415.length co17) t415) ∧ Aside0 (wc.heap[gb413]? = some (.cells #[.int .i64 t406, (.slice (some ad423) t407.length co11)] 63 (0, 0))) ∧ Aside0 (wc.heap[gb418]? = some (.cells #[.int .i64 t414, (.slice Ao17 t415.length co17)] 63 (0, 0))) ∧ Aside0 (wc.heap[gb424]? = some (.cells #[.int .i64 ((rd_T81 t407 x6_4).f0), .string ((rd_T81 t407 x6_4).f1), .string ((rd_T81 t407 x6_4).f2)] 81 (0, 0))) ∧ Aside0 (Below w.heap.size w wc))
                case first =>
                 have H := HC80.out
                 clear HC80
                 by_cases c81 : x88_55 = true
                 ·subst c81
                  have H1 : (some false) = some r := by rw [if_pos rfl] at H; exact H
                  clear H
                  have H := H1
                  clear H1
                  obtain rfl := Option.some.inj H
                  go_wp2
                  go_ret
                  exact ⟨by first | rfl | (simp [errW_none, errW_some] <;> rfl) | (simp [*, errW_none, errW_some] <;> rfl), xbg⟩
                 ·replace c81 := Bool.eq_false_iff.mpr c81
                  subst c81
                  have H1 : (laws_FnDisk.j6 kj55 t410 x6_4 (((rd_T81 t407 x6_4).f1) ++ ((rd_T81 t407 x6_4).f2)) t406 t407 t414 t415 ((rd_T81 t407 x6_4).f0) ((rd_T81 t407 x6_4).f1) ((rd_T81 t407 x6_4).f2)) = some r := by rw [if_neg (show ¬ (false = true) by decide)] at H; exact H
                  clear H
                  have H := H1
                  clear H1
                  have H' := Aside0.mk H
                  clear H
                  go_wp2
                  go_meet
                  case rel => exact ⟨_, H', ⟨by have := HJ2.out; have := HJ6.out; have := HJ25.out; have := HK4.out; have := HJ32.out; have := HJ55.out; first | omega | exact Nat.le_refl _⟩, ⟨by (with_reducible repeat (first | apply Kd.R_alloc | apply Kd.R_drewN | apply Kd.R_drew)); exact HO_4.out⟩, ⟨by (with_reducible repeat (first | apply Kd.R_alloc | apply Kd.R_drewN | apply Kd.R_drew)); exact HO_414001.out⟩, ⟨by (with_reducible repeat (first | apply Kd.R_alloc | apply Kd.R_drewN | apply Kd.R_drew)); exact HO_419001.out⟩, ⟨xblk⟩, ⟨xblk⟩, ⟨xblk⟩, ⟨xbg⟩⟩
                case rest =>
                 clear HC80
                 try clear p2
                 try clear c3
                 try clear c4
                 try clear p4
                 try clear q4
                 try clear hx4
                 try clear c5
                 try clear c6
                 try clear c7
                 try clear c8
                 try clear c38
                 try clear c41
                 try clear c41b0
                 try clear p42
                 try clear q42
                 try clear hx42
                 try clear c48
                 try clear c49
                 try clear c50
                 try clear c52
                 try clear c52b0
                 try clear c53
                 try clear c53b0
                 try clear c55
                 try clear c55b0
                 try clear c55b1
                 try clear c55b2
                 try clear c57
                 try clear c60
                 try clear c61
                 try clear c66
                 try clear c67
                 try clear c67b0
                 try clear c67b1
                 try clear c68
                 try clear c69
                 try clear c71
                 try clear c71b0
                 try clear c71b1
                 try clear c72
                 try clear c73
                 try clear c75
                 try clear c75b0
                 try clear c75b1
                 try clear c76
                 try clear c76b0
                 try clear c76b1
                 try clear c77
                 try clear c78
                 try clear c81
                 try clear hcz58_0
                 try clear hcz58_1
                 try clear hcz62_0
                 try clear hcz62_1
                 try clear hcz62_2
                 try clear hcz63_0
                 try clear hcz63_1
                 try clear hcz65_0
                 try clear hcz65_1
                 try clear hcz65_2
                 try clear hcz70_0
                 try clear hcz70_1
                 try clear hcz70_2
                 try clear hcz74_0
                 try clear hcz74_1
                 try clear hcz74_2
                 try clear hcz79_0
                 try clear hcz79_1
                 try clear hcz79_2
                 try clear hfz58_0
                 try clear hfz58_1
                 try clear hfz62_0
                 try clear hfz62_1
                 try clear hfz62_2
                 try clear hfz63_0
                 try clear hfz63_1
                 try clear hfz65_0
                 try clear hfz65_1
                 try clear hfz65_2
                 try clear hfz70_0
                 try clear hfz70_1
                 try clear hfz70_2
                 try clear hfz74_0
                 try clear hfz74_1
                 try clear hfz74_2
                 try clear hfz79_0
                 try clear hfz79_1
                 try clear hfz79_2
                 try clear hx423_0
                 try clear hx423_1
                 try clear hx423_2
                 try clear p2
                 try clear p4
                 try clear p42
                 try clear p423
                 try clear q4
                 try clear q42
                 try clear q423
                 obtain ⟨kq, HA, HJ79, HO_4, HO_414001, HO_419001, BK413, BK418, BK424, HB⟩ := hcut
                 cases kq with
                 | zero => exact absurd HA.out (by simp [laws_FnDisk.j6])
                 | succ kj79 =>
                  have H := HA.out
                  clear HA
                  simp only [laws_FnDisk.j6] at H
                  replace H := Option.bind_eq_some_iff.mp H
                  obtain ⟨⟨t427, t428, t431⟩, A820, H⟩ := H
                  replace H : ((impl_DiskCrash.f kj79 t427 t428 t410).bind fun bt433 => ((impl_DiskRead.f kj79 bt433.1 bt433.2 ((rd_T81 t407 x6_4).f0)).bind fun bt437 => (if t431 = 0 then (if bt437.2 = true then (if bt437.1.toList = (((rd_T81 t407 x6_4).f1) ++ ((rd_T81 t407 x6_4).f2)).toList then (laws_FnDisk.l0 kj79 t410 (wrap64 (x6_4 + 1)) t406 t407 t414 t415) else (some false)) else (some false)) else (some false)))) = some r := H
                  have A82 := Aside0.mk A820
                  clear A820
                  replace H := Option.bind_eq_some_iff.mp H
                  obtain ⟨⟨t433, t434⟩, A830, H⟩ := H
                  replace H : ((impl_DiskRead.f kj79 t433 t434 ((rd_T81 t407 x6_4).f0)).bind fun bt437 => (if t431 = 0 then (if bt437.2 = true then (if bt437.1.toList = (((rd_T81 t407 x6_4).f1) ++ ((rd_T81 t407 x6_4).f2)).toList then (laws_FnDisk.l0 kj79 t410 (wrap64 (x6_4 + 1)) t406 t407 t414 t415) else (some false)) else (some false)) else (some false))) = some r := H
                  have A83 := Aside0.mk A830
                  clear A830
                  replace H := Option.bind_eq_some_iff.mp H
                  obtain ⟨⟨t437, t438⟩, A840, H⟩ := H
                  replace H : (if t431 = 0 then (if t438 = true then (if t437.toList = (((rd_T81 t407 x6_4).f1) ++ ((rd_T81 t407 x6_4).f2)).toList then (laws_FnDisk.l0 kj79 t410 (wrap64 (x6_4 + 1)) t406 t407 t414 t415) else (some false)) else (some false)) else (some false)) = some r := H
                  have A84 := Aside0.mk A840
                  clear A840
                  by_cases c85 : t431 = 0
                  ·rw [if_pos c85] at H
                   have c85b0 : (t431 == 0) = true := beq_iff_eq.mpr c85
                   have c85b1 : (t431 != 0) = false := bne_eq_false_iff_eq.mpr c85
                   clear c85
                   by_cases c86 : t438 = true
                   ·subst c86
                    have H1 : (if t437.toList = (((rd_T81 t407 x6_4).f1) ++ ((rd_T81 t407 x6_4).f2)).toList then (laws_FnDisk.l0 kj79 t410 (wrap64 (x6_4 + 1)) t406 t407 t414 t415) else (some false)) = some r := by rw [if_pos rfl] at H; exact H
                    clear H
                    have H := H1
                    clear H1
                    by_cases c87 : t437.toList = (((rd_T81 t407 x6_4).f1) ++ ((rd_T81 t407 x6_4).f2)).toList
                    ·rw [if_pos c87] at H
                     have c87b0 : (t437.toList == (((rd_T81 t407 x6_4).f1) ++ ((rd_T81 t407 x6_4).f2)).toList) = true := beq_iff_eq.mpr c87
                     have c87b1 : (t437.toList != (((rd_T81 t407 x6_4).f1) ++ ((rd_T81 t407 x6_4).f2)).toList) = false := bne_eq_false_iff_eq.mpr c87
                     clear c87
                     have H' := Aside0.mk H
                     clear H
                     have hnb88 := NB413_418.out
                     have hnc88 := NB418_413.out
                     have hnb89 := NB413_424.out
                     have hnc89 := NB424_413.out
                     have hcz90_0 : wc.cell? ⟨gb413, 0, none⟩ = some (.int .i64 t406) := (blk_cell BK413.out 0).trans rfl
                     have hcz90_1 : wc.cell? ⟨gb413, 1, none⟩ = some (.slice (some ad423) t407.length co11) := (blk_cell BK413.out 1).trans rfl
                     have hfz90_0 := blk_frozen BK413.out 0
                     have hfz90_1 := blk_frozen BK413.out 1
                     have hnb91 := NB424_418.out
                     have hnc91 := NB418_424.out
                     have hcz92_0 : wc.cell? ⟨gb424, 0, none⟩ = some (.int .i64 ((rd_T81 t407 x6_4).f0)) := (blk_cell BK424.out 0).trans rfl
                     have hcz92_1 : wc.cell? ⟨gb424, 1, none⟩ = some (.string ((rd_T81 t407 x6_4).f1)) := (blk_cell BK424.out 1).trans rfl
                     have hcz92_2 : wc.cell? ⟨gb424, 2, none⟩ = some (.string ((rd_T81 t407 x6_4).f2)) := (blk_cell BK424.out 2).trans rfl
                     have hfz92_0 := blk_frozen BK424.out 0
                     have hfz92_1 := blk_frozen BK424.out 1
                     have hfz92_2 := blk_frozen BK424.out 2
                     try go_wp2_with (first | ((with_reducible refine gate_callee (f := 35) rfl ?_); refine goesL_ (some 93) rfl rfl Try.func35 (by kernel_rfl) rfl #[.agg #[.int .i64 t406, .slice (some ad423) t407.length co11], .int .i64 ((rd_T81 t407 x6_4).f0)] rfl (by (try simp only [List.map_toArray, List.map_cons, List.map_nil]); first | done | rfl | (simp only [List.length_drop, List.length_take]; rfl)) ?_; (with_reducible refine (impl_DiskSync.calls kj79 t406 _ _ t407 ((rd_T81 t407 x6_4).f0) t427 t428 t431 _ ?side1 ?side2 A82.out).mono ?_); (case side1 => repeat (first | exact (Kd.R_reads' HO_414001.out).2.2 | (with_reducible refine Kd.C_alloc ?_ _) | (with_reducible refine Kd.C_drewN ?_ _) | (with_reducible refine Kd.C_drew ?_))); (case side2 => exact (Kd.R_reads' HO_414001.out).2.1); rintro e w93 ⟨v429, rfl, ho0, hb⟩; refine ⟨_, rfl, ?_⟩; replace HO_4 := Aside0.mk (Kd.R_below (by (with_reducible repeat (first | apply Kd.R_alloc | apply Kd.R_drewN | apply Kd.R_drew)); exact HO_4.out) hb); have HO430 := Aside0.mk (Kd.R_lower (Kd.R_newB (Kd.R_new' (Kd.R_new' ho0 (Kd.R_lt (by (with_reducible repeat (first | apply Kd.R_alloc | apply Kd.R_drewN | apply Kd.R_drew)); exact HO_414001.out))) (Kd.R_lt (by (with_reducible repeat (first | apply Kd.R_alloc | apply Kd.R_drewN | apply Kd.R_drew)); exact HO_419001.out))) (g := gb424) (o := .cells #[.int .i64 ((rd_T81 t407 x6_4).f0), .string ((rd_T81 t407 x6_4).f1), .string ((rd_T81 t407 x6_4).f2)] 81 (0, 0)) xblk) (below_size xbg)); replace HO_414001 := Aside0.mk (Kd.R_elder' (by (with_reducible repeat (first | apply Kd.R_alloc | apply Kd.R_drewN | apply Kd.R_drew)); exact HO_414001.out) (Kd.R_base ho0) hb); replace HO_419001 := Aside0.mk (Kd.R_elder' (by (with_reducible repeat (first | apply Kd.R_alloc | apply Kd.R_drewN | apply Kd.R_drew)); exact HO_419001.out) (Kd.R_base ho0) hb); replace BK413 := xbb BK413 hb; replace BK418 := xbb BK418 hb; replace BK424 := xbb BK424 hb; replace HB := xbs hb; (try clear hb); (try clear hb2); (try clear hk); (try clear hi); (try clear ho0)) | ((with_reducible refine gate_dst (N := 11) rfl ?_); (try (refine gate_guard (by rfl) ?_; dsimp only)); refine box_event ?hg (N := 11) ?hd (cs := #[.int .i64 0, .slice none 0 0]) (t := 63) ?hr ?_; (case hd => rfl); (case hg => rfl); (case hr => first | (go_simp; done) | (go_simp; rfl)); intro gb432 hg w94 hbox hb; replace HO_4 := Aside0.mk (Kd.R_below (by (with_reducible repeat (first | apply Kd.R_alloc | apply Kd.R_drewN | apply Kd.R_drew)); exact HO_4.out) hb); replace HO_414001 := Aside0.mk (Kd.R_below (by (with_reducible repeat (first | apply Kd.R_alloc | apply Kd.R_drewN | apply Kd.R_drew)); exact HO_414001.out) hb); replace HO_419001 := Aside0.mk (Kd.R_below (by (with_reducible repeat (first | apply Kd.R_alloc | apply Kd.R_drewN | apply Kd.R_drew)); exact HO_419001.out) hb); replace HO430 := Aside0.mk (Kd.R_below (by (with_reducible repeat (first | apply Kd.R_alloc | apply Kd.R_drewN | apply Kd.R_drew)); exact HO430.out) hb); have GW432 := Aside0.mk (xge hg); have GE432 := Aside0.mk (xge hg); replace HB := xbs hb; have NB413_432 := Aside0.mk ((by rw [hg]; exact Nat.ne_of_lt (blk_lt (g := gb413) (o := .cells #[.int .i64 t406, .slice (some ad423) t407.length co11] 63 (0, 0)) xblk) : gb413 ≠ gb432)); have NB432_413 := Aside0.mk ((by rw [hg]; exact Nat.ne_of_gt (blk_lt (g := gb413) (o := .cells #[.int .i64 t406, .slice (some ad423) t407.length co11] 63 (0, 0)) xblk) : gb432 ≠ gb413)); have NB418_432 := Aside0.mk ((by rw [hg]; exact Nat.ne_of_lt (blk_lt (g := gb418) (o := .cells #[.int .i64 t414, .slice Ao17 t415.length co17] 63 (0, 0)) xblk) : gb418 ≠ gb432)); have NB432_418 := Aside0.mk ((by rw [hg]; exact Nat.ne_of_gt (blk_lt (g := gb418) (o := .cells #[.int .i64 t414, .slice Ao17 t415.length co17] 63 (0, 0)) xblk) : gb432 ≠ gb418)); have NB424_432 := Aside0.mk ((by rw [hg]; exact Nat.ne_of_lt (blk_lt (g := gb424) (o := .cells #[.int .i64 ((rd_T81 t407 x6_4).f0), .string ((rd_T81 t407 x6_4).f1), .string ((rd_T81 t407 x6_4).f2)] 81 (0, 0)) xblk) : gb424 ≠ gb432)); have NB432_424 := Aside0.mk ((by rw [hg]; exact Nat.ne_of_gt (blk_lt (g := gb424) (o := .cells #[.int .i64 ((rd_T81 t407 x6_4).f0), .string ((rd_T81 t407 x6_4).f1), .string ((rd_T81 t407 x6_4).f2)] 81 (0, 0)) xblk) : gb432 ≠ gb424)); replace BK413 := xbb BK413 hb; replace BK418 := xbb BK418 hb; replace BK424 := xbb BK424 hb; have BK432 := Aside0.mk (hbox); clear hb hbox hg; have hnb95 := NB432_413.out; have hnc95 := NB413_432.out; have hnb96 := NB432_418.out; have hnc96 := NB418_432.out; have hnb97 := NB432_424.out; have hnc97 := NB424_432.out; have hcz98_0 : w94.cell? ⟨gb432, 0, none⟩ = some (.int .i64 0) := (blk_cell BK432.out 0).trans rfl; have hcz98_1 : w94.cell? ⟨gb432, 1, none⟩ = some (.slice none 0 0) := (blk_cell BK432.out 1).trans rfl; have hfz98_0 := blk_frozen BK432.out 0; have hfz98_1 := blk_frozen BK432.out 1; obtain ⟨Ao99, co99, eo99⟩ := Kd.R_slice HO430.out; subst eo99))
                     have n0_ : Aside0 (Kd.R (Kd.int .i64) 3 ((w94.setCell ⟨gb432, 0, none⟩ (.int .i64 t427)).setCell ⟨gb432, 1, none⟩ (.slice Ao99 t428.length co99)) w.heap.size (fun _ => True) (.slice Ao12 t410.length co12) t410) := ⟨by (with_reducible repeat (first | apply Kd.R_alloc | apply Kd.R_drewN | apply Kd.R_drew)); exact Kd.R_mono (Kd.R_far (p := ⟨gb432, 1, none⟩) (Kd.R_far (p := ⟨gb432, 0, none⟩) (Kd.R_types HO_4.out BK432.out (by decide)) (fun _ hk => hk.2) (.int .i64 t427)) (fun _ hk => hk.2) (.slice Ao99 t428.length co99)) (fun _ hk => trivial)⟩
                     have n1_ : Aside0 (Kd.R k81 81 ((w94.setCell ⟨gb432, 0, none⟩ (.int .i64 t427)).setCell ⟨gb432, 1, none⟩ (.slice Ao99 t428.length co99)) w.heap.size (fun k_ => some k_ ≠ (.slice Ao17 t415.length co17 : Value).ownBlock ∧ some k_ ≠ (.slice Ao99 t428.length co99 : Value).ownBlock ∧ k_ ≠ gb424) (.slice (some ad423) t407.length co11) t407) := ⟨by (with_reducible repeat (first | apply Kd.R_alloc | apply Kd.R_drewN | apply Kd.R_drew)); exact Kd.R_mono (Kd.R_far (p := ⟨gb432, 1, none⟩) (Kd.R_far (p := ⟨gb432, 0, none⟩) (Kd.R_types HO_414001.out BK432.out (by decide)) (fun _ hk => hk.2) (.int .i64 t427)) (fun _ hk => hk.2) (.slice Ao99 t428.length co99)) (fun _ hk => ⟨hk.1.1.1, ⟨hk.1.2, hk.1.1.2⟩⟩)⟩
                     have n2_ : Aside0 (Kd.R k81 81 ((w94.setCell ⟨gb432, 0, none⟩ (.int .i64 t427)).setCell ⟨gb432, 1, none⟩ (.slice Ao99 t428.length co99)) w.heap.size (fun k_ => some k_ ≠ (.slice (some ad423) t407.length co11 : Value).ownBlock ∧ some k_ ≠ (.slice Ao99 t428.length co99 : Value).ownBlock ∧ k_ ≠ gb424) (.slice Ao17 t415.length co17) t415) := ⟨by (with_reducible repeat (first | apply Kd.R_alloc | apply Kd.R_drewN | apply Kd.R_drew)); exact Kd.R_mono (Kd.R_far (p := ⟨gb432, 1, none⟩) (Kd.R_far (p := ⟨gb432, 0, none⟩) (Kd.R_types HO_419001.out BK432.out (by decide)) (fun _ hk => hk.2) (.int .i64 t427)) (fun _ hk => hk.2) (.slice Ao99 t428.length co99)) (fun _ hk => ⟨hk.1.1.1, ⟨hk.1.2, hk.1.1.2⟩⟩)⟩
                     have n3_ : Aside0 (Kd.R k81 81 ((w94.setCell ⟨gb432, 0, none⟩ (.int .i64 t427)).setCell ⟨gb432, 1, none⟩ (.slice Ao99 t428.length co99)) w.heap.size (fun k_ => some k_ ≠ (.slice (some ad423) t407.length co11 : Value).ownBlock ∧ some k_ ≠ (.slice Ao17 t415.length co17 : Value).ownBlock ∧ k_ ≠ gb424) (.slice Ao99 t428.length co99) t428) := ⟨by (with_reducible repeat (first | apply Kd.R_alloc | apply Kd.R_drewN | apply Kd.R_drew)); exact Kd.R_mono (Kd.R_far (p := ⟨gb432, 1, none⟩) (Kd.R_far (p := ⟨gb432, 0, none⟩) (Kd.R_types HO430.out BK432.out (by decide)) (fun _ hk => hk.2) (.int .i64 t427)) (fun _ hk => hk.2) (.slice Ao99 t428.length co99)) (fun _ hk => ⟨hk.1.1.1.2, ⟨hk.1.1.2, hk.1.2⟩⟩)⟩
                     have n4_ : Aside0 (((w94.setCell ⟨gb432, 0, none⟩ (.int .i64 t427)).setCell ⟨gb432, 1, none⟩ (.slice Ao99 t428.length co99)).heap[gb413]? = some (.cells #[.int .i64 t406, .slice (some ad423) t407.length co11] 63 (0, 0))) := ⟨by (with_reducible repeat (first | refine blk_drewN ?_ _ | refine blk_drew ?_ | refine blk_alloc ?_ _)); refine blk_far ?_ NB413_432.out _; (with_reducible repeat (first | refine blk_drewN ?_ _ | refine blk_drew ?_ | refine blk_alloc ?_ _)); refine blk_far ?_ NB413_432.out _; (with_reducible repeat (first | refine blk_drewN ?_ _ | refine blk_drew ?_ | refine blk_alloc ?_ _)); exact BK413.out⟩
                     have n5_ : Aside0 (((w94.setCell ⟨gb432, 0, none⟩ (.int .i64 t427)).setCell ⟨gb432, 1, none⟩ (.slice Ao99 t428.length co99)).heap[gb418]? = some (.cells #[.int .i64 t414, .slice Ao17 t415.length co17] 63 (0, 0))) := ⟨by (with_reducible repeat (first | refine blk_drewN ?_ _ | refine blk_drew ?_ | refine blk_alloc ?_ _)); refine blk_far ?_ NB418_432.out _; (with_reducible repeat (first | refine blk_drewN ?_ _ | refine blk_drew ?_ | refine blk_alloc ?_ _)); refine blk_far ?_ NB418_432.out _; (with_reducible repeat (first | refine blk_drewN ?_ _ | refine blk_drew ?_ | refine blk_alloc ?_ _)); exact BK418.out⟩
                     have n6_ : Aside0 (((w94.setCell ⟨gb432, 0, none⟩ (.int .i64 t427)).setCell ⟨gb432, 1, none⟩ (.slice Ao99 t428.length co99)).heap[gb424]? = some (.cells #[.int .i64 ((rd_T81 t407 x6_4).f0), .string ((rd_T81 t407 x6_4).f1), .string ((rd_T81 t407 x6_4).f2)] 81 (0, 0))) := ⟨by (with_reducible repeat (first | refine blk_drewN ?_ _ | refine blk_drew ?_ | refine blk_alloc ?_ _)); refine blk_far ?_ NB424_432.out _; (with_reducible repeat (first | refine blk_drewN ?_ _ | refine blk_drew ?_ | refine blk_alloc ?_ _)); refine blk_far ?_ NB424_432.out _; (with_reducible repeat (first | refine blk_drewN ?_ _ | refine blk_drew ?_ | refine blk_alloc ?_ _)); exact BK424.out⟩
                     have n7_ : Aside0 (((w94.setCell ⟨gb432, 0, none⟩ (.int .i64 t427)).setCell ⟨gb432, 1, none⟩ (.slice Ao99 t428.length co99)).heap[gb432]? = some (.cells #[.int .i64 t427, .slice Ao99 t428.length co99] 63 (0, 0))) := ⟨by (with_reducible repeat (first | refine blk_drewN ?_ _ | refine blk_drew ?_ | refine blk_alloc ?_ _)); refine blk_put (cs := #[.int .i64 t427, .slice none 0 0]) ?_ 1 _ rfl; (with_reducible repeat (first | refine blk_drewN ?_ _ | refine blk_drew ?_ | refine blk_alloc ?_ _)); refine blk_put (cs := #[.int .i64 0, .slice none 0 0]) ?_ 0 _ rfl; (with_reducible repeat (first | refine blk_drewN ?_ _ | refine blk_drew ?_ | refine blk_alloc ?_ _)); exact BK432.out⟩
                     have n8_ : Aside0 (Below w.heap.size w ((w94.setCell ⟨gb432, 0, none⟩ (.int .i64 t427)).setCell ⟨gb432, 1, none⟩ (.slice Ao99 t428.length co99))) := ⟨xbg⟩
                     (try clear HO_4); (try clear HO_414001); (try clear HO_419001); (try clear HO430); (try clear BK413); (try clear BK418); (try clear BK424); (try clear BK432); (try clear HB)
                     generalize ((w94.setCell ⟨gb432, 0, none⟩ (.int .i64 t427)).setCell ⟨gb432, 1, none⟩ (.slice Ao99 t428.length co99)) = w100 at n0_ n1_ n2_ n3_ n4_ n5_ n6_ n7_ n8_ ⊢
                     have HO_4 := n0_
                     have HO_414001 := n1_
                     have HO_419001 := n2_
                     have HO430 := n3_
                     have BK413 := n4_
                     have BK418 := n5_
                     have BK424 := n6_
                     have BK432 := n7_
                     have HB := n8_
                     clear n0_ n1_ n2_ n3_ n4_ n5_ n6_ n7_ n8_
                     replace HO_4 := Aside0.mk (Kd.R_drew HO_4.out)
                     replace HO_414001 := Aside0.mk (Kd.R_drew HO_414001.out)
                     replace HO_419001 := Aside0.mk (Kd.R_drew HO_419001.out)
                     replace HO430 := Aside0.mk (Kd.R_drew HO430.out)
                     replace BK413 := Aside0.mk (blk_drew BK413.out)
                     replace BK418 := Aside0.mk (blk_drew BK418.out)
                     replace BK424 := Aside0.mk (blk_drew BK424.out)
                     replace BK432 := Aside0.mk (blk_drew BK432.out)
                     replace HB := Aside0.mk (below_drew1 HB.out)
                     refine start_ (n := 11) (S := fun w' => w'.cell? ⟨gb432, 0, none⟩ = some (.int .i64 t427) ∧ w'.cell? ⟨gb432, 1, none⟩ = some (.slice Ao99 t428.length co99) ∧ w'.cell? ⟨gb424, 0, none⟩ = some (.int .i64 ((rd_T81 t407 x6_4).f0)) ∧ w'.cell? ⟨gb424, 1, none⟩ = some (.string ((rd_T81 t407 x6_4).f1)) ∧ w'.cell? ⟨gb424, 2, none⟩ = some (.string ((rd_T81 t407 x6_4).f2))) (ds := []) #[false, false, false, false, false, false, false, false, false, false, false] (by kernel_rfl) rfl rfl ⟨(blk_cell BK432.out 0).trans rfl, (blk_cell BK432.out 1).trans rfl, (blk_cell BK424.out 0).trans rfl, (blk_cell BK424.out 1).trans rfl, (blk_cell BK424.out 2).trans rfl⟩ (fun hHeld => ?_); refine with_tabW laws_FnDisk.tab16 laws_FnDisk.bits16 (fun HT_ HW_ => ?_)
                     generalize w100.drew = w101 at HO_4 HO_414001 HO_419001 HO430 BK413 BK418 BK424 BK432 HB hHeld ⊢
                     refine pv_ 1 98 (h := ?_)
                     refine pv_ 3 100 (h := ?_)
                     refine tk_ 0 97 (h := ?_)
                     refine tk_ 4 101 (h := ?_)
                     refine on_ 2 99 (h := fun K hK => ?_)
                     refine goes_ Try.func41 (by kernel_rfl) rfl #[.agg #[.int .i64 t427, .slice Ao99 t428.length co99], .slice Ao12 t410.length co12] (by rfl) rfl rfl (by (try simp only [List.map_toArray, List.map_cons, List.map_nil]); first | done | rfl | (simp only [List.length_drop, List.length_take]; rfl)) ?_
                     with_reducible refine (impl_DiskCrash.calls kj79 t427 _ _ t428 _ _ t410 t433 t434 _ ?side1 ?side2 ?side3 ?side4 A83.out).mono ?_
                     (case side1 => repeat (first | exact (Kd.R_reads' HO430.out).2.2 | (with_reducible refine Kd.C_alloc ?_ _) | (with_reducible refine Kd.C_drewN ?_ _) | (with_reducible refine Kd.C_drew ?_)))
                     (case side2 => exact (Kd.R_reads' HO430.out).2.1)
                     (case side3 => repeat (first | exact (Kd.R_reads' HO_4.out).2.2 | (with_reducible refine Kd.C_alloc ?_ _) | (with_reducible refine Kd.C_drewN ?_ _) | (with_reducible refine Kd.C_drew ?_)))
                     (case side4 => exact (Kd.R_reads' HO_4.out).2.1)
                     rintro e w102 ⟨v435, rfl, ho0, hb⟩
                     refine ⟨_, rfl, ?_⟩
                     replace HO_4 := Aside0.mk (Kd.R_below (by (with_reducible repeat (first | apply Kd.R_alloc | apply Kd.R_drewN | apply Kd.R_drew)); exact HO_4.out) hb)
                     have HO436 := Aside0.mk (Kd.R_lower (Kd.R_newB (Kd.R_new' (Kd.R_new' (Kd.R_new' ho0 (Kd.R_lt (by (with_reducible repeat (first | apply Kd.R_alloc | apply Kd.R_drewN | apply Kd.R_drew)); exact HO_414001.out))) (Kd.R_lt (by (with_reducible repeat (first | apply Kd.R_alloc | apply Kd.R_drewN | apply Kd.R_drew)); exact HO_419001.out))) (Kd.R_lt (by (with_reducible repeat (first | apply Kd.R_alloc | apply Kd.R_drewN | apply Kd.R_drew)); exact HO430.out))) (g := gb424) (o := .cells #[.int .i64 ((rd_T81 t407 x6_4).f0), .string ((rd_T81 t407 x6_4).f1), .string ((rd_T81 t407 x6_4).f2)] 81 (0, 0)) xblk) (below_size xbg))
                     replace HO_414001 := Aside0.mk (Kd.R_elder' (by (with_reducible repeat (first | apply Kd.R_alloc | apply Kd.R_drewN | apply Kd.R_drew)); exact HO_414001.out) (Kd.R_base ho0) hb)
                     replace HO_419001 := Aside0.mk (Kd.R_elder' (by (with_reducible repeat (first | apply Kd.R_alloc | apply Kd.R_drewN | apply Kd.R_drew)); exact HO_419001.out) (Kd.R_base ho0) hb)
                     replace HO430 := Aside0.mk (Kd.R_elder' (by (with_reducible repeat (first | apply Kd.R_alloc | apply Kd.R_drewN | apply Kd.R_drew)); exact HO430.out) (Kd.R_base ho0) hb)
                     replace BK413 := xbb BK413 hb
                     replace BK418 := xbb BK418 hb
                     replace BK424 := xbb BK424 hb
                     replace BK432 := xbb BK432 hb
                     replace HB := xbs hb
                     (try clear hb); (try clear hb2); (try clear hk); (try clear hi); (try clear ho0)
                     obtain ⟨Ao103, co103, eo103⟩ := Kd.R_slice HO436.out
                     (first | subst eo103 | (injection eo103 with f1_ f2_ f3_; have f4_ := f1_.symm; have f5_ := f3_.symm; clear f1_ f2_ f3_; subst f4_; subst f5_))
                     refine hK.out _ _ ⟨(blk_cell BK432.out 0).trans rfl, (blk_cell BK432.out 1).trans rfl, (blk_cell BK424.out 0).trans rfl, (blk_cell BK424.out 1).trans rfl, (blk_cell BK424.out 2).trans rfl⟩ (fun hHeld => ?_)
                     clear hK K
                     refine norm_ (a' := ?_) ?_ ?_
                     rotate_left
                     ·show Act.put _ (some 99) _ = _
                      simp only [Act.put, List.setIfInBounds_toArray, List.set_cons_zero, List.set_cons_succ, i64_w, i32_w]
                      rfl
                     refine on_ 5 102 (h := fun K hK => ?_)
                     refine goes_ Try.func48 (by kernel_rfl) rfl #[.agg #[.int .i64 t433, .slice Ao103 t434.length co103], .int .i64 ((rd_T81 t407 x6_4).f0)] (by rfl) rfl rfl (by (try simp only [List.map_toArray, List.map_cons, List.map_nil]); first | done | rfl | (simp only [List.length_drop, List.length_take]; rfl)) ?_
                     with_reducible refine (impl_DiskRead.calls kj79 t433 _ _ t434 ((rd_T81 t407 x6_4).f0) t437 true _ ?side1 ?side2 A84.out).mono ?_
                     (case side1 => repeat (first | exact (Kd.R_reads' HO436.out).2.2 | (with_reducible refine Kd.C_alloc ?_ _) | (with_reducible refine Kd.C_drewN ?_ _) | (with_reducible refine Kd.C_drew ?_)))
                     (case side2 => exact (Kd.R_reads' HO436.out).2.1)
                     rintro e w104 ⟨rfl, hb⟩
                     refine ⟨_, rfl, ?_⟩
                     replace HO_4 := Aside0.mk (Kd.R_below (by (with_reducible repeat (first | apply Kd.R_alloc | apply Kd.R_drewN | apply Kd.R_drew)); exact HO_4.out) hb)
                     replace HO_414001 := Aside0.mk (Kd.R_below (by (with_reducible repeat (first | apply Kd.R_alloc | apply Kd.R_drewN | apply Kd.R_drew)); exact HO_414001.out) hb)
                     replace HO_419001 := Aside0.mk (Kd.R_below (by (with_reducible repeat (first | apply Kd.R_alloc | apply Kd.R_drewN | apply Kd.R_drew)); exact HO_419001.out) hb)
                     replace HO430 := Aside0.mk (Kd.R_below (by (with_reducible repeat (first | apply Kd.R_alloc | apply Kd.R_drewN | apply Kd.R_drew)); exact HO430.out) hb)
                     replace HO436 := Aside0.mk (Kd.R_below (by (with_reducible repeat (first | apply Kd.R_alloc | apply Kd.R_drewN | apply Kd.R_drew)); exact HO436.out) hb)
                     replace BK413 := xbb BK413 hb
                     replace BK418 := xbb BK418 hb
                     replace BK424 := xbb BK424 hb
                     replace BK432 := xbb BK432 hb
                     replace HB := xbs hb
                     (try clear hb); (try clear hb2); (try clear hk); (try clear hi)
                     refine hK.out _ _ ⟨(blk_cell BK432.out 0).trans rfl, (blk_cell BK432.out 1).trans rfl, (blk_cell BK424.out 0).trans rfl, (blk_cell BK424.out 1).trans rfl, (blk_cell BK424.out 2).trans rfl⟩ (fun hHeld => ?_)
                     clear hK K
                     refine norm_ (a' := ?_) ?_ ?_
                     rotate_left
                     ·show Act.put _ (some 102) _ = _
                      simp only [Act.put, List.setIfInBounds_toArray, List.set_cons_zero, List.set_cons_succ, i64_w, i32_w]
                      rfl
                     refine pv_ 6 96 (h := ?_)
                     refine pv_ 7 103 (h := ?_)
                     refine pv_ 8 104 (h := ?_)
                     refine pv_ 9 8 (h := ?_)
                     refine pv_ 10 9 (h := ?_)
                     refine done_ (done_of HT_.out (by kernel_rfl)) ?_
                     try go_wp2
                     go_roundg kj79
                     case measure => have := HJ2.out; have := HJ6.out; have := HJ25.out; have := HK4.out; have := HJ32.out; have := HJ55.out; have := HJ79.out; omega
                     case rel => exact ⟨(wrap64 (x6_4 + 1)), (by first | rfl | (simp; done) | (simp [*]; done)), H', ⟨by have := HJ2.out; have := HJ6.out; have := HJ25.out; have := HK4.out; have := HJ32.out; have := HJ55.out; have := HJ79.out; omega⟩, ⟨by (with_reducible repeat (first | apply Kd.R_alloc | apply Kd.R_drewN | apply Kd.R_drew)); exact HO_4.out⟩, ⟨by (with_reducible repeat (first | apply Kd.R_alloc | apply Kd.R_drewN | apply Kd.R_drew)); exact Kd.R_mono HO_414001.out (fun _ hk => hk.1.1)⟩, ⟨by (with_reducible repeat (first | apply Kd.R_alloc | apply Kd.R_drewN | apply Kd.R_drew)); exact Kd.R_mono HO_419001.out (fun _ hk => hk.1.1)⟩, ⟨xblk⟩, ⟨xblk⟩, ⟨xbg⟩⟩
                    ·rw [if_neg c87] at H
                     have c87b0 : (t437.toList == (((rd_T81 t407 x6_4).f1) ++ ((rd_T81 t407 x6_4).f2)).toList) = false := beq_eq_false_iff_ne.mpr c87
                     have c87b1 : (t437.toList != (((rd_T81 t407 x6_4).f1) ++ ((rd_T81 t407 x6_4).f2)).toList) = true := bne_iff_ne.mpr c87
                     obtain rfl := Option.some.inj H
                     have hnb105 := NB413_418.out
                     have hnc105 := NB418_413.out
                     have hnb106 := NB413_424.out
                     have hnc106 := NB424_413.out
                     have hcz107_0 : wc.cell? ⟨gb413, 0, none⟩ = some (.int .i64 t406) := (blk_cell BK413.out 0).trans rfl
                     have hcz107_1 : wc.cell? ⟨gb413, 1, none⟩ = some (.slice (some ad423) t407.length co11) := (blk_cell BK413.out 1).trans rfl
                     have hfz107_0 := blk_frozen BK413.out 0
                     have hfz107_1 := blk_frozen BK413.out 1
                     have hnb108 := NB424_418.out
                     have hnc108 := NB418_424.out
                     have hcz109_0 : wc.cell? ⟨gb424, 0, none⟩ = some (.int .i64 ((rd_T81 t407 x6_4).f0)) := (blk_cell BK424.out 0).trans rfl
                     have hcz109_1 : wc.cell? ⟨gb424, 1, none⟩ = some (.string ((rd_T81 t407 x6_4).f1)) := (blk_cell BK424.out 1).trans rfl
                     have hcz109_2 : wc.cell? ⟨gb424, 2, none⟩ = some (.string ((rd_T81 t407 x6_4).f2)) := (blk_cell BK424.out 2).trans rfl
                     have hfz109_0 := blk_frozen BK424.out 0
                     have hfz109_1 := blk_frozen BK424.out 1
                     have hfz109_2 := blk_frozen BK424.out 2
                     try go_wp2_with (first | ((with_reducible refine gate_callee (f := 35) rfl ?_); refine goesL_ (some 93) rfl rfl Try.func35 (by kernel_rfl) rfl #[.agg #[.int .i64 t406, .slice (some ad423) t407.length co11], .int .i64 ((rd_T81 t407 x6_4).f0)] rfl (by (try simp only [List.map_toArray, List.map_cons, List.map_nil]); first | done | rfl | (simp only [List.length_drop, List.length_take]; rfl)) ?_; (with_reducible refine (impl_DiskSync.calls kj79 t406 _ _ t407 ((rd_T81 t407 x6_4).f0) t427 t428 t431 _ ?side1 ?side2 A82.out).mono ?_); (case side1 => repeat (first | exact (Kd.R_reads' HO_414001.out).2.2 | (with_reducible refine Kd.C_alloc ?_ _) | (with_reducible refine Kd.C_drewN ?_ _) | (with_reducible refine Kd.C_drew ?_))); (case side2 => exact (Kd.R_reads' HO_414001.out).2.1); rintro e w110 ⟨v429, rfl, ho0, hb⟩; refine ⟨_, rfl, ?_⟩; replace HO_4 := Aside0.mk (Kd.R_below (by (with_reducible repeat (first | apply Kd.R_alloc | apply Kd.R_drewN | apply Kd.R_drew)); exact HO_4.out) hb); have HO430 := Aside0.mk (Kd.R_lower (Kd.R_newB (Kd.R_new' (Kd.R_new' ho0 (Kd.R_lt (by (with_reducible repeat (first | apply Kd.R_alloc | apply Kd.R_drewN | apply Kd.R_drew)); exact HO_414001.out))) (Kd.R_lt (by (with_reducible repeat (first | apply Kd.R_alloc | apply Kd.R_drewN | apply Kd.R_drew)); exact HO_419001.out))) (g := gb424) (o := .cells #[.int .i64 ((rd_T81 t407 x6_4).f0), .string ((rd_T81 t407 x6_4).f1), .string ((rd_T81 t407 x6_4).f2)] 81 (0, 0)) xblk) (below_size xbg)); replace HO_414001 := Aside0.mk (Kd.R_elder' (by (with_reducible repeat (first | apply Kd.R_alloc | apply Kd.R_drewN | apply Kd.R_drew)); exact HO_414001.out) (Kd.R_base ho0) hb); replace HO_419001 := Aside0.mk (Kd.R_elder' (by (with_reducible repeat (first | apply Kd.R_alloc | apply Kd.R_drewN | apply Kd.R_drew)); exact HO_419001.out) (Kd.R_base ho0) hb); replace BK413 := xbb BK413 hb; replace BK418 := xbb BK418 hb; replace BK424 := xbb BK424 hb; replace HB := xbs hb; (try clear hb); (try clear hb2); (try clear hk); (try clear hi); (try clear ho0)) | ((with_reducible refine gate_dst (N := 11) rfl ?_); (try (refine gate_guard (by rfl) ?_; dsimp only)); refine box_event ?hg (N := 11) ?hd (cs := #[.int .i64 0, .slice none 0 0]) (t := 63) ?hr ?_; (case hd => rfl); (case hg => rfl); (case hr => first | (go_simp; done) | (go_simp; rfl)); intro gb432 hg w111 hbox hb; replace HO_4 := Aside0.mk (Kd.R_below (by (with_reducible repeat (first | apply Kd.R_alloc | apply Kd.R_drewN | apply Kd.R_drew)); exact HO_4.out) hb); replace HO_414001 := Aside0.mk (Kd.R_below (by (with_reducible repeat (first | apply Kd.R_alloc | apply Kd.R_drewN | apply Kd.R_drew)); exact HO_414001.out) hb); replace HO_419001 := Aside0.mk (Kd.R_below (by (with_reducible repeat (first | apply Kd.R_alloc | apply Kd.R_drewN | apply Kd.R_drew)); exact HO_419001.out) hb); replace HO430 := Aside0.mk (Kd.R_below (by (with_reducible repeat (first | apply Kd.R_alloc | apply Kd.R_drewN | apply Kd.R_drew)); exact HO430.out) hb); have GW432 := Aside0.mk (xge hg); have GE432 := Aside0.mk (xge hg); replace HB := xbs hb; have NB413_432 := Aside0.mk ((by rw [hg]; exact Nat.ne_of_lt (blk_lt (g := gb413) (o := .cells #[.int .i64 t406, .slice (some ad423) t407.length co11] 63 (0, 0)) xblk) : gb413 ≠ gb432)); have NB432_413 := Aside0.mk ((by rw [hg]; exact Nat.ne_of_gt (blk_lt (g := gb413) (o := .cells #[.int .i64 t406, .slice (some ad423) t407.length co11] 63 (0, 0)) xblk) : gb432 ≠ gb413)); have NB418_432 := Aside0.mk ((by rw [hg]; exact Nat.ne_of_lt (blk_lt (g := gb418) (o := .cells #[.int .i64 t414, .slice Ao17 t415.length co17] 63 (0, 0)) xblk) : gb418 ≠ gb432)); have NB432_418 := Aside0.mk ((by rw [hg]; exact Nat.ne_of_gt (blk_lt (g := gb418) (o := .cells #[.int .i64 t414, .slice Ao17 t415.length co17] 63 (0, 0)) xblk) : gb432 ≠ gb418)); have NB424_432 := Aside0.mk ((by rw [hg]; exact Nat.ne_of_lt (blk_lt (g := gb424) (o := .cells #[.int .i64 ((rd_T81 t407 x6_4).f0), .string ((rd_T81 t407 x6_4).f1), .string ((rd_T81 t407 x6_4).f2)] 81 (0, 0)) xblk) : gb424 ≠ gb432)); have NB432_424 := Aside0.mk ((by rw [hg]; exact Nat.ne_of_gt (blk_lt (g := gb424) (o := .cells #[.int .i64 ((rd_T81 t407 x6_4).f0), .string ((rd_T81 t407 x6_4).f1), .string ((rd_T81 t407 x6_4).f2)] 81 (0, 0)) xblk) : gb432 ≠ gb424)); replace BK413 := xbb BK413 hb; replace BK418 := xbb BK418 hb; replace BK424 := xbb BK424 hb; have BK432 := Aside0.mk (hbox); clear hb hbox hg; have hnb112 := NB432_413.out; have hnc112 := NB413_432.out; have hnb113 := NB432_418.out; have hnc113 := NB418_432.out; have hnb114 := NB432_424.out; have hnc114 := NB424_432.out; have hcz115_0 : w111.cell? ⟨gb432, 0, none⟩ = some (.int .i64 0) := (blk_cell BK432.out 0).trans rfl; have hcz115_1 : w111.cell? ⟨gb432, 1, none⟩ = some (.slice none 0 0) := (blk_cell BK432.out 1).trans rfl; have hfz115_0 := blk_frozen BK432.out 0; have hfz115_1 := blk_frozen BK432.out 1; obtain ⟨Ao116, co116, eo116⟩ := Kd.R_slice HO430.out; subst eo116))
                     have n0_ : Aside0 (Kd.R (Kd.int .i64) 3 ((w111.setCell ⟨gb432, 0, none⟩ (.int .i64 t427)).setCell ⟨gb432, 1, none⟩ (.slice Ao116 t428.length co116)) w.heap.size (fun _ => True) (.slice Ao12 t410.length co12) t410) := ⟨by (with_reducible repeat (first | apply Kd.R_alloc | apply Kd.R_drewN | apply Kd.R_drew)); exact Kd.R_mono (Kd.R_far (p := ⟨gb432, 1, none⟩) (Kd.R_far (p := ⟨gb432, 0, none⟩) (Kd.R_types HO_4.out BK432.out (by decide)) (fun _ hk => hk.2) (.int .i64 t427)) (fun _ hk => hk.2) (.slice Ao116 t428.length co116)) (fun _ hk => trivial)⟩
                     have n1_ : Aside0 (Kd.R k81 81 ((w111.setCell ⟨gb432, 0, none⟩ (.int .i64 t427)).setCell ⟨gb432, 1, none⟩ (.slice Ao116 t428.length co116)) w.heap.size (fun k_ => some k_ ≠ (.slice Ao17 t415.length co17 : Value).ownBlock ∧ some k_ ≠ (.slice Ao116 t428.length co116 : Value).ownBlock ∧ k_ ≠ gb424) (.slice (some ad423) t407.length co11) t407) := ⟨by (with_reducible repeat (first | apply Kd.R_alloc | apply Kd.R_drewN | apply Kd.R_drew)); exact Kd.R_mono (Kd.R_far (p := ⟨gb432, 1, none⟩) (Kd.R_far (p := ⟨gb432, 0, none⟩) (Kd.R_types HO_414001.out BK432.out (by decide)) (fun _ hk => hk.2) (.int .i64 t427)) (fun _ hk => hk.2) (.slice Ao116 t428.length co116)) (fun _ hk => ⟨hk.1.1.1, ⟨hk.1.2, hk.1.1.2⟩⟩)⟩
                     have n2_ : Aside0 (Kd.R k81 81 ((w111.setCell ⟨gb432, 0, none⟩ (.int .i64 t427)).setCell ⟨gb432, 1, none⟩ (.slice Ao116 t428.length co116)) w.heap.size (fun k_ => some k_ ≠ (.slice (some ad423) t407.length co11 : Value).ownBlock ∧ some k_ ≠ (.slice Ao116 t428.length co116 : Value).ownBlock ∧ k_ ≠ gb424) (.slice Ao17 t415.length co17) t415) := ⟨by (with_reducible repeat (first | apply Kd.R_alloc | apply Kd.R_drewN | apply Kd.R_drew)); exact Kd.R_mono (Kd.R_far (p := ⟨gb432, 1, none⟩) (Kd.R_far (p := ⟨gb432, 0, none⟩) (Kd.R_types HO_419001.out BK432.out (by decide)) (fun _ hk => hk.2) (.int .i64 t427)) (fun _ hk => hk.2) (.slice Ao116 t428.length co116)) (fun _ hk => ⟨hk.1.1.1, ⟨hk.1.2, hk.1.1.2⟩⟩)⟩
                     have n3_ : Aside0 (Kd.R k81 81 ((w111.setCell ⟨gb432, 0, none⟩ (.int .i64 t427)).setCell ⟨gb432, 1, none⟩ (.slice Ao116 t428.length co116)) w.heap.size (fun k_ => some k_ ≠ (.slice (some ad423) t407.length co11 : Value).ownBlock ∧ some k_ ≠ (.slice Ao17 t415.length co17 : Value).ownBlock ∧ k_ ≠ gb424) (.slice Ao116 t428.length co116) t428) := ⟨by (with_reducible repeat (first | apply Kd.R_alloc | apply Kd.R_drewN | apply Kd.R_drew)); exact Kd.R_mono (Kd.R_far (p := ⟨gb432, 1, none⟩) (Kd.R_far (p := ⟨gb432, 0, none⟩) (Kd.R_types HO430.out BK432.out (by decide)) (fun _ hk => hk.2) (.int .i64 t427)) (fun _ hk => hk.2) (.slice Ao116 t428.length co116)) (fun _ hk => ⟨hk.1.1.1.2, ⟨hk.1.1.2, hk.1.2⟩⟩)⟩
                     have n4_ : Aside0 (((w111.setCell ⟨gb432, 0, none⟩ (.int .i64 t427)).setCell ⟨gb432, 1, none⟩ (.slice Ao116 t428.length co116)).heap[gb413]? = some (.cells #[.int .i64 t406, .slice (some ad423) t407.length co11] 63 (0, 0))) := ⟨by (with_reducible repeat (first | refine blk_drewN ?_ _ | refine blk_drew ?_ | refine blk_alloc ?_ _)); refine blk_far ?_ NB413_432.out _; (with_reducible repeat (first | refine blk_drewN ?_ _ | refine blk_drew ?_ | refine blk_alloc ?_ _)); refine blk_far ?_ NB413_432.out _; (with_reducible repeat (first | refine blk_drewN ?_ _ | refine blk_drew ?_ | refine blk_alloc ?_ _)); exact BK413.out⟩
                     have n5_ : Aside0 (((w111.setCell ⟨gb432, 0, none⟩ (.int .i64 t427)).setCell ⟨gb432, 1, none⟩ (.slice Ao116 t428.length co116)).heap[gb418]? = some (.cells #[.int .i64 t414, .slice Ao17 t415.length co17] 63 (0, 0))) := ⟨by (with_reducible repeat (first | refine blk_drewN ?_ _ | refine blk_drew ?_ | refine blk_alloc ?_ _)); refine blk_far ?_ NB418_432.out _; (with_reducible repeat (first | refine blk_drewN ?_ _ | refine blk_drew ?_ | refine blk_alloc ?_ _)); refine blk_far ?_ NB418_432.out _; (with_reducible repeat (first | refine blk_drewN ?_ _ | refine blk_drew ?_ | refine blk_alloc ?_ _)); exact BK418.out⟩
                     have n6_ : Aside0 (((w111.setCell ⟨gb432, 0, none⟩ (.int .i64 t427)).setCell ⟨gb432, 1, none⟩ (.slice Ao116 t428.length co116)).heap[gb424]? = some (.cells #[.int .i64 ((rd_T81 t407 x6_4).f0), .string ((rd_T81 t407 x6_4).f1), .string ((rd_T81 t407 x6_4).f2)] 81 (0, 0))) := ⟨by (with_reducible repeat (first | refine blk_drewN ?_ _ | refine blk_drew ?_ | refine blk_alloc ?_ _)); refine blk_far ?_ NB424_432.out _; (with_reducible repeat (first | refine blk_drewN ?_ _ | refine blk_drew ?_ | refine blk_alloc ?_ _)); refine blk_far ?_ NB424_432.out _; (with_reducible repeat (first | refine blk_drewN ?_ _ | refine blk_drew ?_ | refine blk_alloc ?_ _)); exact BK424.out⟩
                     have n7_ : Aside0 (((w111.setCell ⟨gb432, 0, none⟩ (.int .i64 t427)).setCell ⟨gb432, 1, none⟩ (.slice Ao116 t428.length co116)).heap[gb432]? = some (.cells #[.int .i64 t427, .slice Ao116 t428.length co116] 63 (0, 0))) := ⟨by (with_reducible repeat (first | refine blk_drewN ?_ _ | refine blk_drew ?_ | refine blk_alloc ?_ _)); refine blk_put (cs := #[.int .i64 t427, .slice none 0 0]) ?_ 1 _ rfl; (with_reducible repeat (first | refine blk_drewN ?_ _ | refine blk_drew ?_ | refine blk_alloc ?_ _)); refine blk_put (cs := #[.int .i64 0, .slice none 0 0]) ?_ 0 _ rfl; (with_reducible repeat (first | refine blk_drewN ?_ _ | refine blk_drew ?_ | refine blk_alloc ?_ _)); exact BK432.out⟩
                     have n8_ : Aside0 (Below w.heap.size w ((w111.setCell ⟨gb432, 0, none⟩ (.int .i64 t427)).setCell ⟨gb432, 1, none⟩ (.slice Ao116 t428.length co116))) := ⟨xbg⟩
                     (try clear HO_4); (try clear HO_414001); (try clear HO_419001); (try clear HO430); (try clear BK413); (try clear BK418); (try clear BK424); (try clear BK432); (try clear HB)
                     generalize ((w111.setCell ⟨gb432, 0, none⟩ (.int .i64 t427)).setCell ⟨gb432, 1, none⟩ (.slice Ao116 t428.length co116)) = w117 at n0_ n1_ n2_ n3_ n4_ n5_ n6_ n7_ n8_ ⊢
                     have HO_4 := n0_
                     have HO_414001 := n1_
                     have HO_419001 := n2_
                     have HO430 := n3_
                     have BK413 := n4_
                     have BK418 := n5_
                     have BK424 := n6_
                     have BK432 := n7_
                     have HB := n8_
                     clear n0_ n1_ n2_ n3_ n4_ n5_ n6_ n7_ n8_
                     replace HO_4 := Aside0.mk (Kd.R_drew HO_4.out)
                     replace HO_414001 := Aside0.mk (Kd.R_drew HO_414001.out)
                     replace HO_419001 := Aside0.mk (Kd.R_drew HO_419001.out)
                     replace HO430 := Aside0.mk (Kd.R_drew HO430.out)
                     replace BK413 := Aside0.mk (blk_drew BK413.out)
                     replace BK418 := Aside0.mk (blk_drew BK418.out)
                     replace BK424 := Aside0.mk (blk_drew BK424.out)
                     replace BK432 := Aside0.mk (blk_drew BK432.out)
                     replace HB := Aside0.mk (below_drew1 HB.out)
                     refine start_ (n := 11) (S := fun w' => w'.cell? ⟨gb432, 0, none⟩ = some (.int .i64 t427) ∧ w'.cell? ⟨gb432, 1, none⟩ = some (.slice Ao116 t428.length co116) ∧ w'.cell? ⟨gb424, 0, none⟩ = some (.int .i64 ((rd_T81 t407 x6_4).f0)) ∧ w'.cell? ⟨gb424, 1, none⟩ = some (.string ((rd_T81 t407 x6_4).f1)) ∧ w'.cell? ⟨gb424, 2, none⟩ = some (.string ((rd_T81 t407 x6_4).f2))) (ds := []) #[false, false, false, false, false, false, false, false, false, false, false] (by kernel_rfl) rfl rfl ⟨(blk_cell BK432.out 0).trans rfl, (blk_cell BK432.out 1).trans rfl, (blk_cell BK424.out 0).trans rfl, (blk_cell BK424.out 1).trans rfl, (blk_cell BK424.out 2).trans rfl⟩ (fun hHeld => ?_); refine with_tabW laws_FnDisk.tab16 laws_FnDisk.bits16 (fun HT_ HW_ => ?_)
                     generalize w117.drew = w118 at HO_4 HO_414001 HO_419001 HO430 BK413 BK418 BK424 BK432 HB hHeld ⊢
                     refine pv_ 1 98 (h := ?_)
                     refine pv_ 3 100 (h := ?_)
                     refine tk_ 0 97 (h := ?_)
                     refine tk_ 4 101 (h := ?_)
                     refine on_ 2 99 (h := fun K hK => ?_)
                     refine goes_ Try.func41 (by kernel_rfl) rfl #[.agg #[.int .i64 t427, .slice Ao116 t428.length co116], .slice Ao12 t410.length co12] (by rfl) rfl rfl (by (try simp only [List.map_toArray, List.map_cons, List.map_nil]); first | done | rfl | (simp only [List.length_drop, List.length_take]; rfl)) ?_
                     with_reducible refine (impl_DiskCrash.calls kj79 t427 _ _ t428 _ _ t410 t433 t434 _ ?side1 ?side2 ?side3 ?side4 A83.out).mono ?_
                     (case side1 => repeat (first | exact (Kd.R_reads' HO430.out).2.2 | (with_reducible refine Kd.C_alloc ?_ _) | (with_reducible refine Kd.C_drewN ?_ _) | (with_reducible refine Kd.C_drew ?_)))
                     (case side2 => exact (Kd.R_reads' HO430.out).2.1)
                     (case side3 => repeat (first | exact (Kd.R_reads' HO_4.out).2.2 | (with_reducible refine Kd.C_alloc ?_ _) | (with_reducible refine Kd.C_drewN ?_ _) | (with_reducible refine Kd.C_drew ?_)))
                     (case side4 => exact (Kd.R_reads' HO_4.out).2.1)
                     rintro e w119 ⟨v435, rfl, ho0, hb⟩
                     refine ⟨_, rfl, ?_⟩
                     replace HO_4 := Aside0.mk (Kd.R_below (by (with_reducible repeat (first | apply Kd.R_alloc | apply Kd.R_drewN | apply Kd.R_drew)); exact HO_4.out) hb)
                     have HO436 := Aside0.mk (Kd.R_lower (Kd.R_newB (Kd.R_new' (Kd.R_new' (Kd.R_new' ho0 (Kd.R_lt (by (with_reducible repeat (first | apply Kd.R_alloc | apply Kd.R_drewN | apply Kd.R_drew)); exact HO_414001.out))) (Kd.R_lt (by (with_reducible repeat (first | apply Kd.R_alloc | apply Kd.R_drewN | apply Kd.R_drew)); exact HO_419001.out))) (Kd.R_lt (by (with_reducible repeat (first | apply Kd.R_alloc | apply Kd.R_drewN | apply Kd.R_drew)); exact HO430.out))) (g := gb424) (o := .cells #[.int .i64 ((rd_T81 t407 x6_4).f0), .string ((rd_T81 t407 x6_4).f1), .string ((rd_T81 t407 x6_4).f2)] 81 (0, 0)) xblk) (below_size xbg))
                     replace HO_414001 := Aside0.mk (Kd.R_elder' (by (with_reducible repeat (first | apply Kd.R_alloc | apply Kd.R_drewN | apply Kd.R_drew)); exact HO_414001.out) (Kd.R_base ho0) hb)
                     replace HO_419001 := Aside0.mk (Kd.R_elder' (by (with_reducible repeat (first | apply Kd.R_alloc | apply Kd.R_drewN | apply Kd.R_drew)); exact HO_419001.out) (Kd.R_base ho0) hb)
                     replace HO430 := Aside0.mk (Kd.R_elder' (by (with_reducible repeat (first | apply Kd.R_alloc | apply Kd.R_drewN | apply Kd.R_drew)); exact HO430.out) (Kd.R_base ho0) hb)
                     replace BK413 := xbb BK413 hb
                     replace BK418 := xbb BK418 hb
                     replace BK424 := xbb BK424 hb
                     replace BK432 := xbb BK432 hb
                     replace HB := xbs hb
                     (try clear hb); (try clear hb2); (try clear hk); (try clear hi); (try clear ho0)
                     obtain ⟨Ao120, co120, eo120⟩ := Kd.R_slice HO436.out
                     (first | subst eo120 | (injection eo120 with f1_ f2_ f3_; have f4_ := f1_.symm; have f5_ := f3_.symm; clear f1_ f2_ f3_; subst f4_; subst f5_))
                     refine hK.out _ _ ⟨(blk_cell BK432.out 0).trans rfl, (blk_cell BK432.out 1).trans rfl, (blk_cell BK424.out 0).trans rfl, (blk_cell BK424.out 1).trans rfl, (blk_cell BK424.out 2).trans rfl⟩ (fun hHeld => ?_)
                     clear hK K
                     refine norm_ (a' := ?_) ?_ ?_
                     rotate_left
                     ·show Act.put _ (some 99) _ = _
                      simp only [Act.put, List.setIfInBounds_toArray, List.set_cons_zero, List.set_cons_succ, i64_w, i32_w]
                      rfl
                     refine on_ 5 102 (h := fun K hK => ?_)
                     refine goes_ Try.func48 (by kernel_rfl) rfl #[.agg #[.int .i64 t433, .slice Ao120 t434.length co120], .int .i64 ((rd_T81 t407 x6_4).f0)] (by rfl) rfl rfl (by (try simp only [List.map_toArray, List.map_cons, List.map_nil]); first | done | rfl | (simp only [List.length_drop, List.length_take]; rfl)) ?_
                     with_reducible refine (impl_DiskRead.calls kj79 t433 _ _ t434 ((rd_T81 t407 x6_4).f0) t437 true _ ?side1 ?side2 A84.out).mono ?_
                     (case side1 => repeat (first | exact (Kd.R_reads' HO436.out).2.2 | (with_reducible refine Kd.C_alloc ?_ _) | (with_reducible refine Kd.C_drewN ?_ _) | (with_reducible refine Kd.C_drew ?_)))
                     (case side2 => exact (Kd.R_reads' HO436.out).2.1)
                     rintro e w121 ⟨rfl, hb⟩
                     refine ⟨_, rfl, ?_⟩
                     replace HO_4 := Aside0.mk (Kd.R_below (by (with_reducible repeat (first | apply Kd.R_alloc | apply Kd.R_drewN | apply Kd.R_drew)); exact HO_4.out) hb)
                     replace HO_414001 := Aside0.mk (Kd.R_below (by (with_reducible repeat (first | apply Kd.R_alloc | apply Kd.R_drewN | apply Kd.R_drew)); exact HO_414001.out) hb)
                     replace HO_419001 := Aside0.mk (Kd.R_below (by (with_reducible repeat (first | apply Kd.R_alloc | apply Kd.R_drewN | apply Kd.R_drew)); exact HO_419001.out) hb)
                     replace HO430 := Aside0.mk (Kd.R_below (by (with_reducible repeat (first | apply Kd.R_alloc | apply Kd.R_drewN | apply Kd.R_drew)); exact HO430.out) hb)
                     replace HO436 := Aside0.mk (Kd.R_below (by (with_reducible repeat (first | apply Kd.R_alloc | apply Kd.R_drewN | apply Kd.R_drew)); exact HO436.out) hb)
                     replace BK413 := xbb BK413 hb
                     replace BK418 := xbb BK418 hb
                     replace BK424 := xbb BK424 hb
                     replace BK432 := xbb BK432 hb
                     replace HB := xbs hb
                     (try clear hb); (try clear hb2); (try clear hk); (try clear hi)
                     refine hK.out _ _ ⟨(blk_cell BK432.out 0).trans rfl, (blk_cell BK432.out 1).trans rfl, (blk_cell BK424.out 0).trans rfl, (blk_cell BK424.out 1).trans rfl, (blk_cell BK424.out 2).trans rfl⟩ (fun hHeld => ?_)
                     clear hK K
                     refine norm_ (a' := ?_) ?_ ?_
                     rotate_left
                     ·show Act.put _ (some 102) _ = _
                      simp only [Act.put, List.setIfInBounds_toArray, List.set_cons_zero, List.set_cons_succ, i64_w, i32_w]
                      rfl
                     refine pv_ 6 96 (h := ?_)
                     refine pv_ 7 103 (h := ?_)
                     refine pv_ 8 104 (h := ?_)
                     refine pv_ 9 8 (h := ?_)
                     refine pv_ 10 9 (h := ?_)
                     refine done_ (done_of HT_.out (by kernel_rfl)) ?_
                     try go_wp2
                     go_ret
                     exact ⟨by first | rfl | (simp [errW_none, errW_some] <;> rfl) | (simp [*, errW_none, errW_some] <;> rfl), xbg⟩
                   ·replace c86 := Bool.eq_false_iff.mpr c86
                    subst c86
                    have H1 : (some false) = some r := by rw [if_neg (show ¬ (false = true) by decide)] at H; exact H
                    clear H
                    have H := H1
                    clear H1
                    obtain rfl := Option.some.inj H
                    have hnb122 := NB413_418.out
                    have hnc122 := NB418_413.out
                    have hnb123 := NB413_424.out
                    have hnc123 := NB424_413.out
                    have hcz124_0 : wc.cell? ⟨gb413, 0, none⟩ = some (.int .i64 t406) := (blk_cell BK413.out 0).trans rfl
                    have hcz124_1 : wc.cell? ⟨gb413, 1, none⟩ = some (.slice (some ad423) t407.length co11) := (blk_cell BK413.out 1).trans rfl
                    have hfz124_0 := blk_frozen BK413.out 0
                    have hfz124_1 := blk_frozen BK413.out 1
                    have hnb125 := NB424_418.out
                    have hnc125 := NB418_424.out
                    have hcz126_0 : wc.cell? ⟨gb424, 0, none⟩ = some (.int .i64 ((rd_T81 t407 x6_4).f0)) := (blk_cell BK424.out 0).trans rfl
                    have hcz126_1 : wc.cell? ⟨gb424, 1, none⟩ = some (.string ((rd_T81 t407 x6_4).f1)) := (blk_cell BK424.out 1).trans rfl
                    have hcz126_2 : wc.cell? ⟨gb424, 2, none⟩ = some (.string ((rd_T81 t407 x6_4).f2)) := (blk_cell BK424.out 2).trans rfl
                    have hfz126_0 := blk_frozen BK424.out 0
                    have hfz126_1 := blk_frozen BK424.out 1
                    have hfz126_2 := blk_frozen BK424.out 2
                    try go_wp2_with (first | ((with_reducible refine gate_callee (f := 35) rfl ?_); refine goesL_ (some 93) rfl rfl Try.func35 (by kernel_rfl) rfl #[.agg #[.int .i64 t406, .slice (some ad423) t407.length co11], .int .i64 ((rd_T81 t407 x6_4).f0)] rfl (by (try simp only [List.map_toArray, List.map_cons, List.map_nil]); first | done | rfl | (simp only [List.length_drop, List.length_take]; rfl)) ?_; (with_reducible refine (impl_DiskSync.calls kj79 t406 _ _ t407 ((rd_T81 t407 x6_4).f0) t427 t428 t431 _ ?side1 ?side2 A82.out).mono ?_); (case side1 => repeat (first | exact (Kd.R_reads' HO_414001.out).2.2 | (with_reducible refine Kd.C_alloc ?_ _) | (with_reducible refine Kd.C_drewN ?_ _) | (with_reducible refine Kd.C_drew ?_))); (case side2 => exact (Kd.R_reads' HO_414001.out).2.1); rintro e w127 ⟨v429, rfl, ho0, hb⟩; refine ⟨_, rfl, ?_⟩; replace HO_4 := Aside0.mk (Kd.R_below (by (with_reducible repeat (first | apply Kd.R_alloc | apply Kd.R_drewN | apply Kd.R_drew)); exact HO_4.out) hb); have HO430 := Aside0.mk (Kd.R_lower (Kd.R_newB (Kd.R_new' (Kd.R_new' ho0 (Kd.R_lt (by (with_reducible repeat (first | apply Kd.R_alloc | apply Kd.R_drewN | apply Kd.R_drew)); exact HO_414001.out))) (Kd.R_lt (by (with_reducible repeat (first | apply Kd.R_alloc | apply Kd.R_drewN | apply Kd.R_drew)); exact HO_419001.out))) (g := gb424) (o := .cells #[.int .i64 ((rd_T81 t407 x6_4).f0), .string ((rd_T81 t407 x6_4).f1), .string ((rd_T81 t407 x6_4).f2)] 81 (0, 0)) xblk) (below_size xbg)); replace HO_414001 := Aside0.mk (Kd.R_elder' (by (with_reducible repeat (first | apply Kd.R_alloc | apply Kd.R_drewN | apply Kd.R_drew)); exact HO_414001.out) (Kd.R_base ho0) hb); replace HO_419001 := Aside0.mk (Kd.R_elder' (by (with_reducible repeat (first | apply Kd.R_alloc | apply Kd.R_drewN | apply Kd.R_drew)); exact HO_419001.out) (Kd.R_base ho0) hb); replace BK413 := xbb BK413 hb; replace BK418 := xbb BK418 hb; replace BK424 := xbb BK424 hb; replace HB := xbs hb; (try clear hb); (try clear hb2); (try clear hk); (try clear hi); (try clear ho0)) | ((with_reducible refine gate_dst (N := 11) rfl ?_); (try (refine gate_guard (by rfl) ?_; dsimp only)); refine box_event ?hg (N := 11) ?hd (cs := #[.int .i64 0, .slice none 0 0]) (t := 63) ?hr ?_; (case hd => rfl); (case hg => rfl); (case hr => first | (go_simp; done) | (go_simp; rfl)); intro gb432 hg w128 hbox hb; replace HO_4 := Aside0.mk (Kd.R_below (by (with_reducible repeat (first | apply Kd.R_alloc | apply Kd.R_drewN | apply Kd.R_drew)); exact HO_4.out) hb); replace HO_414001 := Aside0.mk (Kd.R_below (by (with_reducible repeat (first | apply Kd.R_alloc | apply Kd.R_drewN | apply Kd.R_drew)); exact HO_414001.out) hb); replace HO_419001 := Aside0.mk (Kd.R_below (by (with_reducible repeat (first | apply Kd.R_alloc | apply Kd.R_drewN | apply Kd.R_drew)); exact HO_419001.out) hb); replace HO430 := Aside0.mk (Kd.R_below (by (with_reducible repeat (first | apply Kd.R_alloc | apply Kd.R_drewN | apply Kd.R_drew)); exact HO430.out) hb); have GW432 := Aside0.mk (xge hg); have GE432 := Aside0.mk (xge hg); replace HB := xbs hb; have NB413_432 := Aside0.mk ((by rw [hg]; exact Nat.ne_of_lt (blk_lt (g := gb413) (o := .cells #[.int .i64 t406, .slice (some ad423) t407.length co11] 63 (0, 0)) xblk) : gb413 ≠ gb432)); have NB432_413 := Aside0.mk ((by rw [hg]; exact Nat.ne_of_gt (blk_lt (g := gb413) (o := .cells #[.int .i64 t406, .slice (some ad423) t407.length co11] 63 (0, 0)) xblk) : gb432 ≠ gb413)); have NB418_432 := Aside0.mk ((by rw [hg]; exact Nat.ne_of_lt (blk_lt (g := gb418) (o := .cells #[.int .i64 t414, .slice Ao17 t415.length co17] 63 (0, 0)) xblk) : gb418 ≠ gb432)); have NB432_418 := Aside0.mk ((by rw [hg]; exact Nat.ne_of_gt (blk_lt (g := gb418) (o := .cells #[.int .i64 t414, .slice Ao17 t415.length co17] 63 (0, 0)) xblk) : gb432 ≠ gb418)); have NB424_432 := Aside0.mk ((by rw [hg]; exact Nat.ne_of_lt (blk_lt (g := gb424) (o := .cells #[.int .i64 ((rd_T81 t407 x6_4).f0), .string ((rd_T81 t407 x6_4).f1), .string ((rd_T81 t407 x6_4).f2)] 81 (0, 0)) xblk) : gb424 ≠ gb432)); have NB432_424 := Aside0.mk ((by rw [hg]; exact Nat.ne_of_gt (blk_lt (g := gb424) (o := .cells #[.int .i64 ((rd_T81 t407 x6_4).f0), .string ((rd_T81 t407 x6_4).f1), .string ((rd_T81 t407 x6_4).f2)] 81 (0, 0)) xblk) : gb432 ≠ gb424)); replace BK413 := xbb BK413 hb; replace BK418 := xbb BK418 hb; replace BK424 := xbb BK424 hb; have BK432 := Aside0.mk (hbox); clear hb hbox hg; have hnb129 := NB432_413.out; have hnc129 := NB413_432.out; have hnb130 := NB432_418.out; have hnc130 := NB418_432.out; have hnb131 := NB432_424.out; have hnc131 := NB424_432.out; have hcz132_0 : w128.cell? ⟨gb432, 0, none⟩ = some (.int .i64 0) := (blk_cell BK432.out 0).trans rfl; have hcz132_1 : w128.cell? ⟨gb432, 1, none⟩ = some (.slice none 0 0) := (blk_cell BK432.out 1).trans rfl; have hfz132_0 := blk_frozen BK432.out 0; have hfz132_1 := blk_frozen BK432.out 1; obtain ⟨Ao133, co133, eo133⟩ := Kd.R_slice HO430.out; subst eo133))
                    have n0_ : Aside0 (Kd.R (Kd.int .i64) 3 ((w128.setCell ⟨gb432, 0, none⟩ (.int .i64 t427)).setCell ⟨gb432, 1, none⟩ (.slice Ao133 t428.length co133)) w.heap.size (fun _ => True) (.slice Ao12 t410.length co12) t410) := ⟨by (with_reducible repeat (first | apply Kd.R_alloc | apply Kd.R_drewN | apply Kd.R_drew)); exact Kd.R_mono (Kd.R_far (p := ⟨gb432, 1, none⟩) (Kd.R_far (p := ⟨gb432, 0, none⟩) (Kd.R_types HO_4.out BK432.out (by decide)) (fun _ hk => hk.2) (.int .i64 t427)) (fun _ hk => hk.2) (.slice Ao133 t428.length co133)) (fun _ hk => trivial)⟩
                    have n1_ : Aside0 (Kd.R k81 81 ((w128.setCell ⟨gb432, 0, none⟩ (.int .i64 t427)).setCell ⟨gb432, 1, none⟩ (.slice Ao133 t428.length co133)) w.heap.size (fun k_ => some k_ ≠ (.slice Ao17 t415.length co17 : Value).ownBlock ∧ some k_ ≠ (.slice Ao133 t428.length co133 : Value).ownBlock ∧ k_ ≠ gb424) (.slice (some ad423) t407.length co11) t407) := ⟨by (with_reducible repeat (first | apply Kd.R_alloc | apply Kd.R_drewN | apply Kd.R_drew)); exact Kd.R_mono (Kd.R_far (p := ⟨gb432, 1, none⟩) (Kd.R_far (p := ⟨gb432, 0, none⟩) (Kd.R_types HO_414001.out BK432.out (by decide)) (fun _ hk => hk.2) (.int .i64 t427)) (fun _ hk => hk.2) (.slice Ao133 t428.length co133)) (fun _ hk => ⟨hk.1.1.1, ⟨hk.1.2, hk.1.1.2⟩⟩)⟩
                    have n2_ : Aside0 (Kd.R k81 81 ((w128.setCell ⟨gb432, 0, none⟩ (.int .i64 t427)).setCell ⟨gb432, 1, none⟩ (.slice Ao133 t428.length co133)) w.heap.size (fun k_ => some k_ ≠ (.slice (some ad423) t407.length co11 : Value).ownBlock ∧ some k_ ≠ (.slice Ao133 t428.length co133 : Value).ownBlock ∧ k_ ≠ gb424) (.slice Ao17 t415.length co17) t415) := ⟨by (with_reducible repeat (first | apply Kd.R_alloc | apply Kd.R_drewN | apply Kd.R_drew)); exact Kd.R_mono (Kd.R_far (p := ⟨gb432, 1, none⟩) (Kd.R_far (p := ⟨gb432, 0, none⟩) (Kd.R_types HO_419001.out BK432.out (by decide)) (fun _ hk => hk.2) (.int .i64 t427)) (fun _ hk => hk.2) (.slice Ao133 t428.length co133)) (fun _ hk => ⟨hk.1.1.1, ⟨hk.1.2, hk.1.1.2⟩⟩)⟩
                    have n3_ : Aside0 (Kd.R k81 81 ((w128.setCell ⟨gb432, 0, none⟩ (.int .i64 t427)).setCell ⟨gb432, 1, none⟩ (.slice Ao133 t428.length co133)) w.heap.size (fun k_ => some k_ ≠ (.slice (some ad423) t407.length co11 : Value).ownBlock ∧ some k_ ≠ (.slice Ao17 t415.length co17 : Value).ownBlock ∧ k_ ≠ gb424) (.slice Ao133 t428.length co133) t428) := ⟨by (with_reducible repeat (first | apply Kd.R_alloc | apply Kd.R_drewN | apply Kd.R_drew)); exact Kd.R_mono (Kd.R_far (p := ⟨gb432, 1, none⟩) (Kd.R_far (p := ⟨gb432, 0, none⟩) (Kd.R_types HO430.out BK432.out (by decide)) (fun _ hk => hk.2) (.int .i64 t427)) (fun _ hk => hk.2) (.slice Ao133 t428.length co133)) (fun _ hk => ⟨hk.1.1.1.2, ⟨hk.1.1.2, hk.1.2⟩⟩)⟩
                    have n4_ : Aside0 (((w128.setCell ⟨gb432, 0, none⟩ (.int .i64 t427)).setCell ⟨gb432, 1, none⟩ (.slice Ao133 t428.length co133)).heap[gb413]? = some (.cells #[.int .i64 t406, .slice (some ad423) t407.length co11] 63 (0, 0))) := ⟨by (with_reducible repeat (first | refine blk_drewN ?_ _ | refine blk_drew ?_ | refine blk_alloc ?_ _)); refine blk_far ?_ NB413_432.out _; (with_reducible repeat (first | refine blk_drewN ?_ _ | refine blk_drew ?_ | refine blk_alloc ?_ _)); refine blk_far ?_ NB413_432.out _; (with_reducible repeat (first | refine blk_drewN ?_ _ | refine blk_drew ?_ | refine blk_alloc ?_ _)); exact BK413.out⟩
                    have n5_ : Aside0 (((w128.setCell ⟨gb432, 0, none⟩ (.int .i64 t427)).setCell ⟨gb432, 1, none⟩ (.slice Ao133 t428.length co133)).heap[gb418]? = some (.cells #[.int .i64 t414, .slice Ao17 t415.length co17] 63 (0, 0))) := ⟨by (with_reducible repeat (first | refine blk_drewN ?_ _ | refine blk_drew ?_ | refine blk_alloc ?_ _)); refine blk_far ?_ NB418_432.out _; (with_reducible repeat (first | refine blk_drewN ?_ _ | refine blk_drew ?_ | refine blk_alloc ?_ _)); refine blk_far ?_ NB418_432.out _; (with_reducible repeat (first | refine blk_drewN ?_ _ | refine blk_drew ?_ | refine blk_alloc ?_ _)); exact BK418.out⟩
                    have n6_ : Aside0 (((w128.setCell ⟨gb432, 0, none⟩ (.int .i64 t427)).setCell ⟨gb432, 1, none⟩ (.slice Ao133 t428.length co133)).heap[gb424]? = some (.cells #[.int .i64 ((rd_T81 t407 x6_4).f0), .string ((rd_T81 t407 x6_4).f1), .string ((rd_T81 t407 x6_4).f2)] 81 (0, 0))) := ⟨by (with_reducible repeat (first | refine blk_drewN ?_ _ | refine blk_drew ?_ | refine blk_alloc ?_ _)); refine blk_far ?_ NB424_432.out _; (with_reducible repeat (first | refine blk_drewN ?_ _ | refine blk_drew ?_ | refine blk_alloc ?_ _)); refine blk_far ?_ NB424_432.out _; (with_reducible repeat (first | refine blk_drewN ?_ _ | refine blk_drew ?_ | refine blk_alloc ?_ _)); exact BK424.out⟩
                    have n7_ : Aside0 (((w128.setCell ⟨gb432, 0, none⟩ (.int .i64 t427)).setCell ⟨gb432, 1, none⟩ (.slice Ao133 t428.length co133)).heap[gb432]? = some (.cells #[.int .i64 t427, .slice Ao133 t428.length co133] 63 (0, 0))) := ⟨by (with_reducible repeat (first | refine blk_drewN ?_ _ | refine blk_drew ?_ | refine blk_alloc ?_ _)); refine blk_put (cs := #[.int .i64 t427, .slice none 0 0]) ?_ 1 _ rfl; (with_reducible repeat (first | refine blk_drewN ?_ _ | refine blk_drew ?_ | refine blk_alloc ?_ _)); refine blk_put (cs := #[.int .i64 0, .slice none 0 0]) ?_ 0 _ rfl; (with_reducible repeat (first | refine blk_drewN ?_ _ | refine blk_drew ?_ | refine blk_alloc ?_ _)); exact BK432.out⟩
                    have n8_ : Aside0 (Below w.heap.size w ((w128.setCell ⟨gb432, 0, none⟩ (.int .i64 t427)).setCell ⟨gb432, 1, none⟩ (.slice Ao133 t428.length co133))) := ⟨xbg⟩
                    (try clear HO_4); (try clear HO_414001); (try clear HO_419001); (try clear HO430); (try clear BK413); (try clear BK418); (try clear BK424); (try clear BK432); (try clear HB)
                    generalize ((w128.setCell ⟨gb432, 0, none⟩ (.int .i64 t427)).setCell ⟨gb432, 1, none⟩ (.slice Ao133 t428.length co133)) = w134 at n0_ n1_ n2_ n3_ n4_ n5_ n6_ n7_ n8_ ⊢
                    have HO_4 := n0_
                    have HO_414001 := n1_
                    have HO_419001 := n2_
                    have HO430 := n3_
                    have BK413 := n4_
                    have BK418 := n5_
                    have BK424 := n6_
                    have BK432 := n7_
                    have HB := n8_
                    clear n0_ n1_ n2_ n3_ n4_ n5_ n6_ n7_ n8_
                    replace HO_4 := Aside0.mk (Kd.R_drew HO_4.out)
                    replace HO_414001 := Aside0.mk (Kd.R_drew HO_414001.out)
                    replace HO_419001 := Aside0.mk (Kd.R_drew HO_419001.out)
                    replace HO430 := Aside0.mk (Kd.R_drew HO430.out)
                    replace BK413 := Aside0.mk (blk_drew BK413.out)
                    replace BK418 := Aside0.mk (blk_drew BK418.out)
                    replace BK424 := Aside0.mk (blk_drew BK424.out)
                    replace BK432 := Aside0.mk (blk_drew BK432.out)
                    replace HB := Aside0.mk (below_drew1 HB.out)
                    refine start_ (n := 11) (S := fun w' => w'.cell? ⟨gb432, 0, none⟩ = some (.int .i64 t427) ∧ w'.cell? ⟨gb432, 1, none⟩ = some (.slice Ao133 t428.length co133) ∧ w'.cell? ⟨gb424, 0, none⟩ = some (.int .i64 ((rd_T81 t407 x6_4).f0)) ∧ w'.cell? ⟨gb424, 1, none⟩ = some (.string ((rd_T81 t407 x6_4).f1)) ∧ w'.cell? ⟨gb424, 2, none⟩ = some (.string ((rd_T81 t407 x6_4).f2))) (ds := []) #[false, false, false, false, false, false, false, false, false, false, false] (by kernel_rfl) rfl rfl ⟨(blk_cell BK432.out 0).trans rfl, (blk_cell BK432.out 1).trans rfl, (blk_cell BK424.out 0).trans rfl, (blk_cell BK424.out 1).trans rfl, (blk_cell BK424.out 2).trans rfl⟩ (fun hHeld => ?_); refine with_tabW laws_FnDisk.tab16 laws_FnDisk.bits16 (fun HT_ HW_ => ?_)
                    generalize w134.drew = w135 at HO_4 HO_414001 HO_419001 HO430 BK413 BK418 BK424 BK432 HB hHeld ⊢
                    refine pv_ 1 98 (h := ?_)
                    refine pv_ 3 100 (h := ?_)
                    refine tk_ 0 97 (h := ?_)
                    refine tk_ 4 101 (h := ?_)
                    refine on_ 2 99 (h := fun K hK => ?_)
                    refine goes_ Try.func41 (by kernel_rfl) rfl #[.agg #[.int .i64 t427, .slice Ao133 t428.length co133], .slice Ao12 t410.length co12] (by rfl) rfl rfl (by (try simp only [List.map_toArray, List.map_cons, List.map_nil]); first | done | rfl | (simp only [List.length_drop, List.length_take]; rfl)) ?_
                    with_reducible refine (impl_DiskCrash.calls kj79 t427 _ _ t428 _ _ t410 t433 t434 _ ?side1 ?side2 ?side3 ?side4 A83.out).mono ?_
                    (case side1 => repeat (first | exact (Kd.R_reads' HO430.out).2.2 | (with_reducible refine Kd.C_alloc ?_ _) | (with_reducible refine Kd.C_drewN ?_ _) | (with_reducible refine Kd.C_drew ?_)))
                    (case side2 => exact (Kd.R_reads' HO430.out).2.1)
                    (case side3 => repeat (first | exact (Kd.R_reads' HO_4.out).2.2 | (with_reducible refine Kd.C_alloc ?_ _) | (with_reducible refine Kd.C_drewN ?_ _) | (with_reducible refine Kd.C_drew ?_)))
                    (case side4 => exact (Kd.R_reads' HO_4.out).2.1)
                    rintro e w136 ⟨v435, rfl, ho0, hb⟩
                    refine ⟨_, rfl, ?_⟩
                    replace HO_4 := Aside0.mk (Kd.R_below (by (with_reducible repeat (first | apply Kd.R_alloc | apply Kd.R_drewN | apply Kd.R_drew)); exact HO_4.out) hb)
                    have HO436 := Aside0.mk (Kd.R_lower (Kd.R_newB (Kd.R_new' (Kd.R_new' (Kd.R_new' ho0 (Kd.R_lt (by (with_reducible repeat (first | apply Kd.R_alloc | apply Kd.R_drewN | apply Kd.R_drew)); exact HO_414001.out))) (Kd.R_lt (by (with_reducible repeat (first | apply Kd.R_alloc | apply Kd.R_drewN | apply Kd.R_drew)); exact HO_419001.out))) (Kd.R_lt (by (with_reducible repeat (first | apply Kd.R_alloc | apply Kd.R_drewN | apply Kd.R_drew)); exact HO430.out))) (g := gb424) (o := .cells #[.int .i64 ((rd_T81 t407 x6_4).f0), .string ((rd_T81 t407 x6_4).f1), .string ((rd_T81 t407 x6_4).f2)] 81 (0, 0)) xblk) (below_size xbg))
                    replace HO_414001 := Aside0.mk (Kd.R_elder' (by (with_reducible repeat (first | apply Kd.R_alloc | apply Kd.R_drewN | apply Kd.R_drew)); exact HO_414001.out) (Kd.R_base ho0) hb)
                    replace HO_419001 := Aside0.mk (Kd.R_elder' (by (with_reducible repeat (first | apply Kd.R_alloc | apply Kd.R_drewN | apply Kd.R_drew)); exact HO_419001.out) (Kd.R_base ho0) hb)
                    replace HO430 := Aside0.mk (Kd.R_elder' (by (with_reducible repeat (first | apply Kd.R_alloc | apply Kd.R_drewN | apply Kd.R_drew)); exact HO430.out) (Kd.R_base ho0) hb)
                    replace BK413 := xbb BK413 hb
                    replace BK418 := xbb BK418 hb
                    replace BK424 := xbb BK424 hb
                    replace BK432 := xbb BK432 hb
                    replace HB := xbs hb
                    (try clear hb); (try clear hb2); (try clear hk); (try clear hi); (try clear ho0)
                    obtain ⟨Ao137, co137, eo137⟩ := Kd.R_slice HO436.out
                    (first | subst eo137 | (injection eo137 with f1_ f2_ f3_; have f4_ := f1_.symm; have f5_ := f3_.symm; clear f1_ f2_ f3_; subst f4_; subst f5_))
                    refine hK.out _ _ ⟨(blk_cell BK432.out 0).trans rfl, (blk_cell BK432.out 1).trans rfl, (blk_cell BK424.out 0).trans rfl, (blk_cell BK424.out 1).trans rfl, (blk_cell BK424.out 2).trans rfl⟩ (fun hHeld => ?_)
                    clear hK K
                    refine norm_ (a' := ?_) ?_ ?_
                    rotate_left
                    ·show Act.put _ (some 99) _ = _
                     simp only [Act.put, List.setIfInBounds_toArray, List.set_cons_zero, List.set_cons_succ, i64_w, i32_w]
                     rfl
                    refine on_ 5 102 (h := fun K hK => ?_)
                    refine goes_ Try.func48 (by kernel_rfl) rfl #[.agg #[.int .i64 t433, .slice Ao137 t434.length co137], .int .i64 ((rd_T81 t407 x6_4).f0)] (by rfl) rfl rfl (by (try simp only [List.map_toArray, List.map_cons, List.map_nil]); first | done | rfl | (simp only [List.length_drop, List.length_take]; rfl)) ?_
                    with_reducible refine (impl_DiskRead.calls kj79 t433 _ _ t434 ((rd_T81 t407 x6_4).f0) t437 false _ ?side1 ?side2 A84.out).mono ?_
                    (case side1 => repeat (first | exact (Kd.R_reads' HO436.out).2.2 | (with_reducible refine Kd.C_alloc ?_ _) | (with_reducible refine Kd.C_drewN ?_ _) | (with_reducible refine Kd.C_drew ?_)))
                    (case side2 => exact (Kd.R_reads' HO436.out).2.1)
                    rintro e w138 ⟨rfl, hb⟩
                    refine ⟨_, rfl, ?_⟩
                    replace HO_4 := Aside0.mk (Kd.R_below (by (with_reducible repeat (first | apply Kd.R_alloc | apply Kd.R_drewN | apply Kd.R_drew)); exact HO_4.out) hb)
                    replace HO_414001 := Aside0.mk (Kd.R_below (by (with_reducible repeat (first | apply Kd.R_alloc | apply Kd.R_drewN | apply Kd.R_drew)); exact HO_414001.out) hb)
                    replace HO_419001 := Aside0.mk (Kd.R_below (by (with_reducible repeat (first | apply Kd.R_alloc | apply Kd.R_drewN | apply Kd.R_drew)); exact HO_419001.out) hb)
                    replace HO430 := Aside0.mk (Kd.R_below (by (with_reducible repeat (first | apply Kd.R_alloc | apply Kd.R_drewN | apply Kd.R_drew)); exact HO430.out) hb)
                    replace HO436 := Aside0.mk (Kd.R_below (by (with_reducible repeat (first | apply Kd.R_alloc | apply Kd.R_drewN | apply Kd.R_drew)); exact HO436.out) hb)
                    replace BK413 := xbb BK413 hb
                    replace BK418 := xbb BK418 hb
                    replace BK424 := xbb BK424 hb
                    replace BK432 := xbb BK432 hb
                    replace HB := xbs hb
                    (try clear hb); (try clear hb2); (try clear hk); (try clear hi)
                    refine hK.out _ _ ⟨(blk_cell BK432.out 0).trans rfl, (blk_cell BK432.out 1).trans rfl, (blk_cell BK424.out 0).trans rfl, (blk_cell BK424.out 1).trans rfl, (blk_cell BK424.out 2).trans rfl⟩ (fun hHeld => ?_)
                    clear hK K
                    refine norm_ (a' := ?_) ?_ ?_
                    rotate_left
                    ·show Act.put _ (some 102) _ = _
                     simp only [Act.put, List.setIfInBounds_toArray, List.set_cons_zero, List.set_cons_succ, i64_w, i32_w]
                     rfl
                    refine pv_ 6 96 (h := ?_)
                    refine pv_ 7 103 (h := ?_)
                    refine pv_ 8 104 (h := ?_)
                    refine pv_ 9 8 (h := ?_)
                    refine pv_ 10 9 (h := ?_)
                    refine done_ (done_of HT_.out (by kernel_rfl)) ?_
                    try go_wp2
                    go_ret
                    exact ⟨by first | rfl | (simp [errW_none, errW_some] <;> rfl) | (simp [*, errW_none, errW_some] <;> rfl), xbg⟩
                  ·rw [if_neg c85] at H
                   have c85b0 : (t431 == 0) = false := beq_eq_false_iff_ne.mpr c85
                   have c85b1 : (t431 != 0) = true := bne_iff_ne.mpr c85
                   obtain rfl := Option.some.inj H
                   have hnb139 := NB413_418.out
                   have hnc139 := NB418_413.out
                   have hnb140 := NB413_424.out
                   have hnc140 := NB424_413.out
                   have hcz141_0 : wc.cell? ⟨gb413, 0, none⟩ = some (.int .i64 t406) := (blk_cell BK413.out 0).trans rfl
                   have hcz141_1 : wc.cell? ⟨gb413, 1, none⟩ = some (.slice (some ad423) t407.length co11) := (blk_cell BK413.out 1).trans rfl
                   have hfz141_0 := blk_frozen BK413.out 0
                   have hfz141_1 := blk_frozen BK413.out 1
                   have hnb142 := NB424_418.out
                   have hnc142 := NB418_424.out
                   have hcz143_0 : wc.cell? ⟨gb424, 0, none⟩ = some (.int .i64 ((rd_T81 t407 x6_4).f0)) := (blk_cell BK424.out 0).trans rfl
                   have hcz143_1 : wc.cell? ⟨gb424, 1, none⟩ = some (.string ((rd_T81 t407 x6_4).f1)) := (blk_cell BK424.out 1).trans rfl
                   have hcz143_2 : wc.cell? ⟨gb424, 2, none⟩ = some (.string ((rd_T81 t407 x6_4).f2)) := (blk_cell BK424.out 2).trans rfl
                   have hfz143_0 := blk_frozen BK424.out 0
                   have hfz143_1 := blk_frozen BK424.out 1
                   have hfz143_2 := blk_frozen BK424.out 2
                   try go_wp2_with (first | ((with_reducible refine gate_callee (f := 35) rfl ?_); refine goesL_ (some 93) rfl rfl Try.func35 (by kernel_rfl) rfl #[.agg #[.int .i64 t406, .slice (some ad423) t407.length co11], .int .i64 ((rd_T81 t407 x6_4).f0)] rfl (by (try simp only [List.map_toArray, List.map_cons, List.map_nil]); first | done | rfl | (simp only [List.length_drop, List.length_take]; rfl)) ?_; (with_reducible refine (impl_DiskSync.calls kj79 t406 _ _ t407 ((rd_T81 t407 x6_4).f0) t427 t428 t431 _ ?side1 ?side2 A82.out).mono ?_); (case side1 => repeat (first | exact (Kd.R_reads' HO_414001.out).2.2 | (with_reducible refine Kd.C_alloc ?_ _) | (with_reducible refine Kd.C_drewN ?_ _) | (with_reducible refine Kd.C_drew ?_))); (case side2 => exact (Kd.R_reads' HO_414001.out).2.1); rintro e w144 ⟨v429, rfl, ho0, hb⟩; refine ⟨_, rfl, ?_⟩; replace HO_4 := Aside0.mk (Kd.R_below (by (with_reducible repeat (first | apply Kd.R_alloc | apply Kd.R_drewN | apply Kd.R_drew)); exact HO_4.out) hb); have HO430 := Aside0.mk (Kd.R_lower (Kd.R_newB (Kd.R_new' (Kd.R_new' ho0 (Kd.R_lt (by (with_reducible repeat (first | apply Kd.R_alloc | apply Kd.R_drewN | apply Kd.R_drew)); exact HO_414001.out))) (Kd.R_lt (by (with_reducible repeat (first | apply Kd.R_alloc | apply Kd.R_drewN | apply Kd.R_drew)); exact HO_419001.out))) (g := gb424) (o := .cells #[.int .i64 ((rd_T81 t407 x6_4).f0), .string ((rd_T81 t407 x6_4).f1), .string ((rd_T81 t407 x6_4).f2)] 81 (0, 0)) xblk) (below_size xbg)); replace HO_414001 := Aside0.mk (Kd.R_elder' (by (with_reducible repeat (first | apply Kd.R_alloc | apply Kd.R_drewN | apply Kd.R_drew)); exact HO_414001.out) (Kd.R_base ho0) hb); replace HO_419001 := Aside0.mk (Kd.R_elder' (by (with_reducible repeat (first | apply Kd.R_alloc | apply Kd.R_drewN | apply Kd.R_drew)); exact HO_419001.out) (Kd.R_base ho0) hb); replace BK413 := xbb BK413 hb; replace BK418 := xbb BK418 hb; replace BK424 := xbb BK424 hb; replace HB := xbs hb; (try clear hb); (try clear hb2); (try clear hk); (try clear hi); (try clear ho0)) | ((with_reducible refine gate_dst (N := 11) rfl ?_); (try (refine gate_guard (by rfl) ?_; dsimp only)); refine box_event ?hg (N := 11) ?hd (cs := #[.int .i64 0, .slice none 0 0]) (t := 63) ?hr ?_; (case hd => rfl); (case hg => rfl); (case hr => first | (go_simp; done) | (go_simp; rfl)); intro gb432 hg w145 hbox hb; replace HO_4 := Aside0.mk (Kd.R_below (by (with_reducible repeat (first | apply Kd.R_alloc | apply Kd.R_drewN | apply Kd.R_drew)); exact HO_4.out) hb); replace HO_414001 := Aside0.mk (Kd.R_below (by (with_reducible repeat (first | apply Kd.R_alloc | apply Kd.R_drewN | apply Kd.R_drew)); exact HO_414001.out) hb); replace HO_419001 := Aside0.mk (Kd.R_below (by (with_reducible repeat (first | apply Kd.R_alloc | apply Kd.R_drewN | apply Kd.R_drew)); exact HO_419001.out) hb); replace HO430 := Aside0.mk (Kd.R_below (by (with_reducible repeat (first | apply Kd.R_alloc | apply Kd.R_drewN | apply Kd.R_drew)); exact HO430.out) hb); have GW432 := Aside0.mk (xge hg); have GE432 := Aside0.mk (xge hg); replace HB := xbs hb; have NB413_432 := Aside0.mk ((by rw [hg]; exact Nat.ne_of_lt (blk_lt (g := gb413) (o := .cells #[.int .i64 t406, .slice (some ad423) t407.length co11] 63 (0, 0)) xblk) : gb413 ≠ gb432)); have NB432_413 := Aside0.mk ((by rw [hg]; exact Nat.ne_of_gt (blk_lt (g := gb413) (o := .cells #[.int .i64 t406, .slice (some ad423) t407.length co11] 63 (0, 0)) xblk) : gb432 ≠ gb413)); have NB418_432 := Aside0.mk ((by rw [hg]; exact Nat.ne_of_lt (blk_lt (g := gb418) (o := .cells #[.int .i64 t414, .slice Ao17 t415.length co17] 63 (0, 0)) xblk) : gb418 ≠ gb432)); have NB432_418 := Aside0.mk ((by rw [hg]; exact Nat.ne_of_gt (blk_lt (g := gb418) (o := .cells #[.int .i64 t414, .slice Ao17 t415.length co17] 63 (0, 0)) xblk) : gb432 ≠ gb418)); have NB424_432 := Aside0.mk ((by rw [hg]; exact Nat.ne_of_lt (blk_lt (g := gb424) (o := .cells #[.int .i64 ((rd_T81 t407 x6_4).f0), .string ((rd_T81 t407 x6_4).f1), .string ((rd_T81 t407 x6_4).f2)] 81 (0, 0)) xblk) : gb424 ≠ gb432)); have NB432_424 := Aside0.mk ((by rw [hg]; exact Nat.ne_of_gt (blk_lt (g := gb424) (o := .cells #[.int .i64 ((rd_T81 t407 x6_4).f0), .string ((rd_T81 t407 x6_4).f1), .string ((rd_T81 t407 x6_4).f2)] 81 (0, 0)) xblk) : gb432 ≠ gb424)); replace BK413 := xbb BK413 hb; replace BK418 := xbb BK418 hb; replace BK424 := xbb BK424 hb; have BK432 := Aside0.mk (hbox); clear hb hbox hg; have hnb146 := NB432_413.out; have hnc146 := NB413_432.out; have hnb147 := NB432_418.out; have hnc147 := NB418_432.out; have hnb148 := NB432_424.out; have hnc148 := NB424_432.out; have hcz149_0 : w145.cell? ⟨gb432, 0, none⟩ = some (.int .i64 0) := (blk_cell BK432.out 0).trans rfl; have hcz149_1 : w145.cell? ⟨gb432, 1, none⟩ = some (.slice none 0 0) := (blk_cell BK432.out 1).trans rfl; have hfz149_0 := blk_frozen BK432.out 0; have hfz149_1 := blk_frozen BK432.out 1; obtain ⟨Ao150, co150, eo150⟩ := Kd.R_slice HO430.out; subst eo150))
                   have n0_ : Aside0 (Kd.R (Kd.int .i64) 3 ((w145.setCell ⟨gb432, 0, none⟩ (.int .i64 t427)).setCell ⟨gb432, 1, none⟩ (.slice Ao150 t428.length co150)) w.heap.size (fun _ => True) (.slice Ao12 t410.length co12) t410) := ⟨by (with_reducible repeat (first | apply Kd.R_alloc | apply Kd.R_drewN | apply Kd.R_drew)); exact Kd.R_mono (Kd.R_far (p := ⟨gb432, 1, none⟩) (Kd.R_far (p := ⟨gb432, 0, none⟩) (Kd.R_types HO_4.out BK432.out (by decide)) (fun _ hk => hk.2) (.int .i64 t427)) (fun _ hk => hk.2) (.slice Ao150 t428.length co150)) (fun _ hk => trivial)⟩
                   have n1_ : Aside0 (Kd.R k81 81 ((w145.setCell ⟨gb432, 0, none⟩ (.int .i64 t427)).setCell ⟨gb432, 1, none⟩ (.slice Ao150 t428.length co150)) w.heap.size (fun k_ => some k_ ≠ (.slice Ao17 t415.length co17 : Value).ownBlock ∧ some k_ ≠ (.slice Ao150 t428.length co150 : Value).ownBlock ∧ k_ ≠ gb424) (.slice (some ad423) t407.length co11) t407) := ⟨by (with_reducible repeat (first | apply Kd.R_alloc | apply Kd.R_drewN | apply Kd.R_drew)); exact Kd.R_mono (Kd.R_far (p := ⟨gb432, 1, none⟩) (Kd.R_far (p := ⟨gb432, 0, none⟩) (Kd.R_types HO_414001.out BK432.out (by decide)) (fun _ hk => hk.2) (.int .i64 t427)) (fun _ hk => hk.2) (.slice Ao150 t428.length co150)) (fun _ hk => ⟨hk.1.1.1, ⟨hk.1.2, hk.1.1.2⟩⟩)⟩
                   have n2_ : Aside0 (Kd.R k81 81 ((w145.setCell ⟨gb432, 0, none⟩ (.int .i64 t427)).setCell ⟨gb432, 1, none⟩ (.slice Ao150 t428.length co150)) w.heap.size (fun k_ => some k_ ≠ (.slice (some ad423) t407.length co11 : Value).ownBlock ∧ some k_ ≠ (.slice Ao150 t428.length co150 : Value).ownBlock ∧ k_ ≠ gb424) (.slice Ao17 t415.length co17) t415) := ⟨by (with_reducible repeat (first | apply Kd.R_alloc | apply Kd.R_drewN | apply Kd.R_drew)); exact Kd.R_mono (Kd.R_far (p := ⟨gb432, 1, none⟩) (Kd.R_far (p := ⟨gb432, 0, none⟩) (Kd.R_types HO_419001.out BK432.out (by decide)) (fun _ hk => hk.2) (.int .i64 t427)) (fun _ hk => hk.2) (.slice Ao150 t428.length co150)) (fun _ hk => ⟨hk.1.1.1, ⟨hk.1.2, hk.1.1.2⟩⟩)⟩
                   have n3_ : Aside0 (Kd.R k81 81 ((w145.setCell ⟨gb432, 0, none⟩ (.int .i64 t427)).setCell ⟨gb432, 1, none⟩ (.slice Ao150 t428.length co150)) w.heap.size (fun k_ => some k_ ≠ (.slice (some ad423) t407.length co11 : Value).ownBlock ∧ some k_ ≠ (.slice Ao17 t415.length co17 : Value).ownBlock ∧ k_ ≠ gb424) (.slice Ao150 t428.length co150) t428) := ⟨by (with_reducible repeat (first | apply Kd.R_alloc | apply Kd.R_drewN | apply Kd.R_drew)); exact Kd.R_mono (Kd.R_far (p := ⟨gb432, 1, none⟩) (Kd.R_far (p := ⟨gb432, 0, none⟩) (Kd.R_types HO430.out BK432.out (by decide)) (fun _ hk => hk.2) (.int .i64 t427)) (fun _ hk => hk.2) (.slice Ao150 t428.length co150)) (fun _ hk => ⟨hk.1.1.1.2, ⟨hk.1.1.2, hk.1.2⟩⟩)⟩
                   have n4_ : Aside0 (((w145.setCell ⟨gb432, 0, none⟩ (.int .i64 t427)).setCell ⟨gb432, 1, none⟩ (.slice Ao150 t428.length co150)).heap[gb413]? = some (.cells #[.int .i64 t406, .slice (some ad423) t407.length co11] 63 (0, 0))) := ⟨by (with_reducible repeat (first | refine blk_drewN ?_ _ | refine blk_drew ?_ | refine blk_alloc ?_ _)); refine blk_far ?_ NB413_432.out _; (with_reducible repeat (first | refine blk_drewN ?_ _ | refine blk_drew ?_ | refine blk_alloc ?_ _)); refine blk_far ?_ NB413_432.out _; (with_reducible repeat (first | refine blk_drewN ?_ _ | refine blk_drew ?_ | refine blk_alloc ?_ _)); exact BK413.out⟩
                   have n5_ : Aside0 (((w145.setCell ⟨gb432, 0, none⟩ (.int .i64 t427)).setCell ⟨gb432, 1, none⟩ (.slice Ao150 t428.length co150)).heap[gb418]? = some (.cells #[.int .i64 t414, .slice Ao17 t415.length co17] 63 (0, 0))) := ⟨by (with_reducible repeat (first | refine blk_drewN ?_ _ | refine blk_drew ?_ | refine blk_alloc ?_ _)); refine blk_far ?_ NB418_432.out _; (with_reducible repeat (first | refine blk_drewN ?_ _ | refine blk_drew ?_ | refine blk_alloc ?_ _)); refine blk_far ?_ NB418_432.out _; (with_reducible repeat (first | refine blk_drewN ?_ _ | refine blk_drew ?_ | refine blk_alloc ?_ _)); exact BK418.out⟩
                   have n6_ : Aside0 (((w145.setCell ⟨gb432, 0, none⟩ (.int .i64 t427)).setCell ⟨gb432, 1, none⟩ (.slice Ao150 t428.length co150)).heap[gb424]? = some (.cells #[.int .i64 ((rd_T81 t407 x6_4).f0), .string ((rd_T81 t407 x6_4).f1), .string ((rd_T81 t407 x6_4).f2)] 81 (0, 0))) := ⟨by (with_reducible repeat (first | refine blk_drewN ?_ _ | refine blk_drew ?_ | refine blk_alloc ?_ _)); refine blk_far ?_ NB424_432.out _; (with_reducible repeat (first | refine blk_drewN ?_ _ | refine blk_drew ?_ | refine blk_alloc ?_ _)); refine blk_far ?_ NB424_432.out _; (with_reducible repeat (first | refine blk_drewN ?_ _ | refine blk_drew ?_ | refine blk_alloc ?_ _)); exact BK424.out⟩
                   have n7_ : Aside0 (((w145.setCell ⟨gb432, 0, none⟩ (.int .i64 t427)).setCell ⟨gb432, 1, none⟩ (.slice Ao150 t428.length co150)).heap[gb432]? = some (.cells #[.int .i64 t427, .slice Ao150 t428.length co150] 63 (0, 0))) := ⟨by (with_reducible repeat (first | refine blk_drewN ?_ _ | refine blk_drew ?_ | refine blk_alloc ?_ _)); refine blk_put (cs := #[.int .i64 t427, .slice none 0 0]) ?_ 1 _ rfl; (with_reducible repeat (first | refine blk_drewN ?_ _ | refine blk_drew ?_ | refine blk_alloc ?_ _)); refine blk_put (cs := #[.int .i64 0, .slice none 0 0]) ?_ 0 _ rfl; (with_reducible repeat (first | refine blk_drewN ?_ _ | refine blk_drew ?_ | refine blk_alloc ?_ _)); exact BK432.out⟩
                   have n8_ : Aside0 (Below w.heap.size w ((w145.setCell ⟨gb432, 0, none⟩ (.int .i64 t427)).setCell ⟨gb432, 1, none⟩ (.slice Ao150 t428.length co150))) := ⟨xbg⟩
                   (try clear HO_4); (try clear HO_414001); (try clear HO_419001); (try clear HO430); (try clear BK413); (try clear BK418); (try clear BK424); (try clear BK432); (try clear HB)
                   generalize ((w145.setCell ⟨gb432, 0, none⟩ (.int .i64 t427)).setCell ⟨gb432, 1, none⟩ (.slice Ao150 t428.length co150)) = w151 at n0_ n1_ n2_ n3_ n4_ n5_ n6_ n7_ n8_ ⊢
                   have HO_4 := n0_
                   have HO_414001 := n1_
                   have HO_419001 := n2_
                   have HO430 := n3_
                   have BK413 := n4_
                   have BK418 := n5_
                   have BK424 := n6_
                   have BK432 := n7_
                   have HB := n8_
                   clear n0_ n1_ n2_ n3_ n4_ n5_ n6_ n7_ n8_
                   replace HO_4 := Aside0.mk (Kd.R_drew HO_4.out)
                   replace HO_414001 := Aside0.mk (Kd.R_drew HO_414001.out)
                   replace HO_419001 := Aside0.mk (Kd.R_drew HO_419001.out)
                   replace HO430 := Aside0.mk (Kd.R_drew HO430.out)
                   replace BK413 := Aside0.mk (blk_drew BK413.out)
                   replace BK418 := Aside0.mk (blk_drew BK418.out)
                   replace BK424 := Aside0.mk (blk_drew BK424.out)
                   replace BK432 := Aside0.mk (blk_drew BK432.out)
                   replace HB := Aside0.mk (below_drew1 HB.out)
                   refine start_ (n := 11) (S := fun w' => w'.cell? ⟨gb432, 0, none⟩ = some (.int .i64 t427) ∧ w'.cell? ⟨gb432, 1, none⟩ = some (.slice Ao150 t428.length co150) ∧ w'.cell? ⟨gb424, 0, none⟩ = some (.int .i64 ((rd_T81 t407 x6_4).f0)) ∧ w'.cell? ⟨gb424, 1, none⟩ = some (.string ((rd_T81 t407 x6_4).f1)) ∧ w'.cell? ⟨gb424, 2, none⟩ = some (.string ((rd_T81 t407 x6_4).f2))) (ds := []) #[false, false, false, false, false, false, false, false, false, false, false] (by kernel_rfl) rfl rfl ⟨(blk_cell BK432.out 0).trans rfl, (blk_cell BK432.out 1).trans rfl, (blk_cell BK424.out 0).trans rfl, (blk_cell BK424.out 1).trans rfl, (blk_cell BK424.out 2).trans rfl⟩ (fun hHeld => ?_); refine with_tabW laws_FnDisk.tab16 laws_FnDisk.bits16 (fun HT_ HW_ => ?_)
                   generalize w151.drew = w152 at HO_4 HO_414001 HO_419001 HO430 BK413 BK418 BK424 BK432 HB hHeld ⊢
                   refine pv_ 1 98 (h := ?_)
                   refine pv_ 3 100 (h := ?_)
                   refine tk_ 0 97 (h := ?_)
                   refine tk_ 4 101 (h := ?_)
                   refine on_ 2 99 (h := fun K hK => ?_)
                   refine goes_ Try.func41 (by kernel_rfl) rfl #[.agg #[.int .i64 t427, .slice Ao150 t428.length co150], .slice Ao12 t410.length co12] (by rfl) rfl rfl (by (try simp only [List.map_toArray, List.map_cons, List.map_nil]); first | done | rfl | (simp only [List.length_drop, List.length_take]; rfl)) ?_
                   with_reducible refine (impl_DiskCrash.calls kj79 t427 _ _ t428 _ _ t410 t433 t434 _ ?side1 ?side2 ?side3 ?side4 A83.out).mono ?_
                   (case side1 => repeat (first | exact (Kd.R_reads' HO430.out).2.2 | (with_reducible refine Kd.C_alloc ?_ _) | (with_reducible refine Kd.C_drewN ?_ _) | (with_reducible refine Kd.C_drew ?_)))
                   (case side2 => exact (Kd.R_reads' HO430.out).2.1)
                   (case side3 => repeat (first | exact (Kd.R_reads' HO_4.out).2.2 | (with_reducible refine Kd.C_alloc ?_ _) | (with_reducible refine Kd.C_drewN ?_ _) | (with_reducible refine Kd.C_drew ?_)))
                   (case side4 => exact (Kd.R_reads' HO_4.out).2.1)
                   rintro e w153 ⟨v435, rfl, ho0, hb⟩
                   refine ⟨_, rfl, ?_⟩
                   replace HO_4 := Aside0.mk (Kd.R_below (by (with_reducible repeat (first | apply Kd.R_alloc | apply Kd.R_drewN | apply Kd.R_drew)); exact HO_4.out) hb)
                   have HO436 := Aside0.mk (Kd.R_lower (Kd.R_newB (Kd.R_new' (Kd.R_new' (Kd.R_new' ho0 (Kd.R_lt (by (with_reducible repeat (first | apply Kd.R_alloc | apply Kd.R_drewN | apply Kd.R_drew)); exact HO_414001.out))) (Kd.R_lt (by (with_reducible repeat (first | apply Kd.R_alloc | apply Kd.R_drewN | apply Kd.R_drew)); exact HO_419001.out))) (Kd.R_lt (by (with_reducible repeat (first | apply Kd.R_alloc | apply Kd.R_drewN | apply Kd.R_drew)); exact HO430.out))) (g := gb424) (o := .cells #[.int .i64 ((rd_T81 t407 x6_4).f0), .string ((rd_T81 t407 x6_4).f1), .string ((rd_T81 t407 x6_4).f2)] 81 (0, 0)) xblk) (below_size xbg))
                   replace HO_414001 := Aside0.mk (Kd.R_elder' (by (with_reducible repeat (first | apply Kd.R_alloc | apply Kd.R_drewN | apply Kd.R_drew)); exact HO_414001.out) (Kd.R_base ho0) hb)
                   replace HO_419001 := Aside0.mk (Kd.R_elder' (by (with_reducible repeat (first | apply Kd.R_alloc | apply Kd.R_drewN | apply Kd.R_drew)); exact HO_419001.out) (Kd.R_base ho0) hb)
                   replace HO430 := Aside0.mk (Kd.R_elder' (by (with_reducible repeat (first | apply Kd.R_alloc | apply Kd.R_drewN | apply Kd.R_drew)); exact HO430.out) (Kd.R_base ho0) hb)
                   replace BK413 := xbb BK413 hb
                   replace BK418 := xbb BK418 hb
                   replace BK424 := xbb BK424 hb
                   replace BK432 := xbb BK432 hb
                   replace HB := xbs hb
                   (try clear hb); (try clear hb2); (try clear hk); (try clear hi); (try clear ho0)
                   obtain ⟨Ao154, co154, eo154⟩ := Kd.R_slice HO436.out
                   (first | subst eo154 | (injection eo154 with f1_ f2_ f3_; have f4_ := f1_.symm; have f5_ := f3_.symm; clear f1_ f2_ f3_; subst f4_; subst f5_))
                   refine hK.out _ _ ⟨(blk_cell BK432.out 0).trans rfl, (blk_cell BK432.out 1).trans rfl, (blk_cell BK424.out 0).trans rfl, (blk_cell BK424.out 1).trans rfl, (blk_cell BK424.out 2).trans rfl⟩ (fun hHeld => ?_)
                   clear hK K
                   refine norm_ (a' := ?_) ?_ ?_
                   rotate_left
                   ·show Act.put _ (some 99) _ = _
                    simp only [Act.put, List.setIfInBounds_toArray, List.set_cons_zero, List.set_cons_succ, i64_w, i32_w]
                    rfl
                   refine on_ 5 102 (h := fun K hK => ?_)
                   refine goes_ Try.func48 (by kernel_rfl) rfl #[.agg #[.int .i64 t433, .slice Ao154 t434.length co154], .int .i64 ((rd_T81 t407 x6_4).f0)] (by rfl) rfl rfl (by (try simp only [List.map_toArray, List.map_cons, List.map_nil]); first | done | rfl | (simp only [List.length_drop, List.length_take]; rfl)) ?_
                   with_reducible refine (impl_DiskRead.calls kj79 t433 _ _ t434 ((rd_T81 t407 x6_4).f0) t437 t438 _ ?side1 ?side2 A84.out).mono ?_
                   (case side1 => repeat (first | exact (Kd.R_reads' HO436.out).2.2 | (with_reducible refine Kd.C_alloc ?_ _) | (with_reducible refine Kd.C_drewN ?_ _) | (with_reducible refine Kd.C_drew ?_)))
                   (case side2 => exact (Kd.R_reads' HO436.out).2.1)
                   rintro e w155 ⟨rfl, hb⟩
                   refine ⟨_, rfl, ?_⟩
                   replace HO_4 := Aside0.mk (Kd.R_below (by (with_reducible repeat (first | apply Kd.R_alloc | apply Kd.R_drewN | apply Kd.R_drew)); exact HO_4.out) hb)
                   replace HO_414001 := Aside0.mk (Kd.R_below (by (with_reducible repeat (first | apply Kd.R_alloc | apply Kd.R_drewN | apply Kd.R_drew)); exact HO_414001.out) hb)
                   replace HO_419001 := Aside0.mk (Kd.R_below (by (with_reducible repeat (first | apply Kd.R_alloc | apply Kd.R_drewN | apply Kd.R_drew)); exact HO_419001.out) hb)
                   replace HO430 := Aside0.mk (Kd.R_below (by (with_reducible repeat (first | apply Kd.R_alloc | apply Kd.R_drewN | apply Kd.R_drew)); exact HO430.out) hb)
                   replace HO436 := Aside0.mk (Kd.R_below (by (with_reducible repeat (first | apply Kd.R_alloc | apply Kd.R_drewN | apply Kd.R_drew)); exact HO436.out) hb)
                   replace BK413 := xbb BK413 hb
                   replace BK418 := xbb BK418 hb
                   replace BK424 := xbb BK424 hb
                   replace BK432 := xbb BK432 hb
                   replace HB := xbs hb
                   (try clear hb); (try clear hb2); (try clear hk); (try clear hi)
                   refine hK.out _ _ ⟨(blk_cell BK432.out 0).trans rfl, (blk_cell BK432.out 1).trans rfl, (blk_cell BK424.out 0).trans rfl, (blk_cell BK424.out 1).trans rfl, (blk_cell BK424.out 2).trans rfl⟩ (fun hHeld => ?_)
                   clear hK K
                   refine norm_ (a' := ?_) ?_ ?_
                   rotate_left
                   ·show Act.put _ (some 102) _ = _
                    simp only [Act.put, List.setIfInBounds_toArray, List.set_cons_zero, List.set_cons_succ, i64_w, i32_w]
                    rfl
                   refine pv_ 6 96 (h := ?_)
                   refine pv_ 7 103 (h := ?_)
                   refine pv_ 8 104 (h := ?_)
                   refine pv_ 9 8 (h := ?_)
                   refine pv_ 10 9 (h := ?_)
                   refine done_ (done_of HT_.out (by kernel_rfl)) ?_
                   try go_wp2
                   go_ret
                   exact ⟨by first | rfl | (simp [errW_none, errW_some] <;> rfl) | (simp [*, errW_none, errW_some] <;> rfl), xbg⟩
             ·rw [if_neg c55] at H
              exact absurd H (by simp)
            ·rw [if_neg c53] at H
             exact absurd H (by simp)
           ·rw [if_neg c52] at H
            exact absurd H (by simp)

/-- THE ONE PURE STATEMENT of laws_FnDisk. -/
def laws_FnDisk.Pure : Prop := ∀ (l0 : List Int), l0.length ≤ maxLen → l0.length * 1 ≤ 140737488351232 → (∀ x ∈ l0, (Lit.int .u8 x).wf = true) → ∃ k, laws_FnDisk.f k l0 = some true
theorem laws_FnDisk.walk (P : laws_FnDisk.Pure) (A0 : Option Addr) (c0 : Nat) (l0 : List Int) (w : World) (hr0 : Kd.C (Kd.int .u8) w A0 l0.length l0) (hc0 : l0.length ≤ c0) (hm0 : l0.length ≤ maxLen) (hz0 : l0.length * 1 ≤ 140737488351232) (hw0 : ∀ x ∈ l0, (Lit.int .u8 x).wf = true) :
 Calls Try.prog 9 #[.slice A0 l0.length c0] w fun e w' => e = .returned (.bool true) ∧ Below w.heap.size w w' := by
 obtain ⟨k, h⟩ := P l0 hm0 hz0 hw0
 refine (laws_FnDisk.calls k A0 c0 l0 true w hr0 hc0 h).mono ?_
 rintro e w' ⟨rfl, hd⟩
 exact ⟨rfl, hd⟩

end Go.Proofs.Ytkfoojknjmgjdaa.QFnDisk
