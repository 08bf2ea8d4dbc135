-- A walk, by a program of this session.
import Derived.Test.YtnjpfllmcmomoaaQFnCmdx0
import Derived.Test.YtnjpfllmcmomoaaQFnCmdx2
namespace Go.Proofs.Ytnjpfllmcmomoaa.QFnCmd
open Go.RowKit Go.Proofs.YtnjpfllmcmomoaaW.PrintWords Go.Proofs.YtnjpfllmcmomoaaW.PrintLast Go.Proofs.YtnjpfllmcmomoaaW.PrintMore
attribute [local go_sem] max2_int min2_int max_two min_two max_three min_three max_four min_four   -- for this text's walks alone
set_option linter.unusedVariables false
set_option linter.unusedSimpArgs false

/-! ### spec_l2Block: function 173 -/
mutual
def spec_l2Block.l0 : Nat → List Int → List Int → List Int → Int → Option (List Int)
 | 0, _, _, _, _ => none
 | k + 1, x0, x1, x5, x6 => if x6 < 16 then (if 0 ≤ (wrap64 (4 * x6)) then (if (wrap64 (4 * x6)) < (x1.length : Int) then (if 0 ≤ (wrap64 ((wrap64 (4 * x6)) + 1)) then (if (wrap64 ((wrap64 (4 * x6)) + 1)) < (x1.length : Int) then (if 0 ≤ (wrap64 ((wrap64 (4 * x6)) + 2)) then (if (wrap64 ((wrap64 (4 * x6)) + 2)) < (x1.length : Int) then (if 0 ≤ (wrap64 ((wrap64 (4 * x6)) + 3)) then (if (wrap64 ((wrap64 (4 * x6)) + 3)) < (x1.length : Int) then (if x5.length < 17592186044416 then (spec_l2Block.l0 k x0 x1 (x5 ++ [Go.bits .or .i64 (Go.bits .or .i64 (Go.bits .or .i64 (wrap64 ((wrap64 (rd x1 (wrap64 (4 * x6)))) * 16777216)) (wrap64 ((wrap64 (rd x1 (wrap64 ((wrap64 (4 * x6)) + 1)))) * 65536))) (wrap64 ((wrap64 (rd x1 (wrap64 ((wrap64 (4 * x6)) + 2)))) * 256))) (wrap64 (rd x1 (wrap64 ((wrap64 (4 * x6)) + 3))))]) (wrap64 (x6 + 1))) else (none)) else (none)) else (none)) else (none)) else (none)) else (none)) else (none)) else (none)) else (none)) else (spec_l2Block.l1 k x0 x5 16)
def spec_l2Block.l1 : Nat → List Int → List Int → Int → Option (List Int)
 | 0, _, _, _ => none
 | k + 1, x0, x5, x7 => if x7 < 64 then (if 0 ≤ (wrap64 (x7 - 15)) then (if (wrap64 (x7 - 15)) < (x5.length : Int) then ((spec_l2Turn.f (rd x5 (wrap64 (x7 - 15))) 7).bind fun t135 => ((spec_l2Turn.f (rd x5 (wrap64 (x7 - 15))) 18).bind fun t137 => (if 0 ≤ (wrap64 (x7 - 2)) then (if (wrap64 (x7 - 2)) < (x5.length : Int) then ((spec_l2Turn.f (rd x5 (wrap64 (x7 - 2))) 17).bind fun t140 => ((spec_l2Turn.f (rd x5 (wrap64 (x7 - 2))) 19).bind fun t142 => (if 0 ≤ (wrap64 (x7 - 7)) then (if (wrap64 (x7 - 7)) < (x5.length : Int) then (if 0 ≤ (wrap64 (x7 - 16)) then (if (wrap64 (x7 - 16)) < (x5.length : Int) then ((spec_l2Low.f (wrap64 ((wrap64 ((wrap64 ((Go.bits .xor .i64 (Go.bits .xor .i64 t140 t142) ((rd x5 (wrap64 (x7 - 2))) / 1024)) + (rd x5 (wrap64 (x7 - 7))))) + (Go.bits .xor .i64 (Go.bits .xor .i64 t135 t137) ((rd x5 (wrap64 (x7 - 15))) / 8)))) + (rd x5 (wrap64 (x7 - 16)))))).bind fun t146 => (if x5.length < 17592186044416 then (spec_l2Block.l1 k x0 (x5 ++ [t146]) (wrap64 (x7 + 1))) else (none))) else (none)) else (none)) else (none)) else (none)))) else (none)) else (none)))) else (none)) else (none)) else ((spec_l2Keys.f).bind fun t150 => ((some (([] : List Int) : List Int)).bind fun y153 => (if y153.length + x0.length < 17592186044416 then (spec_l2Block.l2 k x0 x5 t150 (y153 ++ x0) 0) else (none))))
def spec_l2Block.l2 : Nat → List Int → List Int → List Int → List Int → Int → Option (List Int)
 | 0, _, _, _, _, _ => none
 | k + 1, x0, x5, x10, x11, x12 => if x12 < 64 then (if 4 < (x11.length : Int) then (if 0 < (x11.length : Int) then (if 5 < (x11.length : Int) then (if 6 < (x11.length : Int) then (if 7 < (x11.length : Int) then ((spec_l2Turn.f (rd x11 4) 6).bind fun t164 => ((spec_l2Turn.f (rd x11 4) 11).bind fun t165 => ((spec_l2Turn.f (rd x11 4) 25).bind fun t166 => (if 0 ≤ x12 then (if x12 < (x10.length : Int) then (if x12 < (x5.length : Int) then ((spec_l2Low.f (wrap64 ((wrap64 ((wrap64 ((wrap64 ((rd x11 7) + (Go.bits .xor .i64 (Go.bits .xor .i64 t164 t165) t166))) + (Go.bits .xor .i64 (Go.bits .and .i64 (rd x11 4) (rd x11 5)) (Go.bits .and .i64 (Go.bits .xor .i64 4294967295 (rd x11 4)) (rd x11 6))))) + (rd x10 x12))) + (rd x5 x12)))).bind fun t169 => (if 1 < (x11.length : Int) then (if 2 < (x11.length : Int) then ((spec_l2Turn.f (rd x11 0) 2).bind fun t174 => ((spec_l2Turn.f (rd x11 0) 13).bind fun t175 => ((spec_l2Turn.f (rd x11 0) 22).bind fun t176 => ((spec_l2Low.f (wrap64 ((Go.bits .xor .i64 (Go.bits .xor .i64 t174 t175) t176) + (Go.bits .xor .i64 (Go.bits .xor .i64 (Go.bits .and .i64 (rd x11 0) (rd x11 1)) (Go.bits .and .i64 (rd x11 0) (rd x11 2))) (Go.bits .and .i64 (rd x11 1) (rd x11 2)))))).bind fun t177 => ((spec_l2Low.f (wrap64 (t169 + t177))).bind fun t178 => (if 3 < (x11.length : Int) then ((spec_l2Low.f (wrap64 ((rd x11 3) + t169))).bind fun t182 => (spec_l2Block.l2 k x0 x5 x10 (([t178, rd x11 0, rd x11 1, rd x11 2, t182, rd x11 4, rd x11 5, rd x11 6] : List Int)) (wrap64 (x12 + 1)))) else (none))))))) else (none)) else (none))) else (none)) else (none)) else (none))))) else (none)) else (none)) else (none)) else (none)) else (none)) else (spec_l2Block.l3 k x0 x11 (([] : List Int)) 0)
def spec_l2Block.l3 : Nat → List Int → List Int → List Int → Int → Option (List Int)
 | 0, _, _, _, _ => none
 | k + 1, x0, x11, x19, x20 => if x20 < 8 then (if 0 ≤ x20 then (if x20 < (x0.length : Int) then (if x20 < (x11.length : Int) then ((spec_l2Low.f (wrap64 ((rd x0 x20) + (rd x11 x20)))).bind fun t193 => (if x19.length < 17592186044416 then (spec_l2Block.l3 k x0 x11 (x19 ++ [t193]) (wrap64 (x20 + 1))) else (none))) else (none)) else (none)) else (none)) else (some x19)
end
def spec_l2Block.f (k : Nat) (l0 : List Int) (l1 : List Int) : Option (List Int) := spec_l2Block.l0 k l0 l1 (([] : List Int)) 0
set_option maxRecDepth 100000 in
theorem spec_l2Block.mono_l : ∀ k, (∀ y0 y1 y2 y3, LeO (spec_l2Block.l0 k y0 y1 y2 y3) (spec_l2Block.l0 (k + 1) y0 y1 y2 y3)) ∧ (∀ y0 y1 y2, LeO (spec_l2Block.l1 k y0 y1 y2) (spec_l2Block.l1 (k + 1) y0 y1 y2)) ∧ (∀ y0 y1 y2 y3 y4, LeO (spec_l2Block.l2 k y0 y1 y2 y3 y4) (spec_l2Block.l2 (k + 1) y0 y1 y2 y3 y4)) ∧ (∀ y0 y1 y2 y3, LeO (spec_l2Block.l3 k y0 y1 y2 y3) (spec_l2Block.l3 (k + 1) y0 y1 y2 y3))
 | 0 => ⟨fun _ _ _ _ r h => by simp [spec_l2Block.l0] at h, fun _ _ _ r h => by simp [spec_l2Block.l1] at h, fun _ _ _ _ _ r h => by simp [spec_l2Block.l2] at h, fun _ _ _ _ r h => by simp [spec_l2Block.l3] at h⟩
 | k + 1 => by
  obtain ⟨ih0, ih1, ih2, ih3⟩ := spec_l2Block.mono_l k
  refine ⟨?_, ?_, ?_, ?_⟩
  ·intro y0 y1 y2 y3
   unfold spec_l2Block.l0
   repeat' first
   | (with_reducible exact ih0 _ _ _ _)
   | (with_reducible exact ih1 _ _ _)
   | (with_reducible exact ih2 _ _ _ _ _)
   | (with_reducible exact ih3 _ _ _ _)
   | (with_reducible exact LeO.refl _)
   | (with_reducible exact LeO.none _)
   | (with_reducible refine LeO.ite ?_ ?_)
   | (with_reducible refine LeO.bind ?_ (fun _ => ?_))
   | exact ih0 _ _ _ _
   | exact ih1 _ _ _
   | exact ih2 _ _ _ _ _
   | exact ih3 _ _ _ _
   | exact LeO.none _
   | refine LeO.ite ?_ ?_
   | refine LeO.bind ?_ (fun _ => ?_)
  ·intro y0 y1 y2
   unfold spec_l2Block.l1
   repeat' first
   | (with_reducible exact ih0 _ _ _ _)
   | (with_reducible exact ih1 _ _ _)
   | (with_reducible exact ih2 _ _ _ _ _)
   | (with_reducible exact ih3 _ _ _ _)
   | (with_reducible exact LeO.refl _)
   | (with_reducible exact LeO.none _)
   | (with_reducible refine LeO.ite ?_ ?_)
   | (with_reducible refine LeO.bind ?_ (fun _ => ?_))
   | exact ih0 _ _ _ _
   | exact ih1 _ _ _
   | exact ih2 _ _ _ _ _
   | exact ih3 _ _ _ _
   | exact LeO.none _
   | refine LeO.ite ?_ ?_
   | refine LeO.bind ?_ (fun _ => ?_)
  ·intro y0 y1 y2 y3 y4
   unfold spec_l2Block.l2
   repeat' first
   | (with_reducible exact ih0 _ _ _ _)
   | (with_reducible exact ih1 _ _ _)
   | (with_reducible exact ih2 _ _ _ _ _)
   | (with_reducible exact ih3 _ _ _ _)
   | (with_reducible exact LeO.refl _)
   | (with_reducible exact LeO.none _)
   | (with_reducible refine LeO.ite ?_ ?_)
   | (with_reducible refine LeO.bind ?_ (fun _ => ?_))
   | exact ih0 _ _ _ _
   | exact ih1 _ _ _
   | exact ih2 _ _ _ _ _
   | exact ih3 _ _ _ _
   | exact LeO.none _
   | refine LeO.ite ?_ ?_
   | refine LeO.bind ?_ (fun _ => ?_)
  ·intro y0 y1 y2 y3
   unfold spec_l2Block.l3
   repeat' first
   | (with_reducible exact ih0 _ _ _ _)
   | (with_reducible exact ih1 _ _ _)
   | (with_reducible exact ih2 _ _ _ _ _)
   | (with_reducible exact ih3 _ _ _ _)
   | (with_reducible exact LeO.refl _)
   | (with_reducible exact LeO.none _)
   | (with_reducible refine LeO.ite ?_ ?_)
   | (with_reducible refine LeO.bind ?_ (fun _ => ?_))
   | exact ih0 _ _ _ _
   | exact ih1 _ _ _
   | exact ih2 _ _ _ _ _
   | exact ih3 _ _ _ _
   | exact LeO.none _
   | refine LeO.ite ?_ ?_
   | refine LeO.bind ?_ (fun _ => ?_)
theorem spec_l2Block.mono : ∀ a0 a1 k, LeO (spec_l2Block.f k a0 a1) (spec_l2Block.f (k + 1) a0 a1) := by
 intro a0 a1 k
 obtain ⟨ih0, ih1, ih2, ih3⟩ := spec_l2Block.mono_l k
 unfold spec_l2Block.f
 repeat' first
  | (with_reducible exact ih0 _ _ _ _)
  | (with_reducible exact ih1 _ _ _)
  | (with_reducible exact ih2 _ _ _ _ _)
  | (with_reducible exact ih3 _ _ _ _)
  | (with_reducible exact LeO.refl _)
  | (with_reducible exact LeO.none _)
  | (with_reducible refine LeO.ite ?_ ?_)
  | (with_reducible refine LeO.bind ?_ (fun _ => ?_))
  | exact ih0 _ _ _ _
  | exact ih1 _ _ _
  | exact ih2 _ _ _ _ _
  | exact ih3 _ _ _ _
  | exact LeO.none _
  | refine LeO.ite ?_ ?_
  | refine LeO.bind ?_ (fun _ => ?_)
def spec_l2Block.T5 : Bool × List (List Nat × List Nat) := (true, [([], []), ([], []), ([], []), ([2], [2]), ([1, 3], [1, 3]), ([4], [4]), ([5], [5]), ([6], [6]), ([], []), ([], []), ([9], [9]), ([10], [10]), ([8, 11], [8, 11]), ([12], [12]), ([13], [13]), ([14], [14]), ([7, 15], [7, 15]), ([], []), ([], []), ([18], [18]), ([19], [19]), ([17, 20], [17, 20]), ([21], [21]), ([22], [22]), ([23], [23]), ([16, 24], [16, 24]), ([], []), ([], []), ([27], [27]), ([28], [28]), ([26, 29], [26, 29]), ([30], [30]), ([31], [31]), ([25, 32], [25, 32]), ([33], [33]), ([0, 34], [0, 34]), ([35, 35, 0, 1, 2, 3, 4, 5, 6, 7, 8, 9, 10, 11, 12, 13, 14, 15, 16, 17, 18, 19, 20, 21, 22, 23, 24, 25, 26, 27, 28, 29, 30, 31, 32, 33, 34, 35], [0, 35])])
def spec_l2Block.B5 : List Nat := [0, 0, 0, 4, 14, 30, 62, 126, 0, 0, 512, 1536, 3840, 7936, 16128, 32512, 65534, 0, 0, 262144, 786432, 1966080, 4063232, 8257536, 16646144, 33554430, 0, 0, 134217728, 402653184, 1006632960, 2080374784, 4227858432, 8589934590, 17179869182, 34359738367, 68719476735]
theorem spec_l2Block.tab5 : rtab .any (opsOf Try.f173 5) = spec_l2Block.T5 := by kernel_rfl
theorem spec_l2Block.bits5 : waitsOk spec_l2Block.T5.2 spec_l2Block.B5 = true := by kernel_rfl
def spec_l2Block.T9 : Bool × List (List Nat × List Nat) := (true, [([], []), ([], []), ([1], [1]), ([0, 2], [0, 2]), ([3], [3]), ([4], [4]), ([], []), ([], []), ([7], [7]), ([6, 8], [6, 8]), ([9], [9]), ([10, 5], [10]), ([5, 11], [5, 11]), ([], []), ([], []), ([14], [14]), ([13, 15], [13, 15]), ([16], [16]), ([17], [17]), ([12, 18], [12, 18]), ([19, 11, 0, 1, 2, 3, 4, 5, 6, 7, 8, 9, 10, 11, 12, 13, 14, 15, 16, 17, 18, 19], [19])])
def spec_l2Block.B9 : List Nat := [0, 0, 2, 7, 15, 31, 0, 0, 128, 448, 960, 2047, 4095, 0, 0, 16384, 57344, 122880, 253952, 524287, 1048575]
theorem spec_l2Block.tab9 : rtab .any (opsOf Try.f173 9) = spec_l2Block.T9 := by kernel_rfl
theorem spec_l2Block.bits9 : waitsOk spec_l2Block.T9.2 spec_l2Block.B9 = true := by kernel_rfl
def spec_l2Block.T10 : Bool × List (List Nat × List Nat) := (true, [([], []), ([], []), ([1], [1]), ([0, 2], [0, 2]), ([3], [3]), ([4], [4]), ([], []), ([], []), ([7], [7]), ([6, 8], [6, 8]), ([9], [9]), ([10, 5], [10]), ([5, 11], [5, 11]), ([], []), ([], []), ([14], [14]), ([13, 15], [13, 15]), ([16], [16]), ([17], [17]), ([12, 18], [12, 18]), ([19, 11, 0, 1, 2, 3, 4, 5, 6, 7, 8, 9, 10, 11, 12, 13, 14, 15, 16, 17, 18, 19], [19])])
def spec_l2Block.B10 : List Nat := [0, 0, 2, 7, 15, 31, 0, 0, 128, 448, 960, 2047, 4095, 0, 0, 16384, 57344, 122880, 253952, 524287, 1048575]
theorem spec_l2Block.tab10 : rtab .any (opsOf Try.f173 10) = spec_l2Block.T10 := by kernel_rfl
theorem spec_l2Block.bits10 : waitsOk spec_l2Block.T10.2 spec_l2Block.B10 = true := by kernel_rfl
def spec_l2Block.T11 : Bool × List (List Nat × List Nat) := (true, [([], []), ([], []), ([], []), ([], []), ([3], [3]), ([2, 4], [2, 4]), ([5], [5]), ([1, 6], [1, 6]), ([], []), ([7, 8], [7, 8]), ([], []), ([], []), ([11], [11]), ([10, 12], [10, 12]), ([13], [13]), ([9, 14], [9, 14]), ([15], [15]), ([16], [16]), ([0, 17, 16], [0, 17]), ([18, 18, 0, 1, 2, 3, 4, 5, 6, 7, 8, 9, 10, 11, 12, 13, 14, 15, 16, 17, 18], [0, 2, 10, 18])])
def spec_l2Block.B11 : List Nat := [0, 0, 0, 0, 8, 28, 60, 126, 0, 510, 0, 0, 2048, 7168, 15360, 32766, 65534, 131070, 262143, 524287]
theorem spec_l2Block.tab11 : rtab .any (opsOf Try.f173 11) = spec_l2Block.T11 := by kernel_rfl
theorem spec_l2Block.bits11 : waitsOk spec_l2Block.T11.2 spec_l2Block.B11 = true := by kernel_rfl
def spec_l2Block.T17 : Bool × List (List Nat × List Nat) := (true, [([], []), ([0], [0]), ([1], [1]), ([], []), ([3], [3]), ([4], [4]), ([2, 0, 1, 2], [2]), ([5, 6, 0, 1, 2, 3, 4, 5, 6], [5])])
def spec_l2Block.B17 : List Nat := [0, 1, 3, 0, 8, 24, 7, 127]
theorem spec_l2Block.tab17 : rtab .any (opsOf Try.f173 17) = spec_l2Block.T17 := by kernel_rfl
theorem spec_l2Block.bits17 : waitsOk spec_l2Block.T17.2 spec_l2Block.B17 = true := by kernel_rfl
def spec_l2Block.T18 : Bool × List (List Nat × List Nat) := (true, [([], []), ([], []), ([1], [1]), ([2], [2]), ([0, 3], [0, 3]), ([], []), ([5], [5]), ([], []), ([7], [7]), ([8], [8]), ([6, 9], [6, 9]), ([4, 10], [4, 10]), ([11, 0, 1, 2, 3, 4, 5, 6, 7, 8, 9, 10, 11], [11])])
def spec_l2Block.B18 : List Nat := [0, 0, 2, 6, 15, 0, 32, 0, 128, 384, 992, 2047, 4095]
theorem spec_l2Block.tab18 : rtab .any (opsOf Try.f173 18) = spec_l2Block.T18 := by kernel_rfl
theorem spec_l2Block.bits18 : waitsOk spec_l2Block.T18.2 spec_l2Block.B18 = true := by kernel_rfl
def spec_l2Block.T19 : Bool × List (List Nat × List Nat) := (true, [([], []), ([0], [0]), ([1], [1]), ([], []), ([3], [3]), ([], []), ([5, 4], [5]), ([4, 6], [4, 6]), ([], []), ([8, 6], [8]), ([7, 9], [7, 9]), ([2, 10], [2, 10]), ([], []), ([11, 12], [11, 12]), ([], []), ([], []), ([14, 15], [14, 15]), ([16], [16]), ([13, 17], [13, 17]), ([], []), ([], []), ([19, 20], [19, 20]), ([21], [21]), ([18, 22], [18, 22]), ([23, 9], [23]), ([24, 24, 0, 1, 2, 3, 4, 5, 6, 7, 8, 9, 10, 11, 12, 13, 14, 15, 16, 17, 18, 19, 20, 21, 22, 23, 24], [24])])
def spec_l2Block.B19 : List Nat := [0, 1, 3, 0, 8, 0, 56, 120, 0, 376, 1016, 2047, 0, 8191, 0, 0, 49152, 114688, 262143, 0, 0, 1572864, 3670016, 8388607, 16777215, 33554431]
theorem spec_l2Block.tab19 : rtab .any (opsOf Try.f173 19) = spec_l2Block.T19 := by kernel_rfl
theorem spec_l2Block.bits19 : waitsOk spec_l2Block.T19.2 spec_l2Block.B19 = true := by kernel_rfl
def spec_l2Block.T20 : Bool × List (List Nat × List Nat) := (true, [([], []), ([], []), ([1], [1]), ([2], [2]), ([0, 3], [0, 3]), ([], []), ([], []), ([6], [6]), ([7], [7]), ([5, 8], [5, 8]), ([4, 9], [4, 9]), ([], []), ([11], [11]), ([12], [12]), ([], []), ([14], [14]), ([15], [15]), ([13, 16], [13, 16]), ([10, 17], [10, 17]), ([18, 0, 1, 2, 3, 4, 5, 6, 7, 8, 9, 10, 11, 12, 13, 14, 15, 16, 17, 18], [18])])
def spec_l2Block.B20 : List Nat := [0, 0, 2, 6, 15, 0, 0, 64, 192, 480, 1023, 0, 2048, 6144, 0, 16384, 49152, 129024, 262143, 524287]
theorem spec_l2Block.tab20 : rtab .any (opsOf Try.f173 20) = spec_l2Block.T20 := by kernel_rfl
theorem spec_l2Block.bits20 : waitsOk spec_l2Block.T20.2 spec_l2Block.B20 = true := by kernel_rfl
def spec_l2Block.T22 : Bool × List (List Nat × List Nat) := (true, [([], []), ([], []), ([0, 1], [0, 1]), ([2], [2]), ([], []), ([], []), ([5], [5]), ([6], [6]), ([], []), ([8], [8]), ([9], [9]), ([], []), ([11], [11]), ([12], [12]), ([], []), ([13, 14], [13, 14]), ([15, 3], [15]), ([], []), ([], []), ([18], [18]), ([19], [19]), ([], []), ([21], [21]), ([22], [22]), ([3, 4, 7, 10, 16, 17, 20, 23], [3, 4, 7, 10, 16, 17, 20, 23]), ([24, 16, 0, 1, 2, 3, 4, 5, 6, 7, 8, 9, 10, 11, 12, 13, 14, 15, 16, 17, 18, 19, 20, 21, 22, 23, 24], [5, 8, 11, 18, 21, 24])])
def spec_l2Block.B22 : List Nat := [0, 0, 3, 7, 0, 0, 32, 96, 0, 256, 768, 0, 2048, 6144, 0, 30720, 63503, 0, 0, 262144, 786432, 0, 2097152, 6291456, 16777215, 33554431]
theorem spec_l2Block.tab22 : rtab .any (opsOf Try.f173 22) = spec_l2Block.T22 := by kernel_rfl
theorem spec_l2Block.bits22 : waitsOk spec_l2Block.T22.2 spec_l2Block.B22 = true := by kernel_rfl
def spec_l2Block.T27 : Bool × List (List Nat × List Nat) := (true, [([], []), ([], []), ([], []), ([1, 2], [1, 2]), ([3], [3]), ([], []), ([], []), ([5, 6], [5, 6]), ([7], [7]), ([4, 8], [4, 8]), ([9], [9]), ([10], [10]), ([0, 11, 10], [0, 11]), ([12, 12, 0, 1, 2, 3, 4, 5, 6, 7, 8, 9, 10, 11, 12], [0, 12])])
def spec_l2Block.B27 : List Nat := [0, 0, 0, 6, 14, 0, 0, 96, 224, 510, 1022, 2046, 4095, 8191]
theorem spec_l2Block.tab27 : rtab .any (opsOf Try.f173 27) = spec_l2Block.T27 := by kernel_rfl
theorem spec_l2Block.bits27 : waitsOk spec_l2Block.T27.2 spec_l2Block.B27 = true := by kernel_rfl
set_option maxHeartbeats 8000000 in
set_option maxRecDepth 100000 in
theorem spec_l2Block.calls (k : Nat) (A0 : Option Addr) (c0 : Nat) (l0 : List Int) (A1 : Option Addr) (c1 : Nat) (l1 : List Int) (r : List Int) (w : World) (hr0 : Kd.C (Kd.int .i64) w A0 l0.length l0) (hc0 : l0.length ≤ c0) (hr1 : Kd.C (Kd.int .u8) w A1 l1.length l1) (hc1 : l1.length ≤ c1) (h : spec_l2Block.f k l0 l1 = some r) :
 Calls Try.prog 173 #[.slice A0 l0.length c0, .slice A1 l1.length c1] w fun e w' => ∃ v0_ : Value, e = .returned (v0_) ∧ Kd.R (Kd.int .i64) 3 w' w.heap.size (fun _ => True) v0_ r ∧ Below w.heap.size w w' := by
 have HR0 := aM hr0
 have HC0 := aM hc0
 clear hr0 hc0
 have HR1 := aM hr1
 have HC1 := aM hc1
 clear hr1 hc1
 have HB := aM (Below.refl w.heap.size w)
 have H : (spec_l2Block.l0 k l0 l1 (([] : List Int)) 0) = some r := h
 clear h
 obtain ⟨y124, hy124⟩ : ∃ y_ : List Int, y_ = (([] : List Int)) := ⟨_, rfl⟩
 replace H : (spec_l2Block.l0 k l0 l1 y124 0) = some r := by first | (rw [hy124]; with_reducible exact H) | (have H2_ := (Option.bind_some _ _).symm.trans H; rw [hy124]; with_reducible exact H2_) | (have H2_ := (Option.bind_some _ _).symm.trans H; with_reducible exact H2_) | with_reducible exact H | (rw [hy124]; exact H) | exact H
 have Ny124 := aM hy124
 clear hy124
 have H' := aM H
 clear H
 go_enter Try.func173, Try.ntmps173
 go_wp2_with (first | ((with_reducible refine gate_dst (N := 21) rfl ?_); refine Kd.R_lit (Kd.int .i64) _ 3 ?hg (N := 21) ?hd (xs := ([] : List Int)) (inner := []) (ok := fun _ => True) (okp := fun _ => True) ?hr ?hp (fun _ hk => hk) trivial (Below.refl _ _) (Nat.le_refl _) (by simp) ?_; (case hd => rfl); (case hg => rfl); (case hr => first | (go_simp; done) | (go_simp; rfl)); (case hp => exact (Reps.none _ _)); intro v125 w3 ho4 hb hg_ hnew_; clear hg_ hnew_; (first | rw [← Ny124.out] at ho4 | (simp only [Int.reduceToNat] at ho4; rw [← Ny124.out] at ho4)); have HO126 := aM (Kd.R_lower ho4 (below_size xbel)); replace HB := xbs hb; clear hb ho4))
 go_loopg [5, 6] k (fun kq v5 v6 w' => ∃ (x5_1 : List Int) (x6_1 : Int), v6 = .int .i64 x6_1 ∧ Aside0 (spec_l2Block.l0 kq l0 l1 x5_1 x6_1 = some r) ∧ Aside0 (kq ≤ k) ∧ Aside0 (Kd.R (Kd.int .i64) 3 w' w.heap.size (fun _ => True) v5 x5_1) ∧ Aside0 (Below w.heap.size w w'))
 case atStart => exact ⟨(y124), (0), (by first | rfl | (simp; done) | (simp [*]; done)), H', ⟨Nat.le_refl _⟩, ⟨by (with_reducible repeat (first | apply Kd.R_alloc | apply Kd.R_drewN | apply Kd.R_drew)); exact HO126.out⟩, ⟨xbel⟩⟩
 case round =>
  clear H'
  try clear c1
  try clear p2
  obtain ⟨x5_1, x6_1, rfl, HA, HK1, HO_5, HB⟩ := hrel
  cases gk with
  | zero => exact absurd HA.out (by simp [spec_l2Block.l0])
  | succ k1 =>
   have H := HA.out; clear HA
   simp only [spec_l2Block.l0] at H
   by_cases c5 : x6_1 < 16
   ·rw [if_pos c5] at H
    have c5b0 : decide (x6_1 < 16) = true := decide_eq_true c5; clear c5
    obtain ⟨ji6, hji6⟩ : ∃ j_ : Int, (wrap64 (4 * x6_1)) = j_ := ⟨_, rfl⟩
    replace H : (if 0 ≤ (ji6) then (if (ji6) < (l1.length : Int) then (if 0 ≤ (wrap64 ((ji6) + 1)) then (if (wrap64 ((ji6) + 1)) < (l1.length : Int) then (if 0 ≤ (wrap64 ((ji6) + 2)) then (if (wrap64 ((ji6) + 2)) < (l1.length : Int) then (if 0 ≤ (wrap64 ((ji6) + 3)) then (if (wrap64 ((ji6) + 3)) < (l1.length : Int) then (if x5_1.length < 17592186044416 then (spec_l2Block.l0 k1 l0 l1 (x5_1 ++ [Go.bits .or .i64 (Go.bits .or .i64 (Go.bits .or .i64 (wrap64 ((wrap64 (rd l1 (ji6))) * 16777216)) (wrap64 ((wrap64 (rd l1 (wrap64 ((ji6) + 1)))) * 65536))) (wrap64 ((wrap64 (rd l1 (wrap64 ((ji6) + 2)))) * 256))) (wrap64 (rd l1 (wrap64 ((ji6) + 3))))]) (wrap64 (x6_1 + 1))) else (none)) else (none)) else (none)) else (none)) else (none)) else (none)) else (none)) else (none)) else (none)) = some r := by first | (rw [hji6] at H; exact H) | (simp only [hji6] at H ⊢; exact H)
    have hji6w : (IntKind.i64.wrap (4 * x6_1)) = ji6 := (i64_w _).trans hji6
    by_cases c7 : 0 ≤ (ji6)
    ·rw [if_pos c7] at H
     have c7b0 : decide (0 ≤ (ji6)) = true := decide_eq_true c7; clear c7
     by_cases c8 : (ji6) < (l1.length : Int)
     ·rw [if_pos c8] at H
      have c8b0 : decide ((ji6) < (l1.length : Int)) = true := decide_eq_true c8; clear c8
      obtain ⟨ji9, hji9⟩ : ∃ j_ : Int, (wrap64 ((ji6) + 1)) = j_ := ⟨_, rfl⟩
      replace H : (if 0 ≤ (ji9) then (if (ji9) < (l1.length : Int) then (if 0 ≤ (wrap64 ((ji6) + 2)) then (if (wrap64 ((ji6) + 2)) < (l1.length : Int) then (if 0 ≤ (wrap64 ((ji6) + 3)) then (if (wrap64 ((ji6) + 3)) < (l1.length : Int) then (if x5_1.length < 17592186044416 then (spec_l2Block.l0 k1 l0 l1 (x5_1 ++ [Go.bits .or .i64 (Go.bits .or .i64 (Go.bits .or .i64 (wrap64 ((wrap64 (rd l1 (ji6))) * 16777216)) (wrap64 ((wrap64 (rd l1 (ji9))) * 65536))) (wrap64 ((wrap64 (rd l1 (wrap64 ((ji6) + 2)))) * 256))) (wrap64 (rd l1 (wrap64 ((ji6) + 3))))]) (wrap64 (x6_1 + 1))) else (none)) else (none)) else (none)) else (none)) else (none)) else (none)) else (none)) = some r := by first | (rw [hji9] at H; exact H) | (simp only [hji9] at H ⊢; exact H)
      have hji9w : (IntKind.i64.wrap ((ji6) + 1)) = ji9 := (i64_w _).trans hji9
      by_cases c10 : 0 ≤ (ji9)
      ·rw [if_pos c10] at H
       have c10b0 : decide (0 ≤ (ji9)) = true := decide_eq_true c10; clear c10
       by_cases c11 : (ji9) < (l1.length : Int)
       ·rw [if_pos c11] at H
        have c11b0 : decide ((ji9) < (l1.length : Int)) = true := decide_eq_true c11; clear c11
        obtain ⟨ji12, hji12⟩ : ∃ j_ : Int, (wrap64 ((ji6) + 2)) = j_ := ⟨_, rfl⟩
        replace H : (if 0 ≤ (ji12) then (if (ji12) < (l1.length : Int) then (if 0 ≤ (wrap64 ((ji6) + 3)) then (if (wrap64 ((ji6) + 3)) < (l1.length : Int) then (if x5_1.length < 17592186044416 then (spec_l2Block.l0 k1 l0 l1 (x5_1 ++ [Go.bits .or .i64 (Go.bits .or .i64 (Go.bits .or .i64 (wrap64 ((wrap64 (rd l1 (ji6))) * 16777216)) (wrap64 ((wrap64 (rd l1 (ji9))) * 65536))) (wrap64 ((wrap64 (rd l1 (ji12))) * 256))) (wrap64 (rd l1 (wrap64 ((ji6) + 3))))]) (wrap64 (x6_1 + 1))) else (none)) else (none)) else (none)) else (none)) else (none)) = some r := by first | (rw [hji12] at H; exact H) | (simp only [hji12] at H ⊢; exact H)
        have hji12w : (IntKind.i64.wrap ((ji6) + 2)) = ji12 := (i64_w _).trans hji12
        by_cases c13 : 0 ≤ (ji12)
        ·rw [if_pos c13] at H
         have c13b0 : decide (0 ≤ (ji12)) = true := decide_eq_true c13; clear c13
         by_cases c14 : (ji12) < (l1.length : Int)
         ·rw [if_pos c14] at H
          have c14b0 : decide ((ji12) < (l1.length : Int)) = true := decide_eq_true c14; clear c14
          obtain ⟨ji15, hji15⟩ : ∃ j_ : Int, (wrap64 ((ji6) + 3)) = j_ := ⟨_, rfl⟩
          replace H : (if 0 ≤ (ji15) then (if (ji15) < (l1.length : Int) then (if x5_1.length < 17592186044416 then (spec_l2Block.l0 k1 l0 l1 (x5_1 ++ [Go.bits .or .i64 (Go.bits .or .i64 (Go.bits .or .i64 (wrap64 ((wrap64 (rd l1 (ji6))) * 16777216)) (wrap64 ((wrap64 (rd l1 (ji9))) * 65536))) (wrap64 ((wrap64 (rd l1 (ji12))) * 256))) (wrap64 (rd l1 (ji15)))]) (wrap64 (x6_1 + 1))) else (none)) else (none)) else (none)) = some r := by first | (rw [hji15] at H; exact H) | (simp only [hji15] at H ⊢; exact H)
          have hji15w : (IntKind.i64.wrap ((ji6) + 3)) = ji15 := (i64_w _).trans hji15
          by_cases c16 : 0 ≤ (ji15)
          ·rw [if_pos c16] at H
           have c16b0 : decide (0 ≤ (ji15)) = true := decide_eq_true c16; clear c16
           by_cases c17 : (ji15) < (l1.length : Int)
           ·rw [if_pos c17] at H
            have c17b0 : decide ((ji15) < (l1.length : Int)) = true := decide_eq_true c17; clear c17
            by_cases c18 : x5_1.length < 17592186044416
            ·rw [if_pos c18] at H
             have LMc18 := aM c18; clear c18
             obtain ⟨y131, hy131⟩ : ∃ y_ : List Int, y_ = (x5_1 ++ [Go.bits .or .i64 (Go.bits .or .i64 (Go.bits .or .i64 (wrap64 ((wrap64 (rd l1 (ji6))) * 16777216)) (wrap64 ((wrap64 (rd l1 (ji9))) * 65536))) (wrap64 ((wrap64 (rd l1 (ji12))) * 256))) (wrap64 (rd l1 (ji15)))]) := ⟨_, rfl⟩
             replace H : (spec_l2Block.l0 k1 l0 l1 y131 (wrap64 (x6_1 + 1))) = some r := by first | (rw [hy131]; with_reducible exact H) | (have H2_ := (Option.bind_some _ _).symm.trans H; rw [hy131]; with_reducible exact H2_) | (have H2_ := (Option.bind_some _ _).symm.trans H; with_reducible exact H2_) | with_reducible exact H | (rw [hy131]; exact H) | exact H
             have Ny131 := aM hy131; clear hy131
             have H' := aM H
             clear H
             try go_wp2
             replace HO_5 := aM (Kd.R_drew HO_5.out); replace HB := aM (below_drew1 HB.out); have p127 : 0 ≤ ((ji6) : Int) := of_decide_eq_true (by first | (with_reducible assumption) | assumption); have q127 : (ji6) < (l1.length : Int) := of_decide_eq_true (by first | (with_reducible assumption) | assumption)
             obtain ⟨ad127, e127, hx127_0⟩ := Kd.at_int HR1.out (ji6) p127 q127
             have hw127_0 := hx127_0
             cases e127
             replace hx127_0 := xce HB hx127_0; replace p127 := eq_true p127; replace q127 := eq_true q127; have p128 : 0 ≤ ((ji9) : Int) := of_decide_eq_true (by first | (with_reducible assumption) | assumption); have q128 : (ji9) < (l1.length : Int) := of_decide_eq_true (by first | (with_reducible assumption) | assumption)
             obtain ⟨ad128, e128, hx128_0⟩ := Kd.at_int HR1.out (ji9) p128 q128
             have hw128_0 := hx128_0
             obtain rfl : ad127 = ad128 := (by injection e128)
             replace hx128_0 := xce HB hx128_0; replace p128 := eq_true p128; replace q128 := eq_true q128; have p129 : 0 ≤ ((ji12) : Int) := of_decide_eq_true (by first | (with_reducible assumption) | assumption); have q129 : (ji12) < (l1.length : Int) := of_decide_eq_true (by first | (with_reducible assumption) | assumption)
             obtain ⟨ad129, e129, hx129_0⟩ := Kd.at_int HR1.out (ji12) p129 q129
             have hw129_0 := hx129_0
             obtain rfl : ad127 = ad129 := (by injection e129)
             replace hx129_0 := xce HB hx129_0; replace p129 := eq_true p129; replace q129 := eq_true q129; have p130 : 0 ≤ ((ji15) : Int) := of_decide_eq_true (by first | (with_reducible assumption) | assumption); have q130 : (ji15) < (l1.length : Int) := of_decide_eq_true (by first | (with_reducible assumption) | assumption)
             obtain ⟨ad130, e130, hx130_0⟩ := Kd.at_int HR1.out (ji15) p130 q130
             have hw130_0 := hx130_0
             obtain rfl : ad127 = ad130 := (by injection e130)
             replace hx130_0 := xce HB hx130_0; replace p130 := eq_true p130; replace q130 := eq_true q130
             refine start_ (n := 37) (S := fun w' => w'.cell? (ad127.add ((ji6)).toNat) = some (.int .u8 (rd l1 (ji6))) ∧ w'.cell? (ad127.add ((ji9)).toNat) = some (.int .u8 (rd l1 (ji9))) ∧ w'.cell? (ad127.add ((ji12)).toNat) = some (.int .u8 (rd l1 (ji12))) ∧ w'.cell? (ad127.add ((ji15)).toNat) = some (.int .u8 (rd l1 (ji15)))) (ds := []) #[false, false, false, false, false, false, false, false, false, false, false, false, false, false, false, false, false, false, false, false, false, false, false, false, false, false, false, false, false, false, false, false, false, false, false, false, false] (by kernel_rfl) rfl rfl ⟨(xce HB hw127_0), (xce HB hw128_0), (xce HB hw129_0), (xce HB hw130_0)⟩ (fun hHeld => ?_); refine with_tabW spec_l2Block.tab5 spec_l2Block.bits5 (fun HT_ HW_ => ?_)
             generalize wr.drew = w19 at HO_5 HB hx127_0 hx128_0 hx129_0 hx130_0 hHeld ⊢
             refine pv_ 0 26 (h := ?_)
             refine pv_ 1 27 (h := ?_)
             refine pv_ 2 28 (h := ?_)
             refine pv_ 3 29 (h := ?_)
             refine pv_ 4 30 (h := ?_)
             refine pv_ 8 34 (h := ?_)
             refine pv_ 9 35 (h := ?_)
             refine pv_ 10 36 (h := ?_)
             refine pv_ 11 37 (h := ?_)
             refine pv_ 12 38 (h := ?_)
             refine pv_ 17 43 (h := ?_)
             refine pv_ 18 44 (h := ?_)
             refine pv_ 19 45 (h := ?_)
             refine pv_ 20 46 (h := ?_)
             refine pv_ 21 47 (h := ?_)
             refine pv_ 26 52 (h := ?_)
             refine pv_ 27 53 (h := ?_)
             refine pv_ 28 54 (h := ?_)
             refine pv_ 29 55 (h := ?_)
             refine pv_ 30 56 (h := ?_)
             refine tk_ 5 31 (h := ?_)
             refine pv_ 6 32 (h := ?_)
             refine pv_ 7 33 (h := ?_)
             refine tk_ 13 39 (h := ?_)
             refine pv_ 14 40 (h := ?_)
             refine pv_ 15 41 (h := ?_)
             refine pv_ 16 42 (h := ?_)
             refine tk_ 22 48 (h := ?_)
             refine pv_ 23 49 (h := ?_)
             refine pv_ 24 50 (h := ?_)
             refine pv_ 25 51 (h := ?_)
             refine tk_ 31 57 (h := ?_)
             refine pv_ 32 58 (h := ?_)
             refine pv_ 33 59 (h := ?_)
             refine on_ 34 60 (h := fun K hK => ?_)
             refine value_ (w1 := ?_) (v := ?_) (by rfl) rfl ?_ ?_
             rotate_left 2
             ·go_simp
              constructor
              ·rfl
              ·rfl
             refine hK.out _ _ ⟨(World.cell?_alloc_lt _ _ _ (World.block_lt_of_cell? _ _ ((xce HB hw127_0)))).trans ((xce HB hw127_0)), (World.cell?_alloc_lt _ _ _ (World.block_lt_of_cell? _ _ ((xce HB hw128_0)))).trans ((xce HB hw128_0)), (World.cell?_alloc_lt _ _ _ (World.block_lt_of_cell? _ _ ((xce HB hw129_0)))).trans ((xce HB hw129_0)), (World.cell?_alloc_lt _ _ _ (World.block_lt_of_cell? _ _ ((xce HB hw130_0)))).trans ((xce HB hw130_0))⟩ (fun hHeld => ?_)
             clear hK K
             refine norm_ (a' := ?_) ?_ ?_
             rotate_left
             ·show Act.put _ (some 60) _ = _
              simp only [Act.put, List.setIfInBounds_toArray, List.set_cons_zero, List.set_cons_succ, i64_w, i32_w]
              rfl
             refine on_ 35 61 (h := fun K hK => ?_)
             refine Kd.R_append_step (Kd.int .i64) (w0 := w) w.heap.size (by rfl) (.tmp 26) (.tmp 60) 123 3 (.int .i64 0) 8 rfl Try.underlying123 info3 rfl (by decide) (by omega) u5 x5_1 (Go.bits .or .i64 (Go.bits .or .i64 (Go.bits .or .i64 (wrap64 ((wrap64 (rd l1 (ji6))) * 16777216)) (wrap64 ((wrap64 (rd l1 (ji9))) * 65536))) (wrap64 ((wrap64 (rd l1 (ji12))) * 256))) (wrap64 (rd l1 (ji15)))) [.int .i64 (Go.bits .or .i64 (Go.bits .or .i64 (Go.bits .or .i64 (wrap64 ((wrap64 (rd l1 (ji6))) * 16777216)) (wrap64 ((wrap64 (rd l1 (ji9))) * 65536))) (wrap64 ((wrap64 (rd l1 (ji12))) * 256))) (wrap64 (rd l1 (ji15))))] (fun _ => True) (fun _ => False) rfl rfl ?aP (fun _ hk => hk.elim) ?aF ?aO ?aB ?aS ?aL ?_
             (case aP => exact rfl)
             (case aB => exact xbel)
             (case aF => exact (fun _ _ => trivial))
             (case aO => exact (xr HO_5))
             (case aS => exact (below_size xbel))
             (case aL => have := LMc18.out; omega)
             intro v132 w20 ho hb hg hat
             rw [← Ny131.out] at ho
             replace HB := aM (hb); have HO133 := aM (ho); clear HO_5 ho hb hg hat
             refine hK.out _ _ ⟨(xce HB hw127_0), (xce HB hw128_0), (xce HB hw129_0), (xce HB hw130_0)⟩ (fun hHeld => ?_)
             clear hK K
             refine norm_ (a' := ?_) ?_ ?_
             rotate_left
             ·show Act.put _ (some 61) _ = _
              simp only [Act.put, List.setIfInBounds_toArray, List.set_cons_zero, List.set_cons_succ, i64_w, i32_w]
              rfl
             refine pv_ 36 5 (h := ?_)
             refine done_ (done_of HT_.out (by kernel_rfl)) ?_
             try go_wp2
             go_roundg k1
             case measure => have := HK1.out; omega
             case rel => exact ⟨(y131), (wrap64 (x6_1 + 1)), (by first | rfl | (simp; done) | (simp [*]; done)), H', ⟨by have := HK1.out; omega⟩, ⟨by (with_reducible repeat (first | apply Kd.R_alloc | apply Kd.R_drewN | apply Kd.R_drew)); exact HO133.out⟩, ⟨xbel⟩⟩
            ·rw [if_neg c18] at H
             exact absurd H (by simp)
           ·rw [if_neg c17] at H
            exact absurd H (by simp)
          ·rw [if_neg c16] at H
           exact absurd H (by simp)
         ·rw [if_neg c14] at H
          exact absurd H (by simp)
        ·rw [if_neg c13] at H
         exact absurd H (by simp)
       ·rw [if_neg c11] at H
        exact absurd H (by simp)
      ·rw [if_neg c10] at H
       exact absurd H (by simp)
     ·rw [if_neg c8] at H
      exact absurd H (by simp)
    ·rw [if_neg c7] at H
     exact absurd H (by simp)
   ·rw [if_neg c5] at H
    have c5b0 : decide (x6_1 < 16) = false := decide_eq_false c5; clear c5
    have H' := aM H
    clear H
    go_wp2
    go_loopg [5, 7] k1 (fun kq v5 v7 w' => ∃ (x5_2 : List Int) (x7_2 : Int), v7 = .int .i64 x7_2 ∧ Aside0 (spec_l2Block.l1 kq l0 x5_2 x7_2 = some r) ∧ Aside0 (kq ≤ k1) ∧ Aside0 (Kd.R (Kd.int .i64) 3 w' w.heap.size (fun _ => True) v5 x5_2) ∧ Aside0 (Below w.heap.size w w'))
    case atStart => exact ⟨(x5_1), (16), (by first | rfl | (simp; done) | (simp [*]; done)), H', ⟨Nat.le_refl _⟩, ⟨by (with_reducible repeat (first | apply Kd.R_alloc | apply Kd.R_drewN | apply Kd.R_drew)); exact HO_5.out⟩, ⟨xbel⟩⟩
    case round =>
     clear H'
     try clear c1
     try clear p1
     try clear q1
     try clear hx1
     try clear p2
     try clear c5
     try clear c5b0
     try clear p6
     try clear c7
     try clear c7b0
     try clear c8
     try clear c8b0
     try clear c10
     try clear c10b0
     try clear c11
     try clear c11b0
     try clear p12
     try clear q12
     try clear hx12
     try clear c13
     try clear c13b0
     try clear p13
     try clear q13
     try clear hx13
     try clear c14
     try clear c14b0
     try clear c16
     try clear c16b0
     try clear c17
     try clear c17b0
     try clear c18
     try clear hx127_0
     try clear hx128_0
     try clear hx129_0
     try clear hx130_0
     try clear p127
     try clear p128
     try clear p129
     try clear p130
     try clear p2
     try clear q127
     try clear q128
     try clear q129
     try clear q130
     obtain ⟨x5_2, x7_2, rfl, HA, HK2, HO_5, HB⟩ := hrel
     cases gk with
     | zero => exact absurd HA.out (by simp [spec_l2Block.l1])
     | succ k2 =>
      have H := HA.out; clear HA
      simp only [spec_l2Block.l1] at H
      by_cases c21 : x7_2 < 64
      ·rw [if_pos c21] at H
       have c21b0 : decide (x7_2 < 64) = true := decide_eq_true c21; clear c21
       obtain ⟨ji22, hji22⟩ : ∃ j_ : Int, (wrap64 (x7_2 - 15)) = j_ := ⟨_, rfl⟩
       replace H : (if 0 ≤ (ji22) then (if (ji22) < (x5_2.length : Int) then ((spec_l2Turn.f (rd x5_2 (ji22)) 7).bind fun t135 => ((spec_l2Turn.f (rd x5_2 (ji22)) 18).bind fun t137 => (if 0 ≤ (wrap64 (x7_2 - 2)) then (if (wrap64 (x7_2 - 2)) < (x5_2.length : Int) then ((spec_l2Turn.f (rd x5_2 (wrap64 (x7_2 - 2))) 17).bind fun t140 => ((spec_l2Turn.f (rd x5_2 (wrap64 (x7_2 - 2))) 19).bind fun t142 => (if 0 ≤ (wrap64 (x7_2 - 7)) then (if (wrap64 (x7_2 - 7)) < (x5_2.length : Int) then (if 0 ≤ (wrap64 (x7_2 - 16)) then (if (wrap64 (x7_2 - 16)) < (x5_2.length : Int) then ((spec_l2Low.f (wrap64 ((wrap64 ((wrap64 ((Go.bits .xor .i64 (Go.bits .xor .i64 t140 t142) ((rd x5_2 (wrap64 (x7_2 - 2))) / 1024)) + (rd x5_2 (wrap64 (x7_2 - 7))))) + (Go.bits .xor .i64 (Go.bits .xor .i64 t135 t137) ((rd x5_2 (ji22)) / 8)))) + (rd x5_2 (wrap64 (x7_2 - 16)))))).bind fun t146 => (if x5_2.length < 17592186044416 then (spec_l2Block.l1 k2 l0 (x5_2 ++ [t146]) (wrap64 (x7_2 + 1))) else (none))) else (none)) else (none)) else (none)) else (none)))) else (none)) else (none)))) else (none)) else (none)) = some r := by first | (rw [hji22] at H; exact H) | (simp only [hji22] at H ⊢; exact H)
       have hji22w : (IntKind.i64.wrap (x7_2 - 15)) = ji22 := (i64_w _).trans hji22
       by_cases c23 : 0 ≤ (ji22)
       ·rw [if_pos c23] at H
        have c23b0 : decide (0 ≤ (ji22)) = true := decide_eq_true c23; clear c23
        by_cases c24 : (ji22) < (x5_2.length : Int)
        ·rw [if_pos c24] at H
         have c24b0 : decide ((ji22) < (x5_2.length : Int)) = true := decide_eq_true c24; clear c24; replace H := Option.bind_eq_some_iff.mp H
         obtain ⟨t135, A250, H⟩ := H
         replace H : ((spec_l2Turn.f (rd x5_2 (ji22)) 18).bind fun t137 => (if 0 ≤ (wrap64 (x7_2 - 2)) then (if (wrap64 (x7_2 - 2)) < (x5_2.length : Int) then ((spec_l2Turn.f (rd x5_2 (wrap64 (x7_2 - 2))) 17).bind fun t140 => ((spec_l2Turn.f (rd x5_2 (wrap64 (x7_2 - 2))) 19).bind fun t142 => (if 0 ≤ (wrap64 (x7_2 - 7)) then (if (wrap64 (x7_2 - 7)) < (x5_2.length : Int) then (if 0 ≤ (wrap64 (x7_2 - 16)) then (if (wrap64 (x7_2 - 16)) < (x5_2.length : Int) then ((spec_l2Low.f (wrap64 ((wrap64 ((wrap64 ((Go.bits .xor .i64 (Go.bits .xor .i64 t140 t142) ((rd x5_2 (wrap64 (x7_2 - 2))) / 1024)) + (rd x5_2 (wrap64 (x7_2 - 7))))) + (Go.bits .xor .i64 (Go.bits .xor .i64 t135 t137) ((rd x5_2 (ji22)) / 8)))) + (rd x5_2 (wrap64 (x7_2 - 16)))))).bind fun t146 => (if x5_2.length < 17592186044416 then (spec_l2Block.l1 k2 l0 (x5_2 ++ [t146]) (wrap64 (x7_2 + 1))) else (none))) else (none)) else (none)) else (none)) else (none)))) else (none)) else (none))) = some r := H; have A25 := aM A250; clear A250; replace H := Option.bind_eq_some_iff.mp H
         obtain ⟨t137, A260, H⟩ := H
         replace H : (if 0 ≤ (wrap64 (x7_2 - 2)) then (if (wrap64 (x7_2 - 2)) < (x5_2.length : Int) then ((spec_l2Turn.f (rd x5_2 (wrap64 (x7_2 - 2))) 17).bind fun t140 => ((spec_l2Turn.f (rd x5_2 (wrap64 (x7_2 - 2))) 19).bind fun t142 => (if 0 ≤ (wrap64 (x7_2 - 7)) then (if (wrap64 (x7_2 - 7)) < (x5_2.length : Int) then (if 0 ≤ (wrap64 (x7_2 - 16)) then (if (wrap64 (x7_2 - 16)) < (x5_2.length : Int) then ((spec_l2Low.f (wrap64 ((wrap64 ((wrap64 ((Go.bits .xor .i64 (Go.bits .xor .i64 t140 t142) ((rd x5_2 (wrap64 (x7_2 - 2))) / 1024)) + (rd x5_2 (wrap64 (x7_2 - 7))))) + (Go.bits .xor .i64 (Go.bits .xor .i64 t135 t137) ((rd x5_2 (ji22)) / 8)))) + (rd x5_2 (wrap64 (x7_2 - 16)))))).bind fun t146 => (if x5_2.length < 17592186044416 then (spec_l2Block.l1 k2 l0 (x5_2 ++ [t146]) (wrap64 (x7_2 + 1))) else (none))) else (none)) else (none)) else (none)) else (none)))) else (none)) else (none)) = some r := H; have A26 := aM A260; clear A260
         obtain ⟨ji27, hji27⟩ : ∃ j_ : Int, (wrap64 (x7_2 - 2)) = j_ := ⟨_, rfl⟩
         replace H : (if 0 ≤ (ji27) then (if (ji27) < (x5_2.length : Int) then ((spec_l2Turn.f (rd x5_2 (ji27)) 17).bind fun t140 => ((spec_l2Turn.f (rd x5_2 (ji27)) 19).bind fun t142 => (if 0 ≤ (wrap64 (x7_2 - 7)) then (if (wrap64 (x7_2 - 7)) < (x5_2.length : Int) then (if 0 ≤ (wrap64 (x7_2 - 16)) then (if (wrap64 (x7_2 - 16)) < (x5_2.length : Int) then ((spec_l2Low.f (wrap64 ((wrap64 ((wrap64 ((Go.bits .xor .i64 (Go.bits .xor .i64 t140 t142) ((rd x5_2 (ji27)) / 1024)) + (rd x5_2 (wrap64 (x7_2 - 7))))) + (Go.bits .xor .i64 (Go.bits .xor .i64 t135 t137) ((rd x5_2 (ji22)) / 8)))) + (rd x5_2 (wrap64 (x7_2 - 16)))))).bind fun t146 => (if x5_2.length < 17592186044416 then (spec_l2Block.l1 k2 l0 (x5_2 ++ [t146]) (wrap64 (x7_2 + 1))) else (none))) else (none)) else (none)) else (none)) else (none)))) else (none)) else (none)) = some r := by first | (rw [hji27] at H; exact H) | (simp only [hji27] at H ⊢; exact H)
         (try rw [hji27] at A25)
         (try rw [hji27] at A26)
         have hji27w : (IntKind.i64.wrap (x7_2 - 2)) = ji27 := (i64_w _).trans hji27
         by_cases c28 : 0 ≤ (ji27)
         ·rw [if_pos c28] at H
          have c28b0 : decide (0 ≤ (ji27)) = true := decide_eq_true c28; clear c28
          by_cases c29 : (ji27) < (x5_2.length : Int)
          ·rw [if_pos c29] at H
           have c29b0 : decide ((ji27) < (x5_2.length : Int)) = true := decide_eq_true c29; clear c29; replace H := Option.bind_eq_some_iff.mp H
           obtain ⟨t140, A300, H⟩ := H
           replace H : ((spec_l2Turn.f (rd x5_2 (ji27)) 19).bind fun t142 => (if 0 ≤ (wrap64 (x7_2 - 7)) then (if (wrap64 (x7_2 - 7)) < (x5_2.length : Int) then (if 0 ≤ (wrap64 (x7_2 - 16)) then (if (wrap64 (x7_2 - 16)) < (x5_2.length : Int) then ((spec_l2Low.f (wrap64 ((wrap64 ((wrap64 ((Go.bits .xor .i64 (Go.bits .xor .i64 t140 t142) ((rd x5_2 (ji27)) / 1024)) + (rd x5_2 (wrap64 (x7_2 - 7))))) + (Go.bits .xor .i64 (Go.bits .xor .i64 t135 t137) ((rd x5_2 (ji22)) / 8)))) + (rd x5_2 (wrap64 (x7_2 - 16)))))).bind fun t146 => (if x5_2.length < 17592186044416 then (spec_l2Block.l1 k2 l0 (x5_2 ++ [t146]) (wrap64 (x7_2 + 1))) else (none))) else (none)) else (none)) else (none)) else (none))) = some r := H; have A30 := aM A300; clear A300; replace H := Option.bind_eq_some_iff.mp H
           obtain ⟨t142, A310, H⟩ := H
           replace H : (if 0 ≤ (wrap64 (x7_2 - 7)) then (if (wrap64 (x7_2 - 7)) < (x5_2.length : Int) then (if 0 ≤ (wrap64 (x7_2 - 16)) then (if (wrap64 (x7_2 - 16)) < (x5_2.length : Int) then ((spec_l2Low.f (wrap64 ((wrap64 ((wrap64 ((Go.bits .xor .i64 (Go.bits .xor .i64 t140 t142) ((rd x5_2 (ji27)) / 1024)) + (rd x5_2 (wrap64 (x7_2 - 7))))) + (Go.bits .xor .i64 (Go.bits .xor .i64 t135 t137) ((rd x5_2 (ji22)) / 8)))) + (rd x5_2 (wrap64 (x7_2 - 16)))))).bind fun t146 => (if x5_2.length < 17592186044416 then (spec_l2Block.l1 k2 l0 (x5_2 ++ [t146]) (wrap64 (x7_2 + 1))) else (none))) else (none)) else (none)) else (none)) else (none)) = some r := H; have A31 := aM A310; clear A310
           obtain ⟨ji32, hji32⟩ : ∃ j_ : Int, (wrap64 (x7_2 - 7)) = j_ := ⟨_, rfl⟩
           replace H : (if 0 ≤ (ji32) then (if (ji32) < (x5_2.length : Int) then (if 0 ≤ (wrap64 (x7_2 - 16)) then (if (wrap64 (x7_2 - 16)) < (x5_2.length : Int) then ((spec_l2Low.f (wrap64 ((wrap64 ((wrap64 ((Go.bits .xor .i64 (Go.bits .xor .i64 t140 t142) ((rd x5_2 (ji27)) / 1024)) + (rd x5_2 (ji32)))) + (Go.bits .xor .i64 (Go.bits .xor .i64 t135 t137) ((rd x5_2 (ji22)) / 8)))) + (rd x5_2 (wrap64 (x7_2 - 16)))))).bind fun t146 => (if x5_2.length < 17592186044416 then (spec_l2Block.l1 k2 l0 (x5_2 ++ [t146]) (wrap64 (x7_2 + 1))) else (none))) else (none)) else (none)) else (none)) else (none)) = some r := by first | (rw [hji32] at H; exact H) | (simp only [hji32] at H ⊢; exact H)
           (try rw [hji32] at A25)
           (try rw [hji32] at A26)
           (try rw [hji32] at A30)
           (try rw [hji32] at A31)
           have hji32w : (IntKind.i64.wrap (x7_2 - 7)) = ji32 := (i64_w _).trans hji32
           by_cases c33 : 0 ≤ (ji32)
           ·rw [if_pos c33] at H
            have c33b0 : decide (0 ≤ (ji32)) = true := decide_eq_true c33; clear c33
            by_cases c34 : (ji32) < (x5_2.length : Int)
            ·rw [if_pos c34] at H
             have c34b0 : decide ((ji32) < (x5_2.length : Int)) = true := decide_eq_true c34; clear c34
             obtain ⟨ji35, hji35⟩ : ∃ j_ : Int, (wrap64 (x7_2 - 16)) = j_ := ⟨_, rfl⟩
             replace H : (if 0 ≤ (ji35) then (if (ji35) < (x5_2.length : Int) then ((spec_l2Low.f (wrap64 ((wrap64 ((wrap64 ((Go.bits .xor .i64 (Go.bits .xor .i64 t140 t142) ((rd x5_2 (ji27)) / 1024)) + (rd x5_2 (ji32)))) + (Go.bits .xor .i64 (Go.bits .xor .i64 t135 t137) ((rd x5_2 (ji22)) / 8)))) + (rd x5_2 (ji35))))).bind fun t146 => (if x5_2.length < 17592186044416 then (spec_l2Block.l1 k2 l0 (x5_2 ++ [t146]) (wrap64 (x7_2 + 1))) else (none))) else (none)) else (none)) = some r := by first | (rw [hji35] at H; exact H) | (simp only [hji35] at H ⊢; exact H)
             (try rw [hji35] at A25)
             (try rw [hji35] at A26)
             (try rw [hji35] at A30)
             (try rw [hji35] at A31)
             have hji35w : (IntKind.i64.wrap (x7_2 - 16)) = ji35 := (i64_w _).trans hji35
             by_cases c36 : 0 ≤ (ji35)
             ·rw [if_pos c36] at H
              have c36b0 : decide (0 ≤ (ji35)) = true := decide_eq_true c36; clear c36
              by_cases c37 : (ji35) < (x5_2.length : Int)
              ·rw [if_pos c37] at H
               have c37b0 : decide ((ji35) < (x5_2.length : Int)) = true := decide_eq_true c37; clear c37; replace H := Option.bind_eq_some_iff.mp H
               obtain ⟨t146, A380, H⟩ := H
               replace H : (if x5_2.length < 17592186044416 then (spec_l2Block.l1 k2 l0 (x5_2 ++ [t146]) (wrap64 (x7_2 + 1))) else (none)) = some r := H; have A38 := aM A380; clear A380
               by_cases c39 : x5_2.length < 17592186044416
               ·rw [if_pos c39] at H
                have LMc39 := aM c39; clear c39
                obtain ⟨y147, hy147⟩ : ∃ y_ : List Int, y_ = (x5_2 ++ [t146]) := ⟨_, rfl⟩
                replace H : (spec_l2Block.l1 k2 l0 y147 (wrap64 (x7_2 + 1))) = some r := by first | (rw [hy147]; with_reducible exact H) | (have H2_ := (Option.bind_some _ _).symm.trans H; rw [hy147]; with_reducible exact H2_) | (have H2_ := (Option.bind_some _ _).symm.trans H; with_reducible exact H2_) | with_reducible exact H | (rw [hy147]; exact H) | exact H
                have Ny147 := aM hy147; clear hy147
                have H' := aM H
                clear H
                try go_wp2
                replace HO_5 := aM (Kd.R_drew HO_5.out); replace HB := aM (below_drew1 HB.out)
                obtain ⟨Ao41, co41, eo41⟩ := Kd.R_slice HO_5.out
                (first | subst eo41 | (injection eo41 with f1_ f2_ f3_; have f4_ := f1_.symm; have f5_ := f3_.symm; clear f1_ f2_ f3_; subst f4_; subst f5_))
                have p134 : 0 ≤ ((ji22) : Int) := of_decide_eq_true (by first | (with_reducible assumption) | assumption); have q134 : (ji22) < (x5_2.length : Int) := of_decide_eq_true (by first | (with_reducible assumption) | assumption)
                obtain ⟨ad134, e134, hx134_0⟩ := Kd.at_int (Kd.R_reads' HO_5.out).2.2 (ji22) p134 q134
                cases e134
                replace p134 := eq_true p134; replace q134 := eq_true q134; have p136 : 0 ≤ ((ji22) : Int) := of_decide_eq_true (by first | (with_reducible assumption) | assumption); have q136 : (ji22) < (x5_2.length : Int) := of_decide_eq_true (by first | (with_reducible assumption) | assumption)
                obtain ⟨ad136, e136, hx136_0⟩ := Kd.at_int (Kd.R_reads' HO_5.out).2.2 (ji22) p136 q136
                obtain rfl : ad134 = ad136 := (by injection e136)
                replace p136 := eq_true p136; replace q136 := eq_true q136; have p138 : 0 ≤ ((ji22) : Int) := of_decide_eq_true (by first | (with_reducible assumption) | assumption); have q138 : (ji22) < (x5_2.length : Int) := of_decide_eq_true (by first | (with_reducible assumption) | assumption)
                obtain ⟨ad138, e138, hx138_0⟩ := Kd.at_int (Kd.R_reads' HO_5.out).2.2 (ji22) p138 q138
                obtain rfl : ad134 = ad138 := (by injection e138)
                replace p138 := eq_true p138; replace q138 := eq_true q138
                refine start_ (n := 21) (S := fun w' => w'.cell? (ad134.add ((ji22)).toNat) = some (.int .i64 (rd x5_2 (ji22))) ∧ w'.cell? (ad134.add ((ji22)).toNat) = some (.int .i64 (rd x5_2 (ji22))) ∧ w'.cell? (ad134.add ((ji22)).toNat) = some (.int .i64 (rd x5_2 (ji22)))) (ds := []) #[false, false, false, false, false, false, false, false, false, false, false, false, false, false, false, false, false, false, false, false, false] (by kernel_rfl) rfl rfl ⟨hx134_0, hx136_0, hx138_0⟩ (fun hHeld => ?_); refine with_tabW spec_l2Block.tab9 spec_l2Block.bits9 (fun HT_ HW_ => ?_)
                generalize wr.drew = w40 at HO_5 HB hx134_0 hx136_0 hx138_0 hHeld ⊢
                refine pv_ 0 66 (h := ?_)
                refine pv_ 1 67 (h := ?_)
                refine pv_ 2 68 (h := ?_)
                refine pv_ 3 69 (h := ?_)
                refine pv_ 6 72 (h := ?_)
                refine pv_ 7 73 (h := ?_)
                refine pv_ 8 74 (h := ?_)
                refine pv_ 9 75 (h := ?_)
                refine pv_ 13 79 (h := ?_)
                refine pv_ 14 80 (h := ?_)
                refine pv_ 15 81 (h := ?_)
                refine pv_ 16 82 (h := ?_)
                refine tk_ 4 70 (h := ?_)
                refine tk_ 10 76 (h := ?_)
                refine tk_ 17 83 (h := ?_)
                refine pv_ 18 84 (h := ?_)
                refine on_ 5 71 (h := fun K hK => ?_)
                refine goes_ Try.func175 (by kernel_rfl) rfl #[.int .i64 (rd x5_2 (ji22)), .int .i64 7] (by rfl) rfl rfl (by (try simp only [List.map_toArray, List.map_cons, List.map_nil]); first | done | (simp only [hji22]; rfl) | rfl | (simp only [List.length_drop, List.length_take]; rfl)) ?_
                with_reducible refine (spec_l2Turn.calls (rd x5_2 (ji22)) 7 t135 _ A25.out).mono ?_
                rintro e w' ⟨rfl, ⟨nd, rfl⟩⟩
                refine ⟨_, rfl, ?_⟩
                refine hK.out _ _ ⟨hHeld.1, hHeld.2.1, hHeld.2.2⟩ (fun hHeld => ?_)
                clear hK K
                refine norm_ (a' := ?_) ?_ ?_
                rotate_left
                ·show Act.put _ (some 71) _ = _
                 simp only [Act.put, List.setIfInBounds_toArray, List.set_cons_zero, List.set_cons_succ, i64_w, i32_w]
                 rfl
                refine on_ 11 77 (h := fun K hK => ?_)
                refine goes_ Try.func175 (by kernel_rfl) rfl #[.int .i64 (rd x5_2 (ji22)), .int .i64 18] (by rfl) rfl rfl (by (try simp only [List.map_toArray, List.map_cons, List.map_nil]); first | done | (simp only [hji22]; rfl) | rfl | (simp only [List.length_drop, List.length_take]; rfl)) ?_
                with_reducible refine (spec_l2Turn.calls (rd x5_2 (ji22)) 18 t137 _ A26.out).mono ?_
                rintro e w' ⟨rfl, ⟨nd, rfl⟩⟩
                refine ⟨_, rfl, ?_⟩
                refine hK.out _ _ ⟨hHeld.1, hHeld.2.1, hHeld.2.2⟩ (fun hHeld => ?_)
                clear hK K
                refine norm_ (a' := ?_) ?_ ?_
                rotate_left
                ·show Act.put _ (some 77) _ = _
                 simp only [Act.put, List.setIfInBounds_toArray, List.set_cons_zero, List.set_cons_succ, i64_w, i32_w]
                 rfl
                refine pv_ 12 78 (h := ?_)
                refine pv_ 19 85 (h := ?_)
                refine pv_ 20 8 (h := ?_)
                refine done_ (done_of HT_.out (by kernel_rfl)) ?_
                try go_wp2
                (try ((repeat rw [World.drewN_drewN]); rw [drewN_self w40]; generalize hq_ : World.drewN w40 _ = w40; have n0_ := aM (Kd.R_at hq_ HO_5.out); have n1_ := aM (below_at hq_ HB.out); clear hq_ HO_5 HB; have HO_5 := n0_; have HB := n1_; clear n0_ n1_))
                replace HO_5 := aM (Kd.R_drew HO_5.out); replace HB := aM (below_drew1 HB.out); have p139 : 0 ≤ ((ji27) : Int) := of_decide_eq_true (by first | (with_reducible assumption) | assumption); have q139 : (ji27) < (x5_2.length : Int) := of_decide_eq_true (by first | (with_reducible assumption) | assumption)
                obtain ⟨ad139, e139, hx139_0⟩ := Kd.at_int (Kd.R_reads' HO_5.out).2.2 (ji27) p139 q139
                obtain rfl : ad134 = ad139 := (by injection e139)
                replace p139 := eq_true p139; replace q139 := eq_true q139; have p141 : 0 ≤ ((ji27) : Int) := of_decide_eq_true (by first | (with_reducible assumption) | assumption); have q141 : (ji27) < (x5_2.length : Int) := of_decide_eq_true (by first | (with_reducible assumption) | assumption)
                obtain ⟨ad141, e141, hx141_0⟩ := Kd.at_int (Kd.R_reads' HO_5.out).2.2 (ji27) p141 q141
                obtain rfl : ad134 = ad141 := (by injection e141)
                replace p141 := eq_true p141; replace q141 := eq_true q141; have p143 : 0 ≤ ((ji27) : Int) := of_decide_eq_true (by first | (with_reducible assumption) | assumption); have q143 : (ji27) < (x5_2.length : Int) := of_decide_eq_true (by first | (with_reducible assumption) | assumption)
                obtain ⟨ad143, e143, hx143_0⟩ := Kd.at_int (Kd.R_reads' HO_5.out).2.2 (ji27) p143 q143
                obtain rfl : ad134 = ad143 := (by injection e143)
                replace p143 := eq_true p143; replace q143 := eq_true q143
                refine start_ (n := 21) (S := fun w' => w'.cell? (ad134.add ((ji27)).toNat) = some (.int .i64 (rd x5_2 (ji27))) ∧ w'.cell? (ad134.add ((ji27)).toNat) = some (.int .i64 (rd x5_2 (ji27))) ∧ w'.cell? (ad134.add ((ji27)).toNat) = some (.int .i64 (rd x5_2 (ji27)))) (ds := []) #[false, false, false, false, false, false, false, false, false, false, false, false, false, false, false, false, false, false, false, false, false] (by kernel_rfl) rfl rfl ⟨hx139_0, hx141_0, hx143_0⟩ (fun hHeld => ?_); refine with_tabW spec_l2Block.tab10 spec_l2Block.bits10 (fun HT_ HW_ => ?_)
                generalize w40.drew = w42 at HO_5 HB hx139_0 hx141_0 hx143_0 hHeld ⊢
                refine pv_ 0 86 (h := ?_)
                refine pv_ 1 87 (h := ?_)
                refine pv_ 2 88 (h := ?_)
                refine pv_ 3 89 (h := ?_)
                refine pv_ 6 92 (h := ?_)
                refine pv_ 7 93 (h := ?_)
                refine pv_ 8 94 (h := ?_)
                refine pv_ 9 95 (h := ?_)
                refine pv_ 13 99 (h := ?_)
                refine pv_ 14 100 (h := ?_)
                refine pv_ 15 101 (h := ?_)
                refine pv_ 16 102 (h := ?_)
                refine tk_ 4 90 (h := ?_)
                refine tk_ 10 96 (h := ?_)
                refine tk_ 17 103 (h := ?_)
                refine pv_ 18 104 (h := ?_)
                refine on_ 5 91 (h := fun K hK => ?_)
                refine goes_ Try.func175 (by kernel_rfl) rfl #[.int .i64 (rd x5_2 (ji27)), .int .i64 17] (by rfl) rfl rfl (by (try simp only [List.map_toArray, List.map_cons, List.map_nil]); first | done | (simp only [hji27]; rfl) | rfl | (simp only [List.length_drop, List.length_take]; rfl)) ?_
                with_reducible refine (spec_l2Turn.calls (rd x5_2 (ji27)) 17 t140 _ A30.out).mono ?_
                rintro e w' ⟨rfl, ⟨nd, rfl⟩⟩
                refine ⟨_, rfl, ?_⟩
                refine hK.out _ _ ⟨hHeld.1, hHeld.2.1, hHeld.2.2⟩ (fun hHeld => ?_)
                clear hK K
                refine norm_ (a' := ?_) ?_ ?_
                rotate_left
                ·show Act.put _ (some 91) _ = _
                 simp only [Act.put, List.setIfInBounds_toArray, List.set_cons_zero, List.set_cons_succ, i64_w, i32_w]
                 rfl
                refine on_ 11 97 (h := fun K hK => ?_)
                refine goes_ Try.func175 (by kernel_rfl) rfl #[.int .i64 (rd x5_2 (ji27)), .int .i64 19] (by rfl) rfl rfl (by (try simp only [List.map_toArray, List.map_cons, List.map_nil]); first | done | (simp only [hji27]; rfl) | rfl | (simp only [List.length_drop, List.length_take]; rfl)) ?_
                with_reducible refine (spec_l2Turn.calls (rd x5_2 (ji27)) 19 t142 _ A31.out).mono ?_
                rintro e w' ⟨rfl, ⟨nd, rfl⟩⟩
                refine ⟨_, rfl, ?_⟩
                refine hK.out _ _ ⟨hHeld.1, hHeld.2.1, hHeld.2.2⟩ (fun hHeld => ?_)
                clear hK K
                refine norm_ (a' := ?_) ?_ ?_
                rotate_left
                ·show Act.put _ (some 97) _ = _
                 simp only [Act.put, List.setIfInBounds_toArray, List.set_cons_zero, List.set_cons_succ, i64_w, i32_w]
                 rfl
                refine pv_ 12 98 (h := ?_)
                refine pv_ 19 105 (h := ?_)
                refine pv_ 20 9 (h := ?_)
                refine done_ (done_of HT_.out (by kernel_rfl)) ?_
                try go_wp2
                (try ((repeat rw [World.drewN_drewN]); rw [drewN_self w42]; generalize hq_ : World.drewN w42 _ = w42; have n0_ := aM (Kd.R_at hq_ HO_5.out); have n1_ := aM (below_at hq_ HB.out); clear hq_ HO_5 HB; have HO_5 := n0_; have HB := n1_; clear n0_ n1_))
                replace HO_5 := aM (Kd.R_drew HO_5.out); replace HB := aM (below_drew1 HB.out); have p144 : 0 ≤ ((ji32) : Int) := of_decide_eq_true (by first | (with_reducible assumption) | assumption); have q144 : (ji32) < (x5_2.length : Int) := of_decide_eq_true (by first | (with_reducible assumption) | assumption)
                obtain ⟨ad144, e144, hx144_0⟩ := Kd.at_int (Kd.R_reads' HO_5.out).2.2 (ji32) p144 q144
                obtain rfl : ad134 = ad144 := (by injection e144)
                replace p144 := eq_true p144; replace q144 := eq_true q144; have p145 : 0 ≤ ((ji35) : Int) := of_decide_eq_true (by first | (with_reducible assumption) | assumption); have q145 : (ji35) < (x5_2.length : Int) := of_decide_eq_true (by first | (with_reducible assumption) | assumption)
                obtain ⟨ad145, e145, hx145_0⟩ := Kd.at_int (Kd.R_reads' HO_5.out).2.2 (ji35) p145 q145
                obtain rfl : ad134 = ad145 := (by injection e145)
                replace p145 := eq_true p145; replace q145 := eq_true q145
                refine start_ (n := 20) (S := fun w' => w'.cell? (ad134.add ((ji32)).toNat) = some (.int .i64 (rd x5_2 (ji32))) ∧ w'.cell? (ad134.add ((ji35)).toNat) = some (.int .i64 (rd x5_2 (ji35)))) (ds := [17, 18]) #[false, false, false, false, false, false, false, false, false, false, false, false, false, false, false, false, false, false, false, false] (by kernel_rfl) rfl rfl ⟨hx144_0, hx145_0⟩ (fun hHeld => ?_); refine with_tabW spec_l2Block.tab11 spec_l2Block.bits11 (fun HT_ HW_ => ?_)
                generalize w42.drew = w43 at HO_5 HB hx144_0 hx145_0 hHeld ⊢
                refine pv_ 0 106 (h := ?_)
                refine pv_ 1 107 (h := ?_)
                refine pv_ 2 108 (h := ?_)
                refine pv_ 3 109 (h := ?_)
                refine pv_ 4 110 (h := ?_)
                refine pv_ 5 111 (h := ?_)
                refine pv_ 8 114 (h := ?_)
                refine pv_ 10 116 (h := ?_)
                refine pv_ 11 117 (h := ?_)
                refine pv_ 12 118 (h := ?_)
                refine pv_ 13 119 (h := ?_)
                refine tk_ 6 112 (h := ?_)
                refine pv_ 7 113 (h := ?_)
                refine pv_ 9 115 (h := ?_)
                refine tk_ 14 120 (h := ?_)
                refine pv_ 15 121 (h := ?_)
                refine on_ 16 122 (h := fun K hK => ?_)
                refine goes_ Try.func176 (by kernel_rfl) rfl #[.int .i64 (wrap64 ((wrap64 ((wrap64 ((Go.bits .xor .i64 (Go.bits .xor .i64 t140 t142) ((rd x5_2 (ji27)) / 1024)) + (rd x5_2 (ji32)))) + (Go.bits .xor .i64 (Go.bits .xor .i64 t135 t137) ((rd x5_2 (ji22)) / 8)))) + (rd x5_2 (ji35))))] (by rfl) rfl rfl (by (try simp only [List.map_toArray, List.map_cons, List.map_nil]); first | done | (simp only [hji22, hji27, hji32, hji35]; rfl) | rfl | (simp only [List.length_drop, List.length_take]; rfl)) ?_
                with_reducible refine (spec_l2Low.calls (wrap64 ((wrap64 ((wrap64 ((Go.bits .xor .i64 (Go.bits .xor .i64 t140 t142) ((rd x5_2 (ji27)) / 1024)) + (rd x5_2 (ji32)))) + (Go.bits .xor .i64 (Go.bits .xor .i64 t135 t137) ((rd x5_2 (ji22)) / 8)))) + (rd x5_2 (ji35)))) t146 _ A38.out).mono ?_
                rintro e w' ⟨rfl, ⟨nd, rfl⟩⟩
                refine ⟨_, rfl, ?_⟩
                refine hK.out _ _ ⟨hHeld.1, hHeld.2⟩ (fun hHeld => ?_)
                clear hK K
                refine norm_ (a' := ?_) ?_ ?_
                rotate_left
                ·show Act.put _ (some 122) _ = _
                 simp only [Act.put, List.setIfInBounds_toArray, List.set_cons_zero, List.set_cons_succ, i64_w, i32_w]
                 rfl
                refine last_ (i := 17) (N := some 123) #[true, true, true, true, true, true, true, true, true, true, true, true, true, true, true, true, true, true, false, false] rfl rfl (one_of HT_.out (by kernel_rfl)) (by decide) (fun K hK => ?_)
                refine value_ (w1 := ?_) (v := ?_) (by rfl) rfl ?_ ?_
                rotate_left 2
                ·go_simp
                 constructor
                 ·rfl
                 ·rfl
                refine hK.out _ _ ?_
                clear hK K
                refine norm_ (a' := ?_) ?_ ?_
                rotate_left
                ·show Act.put _ (some 123) _ = _
                 simp only [Act.put, List.setIfInBounds_toArray, List.set_cons_zero, List.set_cons_succ, i64_w, i32_w]
                 rfl
                refine last_ (i := 18) (N := some 124) #[true, true, true, true, true, true, true, true, true, true, true, true, true, true, true, true, true, true, true, false] rfl rfl (one_of HT_.out (by kernel_rfl)) (by decide) (fun K hK => ?_)
                refine Kd.R_append_step (Kd.int .i64) (w0 := w) w.heap.size (by rfl) (.tmp 106) (.tmp 123) 123 3 (.int .i64 0) 8 rfl Try.underlying123 info3 rfl (by decide) (by omega) (.slice (some ad134) x5_2.length co41) x5_2 t146 [.int .i64 t146] (fun _ => True) (fun _ => False) rfl rfl ?aP (fun _ hk => hk.elim) ?aF ?aO ?aB ?aS ?aL ?_
                (case aP => exact rfl)
                (case aB => exact xbel)
                (case aF => exact (fun _ _ => trivial))
                (case aO => exact (xr HO_5))
                (case aS => exact (below_size xbel))
                (case aL => have := LMc39.out; omega)
                intro v148 w44 ho hb hg hat
                rw [← Ny147.out] at ho
                replace HB := aM (hb); have HO149 := aM (ho); clear HO_5 ho hb hg hat
                refine hK.out _ _ ?_
                clear hK K
                refine norm_ (a' := ?_) ?_ ?_
                rotate_left
                ·show Act.put _ (some 124) _ = _
                 simp only [Act.put, List.setIfInBounds_toArray, List.set_cons_zero, List.set_cons_succ, i64_w, i32_w]
                 rfl
                refine pv_ 19 5 (h := ?_)
                refine done_ (done_of HT_.out (by kernel_rfl)) ?_
                try go_wp2
                go_roundg k2
                case measure => have := HK1.out; have := HK2.out; omega
                case rel => exact ⟨(y147), (wrap64 (x7_2 + 1)), (by first | rfl | (simp; done) | (simp [*]; done)), H', ⟨by have := HK1.out; have := HK2.out; omega⟩, ⟨by (with_reducible repeat (first | apply Kd.R_alloc | apply Kd.R_drewN | apply Kd.R_drew)); exact HO149.out⟩, ⟨xbel⟩⟩
               ·rw [if_neg c39] at H
                exact absurd H (by simp)
              ·rw [if_neg c37] at H
               exact absurd H (by simp)
             ·rw [if_neg c36] at H
              exact absurd H (by simp)
            ·rw [if_neg c34] at H
             exact absurd H (by simp)
           ·rw [if_neg c33] at H
            exact absurd H (by simp)
          ·rw [if_neg c29] at H
           exact absurd H (by simp)
         ·rw [if_neg c28] at H
          exact absurd H (by simp)
        ·rw [if_neg c24] at H
         exact absurd H (by simp)
       ·rw [if_neg c23] at H
        exact absurd H (by simp)
      ·rw [if_neg c21] at H
       have c21b0 : decide (x7_2 < 64) = false := decide_eq_false c21; clear c21; replace H := Option.bind_eq_some_iff.mp H
       obtain ⟨t150, A450, H⟩ := H
       replace H : ((some (([] : List Int) : List Int)).bind fun y153 => (if y153.length + l0.length < 17592186044416 then (spec_l2Block.l2 k2 l0 x5_2 t150 (y153 ++ l0) 0) else (none))) = some r := H; have A45 := aM A450; clear A450
       obtain ⟨y153, hy153⟩ : ∃ y_ : List Int, y_ = (([] : List Int)) := ⟨_, rfl⟩
       replace H : (if y153.length + l0.length < 17592186044416 then (spec_l2Block.l2 k2 l0 x5_2 t150 (y153 ++ l0) 0) else (none)) = some r := by first | (rw [hy153]; with_reducible exact H) | (have H2_ := (Option.bind_some _ _).symm.trans H; rw [hy153]; with_reducible exact H2_) | (have H2_ := (Option.bind_some _ _).symm.trans H; with_reducible exact H2_) | with_reducible exact H | (rw [hy153]; exact H) | exact H
       have Ny153 := aM hy153; clear hy153
       by_cases c46 : y153.length + l0.length < 17592186044416
       ·rw [if_pos c46] at H
        have LMc46 := aM c46; clear c46
        obtain ⟨y156, hy156⟩ : ∃ y_ : List Int, y_ = (y153 ++ l0) := ⟨_, rfl⟩
        replace H : (spec_l2Block.l2 k2 l0 x5_2 t150 y156 0) = some r := by first | (rw [hy156]; with_reducible exact H) | (have H2_ := (Option.bind_some _ _).symm.trans H; rw [hy156]; with_reducible exact H2_) | (have H2_ := (Option.bind_some _ _).symm.trans H; with_reducible exact H2_) | with_reducible exact H | (rw [hy156]; exact H) | exact H
        have Ny156 := aM hy156; clear hy156
        have H' := aM H
        clear H
        go_wp2_with (first | ((with_reducible refine gate_callee (f := 177) rfl ?_); refine goesL_ (some 125) rfl rfl Try.func177 (by kernel_rfl) rfl #[] rfl (by (try simp only [List.map_toArray, List.map_cons, List.map_nil]); first | done | rfl | (simp only [List.length_drop, List.length_take]; rfl)) ?_; (with_reducible refine (spec_l2Keys.calls  t150 _ A45.out).mono ?_); rintro e w47 ⟨v151, rfl, ho0, hb⟩; refine ⟨_, rfl, ?_⟩; have HO152 := aM (Kd.R_lower (Kd.R_new' ho0 (Kd.R_lt (xr HO_5))) (below_size xbel)); replace HO_5 := aM (Kd.R_elder' (xr HO_5) (Kd.R_base ho0) hb); replace HB := xbs hb; (try clear hb); (try clear hb2); (try clear hk); (try clear hi); (try clear ho0)) | ((with_reducible refine gate_dst (N := 126) rfl ?_); refine Kd.R_lit (Kd.int .i64) _ 3 ?hg (N := 126) ?hd (xs := ([] : List Int)) (inner := []) (ok := fun _ => True) (okp := fun _ => True) ?hr ?hp (fun _ hk => hk) trivial (Below.refl _ _) (Nat.le_refl _) (by simp) ?_; (case hd => rfl); (case hg => rfl); (case hr => first | (go_simp; done) | (go_simp; rfl)); (case hp => exact (Reps.none _ _)); intro v154 w48 ho49 hb hg_ hnew_; clear hg_ hnew_; (first | rw [← Ny153.out] at ho49 | (simp only [Int.reduceToNat] at ho49; rw [← Ny153.out] at ho49)); have HO155 := aM (Kd.R_lower (Kd.R_new' (Kd.R_new' ho49 (Kd.R_lt (xr HO_5))) (Kd.R_lt (xr HO152))) (below_size xbel)); replace HO_5 := aM (Kd.R_elder' (xr HO_5) (Kd.R_base ho49) hb); replace HO152 := aM (Kd.R_elder' (xr HO152) (Kd.R_base ho49) hb); replace HB := xbs hb; clear hb ho49) | ((with_reducible refine gate_builtin (b := .append) (xs := #[.tmp 126, .tmp 127]) rfl ?_); at_builtin; refine Kd.R_append_rows (Kd.int .i64) (w0 := w) w.heap.size rfl (.tmp 126) (.tmp 127) 123 3 (.int .i64 0) 8 rfl Try.underlying123 info3 rfl (by decide) (by omega) v154 y153 l0 _ _ _ (fun k_ => some k_ ≠ (u5 : Value).ownBlock ∧ some k_ ≠ (v151 : Value).ownBlock) (fun _ => False) rfl rfl ?aO ?aR (fun _ _ h => h) (fun _ h => h.elim) ?aF ?aB ?aS ?aL ?_; (case aR => exact xcb HR0); (case aB => exact xbel); (case aF => exact (fun k_ hk => ⟨Kd.fresh' (Kd.R_lt (xr HO_5)) k_ hk, Kd.fresh' (Kd.R_lt (xr HO152)) k_ hk⟩)); (case aO => exact (by (with_reducible repeat (first | apply Kd.R_alloc | apply Kd.R_drewN | apply Kd.R_drew)); exact Kd.R_mono HO155.out (fun _ hk => ⟨hk.1.2, hk.2⟩))); (case aS => exact (below_size xbel)); (case aL => have := LMc46.out; omega); intro v157 w50 ho hb hg hat; rw [← Ny156.out] at ho; replace HO_5 := aM (Kd.R_after (ok := (fun k_ => some k_ ≠ (v151 : Value).ownBlock)) (by (with_reducible repeat (first | apply Kd.R_alloc | apply Kd.R_drewN | apply Kd.R_drew)); exact Kd.R_mono HO_5.out (fun _ hk => ⟨hk.1.2, hk.2⟩)) hg hat); replace HO152 := aM (Kd.R_after (ok := (fun k_ => some k_ ≠ (u5 : Value).ownBlock)) (by (with_reducible repeat (first | apply Kd.R_alloc | apply Kd.R_drewN | apply Kd.R_drew)); exact Kd.R_mono HO152.out (fun _ hk => ⟨hk.1.2, hk.2⟩)) hg hat); replace HB := aM (hb); have HO158 := aM (ho); clear HO155; clear ho hb hg hat))
        go_loopg [11, 12] k2 (fun kq v11 v12 w' => ∃ (x11_3 : List Int) (x12_3 : Int), v12 = .int .i64 x12_3 ∧ Aside0 (spec_l2Block.l2 kq l0 x5_2 t150 x11_3 x12_3 = some r) ∧ Aside0 (kq ≤ k2) ∧ Aside0 (Kd.R (Kd.int .i64) 3 w' w.heap.size (fun k_ => some k_ ≠ (v151 : Value).ownBlock ∧ some k_ ≠ (v11 : Value).ownBlock) u5 x5_2) ∧ Aside0 (Kd.R (Kd.int .i64) 3 w' w.heap.size (fun k_ => some k_ ≠ (u5 : Value).ownBlock ∧ some k_ ≠ (v11 : Value).ownBlock) v151 t150) ∧ Aside0 (Kd.R (Kd.int .i64) 3 w' w.heap.size (fun k_ => some k_ ≠ (u5 : Value).ownBlock ∧ some k_ ≠ (v151 : Value).ownBlock) v11 x11_3) ∧ Aside0 (Below w.heap.size w w'))
        case atStart => exact ⟨(y156), (0), (by first | rfl | (simp; done) | (simp [*]; done)), H', ⟨Nat.le_refl _⟩, ⟨by (with_reducible repeat (first | apply Kd.R_alloc | apply Kd.R_drewN | apply Kd.R_drew)); exact HO_5.out⟩, ⟨by (with_reducible repeat (first | apply Kd.R_alloc | apply Kd.R_drewN | apply Kd.R_drew)); exact HO152.out⟩, ⟨by (with_reducible repeat (first | apply Kd.R_alloc | apply Kd.R_drewN | apply Kd.R_drew)); exact HO158.out⟩, ⟨xbel⟩⟩
        case round =>
         clear H'
         try clear c1
         try clear p1
         try clear q1
         try clear hx1
         try clear c2
         try clear p2
         try clear c3
         try clear c4
         try clear p6
         try clear p13
         try clear q13
         try clear hx13
         try clear p14
         try clear q14
         try clear hx14
         try clear c17
         try clear c21
         try clear c21b0
         try clear c23
         try clear c24
         try clear c28
         try clear c29
         try clear c33
         try clear c34
         try clear c36
         try clear c37
         try clear c39
         try clear c46
         try clear hx139_0
         try clear hx141_0
         try clear hx143_0
         try clear hx144_0
         try clear hx145_0
         try clear p139
         try clear p141
         try clear p143
         try clear p144
         try clear p145
         try clear q139
         try clear q141
         try clear q143
         try clear q144
         try clear q145
         obtain ⟨x11_3, x12_3, rfl, HA, HK3, HO_5, HO_10, HO_11, HB⟩ := hrel
         cases gk with
         | zero => exact absurd HA.out (by simp [spec_l2Block.l2])
         | succ k3 =>
          have H := HA.out; clear HA
          simp only [spec_l2Block.l2] at H
          by_cases c51 : x12_3 < 64
          ·rw [if_pos c51] at H
           have c51b0 : decide (x12_3 < 64) = true := decide_eq_true c51; clear c51
           by_cases c52 : 4 < (x11_3.length : Int)
           ·rw [if_pos c52] at H
            have c52b0 : decide (4 < (x11_3.length : Int)) = true := decide_eq_true c52; have c52b1 : decide (4 < x11_3.length) = true := decide_eq_true (by omega); clear c52
            by_cases c53 : 0 < (x11_3.length : Int)
            ·rw [if_pos c53] at H
             have c53b0 : decide (0 < (x11_3.length : Int)) = true := decide_eq_true c53; have c53b1 : decide (0 < x11_3.length) = true := decide_eq_true (by omega); clear c53
             by_cases c54 : 5 < (x11_3.length : Int)
             ·rw [if_pos c54] at H
              have c54b0 : decide (5 < (x11_3.length : Int)) = true := decide_eq_true c54; have c54b1 : decide (5 < x11_3.length) = true := decide_eq_true (by omega); clear c54
              by_cases c55 : 6 < (x11_3.length : Int)
              ·rw [if_pos c55] at H
               have c55b0 : decide (6 < (x11_3.length : Int)) = true := decide_eq_true c55; have c55b1 : decide (6 < x11_3.length) = true := decide_eq_true (by omega); clear c55
               by_cases c56 : 7 < (x11_3.length : Int)
               ·rw [if_pos c56] at H
                have c56b0 : decide (7 < (x11_3.length : Int)) = true := decide_eq_true c56; have c56b1 : decide (7 < x11_3.length) = true := decide_eq_true (by omega); clear c56; replace H := Option.bind_eq_some_iff.mp H
                obtain ⟨t164, A570, H⟩ := H
                replace H : ((spec_l2Turn.f (rd x11_3 4) 11).bind fun t165 => ((spec_l2Turn.f (rd x11_3 4) 25).bind fun t166 => (if 0 ≤ x12_3 then (if x12_3 < (t150.length : Int) then (if x12_3 < (x5_2.length : Int) then ((spec_l2Low.f (wrap64 ((wrap64 ((wrap64 ((wrap64 ((rd x11_3 7) + (Go.bits .xor .i64 (Go.bits .xor .i64 t164 t165) t166))) + (Go.bits .xor .i64 (Go.bits .and .i64 (rd x11_3 4) (rd x11_3 5)) (Go.bits .and .i64 (Go.bits .xor .i64 4294967295 (rd x11_3 4)) (rd x11_3 6))))) + (rd t150 x12_3))) + (rd x5_2 x12_3)))).bind fun t169 => (if 1 < (x11_3.length : Int) then (if 2 < (x11_3.length : Int) then ((spec_l2Turn.f (rd x11_3 0) 2).bind fun t174 => ((spec_l2Turn.f (rd x11_3 0) 13).bind fun t175 => ((spec_l2Turn.f (rd x11_3 0) 22).bind fun t176 => ((spec_l2Low.f (wrap64 ((Go.bits .xor .i64 (Go.bits .xor .i64 t174 t175) t176) + (Go.bits .xor .i64 (Go.bits .xor .i64 (Go.bits .and .i64 (rd x11_3 0) (rd x11_3 1)) (Go.bits .and .i64 (rd x11_3 0) (rd x11_3 2))) (Go.bits .and .i64 (rd x11_3 1) (rd x11_3 2)))))).bind fun t177 => ((spec_l2Low.f (wrap64 (t169 + t177))).bind fun t178 => (if 3 < (x11_3.length : Int) then ((spec_l2Low.f (wrap64 ((rd x11_3 3) + t169))).bind fun t182 => (spec_l2Block.l2 k3 l0 x5_2 t150 (([t178, rd x11_3 0, rd x11_3 1, rd x11_3 2, t182, rd x11_3 4, rd x11_3 5, rd x11_3 6] : List Int)) (wrap64 (x12_3 + 1)))) else (none))))))) else (none)) else (none))) else (none)) else (none)) else (none)))) = some r := H; have A57 := aM A570; clear A570; replace H := Option.bind_eq_some_iff.mp H
                obtain ⟨t165, A580, H⟩ := H
                replace H : ((spec_l2Turn.f (rd x11_3 4) 25).bind fun t166 => (if 0 ≤ x12_3 then (if x12_3 < (t150.length : Int) then (if x12_3 < (x5_2.length : Int) then ((spec_l2Low.f (wrap64 ((wrap64 ((wrap64 ((wrap64 ((rd x11_3 7) + (Go.bits .xor .i64 (Go.bits .xor .i64 t164 t165) t166))) + (Go.bits .xor .i64 (Go.bits .and .i64 (rd x11_3 4) (rd x11_3 5)) (Go.bits .and .i64 (Go.bits .xor .i64 4294967295 (rd x11_3 4)) (rd x11_3 6))))) + (rd t150 x12_3))) + (rd x5_2 x12_3)))).bind fun t169 => (if 1 < (x11_3.length : Int) then (if 2 < (x11_3.length : Int) then ((spec_l2Turn.f (rd x11_3 0) 2).bind fun t174 => ((spec_l2Turn.f (rd x11_3 0) 13).bind fun t175 => ((spec_l2Turn.f (rd x11_3 0) 22).bind fun t176 => ((spec_l2Low.f (wrap64 ((Go.bits .xor .i64 (Go.bits .xor .i64 t174 t175) t176) + (Go.bits .xor .i64 (Go.bits .xor .i64 (Go.bits .and .i64 (rd x11_3 0) (rd x11_3 1)) (Go.bits .and .i64 (rd x11_3 0) (rd x11_3 2))) (Go.bits .and .i64 (rd x11_3 1) (rd x11_3 2)))))).bind fun t177 => ((spec_l2Low.f (wrap64 (t169 + t177))).bind fun t178 => (if 3 < (x11_3.length : Int) then ((spec_l2Low.f (wrap64 ((rd x11_3 3) + t169))).bind fun t182 => (spec_l2Block.l2 k3 l0 x5_2 t150 (([t178, rd x11_3 0, rd x11_3 1, rd x11_3 2, t182, rd x11_3 4, rd x11_3 5, rd x11_3 6] : List Int)) (wrap64 (x12_3 + 1)))) else (none))))))) else (none)) else (none))) else (none)) else (none)) else (none))) = some r := H; have A58 := aM A580; clear A580; replace H := Option.bind_eq_some_iff.mp H
                obtain ⟨t166, A590, H⟩ := H
                replace H : (if 0 ≤ x12_3 then (if x12_3 < (t150.length : Int) then (if x12_3 < (x5_2.length : Int) then ((spec_l2Low.f (wrap64 ((wrap64 ((wrap64 ((wrap64 ((rd x11_3 7) + (Go.bits .xor .i64 (Go.bits .xor .i64 t164 t165) t166))) + (Go.bits .xor .i64 (Go.bits .and .i64 (rd x11_3 4) (rd x11_3 5)) (Go.bits .and .i64 (Go.bits .xor .i64 4294967295 (rd x11_3 4)) (rd x11_3 6))))) + (rd t150 x12_3))) + (rd x5_2 x12_3)))).bind fun t169 => (if 1 < (x11_3.length : Int) then (if 2 < (x11_3.length : Int) then ((spec_l2Turn.f (rd x11_3 0) 2).bind fun t174 => ((spec_l2Turn.f (rd x11_3 0) 13).bind fun t175 => ((spec_l2Turn.f (rd x11_3 0) 22).bind fun t176 => ((spec_l2Low.f (wrap64 ((Go.bits .xor .i64 (Go.bits .xor .i64 t174 t175) t176) + (Go.bits .xor .i64 (Go.bits .xor .i64 (Go.bits .and .i64 (rd x11_3 0) (rd x11_3 1)) (Go.bits .and .i64 (rd x11_3 0) (rd x11_3 2))) (Go.bits .and .i64 (rd x11_3 1) (rd x11_3 2)))))).bind fun t177 => ((spec_l2Low.f (wrap64 (t169 + t177))).bind fun t178 => (if 3 < (x11_3.length : Int) then ((spec_l2Low.f (wrap64 ((rd x11_3 3) + t169))).bind fun t182 => (spec_l2Block.l2 k3 l0 x5_2 t150 (([t178, rd x11_3 0, rd x11_3 1, rd x11_3 2, t182, rd x11_3 4, rd x11_3 5, rd x11_3 6] : List Int)) (wrap64 (x12_3 + 1)))) else (none))))))) else (none)) else (none))) else (none)) else (none)) else (none)) = some r := H; have A59 := aM A590; clear A590
                by_cases c60 : 0 ≤ x12_3
                ·rw [if_pos c60] at H
                 have c60b0 : decide (0 ≤ x12_3) = true := decide_eq_true c60; clear c60
                 by_cases c61 : x12_3 < (t150.length : Int)
                 ·rw [if_pos c61] at H
                  have c61b0 : decide (x12_3 < (t150.length : Int)) = true := decide_eq_true c61; clear c61
                  by_cases c62 : x12_3 < (x5_2.length : Int)
                  ·rw [if_pos c62] at H
                   have c62b0 : decide (x12_3 < (x5_2.length : Int)) = true := decide_eq_true c62; clear c62; replace H := Option.bind_eq_some_iff.mp H
                   obtain ⟨t169, A630, H⟩ := H
                   replace H : (if 1 < (x11_3.length : Int) then (if 2 < (x11_3.length : Int) then ((spec_l2Turn.f (rd x11_3 0) 2).bind fun t174 => ((spec_l2Turn.f (rd x11_3 0) 13).bind fun t175 => ((spec_l2Turn.f (rd x11_3 0) 22).bind fun t176 => ((spec_l2Low.f (wrap64 ((Go.bits .xor .i64 (Go.bits .xor .i64 t174 t175) t176) + (Go.bits .xor .i64 (Go.bits .xor .i64 (Go.bits .and .i64 (rd x11_3 0) (rd x11_3 1)) (Go.bits .and .i64 (rd x11_3 0) (rd x11_3 2))) (Go.bits .and .i64 (rd x11_3 1) (rd x11_3 2)))))).bind fun t177 => ((spec_l2Low.f (wrap64 (t169 + t177))).bind fun t178 => (if 3 < (x11_3.length : Int) then ((spec_l2Low.f (wrap64 ((rd x11_3 3) + t169))).bind fun t182 => (spec_l2Block.l2 k3 l0 x5_2 t150 (([t178, rd x11_3 0, rd x11_3 1, rd x11_3 2, t182, rd x11_3 4, rd x11_3 5, rd x11_3 6] : List Int)) (wrap64 (x12_3 + 1)))) else (none))))))) else (none)) else (none)) = some r := H; have A63 := aM A630; clear A630
                   by_cases c64 : 1 < (x11_3.length : Int)
                   ·rw [if_pos c64] at H
                    have c64b0 : decide (1 < (x11_3.length : Int)) = true := decide_eq_true c64; have c64b1 : decide (1 < x11_3.length) = true := decide_eq_true (by omega); clear c64
                    by_cases c65 : 2 < (x11_3.length : Int)
                    ·rw [if_pos c65] at H
                     have c65b0 : decide (2 < (x11_3.length : Int)) = true := decide_eq_true c65; have c65b1 : decide (2 < x11_3.length) = true := decide_eq_true (by omega); clear c65; replace H := Option.bind_eq_some_iff.mp H
                     obtain ⟨t174, A660, H⟩ := H
                     replace H : ((spec_l2Turn.f (rd x11_3 0) 13).bind fun t175 => ((spec_l2Turn.f (rd x11_3 0) 22).bind fun t176 => ((spec_l2Low.f (wrap64 ((Go.bits .xor .i64 (Go.bits .xor .i64 t174 t175) t176) + (Go.bits .xor .i64 (Go.bits .xor .i64 (Go.bits .and .i64 (rd x11_3 0) (rd x11_3 1)) (Go.bits .and .i64 (rd x11_3 0) (rd x11_3 2))) (Go.bits .and .i64 (rd x11_3 1) (rd x11_3 2)))))).bind fun t177 => ((spec_l2Low.f (wrap64 (t169 + t177))).bind fun t178 => (if 3 < (x11_3.length : Int) then ((spec_l2Low.f (wrap64 ((rd x11_3 3) + t169))).bind fun t182 => (spec_l2Block.l2 k3 l0 x5_2 t150 (([t178, rd x11_3 0, rd x11_3 1, rd x11_3 2, t182, rd x11_3 4, rd x11_3 5, rd x11_3 6] : List Int)) (wrap64 (x12_3 + 1)))) else (none)))))) = some r := H; have A66 := aM A660; clear A660; replace H := Option.bind_eq_some_iff.mp H
                     obtain ⟨t175, A670, H⟩ := H
                     replace H : ((spec_l2Turn.f (rd x11_3 0) 22).bind fun t176 => ((spec_l2Low.f (wrap64 ((Go.bits .xor .i64 (Go.bits .xor .i64 t174 t175) t176) + (Go.bits .xor .i64 (Go.bits .xor .i64 (Go.bits .and .i64 (rd x11_3 0) (rd x11_3 1)) (Go.bits .and .i64 (rd x11_3 0) (rd x11_3 2))) (Go.bits .and .i64 (rd x11_3 1) (rd x11_3 2)))))).bind fun t177 => ((spec_l2Low.f (wrap64 (t169 + t177))).bind fun t178 => (if 3 < (x11_3.length : Int) then ((spec_l2Low.f (wrap64 ((rd x11_3 3) + t169))).bind fun t182 => (spec_l2Block.l2 k3 l0 x5_2 t150 (([t178, rd x11_3 0, rd x11_3 1, rd x11_3 2, t182, rd x11_3 4, rd x11_3 5, rd x11_3 6] : List Int)) (wrap64 (x12_3 + 1)))) else (none))))) = some r := H; have A67 := aM A670; clear A670; replace H := Option.bind_eq_some_iff.mp H
                     obtain ⟨t176, A680, H⟩ := H
                     replace H : ((spec_l2Low.f (wrap64 ((Go.bits .xor .i64 (Go.bits .xor .i64 t174 t175) t176) + (Go.bits .xor .i64 (Go.bits .xor .i64 (Go.bits .and .i64 (rd x11_3 0) (rd x11_3 1)) (Go.bits .and .i64 (rd x11_3 0) (rd x11_3 2))) (Go.bits .and .i64 (rd x11_3 1) (rd x11_3 2)))))).bind fun t177 => ((spec_l2Low.f (wrap64 (t169 + t177))).bind fun t178 => (if 3 < (x11_3.length : Int) then ((spec_l2Low.f (wrap64 ((rd x11_3 3) + t169))).bind fun t182 => (spec_l2Block.l2 k3 l0 x5_2 t150 (([t178, rd x11_3 0, rd x11_3 1, rd x11_3 2, t182, rd x11_3 4, rd x11_3 5, rd x11_3 6] : List Int)) (wrap64 (x12_3 + 1)))) else (none)))) = some r := H; have A68 := aM A680; clear A680; replace H := Option.bind_eq_some_iff.mp H
                     obtain ⟨t177, A690, H⟩ := H
                     replace H : ((spec_l2Low.f (wrap64 (t169 + t177))).bind fun t178 => (if 3 < (x11_3.length : Int) then ((spec_l2Low.f (wrap64 ((rd x11_3 3) + t169))).bind fun t182 => (spec_l2Block.l2 k3 l0 x5_2 t150 (([t178, rd x11_3 0, rd x11_3 1, rd x11_3 2, t182, rd x11_3 4, rd x11_3 5, rd x11_3 6] : List Int)) (wrap64 (x12_3 + 1)))) else (none))) = some r := H; have A69 := aM A690; clear A690; replace H := Option.bind_eq_some_iff.mp H
                     obtain ⟨t178, A700, H⟩ := H
                     replace H : (if 3 < (x11_3.length : Int) then ((spec_l2Low.f (wrap64 ((rd x11_3 3) + t169))).bind fun t182 => (spec_l2Block.l2 k3 l0 x5_2 t150 (([t178, rd x11_3 0, rd x11_3 1, rd x11_3 2, t182, rd x11_3 4, rd x11_3 5, rd x11_3 6] : List Int)) (wrap64 (x12_3 + 1)))) else (none)) = some r := H; have A70 := aM A700; clear A700
                     by_cases c71 : 3 < (x11_3.length : Int)
                     ·rw [if_pos c71] at H
                      have c71b0 : decide (3 < (x11_3.length : Int)) = true := decide_eq_true c71; have c71b1 : decide (3 < x11_3.length) = true := decide_eq_true (by omega); clear c71; replace H := Option.bind_eq_some_iff.mp H
                      obtain ⟨t182, A720, H⟩ := H
                      replace H : (spec_l2Block.l2 k3 l0 x5_2 t150 (([t178, rd x11_3 0, rd x11_3 1, rd x11_3 2, t182, rd x11_3 4, rd x11_3 5, rd x11_3 6] : List Int)) (wrap64 (x12_3 + 1))) = some r := H; have A72 := aM A720; clear A720
                      obtain ⟨y185, hy185⟩ : ∃ y_ : List Int, y_ = (([t178, rd x11_3 0, rd x11_3 1, rd x11_3 2, t182, rd x11_3 4, rd x11_3 5, rd x11_3 6] : List Int)) := ⟨_, rfl⟩
                      replace H : (spec_l2Block.l2 k3 l0 x5_2 t150 y185 (wrap64 (x12_3 + 1))) = some r := by first | (rw [hy185]; with_reducible exact H) | (have H2_ := (Option.bind_some _ _).symm.trans H; rw [hy185]; with_reducible exact H2_) | (have H2_ := (Option.bind_some _ _).symm.trans H; with_reducible exact H2_) | with_reducible exact H | (rw [hy185]; exact H) | exact H
                      have Ny185 := aM hy185; clear hy185
                      have H' := aM H
                      clear H
                      try go_wp2
                      replace HO_5 := aM (Kd.R_drew HO_5.out); replace HO_10 := aM (Kd.R_drew HO_10.out); replace HO_11 := aM (Kd.R_drew HO_11.out); replace HB := aM (below_drew1 HB.out)
                      obtain ⟨Ao74, co74, eo74⟩ := Kd.R_slice HO_11.out
                      (first | subst eo74 | (injection eo74 with f1_ f2_ f3_; have f4_ := f1_.symm; have f5_ := f3_.symm; clear f1_ f2_ f3_; subst f4_; subst f5_))
                      have p159 : 0 ≤ (4 : Int) := (by omega); have q159 : 4 < (x11_3.length : Int) := of_decide_eq_true (by first | (with_reducible assumption) | assumption)
                      obtain ⟨ad159, e159, hx159_0⟩ := Kd.at_int (Kd.R_reads' HO_11.out).2.2 4 p159 q159
                      cases e159
                      (try simp only [show (4 : Int).toNat = 4 from rfl, Nat.reduceMul, Nat.reduceEqDiff, Go.Addr.add, ↓reduceIte] at hx159_0)
                      have qi159 : (4 < x11_3.length) = True := eq_true (by omega)
                      (try rw [show ((4 : Int)).toNat = 4 from rfl] at hx159_0)
                      replace p159 := eq_true p159; replace q159 := eq_true q159; have p160 : 0 ≤ (0 : Int) := (by omega); have q160 : 0 < (x11_3.length : Int) := of_decide_eq_true (by first | (with_reducible assumption) | assumption)
                      obtain ⟨ad160, e160, hx160_0⟩ := Kd.at_int (Kd.R_reads' HO_11.out).2.2 0 p160 q160
                      obtain rfl : ad159 = ad160 := (by injection e160)
                      have qi160 : (0 < x11_3.length) = True := eq_true (by omega)
                      (try rw [show ((0 : Int)).toNat = 0 from rfl] at hx160_0)
                      (try rw [Addr.add_zero'] at hx160_0)
                      replace p160 := eq_true p160; replace q160 := eq_true q160
                      refine start_ (n := 8) (S := fun w' => w'.cell? ⟨ad159.block, ad159.off + 4, none⟩ = some (.int .i64 (rd x11_3 4)) ∧ w'.cell? ad159 = some (.int .i64 (rd x11_3 0))) (ds := []) #[false, false, false, false, false, false, false, false] (by kernel_rfl) rfl rfl ⟨hx159_0, hx160_0⟩ (fun hHeld => ?_); refine with_tabW spec_l2Block.tab17 spec_l2Block.bits17 (fun HT_ HW_ => ?_)
                      generalize wr.drew = w73 at HO_5 HO_10 HO_11 HB hx159_0 hx160_0 hHeld ⊢
                      refine pv_ 0 133 (h := ?_)
                      refine pv_ 1 134 (h := ?_)
                      refine pv_ 3 136 (h := ?_)
                      refine pv_ 4 137 (h := ?_)
                      refine tk_ 2 135 (h := ?_)
                      refine pv_ 6 13 (h := ?_)
                      refine tk_ 5 138 (h := ?_)
                      refine pv_ 7 14 (h := ?_)
                      refine done_ (done_of HT_.out (by kernel_rfl)) ?_
                      try go_wp2
                      replace HO_5 := aM (Kd.R_drew HO_5.out); replace HO_10 := aM (Kd.R_drew HO_10.out); replace HO_11 := aM (Kd.R_drew HO_11.out); replace HB := aM (below_drew1 HB.out); have p161 : 0 ≤ (5 : Int) := (by omega); have q161 : 5 < (x11_3.length : Int) := of_decide_eq_true (by first | (with_reducible assumption) | assumption)
                      obtain ⟨ad161, e161, hx161_0⟩ := Kd.at_int (Kd.R_reads' HO_11.out).2.2 5 p161 q161
                      obtain rfl : ad159 = ad161 := (by injection e161)
                      (try simp only [show (5 : Int).toNat = 5 from rfl, Nat.reduceMul, Nat.reduceEqDiff, Go.Addr.add, ↓reduceIte] at hx161_0)
                      have qi161 : (5 < x11_3.length) = True := eq_true (by omega)
                      (try rw [show ((5 : Int)).toNat = 5 from rfl] at hx161_0)
                      replace p161 := eq_true p161; replace q161 := eq_true q161; have p162 : 0 ≤ (6 : Int) := (by omega); have q162 : 6 < (x11_3.length : Int) := of_decide_eq_true (by first | (with_reducible assumption) | assumption)
                      obtain ⟨ad162, e162, hx162_0⟩ := Kd.at_int (Kd.R_reads' HO_11.out).2.2 6 p162 q162
                      obtain rfl : ad159 = ad162 := (by injection e162)
                      (try simp only [show (6 : Int).toNat = 6 from rfl, Nat.reduceMul, Nat.reduceEqDiff, Go.Addr.add, ↓reduceIte] at hx162_0)
                      have qi162 : (6 < x11_3.length) = True := eq_true (by omega)
                      (try rw [show ((6 : Int)).toNat = 6 from rfl] at hx162_0)
                      replace p162 := eq_true p162; replace q162 := eq_true q162
                      refine start_ (n := 13) (S := fun w' => w'.cell? ⟨ad159.block, ad159.off + 5, none⟩ = some (.int .i64 (rd x11_3 5)) ∧ w'.cell? ⟨ad159.block, ad159.off + 6, none⟩ = some (.int .i64 (rd x11_3 6))) (ds := []) #[false, false, false, false, false, false, false, false, false, false, false, false, false] (by kernel_rfl) rfl rfl ⟨hx161_0, hx162_0⟩ (fun hHeld => ?_); refine with_tabW spec_l2Block.tab18 spec_l2Block.bits18 (fun HT_ HW_ => ?_)
                      generalize w73.drew = w75 at HO_5 HO_10 HO_11 HB hx161_0 hx162_0 hHeld ⊢
                      refine pv_ 0 139 (h := ?_)
                      refine pv_ 1 140 (h := ?_)
                      refine pv_ 2 141 (h := ?_)
                      refine pv_ 5 144 (h := ?_)
                      refine pv_ 6 145 (h := ?_)
                      refine pv_ 7 146 (h := ?_)
                      refine pv_ 8 147 (h := ?_)
                      refine tk_ 3 142 (h := ?_)
                      refine pv_ 4 143 (h := ?_)
                      refine tk_ 9 148 (h := ?_)
                      refine pv_ 10 149 (h := ?_)
                      refine pv_ 11 150 (h := ?_)
                      refine pv_ 12 15 (h := ?_)
                      refine done_ (done_of HT_.out (by kernel_rfl)) ?_
                      try go_wp2
                      replace HO_5 := aM (Kd.R_drew HO_5.out); replace HO_10 := aM (Kd.R_drew HO_10.out); replace HO_11 := aM (Kd.R_drew HO_11.out); replace HB := aM (below_drew1 HB.out); have p163 : 0 ≤ (7 : Int) := (by omega); have q163 : 7 < (x11_3.length : Int) := of_decide_eq_true (by first | (with_reducible assumption) | assumption)
                      obtain ⟨ad163, e163, hx163_0⟩ := Kd.at_int (Kd.R_reads' HO_11.out).2.2 7 p163 q163
                      obtain rfl : ad159 = ad163 := (by injection e163)
                      (try simp only [show (7 : Int).toNat = 7 from rfl, Nat.reduceMul, Nat.reduceEqDiff, Go.Addr.add, ↓reduceIte] at hx163_0)
                      have qi163 : (7 < x11_3.length) = True := eq_true (by omega)
                      (try rw [show ((7 : Int)).toNat = 7 from rfl] at hx163_0)
                      replace p163 := eq_true p163; replace q163 := eq_true q163
                      obtain ⟨Ao77, co77, eo77⟩ := Kd.R_slice HO_10.out
                      (first | subst eo77 | (injection eo77 with f1_ f2_ f3_; have f4_ := f1_.symm; have f5_ := f3_.symm; clear f1_ f2_ f3_; subst f4_; subst f5_))
                      have p167 : 0 ≤ (x12_3 : Int) := of_decide_eq_true (by first | (with_reducible assumption) | assumption); have q167 : x12_3 < (t150.length : Int) := of_decide_eq_true (by first | (with_reducible assumption) | assumption)
                      obtain ⟨ad167, e167, hx167_0⟩ := Kd.at_int (Kd.R_reads' HO_10.out).2.2 x12_3 p167 q167
                      cases e167
                      replace p167 := eq_true p167; replace q167 := eq_true q167
                      obtain ⟨Ao78, co78, eo78⟩ := Kd.R_slice HO_5.out
                      (first | subst eo78 | (injection eo78 with f1_ f2_ f3_; have f4_ := f1_.symm; have f5_ := f3_.symm; clear f1_ f2_ f3_; subst f4_; subst f5_))
                      have p168 : 0 ≤ (x12_3 : Int) := of_decide_eq_true (by first | (with_reducible assumption) | assumption); have q168 : x12_3 < (x5_2.length : Int) := of_decide_eq_true (by first | (with_reducible assumption) | assumption)
                      obtain ⟨ad168, e168, hx168_0⟩ := Kd.at_int (Kd.R_reads' HO_5.out).2.2 x12_3 p168 q168
                      cases e168
                      replace p168 := eq_true p168; replace q168 := eq_true q168
                      refine start_ (n := 26) (S := fun w' => w'.cell? ⟨ad159.block, ad159.off + 7, none⟩ = some (.int .i64 (rd x11_3 7)) ∧ w'.cell? (ad167.add (x12_3).toNat) = some (.int .i64 (rd t150 x12_3)) ∧ w'.cell? (ad168.add (x12_3).toNat) = some (.int .i64 (rd x5_2 x12_3))) (ds := []) #[false, false, false, false, false, false, false, false, false, false, false, false, false, false, false, false, false, false, false, false, false, false, false, false, false, false] (by kernel_rfl) rfl rfl ⟨hx163_0, hx167_0, hx168_0⟩ (fun hHeld => ?_); refine with_tabW spec_l2Block.tab19 spec_l2Block.bits19 (fun HT_ HW_ => ?_)
                      generalize w75.drew = w76 at HO_5 HO_10 HO_11 HB hx163_0 hx167_0 hx168_0 hHeld ⊢
                      refine pv_ 0 151 (h := ?_)
                      refine pv_ 1 152 (h := ?_)
                      refine pv_ 3 154 (h := ?_)
                      refine pv_ 5 156 (h := ?_)
                      refine pv_ 8 159 (h := ?_)
                      refine pv_ 12 163 (h := ?_)
                      refine pv_ 14 165 (h := ?_)
                      refine pv_ 15 166 (h := ?_)
                      refine pv_ 16 167 (h := ?_)
                      refine pv_ 19 170 (h := ?_)
                      refine pv_ 20 171 (h := ?_)
                      refine pv_ 21 172 (h := ?_)
                      refine tk_ 2 153 (h := ?_)
                      refine tk_ 17 168 (h := ?_)
                      refine tk_ 22 173 (h := ?_)
                      refine on_ 4 155 (h := fun K hK => ?_)
                      refine goesY Try.func175 #[.int .i64 (rd x11_3 4), .int .i64 6] ?_
                      with_reducible refine (spec_l2Turn.calls (rd x11_3 4) 6 t164 _ A57.out).mono ?_
                      rintro e w' ⟨rfl, ⟨nd, rfl⟩⟩
                      refine ⟨_, rfl, ?_⟩
                      refine hK.out _ _ ⟨hHeld.1, hHeld.2.1, hHeld.2.2⟩ (fun hHeld => ?_)
                      clear hK K
                      refine norm_ (a' := ?_) ?_ ?_
                      rotate_left
                      ·show Act.put _ (some 155) _ = _
                       simp only [Act.put, List.setIfInBounds_toArray, List.set_cons_zero, List.set_cons_succ, i64_w, i32_w]
                       rfl
                      refine on_ 6 157 (h := fun K hK => ?_)
                      refine goesY Try.func175 #[.int .i64 (rd x11_3 4), .int .i64 11] ?_
                      with_reducible refine (spec_l2Turn.calls (rd x11_3 4) 11 t165 _ A58.out).mono ?_
                      rintro e w' ⟨rfl, ⟨nd, rfl⟩⟩
                      refine ⟨_, rfl, ?_⟩
                      refine hK.out _ _ ⟨hHeld.1, hHeld.2.1, hHeld.2.2⟩ (fun hHeld => ?_)
                      clear hK K
                      refine norm_ (a' := ?_) ?_ ?_
                      rotate_left
                      ·show Act.put _ (some 157) _ = _
                       simp only [Act.put, List.setIfInBounds_toArray, List.set_cons_zero, List.set_cons_succ, i64_w, i32_w]
                       rfl
                      refine pv_ 7 158 (h := ?_)
                      refine on_ 9 160 (h := fun K hK => ?_)
                      refine goesY Try.func175 #[.int .i64 (rd x11_3 4), .int .i64 25] ?_
                      with_reducible refine (spec_l2Turn.calls (rd x11_3 4) 25 t166 _ A59.out).mono ?_
                      rintro e w' ⟨rfl, ⟨nd, rfl⟩⟩
                      refine ⟨_, rfl, ?_⟩
                      refine hK.out _ _ ⟨hHeld.1, hHeld.2.1, hHeld.2.2⟩ (fun hHeld => ?_)
                      clear hK K
                      refine norm_ (a' := ?_) ?_ ?_
                      rotate_left
                      ·show Act.put _ (some 160) _ = _
                       simp only [Act.put, List.setIfInBounds_toArray, List.set_cons_zero, List.set_cons_succ, i64_w, i32_w]
                       rfl
                      refine pv_ 10 161 (h := ?_)
                      refine pv_ 11 162 (h := ?_)
                      refine pv_ 13 164 (h := ?_)
                      refine pv_ 18 169 (h := ?_)
                      refine pv_ 23 174 (h := ?_)
                      refine on_ 24 175 (h := fun K hK => ?_)
                      refine goesY Try.func176 #[.int .i64 (wrap64 ((wrap64 ((wrap64 ((wrap64 ((rd x11_3 7) + (Go.bits .xor .i64 (Go.bits .xor .i64 t164 t165) t166))) + (Go.bits .xor .i64 (Go.bits .and .i64 (rd x11_3 4) (rd x11_3 5)) (Go.bits .and .i64 (Go.bits .xor .i64 4294967295 (rd x11_3 4)) (rd x11_3 6))))) + (rd t150 x12_3))) + (rd x5_2 x12_3)))] ?_
                      with_reducible refine (spec_l2Low.calls (wrap64 ((wrap64 ((wrap64 ((wrap64 ((rd x11_3 7) + (Go.bits .xor .i64 (Go.bits .xor .i64 t164 t165) t166))) + (Go.bits .xor .i64 (Go.bits .and .i64 (rd x11_3 4) (rd x11_3 5)) (Go.bits .and .i64 (Go.bits .xor .i64 4294967295 (rd x11_3 4)) (rd x11_3 6))))) + (rd t150 x12_3))) + (rd x5_2 x12_3))) t169 _ A63.out).mono ?_
                      rintro e w' ⟨rfl, ⟨nd, rfl⟩⟩
                      refine ⟨_, rfl, ?_⟩
                      refine hK.out _ _ ⟨hHeld.1, hHeld.2.1, hHeld.2.2⟩ (fun hHeld => ?_)
                      clear hK K
                      refine norm_ (a' := ?_) ?_ ?_
                      rotate_left
                      ·show Act.put _ (some 175) _ = _
                       simp only [Act.put, List.setIfInBounds_toArray, List.set_cons_zero, List.set_cons_succ, i64_w, i32_w]
                       rfl
                      refine pv_ 25 16 (h := ?_)
                      refine done_ (done_of HT_.out (by kernel_rfl)) ?_
                      try go_wp2
                      (try ((repeat rw [World.drewN_drewN]); rw [drewN_self w76]; generalize hq_ : World.drewN w76 _ = w76; have n0_ := aM (Kd.R_at hq_ HO_5.out); have n1_ := aM (Kd.R_at hq_ HO_10.out); have n2_ := aM (Kd.R_at hq_ HO_11.out); have n3_ := aM (below_at hq_ HB.out); clear hq_ HO_5 HO_10 HO_11 HB; have HO_5 := n0_; have HO_10 := n1_; have HO_11 := n2_; have HB := n3_; clear n0_ n1_ n2_ n3_))
                      replace HO_5 := aM (Kd.R_drew HO_5.out); replace HO_10 := aM (Kd.R_drew HO_10.out); replace HO_11 := aM (Kd.R_drew HO_11.out); replace HB := aM (below_drew1 HB.out); have p170 : 0 ≤ (1 : Int) := (by omega); have q170 : 1 < (x11_3.length : Int) := of_decide_eq_true (by first | (with_reducible assumption) | assumption)
                      obtain ⟨ad170, e170, hx170_0⟩ := Kd.at_int (Kd.R_reads' HO_11.out).2.2 1 p170 q170
                      obtain rfl : ad159 = ad170 := (by injection e170)
                      (try simp only [show (1 : Int).toNat = 1 from rfl, Nat.reduceMul, Nat.reduceEqDiff, Go.Addr.add, ↓reduceIte] at hx170_0)
                      have qi170 : (1 < x11_3.length) = True := eq_true (by omega)
                      (try rw [show ((1 : Int)).toNat = 1 from rfl] at hx170_0)
                      replace p170 := eq_true p170; replace q170 := eq_true q170; have p171 : 0 ≤ (2 : Int) := (by omega); have q171 : 2 < (x11_3.length : Int) := of_decide_eq_true (by first | (with_reducible assumption) | assumption)
                      obtain ⟨ad171, e171, hx171_0⟩ := Kd.at_int (Kd.R_reads' HO_11.out).2.2 2 p171 q171
                      obtain rfl : ad159 = ad171 := (by injection e171)
                      (try simp only [show (2 : Int).toNat = 2 from rfl, Nat.reduceMul, Nat.reduceEqDiff, Go.Addr.add, ↓reduceIte] at hx171_0)
                      have qi171 : (2 < x11_3.length) = True := eq_true (by omega)
                      (try rw [show ((2 : Int)).toNat = 2 from rfl] at hx171_0)
                      replace p171 := eq_true p171; replace q171 := eq_true q171; have p172 : 0 ≤ (1 : Int) := (by omega); have q172 : 1 < (x11_3.length : Int) := of_decide_eq_true (by first | (with_reducible assumption) | assumption)
                      obtain ⟨ad172, e172, hx172_0⟩ := Kd.at_int (Kd.R_reads' HO_11.out).2.2 1 p172 q172
                      obtain rfl : ad159 = ad172 := (by injection e172)
                      (try simp only [show (1 : Int).toNat = 1 from rfl, Nat.reduceMul, Nat.reduceEqDiff, Go.Addr.add, ↓reduceIte] at hx172_0)
                      have qi172 : (1 < x11_3.length) = True := eq_true (by omega)
                      (try rw [show ((1 : Int)).toNat = 1 from rfl] at hx172_0)
                      replace p172 := eq_true p172; replace q172 := eq_true q172; have p173 : 0 ≤ (2 : Int) := (by omega); have q173 : 2 < (x11_3.length : Int) := of_decide_eq_true (by first | (with_reducible assumption) | assumption)
                      obtain ⟨ad173, e173, hx173_0⟩ := Kd.at_int (Kd.R_reads' HO_11.out).2.2 2 p173 q173
                      obtain rfl : ad159 = ad173 := (by injection e173)
                      (try simp only [show (2 : Int).toNat = 2 from rfl, Nat.reduceMul, Nat.reduceEqDiff, Go.Addr.add, ↓reduceIte] at hx173_0)
                      have qi173 : (2 < x11_3.length) = True := eq_true (by omega)
                      (try rw [show ((2 : Int)).toNat = 2 from rfl] at hx173_0)
                      replace p173 := eq_true p173; replace q173 := eq_true q173
                      refine start_ (n := 20) (S := fun w' => w'.cell? ⟨ad159.block, ad159.off + 1, none⟩ = some (.int .i64 (rd x11_3 1)) ∧ w'.cell? ⟨ad159.block, ad159.off + 2, none⟩ = some (.int .i64 (rd x11_3 2)) ∧ w'.cell? ⟨ad159.block, ad159.off + 1, none⟩ = some (.int .i64 (rd x11_3 1)) ∧ w'.cell? ⟨ad159.block, ad159.off + 2, none⟩ = some (.int .i64 (rd x11_3 2))) (ds := []) #[false, false, false, false, false, false, false, false, false, false, false, false, false, false, false, false, false, false, false, false] (by kernel_rfl) rfl rfl ⟨hx170_0, hx171_0, hx172_0, hx173_0⟩ (fun hHeld => ?_); refine with_tabW spec_l2Block.tab20 spec_l2Block.bits20 (fun HT_ HW_ => ?_)
                      generalize w76.drew = w79 at HO_5 HO_10 HO_11 HB hx170_0 hx171_0 hx172_0 hx173_0 hHeld ⊢
                      refine pv_ 0 176 (h := ?_)
                      refine pv_ 1 177 (h := ?_)
                      refine pv_ 2 178 (h := ?_)
                      refine pv_ 5 181 (h := ?_)
                      refine pv_ 6 182 (h := ?_)
                      refine pv_ 7 183 (h := ?_)
                      refine pv_ 11 187 (h := ?_)
                      refine pv_ 12 188 (h := ?_)
                      refine pv_ 14 190 (h := ?_)
                      refine pv_ 15 191 (h := ?_)
                      refine tk_ 3 179 (h := ?_)
                      refine pv_ 4 180 (h := ?_)
                      refine tk_ 8 184 (h := ?_)
                      refine pv_ 9 185 (h := ?_)
                      refine pv_ 10 186 (h := ?_)
                      refine tk_ 13 189 (h := ?_)
                      refine tk_ 16 192 (h := ?_)
                      refine pv_ 17 193 (h := ?_)
                      refine pv_ 18 194 (h := ?_)
                      refine pv_ 19 17 (h := ?_)
                      refine done_ (done_of HT_.out (by kernel_rfl)) ?_
                      try go_wp2_with (first | ((with_reducible refine gate_callee (f := 175) rfl ?_); refine goesL_ (some 196) rfl rfl Try.func175 (by kernel_rfl) rfl #[.int .i64 (rd x11_3 0), .int .i64 2] rfl (by (try simp only [List.map_toArray, List.map_cons, List.map_nil]); first | done | rfl | (simp only [List.length_drop, List.length_take]; rfl)) ?_; (with_reducible refine (spec_l2Turn.calls (rd x11_3 0) 2 t174 _ A66.out).mono ?_); rintro e w' ⟨rfl, ⟨nd, rfl⟩⟩; refine ⟨_, rfl, ?_⟩) | ((with_reducible refine gate_callee (f := 175) rfl ?_); refine goesL_ (some 198) rfl rfl Try.func175 (by kernel_rfl) rfl #[.int .i64 (rd x11_3 0), .int .i64 13] rfl (by (try simp only [List.map_toArray, List.map_cons, List.map_nil]); first | done | rfl | (simp only [List.length_drop, List.length_take]; rfl)) ?_; (with_reducible refine (spec_l2Turn.calls (rd x11_3 0) 13 t175 _ A67.out).mono ?_); rintro e w' ⟨rfl, ⟨nd, rfl⟩⟩; refine ⟨_, rfl, ?_⟩) | ((with_reducible refine gate_callee (f := 175) rfl ?_); refine goesL_ (some 201) rfl rfl Try.func175 (by kernel_rfl) rfl #[.int .i64 (rd x11_3 0), .int .i64 22] rfl (by (try simp only [List.map_toArray, List.map_cons, List.map_nil]); first | done | rfl | (simp only [List.length_drop, List.length_take]; rfl)) ?_; (with_reducible refine (spec_l2Turn.calls (rd x11_3 0) 22 t176 _ A68.out).mono ?_); rintro e w' ⟨rfl, ⟨nd, rfl⟩⟩; refine ⟨_, rfl, ?_⟩) | ((with_reducible refine gate_callee (f := 176) rfl ?_); refine goesL_ (some 205) rfl rfl Try.func176 (by kernel_rfl) rfl #[.int .i64 (wrap64 ((Go.bits .xor .i64 (Go.bits .xor .i64 t174 t175) t176) + (Go.bits .xor .i64 (Go.bits .xor .i64 (Go.bits .and .i64 (rd x11_3 0) (rd x11_3 1)) (Go.bits .and .i64 (rd x11_3 0) (rd x11_3 2))) (Go.bits .and .i64 (rd x11_3 1) (rd x11_3 2)))))] rfl (by (try simp only [List.map_toArray, List.map_cons, List.map_nil]); first | done | rfl | (simp only [List.length_drop, List.length_take]; rfl)) ?_; (with_reducible refine (spec_l2Low.calls (wrap64 ((Go.bits .xor .i64 (Go.bits .xor .i64 t174 t175) t176) + (Go.bits .xor .i64 (Go.bits .xor .i64 (Go.bits .and .i64 (rd x11_3 0) (rd x11_3 1)) (Go.bits .and .i64 (rd x11_3 0) (rd x11_3 2))) (Go.bits .and .i64 (rd x11_3 1) (rd x11_3 2))))) t177 _ A69.out).mono ?_); rintro e w' ⟨rfl, ⟨nd, rfl⟩⟩; refine ⟨_, rfl, ?_⟩))
                      (try ((repeat rw [World.drewN_drewN]); rw [drewN_self w79]; generalize hq_ : World.drewN w79 _ = w79; have n0_ := aM (Kd.R_at hq_ HO_5.out); have n1_ := aM (Kd.R_at hq_ HO_10.out); have n2_ := aM (Kd.R_at hq_ HO_11.out); have n3_ := aM (below_at hq_ HB.out); clear hq_ HO_5 HO_10 HO_11 HB; have HO_5 := n0_; have HO_10 := n1_; have HO_11 := n2_; have HB := n3_; clear n0_ n1_ n2_ n3_))
                      replace HO_5 := aM (Kd.R_drew HO_5.out); replace HO_10 := aM (Kd.R_drew HO_10.out); replace HO_11 := aM (Kd.R_drew HO_11.out); replace HB := aM (below_drew1 HB.out); have p179 : 0 ≤ (1 : Int) := (by omega); have q179 : 1 < (x11_3.length : Int) := of_decide_eq_true (by first | (with_reducible assumption) | assumption)
                      obtain ⟨ad179, e179, hx179_0⟩ := Kd.at_int (Kd.R_reads' HO_11.out).2.2 1 p179 q179
                      obtain rfl : ad159 = ad179 := (by injection e179)
                      (try simp only [show (1 : Int).toNat = 1 from rfl, Nat.reduceMul, Nat.reduceEqDiff, Go.Addr.add, ↓reduceIte] at hx179_0)
                      have qi179 : (1 < x11_3.length) = True := eq_true (by omega)
                      (try rw [show ((1 : Int)).toNat = 1 from rfl] at hx179_0)
                      replace p179 := eq_true p179; replace q179 := eq_true q179; have p180 : 0 ≤ (2 : Int) := (by omega); have q180 : 2 < (x11_3.length : Int) := of_decide_eq_true (by first | (with_reducible assumption) | assumption)
                      obtain ⟨ad180, e180, hx180_0⟩ := Kd.at_int (Kd.R_reads' HO_11.out).2.2 2 p180 q180
                      obtain rfl : ad159 = ad180 := (by injection e180)
                      (try simp only [show (2 : Int).toNat = 2 from rfl, Nat.reduceMul, Nat.reduceEqDiff, Go.Addr.add, ↓reduceIte] at hx180_0)
                      have qi180 : (2 < x11_3.length) = True := eq_true (by omega)
                      (try rw [show ((2 : Int)).toNat = 2 from rfl] at hx180_0)
                      replace p180 := eq_true p180; replace q180 := eq_true q180; have p181 : 0 ≤ (3 : Int) := (by omega); have q181 : 3 < (x11_3.length : Int) := of_decide_eq_true (by first | (with_reducible assumption) | assumption)
                      obtain ⟨ad181, e181, hx181_0⟩ := Kd.at_int (Kd.R_reads' HO_11.out).2.2 3 p181 q181
                      obtain rfl : ad159 = ad181 := (by injection e181)
                      (try simp only [show (3 : Int).toNat = 3 from rfl, Nat.reduceMul, Nat.reduceEqDiff, Go.Addr.add, ↓reduceIte] at hx181_0)
                      have qi181 : (3 < x11_3.length) = True := eq_true (by omega)
                      (try rw [show ((3 : Int)).toNat = 3 from rfl] at hx181_0)
                      replace p181 := eq_true p181; replace q181 := eq_true q181; have p183 : 0 ≤ (5 : Int) := (by omega); have q183 : 5 < (x11_3.length : Int) := of_decide_eq_true (by first | (with_reducible assumption) | assumption)
                      obtain ⟨ad183, e183, hx183_0⟩ := Kd.at_int (Kd.R_reads' HO_11.out).2.2 5 p183 q183
                      obtain rfl : ad159 = ad183 := (by injection e183)
                      (try simp only [show (5 : Int).toNat = 5 from rfl, Nat.reduceMul, Nat.reduceEqDiff, Go.Addr.add, ↓reduceIte] at hx183_0)
                      have qi183 : (5 < x11_3.length) = True := eq_true (by omega)
                      (try rw [show ((5 : Int)).toNat = 5 from rfl] at hx183_0)
                      replace p183 := eq_true p183; replace q183 := eq_true q183; have p184 : 0 ≤ (6 : Int) := (by omega); have q184 : 6 < (x11_3.length : Int) := of_decide_eq_true (by first | (with_reducible assumption) | assumption)
                      obtain ⟨ad184, e184, hx184_0⟩ := Kd.at_int (Kd.R_reads' HO_11.out).2.2 6 p184 q184
                      obtain rfl : ad159 = ad184 := (by injection e184)
                      (try simp only [show (6 : Int).toNat = 6 from rfl, Nat.reduceMul, Nat.reduceEqDiff, Go.Addr.add, ↓reduceIte] at hx184_0)
                      have qi184 : (6 < x11_3.length) = True := eq_true (by omega)
                      (try rw [show ((6 : Int)).toNat = 6 from rfl] at hx184_0)
                      replace p184 := eq_true p184; replace q184 := eq_true q184
                      refine start_ (n := 26) (S := fun w' => w'.cell? ⟨ad159.block, ad159.off + 1, none⟩ = some (.int .i64 (rd x11_3 1)) ∧ w'.cell? ⟨ad159.block, ad159.off + 2, none⟩ = some (.int .i64 (rd x11_3 2)) ∧ w'.cell? ⟨ad159.block, ad159.off + 3, none⟩ = some (.int .i64 (rd x11_3 3)) ∧ w'.cell? ⟨ad159.block, ad159.off + 5, none⟩ = some (.int .i64 (rd x11_3 5)) ∧ w'.cell? ⟨ad159.block, ad159.off + 6, none⟩ = some (.int .i64 (rd x11_3 6))) (ds := []) #[false, false, false, false, false, false, false, false, false, false, false, false, false, false, false, false, false, false, false, false, false, false, false, false, false, false] (by kernel_rfl) rfl rfl ⟨hx179_0, hx180_0, hx181_0, hx183_0, hx184_0⟩ (fun hHeld => ?_); refine with_tabW spec_l2Block.tab22 spec_l2Block.bits22 (fun HT_ HW_ => ?_)
                      generalize w79.drew = w80 at HO_5 HO_10 HO_11 HB hx179_0 hx180_0 hx181_0 hx183_0 hx184_0 hHeld ⊢
                      refine pv_ 0 206 (h := ?_)
                      refine pv_ 1 207 (h := ?_)
                      refine pv_ 2 208 (h := ?_)
                      refine pv_ 4 210 (h := ?_)
                      refine pv_ 5 211 (h := ?_)
                      refine pv_ 6 212 (h := ?_)
                      refine pv_ 8 214 (h := ?_)
                      refine pv_ 9 215 (h := ?_)
                      refine pv_ 11 217 (h := ?_)
                      refine pv_ 12 218 (h := ?_)
                      refine pv_ 14 220 (h := ?_)
                      refine pv_ 17 223 (h := ?_)
                      refine pv_ 18 224 (h := ?_)
                      refine pv_ 19 225 (h := ?_)
                      refine pv_ 21 227 (h := ?_)
                      refine pv_ 22 228 (h := ?_)
                      refine tk_ 7 213 (h := ?_)
                      refine tk_ 10 216 (h := ?_)
                      refine tk_ 13 219 (h := ?_)
                      refine pv_ 15 221 (h := ?_)
                      refine tk_ 20 226 (h := ?_)
                      refine tk_ 23 229 (h := ?_)
                      refine on_ 3 209 (h := fun K hK => ?_)
                      refine goesY Try.func176 #[.int .i64 (wrap64 (t169 + t177))] ?_
                      with_reducible refine (spec_l2Low.calls (wrap64 (t169 + t177)) t178 _ A70.out).mono ?_
                      rintro e w' ⟨rfl, ⟨nd, rfl⟩⟩
                      refine ⟨_, rfl, ?_⟩
                      refine hK.out _ _ ⟨hHeld.1, hHeld.2.1, hHeld.2.2.1, hHeld.2.2.2.1, hHeld.2.2.2.2⟩ (fun hHeld => ?_)
                      clear hK K
                      refine norm_ (a' := ?_) ?_ ?_
                      rotate_left
                      ·show Act.put _ (some 209) _ = _
                       simp only [Act.put, List.setIfInBounds_toArray, List.set_cons_zero, List.set_cons_succ, i64_w, i32_w]
                       rfl
                      refine on_ 16 222 (h := fun K hK => ?_)
                      refine goesY Try.func176 #[.int .i64 (wrap64 ((rd x11_3 3) + t169))] ?_
                      with_reducible refine (spec_l2Low.calls (wrap64 ((rd x11_3 3) + t169)) t182 _ A72.out).mono ?_
                      rintro e w' ⟨rfl, ⟨nd, rfl⟩⟩
                      refine ⟨_, rfl, ?_⟩
                      refine hK.out _ _ ⟨hHeld.1, hHeld.2.1, hHeld.2.2.1, hHeld.2.2.2.1, hHeld.2.2.2.2⟩ (fun hHeld => ?_)
                      clear hK K
                      refine norm_ (a' := ?_) ?_ ?_
                      rotate_left
                      ·show Act.put _ (some 222) _ = _
                       simp only [Act.put, List.setIfInBounds_toArray, List.set_cons_zero, List.set_cons_succ, i64_w, i32_w]
                       rfl
                      refine on_ 24 230 (h := fun K hK => ?_)
                      refine Kd.R_lit_step (Kd.int .i64) _ 3 ?hg (N := 230) ?hd (xs := ([t178, rd x11_3 0, rd x11_3 1, rd x11_3 2, t182, rd x11_3 4, rd x11_3 5, rd x11_3 6] : List Int)) (inner := [.int .i64 t178, .int .i64 (rd x11_3 0), .int .i64 (rd x11_3 1), .int .i64 (rd x11_3 2), .int .i64 t182, .int .i64 (rd x11_3 4), .int .i64 (rd x11_3 5), .int .i64 (rd x11_3 6)]) (ok := fun _ => True) (okp := fun _ => True) ?hr ?hp (fun _ hk => hk) trivial (Below.refl _ _) (Nat.le_refl _) (by simp) ?_; (case hd => rfl); (case hg => rfl); (case hr => first | (go_simp; done) | (go_simp; rfl)); (case hp => exact (Reps.one (show Kd.M (Kd.int .i64) _ _ _ t178 [.int .i64 t178] from rfl) (Reps.one (show Kd.M (Kd.int .i64) _ _ _ (rd x11_3 0) [.int .i64 (rd x11_3 0)] from rfl) (Reps.one (show Kd.M (Kd.int .i64) _ _ _ (rd x11_3 1) [.int .i64 (rd x11_3 1)] from rfl) (Reps.one (show Kd.M (Kd.int .i64) _ _ _ (rd x11_3 2) [.int .i64 (rd x11_3 2)] from rfl) (Reps.one (show Kd.M (Kd.int .i64) _ _ _ t182 [.int .i64 t182] from rfl) (Reps.one (show Kd.M (Kd.int .i64) _ _ _ (rd x11_3 4) [.int .i64 (rd x11_3 4)] from rfl) (Reps.one (show Kd.M (Kd.int .i64) _ _ _ (rd x11_3 5) [.int .i64 (rd x11_3 5)] from rfl) (Reps.one (show Kd.M (Kd.int .i64) _ _ _ (rd x11_3 6) [.int .i64 (rd x11_3 6)] from rfl) (Reps.none _ _))))))))))
                      intro v186 w81 ho82 hb hg_ hnew_
                      have HS0_ := (hb.cell (World.block_lt_of_cell? _ _ (hHeld.1))).trans (hHeld.1); have HS1_ := (hb.cell (World.block_lt_of_cell? _ _ (hHeld.2.1))).trans (hHeld.2.1); have HS2_ := (hb.cell (World.block_lt_of_cell? _ _ (hHeld.2.2.1))).trans (hHeld.2.2.1); have HS3_ := (hb.cell (World.block_lt_of_cell? _ _ (hHeld.2.2.2.1))).trans (hHeld.2.2.2.1); have HS4_ := (hb.cell (World.block_lt_of_cell? _ _ (hHeld.2.2.2.2))).trans (hHeld.2.2.2.2); clear hg_ hnew_
                      (first | rw [← Ny185.out] at ho82 | (simp only [Int.reduceToNat] at ho82; rw [← Ny185.out] at ho82))
                      have HO187 := aM (Kd.R_lower (Kd.R_new' (Kd.R_new' (Kd.R_new' ho82 (Kd.R_lt (xr HO_5))) (Kd.R_lt (xr HO_10))) (Kd.R_lt (xr HO_11))) (below_size xbel)); replace HO_5 := aM (Kd.R_elder' (xr HO_5) (Kd.R_base ho82) hb); replace HO_10 := aM (Kd.R_elder' (xr HO_10) (Kd.R_base ho82) hb); replace HO_11 := aM (Kd.R_elder' (xr HO_11) (Kd.R_base ho82) hb); replace HB := xbs hb; clear hb ho82
                      refine hK.out _ _ ⟨HS0_, HS1_, HS2_, HS3_, HS4_⟩ (fun hHeld => ?_)
                      clear hK K
                      refine norm_ (a' := ?_) ?_ ?_
                      rotate_left
                      ·show Act.put _ (some 230) _ = _
                       simp only [Act.put, List.setIfInBounds_toArray, List.set_cons_zero, List.set_cons_succ, i64_w, i32_w]
                       rfl
                      refine pv_ 25 11 (h := ?_)
                      refine done_ (done_of HT_.out (by kernel_rfl)) ?_
                      try go_wp2
                      go_roundg k3
                      case measure => have := HK1.out; have := HK2.out; have := HK3.out; omega
                      case rel => exact ⟨(y185), (wrap64 (x12_3 + 1)), (by first | rfl | (simp; done) | (simp [*]; done)), H', ⟨by have := HK1.out; have := HK2.out; have := HK3.out; omega⟩, ⟨by (with_reducible repeat (first | apply Kd.R_alloc | apply Kd.R_drewN | apply Kd.R_drew)); exact Kd.R_mono HO_5.out (fun _ hk => ⟨hk.1.1, hk.2⟩)⟩, ⟨by (with_reducible repeat (first | apply Kd.R_alloc | apply Kd.R_drewN | apply Kd.R_drew)); exact Kd.R_mono HO_10.out (fun _ hk => ⟨hk.1.1, hk.2⟩)⟩, ⟨by (with_reducible repeat (first | apply Kd.R_alloc | apply Kd.R_drewN | apply Kd.R_drew)); exact Kd.R_mono HO187.out (fun _ hk => ⟨hk.1.1.2, hk.1.2⟩)⟩, ⟨xbel⟩⟩
                     ·rw [if_neg c71] at H
                      exact absurd H (by simp)
                    ·rw [if_neg c65] at H
                     exact absurd H (by simp)
                   ·rw [if_neg c64] at H
                    exact absurd H (by simp)
                  ·rw [if_neg c62] at H
                   exact absurd H (by simp)
                 ·rw [if_neg c61] at H
                  exact absurd H (by simp)
                ·rw [if_neg c60] at H
                 exact absurd H (by simp)
               ·rw [if_neg c56] at H
                exact absurd H (by simp)
              ·rw [if_neg c55] at H
               exact absurd H (by simp)
             ·rw [if_neg c54] at H
              exact absurd H (by simp)
            ·rw [if_neg c53] at H
             exact absurd H (by simp)
           ·rw [if_neg c52] at H
            exact absurd H (by simp)
          ·rw [if_neg c51] at H
           have c51b0 : decide (x12_3 < 64) = false := decide_eq_false c51; clear c51
           obtain ⟨y188, hy188⟩ : ∃ y_ : List Int, y_ = (([] : List Int)) := ⟨_, rfl⟩
           replace H : (spec_l2Block.l3 k3 l0 x11_3 y188 0) = some r := by first | (rw [hy188]; with_reducible exact H) | (have H2_ := (Option.bind_some _ _).symm.trans H; rw [hy188]; with_reducible exact H2_) | (have H2_ := (Option.bind_some _ _).symm.trans H; with_reducible exact H2_) | with_reducible exact H | (rw [hy188]; exact H) | exact H
           have Ny188 := aM hy188; clear hy188
           have H' := aM H
           clear H
           go_wp2_with (first | ((with_reducible refine gate_dst (N := 231) rfl ?_); refine Kd.R_lit (Kd.int .i64) _ 3 ?hg (N := 231) ?hd (xs := ([] : List Int)) (inner := []) (ok := fun _ => True) (okp := fun _ => True) ?hr ?hp (fun _ hk => hk) trivial (Below.refl _ _) (Nat.le_refl _) (by simp) ?_; (case hd => rfl); (case hg => rfl); (case hr => first | (go_simp; done) | (go_simp; rfl)); (case hp => exact (Reps.none _ _)); intro v189 w83 ho84 hb hg_ hnew_; clear hg_ hnew_; (first | rw [← Ny188.out] at ho84 | (simp only [Int.reduceToNat] at ho84; rw [← Ny188.out] at ho84)); have HO190 := aM (Kd.R_lower (Kd.R_new' (Kd.R_new' (Kd.R_new' ho84 (Kd.R_lt (xr HO_5))) (Kd.R_lt (xr HO_10))) (Kd.R_lt (xr HO_11))) (below_size xbel)); replace HO_5 := aM (Kd.R_elder' (xr HO_5) (Kd.R_base ho84) hb); replace HO_10 := aM (Kd.R_elder' (xr HO_10) (Kd.R_base ho84) hb); replace HO_11 := aM (Kd.R_elder' (xr HO_11) (Kd.R_base ho84) hb); replace HB := xbs hb; clear hb ho84))
           go_loopg [19, 20] k3 (fun kq v19 v20 w' => ∃ (x19_4 : List Int) (x20_4 : Int), v20 = .int .i64 x20_4 ∧ Aside0 (spec_l2Block.l3 kq l0 x11_3 x19_4 x20_4 = some r) ∧ Aside0 (kq ≤ k3) ∧ Aside0 (Kd.R (Kd.int .i64) 3 w' w.heap.size (fun k_ => some k_ ≠ (v19 : Value).ownBlock) u11 x11_3) ∧ Aside0 (Kd.R (Kd.int .i64) 3 w' w.heap.size (fun k_ => some k_ ≠ (u11 : Value).ownBlock) v19 x19_4) ∧ Aside0 (Below w.heap.size w w'))
           case atStart => exact ⟨(y188), (0), (by first | rfl | (simp; done) | (simp [*]; done)), H', ⟨Nat.le_refl _⟩, ⟨by (with_reducible repeat (first | apply Kd.R_alloc | apply Kd.R_drewN | apply Kd.R_drew)); exact Kd.R_mono HO_11.out (fun _ hk => hk.2)⟩, ⟨by (with_reducible repeat (first | apply Kd.R_alloc | apply Kd.R_drewN | apply Kd.R_drew)); exact Kd.R_mono HO190.out (fun _ hk => hk.2)⟩, ⟨xbel⟩⟩
           case round =>
            clear H'
            try clear c1
            try clear p1
            try clear q1
            try clear hx1
            try clear qi1
            try clear p2
            try clear c5
            try clear c6
            try clear p6
            try clear c7
            try clear c17
            try clear p17
            try clear q17
            try clear hx17
            try clear qi17
            try clear p18
            try clear q18
            try clear hx18
            try clear qi18
            try clear c51
            try clear c51b0
            try clear c52
            try clear c53
            try clear c54
            try clear c55
            try clear c56
            try clear c60
            try clear c61
            try clear c62
            try clear c64
            try clear p64
            try clear c65
            try clear c71
            try clear hx170_0
            try clear hx171_0
            try clear hx172_0
            try clear hx173_0
            try clear hx179_0
            try clear hx180_0
            try clear hx181_0
            try clear hx183_0
            try clear hx184_0
            try clear p170
            try clear p171
            try clear p172
            try clear p173
            try clear p179
            try clear p180
            try clear p181
            try clear p183
            try clear p184
            try clear q170
            try clear q171
            try clear q172
            try clear q173
            try clear q179
            try clear q180
            try clear q181
            try clear q183
            try clear q184
            obtain ⟨x19_4, x20_4, rfl, HA, HK4, HO_11, HO_19, HB⟩ := hrel
            cases gk with
            | zero => exact absurd HA.out (by simp [spec_l2Block.l3])
            | succ k4 =>
             have H := HA.out; clear HA
             simp only [spec_l2Block.l3] at H
             by_cases c85 : x20_4 < 8
             ·rw [if_pos c85] at H
              have c85b0 : decide (x20_4 < 8) = true := decide_eq_true c85; clear c85
              by_cases c86 : 0 ≤ x20_4
              ·rw [if_pos c86] at H
               have c86b0 : decide (0 ≤ x20_4) = true := decide_eq_true c86; clear c86
               by_cases c87 : x20_4 < (l0.length : Int)
               ·rw [if_pos c87] at H
                have c87b0 : decide (x20_4 < (l0.length : Int)) = true := decide_eq_true c87; clear c87
                by_cases c88 : x20_4 < (x11_3.length : Int)
                ·rw [if_pos c88] at H
                 have c88b0 : decide (x20_4 < (x11_3.length : Int)) = true := decide_eq_true c88; clear c88; replace H := Option.bind_eq_some_iff.mp H
                 obtain ⟨t193, A890, H⟩ := H
                 replace H : (if x19_4.length < 17592186044416 then (spec_l2Block.l3 k4 l0 x11_3 (x19_4 ++ [t193]) (wrap64 (x20_4 + 1))) else (none)) = some r := H; have A89 := aM A890; clear A890
                 by_cases c90 : x19_4.length < 17592186044416
                 ·rw [if_pos c90] at H
                  have LMc90 := aM c90; clear c90
                  obtain ⟨y194, hy194⟩ : ∃ y_ : List Int, y_ = (x19_4 ++ [t193]) := ⟨_, rfl⟩
                  replace H : (spec_l2Block.l3 k4 l0 x11_3 y194 (wrap64 (x20_4 + 1))) = some r := by first | (rw [hy194]; with_reducible exact H) | (have H2_ := (Option.bind_some _ _).symm.trans H; rw [hy194]; with_reducible exact H2_) | (have H2_ := (Option.bind_some _ _).symm.trans H; with_reducible exact H2_) | with_reducible exact H | (rw [hy194]; exact H) | exact H
                  have Ny194 := aM hy194; clear hy194
                  have H' := aM H
                  clear H
                  try go_wp2
                  replace HO_11 := aM (Kd.R_drew HO_11.out); replace HO_19 := aM (Kd.R_drew HO_19.out); replace HB := aM (below_drew1 HB.out); have p191 : 0 ≤ (x20_4 : Int) := of_decide_eq_true (by first | (with_reducible assumption) | assumption); have q191 : x20_4 < (l0.length : Int) := of_decide_eq_true (by first | (with_reducible assumption) | assumption)
                  obtain ⟨ad191, e191, hx191_0⟩ := Kd.at_int HR0.out x20_4 p191 q191
                  have hw191_0 := hx191_0
                  cases e191
                  replace hx191_0 := xce HB hx191_0; replace p191 := eq_true p191; replace q191 := eq_true q191
                  obtain ⟨Ao92, co92, eo92⟩ := Kd.R_slice HO_11.out
                  (first | subst eo92 | (injection eo92 with f1_ f2_ f3_; have f4_ := f1_.symm; have f5_ := f3_.symm; clear f1_ f2_ f3_; subst f4_; subst f5_))
                  have p192 : 0 ≤ (x20_4 : Int) := of_decide_eq_true (by first | (with_reducible assumption) | assumption); have q192 : x20_4 < (x11_3.length : Int) := of_decide_eq_true (by first | (with_reducible assumption) | assumption)
                  obtain ⟨ad192, e192, hx192_0⟩ := Kd.at_int (Kd.R_reads' HO_11.out).2.2 x20_4 p192 q192
                  cases e192
                  replace p192 := eq_true p192; replace q192 := eq_true q192
                  refine start_ (n := 14) (S := fun w' => w'.cell? (ad191.add (x20_4).toNat) = some (.int .i64 (rd l0 x20_4)) ∧ w'.cell? (ad192.add (x20_4).toNat) = some (.int .i64 (rd x11_3 x20_4))) (ds := [11, 12]) #[false, false, false, false, false, false, false, false, false, false, false, false, false, false] (by kernel_rfl) rfl rfl ⟨(xce HB hw191_0), hx192_0⟩ (fun hHeld => ?_); refine with_tabW spec_l2Block.tab27 spec_l2Block.bits27 (fun HT_ HW_ => ?_)
                  generalize wr.drew = w91 at HO_11 HO_19 HB hx191_0 hx192_0 hHeld ⊢
                  refine pv_ 0 236 (h := ?_)
                  refine pv_ 1 237 (h := ?_)
                  refine pv_ 2 238 (h := ?_)
                  refine pv_ 3 239 (h := ?_)
                  refine pv_ 5 241 (h := ?_)
                  refine pv_ 6 242 (h := ?_)
                  refine pv_ 7 243 (h := ?_)
                  refine tk_ 4 240 (h := ?_)
                  refine tk_ 8 244 (h := ?_)
                  refine pv_ 9 245 (h := ?_)
                  refine on_ 10 246 (h := fun K hK => ?_)
                  refine goesY Try.func176 #[.int .i64 (wrap64 ((rd l0 x20_4) + (rd x11_3 x20_4)))] ?_
                  with_reducible refine (spec_l2Low.calls (wrap64 ((rd l0 x20_4) + (rd x11_3 x20_4))) t193 _ A89.out).mono ?_
                  rintro e w' ⟨rfl, ⟨nd, rfl⟩⟩
                  refine ⟨_, rfl, ?_⟩
                  refine hK.out _ _ ⟨(xce HB hw191_0), hHeld.2⟩ (fun hHeld => ?_)
                  clear hK K
                  refine norm_ (a' := ?_) ?_ ?_
                  rotate_left
                  ·show Act.put _ (some 246) _ = _
                   simp only [Act.put, List.setIfInBounds_toArray, List.set_cons_zero, List.set_cons_succ, i64_w, i32_w]
                   rfl
                  refine last_ (i := 11) (N := some 247) #[true, true, true, true, true, true, true, true, true, true, true, true, false, false] rfl rfl (one_of HT_.out (by kernel_rfl)) (by decide) (fun K hK => ?_)
                  refine value_ (w1 := ?_) (v := ?_) (by rfl) rfl ?_ ?_
                  rotate_left 2
                  ·go_simp
                   constructor
                   ·rfl
                   ·rfl
                  refine hK.out _ _ ?_
                  clear hK K
                  refine norm_ (a' := ?_) ?_ ?_
                  rotate_left
                  ·show Act.put _ (some 247) _ = _
                   simp only [Act.put, List.setIfInBounds_toArray, List.set_cons_zero, List.set_cons_succ, i64_w, i32_w]
                   rfl
                  refine last_ (i := 12) (N := some 248) #[true, true, true, true, true, true, true, true, true, true, true, true, true, false] rfl rfl (one_of HT_.out (by kernel_rfl)) (by decide) (fun K hK => ?_)
                  refine Kd.R_append_step (Kd.int .i64) (w0 := w) w.heap.size (by rfl) (.tmp 236) (.tmp 247) 123 3 (.int .i64 0) 8 rfl Try.underlying123 info3 rfl (by decide) (by omega) u19 x19_4 t193 [.int .i64 t193] (fun k_ => some k_ ≠ (.slice (some ad192) x11_3.length co92 : Value).ownBlock) (fun _ => False) rfl rfl ?aP (fun _ hk => hk.elim) ?aF ?aO ?aB ?aS ?aL ?_
                  (case aP => exact rfl)
                  (case aB => exact xbel)
                  (case aF => exact (fun k_ hk => Kd.fresh' (Kd.R_lt (xr HO_11)) k_ hk))
                  (case aO => exact (xr HO_19))
                  (case aS => exact (below_size xbel))
                  (case aL => have := LMc90.out; omega)
                  intro v195 w93 ho hb hg hat
                  rw [← Ny194.out] at ho
                  replace HO_11 := aM (Kd.R_after (ok := (fun _ => True)) (by (with_reducible repeat (first | apply Kd.R_alloc | apply Kd.R_drewN | apply Kd.R_drew)); exact Kd.R_mono HO_11.out (fun _ hk => ⟨trivial, hk⟩)) hg hat); replace HB := aM (hb); have HO196 := aM (ho); clear HO_19 ho hb hg hat
                  refine hK.out _ _ ?_
                  clear hK K
                  refine norm_ (a' := ?_) ?_ ?_
                  rotate_left
                  ·show Act.put _ (some 248) _ = _
                   simp only [Act.put, List.setIfInBounds_toArray, List.set_cons_zero, List.set_cons_succ, i64_w, i32_w]
                   rfl
                  refine pv_ 13 19 (h := ?_)
                  refine done_ (done_of HT_.out (by kernel_rfl)) ?_
                  try go_wp2
                  go_roundg k4
                  case measure => have := HK1.out; have := HK2.out; have := HK3.out; have := HK4.out; omega
                  case rel => exact ⟨(y194), (wrap64 (x20_4 + 1)), (by first | rfl | (simp; done) | (simp [*]; done)), H', ⟨by have := HK1.out; have := HK2.out; have := HK3.out; have := HK4.out; omega⟩, ⟨by (with_reducible repeat (first | apply Kd.R_alloc | apply Kd.R_drewN | apply Kd.R_drew)); exact Kd.R_mono HO_11.out (fun _ hk => hk.2)⟩, ⟨by (with_reducible repeat (first | apply Kd.R_alloc | apply Kd.R_drewN | apply Kd.R_drew)); exact HO196.out⟩, ⟨xbel⟩⟩
                 ·rw [if_neg c90] at H
                  exact absurd H (by simp)
                ·rw [if_neg c88] at H
                 exact absurd H (by simp)
               ·rw [if_neg c87] at H
                exact absurd H (by simp)
              ·rw [if_neg c86] at H
               exact absurd H (by simp)
             ·rw [if_neg c85] at H
              have c85b0 : decide (x20_4 < 8) = false := decide_eq_false c85; clear c85
              obtain rfl := Option.some.inj H
              go_wp2
              go_ret
              exact ⟨_, by first | rfl | (simp [errW_none, errW_some] <;> rfl) | (simp [*, errW_none, errW_some] <;> rfl), by (with_reducible repeat (first | apply Kd.R_alloc | apply Kd.R_drewN | apply Kd.R_drew)); exact Kd.R_mono HO_19.out (fun _ hk => trivial), xbel⟩
       ·rw [if_neg c46] at H
        exact absurd H (by simp)

end Go.Proofs.Ytnjpfllmcmomoaa.QFnCmd
