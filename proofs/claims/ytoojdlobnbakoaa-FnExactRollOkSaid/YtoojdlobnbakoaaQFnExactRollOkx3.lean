-- A walk, by a program of this session.
import Derived.Test.YtoojdlobnbakoaaQFnExactRollOkx0
import Derived.Test.YtoojdlobnbakoaaQFnExactRollOkx1
import Derived.Test.YtoojdlobnbakoaaQFnExactRollOkx2
namespace Go.Proofs.Ytoojdlobnbakoaa.QFnExactRollOk
open Go.RowKit Go.Proofs.YtoojdlobnbakoaaW.PrintWords Go.Proofs.YtoojdlobnbakoaaW.PrintLast Go.Proofs.YtoojdlobnbakoaaW.PrintMore
attribute [local go_sem] max2_int min2_int max_two min_two max_three min_three max_four min_four   -- for this text's walks alone
set_option linter.unusedVariables false
set_option linter.unusedSimpArgs false

/-! ### spec_RollOk: function 37 -/
mutual
def spec_RollOk.j0 : Nat → Bool → Int → List (S65) → Int → List Int → Option (Bool)
 | 0, _, _, _, _, _ => none
 | k + 1, x23, x125000, x125001, x125002, x125003 => if x23 = true then (some false) else (spec_RollOk.l0 k (([] : List Int)) 0 x125000 x125001 x125002 x125003)
def spec_RollOk.l0 : Nat → List Int → Int → Int → List (S65) → Int → List Int → Option (Bool)
 | 0, _, _, _, _, _, _ => none
 | k + 1, x3, x4, x125000, x125001, x125002, x125003 => if x4 < (x125001.length : Int) then (if 0 ≤ x4 then ((spec_l1In.f ((rd_T65 x125001 x4).f0) 1 1000).bind fun t131 => (if t131 = true then (if x4 > 0 then (if 0 ≤ (wrap64 (x4 - 1)) then (if (wrap64 (x4 - 1)) < (x125001.length : Int) then (if ((rd_T65 x125001 (wrap64 (x4 - 1))).f0) ≥ ((rd_T65 x125001 x4).f0) then (spec_RollOk.j2 k x3 x4 true x125000 x125001 x125002 x125003 ((rd_T65 x125001 x4).f0) ((rd_T65 x125001 x4).f1) ((rd_T65 x125001 x4).f2) ((rd_T65 x125001 x4).f3) ((rd_T65 x125001 x4).f4)) else ((spec_l1In.f ((rd_T65 x125001 x4).f1) 0 1000).bind fun t133 => (if t133 = true then (if (((rd_T65 x125001 x4).f2).size : Int) = 32 then (if (((rd_T65 x125001 x4).f3).length : Int) > x125000 then (spec_RollOk.j2 k x3 x4 true x125000 x125001 x125002 x125003 ((rd_T65 x125001 x4).f0) ((rd_T65 x125001 x4).f1) ((rd_T65 x125001 x4).f2) ((rd_T65 x125001 x4).f3) ((rd_T65 x125001 x4).f4)) else ((spec_l7Nodes.f k ((rd_T65 x125001 x4).f3) x125000).bind fun t134 => (if t134 = true then ((spec_l1In.f ((rd_T65 x125001 x4).f4) 1 3).bind fun t135 => (spec_RollOk.j2 k x3 x4 (!t135) x125000 x125001 x125002 x125003 ((rd_T65 x125001 x4).f0) ((rd_T65 x125001 x4).f1) ((rd_T65 x125001 x4).f2) ((rd_T65 x125001 x4).f3) ((rd_T65 x125001 x4).f4))) else (spec_RollOk.j2 k x3 x4 true x125000 x125001 x125002 x125003 ((rd_T65 x125001 x4).f0) ((rd_T65 x125001 x4).f1) ((rd_T65 x125001 x4).f2) ((rd_T65 x125001 x4).f3) ((rd_T65 x125001 x4).f4))))) else (spec_RollOk.j2 k x3 x4 true x125000 x125001 x125002 x125003 ((rd_T65 x125001 x4).f0) ((rd_T65 x125001 x4).f1) ((rd_T65 x125001 x4).f2) ((rd_T65 x125001 x4).f3) ((rd_T65 x125001 x4).f4))) else (spec_RollOk.j2 k x3 x4 true x125000 x125001 x125002 x125003 ((rd_T65 x125001 x4).f0) ((rd_T65 x125001 x4).f1) ((rd_T65 x125001 x4).f2) ((rd_T65 x125001 x4).f3) ((rd_T65 x125001 x4).f4))))) else (none)) else (none)) else ((spec_l1In.f ((rd_T65 x125001 x4).f1) 0 1000).bind fun t136 => (if t136 = true then (if (((rd_T65 x125001 x4).f2).size : Int) = 32 then (if (((rd_T65 x125001 x4).f3).length : Int) > x125000 then (spec_RollOk.j2 k x3 x4 true x125000 x125001 x125002 x125003 ((rd_T65 x125001 x4).f0) ((rd_T65 x125001 x4).f1) ((rd_T65 x125001 x4).f2) ((rd_T65 x125001 x4).f3) ((rd_T65 x125001 x4).f4)) else ((spec_l7Nodes.f k ((rd_T65 x125001 x4).f3) x125000).bind fun t137 => (if t137 = true then ((spec_l1In.f ((rd_T65 x125001 x4).f4) 1 3).bind fun t138 => (spec_RollOk.j2 k x3 x4 (!t138) x125000 x125001 x125002 x125003 ((rd_T65 x125001 x4).f0) ((rd_T65 x125001 x4).f1) ((rd_T65 x125001 x4).f2) ((rd_T65 x125001 x4).f3) ((rd_T65 x125001 x4).f4))) else (spec_RollOk.j2 k x3 x4 true x125000 x125001 x125002 x125003 ((rd_T65 x125001 x4).f0) ((rd_T65 x125001 x4).f1) ((rd_T65 x125001 x4).f2) ((rd_T65 x125001 x4).f3) ((rd_T65 x125001 x4).f4))))) else (spec_RollOk.j2 k x3 x4 true x125000 x125001 x125002 x125003 ((rd_T65 x125001 x4).f0) ((rd_T65 x125001 x4).f1) ((rd_T65 x125001 x4).f2) ((rd_T65 x125001 x4).f3) ((rd_T65 x125001 x4).f4))) else (spec_RollOk.j2 k x3 x4 true x125000 x125001 x125002 x125003 ((rd_T65 x125001 x4).f0) ((rd_T65 x125001 x4).f1) ((rd_T65 x125001 x4).f2) ((rd_T65 x125001 x4).f3) ((rd_T65 x125001 x4).f4))))) else (spec_RollOk.j2 k x3 x4 true x125000 x125001 x125002 x125003 ((rd_T65 x125001 x4).f0) ((rd_T65 x125001 x4).f1) ((rd_T65 x125001 x4).f2) ((rd_T65 x125001 x4).f3) ((rd_T65 x125001 x4).f4)))) else (none)) else (spec_RollOk.l1 k x3 0 0 x125000 x125001 x125002 x125003)
def spec_RollOk.j2 : Nat → List Int → Int → Bool → Int → List (S65) → Int → List Int → Int → Int → ByteArray → List Int → Int → Option (Bool)
 | 0, _, _, _, _, _, _, _, _, _, _, _, _ => none
 | k + 1, x3, x4, x90, x125000, x125001, x125002, x125003, x131000, x131001, x131002, x131003, x131004 => if x90 = true then (some false) else (if x131004 = 2 then (if x3.length < 17592186044416 then (if (x131003.length : Int) = x125000 then (spec_RollOk.l0 k (x3 ++ [x131000]) (wrap64 (x4 + 1)) x125000 x125001 x125002 x125003) else (some false)) else (none)) else (spec_RollOk.l0 k x3 (wrap64 (x4 + 1)) x125000 x125001 x125002 x125003))
def spec_RollOk.l1 : Nat → List Int → Int → Int → Int → List (S65) → Int → List Int → Option (Bool)
 | 0, _, _, _, _, _, _, _ => none
 | k + 1, x3, x6, x7, x125000, x125001, x125002, x125003 => if x7 < (x125003.length : Int) then (if (x3.length : Int) = (x125003.length : Int) then (if 0 ≤ x7 then (if x7 < (x3.length : Int) then (if (rd x3 x7) = (rd x125003 x7) then (spec_RollOk.l1 k x3 (rd x125003 x7) (wrap64 (x7 + 1)) x125000 x125001 x125002 x125003) else (some false)) else (none)) else (none)) else (some false)) else (if (x3.length : Int) = (x125003.length : Int) then (some (x125002 == x6)) else (some false))
end
def spec_RollOk.f (k : Nat) (a0_0 : Int) (l0_1 : List (S65)) (a0_2 : Int) (l0_3 : List Int) : Option (Bool) := (spec_l7Of.f a0_0).bind fun t125 => (if t125 = true then (if (l0_1.length : Int) > 30 then (spec_RollOk.j0 k true a0_0 l0_1 a0_2 l0_3) else (spec_RollOk.j0 k (decide ((l0_3.length : Int) > 30)) a0_0 l0_1 a0_2 l0_3)) else (spec_RollOk.j0 k true a0_0 l0_1 a0_2 l0_3))
set_option maxRecDepth 100000 in
theorem spec_RollOk.mono_l : ∀ k, (∀ y0 y1 y2 y3 y4, LeO (spec_RollOk.j0 k y0 y1 y2 y3 y4) (spec_RollOk.j0 (k + 1) y0 y1 y2 y3 y4)) ∧ (∀ y0 y1 y2 y3 y4 y5, LeO (spec_RollOk.l0 k y0 y1 y2 y3 y4 y5) (spec_RollOk.l0 (k + 1) y0 y1 y2 y3 y4 y5)) ∧ (∀ y0 y1 y2 y3 y4 y5 y6 y7 y8 y9 y10 y11, LeO (spec_RollOk.j2 k y0 y1 y2 y3 y4 y5 y6 y7 y8 y9 y10 y11) (spec_RollOk.j2 (k + 1) y0 y1 y2 y3 y4 y5 y6 y7 y8 y9 y10 y11)) ∧ (∀ y0 y1 y2 y3 y4 y5 y6, LeO (spec_RollOk.l1 k y0 y1 y2 y3 y4 y5 y6) (spec_RollOk.l1 (k + 1) y0 y1 y2 y3 y4 y5 y6))
 | 0 => ⟨fun _ _ _ _ _ r h => by simp [spec_RollOk.j0] at h, fun _ _ _ _ _ _ r h => by simp [spec_RollOk.l0] at h, fun _ _ _ _ _ _ _ _ _ _ _ _ r h => by simp [spec_RollOk.j2] at h, fun _ _ _ _ _ _ _ r h => by simp [spec_RollOk.l1] at h⟩
 | k + 1 => by
  obtain ⟨ih0, ih1, ih2, ih3⟩ := spec_RollOk.mono_l k
  refine ⟨?_, ?_, ?_, ?_⟩
  ·intro y0 y1 y2 y3 y4
   unfold spec_RollOk.j0
   repeat' first
   | (with_reducible exact ih0 _ _ _ _ _)
   | (with_reducible exact ih1 _ _ _ _ _ _)
   | (with_reducible exact ih2 _ _ _ _ _ _ _ _ _ _ _ _)
   | (with_reducible exact ih3 _ _ _ _ _ _ _)
   | (with_reducible exact spec_l7Nodes.mono _ _ _)
   | (with_reducible exact LeO.refl _)
   | (with_reducible exact LeO.none _)
   | (with_reducible refine LeO.ite ?_ ?_)
   | (with_reducible refine LeO.bind ?_ (fun _ => ?_))
   | exact ih0 _ _ _ _ _
   | exact ih1 _ _ _ _ _ _
   | exact ih2 _ _ _ _ _ _ _ _ _ _ _ _
   | exact ih3 _ _ _ _ _ _ _
   | exact spec_l7Nodes.mono _ _ _
   | exact LeO.none _
   | refine LeO.ite ?_ ?_
   | refine LeO.bind ?_ (fun _ => ?_)
  ·intro y0 y1 y2 y3 y4 y5
   unfold spec_RollOk.l0
   repeat' first
   | (with_reducible exact ih0 _ _ _ _ _)
   | (with_reducible exact ih1 _ _ _ _ _ _)
   | (with_reducible exact ih2 _ _ _ _ _ _ _ _ _ _ _ _)
   | (with_reducible exact ih3 _ _ _ _ _ _ _)
   | (with_reducible exact spec_l7Nodes.mono _ _ _)
   | (with_reducible exact LeO.refl _)
   | (with_reducible exact LeO.none _)
   | (with_reducible refine LeO.ite ?_ ?_)
   | (with_reducible refine LeO.bind ?_ (fun _ => ?_))
   | exact ih0 _ _ _ _ _
   | exact ih1 _ _ _ _ _ _
   | exact ih2 _ _ _ _ _ _ _ _ _ _ _ _
   | exact ih3 _ _ _ _ _ _ _
   | exact spec_l7Nodes.mono _ _ _
   | exact LeO.none _
   | refine LeO.ite ?_ ?_
   | refine LeO.bind ?_ (fun _ => ?_)
  ·intro y0 y1 y2 y3 y4 y5 y6 y7 y8 y9 y10 y11
   unfold spec_RollOk.j2
   repeat' first
   | (with_reducible exact ih0 _ _ _ _ _)
   | (with_reducible exact ih1 _ _ _ _ _ _)
   | (with_reducible exact ih2 _ _ _ _ _ _ _ _ _ _ _ _)
   | (with_reducible exact ih3 _ _ _ _ _ _ _)
   | (with_reducible exact spec_l7Nodes.mono _ _ _)
   | (with_reducible exact LeO.refl _)
   | (with_reducible exact LeO.none _)
   | (with_reducible refine LeO.ite ?_ ?_)
   | (with_reducible refine LeO.bind ?_ (fun _ => ?_))
   | exact ih0 _ _ _ _ _
   | exact ih1 _ _ _ _ _ _
   | exact ih2 _ _ _ _ _ _ _ _ _ _ _ _
   | exact ih3 _ _ _ _ _ _ _
   | exact spec_l7Nodes.mono _ _ _
   | exact LeO.none _
   | refine LeO.ite ?_ ?_
   | refine LeO.bind ?_ (fun _ => ?_)
  ·intro y0 y1 y2 y3 y4 y5 y6
   unfold spec_RollOk.l1
   repeat' first
   | (with_reducible exact ih0 _ _ _ _ _)
   | (with_reducible exact ih1 _ _ _ _ _ _)
   | (with_reducible exact ih2 _ _ _ _ _ _ _ _ _ _ _ _)
   | (with_reducible exact ih3 _ _ _ _ _ _ _)
   | (with_reducible exact spec_l7Nodes.mono _ _ _)
   | (with_reducible exact LeO.refl _)
   | (with_reducible exact LeO.none _)
   | (with_reducible refine LeO.ite ?_ ?_)
   | (with_reducible refine LeO.bind ?_ (fun _ => ?_))
   | exact ih0 _ _ _ _ _
   | exact ih1 _ _ _ _ _ _
   | exact ih2 _ _ _ _ _ _ _ _ _ _ _ _
   | exact ih3 _ _ _ _ _ _ _
   | exact spec_l7Nodes.mono _ _ _
   | exact LeO.none _
   | refine LeO.ite ?_ ?_
   | refine LeO.bind ?_ (fun _ => ?_)
theorem spec_RollOk.mono : ∀ a0 a1 a2 a3 k, LeO (spec_RollOk.f k a0 a1 a2 a3) (spec_RollOk.f (k + 1) a0 a1 a2 a3) := by
 intro a0 a1 a2 a3 k
 obtain ⟨ih0, ih1, ih2, ih3⟩ := spec_RollOk.mono_l k
 unfold spec_RollOk.f
 repeat' first
  | (with_reducible exact ih0 _ _ _ _ _)
  | (with_reducible exact ih1 _ _ _ _ _ _)
  | (with_reducible exact ih2 _ _ _ _ _ _ _ _ _ _ _ _)
  | (with_reducible exact ih3 _ _ _ _ _ _ _)
  | (with_reducible exact spec_l7Nodes.mono _ _ _)
  | (with_reducible exact LeO.refl _)
  | (with_reducible exact LeO.none _)
  | (with_reducible refine LeO.ite ?_ ?_)
  | (with_reducible refine LeO.bind ?_ (fun _ => ?_))
  | exact ih0 _ _ _ _ _
  | exact ih1 _ _ _ _ _ _
  | exact ih2 _ _ _ _ _ _ _ _ _ _ _ _
  | exact ih3 _ _ _ _ _ _ _
  | exact spec_l7Nodes.mono _ _ _
  | exact LeO.none _
  | refine LeO.ite ?_ ?_
  | refine LeO.bind ?_ (fun _ => ?_)
def spec_RollOk.T8 : Bool × List (List Nat × List Nat) := (true, [([], []), ([0], [0]), ([1], [1]), ([2], [2]), ([3, 2], [3]), ([4], [4]), ([5, 4], [4, 5]), ([6, 4, 4], [4, 6]), ([7], [7]), ([8, 7], [7, 8]), ([7], [7]), ([10, 7], [7, 10]), ([9, 11, 7], [7, 9, 11]), ([12, 7], [7, 12]), ([13, 7], [7, 13]), ([7], [7]), ([15, 7], [7, 15]), ([14, 16, 7], [7, 14, 16]), ([7, 17, 4], [4, 7, 17]), ([4, 18], [4, 18]), ([19, 7], [19]), ([20], [20]), ([21, 20], [20, 21]), ([22, 20, 20], [20, 22]), ([23, 20], [20, 23]), ([20, 24], [20, 24]), ([25, 23], [25]), ([26], [26]), ([27, 26], [26, 27]), ([28, 26], [26, 28]), ([29, 26], [26, 29]), ([26, 30], [26, 30]), ([31, 26], [31]), ([32], [32]), ([33, 32], [32, 33]), ([34, 32], [32, 34]), ([32], [32]), ([36, 32], [32, 36]), ([35, 37, 32], [32, 35, 37]), ([32, 38], [32, 38]), ([39, 32], [39]), ([40], [40]), ([41, 40], [40, 41]), ([40], [40]), ([43, 40], [40, 43]), ([42, 44, 40, 40], [40, 42, 44]), ([45, 40], [40, 45]), ([40, 46], [40, 46]), ([47, 45], [47]), ([48], [48]), ([49, 48], [48, 49]), ([50, 48, 48], [48, 50]), ([51, 48], [48, 51]), ([48, 52], [48, 52])])
def spec_RollOk.B8 : List Nat := [0, 1, 3, 7, 15, 31, 63, 127, 255, 511, 255, 1279, 4095, 8191, 16383, 255, 33023, 131071, 262143, 524287, 1048575, 2097151, 4194303, 8388607, 16777215, 33554431, 67108863, 134217727, 268435455, 536870911, 1073741823, 2147483647, 4294967295, 8589934591, 17179869183, 34359738367, 8589934591, 77309411327, 274877906943, 549755813887, 1099511627775, 2199023255551, 4398046511103, 2199023255551, 10995116277759, 35184372088831, 70368744177663, 140737488355327, 281474976710655, 562949953421311, 1125899906842623, 2251799813685247, 4503599627370495, 9007199254740991]
theorem spec_RollOk.tab8 : rtab .any (opsOf Try.f37 8) = spec_RollOk.T8 := by kernel_rfl
theorem spec_RollOk.bits8 : waitsOk spec_RollOk.T8.2 spec_RollOk.B8 = true := by kernel_rfl
def spec_RollOk.T18 : Bool × List (List Nat × List Nat) := (true, [([], []), ([0], [0]), ([], []), ([2], [2]), ([3], [3]), ([1, 4], [1, 4]), ([5], [5]), ([6], [6]), ([6], [6]), ([7, 8, 6], [6, 7, 8]), ([9, 6], [6, 9]), ([6], [6]), ([11, 6], [6, 11]), ([6], [6]), ([12, 13, 6], [6, 12, 13]), ([14, 6], [6, 14]), ([10, 15, 6], [6, 10, 15]), ([6, 16], [6, 16])])
def spec_RollOk.B18 : List Nat := [0, 1, 0, 4, 12, 31, 63, 127, 127, 511, 1023, 127, 2175, 127, 14463, 30847, 65535, 131071]
theorem spec_RollOk.tab18 : rtab .any (opsOf Try.f37 18) = spec_RollOk.T18 := by kernel_rfl
theorem spec_RollOk.bits18 : waitsOk spec_RollOk.T18.2 spec_RollOk.B18 = true := by kernel_rfl
set_option maxHeartbeats 8000000 in
set_option maxRecDepth 100000 in
theorem spec_RollOk.calls (k : Nat) (a0_0 : Int) (A0_1 : Option Addr) (c0_1 : Nat) (l0_1 : List (S65)) (a0_2 : Int) (A0_3 : Option Addr) (c0_3 : Nat) (l0_3 : List Int) (r : Bool) (w : World) (hr0_1 : Kd.C k65 w A0_1 l0_1.length l0_1) (hc0_1 : l0_1.length ≤ c0_1) (hr0_3 : Kd.C (Kd.int .i64) w A0_3 l0_3.length l0_3) (hc0_3 : l0_3.length ≤ c0_3) (h : spec_RollOk.f k a0_0 l0_1 a0_2 l0_3 = some r) :
 Calls Try.prog 37 #[.agg #[.int .i64 a0_0, .slice A0_1 l0_1.length c0_1, .int .i64 a0_2, .slice A0_3 l0_3.length c0_3]] w fun e w' => e = .returned (.bool r) ∧ Below w.heap.size w w' := by
 have hu43 := Try.underlying43
 have hu65 := Try.underlying65
 have HR0_1 := aM hr0_1
 have HC0_1 := aM hc0_1
 clear hr0_1 hc0_1
 have HR0_3 := aM hr0_3
 have HC0_3 := aM hc0_3
 clear hr0_3 hc0_3
 have HB := aM (Below.refl w.heap.size w)
 have H : ((spec_l7Of.f a0_0).bind fun t125 => (if t125 = true then (if (l0_1.length : Int) > 30 then (spec_RollOk.j0 k true a0_0 l0_1 a0_2 l0_3) else (spec_RollOk.j0 k (decide ((l0_3.length : Int) > 30)) a0_0 l0_1 a0_2 l0_3)) else (spec_RollOk.j0 k true a0_0 l0_1 a0_2 l0_3))) = some r := h
 clear h
 have HC2 := aM H
 clear H
 go_enter Try.func37, Try.ntmps37
 go_upto_region 1 with (first | ((with_reducible refine gate_dst (N := 1) rfl ?_); (try (refine gate_guard (by rfl) ?_; dsimp only)); refine boxE (N := 1) rfl (cs := #[.int .i64 a0_0, .slice A0_1 l0_1.length c0_1, .int .i64 a0_2, .slice A0_3 l0_3.length c0_3]) (t := 43) ?_; intro gb124 hg w3 hbox hb; have BK124 := aM (hbox); have GW124 := aM (xge hg); have GE124 := aM (xge hg); replace HB := xbs hb; clear hb hbox hg))
 (try simp only [Act.put, List.setIfInBounds_toArray, List.set_cons_zero, List.set_cons_succ])
 go_cut [23] (fun v23 wc => ∃ (kq : Nat) (x23_1 : Bool), v23 = .bool x23_1 ∧ Aside0 (spec_RollOk.j0 kq x23_1 a0_0 l0_1 a0_2 l0_3 = some r) ∧ Aside0 (kq ≤ k) ∧ Aside0 (wc.heap[gb124]? = some (.cells #[.int .i64 a0_0, (.slice A0_1 l0_1.length c0_1), .int .i64 a0_2, (.slice A0_3 l0_3.length c0_3)] 43 (0, 0))) ∧ Aside0 (Below w.heap.size w wc))
 case first =>
  have H := HC2.out; clear HC2; replace H := Option.bind_eq_some_iff.mp H
  obtain ⟨t125, A40, H⟩ := H
  replace H : (if t125 = true then (if (l0_1.length : Int) > 30 then (spec_RollOk.j0 k true a0_0 l0_1 a0_2 l0_3) else (spec_RollOk.j0 k (decide ((l0_3.length : Int) > 30)) a0_0 l0_1 a0_2 l0_3)) else (spec_RollOk.j0 k true a0_0 l0_1 a0_2 l0_3)) = some r := H; have A4 := aM A40; clear A40
  by_cases c5 : t125 = true
  ·subst c5
   have H1 : (if (l0_1.length : Int) > 30 then (spec_RollOk.j0 k true a0_0 l0_1 a0_2 l0_3) else (spec_RollOk.j0 k (decide ((l0_3.length : Int) > 30)) a0_0 l0_1 a0_2 l0_3)) = some r := by rw [if_pos rfl] at H; exact H
   clear H; have H := H1; clear H1
   by_cases c6 : (l0_1.length : Int) > 30
   ·rw [if_pos c6] at H
    have c6b0 : decide (30 < (l0_1.length : Int)) = true := decide_eq_true c6; have c6b1 : decide (30 < l0_1.length) = true := decide_eq_true (by omega); clear c6
    (first | rw [c6b0] | (simp only [i64_w, i32_w]; rw [c6b0]) | skip)
    have H' := aM H
    clear H; obtain ⟨hcz7_0, hcz7_1, hcz7_2, hcz7_3, hfz7_0, hfz7_1, hfz7_2, hfz7_3⟩ := xf4 (w := w3) BK124
    go_wp2_with (first | ((with_reducible refine gate_callee (f := 82) rfl ?_); refine goesLY (some 10) rfl Try.func82 #[.int .i64 a0_0] ?_; (with_reducible refine (spec_l7Of.calls a0_0 true _ A4.out).mono ?_); rintro e w' ⟨rfl, ⟨nd, rfl⟩⟩; refine ⟨_, rfl, ?_⟩))
    go_meet
    case rel => exact ⟨_, (true), (by first | rfl | (simp; done) | (simp [*]; done)), H', ⟨by first | omega | exact Nat.le_refl _⟩, ⟨xblk⟩, ⟨xbg⟩⟩
   ·rw [if_neg c6] at H
    have c6b0 : decide (30 < (l0_1.length : Int)) = false := decide_eq_false c6; have c6b1 : decide (30 < l0_1.length) = false := decide_eq_false (by omega); clear c6
    (first | rw [c6b0] | (simp only [i64_w, i32_w]; rw [c6b0]) | skip)
    have H' := aM H
    clear H; obtain ⟨hcz8_0, hcz8_1, hcz8_2, hcz8_3, hfz8_0, hfz8_1, hfz8_2, hfz8_3⟩ := xf4 (w := w3) BK124
    go_wp2_with (first | ((with_reducible refine gate_callee (f := 82) rfl ?_); refine goesLY (some 10) rfl Try.func82 #[.int .i64 a0_0] ?_; (with_reducible refine (spec_l7Of.calls a0_0 true _ A4.out).mono ?_); rintro e w' ⟨rfl, ⟨nd, rfl⟩⟩; refine ⟨_, rfl, ?_⟩))
    go_meet
    case rel => exact ⟨_, (decide ((l0_3.length : Int) > 30)), (by first | rfl | (simp; done) | (simp [*]; done)), H', ⟨by first | omega | exact Nat.le_refl _⟩, ⟨xblk⟩, ⟨xbg⟩⟩
  ·replace c5 := Bool.eq_false_iff.mpr c5
   subst c5
   have H1 : (spec_RollOk.j0 k true a0_0 l0_1 a0_2 l0_3) = some r := by rw [if_neg (show ¬ (false = true) by decide)] at H; exact H
   clear H; have H := H1; clear H1
   have H' := aM H
   clear H; obtain ⟨hcz9_0, hcz9_1, hcz9_2, hcz9_3, hfz9_0, hfz9_1, hfz9_2, hfz9_3⟩ := xf4 (w := w3) BK124
   go_wp2_with (first | ((with_reducible refine gate_callee (f := 82) rfl ?_); refine goesLY (some 10) rfl Try.func82 #[.int .i64 a0_0] ?_; (with_reducible refine (spec_l7Of.calls a0_0 false _ A4.out).mono ?_); rintro e w' ⟨rfl, ⟨nd, rfl⟩⟩; refine ⟨_, rfl, ?_⟩))
   go_meet
   case rel => exact ⟨_, (true), (by first | rfl | (simp; done) | (simp [*]; done)), H', ⟨by first | omega | exact Nat.le_refl _⟩, ⟨xblk⟩, ⟨xbg⟩⟩
 case rest =>
  clear HC2
  try clear p2
  try clear c3
  try clear c5
  try clear c6
  try clear c6b0
  try clear c6b1
  try clear c8
  try clear hcz7_0 hcz7_1 hcz7_2 hcz7_3
  try clear hcz8_0 hcz8_1 hcz8_2 hcz8_3
  try clear hcz9_0 hcz9_1 hcz9_2 hcz9_3
  try clear hfz7_0
  try clear hfz7_1
  try clear hfz7_2
  try clear hfz7_3
  try clear hfz8_0
  try clear hfz8_1
  try clear hfz8_2
  try clear hfz8_3
  try clear hfz9_0
  try clear hfz9_1
  try clear hfz9_2
  try clear hfz9_3
  obtain ⟨kq, x23_1, rfl, HA, HJ1, BK124, HB⟩ := hcut
  cases kq with
  | zero => exact absurd HA.out (by simp [spec_RollOk.j0])
  | succ kj1 =>
   have H := HA.out; clear HA
   simp only [spec_RollOk.j0] at H
   by_cases c10 : x23_1 = true
   ·subst c10
    have H1 : (some false) = some r := by rw [if_pos rfl] at H; exact H
    clear H; have H := H1; clear H1
    obtain rfl := Option.some.inj H
    go_wp2
    go_ret
    exact ⟨xerr, xbg⟩
   ·replace c10 := Bool.eq_false_iff.mpr c10
    subst c10
    have H1 : (spec_RollOk.l0 kj1 (([] : List Int)) 0 a0_0 l0_1 a0_2 l0_3) = some r := by rw [if_neg (show ¬ (false = true) by decide)] at H; exact H
    clear H; have H := H1; clear H1
    obtain ⟨y126, hy126⟩ : ∃ y_ : List Int, y_ = (([] : List Int)) := ⟨_, rfl⟩
    replace H : (spec_RollOk.l0 kj1 y126 0 a0_0 l0_1 a0_2 l0_3) = some r := by first | (rw [hy126]; with_reducible exact H) | (have H2_ := (Option.bind_some _ _).symm.trans H; rw [hy126]; with_reducible exact H2_) | (have H2_ := (Option.bind_some _ _).symm.trans H; with_reducible exact H2_) | with_reducible exact H | (rw [hy126]; exact H) | exact H
    have Ny126 := aM hy126; clear hy126
    have H' := aM H
    clear H
    go_wp2_with (first | ((with_reducible refine gate_dst (N := 24) rfl ?_); (try (refine gate_guard (by rfl) ?_; dsimp only)); refine Kd.R_lit (Kd.int .i64) _ 3 ?hg (N := 24) ?hd (xs := ([] : List Int)) (inner := []) (ok := fun _ => True) (okp := fun _ => True) ?hr ?hp (fun _ hk => hk) trivial (Below.refl _ _) (Nat.le_refl _) (by simp) ?_; (case hd => rfl); (case hg => rfl); (case hr => first | (go_simp; done) | (go_simp; rfl)); (case hp => exact (Reps.none _ _)); intro v127 w11 ho12 hb hg_ hnew_; clear hg_ hnew_; (first | rw [← Ny126.out] at ho12 | (simp only [Int.reduceToNat] at ho12; rw [← Ny126.out] at ho12)); have HO128 := aM (Kd.R_lower ho12 (below_size xbg)); replace BK124 := xbb BK124 hb; replace HB := xbs hb; clear hb ho12))
    go_loopg [3, 4] kj1 (fun kq v3 v4 w' => ∃ (x3_2 : List Int) (x4_2 : Int), v4 = .int .i64 x4_2 ∧ Aside0 (spec_RollOk.l0 kq x3_2 x4_2 a0_0 l0_1 a0_2 l0_3 = some r) ∧ Aside0 (kq ≤ kj1) ∧ Aside0 (Kd.R (Kd.int .i64) 3 w' w.heap.size (fun _ => True) v3 x3_2) ∧ Aside0 (w'.heap[gb124]? = some (.cells #[.int .i64 a0_0, (.slice A0_1 l0_1.length c0_1), .int .i64 a0_2, (.slice A0_3 l0_3.length c0_3)] 43 (0, 0))) ∧ Aside0 (Below w.heap.size w w'))
    case atStart => exact ⟨(y126), (0), (by first | rfl | (simp; done) | (simp [*]; done)), H', ⟨Nat.le_refl _⟩, ⟨by (with_reducible repeat (first | apply Kd.R_alloc | apply Kd.R_drewN | apply Kd.R_drew)); exact HO128.out⟩, ⟨xblk⟩, ⟨xbg⟩⟩
    case round =>
     clear H'
     try clear c1
     try clear p2
     try clear c3
     try clear c5
     try clear c6
     try clear c6b0
     try clear c6b1
     try clear c8
     try clear c10
     try clear hcz7_0 hcz7_1 hcz7_2 hcz7_3
     try clear hcz8_0 hcz8_1 hcz8_2 hcz8_3
     try clear hcz9_0 hcz9_1 hcz9_2 hcz9_3
     try clear hfz7_0
     try clear hfz7_1
     try clear hfz7_2
     try clear hfz7_3
     try clear hfz8_0
     try clear hfz8_1
     try clear hfz8_2
     try clear hfz8_3
     try clear hfz9_0
     try clear hfz9_1
     try clear hfz9_2
     try clear hfz9_3
     try clear p2
     obtain ⟨x3_2, x4_2, rfl, HA, HK2, HO_3, BK124, HB⟩ := hrel
     cases gk with
     | zero => exact absurd HA.out (by simp [spec_RollOk.l0])
     | succ k2 =>
      have H := HA.out; clear HA
      simp only [spec_RollOk.l0] at H
      by_cases c13 : x4_2 < (l0_1.length : Int)
      ·rw [if_pos c13] at H
       have c13b0 : decide (x4_2 < (l0_1.length : Int)) = true := decide_eq_true c13; clear c13
       by_cases c14 : 0 ≤ x4_2
       ·rw [if_pos c14] at H
        have c14b0 : decide (0 ≤ x4_2) = true := decide_eq_true c14; clear c14; have HC15 := aM H; clear H; obtain ⟨hcz16_0, hcz16_1, hcz16_2, hcz16_3, hfz16_0, hfz16_1, hfz16_2, hfz16_3⟩ := xf4 (w := wr) BK124; have p129 : 0 ≤ (x4_2 : Int) := oda; have q129 : x4_2 < (l0_1.length : Int) := oda
        obtain ⟨ad129, A129_3, c129_3, e129, hx129_0, hx129_1, hx129_2, hx129_3, hx129_4, hl129_3, hi129_3⟩ := at_T65 HR0_1.out x4_2 p129 q129
        cases e129
        replace hx129_0 := xce HB hx129_0; replace hx129_1 := xce HB hx129_1; replace hx129_2 := xce HB hx129_2; replace hx129_3 := xce HB hx129_3; replace hx129_4 := xce HB hx129_4; have HR129_3 := aM hi129_3; have HC129_3 := aM hl129_3; clear hi129_3 hl129_3; replace p129 := eq_true p129; replace q129 := eq_true q129
        go_upto_region 8 with (first | ((with_reducible refine gate_dst (N := 5) rfl ?_); (try (refine gate_guard (by rfl) ?_; dsimp only)); refine boxE (N := 5) rfl (cs := #[.int .i64 0, .int .i64 0, .string (⟨#[]⟩ : ByteArray), .slice none 0 0, .int .i64 0]) (t := 65) ?_; intro gb130 hg w17 hbox hb; replace HO_3 := aM (Kd.R_below (xr HO_3) hb); have GW130 := aM (xge hg); have GE130 := aM (xge hg); replace HB := xbs hb; have NB124_130 := nblt BK124 hg; have NB130_124 := nbgt BK124 hg; replace BK124 := xbb BK124 hb; have BK130 := aM (hbox); clear hb hbox hg; have hnb18 := NB130_124.out; have hnc18 := NB124_130.out; obtain ⟨hcz19_0, hcz19_1, hcz19_2, hcz19_3, hcz19_4, hfz19_0, hfz19_1, hfz19_2, hfz19_3, hfz19_4⟩ := xf5 (w := w17) BK130) | ((with_reducible refine gate_store (t := 65) (p := 5) rfl ?_); refine store_event (t := 65) (p := 5) (v := ?vo_w20) (w1 := (((((w17.setCell ⟨gb130, 0, none⟩ (.int .i64 ((rd_T65 l0_1 x4_2).f0))).setCell ⟨gb130, 1, none⟩ (.int .i64 ((rd_T65 l0_1 x4_2).f1))).setCell ⟨gb130, 2, none⟩ (.string ((rd_T65 l0_1 x4_2).f2))).setCell ⟨gb130, 3, none⟩ (.slice A129_3 ((rd_T65 l0_1 x4_2).f3).length c129_3)).setCell ⟨gb130, 4, none⟩ (.int .i64 ((rd_T65 l0_1 x4_2).f4)))) ?hg ?ho ?hn ?hr ?_; (case ho | hg | hn => rfl); (case hr => first | (go_simp; done) | (go_simp; rfl)); intro w20 hw; replace HO_3 : Aside0 (Kd.R (Kd.int .i64) 3 w20 w.heap.size (fun _ => True) u3 x3_2) := ⟨(by rw [hw]; exact (by (with_reducible repeat (first | apply Kd.R_alloc | apply Kd.R_drewN | apply Kd.R_drew)); exact Kd.R_mono (Kd.R_far (p := ⟨gb130, 4, none⟩) (Kd.R_far (p := ⟨gb130, 3, none⟩) (Kd.R_far (p := ⟨gb130, 2, none⟩) (Kd.R_far (p := ⟨gb130, 1, none⟩) (Kd.R_far (p := ⟨gb130, 0, none⟩) (Kd.R_types HO_3.out BK130.out (by decide)) (fun _ hk => hk.2) (.int .i64 ((rd_T65 l0_1 x4_2).f0))) (fun _ hk => hk.2) (.int .i64 ((rd_T65 l0_1 x4_2).f1))) (fun _ hk => hk.2) (.string ((rd_T65 l0_1 x4_2).f2))) (fun _ hk => hk.2) (.slice A129_3 ((rd_T65 l0_1 x4_2).f3).length c129_3)) (fun _ hk => hk.2) (.int .i64 ((rd_T65 l0_1 x4_2).f4))) (fun _ hk => trivial)))⟩; replace BK124 : Aside0 (w20.heap[gb124]? = some (.cells #[.int .i64 a0_0, .slice (some ad129) l0_1.length c0_1, .int .i64 a0_2, .slice A0_3 l0_3.length c0_3] 43 (0, 0))) := ⟨(by rw [hw]; exact (by (with_reducible repeat (first | refine blk_drewN ?_ _ | refine blk_drew ?_ | refine blk_alloc ?_ _)); refine blk_far ?_ NB124_130.out _; (with_reducible repeat (first | refine blk_drewN ?_ _ | refine blk_drew ?_ | refine blk_alloc ?_ _)); refine blk_far ?_ NB124_130.out _; (with_reducible repeat (first | refine blk_drewN ?_ _ | refine blk_drew ?_ | refine blk_alloc ?_ _)); refine blk_far ?_ NB124_130.out _; (with_reducible repeat (first | refine blk_drewN ?_ _ | refine blk_drew ?_ | refine blk_alloc ?_ _)); refine blk_far ?_ NB124_130.out _; (with_reducible repeat (first | refine blk_drewN ?_ _ | refine blk_drew ?_ | refine blk_alloc ?_ _)); refine blk_far ?_ NB124_130.out _; (with_reducible repeat (first | refine blk_drewN ?_ _ | refine blk_drew ?_ | refine blk_alloc ?_ _)); exact BK124.out))⟩; replace BK130 : Aside0 (w20.heap[gb130]? = some (.cells #[.int .i64 ((rd_T65 l0_1 x4_2).f0), .int .i64 ((rd_T65 l0_1 x4_2).f1), .string ((rd_T65 l0_1 x4_2).f2), .slice A129_3 ((rd_T65 l0_1 x4_2).f3).length c129_3, .int .i64 ((rd_T65 l0_1 x4_2).f4)] 65 (0, 0))) := ⟨(by rw [hw]; exact (by (with_reducible repeat (first | refine blk_drewN ?_ _ | refine blk_drew ?_ | refine blk_alloc ?_ _)); refine blk_put (cs := #[.int .i64 ((rd_T65 l0_1 x4_2).f0), .int .i64 ((rd_T65 l0_1 x4_2).f1), .string ((rd_T65 l0_1 x4_2).f2), .slice A129_3 ((rd_T65 l0_1 x4_2).f3).length c129_3, .int .i64 0]) ?_ 4 _ rfl; (with_reducible repeat (first | refine blk_drewN ?_ _ | refine blk_drew ?_ | refine blk_alloc ?_ _)); refine blk_put (cs := #[.int .i64 ((rd_T65 l0_1 x4_2).f0), .int .i64 ((rd_T65 l0_1 x4_2).f1), .string ((rd_T65 l0_1 x4_2).f2), .slice none 0 0, .int .i64 0]) ?_ 3 _ rfl; (with_reducible repeat (first | refine blk_drewN ?_ _ | refine blk_drew ?_ | refine blk_alloc ?_ _)); refine blk_put (cs := #[.int .i64 ((rd_T65 l0_1 x4_2).f0), .int .i64 ((rd_T65 l0_1 x4_2).f1), .string (⟨#[]⟩ : ByteArray), .slice none 0 0, .int .i64 0]) ?_ 2 _ rfl; (with_reducible repeat (first | refine blk_drewN ?_ _ | refine blk_drew ?_ | refine blk_alloc ?_ _)); refine blk_put (cs := #[.int .i64 ((rd_T65 l0_1 x4_2).f0), .int .i64 0, .string (⟨#[]⟩ : ByteArray), .slice none 0 0, .int .i64 0]) ?_ 1 _ rfl; (with_reducible repeat (first | refine blk_drewN ?_ _ | refine blk_drew ?_ | refine blk_alloc ?_ _)); refine blk_put (cs := #[.int .i64 0, .int .i64 0, .string (⟨#[]⟩ : ByteArray), .slice none 0 0, .int .i64 0]) ?_ 0 _ rfl; (with_reducible repeat (first | refine blk_drewN ?_ _ | refine blk_drew ?_ | refine blk_alloc ?_ _)); exact BK130.out))⟩; replace HB : Aside0 (Below w.heap.size w w20) := ⟨(by rw [hw]; exact xbg)⟩; clear hw))
        (try simp only [Act.put, List.setIfInBounds_toArray, List.set_cons_zero, List.set_cons_succ])
        go_cut [90] (fun v90 wc => ∃ (kq : Nat) (x90_14 : Bool), v90 = .bool x90_14 ∧ Aside0 (spec_RollOk.j2 kq x3_2 x4_2 x90_14 a0_0 l0_1 a0_2 l0_3 ((rd_T65 l0_1 x4_2).f0) ((rd_T65 l0_1 x4_2).f1) ((rd_T65 l0_1 x4_2).f2) ((rd_T65 l0_1 x4_2).f3) ((rd_T65 l0_1 x4_2).f4) = some r) ∧ Aside0 (kq ≤ k2) ∧ Aside0 (Kd.R (Kd.int .i64) 3 wc w.heap.size (fun _ => True) u3 x3_2) ∧ Aside0 (wc.heap[gb124]? = some (.cells #[.int .i64 a0_0, (.slice (some ad129) l0_1.length c0_1), .int .i64 a0_2, (.slice A0_3 l0_3.length c0_3)] 43 (0, 0))) ∧ Aside0 (wc.heap[gb130]? = some (.cells #[.int .i64 ((rd_T65 l0_1 x4_2).f0), .int .i64 ((rd_T65 l0_1 x4_2).f1), .string ((rd_T65 l0_1 x4_2).f2), (.slice A129_3 ((rd_T65 l0_1 x4_2).f3).length c129_3), .int .i64 ((rd_T65 l0_1 x4_2).f4)] 65 (0, 0))) ∧ Aside0 (Below w.heap.size w wc))
        case first =>
         have H := HC15.out; clear HC15; replace H := Option.bind_eq_some_iff.mp H
         obtain ⟨t131, A210, H⟩ := H
         replace H : (if t131 = true then (if x4_2 > 0 then (if 0 ≤ (wrap64 (x4_2 - 1)) then (if (wrap64 (x4_2 - 1)) < (l0_1.length : Int) then (if ((rd_T65 l0_1 (wrap64 (x4_2 - 1))).f0) ≥ ((rd_T65 l0_1 x4_2).f0) then (spec_RollOk.j2 k2 x3_2 x4_2 true a0_0 l0_1 a0_2 l0_3 ((rd_T65 l0_1 x4_2).f0) ((rd_T65 l0_1 x4_2).f1) ((rd_T65 l0_1 x4_2).f2) ((rd_T65 l0_1 x4_2).f3) ((rd_T65 l0_1 x4_2).f4)) else ((spec_l1In.f ((rd_T65 l0_1 x4_2).f1) 0 1000).bind fun t133 => (if t133 = true then (if (((rd_T65 l0_1 x4_2).f2).size : Int) = 32 then (if (((rd_T65 l0_1 x4_2).f3).length : Int) > a0_0 then (spec_RollOk.j2 k2 x3_2 x4_2 true a0_0 l0_1 a0_2 l0_3 ((rd_T65 l0_1 x4_2).f0) ((rd_T65 l0_1 x4_2).f1) ((rd_T65 l0_1 x4_2).f2) ((rd_T65 l0_1 x4_2).f3) ((rd_T65 l0_1 x4_2).f4)) else ((spec_l7Nodes.f k2 ((rd_T65 l0_1 x4_2).f3) a0_0).bind fun t134 => (if t134 = true then ((spec_l1In.f ((rd_T65 l0_1 x4_2).f4) 1 3).bind fun t135 => (spec_RollOk.j2 k2 x3_2 x4_2 (!t135) a0_0 l0_1 a0_2 l0_3 ((rd_T65 l0_1 x4_2).f0) ((rd_T65 l0_1 x4_2).f1) ((rd_T65 l0_1 x4_2).f2) ((rd_T65 l0_1 x4_2).f3) ((rd_T65 l0_1 x4_2).f4))) else (spec_RollOk.j2 k2 x3_2 x4_2 true a0_0 l0_1 a0_2 l0_3 ((rd_T65 l0_1 x4_2).f0) ((rd_T65 l0_1 x4_2).f1) ((rd_T65 l0_1 x4_2).f2) ((rd_T65 l0_1 x4_2).f3) ((rd_T65 l0_1 x4_2).f4))))) else (spec_RollOk.j2 k2 x3_2 x4_2 true a0_0 l0_1 a0_2 l0_3 ((rd_T65 l0_1 x4_2).f0) ((rd_T65 l0_1 x4_2).f1) ((rd_T65 l0_1 x4_2).f2) ((rd_T65 l0_1 x4_2).f3) ((rd_T65 l0_1 x4_2).f4))) else (spec_RollOk.j2 k2 x3_2 x4_2 true a0_0 l0_1 a0_2 l0_3 ((rd_T65 l0_1 x4_2).f0) ((rd_T65 l0_1 x4_2).f1) ((rd_T65 l0_1 x4_2).f2) ((rd_T65 l0_1 x4_2).f3) ((rd_T65 l0_1 x4_2).f4))))) else (none)) else (none)) else ((spec_l1In.f ((rd_T65 l0_1 x4_2).f1) 0 1000).bind fun t136 => (if t136 = true then (if (((rd_T65 l0_1 x4_2).f2).size : Int) = 32 then (if (((rd_T65 l0_1 x4_2).f3).length : Int) > a0_0 then (spec_RollOk.j2 k2 x3_2 x4_2 true a0_0 l0_1 a0_2 l0_3 ((rd_T65 l0_1 x4_2).f0) ((rd_T65 l0_1 x4_2).f1) ((rd_T65 l0_1 x4_2).f2) ((rd_T65 l0_1 x4_2).f3) ((rd_T65 l0_1 x4_2).f4)) else ((spec_l7Nodes.f k2 ((rd_T65 l0_1 x4_2).f3) a0_0).bind fun t137 => (if t137 = true then ((spec_l1In.f ((rd_T65 l0_1 x4_2).f4) 1 3).bind fun t138 => (spec_RollOk.j2 k2 x3_2 x4_2 (!t138) a0_0 l0_1 a0_2 l0_3 ((rd_T65 l0_1 x4_2).f0) ((rd_T65 l0_1 x4_2).f1) ((rd_T65 l0_1 x4_2).f2) ((rd_T65 l0_1 x4_2).f3) ((rd_T65 l0_1 x4_2).f4))) else (spec_RollOk.j2 k2 x3_2 x4_2 true a0_0 l0_1 a0_2 l0_3 ((rd_T65 l0_1 x4_2).f0) ((rd_T65 l0_1 x4_2).f1) ((rd_T65 l0_1 x4_2).f2) ((rd_T65 l0_1 x4_2).f3) ((rd_T65 l0_1 x4_2).f4))))) else (spec_RollOk.j2 k2 x3_2 x4_2 true a0_0 l0_1 a0_2 l0_3 ((rd_T65 l0_1 x4_2).f0) ((rd_T65 l0_1 x4_2).f1) ((rd_T65 l0_1 x4_2).f2) ((rd_T65 l0_1 x4_2).f3) ((rd_T65 l0_1 x4_2).f4))) else (spec_RollOk.j2 k2 x3_2 x4_2 true a0_0 l0_1 a0_2 l0_3 ((rd_T65 l0_1 x4_2).f0) ((rd_T65 l0_1 x4_2).f1) ((rd_T65 l0_1 x4_2).f2) ((rd_T65 l0_1 x4_2).f3) ((rd_T65 l0_1 x4_2).f4))))) else (spec_RollOk.j2 k2 x3_2 x4_2 true a0_0 l0_1 a0_2 l0_3 ((rd_T65 l0_1 x4_2).f0) ((rd_T65 l0_1 x4_2).f1) ((rd_T65 l0_1 x4_2).f2) ((rd_T65 l0_1 x4_2).f3) ((rd_T65 l0_1 x4_2).f4))) = some r := H
         have A21 := aM A210; clear A210
         by_cases c22 : t131 = true
         ·subst c22
          have H1 : (if x4_2 > 0 then (if 0 ≤ (wrap64 (x4_2 - 1)) then (if (wrap64 (x4_2 - 1)) < (l0_1.length : Int) then (if ((rd_T65 l0_1 (wrap64 (x4_2 - 1))).f0) ≥ ((rd_T65 l0_1 x4_2).f0) then (spec_RollOk.j2 k2 x3_2 x4_2 true a0_0 l0_1 a0_2 l0_3 ((rd_T65 l0_1 x4_2).f0) ((rd_T65 l0_1 x4_2).f1) ((rd_T65 l0_1 x4_2).f2) ((rd_T65 l0_1 x4_2).f3) ((rd_T65 l0_1 x4_2).f4)) else ((spec_l1In.f ((rd_T65 l0_1 x4_2).f1) 0 1000).bind fun t133 => (if t133 = true then (if (((rd_T65 l0_1 x4_2).f2).size : Int) = 32 then (if (((rd_T65 l0_1 x4_2).f3).length : Int) > a0_0 then (spec_RollOk.j2 k2 x3_2 x4_2 true a0_0 l0_1 a0_2 l0_3 ((rd_T65 l0_1 x4_2).f0) ((rd_T65 l0_1 x4_2).f1) ((rd_T65 l0_1 x4_2).f2) ((rd_T65 l0_1 x4_2).f3) ((rd_T65 l0_1 x4_2).f4)) else ((spec_l7Nodes.f k2 ((rd_T65 l0_1 x4_2).f3) a0_0).bind fun t134 => (if t134 = true then ((spec_l1In.f ((rd_T65 l0_1 x4_2).f4) 1 3).bind fun t135 => (spec_RollOk.j2 k2 x3_2 x4_2 (!t135) a0_0 l0_1 a0_2 l0_3 ((rd_T65 l0_1 x4_2).f0) ((rd_T65 l0_1 x4_2).f1) ((rd_T65 l0_1 x4_2).f2) ((rd_T65 l0_1 x4_2).f3) ((rd_T65 l0_1 x4_2).f4))) else (spec_RollOk.j2 k2 x3_2 x4_2 true a0_0 l0_1 a0_2 l0_3 ((rd_T65 l0_1 x4_2).f0) ((rd_T65 l0_1 x4_2).f1) ((rd_T65 l0_1 x4_2).f2) ((rd_T65 l0_1 x4_2).f3) ((rd_T65 l0_1 x4_2).f4))))) else (spec_RollOk.j2 k2 x3_2 x4_2 true a0_0 l0_1 a0_2 l0_3 ((rd_T65 l0_1 x4_2).f0) ((rd_T65 l0_1 x4_2).f1) ((rd_T65 l0_1 x4_2).f2) ((rd_T65 l0_1 x4_2).f3) ((rd_T65 l0_1 x4_2).f4))) else (spec_RollOk.j2 k2 x3_2 x4_2 true a0_0 l0_1 a0_2 l0_3 ((rd_T65 l0_1 x4_2).f0) ((rd_T65 l0_1 x4_2).f1) ((rd_T65 l0_1 x4_2).f2) ((rd_T65 l0_1 x4_2).f3) ((rd_T65 l0_1 x4_2).f4))))) else (none)) else (none)) else ((spec_l1In.f ((rd_T65 l0_1 x4_2).f1) 0 1000).bind fun t136 => (if t136 = true then (if (((rd_T65 l0_1 x4_2).f2).size : Int) = 32 then (if (((rd_T65 l0_1 x4_2).f3).length : Int) > a0_0 then (spec_RollOk.j2 k2 x3_2 x4_2 true a0_0 l0_1 a0_2 l0_3 ((rd_T65 l0_1 x4_2).f0) ((rd_T65 l0_1 x4_2).f1) ((rd_T65 l0_1 x4_2).f2) ((rd_T65 l0_1 x4_2).f3) ((rd_T65 l0_1 x4_2).f4)) else ((spec_l7Nodes.f k2 ((rd_T65 l0_1 x4_2).f3) a0_0).bind fun t137 => (if t137 = true then ((spec_l1In.f ((rd_T65 l0_1 x4_2).f4) 1 3).bind fun t138 => (spec_RollOk.j2 k2 x3_2 x4_2 (!t138) a0_0 l0_1 a0_2 l0_3 ((rd_T65 l0_1 x4_2).f0) ((rd_T65 l0_1 x4_2).f1) ((rd_T65 l0_1 x4_2).f2) ((rd_T65 l0_1 x4_2).f3) ((rd_T65 l0_1 x4_2).f4))) else (spec_RollOk.j2 k2 x3_2 x4_2 true a0_0 l0_1 a0_2 l0_3 ((rd_T65 l0_1 x4_2).f0) ((rd_T65 l0_1 x4_2).f1) ((rd_T65 l0_1 x4_2).f2) ((rd_T65 l0_1 x4_2).f3) ((rd_T65 l0_1 x4_2).f4))))) else (spec_RollOk.j2 k2 x3_2 x4_2 true a0_0 l0_1 a0_2 l0_3 ((rd_T65 l0_1 x4_2).f0) ((rd_T65 l0_1 x4_2).f1) ((rd_T65 l0_1 x4_2).f2) ((rd_T65 l0_1 x4_2).f3) ((rd_T65 l0_1 x4_2).f4))) else (spec_RollOk.j2 k2 x3_2 x4_2 true a0_0 l0_1 a0_2 l0_3 ((rd_T65 l0_1 x4_2).f0) ((rd_T65 l0_1 x4_2).f1) ((rd_T65 l0_1 x4_2).f2) ((rd_T65 l0_1 x4_2).f3) ((rd_T65 l0_1 x4_2).f4))))) = some r := by rw [if_pos rfl] at H; exact H
          clear H; have H := H1; clear H1
          by_cases c23 : x4_2 > 0
          ·rw [if_pos c23] at H
           have c23b0 : decide (0 < x4_2) = true := decide_eq_true c23; clear c23
           (first | rw [c23b0] | (simp only [i64_w, i32_w]; rw [c23b0]) | skip)
           obtain ⟨ji24, hji24⟩ : ∃ j_ : Int, (wrap64 (x4_2 - 1)) = j_ := ⟨_, rfl⟩
           replace H : (if 0 ≤ (ji24) then (if (ji24) < (l0_1.length : Int) then (if ((rd_T65 l0_1 (ji24)).f0) ≥ ((rd_T65 l0_1 x4_2).f0) then (spec_RollOk.j2 k2 x3_2 x4_2 true a0_0 l0_1 a0_2 l0_3 ((rd_T65 l0_1 x4_2).f0) ((rd_T65 l0_1 x4_2).f1) ((rd_T65 l0_1 x4_2).f2) ((rd_T65 l0_1 x4_2).f3) ((rd_T65 l0_1 x4_2).f4)) else ((spec_l1In.f ((rd_T65 l0_1 x4_2).f1) 0 1000).bind fun t133 => (if t133 = true then (if (((rd_T65 l0_1 x4_2).f2).size : Int) = 32 then (if (((rd_T65 l0_1 x4_2).f3).length : Int) > a0_0 then (spec_RollOk.j2 k2 x3_2 x4_2 true a0_0 l0_1 a0_2 l0_3 ((rd_T65 l0_1 x4_2).f0) ((rd_T65 l0_1 x4_2).f1) ((rd_T65 l0_1 x4_2).f2) ((rd_T65 l0_1 x4_2).f3) ((rd_T65 l0_1 x4_2).f4)) else ((spec_l7Nodes.f k2 ((rd_T65 l0_1 x4_2).f3) a0_0).bind fun t134 => (if t134 = true then ((spec_l1In.f ((rd_T65 l0_1 x4_2).f4) 1 3).bind fun t135 => (spec_RollOk.j2 k2 x3_2 x4_2 (!t135) a0_0 l0_1 a0_2 l0_3 ((rd_T65 l0_1 x4_2).f0) ((rd_T65 l0_1 x4_2).f1) ((rd_T65 l0_1 x4_2).f2) ((rd_T65 l0_1 x4_2).f3) ((rd_T65 l0_1 x4_2).f4))) else (spec_RollOk.j2 k2 x3_2 x4_2 true a0_0 l0_1 a0_2 l0_3 ((rd_T65 l0_1 x4_2).f0) ((rd_T65 l0_1 x4_2).f1) ((rd_T65 l0_1 x4_2).f2) ((rd_T65 l0_1 x4_2).f3) ((rd_T65 l0_1 x4_2).f4))))) else (spec_RollOk.j2 k2 x3_2 x4_2 true a0_0 l0_1 a0_2 l0_3 ((rd_T65 l0_1 x4_2).f0) ((rd_T65 l0_1 x4_2).f1) ((rd_T65 l0_1 x4_2).f2) ((rd_T65 l0_1 x4_2).f3) ((rd_T65 l0_1 x4_2).f4))) else (spec_RollOk.j2 k2 x3_2 x4_2 true a0_0 l0_1 a0_2 l0_3 ((rd_T65 l0_1 x4_2).f0) ((rd_T65 l0_1 x4_2).f1) ((rd_T65 l0_1 x4_2).f2) ((rd_T65 l0_1 x4_2).f3) ((rd_T65 l0_1 x4_2).f4))))) else (none)) else (none)) = some r := by first | (rw [hji24] at H; exact H) | (simp only [hji24] at H ⊢; exact H)
           (try rw [hji24] at A21)
           have hji24w : (IntKind.i64.wrap (x4_2 - 1)) = ji24 := (i64_w _).trans hji24
           by_cases c25 : 0 ≤ (ji24)
           ·rw [if_pos c25] at H
            have c25b0 : decide (0 ≤ (ji24)) = true := decide_eq_true c25; clear c25
            by_cases c26 : (ji24) < (l0_1.length : Int)
            ·rw [if_pos c26] at H
             have c26b0 : decide ((ji24) < (l0_1.length : Int)) = true := decide_eq_true c26; clear c26
             by_cases c27 : ((rd_T65 l0_1 (ji24)).f0) ≥ ((rd_T65 l0_1 x4_2).f0)
             ·as_aux_lemma =>
              rw [if_pos c27] at H
              have c27b0 : decide (((rd_T65 l0_1 x4_2).f0) ≤ ((rd_T65 l0_1 (ji24)).f0)) = true := decide_eq_true c27; clear c27
              have H' := aM H
              clear H
              try go_wp2
              replace HO_3 := aM (Kd.R_drew HO_3.out); replace BK124 := aM (blk_drew BK124.out); replace BK130 := aM (blk_drew BK130.out); replace HB := aM (below_drew1 HB.out); have p132 : 0 ≤ ((ji24) : Int) := oda; have q132 : (ji24) < (l0_1.length : Int) := oda
              obtain ⟨ad132, A132_3, c132_3, e132, hx132_0, hx132_1, hx132_2, hx132_3, hx132_4, hl132_3, hi132_3⟩ := at_T65 HR0_1.out (ji24) p132 q132
              have hw132_4 := hx132_4; have hw132_3 := hx132_3; have hw132_2 := hx132_2; have hw132_1 := hx132_1; have hw132_0 := hx132_0
              obtain rfl : ad129 = ad132 := (by injection e132)
              replace hx132_0 := xce HB hx132_0; replace hx132_1 := xce HB hx132_1; replace hx132_2 := xce HB hx132_2; replace hx132_3 := xce HB hx132_3; replace hx132_4 := xce HB hx132_4; have HR132_3 := aM hi132_3; have HC132_3 := aM hl132_3; clear hi132_3 hl132_3; replace p132 := eq_true p132; replace q132 := eq_true q132
              refine start_ (n := 54) (S := fun w' => w'.cell? ⟨gb130, 0, none⟩ = some (.int .i64 ((rd_T65 l0_1 x4_2).f0)) ∧ w'.cell? ⟨gb130, 1, none⟩ = some (.int .i64 ((rd_T65 l0_1 x4_2).f1)) ∧ w'.cell? ⟨gb130, 2, none⟩ = some (.string ((rd_T65 l0_1 x4_2).f2)) ∧ w'.cell? ⟨gb130, 3, none⟩ = some (.slice A129_3 ((rd_T65 l0_1 x4_2).f3).length c129_3) ∧ w'.cell? ⟨gb130, 4, none⟩ = some (.int .i64 ((rd_T65 l0_1 x4_2).f4)) ∧ w'.cell? ⟨gb124, 0, none⟩ = some (.int .i64 a0_0) ∧ w'.cell? ⟨gb124, 1, none⟩ = some (.slice (some ad129) l0_1.length c0_1) ∧ w'.cell? ⟨gb124, 2, none⟩ = some (.int .i64 a0_2) ∧ w'.cell? ⟨gb124, 3, none⟩ = some (.slice A0_3 l0_3.length c0_3) ∧ w'.cell? (ad129.add (((ji24)).toNat * 5)) = some (.int .i64 ((rd_T65 l0_1 (ji24)).f0)) ∧ w'.cell? ⟨(ad129.add (((ji24)).toNat * 5)).block, (ad129.add (((ji24)).toNat * 5)).off + 1, none⟩ = some (.int .i64 ((rd_T65 l0_1 (ji24)).f1)) ∧ w'.cell? ⟨(ad129.add (((ji24)).toNat * 5)).block, (ad129.add (((ji24)).toNat * 5)).off + 2, none⟩ = some (.string ((rd_T65 l0_1 (ji24)).f2)) ∧ w'.cell? ⟨(ad129.add (((ji24)).toNat * 5)).block, (ad129.add (((ji24)).toNat * 5)).off + 3, none⟩ = some (.slice A132_3 ((rd_T65 l0_1 (ji24)).f3).length c132_3) ∧ w'.cell? ⟨(ad129.add (((ji24)).toNat * 5)).block, (ad129.add (((ji24)).toNat * 5)).off + 4, none⟩ = some (.int .i64 ((rd_T65 l0_1 (ji24)).f4))) (ds := []) #[false, false, false, false, false, false, false, false, false, false, false, false, false, false, false, false, false, false, false, false, false, false, false, false, false, false, false, false, false, false, false, false, false, false, false, false, false, false, false, false, false, false, false, false, false, false, false, false, false, false, false, false, false, false] (by kernel_rfl) rfl rfl ⟨xc BK130 0 rfl, xc BK130 1 rfl, xc BK130 2 rfl, xc BK130 3 rfl, xc BK130 4 rfl, xc BK124 0 rfl, xc BK124 1 rfl, xc BK124 2 rfl, xc BK124 3 rfl, (xce HB hw132_0), (xce HB hw132_1), (xce HB hw132_2), (xce HB hw132_3), (xce HB hw132_4)⟩ (fun hHeld => ?_); refine with_tabW spec_RollOk.tab8 spec_RollOk.bits8 (fun HT_ HW_ => ?_)
              generalize w20.drew = w28 at HO_3 BK124 BK130 HB HR132_3 hx132_0 hx132_1 hx132_2 hx132_3 hx132_4 hHeld ⊢
              refine pv_ 0 37 (h := ?_)
              refine tk_ 1 38 (h := ?_)
              refine on_ 2 39 (h := fun K hK => ?_)
              refine goesY Try.func92 #[.int .i64 ((rd_T65 l0_1 x4_2).f0), .int .i64 1, .int .i64 1000] ?_
              with_reducible refine (spec_l1In.calls ((rd_T65 l0_1 x4_2).f0) 1 1000 true _ A21.out).mono ?_
              rintro e w' ⟨rfl, ⟨nd, rfl⟩⟩
              refine ⟨_, rfl, ?_⟩
              refine hK.out _ _ ⟨xc BK130 0 rfl, xc BK130 1 rfl, xc BK130 2 rfl, xc BK130 3 rfl, xc BK130 4 rfl, xc BK124 0 rfl, xc BK124 1 rfl, xc BK124 2 rfl, xc BK124 3 rfl, (xce HB hw132_0), (xce HB hw132_1), (xce HB hw132_2), (xce HB hw132_3), (xce HB hw132_4)⟩ (fun hHeld => ?_)
              clear hK K
              refine norm_ (a' := ?_) ?_ ?_
              rotate_left
              ·show Act.put _ (some 39) _ = _
               simp only [Act.put, List.setIfInBounds_toArray, List.set_cons_zero, List.set_cons_succ, i64_w, i32_w]
               rfl
              refine pv_ 3 40 (h := ?_)
              refine pv_ 4 41 (h := ?_)
              refine pv_ 5 42 (h := ?_)
              refine pv_ 6 43 (h := ?_)
              refine pv_ 7 44 (h := ?_)
              refine pv_ 8 45 (h := ?_)
              refine pv_ 10 47 (h := ?_)
              refine pv_ 11 48 (h := ?_)
              refine pv_ 15 52 (h := ?_)
              refine tk_ 9 46 (h := ?_)
              refine pv_ 12 49 (h := ?_)
              refine pv_ 13 50 (h := ?_)
              refine tk_ 14 51 (h := ?_)
              refine tk_ 16 53 (h := ?_)
              refine pv_ 17 54 (h := ?_)
              refine pv_ 18 55 (h := ?_)
              refine pv_ 19 56 (h := ?_)
              refine pv_ 20 57 (h := ?_)
              refine pu_ 21 58 (h := ?_)
              refine pu_ 22 59 (h := ?_)
              refine pu_ 23 60 (h := ?_)
              refine pu_ 24 61 (h := ?_)
              refine pv_ 25 62 (h := ?_)
              refine pv_ 26 63 (h := ?_)
              refine pu_ 27 64 (h := ?_)
              refine pu_ 28 65 (h := ?_)
              refine pu_ 29 66 (h := ?_)
              refine pu_ 30 67 (h := ?_)
              refine pv_ 31 68 (h := ?_)
              refine pv_ 32 69 (h := ?_)
              refine pu_ 33 70 (h := ?_)
              refine pu_ 34 71 (h := ?_)
              refine pu_ 35 72 (h := ?_)
              refine pu_ 36 73 (h := ?_)
              refine pu_ 37 74 (h := ?_)
              refine pu_ 38 75 (h := ?_)
              refine pv_ 39 76 (h := ?_)
              refine pv_ 40 77 (h := ?_)
              refine pu_ 41 78 (h := ?_)
              refine pu_ 42 79 (h := ?_)
              refine pu_ 43 80 (h := ?_)
              refine pu_ 44 81 (h := ?_)
              refine pu_ 45 82 (h := ?_)
              refine pu_ 46 83 (h := ?_)
              refine pv_ 47 84 (h := ?_)
              refine pv_ 48 85 (h := ?_)
              refine pu_ 49 86 (h := ?_)
              refine pu_ 50 87 (h := ?_)
              refine pu_ 51 88 (h := ?_)
              refine pu_ 52 89 (h := ?_)
              refine pv_ 53 90 (h := ?_)
              refine done_ (done_of HT_.out (by kernel_rfl)) ?_
              try go_wp2
              go_meet
              case rel => exact ⟨_, (true), (by first | rfl | (simp; done) | (simp [*]; done)), H', ⟨by have := HJ1.out; have := HK2.out; first | omega | exact Nat.le_refl _⟩, ⟨by (with_reducible repeat (first | apply Kd.R_alloc | apply Kd.R_drewN | apply Kd.R_drew)); exact HO_3.out⟩, ⟨xblk⟩, ⟨xblk⟩, ⟨xbg⟩⟩
             ·rw [if_neg c27] at H
              have c27b0 : decide (((rd_T65 l0_1 x4_2).f0) ≤ ((rd_T65 l0_1 (ji24)).f0)) = false := decide_eq_false c27; clear c27; replace H := Option.bind_eq_some_iff.mp H
              obtain ⟨t133, A290, H⟩ := H
              replace H : (if t133 = true then (if (((rd_T65 l0_1 x4_2).f2).size : Int) = 32 then (if (((rd_T65 l0_1 x4_2).f3).length : Int) > a0_0 then (spec_RollOk.j2 k2 x3_2 x4_2 true a0_0 l0_1 a0_2 l0_3 ((rd_T65 l0_1 x4_2).f0) ((rd_T65 l0_1 x4_2).f1) ((rd_T65 l0_1 x4_2).f2) ((rd_T65 l0_1 x4_2).f3) ((rd_T65 l0_1 x4_2).f4)) else ((spec_l7Nodes.f k2 ((rd_T65 l0_1 x4_2).f3) a0_0).bind fun t134 => (if t134 = true then ((spec_l1In.f ((rd_T65 l0_1 x4_2).f4) 1 3).bind fun t135 => (spec_RollOk.j2 k2 x3_2 x4_2 (!t135) a0_0 l0_1 a0_2 l0_3 ((rd_T65 l0_1 x4_2).f0) ((rd_T65 l0_1 x4_2).f1) ((rd_T65 l0_1 x4_2).f2) ((rd_T65 l0_1 x4_2).f3) ((rd_T65 l0_1 x4_2).f4))) else (spec_RollOk.j2 k2 x3_2 x4_2 true a0_0 l0_1 a0_2 l0_3 ((rd_T65 l0_1 x4_2).f0) ((rd_T65 l0_1 x4_2).f1) ((rd_T65 l0_1 x4_2).f2) ((rd_T65 l0_1 x4_2).f3) ((rd_T65 l0_1 x4_2).f4))))) else (spec_RollOk.j2 k2 x3_2 x4_2 true a0_0 l0_1 a0_2 l0_3 ((rd_T65 l0_1 x4_2).f0) ((rd_T65 l0_1 x4_2).f1) ((rd_T65 l0_1 x4_2).f2) ((rd_T65 l0_1 x4_2).f3) ((rd_T65 l0_1 x4_2).f4))) else (spec_RollOk.j2 k2 x3_2 x4_2 true a0_0 l0_1 a0_2 l0_3 ((rd_T65 l0_1 x4_2).f0) ((rd_T65 l0_1 x4_2).f1) ((rd_T65 l0_1 x4_2).f2) ((rd_T65 l0_1 x4_2).f3) ((rd_T65 l0_1 x4_2).f4))) = some r := H; have A29 := aM A290; clear A290
              by_cases c30 : t133 = true
              ·subst c30
               have H1 : (if (((rd_T65 l0_1 x4_2).f2).size : Int) = 32 then (if (((rd_T65 l0_1 x4_2).f3).length : Int) > a0_0 then (spec_RollOk.j2 k2 x3_2 x4_2 true a0_0 l0_1 a0_2 l0_3 ((rd_T65 l0_1 x4_2).f0) ((rd_T65 l0_1 x4_2).f1) ((rd_T65 l0_1 x4_2).f2) ((rd_T65 l0_1 x4_2).f3) ((rd_T65 l0_1 x4_2).f4)) else ((spec_l7Nodes.f k2 ((rd_T65 l0_1 x4_2).f3) a0_0).bind fun t134 => (if t134 = true then ((spec_l1In.f ((rd_T65 l0_1 x4_2).f4) 1 3).bind fun t135 => (spec_RollOk.j2 k2 x3_2 x4_2 (!t135) a0_0 l0_1 a0_2 l0_3 ((rd_T65 l0_1 x4_2).f0) ((rd_T65 l0_1 x4_2).f1) ((rd_T65 l0_1 x4_2).f2) ((rd_T65 l0_1 x4_2).f3) ((rd_T65 l0_1 x4_2).f4))) else (spec_RollOk.j2 k2 x3_2 x4_2 true a0_0 l0_1 a0_2 l0_3 ((rd_T65 l0_1 x4_2).f0) ((rd_T65 l0_1 x4_2).f1) ((rd_T65 l0_1 x4_2).f2) ((rd_T65 l0_1 x4_2).f3) ((rd_T65 l0_1 x4_2).f4))))) else (spec_RollOk.j2 k2 x3_2 x4_2 true a0_0 l0_1 a0_2 l0_3 ((rd_T65 l0_1 x4_2).f0) ((rd_T65 l0_1 x4_2).f1) ((rd_T65 l0_1 x4_2).f2) ((rd_T65 l0_1 x4_2).f3) ((rd_T65 l0_1 x4_2).f4))) = some r := by rw [if_pos rfl] at H; exact H
               clear H; have H := H1; clear H1
               by_cases c31 : (((rd_T65 l0_1 x4_2).f2).size : Int) = 32
               ·as_aux_lemma =>
                rw [if_pos c31] at H
                have c31b0 : ((((rd_T65 l0_1 x4_2).f2).size : Int) == 32) = true := beq_iff_eq.mpr c31; have c31b1 : ((((rd_T65 l0_1 x4_2).f2).size : Int) != 32) = false := bne_eq_false_iff_eq.mpr c31; clear c31
                by_cases c32 : (((rd_T65 l0_1 x4_2).f3).length : Int) > a0_0
                ·as_aux_lemma =>
                 rw [if_pos c32] at H
                 have c32b0 : decide (a0_0 < (((rd_T65 l0_1 x4_2).f3).length : Int)) = true := decide_eq_true c32; clear c32
                 have H' := aM H
                 clear H
                 try go_wp2
                 replace HO_3 := aM (Kd.R_drew HO_3.out); replace BK124 := aM (blk_drew BK124.out); replace BK130 := aM (blk_drew BK130.out); replace HB := aM (below_drew1 HB.out); have p132 : 0 ≤ ((ji24) : Int) := oda; have q132 : (ji24) < (l0_1.length : Int) := oda
                 obtain ⟨ad132, A132_3, c132_3, e132, hx132_0, hx132_1, hx132_2, hx132_3, hx132_4, hl132_3, hi132_3⟩ := at_T65 HR0_1.out (ji24) p132 q132
                 have hw132_4 := hx132_4; have hw132_3 := hx132_3; have hw132_2 := hx132_2; have hw132_1 := hx132_1; have hw132_0 := hx132_0
                 obtain rfl : ad129 = ad132 := (by injection e132)
                 replace hx132_0 := xce HB hx132_0; replace hx132_1 := xce HB hx132_1; replace hx132_2 := xce HB hx132_2; replace hx132_3 := xce HB hx132_3; replace hx132_4 := xce HB hx132_4; have HR132_3 := aM hi132_3; have HC132_3 := aM hl132_3; clear hi132_3 hl132_3; replace p132 := eq_true p132; replace q132 := eq_true q132
                 refine start_ (n := 54) (S := fun w' => w'.cell? ⟨gb130, 0, none⟩ = some (.int .i64 ((rd_T65 l0_1 x4_2).f0)) ∧ w'.cell? ⟨gb130, 1, none⟩ = some (.int .i64 ((rd_T65 l0_1 x4_2).f1)) ∧ w'.cell? ⟨gb130, 2, none⟩ = some (.string ((rd_T65 l0_1 x4_2).f2)) ∧ w'.cell? ⟨gb130, 3, none⟩ = some (.slice A129_3 ((rd_T65 l0_1 x4_2).f3).length c129_3) ∧ w'.cell? ⟨gb130, 4, none⟩ = some (.int .i64 ((rd_T65 l0_1 x4_2).f4)) ∧ w'.cell? ⟨gb124, 0, none⟩ = some (.int .i64 a0_0) ∧ w'.cell? ⟨gb124, 1, none⟩ = some (.slice (some ad129) l0_1.length c0_1) ∧ w'.cell? ⟨gb124, 2, none⟩ = some (.int .i64 a0_2) ∧ w'.cell? ⟨gb124, 3, none⟩ = some (.slice A0_3 l0_3.length c0_3) ∧ w'.cell? (ad129.add (((ji24)).toNat * 5)) = some (.int .i64 ((rd_T65 l0_1 (ji24)).f0)) ∧ w'.cell? ⟨(ad129.add (((ji24)).toNat * 5)).block, (ad129.add (((ji24)).toNat * 5)).off + 1, none⟩ = some (.int .i64 ((rd_T65 l0_1 (ji24)).f1)) ∧ w'.cell? ⟨(ad129.add (((ji24)).toNat * 5)).block, (ad129.add (((ji24)).toNat * 5)).off + 2, none⟩ = some (.string ((rd_T65 l0_1 (ji24)).f2)) ∧ w'.cell? ⟨(ad129.add (((ji24)).toNat * 5)).block, (ad129.add (((ji24)).toNat * 5)).off + 3, none⟩ = some (.slice A132_3 ((rd_T65 l0_1 (ji24)).f3).length c132_3) ∧ w'.cell? ⟨(ad129.add (((ji24)).toNat * 5)).block, (ad129.add (((ji24)).toNat * 5)).off + 4, none⟩ = some (.int .i64 ((rd_T65 l0_1 (ji24)).f4))) (ds := []) #[false, false, false, false, false, false, false, false, false, false, false, false, false, false, false, false, false, false, false, false, false, false, false, false, false, false, false, false, false, false, false, false, false, false, false, false, false, false, false, false, false, false, false, false, false, false, false, false, false, false, false, false, false, false] (by kernel_rfl) rfl rfl ⟨xc BK130 0 rfl, xc BK130 1 rfl, xc BK130 2 rfl, xc BK130 3 rfl, xc BK130 4 rfl, xc BK124 0 rfl, xc BK124 1 rfl, xc BK124 2 rfl, xc BK124 3 rfl, (xce HB hw132_0), (xce HB hw132_1), (xce HB hw132_2), (xce HB hw132_3), (xce HB hw132_4)⟩ (fun hHeld => ?_); refine with_tabW spec_RollOk.tab8 spec_RollOk.bits8 (fun HT_ HW_ => ?_)
                 generalize w20.drew = w33 at HO_3 BK124 BK130 HB HR132_3 hx132_0 hx132_1 hx132_2 hx132_3 hx132_4 hHeld ⊢
                 refine pv_ 0 37 (h := ?_)
                 refine tk_ 1 38 (h := ?_)
                 refine on_ 2 39 (h := fun K hK => ?_)
                 refine goesY Try.func92 #[.int .i64 ((rd_T65 l0_1 x4_2).f0), .int .i64 1, .int .i64 1000] ?_
                 with_reducible refine (spec_l1In.calls ((rd_T65 l0_1 x4_2).f0) 1 1000 true _ A21.out).mono ?_
                 rintro e w' ⟨rfl, ⟨nd, rfl⟩⟩
                 refine ⟨_, rfl, ?_⟩
                 refine hK.out _ _ ⟨xc BK130 0 rfl, xc BK130 1 rfl, xc BK130 2 rfl, xc BK130 3 rfl, xc BK130 4 rfl, xc BK124 0 rfl, xc BK124 1 rfl, xc BK124 2 rfl, xc BK124 3 rfl, (xce HB hw132_0), (xce HB hw132_1), (xce HB hw132_2), (xce HB hw132_3), (xce HB hw132_4)⟩ (fun hHeld => ?_)
                 clear hK K
                 refine norm_ (a' := ?_) ?_ ?_
                 rotate_left
                 ·show Act.put _ (some 39) _ = _
                  simp only [Act.put, List.setIfInBounds_toArray, List.set_cons_zero, List.set_cons_succ, i64_w, i32_w]
                  rfl
                 refine pv_ 3 40 (h := ?_)
                 refine pv_ 4 41 (h := ?_)
                 refine pv_ 5 42 (h := ?_)
                 refine pv_ 6 43 (h := ?_)
                 refine pv_ 7 44 (h := ?_)
                 refine pv_ 8 45 (h := ?_)
                 refine pv_ 10 47 (h := ?_)
                 refine pv_ 11 48 (h := ?_)
                 refine pv_ 15 52 (h := ?_)
                 refine tk_ 9 46 (h := ?_)
                 refine pv_ 12 49 (h := ?_)
                 refine pv_ 13 50 (h := ?_)
                 refine tk_ 14 51 (h := ?_)
                 refine tk_ 16 53 (h := ?_)
                 refine pv_ 17 54 (h := ?_)
                 refine pv_ 18 55 (h := ?_)
                 refine pv_ 19 56 (h := ?_)
                 refine pv_ 20 57 (h := ?_)
                 refine pv_ 21 58 (h := ?_)
                 refine tk_ 22 59 (h := ?_)
                 refine on_ 23 60 (h := fun K hK => ?_)
                 refine goesY Try.func92 #[.int .i64 ((rd_T65 l0_1 x4_2).f1), .int .i64 0, .int .i64 1000] ?_
                 with_reducible refine (spec_l1In.calls ((rd_T65 l0_1 x4_2).f1) 0 1000 true _ A29.out).mono ?_
                 rintro e w' ⟨rfl, ⟨nd, rfl⟩⟩
                 refine ⟨_, rfl, ?_⟩
                 refine hK.out _ _ ⟨xc BK130 0 rfl, xc BK130 1 rfl, xc BK130 2 rfl, xc BK130 3 rfl, xc BK130 4 rfl, xc BK124 0 rfl, xc BK124 1 rfl, xc BK124 2 rfl, xc BK124 3 rfl, (xce HB hw132_0), (xce HB hw132_1), (xce HB hw132_2), (xce HB hw132_3), (xce HB hw132_4)⟩ (fun hHeld => ?_)
                 clear hK K
                 refine norm_ (a' := ?_) ?_ ?_
                 rotate_left
                 ·show Act.put _ (some 60) _ = _
                  simp only [Act.put, List.setIfInBounds_toArray, List.set_cons_zero, List.set_cons_succ, i64_w, i32_w]
                  rfl
                 refine pv_ 24 61 (h := ?_)
                 refine pv_ 25 62 (h := ?_)
                 refine pv_ 26 63 (h := ?_)
                 refine pv_ 27 64 (h := ?_)
                 refine tk_ 28 65 (h := ?_)
                 refine pv_ 29 66 (h := ?_)
                 refine pv_ 30 67 (h := ?_)
                 refine pv_ 31 68 (h := ?_)
                 refine pv_ 32 69 (h := ?_)
                 refine pv_ 33 70 (h := ?_)
                 refine pv_ 36 73 (h := ?_)
                 refine tk_ 34 71 (h := ?_)
                 refine pv_ 35 72 (h := ?_)
                 refine tk_ 37 74 (h := ?_)
                 refine pv_ 38 75 (h := ?_)
                 refine pv_ 39 76 (h := ?_)
                 refine pv_ 40 77 (h := ?_)
                 refine pu_ 41 78 (h := ?_)
                 refine pu_ 42 79 (h := ?_)
                 refine pu_ 43 80 (h := ?_)
                 refine pu_ 44 81 (h := ?_)
                 refine pu_ 45 82 (h := ?_)
                 refine pu_ 46 83 (h := ?_)
                 refine pv_ 47 84 (h := ?_)
                 refine pv_ 48 85 (h := ?_)
                 refine pu_ 49 86 (h := ?_)
                 refine pu_ 50 87 (h := ?_)
                 refine pu_ 51 88 (h := ?_)
                 refine pu_ 52 89 (h := ?_)
                 refine pv_ 53 90 (h := ?_)
                 refine done_ (done_of HT_.out (by kernel_rfl)) ?_
                 try go_wp2
                 go_meet
                 case rel => exact ⟨_, (true), (by first | rfl | (simp; done) | (simp [*]; done)), H', ⟨by have := HJ1.out; have := HK2.out; first | omega | exact Nat.le_refl _⟩, ⟨by (with_reducible repeat (first | apply Kd.R_alloc | apply Kd.R_drewN | apply Kd.R_drew)); exact HO_3.out⟩, ⟨xblk⟩, ⟨xblk⟩, ⟨xbg⟩⟩
                ·rw [if_neg c32] at H
                 have c32b0 : decide (a0_0 < (((rd_T65 l0_1 x4_2).f3).length : Int)) = false := decide_eq_false c32; clear c32; replace H := Option.bind_eq_some_iff.mp H
                 obtain ⟨t134, A340, H⟩ := H
                 replace H : (if t134 = true then ((spec_l1In.f ((rd_T65 l0_1 x4_2).f4) 1 3).bind fun t135 => (spec_RollOk.j2 k2 x3_2 x4_2 (!t135) a0_0 l0_1 a0_2 l0_3 ((rd_T65 l0_1 x4_2).f0) ((rd_T65 l0_1 x4_2).f1) ((rd_T65 l0_1 x4_2).f2) ((rd_T65 l0_1 x4_2).f3) ((rd_T65 l0_1 x4_2).f4))) else (spec_RollOk.j2 k2 x3_2 x4_2 true a0_0 l0_1 a0_2 l0_3 ((rd_T65 l0_1 x4_2).f0) ((rd_T65 l0_1 x4_2).f1) ((rd_T65 l0_1 x4_2).f2) ((rd_T65 l0_1 x4_2).f3) ((rd_T65 l0_1 x4_2).f4))) = some r := H; have A34 := aM A340; clear A340
                 by_cases c35 : t134 = true
                 ·subst c35
                  have H1 : ((spec_l1In.f ((rd_T65 l0_1 x4_2).f4) 1 3).bind fun t135 => (spec_RollOk.j2 k2 x3_2 x4_2 (!t135) a0_0 l0_1 a0_2 l0_3 ((rd_T65 l0_1 x4_2).f0) ((rd_T65 l0_1 x4_2).f1) ((rd_T65 l0_1 x4_2).f2) ((rd_T65 l0_1 x4_2).f3) ((rd_T65 l0_1 x4_2).f4))) = some r := by rw [if_pos rfl] at H; exact H
                  clear H; have H := H1; clear H1; replace H := Option.bind_eq_some_iff.mp H
                  obtain ⟨t135, A360, H⟩ := H
                  replace H : (spec_RollOk.j2 k2 x3_2 x4_2 (!t135) a0_0 l0_1 a0_2 l0_3 ((rd_T65 l0_1 x4_2).f0) ((rd_T65 l0_1 x4_2).f1) ((rd_T65 l0_1 x4_2).f2) ((rd_T65 l0_1 x4_2).f3) ((rd_T65 l0_1 x4_2).f4)) = some r := H; have A36 := aM A360; clear A360
                  have H' := aM H
                  clear H
                  try go_wp2
                  replace HO_3 := aM (Kd.R_drew HO_3.out); replace BK124 := aM (blk_drew BK124.out); replace BK130 := aM (blk_drew BK130.out); replace HB := aM (below_drew1 HB.out); have p132 : 0 ≤ ((ji24) : Int) := oda; have q132 : (ji24) < (l0_1.length : Int) := oda
                  obtain ⟨ad132, A132_3, c132_3, e132, hx132_0, hx132_1, hx132_2, hx132_3, hx132_4, hl132_3, hi132_3⟩ := at_T65 HR0_1.out (ji24) p132 q132
                  have hw132_4 := hx132_4; have hw132_3 := hx132_3; have hw132_2 := hx132_2; have hw132_1 := hx132_1; have hw132_0 := hx132_0
                  obtain rfl : ad129 = ad132 := (by injection e132)
                  replace hx132_0 := xce HB hx132_0; replace hx132_1 := xce HB hx132_1; replace hx132_2 := xce HB hx132_2; replace hx132_3 := xce HB hx132_3; replace hx132_4 := xce HB hx132_4; have HR132_3 := aM hi132_3; have HC132_3 := aM hl132_3; clear hi132_3 hl132_3; replace p132 := eq_true p132; replace q132 := eq_true q132
                  refine start_ (n := 54) (S := fun w' => w'.cell? ⟨gb130, 0, none⟩ = some (.int .i64 ((rd_T65 l0_1 x4_2).f0)) ∧ w'.cell? ⟨gb130, 1, none⟩ = some (.int .i64 ((rd_T65 l0_1 x4_2).f1)) ∧ w'.cell? ⟨gb130, 2, none⟩ = some (.string ((rd_T65 l0_1 x4_2).f2)) ∧ w'.cell? ⟨gb130, 3, none⟩ = some (.slice A129_3 ((rd_T65 l0_1 x4_2).f3).length c129_3) ∧ w'.cell? ⟨gb130, 4, none⟩ = some (.int .i64 ((rd_T65 l0_1 x4_2).f4)) ∧ w'.cell? ⟨gb124, 0, none⟩ = some (.int .i64 a0_0) ∧ w'.cell? ⟨gb124, 1, none⟩ = some (.slice (some ad129) l0_1.length c0_1) ∧ w'.cell? ⟨gb124, 2, none⟩ = some (.int .i64 a0_2) ∧ w'.cell? ⟨gb124, 3, none⟩ = some (.slice A0_3 l0_3.length c0_3) ∧ w'.cell? (ad129.add (((ji24)).toNat * 5)) = some (.int .i64 ((rd_T65 l0_1 (ji24)).f0)) ∧ w'.cell? ⟨(ad129.add (((ji24)).toNat * 5)).block, (ad129.add (((ji24)).toNat * 5)).off + 1, none⟩ = some (.int .i64 ((rd_T65 l0_1 (ji24)).f1)) ∧ w'.cell? ⟨(ad129.add (((ji24)).toNat * 5)).block, (ad129.add (((ji24)).toNat * 5)).off + 2, none⟩ = some (.string ((rd_T65 l0_1 (ji24)).f2)) ∧ w'.cell? ⟨(ad129.add (((ji24)).toNat * 5)).block, (ad129.add (((ji24)).toNat * 5)).off + 3, none⟩ = some (.slice A132_3 ((rd_T65 l0_1 (ji24)).f3).length c132_3) ∧ w'.cell? ⟨(ad129.add (((ji24)).toNat * 5)).block, (ad129.add (((ji24)).toNat * 5)).off + 4, none⟩ = some (.int .i64 ((rd_T65 l0_1 (ji24)).f4))) (ds := []) #[false, false, false, false, false, false, false, false, false, false, false, false, false, false, false, false, false, false, false, false, false, false, false, false, false, false, false, false, false, false, false, false, false, false, false, false, false, false, false, false, false, false, false, false, false, false, false, false, false, false, false, false, false, false] (by kernel_rfl) rfl rfl ⟨xc BK130 0 rfl, xc BK130 1 rfl, xc BK130 2 rfl, xc BK130 3 rfl, xc BK130 4 rfl, xc BK124 0 rfl, xc BK124 1 rfl, xc BK124 2 rfl, xc BK124 3 rfl, (xce HB hw132_0), (xce HB hw132_1), (xce HB hw132_2), (xce HB hw132_3), (xce HB hw132_4)⟩ (fun hHeld => ?_); refine with_tabW spec_RollOk.tab8 spec_RollOk.bits8 (fun HT_ HW_ => ?_)
                  generalize w20.drew = w37 at HO_3 BK124 BK130 HB HR132_3 hx132_0 hx132_1 hx132_2 hx132_3 hx132_4 hHeld ⊢
                  refine pv_ 0 37 (h := ?_)
                  refine tk_ 1 38 (h := ?_)
                  refine on_ 2 39 (h := fun K hK => ?_)
                  refine goesY Try.func92 #[.int .i64 ((rd_T65 l0_1 x4_2).f0), .int .i64 1, .int .i64 1000] ?_
                  with_reducible refine (spec_l1In.calls ((rd_T65 l0_1 x4_2).f0) 1 1000 true _ A21.out).mono ?_
                  rintro e w' ⟨rfl, ⟨nd, rfl⟩⟩
                  refine ⟨_, rfl, ?_⟩
                  refine hK.out _ _ ⟨xc BK130 0 rfl, xc BK130 1 rfl, xc BK130 2 rfl, xc BK130 3 rfl, xc BK130 4 rfl, xc BK124 0 rfl, xc BK124 1 rfl, xc BK124 2 rfl, xc BK124 3 rfl, (xce HB hw132_0), (xce HB hw132_1), (xce HB hw132_2), (xce HB hw132_3), (xce HB hw132_4)⟩ (fun hHeld => ?_)
                  clear hK K
                  refine norm_ (a' := ?_) ?_ ?_
                  rotate_left
                  ·show Act.put _ (some 39) _ = _
                   simp only [Act.put, List.setIfInBounds_toArray, List.set_cons_zero, List.set_cons_succ, i64_w, i32_w]
                   rfl
                  refine pv_ 3 40 (h := ?_)
                  refine pv_ 4 41 (h := ?_)
                  refine pv_ 5 42 (h := ?_)
                  refine pv_ 6 43 (h := ?_)
                  refine pv_ 7 44 (h := ?_)
                  refine pv_ 8 45 (h := ?_)
                  refine pv_ 10 47 (h := ?_)
                  refine pv_ 11 48 (h := ?_)
                  refine pv_ 15 52 (h := ?_)
                  refine tk_ 9 46 (h := ?_)
                  refine pv_ 12 49 (h := ?_)
                  refine pv_ 13 50 (h := ?_)
                  refine tk_ 14 51 (h := ?_)
                  refine tk_ 16 53 (h := ?_)
                  refine pv_ 17 54 (h := ?_)
                  refine pv_ 18 55 (h := ?_)
                  refine pv_ 19 56 (h := ?_)
                  refine pv_ 20 57 (h := ?_)
                  refine pv_ 21 58 (h := ?_)
                  refine tk_ 22 59 (h := ?_)
                  refine on_ 23 60 (h := fun K hK => ?_)
                  refine goesY Try.func92 #[.int .i64 ((rd_T65 l0_1 x4_2).f1), .int .i64 0, .int .i64 1000] ?_
                  with_reducible refine (spec_l1In.calls ((rd_T65 l0_1 x4_2).f1) 0 1000 true _ A29.out).mono ?_
                  rintro e w' ⟨rfl, ⟨nd, rfl⟩⟩
                  refine ⟨_, rfl, ?_⟩
                  refine hK.out _ _ ⟨xc BK130 0 rfl, xc BK130 1 rfl, xc BK130 2 rfl, xc BK130 3 rfl, xc BK130 4 rfl, xc BK124 0 rfl, xc BK124 1 rfl, xc BK124 2 rfl, xc BK124 3 rfl, (xce HB hw132_0), (xce HB hw132_1), (xce HB hw132_2), (xce HB hw132_3), (xce HB hw132_4)⟩ (fun hHeld => ?_)
                  clear hK K
                  refine norm_ (a' := ?_) ?_ ?_
                  rotate_left
                  ·show Act.put _ (some 60) _ = _
                   simp only [Act.put, List.setIfInBounds_toArray, List.set_cons_zero, List.set_cons_succ, i64_w, i32_w]
                   rfl
                  refine pv_ 24 61 (h := ?_)
                  refine pv_ 25 62 (h := ?_)
                  refine pv_ 26 63 (h := ?_)
                  refine pv_ 27 64 (h := ?_)
                  refine tk_ 28 65 (h := ?_)
                  refine pv_ 29 66 (h := ?_)
                  refine pv_ 30 67 (h := ?_)
                  refine pv_ 31 68 (h := ?_)
                  refine pv_ 32 69 (h := ?_)
                  refine pv_ 33 70 (h := ?_)
                  refine pv_ 36 73 (h := ?_)
                  refine tk_ 34 71 (h := ?_)
                  refine pv_ 35 72 (h := ?_)
                  refine tk_ 37 74 (h := ?_)
                  refine pv_ 38 75 (h := ?_)
                  refine pv_ 39 76 (h := ?_)
                  refine pv_ 40 77 (h := ?_)
                  refine pv_ 41 78 (h := ?_)
                  refine pv_ 43 80 (h := ?_)
                  refine tk_ 42 79 (h := ?_)
                  refine tk_ 44 81 (h := ?_)
                  refine on_ 45 82 (h := fun K hK => ?_)
                  refine goesY Try.func93 #[.slice A129_3 ((rd_T65 l0_1 x4_2).f3).length c129_3, .int .i64 a0_0] ?_
                  with_reducible refine (spec_l7Nodes.calls k2 _ _ ((rd_T65 l0_1 x4_2).f3) a0_0 true _ ?side1 ?side2 A34.out).mono ?_
                  (case side1 => repeat (first | exact (Kd.C_below HR129_3.out xbg) | (with_reducible refine Kd.C_alloc ?_ _) | (with_reducible refine Kd.C_drewN ?_ _) | (with_reducible refine Kd.C_drew ?_)))
                  (case side2 => exact HC129_3.out)
                  rintro e w' ⟨rfl, ⟨nd, rfl⟩⟩
                  refine ⟨_, rfl, ?_⟩
                  refine hK.out _ _ ⟨xc BK130 0 rfl, xc BK130 1 rfl, xc BK130 2 rfl, xc BK130 3 rfl, xc BK130 4 rfl, xc BK124 0 rfl, xc BK124 1 rfl, xc BK124 2 rfl, xc BK124 3 rfl, (xce HB hw132_0), (xce HB hw132_1), (xce HB hw132_2), (xce HB hw132_3), (xce HB hw132_4)⟩ (fun hHeld => ?_)
                  clear hK K
                  refine norm_ (a' := ?_) ?_ ?_
                  rotate_left
                  ·show Act.put _ (some 82) _ = _
                   simp only [Act.put, List.setIfInBounds_toArray, List.set_cons_zero, List.set_cons_succ, i64_w, i32_w]
                   rfl
                  refine pv_ 46 83 (h := ?_)
                  refine pv_ 47 84 (h := ?_)
                  refine pv_ 48 85 (h := ?_)
                  refine pv_ 49 86 (h := ?_)
                  refine tk_ 50 87 (h := ?_)
                  refine on_ 51 88 (h := fun K hK => ?_)
                  refine goesY Try.func92 #[.int .i64 ((rd_T65 l0_1 x4_2).f4), .int .i64 1, .int .i64 3] ?_
                  with_reducible refine (spec_l1In.calls ((rd_T65 l0_1 x4_2).f4) 1 3 t135 _ A36.out).mono ?_
                  rintro e w' ⟨rfl, ⟨nd, rfl⟩⟩
                  refine ⟨_, rfl, ?_⟩
                  refine hK.out _ _ ⟨xc BK130 0 rfl, xc BK130 1 rfl, xc BK130 2 rfl, xc BK130 3 rfl, xc BK130 4 rfl, xc BK124 0 rfl, xc BK124 1 rfl, xc BK124 2 rfl, xc BK124 3 rfl, (xce HB hw132_0), (xce HB hw132_1), (xce HB hw132_2), (xce HB hw132_3), (xce HB hw132_4)⟩ (fun hHeld => ?_)
                  clear hK K
                  refine norm_ (a' := ?_) ?_ ?_
                  rotate_left
                  ·show Act.put _ (some 88) _ = _
                   simp only [Act.put, List.setIfInBounds_toArray, List.set_cons_zero, List.set_cons_succ, i64_w, i32_w]
                   rfl
                  refine pv_ 52 89 (h := ?_)
                  refine pv_ 53 90 (h := ?_)
                  refine done_ (done_of HT_.out (by kernel_rfl)) ?_
                  try go_wp2
                  go_meet
                  case rel => exact ⟨_, (!t135), (by first | rfl | (simp; done) | (simp [*]; done)), H', ⟨by have := HJ1.out; have := HK2.out; first | omega | exact Nat.le_refl _⟩, ⟨by (with_reducible repeat (first | apply Kd.R_alloc | apply Kd.R_drewN | apply Kd.R_drew)); exact HO_3.out⟩, ⟨xblk⟩, ⟨xblk⟩, ⟨xbg⟩⟩
                 ·replace c35 := Bool.eq_false_iff.mpr c35
                  subst c35
                  have H1 : (spec_RollOk.j2 k2 x3_2 x4_2 true a0_0 l0_1 a0_2 l0_3 ((rd_T65 l0_1 x4_2).f0) ((rd_T65 l0_1 x4_2).f1) ((rd_T65 l0_1 x4_2).f2) ((rd_T65 l0_1 x4_2).f3) ((rd_T65 l0_1 x4_2).f4)) = some r := by rw [if_neg (show ¬ (false = true) by decide)] at H; exact H
                  clear H; have H := H1; clear H1
                  have H' := aM H
                  clear H
                  try go_wp2
                  replace HO_3 := aM (Kd.R_drew HO_3.out); replace BK124 := aM (blk_drew BK124.out); replace BK130 := aM (blk_drew BK130.out); replace HB := aM (below_drew1 HB.out); have p132 : 0 ≤ ((ji24) : Int) := oda; have q132 : (ji24) < (l0_1.length : Int) := oda
                  obtain ⟨ad132, A132_3, c132_3, e132, hx132_0, hx132_1, hx132_2, hx132_3, hx132_4, hl132_3, hi132_3⟩ := at_T65 HR0_1.out (ji24) p132 q132
                  have hw132_4 := hx132_4; have hw132_3 := hx132_3; have hw132_2 := hx132_2; have hw132_1 := hx132_1; have hw132_0 := hx132_0
                  obtain rfl : ad129 = ad132 := (by injection e132)
                  replace hx132_0 := xce HB hx132_0; replace hx132_1 := xce HB hx132_1; replace hx132_2 := xce HB hx132_2; replace hx132_3 := xce HB hx132_3; replace hx132_4 := xce HB hx132_4; have HR132_3 := aM hi132_3; have HC132_3 := aM hl132_3; clear hi132_3 hl132_3; replace p132 := eq_true p132; replace q132 := eq_true q132
                  refine start_ (n := 54) (S := fun w' => w'.cell? ⟨gb130, 0, none⟩ = some (.int .i64 ((rd_T65 l0_1 x4_2).f0)) ∧ w'.cell? ⟨gb130, 1, none⟩ = some (.int .i64 ((rd_T65 l0_1 x4_2).f1)) ∧ w'.cell? ⟨gb130, 2, none⟩ = some (.string ((rd_T65 l0_1 x4_2).f2)) ∧ w'.cell? ⟨gb130, 3, none⟩ = some (.slice A129_3 ((rd_T65 l0_1 x4_2).f3).length c129_3) ∧ w'.cell? ⟨gb130, 4, none⟩ = some (.int .i64 ((rd_T65 l0_1 x4_2).f4)) ∧ w'.cell? ⟨gb124, 0, none⟩ = some (.int .i64 a0_0) ∧ w'.cell? ⟨gb124, 1, none⟩ = some (.slice (some ad129) l0_1.length c0_1) ∧ w'.cell? ⟨gb124, 2, none⟩ = some (.int .i64 a0_2) ∧ w'.cell? ⟨gb124, 3, none⟩ = some (.slice A0_3 l0_3.length c0_3) ∧ w'.cell? (ad129.add (((ji24)).toNat * 5)) = some (.int .i64 ((rd_T65 l0_1 (ji24)).f0)) ∧ w'.cell? ⟨(ad129.add (((ji24)).toNat * 5)).block, (ad129.add (((ji24)).toNat * 5)).off + 1, none⟩ = some (.int .i64 ((rd_T65 l0_1 (ji24)).f1)) ∧ w'.cell? ⟨(ad129.add (((ji24)).toNat * 5)).block, (ad129.add (((ji24)).toNat * 5)).off + 2, none⟩ = some (.string ((rd_T65 l0_1 (ji24)).f2)) ∧ w'.cell? ⟨(ad129.add (((ji24)).toNat * 5)).block, (ad129.add (((ji24)).toNat * 5)).off + 3, none⟩ = some (.slice A132_3 ((rd_T65 l0_1 (ji24)).f3).length c132_3) ∧ w'.cell? ⟨(ad129.add (((ji24)).toNat * 5)).block, (ad129.add (((ji24)).toNat * 5)).off + 4, none⟩ = some (.int .i64 ((rd_T65 l0_1 (ji24)).f4))) (ds := []) #[false, false, false, false, false, false, false, false, false, false, false, false, false, false, false, false, false, false, false, false, false, false, false, false, false, false, false, false, false, false, false, false, false, false, false, false, false, false, false, false, false, false, false, false, false, false, false, false, false, false, false, false, false, false] (by kernel_rfl) rfl rfl ⟨xc BK130 0 rfl, xc BK130 1 rfl, xc BK130 2 rfl, xc BK130 3 rfl, xc BK130 4 rfl, xc BK124 0 rfl, xc BK124 1 rfl, xc BK124 2 rfl, xc BK124 3 rfl, (xce HB hw132_0), (xce HB hw132_1), (xce HB hw132_2), (xce HB hw132_3), (xce HB hw132_4)⟩ (fun hHeld => ?_); refine with_tabW spec_RollOk.tab8 spec_RollOk.bits8 (fun HT_ HW_ => ?_)
                  generalize w20.drew = w38 at HO_3 BK124 BK130 HB HR132_3 hx132_0 hx132_1 hx132_2 hx132_3 hx132_4 hHeld ⊢
                  refine pv_ 0 37 (h := ?_)
                  refine tk_ 1 38 (h := ?_)
                  refine on_ 2 39 (h := fun K hK => ?_)
                  refine goesY Try.func92 #[.int .i64 ((rd_T65 l0_1 x4_2).f0), .int .i64 1, .int .i64 1000] ?_
                  with_reducible refine (spec_l1In.calls ((rd_T65 l0_1 x4_2).f0) 1 1000 true _ A21.out).mono ?_
                  rintro e w' ⟨rfl, ⟨nd, rfl⟩⟩
                  refine ⟨_, rfl, ?_⟩
                  refine hK.out _ _ ⟨xc BK130 0 rfl, xc BK130 1 rfl, xc BK130 2 rfl, xc BK130 3 rfl, xc BK130 4 rfl, xc BK124 0 rfl, xc BK124 1 rfl, xc BK124 2 rfl, xc BK124 3 rfl, (xce HB hw132_0), (xce HB hw132_1), (xce HB hw132_2), (xce HB hw132_3), (xce HB hw132_4)⟩ (fun hHeld => ?_)
                  clear hK K
                  refine norm_ (a' := ?_) ?_ ?_
                  rotate_left
                  ·show Act.put _ (some 39) _ = _
                   simp only [Act.put, List.setIfInBounds_toArray, List.set_cons_zero, List.set_cons_succ, i64_w, i32_w]
                   rfl
                  refine pv_ 3 40 (h := ?_)
                  refine pv_ 4 41 (h := ?_)
                  refine pv_ 5 42 (h := ?_)
                  refine pv_ 6 43 (h := ?_)
                  refine pv_ 7 44 (h := ?_)
                  refine pv_ 8 45 (h := ?_)
                  refine pv_ 10 47 (h := ?_)
                  refine pv_ 11 48 (h := ?_)
                  refine pv_ 15 52 (h := ?_)
                  refine tk_ 9 46 (h := ?_)
                  refine pv_ 12 49 (h := ?_)
                  refine pv_ 13 50 (h := ?_)
                  refine tk_ 14 51 (h := ?_)
                  refine tk_ 16 53 (h := ?_)
                  refine pv_ 17 54 (h := ?_)
                  refine pv_ 18 55 (h := ?_)
                  refine pv_ 19 56 (h := ?_)
                  refine pv_ 20 57 (h := ?_)
                  refine pv_ 21 58 (h := ?_)
                  refine tk_ 22 59 (h := ?_)
                  refine on_ 23 60 (h := fun K hK => ?_)
                  refine goesY Try.func92 #[.int .i64 ((rd_T65 l0_1 x4_2).f1), .int .i64 0, .int .i64 1000] ?_
                  with_reducible refine (spec_l1In.calls ((rd_T65 l0_1 x4_2).f1) 0 1000 true _ A29.out).mono ?_
                  rintro e w' ⟨rfl, ⟨nd, rfl⟩⟩
                  refine ⟨_, rfl, ?_⟩
                  refine hK.out _ _ ⟨xc BK130 0 rfl, xc BK130 1 rfl, xc BK130 2 rfl, xc BK130 3 rfl, xc BK130 4 rfl, xc BK124 0 rfl, xc BK124 1 rfl, xc BK124 2 rfl, xc BK124 3 rfl, (xce HB hw132_0), (xce HB hw132_1), (xce HB hw132_2), (xce HB hw132_3), (xce HB hw132_4)⟩ (fun hHeld => ?_)
                  clear hK K
                  refine norm_ (a' := ?_) ?_ ?_
                  rotate_left
                  ·show Act.put _ (some 60) _ = _
                   simp only [Act.put, List.setIfInBounds_toArray, List.set_cons_zero, List.set_cons_succ, i64_w, i32_w]
                   rfl
                  refine pv_ 24 61 (h := ?_)
                  refine pv_ 25 62 (h := ?_)
                  refine pv_ 26 63 (h := ?_)
                  refine pv_ 27 64 (h := ?_)
                  refine tk_ 28 65 (h := ?_)
                  refine pv_ 29 66 (h := ?_)
                  refine pv_ 30 67 (h := ?_)
                  refine pv_ 31 68 (h := ?_)
                  refine pv_ 32 69 (h := ?_)
                  refine pv_ 33 70 (h := ?_)
                  refine pv_ 36 73 (h := ?_)
                  refine tk_ 34 71 (h := ?_)
                  refine pv_ 35 72 (h := ?_)
                  refine tk_ 37 74 (h := ?_)
                  refine pv_ 38 75 (h := ?_)
                  refine pv_ 39 76 (h := ?_)
                  refine pv_ 40 77 (h := ?_)
                  refine pv_ 41 78 (h := ?_)
                  refine pv_ 43 80 (h := ?_)
                  refine tk_ 42 79 (h := ?_)
                  refine tk_ 44 81 (h := ?_)
                  refine on_ 45 82 (h := fun K hK => ?_)
                  refine goesY Try.func93 #[.slice A129_3 ((rd_T65 l0_1 x4_2).f3).length c129_3, .int .i64 a0_0] ?_
                  with_reducible refine (spec_l7Nodes.calls k2 _ _ ((rd_T65 l0_1 x4_2).f3) a0_0 false _ ?side1 ?side2 A34.out).mono ?_
                  (case side1 => repeat (first | exact (Kd.C_below HR129_3.out xbg) | (with_reducible refine Kd.C_alloc ?_ _) | (with_reducible refine Kd.C_drewN ?_ _) | (with_reducible refine Kd.C_drew ?_)))
                  (case side2 => exact HC129_3.out)
                  rintro e w' ⟨rfl, ⟨nd, rfl⟩⟩
                  refine ⟨_, rfl, ?_⟩
                  refine hK.out _ _ ⟨xc BK130 0 rfl, xc BK130 1 rfl, xc BK130 2 rfl, xc BK130 3 rfl, xc BK130 4 rfl, xc BK124 0 rfl, xc BK124 1 rfl, xc BK124 2 rfl, xc BK124 3 rfl, (xce HB hw132_0), (xce HB hw132_1), (xce HB hw132_2), (xce HB hw132_3), (xce HB hw132_4)⟩ (fun hHeld => ?_)
                  clear hK K
                  refine norm_ (a' := ?_) ?_ ?_
                  rotate_left
                  ·show Act.put _ (some 82) _ = _
                   simp only [Act.put, List.setIfInBounds_toArray, List.set_cons_zero, List.set_cons_succ, i64_w, i32_w]
                   rfl
                  refine pv_ 46 83 (h := ?_)
                  refine pv_ 47 84 (h := ?_)
                  refine pv_ 48 85 (h := ?_)
                  refine pu_ 49 86 (h := ?_)
                  refine pu_ 50 87 (h := ?_)
                  refine pu_ 51 88 (h := ?_)
                  refine pu_ 52 89 (h := ?_)
                  refine pv_ 53 90 (h := ?_)
                  refine done_ (done_of HT_.out (by kernel_rfl)) ?_
                  try go_wp2
                  go_meet
                  case rel => exact ⟨_, (true), (by first | rfl | (simp; done) | (simp [*]; done)), H', ⟨by have := HJ1.out; have := HK2.out; first | omega | exact Nat.le_refl _⟩, ⟨by (with_reducible repeat (first | apply Kd.R_alloc | apply Kd.R_drewN | apply Kd.R_drew)); exact HO_3.out⟩, ⟨xblk⟩, ⟨xblk⟩, ⟨xbg⟩⟩
               ·as_aux_lemma =>
                rw [if_neg c31] at H
                have c31b0 : ((((rd_T65 l0_1 x4_2).f2).size : Int) == 32) = false := beq_eq_false_iff_ne.mpr c31; have c31b1 : ((((rd_T65 l0_1 x4_2).f2).size : Int) != 32) = true := bne_iff_ne.mpr c31
                have H' := aM H
                clear H
                try go_wp2
                replace HO_3 := aM (Kd.R_drew HO_3.out); replace BK124 := aM (blk_drew BK124.out); replace BK130 := aM (blk_drew BK130.out); replace HB := aM (below_drew1 HB.out); have p132 : 0 ≤ ((ji24) : Int) := oda; have q132 : (ji24) < (l0_1.length : Int) := oda
                obtain ⟨ad132, A132_3, c132_3, e132, hx132_0, hx132_1, hx132_2, hx132_3, hx132_4, hl132_3, hi132_3⟩ := at_T65 HR0_1.out (ji24) p132 q132
                have hw132_4 := hx132_4; have hw132_3 := hx132_3; have hw132_2 := hx132_2; have hw132_1 := hx132_1; have hw132_0 := hx132_0
                obtain rfl : ad129 = ad132 := (by injection e132)
                replace hx132_0 := xce HB hx132_0; replace hx132_1 := xce HB hx132_1; replace hx132_2 := xce HB hx132_2; replace hx132_3 := xce HB hx132_3; replace hx132_4 := xce HB hx132_4; have HR132_3 := aM hi132_3; have HC132_3 := aM hl132_3; clear hi132_3 hl132_3; replace p132 := eq_true p132; replace q132 := eq_true q132
                refine start_ (n := 54) (S := fun w' => w'.cell? ⟨gb130, 0, none⟩ = some (.int .i64 ((rd_T65 l0_1 x4_2).f0)) ∧ w'.cell? ⟨gb130, 1, none⟩ = some (.int .i64 ((rd_T65 l0_1 x4_2).f1)) ∧ w'.cell? ⟨gb130, 2, none⟩ = some (.string ((rd_T65 l0_1 x4_2).f2)) ∧ w'.cell? ⟨gb130, 3, none⟩ = some (.slice A129_3 ((rd_T65 l0_1 x4_2).f3).length c129_3) ∧ w'.cell? ⟨gb130, 4, none⟩ = some (.int .i64 ((rd_T65 l0_1 x4_2).f4)) ∧ w'.cell? ⟨gb124, 0, none⟩ = some (.int .i64 a0_0) ∧ w'.cell? ⟨gb124, 1, none⟩ = some (.slice (some ad129) l0_1.length c0_1) ∧ w'.cell? ⟨gb124, 2, none⟩ = some (.int .i64 a0_2) ∧ w'.cell? ⟨gb124, 3, none⟩ = some (.slice A0_3 l0_3.length c0_3) ∧ w'.cell? (ad129.add (((ji24)).toNat * 5)) = some (.int .i64 ((rd_T65 l0_1 (ji24)).f0)) ∧ w'.cell? ⟨(ad129.add (((ji24)).toNat * 5)).block, (ad129.add (((ji24)).toNat * 5)).off + 1, none⟩ = some (.int .i64 ((rd_T65 l0_1 (ji24)).f1)) ∧ w'.cell? ⟨(ad129.add (((ji24)).toNat * 5)).block, (ad129.add (((ji24)).toNat * 5)).off + 2, none⟩ = some (.string ((rd_T65 l0_1 (ji24)).f2)) ∧ w'.cell? ⟨(ad129.add (((ji24)).toNat * 5)).block, (ad129.add (((ji24)).toNat * 5)).off + 3, none⟩ = some (.slice A132_3 ((rd_T65 l0_1 (ji24)).f3).length c132_3) ∧ w'.cell? ⟨(ad129.add (((ji24)).toNat * 5)).block, (ad129.add (((ji24)).toNat * 5)).off + 4, none⟩ = some (.int .i64 ((rd_T65 l0_1 (ji24)).f4))) (ds := []) #[false, false, false, false, false, false, false, false, false, false, false, false, false, false, false, false, false, false, false, false, false, false, false, false, false, false, false, false, false, false, false, false, false, false, false, false, false, false, false, false, false, false, false, false, false, false, false, false, false, false, false, false, false, false] (by kernel_rfl) rfl rfl ⟨xc BK130 0 rfl, xc BK130 1 rfl, xc BK130 2 rfl, xc BK130 3 rfl, xc BK130 4 rfl, xc BK124 0 rfl, xc BK124 1 rfl, xc BK124 2 rfl, xc BK124 3 rfl, (xce HB hw132_0), (xce HB hw132_1), (xce HB hw132_2), (xce HB hw132_3), (xce HB hw132_4)⟩ (fun hHeld => ?_); refine with_tabW spec_RollOk.tab8 spec_RollOk.bits8 (fun HT_ HW_ => ?_)
                generalize w20.drew = w39 at HO_3 BK124 BK130 HB HR132_3 hx132_0 hx132_1 hx132_2 hx132_3 hx132_4 hHeld ⊢
                refine pv_ 0 37 (h := ?_)
                refine tk_ 1 38 (h := ?_)
                refine on_ 2 39 (h := fun K hK => ?_)
                refine goesY Try.func92 #[.int .i64 ((rd_T65 l0_1 x4_2).f0), .int .i64 1, .int .i64 1000] ?_
                with_reducible refine (spec_l1In.calls ((rd_T65 l0_1 x4_2).f0) 1 1000 true _ A21.out).mono ?_
                rintro e w' ⟨rfl, ⟨nd, rfl⟩⟩
                refine ⟨_, rfl, ?_⟩
                refine hK.out _ _ ⟨xc BK130 0 rfl, xc BK130 1 rfl, xc BK130 2 rfl, xc BK130 3 rfl, xc BK130 4 rfl, xc BK124 0 rfl, xc BK124 1 rfl, xc BK124 2 rfl, xc BK124 3 rfl, (xce HB hw132_0), (xce HB hw132_1), (xce HB hw132_2), (xce HB hw132_3), (xce HB hw132_4)⟩ (fun hHeld => ?_)
                clear hK K
                refine norm_ (a' := ?_) ?_ ?_
                rotate_left
                ·show Act.put _ (some 39) _ = _
                 simp only [Act.put, List.setIfInBounds_toArray, List.set_cons_zero, List.set_cons_succ, i64_w, i32_w]
                 rfl
                refine pv_ 3 40 (h := ?_)
                refine pv_ 4 41 (h := ?_)
                refine pv_ 5 42 (h := ?_)
                refine pv_ 6 43 (h := ?_)
                refine pv_ 7 44 (h := ?_)
                refine pv_ 8 45 (h := ?_)
                refine pv_ 10 47 (h := ?_)
                refine pv_ 11 48 (h := ?_)
                refine pv_ 15 52 (h := ?_)
                refine tk_ 9 46 (h := ?_)
                refine pv_ 12 49 (h := ?_)
                refine pv_ 13 50 (h := ?_)
                refine tk_ 14 51 (h := ?_)
                refine tk_ 16 53 (h := ?_)
                refine pv_ 17 54 (h := ?_)
                refine pv_ 18 55 (h := ?_)
                refine pv_ 19 56 (h := ?_)
                refine pv_ 20 57 (h := ?_)
                refine pv_ 21 58 (h := ?_)
                refine tk_ 22 59 (h := ?_)
                refine on_ 23 60 (h := fun K hK => ?_)
                refine goesY Try.func92 #[.int .i64 ((rd_T65 l0_1 x4_2).f1), .int .i64 0, .int .i64 1000] ?_
                with_reducible refine (spec_l1In.calls ((rd_T65 l0_1 x4_2).f1) 0 1000 true _ A29.out).mono ?_
                rintro e w' ⟨rfl, ⟨nd, rfl⟩⟩
                refine ⟨_, rfl, ?_⟩
                refine hK.out _ _ ⟨xc BK130 0 rfl, xc BK130 1 rfl, xc BK130 2 rfl, xc BK130 3 rfl, xc BK130 4 rfl, xc BK124 0 rfl, xc BK124 1 rfl, xc BK124 2 rfl, xc BK124 3 rfl, (xce HB hw132_0), (xce HB hw132_1), (xce HB hw132_2), (xce HB hw132_3), (xce HB hw132_4)⟩ (fun hHeld => ?_)
                clear hK K
                refine norm_ (a' := ?_) ?_ ?_
                rotate_left
                ·show Act.put _ (some 60) _ = _
                 simp only [Act.put, List.setIfInBounds_toArray, List.set_cons_zero, List.set_cons_succ, i64_w, i32_w]
                 rfl
                refine pv_ 24 61 (h := ?_)
                refine pv_ 25 62 (h := ?_)
                refine pv_ 26 63 (h := ?_)
                refine pv_ 27 64 (h := ?_)
                refine tk_ 28 65 (h := ?_)
                refine pv_ 29 66 (h := ?_)
                refine pv_ 30 67 (h := ?_)
                refine pv_ 31 68 (h := ?_)
                refine pv_ 32 69 (h := ?_)
                refine pu_ 33 70 (h := ?_)
                refine pu_ 34 71 (h := ?_)
                refine pu_ 35 72 (h := ?_)
                refine pu_ 36 73 (h := ?_)
                refine pu_ 37 74 (h := ?_)
                refine pu_ 38 75 (h := ?_)
                refine pv_ 39 76 (h := ?_)
                refine pv_ 40 77 (h := ?_)
                refine pu_ 41 78 (h := ?_)
                refine pu_ 42 79 (h := ?_)
                refine pu_ 43 80 (h := ?_)
                refine pu_ 44 81 (h := ?_)
                refine pu_ 45 82 (h := ?_)
                refine pu_ 46 83 (h := ?_)
                refine pv_ 47 84 (h := ?_)
                refine pv_ 48 85 (h := ?_)
                refine pu_ 49 86 (h := ?_)
                refine pu_ 50 87 (h := ?_)
                refine pu_ 51 88 (h := ?_)
                refine pu_ 52 89 (h := ?_)
                refine pv_ 53 90 (h := ?_)
                refine done_ (done_of HT_.out (by kernel_rfl)) ?_
                try go_wp2
                go_meet
                case rel => exact ⟨_, (true), (by first | rfl | (simp; done) | (simp [*]; done)), H', ⟨by have := HJ1.out; have := HK2.out; first | omega | exact Nat.le_refl _⟩, ⟨by (with_reducible repeat (first | apply Kd.R_alloc | apply Kd.R_drewN | apply Kd.R_drew)); exact HO_3.out⟩, ⟨xblk⟩, ⟨xblk⟩, ⟨xbg⟩⟩
              ·replace c30 := Bool.eq_false_iff.mpr c30
               subst c30
               have H1 : (spec_RollOk.j2 k2 x3_2 x4_2 true a0_0 l0_1 a0_2 l0_3 ((rd_T65 l0_1 x4_2).f0) ((rd_T65 l0_1 x4_2).f1) ((rd_T65 l0_1 x4_2).f2) ((rd_T65 l0_1 x4_2).f3) ((rd_T65 l0_1 x4_2).f4)) = some r := by rw [if_neg (show ¬ (false = true) by decide)] at H; exact H
               clear H; have H := H1; clear H1
               have H' := aM H
               clear H
               try go_wp2
               replace HO_3 := aM (Kd.R_drew HO_3.out); replace BK124 := aM (blk_drew BK124.out); replace BK130 := aM (blk_drew BK130.out); replace HB := aM (below_drew1 HB.out); have p132 : 0 ≤ ((ji24) : Int) := oda; have q132 : (ji24) < (l0_1.length : Int) := oda
               obtain ⟨ad132, A132_3, c132_3, e132, hx132_0, hx132_1, hx132_2, hx132_3, hx132_4, hl132_3, hi132_3⟩ := at_T65 HR0_1.out (ji24) p132 q132
               have hw132_4 := hx132_4; have hw132_3 := hx132_3; have hw132_2 := hx132_2; have hw132_1 := hx132_1; have hw132_0 := hx132_0
               obtain rfl : ad129 = ad132 := (by injection e132)
               replace hx132_0 := xce HB hx132_0; replace hx132_1 := xce HB hx132_1; replace hx132_2 := xce HB hx132_2; replace hx132_3 := xce HB hx132_3; replace hx132_4 := xce HB hx132_4; have HR132_3 := aM hi132_3; have HC132_3 := aM hl132_3; clear hi132_3 hl132_3; replace p132 := eq_true p132; replace q132 := eq_true q132
               refine start_ (n := 54) (S := fun w' => w'.cell? ⟨gb130, 0, none⟩ = some (.int .i64 ((rd_T65 l0_1 x4_2).f0)) ∧ w'.cell? ⟨gb130, 1, none⟩ = some (.int .i64 ((rd_T65 l0_1 x4_2).f1)) ∧ w'.cell? ⟨gb130, 2, none⟩ = some (.string ((rd_T65 l0_1 x4_2).f2)) ∧ w'.cell? ⟨gb130, 3, none⟩ = some (.slice A129_3 ((rd_T65 l0_1 x4_2).f3).length c129_3) ∧ w'.cell? ⟨gb130, 4, none⟩ = some (.int .i64 ((rd_T65 l0_1 x4_2).f4)) ∧ w'.cell? ⟨gb124, 0, none⟩ = some (.int .i64 a0_0) ∧ w'.cell? ⟨gb124, 1, none⟩ = some (.slice (some ad129) l0_1.length c0_1) ∧ w'.cell? ⟨gb124, 2, none⟩ = some (.int .i64 a0_2) ∧ w'.cell? ⟨gb124, 3, none⟩ = some (.slice A0_3 l0_3.length c0_3) ∧ w'.cell? (ad129.add (((ji24)).toNat * 5)) = some (.int .i64 ((rd_T65 l0_1 (ji24)).f0)) ∧ w'.cell? ⟨(ad129.add (((ji24)).toNat * 5)).block, (ad129.add (((ji24)).toNat * 5)).off + 1, none⟩ = some (.int .i64 ((rd_T65 l0_1 (ji24)).f1)) ∧ w'.cell? ⟨(ad129.add (((ji24)).toNat * 5)).block, (ad129.add (((ji24)).toNat * 5)).off + 2, none⟩ = some (.string ((rd_T65 l0_1 (ji24)).f2)) ∧ w'.cell? ⟨(ad129.add (((ji24)).toNat * 5)).block, (ad129.add (((ji24)).toNat * 5)).off + 3, none⟩ = some (.slice A132_3 ((rd_T65 l0_1 (ji24)).f3).length c132_3) ∧ w'.cell? ⟨(ad129.add (((ji24)).toNat * 5)).block, (ad129.add (((ji24)).toNat * 5)).off + 4, none⟩ = some (.int .i64 ((rd_T65 l0_1 (ji24)).f4))) (ds := []) #[false, false, false, false, false, false, false, false, false, false, false, false, false, false, false, false, false, false, false, false, false, false, false, false, false, false, false, false, false, false, false, false, false, false, false, false, false, false, false, false, false, false, false, false, false, false, false, false, false, false, false, false, false, false] (by kernel_rfl) rfl rfl ⟨xc BK130 0 rfl, xc BK130 1 rfl, xc BK130 2 rfl, xc BK130 3 rfl, xc BK130 4 rfl, xc BK124 0 rfl, xc BK124 1 rfl, xc BK124 2 rfl, xc BK124 3 rfl, (xce HB hw132_0), (xce HB hw132_1), (xce HB hw132_2), (xce HB hw132_3), (xce HB hw132_4)⟩ (fun hHeld => ?_); refine with_tabW spec_RollOk.tab8 spec_RollOk.bits8 (fun HT_ HW_ => ?_)
               generalize w20.drew = w40 at HO_3 BK124 BK130 HB HR132_3 hx132_0 hx132_1 hx132_2 hx132_3 hx132_4 hHeld ⊢
               refine pv_ 0 37 (h := ?_)
               refine tk_ 1 38 (h := ?_)
               refine on_ 2 39 (h := fun K hK => ?_)
               refine goesY Try.func92 #[.int .i64 ((rd_T65 l0_1 x4_2).f0), .int .i64 1, .int .i64 1000] ?_
               with_reducible refine (spec_l1In.calls ((rd_T65 l0_1 x4_2).f0) 1 1000 true _ A21.out).mono ?_
               rintro e w' ⟨rfl, ⟨nd, rfl⟩⟩
               refine ⟨_, rfl, ?_⟩
               refine hK.out _ _ ⟨xc BK130 0 rfl, xc BK130 1 rfl, xc BK130 2 rfl, xc BK130 3 rfl, xc BK130 4 rfl, xc BK124 0 rfl, xc BK124 1 rfl, xc BK124 2 rfl, xc BK124 3 rfl, (xce HB hw132_0), (xce HB hw132_1), (xce HB hw132_2), (xce HB hw132_3), (xce HB hw132_4)⟩ (fun hHeld => ?_)
               clear hK K
               refine norm_ (a' := ?_) ?_ ?_
               rotate_left
               ·show Act.put _ (some 39) _ = _
                simp only [Act.put, List.setIfInBounds_toArray, List.set_cons_zero, List.set_cons_succ, i64_w, i32_w]
                rfl
               refine pv_ 3 40 (h := ?_)
               refine pv_ 4 41 (h := ?_)
               refine pv_ 5 42 (h := ?_)
               refine pv_ 6 43 (h := ?_)
               refine pv_ 7 44 (h := ?_)
               refine pv_ 8 45 (h := ?_)
               refine pv_ 10 47 (h := ?_)
               refine pv_ 11 48 (h := ?_)
               refine pv_ 15 52 (h := ?_)
               refine tk_ 9 46 (h := ?_)
               refine pv_ 12 49 (h := ?_)
               refine pv_ 13 50 (h := ?_)
               refine tk_ 14 51 (h := ?_)
               refine tk_ 16 53 (h := ?_)
               refine pv_ 17 54 (h := ?_)
               refine pv_ 18 55 (h := ?_)
               refine pv_ 19 56 (h := ?_)
               refine pv_ 20 57 (h := ?_)
               refine pv_ 21 58 (h := ?_)
               refine tk_ 22 59 (h := ?_)
               refine on_ 23 60 (h := fun K hK => ?_)
               refine goesY Try.func92 #[.int .i64 ((rd_T65 l0_1 x4_2).f1), .int .i64 0, .int .i64 1000] ?_
               with_reducible refine (spec_l1In.calls ((rd_T65 l0_1 x4_2).f1) 0 1000 false _ A29.out).mono ?_
               rintro e w' ⟨rfl, ⟨nd, rfl⟩⟩
               refine ⟨_, rfl, ?_⟩
               refine hK.out _ _ ⟨xc BK130 0 rfl, xc BK130 1 rfl, xc BK130 2 rfl, xc BK130 3 rfl, xc BK130 4 rfl, xc BK124 0 rfl, xc BK124 1 rfl, xc BK124 2 rfl, xc BK124 3 rfl, (xce HB hw132_0), (xce HB hw132_1), (xce HB hw132_2), (xce HB hw132_3), (xce HB hw132_4)⟩ (fun hHeld => ?_)
               clear hK K
               refine norm_ (a' := ?_) ?_ ?_
               rotate_left
               ·show Act.put _ (some 60) _ = _
                simp only [Act.put, List.setIfInBounds_toArray, List.set_cons_zero, List.set_cons_succ, i64_w, i32_w]
                rfl
               refine pv_ 24 61 (h := ?_)
               refine pv_ 25 62 (h := ?_)
               refine pv_ 26 63 (h := ?_)
               refine pu_ 27 64 (h := ?_)
               refine pu_ 28 65 (h := ?_)
               refine pu_ 29 66 (h := ?_)
               refine pu_ 30 67 (h := ?_)
               refine pv_ 31 68 (h := ?_)
               refine pv_ 32 69 (h := ?_)
               refine pu_ 33 70 (h := ?_)
               refine pu_ 34 71 (h := ?_)
               refine pu_ 35 72 (h := ?_)
               refine pu_ 36 73 (h := ?_)
               refine pu_ 37 74 (h := ?_)
               refine pu_ 38 75 (h := ?_)
               refine pv_ 39 76 (h := ?_)
               refine pv_ 40 77 (h := ?_)
               refine pu_ 41 78 (h := ?_)
               refine pu_ 42 79 (h := ?_)
               refine pu_ 43 80 (h := ?_)
               refine pu_ 44 81 (h := ?_)
               refine pu_ 45 82 (h := ?_)
               refine pu_ 46 83 (h := ?_)
               refine pv_ 47 84 (h := ?_)
               refine pv_ 48 85 (h := ?_)
               refine pu_ 49 86 (h := ?_)
               refine pu_ 50 87 (h := ?_)
               refine pu_ 51 88 (h := ?_)
               refine pu_ 52 89 (h := ?_)
               refine pv_ 53 90 (h := ?_)
               refine done_ (done_of HT_.out (by kernel_rfl)) ?_
               try go_wp2
               go_meet
               case rel => exact ⟨_, (true), (by first | rfl | (simp; done) | (simp [*]; done)), H', ⟨by have := HJ1.out; have := HK2.out; first | omega | exact Nat.le_refl _⟩, ⟨by (with_reducible repeat (first | apply Kd.R_alloc | apply Kd.R_drewN | apply Kd.R_drew)); exact HO_3.out⟩, ⟨xblk⟩, ⟨xblk⟩, ⟨xbg⟩⟩
            ·rw [if_neg c26] at H
             exact absurd H (by simp)
           ·rw [if_neg c25] at H
            exact absurd H (by simp)
          ·rw [if_neg c23] at H
           have c23b0 : decide (0 < x4_2) = false := decide_eq_false c23; clear c23
           (first | rw [c23b0] | (simp only [i64_w, i32_w]; rw [c23b0]) | skip)
           replace H := Option.bind_eq_some_iff.mp H
           obtain ⟨t136, A410, H⟩ := H
           replace H : (if t136 = true then (if (((rd_T65 l0_1 x4_2).f2).size : Int) = 32 then (if (((rd_T65 l0_1 x4_2).f3).length : Int) > a0_0 then (spec_RollOk.j2 k2 x3_2 x4_2 true a0_0 l0_1 a0_2 l0_3 ((rd_T65 l0_1 x4_2).f0) ((rd_T65 l0_1 x4_2).f1) ((rd_T65 l0_1 x4_2).f2) ((rd_T65 l0_1 x4_2).f3) ((rd_T65 l0_1 x4_2).f4)) else ((spec_l7Nodes.f k2 ((rd_T65 l0_1 x4_2).f3) a0_0).bind fun t137 => (if t137 = true then ((spec_l1In.f ((rd_T65 l0_1 x4_2).f4) 1 3).bind fun t138 => (spec_RollOk.j2 k2 x3_2 x4_2 (!t138) a0_0 l0_1 a0_2 l0_3 ((rd_T65 l0_1 x4_2).f0) ((rd_T65 l0_1 x4_2).f1) ((rd_T65 l0_1 x4_2).f2) ((rd_T65 l0_1 x4_2).f3) ((rd_T65 l0_1 x4_2).f4))) else (spec_RollOk.j2 k2 x3_2 x4_2 true a0_0 l0_1 a0_2 l0_3 ((rd_T65 l0_1 x4_2).f0) ((rd_T65 l0_1 x4_2).f1) ((rd_T65 l0_1 x4_2).f2) ((rd_T65 l0_1 x4_2).f3) ((rd_T65 l0_1 x4_2).f4))))) else (spec_RollOk.j2 k2 x3_2 x4_2 true a0_0 l0_1 a0_2 l0_3 ((rd_T65 l0_1 x4_2).f0) ((rd_T65 l0_1 x4_2).f1) ((rd_T65 l0_1 x4_2).f2) ((rd_T65 l0_1 x4_2).f3) ((rd_T65 l0_1 x4_2).f4))) else (spec_RollOk.j2 k2 x3_2 x4_2 true a0_0 l0_1 a0_2 l0_3 ((rd_T65 l0_1 x4_2).f0) ((rd_T65 l0_1 x4_2).f1) ((rd_T65 l0_1 x4_2).f2) ((rd_T65 l0_1 x4_2).f3) ((rd_T65 l0_1 x4_2).f4))) = some r := H; have A41 := aM A410; clear A410
           by_cases c42 : t136 = true
           ·subst c42
            have H1 : (if (((rd_T65 l0_1 x4_2).f2).size : Int) = 32 then (if (((rd_T65 l0_1 x4_2).f3).length : Int) > a0_0 then (spec_RollOk.j2 k2 x3_2 x4_2 true a0_0 l0_1 a0_2 l0_3 ((rd_T65 l0_1 x4_2).f0) ((rd_T65 l0_1 x4_2).f1) ((rd_T65 l0_1 x4_2).f2) ((rd_T65 l0_1 x4_2).f3) ((rd_T65 l0_1 x4_2).f4)) else ((spec_l7Nodes.f k2 ((rd_T65 l0_1 x4_2).f3) a0_0).bind fun t137 => (if t137 = true then ((spec_l1In.f ((rd_T65 l0_1 x4_2).f4) 1 3).bind fun t138 => (spec_RollOk.j2 k2 x3_2 x4_2 (!t138) a0_0 l0_1 a0_2 l0_3 ((rd_T65 l0_1 x4_2).f0) ((rd_T65 l0_1 x4_2).f1) ((rd_T65 l0_1 x4_2).f2) ((rd_T65 l0_1 x4_2).f3) ((rd_T65 l0_1 x4_2).f4))) else (spec_RollOk.j2 k2 x3_2 x4_2 true a0_0 l0_1 a0_2 l0_3 ((rd_T65 l0_1 x4_2).f0) ((rd_T65 l0_1 x4_2).f1) ((rd_T65 l0_1 x4_2).f2) ((rd_T65 l0_1 x4_2).f3) ((rd_T65 l0_1 x4_2).f4))))) else (spec_RollOk.j2 k2 x3_2 x4_2 true a0_0 l0_1 a0_2 l0_3 ((rd_T65 l0_1 x4_2).f0) ((rd_T65 l0_1 x4_2).f1) ((rd_T65 l0_1 x4_2).f2) ((rd_T65 l0_1 x4_2).f3) ((rd_T65 l0_1 x4_2).f4))) = some r := by rw [if_pos rfl] at H; exact H
            clear H; have H := H1; clear H1
            by_cases c43 : (((rd_T65 l0_1 x4_2).f2).size : Int) = 32
            ·as_aux_lemma =>
             rw [if_pos c43] at H
             have c43b0 : ((((rd_T65 l0_1 x4_2).f2).size : Int) == 32) = true := beq_iff_eq.mpr c43; have c43b1 : ((((rd_T65 l0_1 x4_2).f2).size : Int) != 32) = false := bne_eq_false_iff_eq.mpr c43; clear c43
             by_cases c44 : (((rd_T65 l0_1 x4_2).f3).length : Int) > a0_0
             ·as_aux_lemma =>
              rw [if_pos c44] at H
              have c44b0 : decide (a0_0 < (((rd_T65 l0_1 x4_2).f3).length : Int)) = true := decide_eq_true c44; clear c44
              have H' := aM H
              clear H
              try go_wp2
              replace HO_3 := aM (Kd.R_drew HO_3.out); replace BK124 := aM (blk_drew BK124.out); replace BK130 := aM (blk_drew BK130.out); replace HB := aM (below_drew1 HB.out)
              refine start_ (n := 54) (S := fun w' => w'.cell? ⟨gb130, 0, none⟩ = some (.int .i64 ((rd_T65 l0_1 x4_2).f0)) ∧ w'.cell? ⟨gb130, 1, none⟩ = some (.int .i64 ((rd_T65 l0_1 x4_2).f1)) ∧ w'.cell? ⟨gb130, 2, none⟩ = some (.string ((rd_T65 l0_1 x4_2).f2)) ∧ w'.cell? ⟨gb130, 3, none⟩ = some (.slice A129_3 ((rd_T65 l0_1 x4_2).f3).length c129_3) ∧ w'.cell? ⟨gb130, 4, none⟩ = some (.int .i64 ((rd_T65 l0_1 x4_2).f4)) ∧ w'.cell? ⟨gb124, 0, none⟩ = some (.int .i64 a0_0) ∧ w'.cell? ⟨gb124, 1, none⟩ = some (.slice (some ad129) l0_1.length c0_1) ∧ w'.cell? ⟨gb124, 2, none⟩ = some (.int .i64 a0_2) ∧ w'.cell? ⟨gb124, 3, none⟩ = some (.slice A0_3 l0_3.length c0_3)) (ds := []) #[false, false, false, false, false, false, false, false, false, false, false, false, false, false, false, false, false, false, false, false, false, false, false, false, false, false, false, false, false, false, false, false, false, false, false, false, false, false, false, false, false, false, false, false, false, false, false, false, false, false, false, false, false, false] (by kernel_rfl) rfl rfl ⟨xc BK130 0 rfl, xc BK130 1 rfl, xc BK130 2 rfl, xc BK130 3 rfl, xc BK130 4 rfl, xc BK124 0 rfl, xc BK124 1 rfl, xc BK124 2 rfl, xc BK124 3 rfl⟩ (fun hHeld => ?_); refine with_tabW spec_RollOk.tab8 spec_RollOk.bits8 (fun HT_ HW_ => ?_)
              generalize w20.drew = w45 at HO_3 BK124 BK130 HB hHeld ⊢
              refine pv_ 0 37 (h := ?_)
              refine tk_ 1 38 (h := ?_)
              refine on_ 2 39 (h := fun K hK => ?_)
              refine goesY Try.func92 #[.int .i64 ((rd_T65 l0_1 x4_2).f0), .int .i64 1, .int .i64 1000] ?_
              with_reducible refine (spec_l1In.calls ((rd_T65 l0_1 x4_2).f0) 1 1000 true _ A21.out).mono ?_
              rintro e w' ⟨rfl, ⟨nd, rfl⟩⟩
              refine ⟨_, rfl, ?_⟩
              refine hK.out _ _ ⟨xc BK130 0 rfl, xc BK130 1 rfl, xc BK130 2 rfl, xc BK130 3 rfl, xc BK130 4 rfl, xc BK124 0 rfl, xc BK124 1 rfl, xc BK124 2 rfl, xc BK124 3 rfl⟩ (fun hHeld => ?_)
              clear hK K
              refine norm_ (a' := ?_) ?_ ?_
              rotate_left
              ·show Act.put _ (some 39) _ = _
               simp only [Act.put, List.setIfInBounds_toArray, List.set_cons_zero, List.set_cons_succ, i64_w, i32_w]
               rfl
              refine pv_ 3 40 (h := ?_)
              refine pv_ 4 41 (h := ?_)
              refine pv_ 5 42 (h := ?_)
              refine pv_ 6 43 (h := ?_)
              refine pv_ 7 44 (h := ?_)
              refine pu_ 8 45 (h := ?_)
              refine pu_ 9 46 (h := ?_)
              refine pu_ 10 47 (h := ?_)
              refine pu_ 11 48 (h := ?_)
              refine pu_ 12 49 (h := ?_)
              refine pu_ 13 50 (h := ?_)
              refine pu_ 14 51 (h := ?_)
              refine pu_ 15 52 (h := ?_)
              refine pu_ 16 53 (h := ?_)
              refine pu_ 17 54 (h := ?_)
              refine pv_ 18 55 (h := ?_)
              refine pv_ 19 56 (h := ?_)
              refine pv_ 20 57 (h := ?_)
              refine pv_ 21 58 (h := ?_)
              refine tk_ 22 59 (h := ?_)
              refine on_ 23 60 (h := fun K hK => ?_)
              refine goesY Try.func92 #[.int .i64 ((rd_T65 l0_1 x4_2).f1), .int .i64 0, .int .i64 1000] ?_
              with_reducible refine (spec_l1In.calls ((rd_T65 l0_1 x4_2).f1) 0 1000 true _ A41.out).mono ?_
              rintro e w' ⟨rfl, ⟨nd, rfl⟩⟩
              refine ⟨_, rfl, ?_⟩
              refine hK.out _ _ ⟨xc BK130 0 rfl, xc BK130 1 rfl, xc BK130 2 rfl, xc BK130 3 rfl, xc BK130 4 rfl, xc BK124 0 rfl, xc BK124 1 rfl, xc BK124 2 rfl, xc BK124 3 rfl⟩ (fun hHeld => ?_)
              clear hK K
              refine norm_ (a' := ?_) ?_ ?_
              rotate_left
              ·show Act.put _ (some 60) _ = _
               simp only [Act.put, List.setIfInBounds_toArray, List.set_cons_zero, List.set_cons_succ, i64_w, i32_w]
               rfl
              refine pv_ 24 61 (h := ?_)
              refine pv_ 25 62 (h := ?_)
              refine pv_ 26 63 (h := ?_)
              refine pv_ 27 64 (h := ?_)
              refine tk_ 28 65 (h := ?_)
              refine pv_ 29 66 (h := ?_)
              refine pv_ 30 67 (h := ?_)
              refine pv_ 31 68 (h := ?_)
              refine pv_ 32 69 (h := ?_)
              refine pv_ 33 70 (h := ?_)
              refine pv_ 36 73 (h := ?_)
              refine tk_ 34 71 (h := ?_)
              refine pv_ 35 72 (h := ?_)
              refine tk_ 37 74 (h := ?_)
              refine pv_ 38 75 (h := ?_)
              refine pv_ 39 76 (h := ?_)
              refine pv_ 40 77 (h := ?_)
              refine pu_ 41 78 (h := ?_)
              refine pu_ 42 79 (h := ?_)
              refine pu_ 43 80 (h := ?_)
              refine pu_ 44 81 (h := ?_)
              refine pu_ 45 82 (h := ?_)
              refine pu_ 46 83 (h := ?_)
              refine pv_ 47 84 (h := ?_)
              refine pv_ 48 85 (h := ?_)
              refine pu_ 49 86 (h := ?_)
              refine pu_ 50 87 (h := ?_)
              refine pu_ 51 88 (h := ?_)
              refine pu_ 52 89 (h := ?_)
              refine pv_ 53 90 (h := ?_)
              refine done_ (done_of HT_.out (by kernel_rfl)) ?_
              try go_wp2
              go_meet
              case rel => exact ⟨_, (true), (by first | rfl | (simp; done) | (simp [*]; done)), H', ⟨by have := HJ1.out; have := HK2.out; first | omega | exact Nat.le_refl _⟩, ⟨by (with_reducible repeat (first | apply Kd.R_alloc | apply Kd.R_drewN | apply Kd.R_drew)); exact HO_3.out⟩, ⟨xblk⟩, ⟨xblk⟩, ⟨xbg⟩⟩
             ·rw [if_neg c44] at H
              have c44b0 : decide (a0_0 < (((rd_T65 l0_1 x4_2).f3).length : Int)) = false := decide_eq_false c44; clear c44; replace H := Option.bind_eq_some_iff.mp H
              obtain ⟨t137, A460, H⟩ := H
              replace H : (if t137 = true then ((spec_l1In.f ((rd_T65 l0_1 x4_2).f4) 1 3).bind fun t138 => (spec_RollOk.j2 k2 x3_2 x4_2 (!t138) a0_0 l0_1 a0_2 l0_3 ((rd_T65 l0_1 x4_2).f0) ((rd_T65 l0_1 x4_2).f1) ((rd_T65 l0_1 x4_2).f2) ((rd_T65 l0_1 x4_2).f3) ((rd_T65 l0_1 x4_2).f4))) else (spec_RollOk.j2 k2 x3_2 x4_2 true a0_0 l0_1 a0_2 l0_3 ((rd_T65 l0_1 x4_2).f0) ((rd_T65 l0_1 x4_2).f1) ((rd_T65 l0_1 x4_2).f2) ((rd_T65 l0_1 x4_2).f3) ((rd_T65 l0_1 x4_2).f4))) = some r := H; have A46 := aM A460; clear A460
              by_cases c47 : t137 = true
              ·subst c47
               have H1 : ((spec_l1In.f ((rd_T65 l0_1 x4_2).f4) 1 3).bind fun t138 => (spec_RollOk.j2 k2 x3_2 x4_2 (!t138) a0_0 l0_1 a0_2 l0_3 ((rd_T65 l0_1 x4_2).f0) ((rd_T65 l0_1 x4_2).f1) ((rd_T65 l0_1 x4_2).f2) ((rd_T65 l0_1 x4_2).f3) ((rd_T65 l0_1 x4_2).f4))) = some r := by rw [if_pos rfl] at H; exact H
               clear H; have H := H1; clear H1; replace H := Option.bind_eq_some_iff.mp H
               obtain ⟨t138, A480, H⟩ := H
               replace H : (spec_RollOk.j2 k2 x3_2 x4_2 (!t138) a0_0 l0_1 a0_2 l0_3 ((rd_T65 l0_1 x4_2).f0) ((rd_T65 l0_1 x4_2).f1) ((rd_T65 l0_1 x4_2).f2) ((rd_T65 l0_1 x4_2).f3) ((rd_T65 l0_1 x4_2).f4)) = some r := H; have A48 := aM A480; clear A480
               have H' := aM H
               clear H
               try go_wp2
               replace HO_3 := aM (Kd.R_drew HO_3.out); replace BK124 := aM (blk_drew BK124.out); replace BK130 := aM (blk_drew BK130.out); replace HB := aM (below_drew1 HB.out)
               refine start_ (n := 54) (S := fun w' => w'.cell? ⟨gb130, 0, none⟩ = some (.int .i64 ((rd_T65 l0_1 x4_2).f0)) ∧ w'.cell? ⟨gb130, 1, none⟩ = some (.int .i64 ((rd_T65 l0_1 x4_2).f1)) ∧ w'.cell? ⟨gb130, 2, none⟩ = some (.string ((rd_T65 l0_1 x4_2).f2)) ∧ w'.cell? ⟨gb130, 3, none⟩ = some (.slice A129_3 ((rd_T65 l0_1 x4_2).f3).length c129_3) ∧ w'.cell? ⟨gb130, 4, none⟩ = some (.int .i64 ((rd_T65 l0_1 x4_2).f4)) ∧ w'.cell? ⟨gb124, 0, none⟩ = some (.int .i64 a0_0) ∧ w'.cell? ⟨gb124, 1, none⟩ = some (.slice (some ad129) l0_1.length c0_1) ∧ w'.cell? ⟨gb124, 2, none⟩ = some (.int .i64 a0_2) ∧ w'.cell? ⟨gb124, 3, none⟩ = some (.slice A0_3 l0_3.length c0_3)) (ds := []) #[false, false, false, false, false, false, false, false, false, false, false, false, false, false, false, false, false, false, false, false, false, false, false, false, false, false, false, false, false, false, false, false, false, false, false, false, false, false, false, false, false, false, false, false, false, false, false, false, false, false, false, false, false, false] (by kernel_rfl) rfl rfl ⟨xc BK130 0 rfl, xc BK130 1 rfl, xc BK130 2 rfl, xc BK130 3 rfl, xc BK130 4 rfl, xc BK124 0 rfl, xc BK124 1 rfl, xc BK124 2 rfl, xc BK124 3 rfl⟩ (fun hHeld => ?_); refine with_tabW spec_RollOk.tab8 spec_RollOk.bits8 (fun HT_ HW_ => ?_)
               generalize w20.drew = w49 at HO_3 BK124 BK130 HB hHeld ⊢
               refine pv_ 0 37 (h := ?_)
               refine tk_ 1 38 (h := ?_)
               refine on_ 2 39 (h := fun K hK => ?_)
               refine goesY Try.func92 #[.int .i64 ((rd_T65 l0_1 x4_2).f0), .int .i64 1, .int .i64 1000] ?_
               with_reducible refine (spec_l1In.calls ((rd_T65 l0_1 x4_2).f0) 1 1000 true _ A21.out).mono ?_
               rintro e w' ⟨rfl, ⟨nd, rfl⟩⟩
               refine ⟨_, rfl, ?_⟩
               refine hK.out _ _ ⟨xc BK130 0 rfl, xc BK130 1 rfl, xc BK130 2 rfl, xc BK130 3 rfl, xc BK130 4 rfl, xc BK124 0 rfl, xc BK124 1 rfl, xc BK124 2 rfl, xc BK124 3 rfl⟩ (fun hHeld => ?_)
               clear hK K
               refine norm_ (a' := ?_) ?_ ?_
               rotate_left
               ·show Act.put _ (some 39) _ = _
                simp only [Act.put, List.setIfInBounds_toArray, List.set_cons_zero, List.set_cons_succ, i64_w, i32_w]
                rfl
               refine pv_ 3 40 (h := ?_)
               refine pv_ 4 41 (h := ?_)
               refine pv_ 5 42 (h := ?_)
               refine pv_ 6 43 (h := ?_)
               refine pv_ 7 44 (h := ?_)
               refine pu_ 8 45 (h := ?_)
               refine pu_ 9 46 (h := ?_)
               refine pu_ 10 47 (h := ?_)
               refine pu_ 11 48 (h := ?_)
               refine pu_ 12 49 (h := ?_)
               refine pu_ 13 50 (h := ?_)
               refine pu_ 14 51 (h := ?_)
               refine pu_ 15 52 (h := ?_)
               refine pu_ 16 53 (h := ?_)
               refine pu_ 17 54 (h := ?_)
               refine pv_ 18 55 (h := ?_)
               refine pv_ 19 56 (h := ?_)
               refine pv_ 20 57 (h := ?_)
               refine pv_ 21 58 (h := ?_)
               refine tk_ 22 59 (h := ?_)
               refine on_ 23 60 (h := fun K hK => ?_)
               refine goesY Try.func92 #[.int .i64 ((rd_T65 l0_1 x4_2).f1), .int .i64 0, .int .i64 1000] ?_
               with_reducible refine (spec_l1In.calls ((rd_T65 l0_1 x4_2).f1) 0 1000 true _ A41.out).mono ?_
               rintro e w' ⟨rfl, ⟨nd, rfl⟩⟩
               refine ⟨_, rfl, ?_⟩
               refine hK.out _ _ ⟨xc BK130 0 rfl, xc BK130 1 rfl, xc BK130 2 rfl, xc BK130 3 rfl, xc BK130 4 rfl, xc BK124 0 rfl, xc BK124 1 rfl, xc BK124 2 rfl, xc BK124 3 rfl⟩ (fun hHeld => ?_)
               clear hK K
               refine norm_ (a' := ?_) ?_ ?_
               rotate_left
               ·show Act.put _ (some 60) _ = _
                simp only [Act.put, List.setIfInBounds_toArray, List.set_cons_zero, List.set_cons_succ, i64_w, i32_w]
                rfl
               refine pv_ 24 61 (h := ?_)
               refine pv_ 25 62 (h := ?_)
               refine pv_ 26 63 (h := ?_)
               refine pv_ 27 64 (h := ?_)
               refine tk_ 28 65 (h := ?_)
               refine pv_ 29 66 (h := ?_)
               refine pv_ 30 67 (h := ?_)
               refine pv_ 31 68 (h := ?_)
               refine pv_ 32 69 (h := ?_)
               refine pv_ 33 70 (h := ?_)
               refine pv_ 36 73 (h := ?_)
               refine tk_ 34 71 (h := ?_)
               refine pv_ 35 72 (h := ?_)
               refine tk_ 37 74 (h := ?_)
               refine pv_ 38 75 (h := ?_)
               refine pv_ 39 76 (h := ?_)
               refine pv_ 40 77 (h := ?_)
               refine pv_ 41 78 (h := ?_)
               refine pv_ 43 80 (h := ?_)
               refine tk_ 42 79 (h := ?_)
               refine tk_ 44 81 (h := ?_)
               refine on_ 45 82 (h := fun K hK => ?_)
               refine goesY Try.func93 #[.slice A129_3 ((rd_T65 l0_1 x4_2).f3).length c129_3, .int .i64 a0_0] ?_
               with_reducible refine (spec_l7Nodes.calls k2 _ _ ((rd_T65 l0_1 x4_2).f3) a0_0 true _ ?side1 ?side2 A46.out).mono ?_
               (case side1 => repeat (first | exact (Kd.C_below HR129_3.out xbg) | (with_reducible refine Kd.C_alloc ?_ _) | (with_reducible refine Kd.C_drewN ?_ _) | (with_reducible refine Kd.C_drew ?_)))
               (case side2 => exact HC129_3.out)
               rintro e w' ⟨rfl, ⟨nd, rfl⟩⟩
               refine ⟨_, rfl, ?_⟩
               refine hK.out _ _ ⟨xc BK130 0 rfl, xc BK130 1 rfl, xc BK130 2 rfl, xc BK130 3 rfl, xc BK130 4 rfl, xc BK124 0 rfl, xc BK124 1 rfl, xc BK124 2 rfl, xc BK124 3 rfl⟩ (fun hHeld => ?_)
               clear hK K
               refine norm_ (a' := ?_) ?_ ?_
               rotate_left
               ·show Act.put _ (some 82) _ = _
                simp only [Act.put, List.setIfInBounds_toArray, List.set_cons_zero, List.set_cons_succ, i64_w, i32_w]
                rfl
               refine pv_ 46 83 (h := ?_)
               refine pv_ 47 84 (h := ?_)
               refine pv_ 48 85 (h := ?_)
               refine pv_ 49 86 (h := ?_)
               refine tk_ 50 87 (h := ?_)
               refine on_ 51 88 (h := fun K hK => ?_)
               refine goesY Try.func92 #[.int .i64 ((rd_T65 l0_1 x4_2).f4), .int .i64 1, .int .i64 3] ?_
               with_reducible refine (spec_l1In.calls ((rd_T65 l0_1 x4_2).f4) 1 3 t138 _ A48.out).mono ?_
               rintro e w' ⟨rfl, ⟨nd, rfl⟩⟩
               refine ⟨_, rfl, ?_⟩
               refine hK.out _ _ ⟨xc BK130 0 rfl, xc BK130 1 rfl, xc BK130 2 rfl, xc BK130 3 rfl, xc BK130 4 rfl, xc BK124 0 rfl, xc BK124 1 rfl, xc BK124 2 rfl, xc BK124 3 rfl⟩ (fun hHeld => ?_)
               clear hK K
               refine norm_ (a' := ?_) ?_ ?_
               rotate_left
               ·show Act.put _ (some 88) _ = _
                simp only [Act.put, List.setIfInBounds_toArray, List.set_cons_zero, List.set_cons_succ, i64_w, i32_w]
                rfl
               refine pv_ 52 89 (h := ?_)
               refine pv_ 53 90 (h := ?_)
               refine done_ (done_of HT_.out (by kernel_rfl)) ?_
               try go_wp2
               go_meet
               case rel => exact ⟨_, (!t138), (by first | rfl | (simp; done) | (simp [*]; done)), H', ⟨by have := HJ1.out; have := HK2.out; first | omega | exact Nat.le_refl _⟩, ⟨by (with_reducible repeat (first | apply Kd.R_alloc | apply Kd.R_drewN | apply Kd.R_drew)); exact HO_3.out⟩, ⟨xblk⟩, ⟨xblk⟩, ⟨xbg⟩⟩
              ·replace c47 := Bool.eq_false_iff.mpr c47
               subst c47
               have H1 : (spec_RollOk.j2 k2 x3_2 x4_2 true a0_0 l0_1 a0_2 l0_3 ((rd_T65 l0_1 x4_2).f0) ((rd_T65 l0_1 x4_2).f1) ((rd_T65 l0_1 x4_2).f2) ((rd_T65 l0_1 x4_2).f3) ((rd_T65 l0_1 x4_2).f4)) = some r := by rw [if_neg (show ¬ (false = true) by decide)] at H; exact H
               clear H; have H := H1; clear H1
               have H' := aM H
               clear H
               try go_wp2
               replace HO_3 := aM (Kd.R_drew HO_3.out); replace BK124 := aM (blk_drew BK124.out); replace BK130 := aM (blk_drew BK130.out); replace HB := aM (below_drew1 HB.out)
               refine start_ (n := 54) (S := fun w' => w'.cell? ⟨gb130, 0, none⟩ = some (.int .i64 ((rd_T65 l0_1 x4_2).f0)) ∧ w'.cell? ⟨gb130, 1, none⟩ = some (.int .i64 ((rd_T65 l0_1 x4_2).f1)) ∧ w'.cell? ⟨gb130, 2, none⟩ = some (.string ((rd_T65 l0_1 x4_2).f2)) ∧ w'.cell? ⟨gb130, 3, none⟩ = some (.slice A129_3 ((rd_T65 l0_1 x4_2).f3).length c129_3) ∧ w'.cell? ⟨gb130, 4, none⟩ = some (.int .i64 ((rd_T65 l0_1 x4_2).f4)) ∧ w'.cell? ⟨gb124, 0, none⟩ = some (.int .i64 a0_0) ∧ w'.cell? ⟨gb124, 1, none⟩ = some (.slice (some ad129) l0_1.length c0_1) ∧ w'.cell? ⟨gb124, 2, none⟩ = some (.int .i64 a0_2) ∧ w'.cell? ⟨gb124, 3, none⟩ = some (.slice A0_3 l0_3.length c0_3)) (ds := []) #[false, false, false, false, false, false, false, false, false, false, false, false, false, false, false, false, false, false, false, false, false, false, false, false, false, false, false, false, false, false, false, false, false, false, false, false, false, false, false, false, false, false, false, false, false, false, false, false, false, false, false, false, false, false] (by kernel_rfl) rfl rfl ⟨xc BK130 0 rfl, xc BK130 1 rfl, xc BK130 2 rfl, xc BK130 3 rfl, xc BK130 4 rfl, xc BK124 0 rfl, xc BK124 1 rfl, xc BK124 2 rfl, xc BK124 3 rfl⟩ (fun hHeld => ?_); refine with_tabW spec_RollOk.tab8 spec_RollOk.bits8 (fun HT_ HW_ => ?_)
               generalize w20.drew = w50 at HO_3 BK124 BK130 HB hHeld ⊢
               refine pv_ 0 37 (h := ?_)
               refine tk_ 1 38 (h := ?_)
               refine on_ 2 39 (h := fun K hK => ?_)
               refine goesY Try.func92 #[.int .i64 ((rd_T65 l0_1 x4_2).f0), .int .i64 1, .int .i64 1000] ?_
               with_reducible refine (spec_l1In.calls ((rd_T65 l0_1 x4_2).f0) 1 1000 true _ A21.out).mono ?_
               rintro e w' ⟨rfl, ⟨nd, rfl⟩⟩
               refine ⟨_, rfl, ?_⟩
               refine hK.out _ _ ⟨xc BK130 0 rfl, xc BK130 1 rfl, xc BK130 2 rfl, xc BK130 3 rfl, xc BK130 4 rfl, xc BK124 0 rfl, xc BK124 1 rfl, xc BK124 2 rfl, xc BK124 3 rfl⟩ (fun hHeld => ?_)
               clear hK K
               refine norm_ (a' := ?_) ?_ ?_
               rotate_left
               ·show Act.put _ (some 39) _ = _
                simp only [Act.put, List.setIfInBounds_toArray, List.set_cons_zero, List.set_cons_succ, i64_w, i32_w]
                rfl
               refine pv_ 3 40 (h := ?_)
               refine pv_ 4 41 (h := ?_)
               refine pv_ 5 42 (h := ?_)
               refine pv_ 6 43 (h := ?_)
               refine pv_ 7 44 (h := ?_)
               refine pu_ 8 45 (h := ?_)
               refine pu_ 9 46 (h := ?_)
               refine pu_ 10 47 (h := ?_)
               refine pu_ 11 48 (h := ?_)
               refine pu_ 12 49 (h := ?_)
               refine pu_ 13 50 (h := ?_)
               refine pu_ 14 51 (h := ?_)
               refine pu_ 15 52 (h := ?_)
               refine pu_ 16 53 (h := ?_)
               refine pu_ 17 54 (h := ?_)
               refine pv_ 18 55 (h := ?_)
               refine pv_ 19 56 (h := ?_)
               refine pv_ 20 57 (h := ?_)
               refine pv_ 21 58 (h := ?_)
               refine tk_ 22 59 (h := ?_)
               refine on_ 23 60 (h := fun K hK => ?_)
               refine goesY Try.func92 #[.int .i64 ((rd_T65 l0_1 x4_2).f1), .int .i64 0, .int .i64 1000] ?_
               with_reducible refine (spec_l1In.calls ((rd_T65 l0_1 x4_2).f1) 0 1000 true _ A41.out).mono ?_
               rintro e w' ⟨rfl, ⟨nd, rfl⟩⟩
               refine ⟨_, rfl, ?_⟩
               refine hK.out _ _ ⟨xc BK130 0 rfl, xc BK130 1 rfl, xc BK130 2 rfl, xc BK130 3 rfl, xc BK130 4 rfl, xc BK124 0 rfl, xc BK124 1 rfl, xc BK124 2 rfl, xc BK124 3 rfl⟩ (fun hHeld => ?_)
               clear hK K
               refine norm_ (a' := ?_) ?_ ?_
               rotate_left
               ·show Act.put _ (some 60) _ = _
                simp only [Act.put, List.setIfInBounds_toArray, List.set_cons_zero, List.set_cons_succ, i64_w, i32_w]
                rfl
               refine pv_ 24 61 (h := ?_)
               refine pv_ 25 62 (h := ?_)
               refine pv_ 26 63 (h := ?_)
               refine pv_ 27 64 (h := ?_)
               refine tk_ 28 65 (h := ?_)
               refine pv_ 29 66 (h := ?_)
               refine pv_ 30 67 (h := ?_)
               refine pv_ 31 68 (h := ?_)
               refine pv_ 32 69 (h := ?_)
               refine pv_ 33 70 (h := ?_)
               refine pv_ 36 73 (h := ?_)
               refine tk_ 34 71 (h := ?_)
               refine pv_ 35 72 (h := ?_)
               refine tk_ 37 74 (h := ?_)
               refine pv_ 38 75 (h := ?_)
               refine pv_ 39 76 (h := ?_)
               refine pv_ 40 77 (h := ?_)
               refine pv_ 41 78 (h := ?_)
               refine pv_ 43 80 (h := ?_)
               refine tk_ 42 79 (h := ?_)
               refine tk_ 44 81 (h := ?_)
               refine on_ 45 82 (h := fun K hK => ?_)
               refine goesY Try.func93 #[.slice A129_3 ((rd_T65 l0_1 x4_2).f3).length c129_3, .int .i64 a0_0] ?_
               with_reducible refine (spec_l7Nodes.calls k2 _ _ ((rd_T65 l0_1 x4_2).f3) a0_0 false _ ?side1 ?side2 A46.out).mono ?_
               (case side1 => repeat (first | exact (Kd.C_below HR129_3.out xbg) | (with_reducible refine Kd.C_alloc ?_ _) | (with_reducible refine Kd.C_drewN ?_ _) | (with_reducible refine Kd.C_drew ?_)))
               (case side2 => exact HC129_3.out)
               rintro e w' ⟨rfl, ⟨nd, rfl⟩⟩
               refine ⟨_, rfl, ?_⟩
               refine hK.out _ _ ⟨xc BK130 0 rfl, xc BK130 1 rfl, xc BK130 2 rfl, xc BK130 3 rfl, xc BK130 4 rfl, xc BK124 0 rfl, xc BK124 1 rfl, xc BK124 2 rfl, xc BK124 3 rfl⟩ (fun hHeld => ?_)
               clear hK K
               refine norm_ (a' := ?_) ?_ ?_
               rotate_left
               ·show Act.put _ (some 82) _ = _
                simp only [Act.put, List.setIfInBounds_toArray, List.set_cons_zero, List.set_cons_succ, i64_w, i32_w]
                rfl
               refine pv_ 46 83 (h := ?_)
               refine pv_ 47 84 (h := ?_)
               refine pv_ 48 85 (h := ?_)
               refine pu_ 49 86 (h := ?_)
               refine pu_ 50 87 (h := ?_)
               refine pu_ 51 88 (h := ?_)
               refine pu_ 52 89 (h := ?_)
               refine pv_ 53 90 (h := ?_)
               refine done_ (done_of HT_.out (by kernel_rfl)) ?_
               try go_wp2
               go_meet
               case rel => exact ⟨_, (true), (by first | rfl | (simp; done) | (simp [*]; done)), H', ⟨by have := HJ1.out; have := HK2.out; first | omega | exact Nat.le_refl _⟩, ⟨by (with_reducible repeat (first | apply Kd.R_alloc | apply Kd.R_drewN | apply Kd.R_drew)); exact HO_3.out⟩, ⟨xblk⟩, ⟨xblk⟩, ⟨xbg⟩⟩
            ·as_aux_lemma =>
             rw [if_neg c43] at H
             have c43b0 : ((((rd_T65 l0_1 x4_2).f2).size : Int) == 32) = false := beq_eq_false_iff_ne.mpr c43; have c43b1 : ((((rd_T65 l0_1 x4_2).f2).size : Int) != 32) = true := bne_iff_ne.mpr c43
             have H' := aM H
             clear H
             try go_wp2
             replace HO_3 := aM (Kd.R_drew HO_3.out); replace BK124 := aM (blk_drew BK124.out); replace BK130 := aM (blk_drew BK130.out); replace HB := aM (below_drew1 HB.out)
             refine start_ (n := 54) (S := fun w' => w'.cell? ⟨gb130, 0, none⟩ = some (.int .i64 ((rd_T65 l0_1 x4_2).f0)) ∧ w'.cell? ⟨gb130, 1, none⟩ = some (.int .i64 ((rd_T65 l0_1 x4_2).f1)) ∧ w'.cell? ⟨gb130, 2, none⟩ = some (.string ((rd_T65 l0_1 x4_2).f2)) ∧ w'.cell? ⟨gb130, 3, none⟩ = some (.slice A129_3 ((rd_T65 l0_1 x4_2).f3).length c129_3) ∧ w'.cell? ⟨gb130, 4, none⟩ = some (.int .i64 ((rd_T65 l0_1 x4_2).f4))) (ds := []) #[false, false, false, false, false, false, false, false, false, false, false, false, false, false, false, false, false, false, false, false, false, false, false, false, false, false, false, false, false, false, false, false, false, false, false, false, false, false, false, false, false, false, false, false, false, false, false, false, false, false, false, false, false, false] (by kernel_rfl) rfl rfl ⟨xc BK130 0 rfl, xc BK130 1 rfl, xc BK130 2 rfl, xc BK130 3 rfl, xc BK130 4 rfl⟩ (fun hHeld => ?_); refine with_tabW spec_RollOk.tab8 spec_RollOk.bits8 (fun HT_ HW_ => ?_)
             generalize w20.drew = w51 at HO_3 BK124 BK130 HB hHeld ⊢
             refine pv_ 0 37 (h := ?_)
             refine tk_ 1 38 (h := ?_)
             refine on_ 2 39 (h := fun K hK => ?_)
             refine goesY Try.func92 #[.int .i64 ((rd_T65 l0_1 x4_2).f0), .int .i64 1, .int .i64 1000] ?_
             with_reducible refine (spec_l1In.calls ((rd_T65 l0_1 x4_2).f0) 1 1000 true _ A21.out).mono ?_
             rintro e w' ⟨rfl, ⟨nd, rfl⟩⟩
             refine ⟨_, rfl, ?_⟩
             refine hK.out _ _ ⟨xc BK130 0 rfl, xc BK130 1 rfl, xc BK130 2 rfl, xc BK130 3 rfl, xc BK130 4 rfl⟩ (fun hHeld => ?_)
             clear hK K
             refine norm_ (a' := ?_) ?_ ?_
             rotate_left
             ·show Act.put _ (some 39) _ = _
              simp only [Act.put, List.setIfInBounds_toArray, List.set_cons_zero, List.set_cons_succ, i64_w, i32_w]
              rfl
             refine pv_ 3 40 (h := ?_)
             refine pv_ 4 41 (h := ?_)
             refine pv_ 5 42 (h := ?_)
             refine pv_ 6 43 (h := ?_)
             refine pv_ 7 44 (h := ?_)
             refine pu_ 8 45 (h := ?_)
             refine pu_ 9 46 (h := ?_)
             refine pu_ 10 47 (h := ?_)
             refine pu_ 11 48 (h := ?_)
             refine pu_ 12 49 (h := ?_)
             refine pu_ 13 50 (h := ?_)
             refine pu_ 14 51 (h := ?_)
             refine pu_ 15 52 (h := ?_)
             refine pu_ 16 53 (h := ?_)
             refine pu_ 17 54 (h := ?_)
             refine pv_ 18 55 (h := ?_)
             refine pv_ 19 56 (h := ?_)
             refine pv_ 20 57 (h := ?_)
             refine pv_ 21 58 (h := ?_)
             refine tk_ 22 59 (h := ?_)
             refine on_ 23 60 (h := fun K hK => ?_)
             refine goesY Try.func92 #[.int .i64 ((rd_T65 l0_1 x4_2).f1), .int .i64 0, .int .i64 1000] ?_
             with_reducible refine (spec_l1In.calls ((rd_T65 l0_1 x4_2).f1) 0 1000 true _ A41.out).mono ?_
             rintro e w' ⟨rfl, ⟨nd, rfl⟩⟩
             refine ⟨_, rfl, ?_⟩
             refine hK.out _ _ ⟨xc BK130 0 rfl, xc BK130 1 rfl, xc BK130 2 rfl, xc BK130 3 rfl, xc BK130 4 rfl⟩ (fun hHeld => ?_)
             clear hK K
             refine norm_ (a' := ?_) ?_ ?_
             rotate_left
             ·show Act.put _ (some 60) _ = _
              simp only [Act.put, List.setIfInBounds_toArray, List.set_cons_zero, List.set_cons_succ, i64_w, i32_w]
              rfl
             refine pv_ 24 61 (h := ?_)
             refine pv_ 25 62 (h := ?_)
             refine pv_ 26 63 (h := ?_)
             refine pv_ 27 64 (h := ?_)
             refine tk_ 28 65 (h := ?_)
             refine pv_ 29 66 (h := ?_)
             refine pv_ 30 67 (h := ?_)
             refine pv_ 31 68 (h := ?_)
             refine pv_ 32 69 (h := ?_)
             refine pu_ 33 70 (h := ?_)
             refine pu_ 34 71 (h := ?_)
             refine pu_ 35 72 (h := ?_)
             refine pu_ 36 73 (h := ?_)
             refine pu_ 37 74 (h := ?_)
             refine pu_ 38 75 (h := ?_)
             refine pv_ 39 76 (h := ?_)
             refine pv_ 40 77 (h := ?_)
             refine pu_ 41 78 (h := ?_)
             refine pu_ 42 79 (h := ?_)
             refine pu_ 43 80 (h := ?_)
             refine pu_ 44 81 (h := ?_)
             refine pu_ 45 82 (h := ?_)
             refine pu_ 46 83 (h := ?_)
             refine pv_ 47 84 (h := ?_)
             refine pv_ 48 85 (h := ?_)
             refine pu_ 49 86 (h := ?_)
             refine pu_ 50 87 (h := ?_)
             refine pu_ 51 88 (h := ?_)
             refine pu_ 52 89 (h := ?_)
             refine pv_ 53 90 (h := ?_)
             refine done_ (done_of HT_.out (by kernel_rfl)) ?_
             try go_wp2
             go_meet
             case rel => exact ⟨_, (true), (by first | rfl | (simp; done) | (simp [*]; done)), H', ⟨by have := HJ1.out; have := HK2.out; first | omega | exact Nat.le_refl _⟩, ⟨by (with_reducible repeat (first | apply Kd.R_alloc | apply Kd.R_drewN | apply Kd.R_drew)); exact HO_3.out⟩, ⟨xblk⟩, ⟨xblk⟩, ⟨xbg⟩⟩
           ·replace c42 := Bool.eq_false_iff.mpr c42
            subst c42
            have H1 : (spec_RollOk.j2 k2 x3_2 x4_2 true a0_0 l0_1 a0_2 l0_3 ((rd_T65 l0_1 x4_2).f0) ((rd_T65 l0_1 x4_2).f1) ((rd_T65 l0_1 x4_2).f2) ((rd_T65 l0_1 x4_2).f3) ((rd_T65 l0_1 x4_2).f4)) = some r := by rw [if_neg (show ¬ (false = true) by decide)] at H; exact H
            clear H; have H := H1; clear H1
            have H' := aM H
            clear H
            try go_wp2
            replace HO_3 := aM (Kd.R_drew HO_3.out); replace BK124 := aM (blk_drew BK124.out); replace BK130 := aM (blk_drew BK130.out); replace HB := aM (below_drew1 HB.out)
            refine start_ (n := 54) (S := fun w' => w'.cell? ⟨gb130, 0, none⟩ = some (.int .i64 ((rd_T65 l0_1 x4_2).f0)) ∧ w'.cell? ⟨gb130, 1, none⟩ = some (.int .i64 ((rd_T65 l0_1 x4_2).f1)) ∧ w'.cell? ⟨gb130, 2, none⟩ = some (.string ((rd_T65 l0_1 x4_2).f2)) ∧ w'.cell? ⟨gb130, 3, none⟩ = some (.slice A129_3 ((rd_T65 l0_1 x4_2).f3).length c129_3) ∧ w'.cell? ⟨gb130, 4, none⟩ = some (.int .i64 ((rd_T65 l0_1 x4_2).f4))) (ds := []) #[false, false, false, false, false, false, false, false, false, false, false, false, false, false, false, false, false, false, false, false, false, false, false, false, false, false, false, false, false, false, false, false, false, false, false, false, false, false, false, false, false, false, false, false, false, false, false, false, false, false, false, false, false, false] (by kernel_rfl) rfl rfl ⟨xc BK130 0 rfl, xc BK130 1 rfl, xc BK130 2 rfl, xc BK130 3 rfl, xc BK130 4 rfl⟩ (fun hHeld => ?_); refine with_tabW spec_RollOk.tab8 spec_RollOk.bits8 (fun HT_ HW_ => ?_)
            generalize w20.drew = w52 at HO_3 BK124 BK130 HB hHeld ⊢
            refine pv_ 0 37 (h := ?_)
            refine tk_ 1 38 (h := ?_)
            refine on_ 2 39 (h := fun K hK => ?_)
            refine goesY Try.func92 #[.int .i64 ((rd_T65 l0_1 x4_2).f0), .int .i64 1, .int .i64 1000] ?_
            with_reducible refine (spec_l1In.calls ((rd_T65 l0_1 x4_2).f0) 1 1000 true _ A21.out).mono ?_
            rintro e w' ⟨rfl, ⟨nd, rfl⟩⟩
            refine ⟨_, rfl, ?_⟩
            refine hK.out _ _ ⟨xc BK130 0 rfl, xc BK130 1 rfl, xc BK130 2 rfl, xc BK130 3 rfl, xc BK130 4 rfl⟩ (fun hHeld => ?_)
            clear hK K
            refine norm_ (a' := ?_) ?_ ?_
            rotate_left
            ·show Act.put _ (some 39) _ = _
             simp only [Act.put, List.setIfInBounds_toArray, List.set_cons_zero, List.set_cons_succ, i64_w, i32_w]
             rfl
            refine pv_ 3 40 (h := ?_)
            refine pv_ 4 41 (h := ?_)
            refine pv_ 5 42 (h := ?_)
            refine pv_ 6 43 (h := ?_)
            refine pv_ 7 44 (h := ?_)
            refine pu_ 8 45 (h := ?_)
            refine pu_ 9 46 (h := ?_)
            refine pu_ 10 47 (h := ?_)
            refine pu_ 11 48 (h := ?_)
            refine pu_ 12 49 (h := ?_)
            refine pu_ 13 50 (h := ?_)
            refine pu_ 14 51 (h := ?_)
            refine pu_ 15 52 (h := ?_)
            refine pu_ 16 53 (h := ?_)
            refine pu_ 17 54 (h := ?_)
            refine pv_ 18 55 (h := ?_)
            refine pv_ 19 56 (h := ?_)
            refine pv_ 20 57 (h := ?_)
            refine pv_ 21 58 (h := ?_)
            refine tk_ 22 59 (h := ?_)
            refine on_ 23 60 (h := fun K hK => ?_)
            refine goesY Try.func92 #[.int .i64 ((rd_T65 l0_1 x4_2).f1), .int .i64 0, .int .i64 1000] ?_
            with_reducible refine (spec_l1In.calls ((rd_T65 l0_1 x4_2).f1) 0 1000 false _ A41.out).mono ?_
            rintro e w' ⟨rfl, ⟨nd, rfl⟩⟩
            refine ⟨_, rfl, ?_⟩
            refine hK.out _ _ ⟨xc BK130 0 rfl, xc BK130 1 rfl, xc BK130 2 rfl, xc BK130 3 rfl, xc BK130 4 rfl⟩ (fun hHeld => ?_)
            clear hK K
            refine norm_ (a' := ?_) ?_ ?_
            rotate_left
            ·show Act.put _ (some 60) _ = _
             simp only [Act.put, List.setIfInBounds_toArray, List.set_cons_zero, List.set_cons_succ, i64_w, i32_w]
             rfl
            refine pv_ 24 61 (h := ?_)
            refine pv_ 25 62 (h := ?_)
            refine pv_ 26 63 (h := ?_)
            refine pu_ 27 64 (h := ?_)
            refine pu_ 28 65 (h := ?_)
            refine pu_ 29 66 (h := ?_)
            refine pu_ 30 67 (h := ?_)
            refine pv_ 31 68 (h := ?_)
            refine pv_ 32 69 (h := ?_)
            refine pu_ 33 70 (h := ?_)
            refine pu_ 34 71 (h := ?_)
            refine pu_ 35 72 (h := ?_)
            refine pu_ 36 73 (h := ?_)
            refine pu_ 37 74 (h := ?_)
            refine pu_ 38 75 (h := ?_)
            refine pv_ 39 76 (h := ?_)
            refine pv_ 40 77 (h := ?_)
            refine pu_ 41 78 (h := ?_)
            refine pu_ 42 79 (h := ?_)
            refine pu_ 43 80 (h := ?_)
            refine pu_ 44 81 (h := ?_)
            refine pu_ 45 82 (h := ?_)
            refine pu_ 46 83 (h := ?_)
            refine pv_ 47 84 (h := ?_)
            refine pv_ 48 85 (h := ?_)
            refine pu_ 49 86 (h := ?_)
            refine pu_ 50 87 (h := ?_)
            refine pu_ 51 88 (h := ?_)
            refine pu_ 52 89 (h := ?_)
            refine pv_ 53 90 (h := ?_)
            refine done_ (done_of HT_.out (by kernel_rfl)) ?_
            try go_wp2
            go_meet
            case rel => exact ⟨_, (true), (by first | rfl | (simp; done) | (simp [*]; done)), H', ⟨by have := HJ1.out; have := HK2.out; first | omega | exact Nat.le_refl _⟩, ⟨by (with_reducible repeat (first | apply Kd.R_alloc | apply Kd.R_drewN | apply Kd.R_drew)); exact HO_3.out⟩, ⟨xblk⟩, ⟨xblk⟩, ⟨xbg⟩⟩
         ·replace c22 := Bool.eq_false_iff.mpr c22
          subst c22
          have H1 : (spec_RollOk.j2 k2 x3_2 x4_2 true a0_0 l0_1 a0_2 l0_3 ((rd_T65 l0_1 x4_2).f0) ((rd_T65 l0_1 x4_2).f1) ((rd_T65 l0_1 x4_2).f2) ((rd_T65 l0_1 x4_2).f3) ((rd_T65 l0_1 x4_2).f4)) = some r := by rw [if_neg (show ¬ (false = true) by decide)] at H; exact H
          clear H; have H := H1; clear H1
          have H' := aM H
          clear H
          try go_wp2
          replace HO_3 := aM (Kd.R_drew HO_3.out); replace BK124 := aM (blk_drew BK124.out); replace BK130 := aM (blk_drew BK130.out); replace HB := aM (below_drew1 HB.out)
          refine start_ (n := 54) (S := fun w' => w'.cell? ⟨gb130, 0, none⟩ = some (.int .i64 ((rd_T65 l0_1 x4_2).f0)) ∧ w'.cell? ⟨gb130, 1, none⟩ = some (.int .i64 ((rd_T65 l0_1 x4_2).f1)) ∧ w'.cell? ⟨gb130, 2, none⟩ = some (.string ((rd_T65 l0_1 x4_2).f2)) ∧ w'.cell? ⟨gb130, 3, none⟩ = some (.slice A129_3 ((rd_T65 l0_1 x4_2).f3).length c129_3) ∧ w'.cell? ⟨gb130, 4, none⟩ = some (.int .i64 ((rd_T65 l0_1 x4_2).f4))) (ds := []) #[false, false, false, false, false, false, false, false, false, false, false, false, false, false, false, false, false, false, false, false, false, false, false, false, false, false, false, false, false, false, false, false, false, false, false, false, false, false, false, false, false, false, false, false, false, false, false, false, false, false, false, false, false, false] (by kernel_rfl) rfl rfl ⟨xc BK130 0 rfl, xc BK130 1 rfl, xc BK130 2 rfl, xc BK130 3 rfl, xc BK130 4 rfl⟩ (fun hHeld => ?_); refine with_tabW spec_RollOk.tab8 spec_RollOk.bits8 (fun HT_ HW_ => ?_)
          generalize w20.drew = w53 at HO_3 BK124 BK130 HB hHeld ⊢
          refine pv_ 0 37 (h := ?_)
          refine tk_ 1 38 (h := ?_)
          refine on_ 2 39 (h := fun K hK => ?_)
          refine goesY Try.func92 #[.int .i64 ((rd_T65 l0_1 x4_2).f0), .int .i64 1, .int .i64 1000] ?_
          with_reducible refine (spec_l1In.calls ((rd_T65 l0_1 x4_2).f0) 1 1000 false _ A21.out).mono ?_
          rintro e w' ⟨rfl, ⟨nd, rfl⟩⟩
          refine ⟨_, rfl, ?_⟩
          refine hK.out _ _ ⟨xc BK130 0 rfl, xc BK130 1 rfl, xc BK130 2 rfl, xc BK130 3 rfl, xc BK130 4 rfl⟩ (fun hHeld => ?_)
          clear hK K
          refine norm_ (a' := ?_) ?_ ?_
          rotate_left
          ·show Act.put _ (some 39) _ = _
           simp only [Act.put, List.setIfInBounds_toArray, List.set_cons_zero, List.set_cons_succ, i64_w, i32_w]
           rfl
          refine pv_ 3 40 (h := ?_)
          refine pv_ 4 41 (h := ?_)
          refine pu_ 5 42 (h := ?_)
          refine pu_ 6 43 (h := ?_)
          refine pu_ 7 44 (h := ?_)
          refine pu_ 8 45 (h := ?_)
          refine pu_ 9 46 (h := ?_)
          refine pu_ 10 47 (h := ?_)
          refine pu_ 11 48 (h := ?_)
          refine pu_ 12 49 (h := ?_)
          refine pu_ 13 50 (h := ?_)
          refine pu_ 14 51 (h := ?_)
          refine pu_ 15 52 (h := ?_)
          refine pu_ 16 53 (h := ?_)
          refine pu_ 17 54 (h := ?_)
          refine pu_ 18 55 (h := ?_)
          refine pv_ 19 56 (h := ?_)
          refine pv_ 20 57 (h := ?_)
          refine pu_ 21 58 (h := ?_)
          refine pu_ 22 59 (h := ?_)
          refine pu_ 23 60 (h := ?_)
          refine pu_ 24 61 (h := ?_)
          refine pv_ 25 62 (h := ?_)
          refine pv_ 26 63 (h := ?_)
          refine pu_ 27 64 (h := ?_)
          refine pu_ 28 65 (h := ?_)
          refine pu_ 29 66 (h := ?_)
          refine pu_ 30 67 (h := ?_)
          refine pv_ 31 68 (h := ?_)
          refine pv_ 32 69 (h := ?_)
          refine pu_ 33 70 (h := ?_)
          refine pu_ 34 71 (h := ?_)
          refine pu_ 35 72 (h := ?_)
          refine pu_ 36 73 (h := ?_)
          refine pu_ 37 74 (h := ?_)
          refine pu_ 38 75 (h := ?_)
          refine pv_ 39 76 (h := ?_)
          refine pv_ 40 77 (h := ?_)
          refine pu_ 41 78 (h := ?_)
          refine pu_ 42 79 (h := ?_)
          refine pu_ 43 80 (h := ?_)
          refine pu_ 44 81 (h := ?_)
          refine pu_ 45 82 (h := ?_)
          refine pu_ 46 83 (h := ?_)
          refine pv_ 47 84 (h := ?_)
          refine pv_ 48 85 (h := ?_)
          refine pu_ 49 86 (h := ?_)
          refine pu_ 50 87 (h := ?_)
          refine pu_ 51 88 (h := ?_)
          refine pu_ 52 89 (h := ?_)
          refine pv_ 53 90 (h := ?_)
          refine done_ (done_of HT_.out (by kernel_rfl)) ?_
          try go_wp2
          go_meet
          case rel => exact ⟨_, (true), (by first | rfl | (simp; done) | (simp [*]; done)), H', ⟨by have := HJ1.out; have := HK2.out; first | omega | exact Nat.le_refl _⟩, ⟨by (with_reducible repeat (first | apply Kd.R_alloc | apply Kd.R_drewN | apply Kd.R_drew)); exact HO_3.out⟩, ⟨xblk⟩, ⟨xblk⟩, ⟨xbg⟩⟩
        case rest =>
         clear HC15
         try clear c1
         try clear c2
         try clear p2
         try clear c9
         try clear c12
         try clear c22
         obtain ⟨kq, x90_14, rfl, HA, HJ14, HO_3, BK124, BK130, HB⟩ := hcut
         cases kq with
         | zero => exact absurd HA.out (by simp [spec_RollOk.j2])
         | succ kj14 =>
          have H := HA.out; clear HA
          simp only [spec_RollOk.j2] at H
          by_cases c54 : x90_14 = true
          ·subst c54
           have H1 : (some false) = some r := by rw [if_pos rfl] at H; exact H
           clear H; have H := H1; clear H1
           obtain rfl := Option.some.inj H
           go_wp2
           go_ret
           exact ⟨xerr, xbg⟩
          ·replace c54 := Bool.eq_false_iff.mpr c54
           subst c54
           have H1 : (if ((rd_T65 l0_1 x4_2).f4) = 2 then (if x3_2.length < 17592186044416 then (if (((rd_T65 l0_1 x4_2).f3).length : Int) = a0_0 then (spec_RollOk.l0 kj14 (x3_2 ++ [((rd_T65 l0_1 x4_2).f0)]) (wrap64 (x4_2 + 1)) a0_0 l0_1 a0_2 l0_3) else (some false)) else (none)) else (spec_RollOk.l0 kj14 x3_2 (wrap64 (x4_2 + 1)) a0_0 l0_1 a0_2 l0_3)) = some r := by rw [if_neg (show ¬ (false = true) by decide)] at H; exact H
           clear H; have H := H1; clear H1
           by_cases c55 : ((rd_T65 l0_1 x4_2).f4) = 2
           ·as_aux_lemma =>
            rw [if_pos c55] at H
            have c55b0 : (((rd_T65 l0_1 x4_2).f4) == 2) = true := beq_iff_eq.mpr c55; have c55b1 : (((rd_T65 l0_1 x4_2).f4) != 2) = false := bne_eq_false_iff_eq.mpr c55; clear c55
            by_cases c56 : x3_2.length < 17592186044416
            ·as_aux_lemma =>
             rw [if_pos c56] at H
             have LMc56 := aM c56; clear c56
             obtain ⟨y139, hy139⟩ : ∃ y_ : List Int, y_ = (x3_2 ++ [((rd_T65 l0_1 x4_2).f0)]) := ⟨_, rfl⟩
             replace H : (if (((rd_T65 l0_1 x4_2).f3).length : Int) = a0_0 then (spec_RollOk.l0 kj14 y139 (wrap64 (x4_2 + 1)) a0_0 l0_1 a0_2 l0_3) else (some false)) = some r := by first | (rw [hy139]; with_reducible exact H) | (have H2_ := (Option.bind_some _ _).symm.trans H; rw [hy139]; with_reducible exact H2_) | (have H2_ := (Option.bind_some _ _).symm.trans H; with_reducible exact H2_) | with_reducible exact H | (rw [hy139]; exact H) | exact H
             have Ny139 := aM hy139; clear hy139
             by_cases c57 : (((rd_T65 l0_1 x4_2).f3).length : Int) = a0_0
             ·rw [if_pos c57] at H
              have c57b0 : ((((rd_T65 l0_1 x4_2).f3).length : Int) == a0_0) = true := beq_iff_eq.mpr c57; have c57b1 : ((((rd_T65 l0_1 x4_2).f3).length : Int) != a0_0) = false := bne_eq_false_iff_eq.mpr c57; clear c57
              have H' := aM H
              clear H; have hnb58 := NB130_124.out; have hnc58 := NB124_130.out; obtain ⟨hcz59_0, hcz59_1, hcz59_2, hcz59_3, hcz59_4, hfz59_0, hfz59_1, hfz59_2, hfz59_3, hfz59_4⟩ := xf5 (w := wc) BK130
              go_wp2_with (first | ((with_reducible refine gate_builtin (b := .append) (xs := #[.tmp 94, .tmp 97]) rfl ?_); (try (refine gate_guard (by rfl) ?_; dsimp only)); at_builtin; refine Kd.R_append (Kd.int .i64) (w0 := w) w.heap.size rfl (.tmp 94) (.tmp 97) 38 3 (.int .i64 0) 8 rfl Try.underlying38 info3 rfl (by decide) (by omega) u3 x3_2 ((rd_T65 l0_1 x4_2).f0) [.int .i64 ((rd_T65 l0_1 x4_2).f0)] (fun _ => True) (fun _ => False) rfl rfl ?aP (fun _ hk => hk.elim) ?aF ?aO ?aB ?aS ?aL ?_; (case aP => exact rfl); (case aB => exact xbg); (case aF => exact (fun _ _ => trivial)); (case aO => exact (xr HO_3)); (case aS => exact (below_size xbg)); (case aL => have := LMc56.out; omega); intro v140 w60 ho hb hg hat; rw [← Ny139.out] at ho; have n0_ := aM (blk_grown (g := gb124) (o := .cells #[.int .i64 a0_0, .slice (some ad129) l0_1.length c0_1, .int .i64 a0_2, .slice A0_3 l0_3.length c0_3] 43 (0, 0)) xblk hg (Kd.R_ne HO_3.out BK124.out (by decide))); have n1_ := aM (blk_grown (g := gb130) (o := .cells #[.int .i64 ((rd_T65 l0_1 x4_2).f0), .int .i64 ((rd_T65 l0_1 x4_2).f1), .string ((rd_T65 l0_1 x4_2).f2), .slice A129_3 ((rd_T65 l0_1 x4_2).f3).length c129_3, .int .i64 ((rd_T65 l0_1 x4_2).f4)] 65 (0, 0)) xblk hg (Kd.R_ne HO_3.out BK130.out (by decide))); have n2_ := aM (hb); have n3_ := aM (ho); clear BK124; clear BK130; clear HB; clear HO_3; have BK124 := n0_; have BK130 := n1_; have HB := n2_; have HO141 := n3_; clear n0_ n1_ n2_ n3_; clear ho hb hg hat; obtain ⟨hcz61_0, hcz61_1, hcz61_2, hcz61_3, hcz61_4, hfz61_0, hfz61_1, hfz61_2, hfz61_3, hfz61_4⟩ := xf5 (w := w60) BK130; obtain ⟨hcz62_0, hcz62_1, hcz62_2, hcz62_3, hfz62_0, hfz62_1, hfz62_2, hfz62_3⟩ := xf4 (w := w60) BK124))
              go_roundg kj14
              case measure => have := HJ1.out; have := HK2.out; have := HJ14.out; omega
              case rel => exact ⟨(y139), (wrap64 (x4_2 + 1)), (by first | rfl | (simp; done) | (simp [*]; done)), H', ⟨by have := HJ1.out; have := HK2.out; have := HJ14.out; omega⟩, ⟨by (with_reducible repeat (first | apply Kd.R_alloc | apply Kd.R_drewN | apply Kd.R_drew)); exact HO141.out⟩, ⟨xblk⟩, ⟨xbg⟩⟩
             ·rw [if_neg c57] at H
              have c57b0 : ((((rd_T65 l0_1 x4_2).f3).length : Int) == a0_0) = false := beq_eq_false_iff_ne.mpr c57; have c57b1 : ((((rd_T65 l0_1 x4_2).f3).length : Int) != a0_0) = true := bne_iff_ne.mpr c57
              obtain rfl := Option.some.inj H
              have hnb63 := NB130_124.out; have hnc63 := NB124_130.out; obtain ⟨hcz64_0, hcz64_1, hcz64_2, hcz64_3, hcz64_4, hfz64_0, hfz64_1, hfz64_2, hfz64_3, hfz64_4⟩ := xf5 (w := wc) BK130
              go_wp2_with (first | ((with_reducible refine gate_builtin (b := .append) (xs := #[.tmp 94, .tmp 97]) rfl ?_); (try (refine gate_guard (by rfl) ?_; dsimp only)); at_builtin; refine Kd.R_append (Kd.int .i64) (w0 := w) w.heap.size rfl (.tmp 94) (.tmp 97) 38 3 (.int .i64 0) 8 rfl Try.underlying38 info3 rfl (by decide) (by omega) u3 x3_2 ((rd_T65 l0_1 x4_2).f0) [.int .i64 ((rd_T65 l0_1 x4_2).f0)] (fun _ => True) (fun _ => False) rfl rfl ?aP (fun _ hk => hk.elim) ?aF ?aO ?aB ?aS ?aL ?_; (case aP => exact rfl); (case aB => exact xbg); (case aF => exact (fun _ _ => trivial)); (case aO => exact (xr HO_3)); (case aS => exact (below_size xbg)); (case aL => have := LMc56.out; omega); intro v140 w65 ho hb hg hat; rw [← Ny139.out] at ho; have n0_ := aM (blk_grown (g := gb124) (o := .cells #[.int .i64 a0_0, .slice (some ad129) l0_1.length c0_1, .int .i64 a0_2, .slice A0_3 l0_3.length c0_3] 43 (0, 0)) xblk hg (Kd.R_ne HO_3.out BK124.out (by decide))); have n1_ := aM (blk_grown (g := gb130) (o := .cells #[.int .i64 ((rd_T65 l0_1 x4_2).f0), .int .i64 ((rd_T65 l0_1 x4_2).f1), .string ((rd_T65 l0_1 x4_2).f2), .slice A129_3 ((rd_T65 l0_1 x4_2).f3).length c129_3, .int .i64 ((rd_T65 l0_1 x4_2).f4)] 65 (0, 0)) xblk hg (Kd.R_ne HO_3.out BK130.out (by decide))); have n2_ := aM (hb); have n3_ := aM (ho); clear BK124; clear BK130; clear HB; clear HO_3; have BK124 := n0_; have BK130 := n1_; have HB := n2_; have HO141 := n3_; clear n0_ n1_ n2_ n3_; clear ho hb hg hat; obtain ⟨hcz66_0, hcz66_1, hcz66_2, hcz66_3, hcz66_4, hfz66_0, hfz66_1, hfz66_2, hfz66_3, hfz66_4⟩ := xf5 (w := w65) BK130; obtain ⟨hcz67_0, hcz67_1, hcz67_2, hcz67_3, hfz67_0, hfz67_1, hfz67_2, hfz67_3⟩ := xf4 (w := w65) BK124))
              go_ret
              exact ⟨xerr, xbg⟩
            ·rw [if_neg c56] at H
             exact absurd H (by simp)
           ·rw [if_neg c55] at H
            have c55b0 : (((rd_T65 l0_1 x4_2).f4) == 2) = false := beq_eq_false_iff_ne.mpr c55; have c55b1 : (((rd_T65 l0_1 x4_2).f4) != 2) = true := bne_iff_ne.mpr c55
            have H' := aM H
            clear H; have hnb68 := NB130_124.out; have hnc68 := NB124_130.out; obtain ⟨hcz69_0, hcz69_1, hcz69_2, hcz69_3, hcz69_4, hfz69_0, hfz69_1, hfz69_2, hfz69_3, hfz69_4⟩ := xf5 (w := wc) BK130
            go_wp2
            go_roundg kj14
            case measure => have := HJ1.out; have := HK2.out; have := HJ14.out; omega
            case rel => exact ⟨(x3_2), (wrap64 (x4_2 + 1)), (by first | rfl | (simp; done) | (simp [*]; done)), H', ⟨by have := HJ1.out; have := HK2.out; have := HJ14.out; omega⟩, ⟨by (with_reducible repeat (first | apply Kd.R_alloc | apply Kd.R_drewN | apply Kd.R_drew)); exact HO_3.out⟩, ⟨xblk⟩, ⟨xbg⟩⟩
       ·rw [if_neg c14] at H
        exact absurd H (by simp)
      ·as_aux_lemma =>
       rw [if_neg c13] at H
       have c13b0 : decide (x4_2 < (l0_1.length : Int)) = false := decide_eq_false c13; clear c13
       have H' := aM H
       clear H; obtain ⟨hcz70_0, hcz70_1, hcz70_2, hcz70_3, hfz70_0, hfz70_1, hfz70_2, hfz70_3⟩ := xf4 (w := wr) BK124
       go_wp2
       go_loopg [6, 7] k2 (fun kq v6 v7 w' => ∃ (x6_3 : Int) (x7_3 : Int), v6 = .int .i64 x6_3 ∧ v7 = .int .i64 x7_3 ∧ Aside0 (spec_RollOk.l1 kq x3_2 x6_3 x7_3 a0_0 l0_1 a0_2 l0_3 = some r) ∧ Aside0 (kq ≤ k2) ∧ Aside0 (Kd.R (Kd.int .i64) 3 w' w.heap.size (fun _ => True) u3 x3_2) ∧ Aside0 (w'.heap[gb124]? = some (.cells #[.int .i64 a0_0, (.slice A0_1 l0_1.length c0_1), .int .i64 a0_2, (.slice A0_3 l0_3.length c0_3)] 43 (0, 0))) ∧ Aside0 (Below w.heap.size w w'))
       case atStart => exact ⟨(0), (0), (by first | rfl | (simp; done) | (simp [*]; done)), (by first | rfl | (simp; done) | (simp [*]; done)), H', ⟨Nat.le_refl _⟩, ⟨by (with_reducible repeat (first | apply Kd.R_alloc | apply Kd.R_drewN | apply Kd.R_drew)); exact HO_3.out⟩, ⟨xblk⟩, ⟨xbg⟩⟩
       case round =>
        clear H'
        try clear c1
        try clear c2
        try clear p2
        try clear c5
        try clear c6
        try clear p6
        try clear c9
        try clear c12
        try clear c13
        try clear c13b0
        try clear c14
        try clear c22
        try clear c54
        try clear c55
        try clear c55b0
        try clear c55b1
        try clear c56
        try clear c57
        try clear c57b0
        try clear c57b1
        try clear c58
        try clear c63
        try clear p64
        try clear c68
        try clear hcz59_0 hcz59_1 hcz59_2 hcz59_3 hcz59_4
        try clear hcz61_0 hcz61_1 hcz61_2 hcz61_3 hcz61_4
        try clear hcz62_0 hcz62_1 hcz62_2 hcz62_3
        try clear hcz64_0 hcz64_1 hcz64_2 hcz64_3 hcz64_4
        try clear hcz66_0 hcz66_1 hcz66_2 hcz66_3 hcz66_4
        try clear hcz67_0 hcz67_1 hcz67_2 hcz67_3
        try clear hcz69_0 hcz69_1 hcz69_2 hcz69_3 hcz69_4
        try clear hcz70_0 hcz70_1 hcz70_2 hcz70_3
        try clear hfz59_0
        try clear hfz59_1
        try clear hfz59_2
        try clear hfz59_3
        try clear hfz59_4
        try clear hfz61_0
        try clear hfz61_1
        try clear hfz61_2
        try clear hfz61_3
        try clear hfz61_4
        try clear hfz62_0
        try clear hfz62_1
        try clear hfz62_2
        try clear hfz62_3
        try clear hfz64_0
        try clear hfz64_1
        try clear hfz64_2
        try clear hfz64_3
        try clear hfz64_4
        try clear hfz66_0
        try clear hfz66_1
        try clear hfz66_2
        try clear hfz66_3
        try clear hfz66_4
        try clear hfz67_0
        try clear hfz67_1
        try clear hfz67_2
        try clear hfz67_3
        try clear hfz69_0
        try clear hfz69_1
        try clear hfz69_2
        try clear hfz69_3
        try clear hfz69_4
        try clear hfz70_0
        try clear hfz70_1
        try clear hfz70_2
        try clear hfz70_3
        try clear p2
        obtain ⟨x6_3, x7_3, rfl, rfl, HA, HK3, HO_3, BK124, HB⟩ := hrel
        cases gk with
        | zero => exact absurd HA.out (by simp [spec_RollOk.l1])
        | succ k3 =>
         have H := HA.out; clear HA
         simp only [spec_RollOk.l1] at H
         by_cases c71 : x7_3 < (l0_3.length : Int)
         ·rw [if_pos c71] at H
          have c71b0 : decide (x7_3 < (l0_3.length : Int)) = true := decide_eq_true c71; clear c71
          by_cases c72 : (x3_2.length : Int) = (l0_3.length : Int)
          ·as_aux_lemma =>
           rw [if_pos c72] at H
           have c72b0 : ((x3_2.length : Int) == (l0_3.length : Int)) = true := beq_iff_eq.mpr c72; have c72b1 : ((x3_2.length : Int) != (l0_3.length : Int)) = false := bne_eq_false_iff_eq.mpr c72
           have c72b2 : (x3_2.length == l0_3.length) = true := by first | simpa using c72 | (simp at c72 ⊢; omega)
           clear c72
           by_cases c73 : 0 ≤ x7_3
           ·rw [if_pos c73] at H
            have c73b0 : decide (0 ≤ x7_3) = true := decide_eq_true c73; clear c73
            by_cases c74 : x7_3 < (x3_2.length : Int)
            ·rw [if_pos c74] at H
             have c74b0 : decide (x7_3 < (x3_2.length : Int)) = true := decide_eq_true c74; clear c74
             by_cases c75 : (rd x3_2 x7_3) = (rd l0_3 x7_3)
             ·rw [if_pos c75] at H
              have c75b0 : ((rd x3_2 x7_3) == (rd l0_3 x7_3)) = true := beq_iff_eq.mpr c75; have c75b1 : ((rd x3_2 x7_3) != (rd l0_3 x7_3)) = false := bne_eq_false_iff_eq.mpr c75; clear c75
              have H' := aM H
              clear H; obtain ⟨hcz76_0, hcz76_1, hcz76_2, hcz76_3, hfz76_0, hfz76_1, hfz76_2, hfz76_3⟩ := xf4 (w := wr) BK124
              try go_wp2
              replace HO_3 := aM (Kd.R_drew HO_3.out); replace BK124 := aM (blk_drew BK124.out); replace HB := aM (below_drew1 HB.out)
              obtain ⟨Ao78, co78, eo78⟩ := Kd.R_slice HO_3.out
              (first | subst eo78 | (injection eo78 with f1_ f2_ f3_; have f4_ := f1_.symm; have f5_ := f3_.symm; clear f1_ f2_ f3_; subst f4_; subst f5_))
              have p142 : 0 ≤ (x7_3 : Int) := oda; have q142 : x7_3 < (x3_2.length : Int) := oda
              obtain ⟨ad142, e142, hx142_0⟩ := Kd.at_int (Kd.R_reads' HO_3.out).2.2 x7_3 p142 q142
              cases e142
              replace p142 := eq_true p142; replace q142 := eq_true q142; have p143 : 0 ≤ (x7_3 : Int) := oda; have q143 : x7_3 < (l0_3.length : Int) := oda
              obtain ⟨ad143, e143, hx143_0⟩ := Kd.at_int HR0_3.out x7_3 p143 q143
              have hw143_0 := hx143_0
              cases e143
              replace hx143_0 := xce HB hx143_0; replace p143 := eq_true p143; replace q143 := eq_true q143
              refine start_ (n := 18) (S := fun w' => w'.cell? ⟨gb124, 0, none⟩ = some (.int .i64 a0_0) ∧ w'.cell? ⟨gb124, 1, none⟩ = some (.slice A0_1 l0_1.length c0_1) ∧ w'.cell? ⟨gb124, 2, none⟩ = some (.int .i64 a0_2) ∧ w'.cell? ⟨gb124, 3, none⟩ = some (.slice (some ad143) l0_3.length c0_3) ∧ w'.cell? (ad142.add (x7_3).toNat) = some (.int .i64 (rd x3_2 x7_3)) ∧ w'.cell? (ad143.add (x7_3).toNat) = some (.int .i64 (rd l0_3 x7_3))) (ds := []) #[false, false, false, false, false, false, false, false, false, false, false, false, false, false, false, false, false, false] (by kernel_rfl) rfl rfl ⟨xc BK124 0 rfl, xc BK124 1 rfl, xc BK124 2 rfl, xc BK124 3 rfl, hx142_0, (xce HB hw143_0)⟩ (fun hHeld => ?_); refine with_tabW spec_RollOk.tab18 spec_RollOk.bits18 (fun HT_ HW_ => ?_)
              generalize wr.drew = w77 at HO_3 BK124 HB hx142_0 hx143_0 hHeld ⊢
              refine pv_ 0 112 (h := ?_)
              refine pv_ 1 113 (h := ?_)
              refine pv_ 2 114 (h := ?_)
              refine tk_ 3 115 (h := ?_)
              refine pv_ 4 116 (h := ?_)
              refine pv_ 5 117 (h := ?_)
              refine pv_ 6 118 (h := ?_)
              refine pv_ 7 119 (h := ?_)
              refine pv_ 8 120 (h := ?_)
              refine pv_ 9 121 (h := ?_)
              refine pv_ 11 123 (h := ?_)
              refine pv_ 13 125 (h := ?_)
              refine tk_ 10 122 (h := ?_)
              refine tk_ 12 124 (h := ?_)
              refine pv_ 14 126 (h := ?_)
              refine tk_ 15 127 (h := ?_)
              refine pv_ 16 128 (h := ?_)
              refine pv_ 17 129 (h := ?_)
              refine done_ (done_of HT_.out (by kernel_rfl)) ?_
              obtain ⟨hcz79_0, hcz79_1, hcz79_2, hcz79_3, hfz79_0, hfz79_1, hfz79_2, hfz79_3⟩ := xf4 (w := w77) BK124; have p144 : 0 ≤ (x7_3 : Int) := oda; have q144 : x7_3 < (l0_3.length : Int) := oda
              obtain ⟨ad144, e144, hx144_0⟩ := Kd.at_int HR0_3.out x7_3 p144 q144
              obtain rfl : ad143 = ad144 := (by injection e144)
              replace hx144_0 := xce HB hx144_0; replace p144 := eq_true p144; replace q144 := eq_true q144
              try go_wp2
              go_roundg k3
              case measure => have := HJ1.out; have := HK2.out; have := HK3.out; omega
              case rel => exact ⟨(rd l0_3 x7_3), (wrap64 (x7_3 + 1)), (by first | rfl | (simp; done) | (simp [*]; done)), (by first | rfl | (simp; done) | (simp [*]; done)), H', ⟨by have := HJ1.out; have := HK2.out; have := HK3.out; omega⟩, ⟨by (with_reducible repeat (first | apply Kd.R_alloc | apply Kd.R_drewN | apply Kd.R_drew)); exact HO_3.out⟩, ⟨xblk⟩, ⟨xbg⟩⟩
             ·rw [if_neg c75] at H
              have c75b0 : ((rd x3_2 x7_3) == (rd l0_3 x7_3)) = false := beq_eq_false_iff_ne.mpr c75; have c75b1 : ((rd x3_2 x7_3) != (rd l0_3 x7_3)) = true := bne_iff_ne.mpr c75
              obtain rfl := Option.some.inj H
              obtain ⟨hcz80_0, hcz80_1, hcz80_2, hcz80_3, hfz80_0, hfz80_1, hfz80_2, hfz80_3⟩ := xf4 (w := wr) BK124
              try go_wp2
              replace HO_3 := aM (Kd.R_drew HO_3.out); replace BK124 := aM (blk_drew BK124.out); replace HB := aM (below_drew1 HB.out)
              obtain ⟨Ao82, co82, eo82⟩ := Kd.R_slice HO_3.out
              (first | subst eo82 | (injection eo82 with f1_ f2_ f3_; have f4_ := f1_.symm; have f5_ := f3_.symm; clear f1_ f2_ f3_; subst f4_; subst f5_))
              have p142 : 0 ≤ (x7_3 : Int) := oda; have q142 : x7_3 < (x3_2.length : Int) := oda
              obtain ⟨ad142, e142, hx142_0⟩ := Kd.at_int (Kd.R_reads' HO_3.out).2.2 x7_3 p142 q142
              cases e142
              replace p142 := eq_true p142; replace q142 := eq_true q142; have p143 : 0 ≤ (x7_3 : Int) := oda; have q143 : x7_3 < (l0_3.length : Int) := oda
              obtain ⟨ad143, e143, hx143_0⟩ := Kd.at_int HR0_3.out x7_3 p143 q143
              have hw143_0 := hx143_0
              cases e143
              replace hx143_0 := xce HB hx143_0; replace p143 := eq_true p143; replace q143 := eq_true q143
              refine start_ (n := 18) (S := fun w' => w'.cell? ⟨gb124, 0, none⟩ = some (.int .i64 a0_0) ∧ w'.cell? ⟨gb124, 1, none⟩ = some (.slice A0_1 l0_1.length c0_1) ∧ w'.cell? ⟨gb124, 2, none⟩ = some (.int .i64 a0_2) ∧ w'.cell? ⟨gb124, 3, none⟩ = some (.slice (some ad143) l0_3.length c0_3) ∧ w'.cell? (ad142.add (x7_3).toNat) = some (.int .i64 (rd x3_2 x7_3)) ∧ w'.cell? (ad143.add (x7_3).toNat) = some (.int .i64 (rd l0_3 x7_3))) (ds := []) #[false, false, false, false, false, false, false, false, false, false, false, false, false, false, false, false, false, false] (by kernel_rfl) rfl rfl ⟨xc BK124 0 rfl, xc BK124 1 rfl, xc BK124 2 rfl, xc BK124 3 rfl, hx142_0, (xce HB hw143_0)⟩ (fun hHeld => ?_); refine with_tabW spec_RollOk.tab18 spec_RollOk.bits18 (fun HT_ HW_ => ?_)
              generalize wr.drew = w81 at HO_3 BK124 HB hx142_0 hx143_0 hHeld ⊢
              refine pv_ 0 112 (h := ?_)
              refine pv_ 1 113 (h := ?_)
              refine pv_ 2 114 (h := ?_)
              refine tk_ 3 115 (h := ?_)
              refine pv_ 4 116 (h := ?_)
              refine pv_ 5 117 (h := ?_)
              refine pv_ 6 118 (h := ?_)
              refine pv_ 7 119 (h := ?_)
              refine pv_ 8 120 (h := ?_)
              refine pv_ 9 121 (h := ?_)
              refine pv_ 11 123 (h := ?_)
              refine pv_ 13 125 (h := ?_)
              refine tk_ 10 122 (h := ?_)
              refine tk_ 12 124 (h := ?_)
              refine pv_ 14 126 (h := ?_)
              refine tk_ 15 127 (h := ?_)
              refine pv_ 16 128 (h := ?_)
              refine pv_ 17 129 (h := ?_)
              refine done_ (done_of HT_.out (by kernel_rfl)) ?_
              try go_wp2
              go_ret
              exact ⟨xerr, xbg⟩
            ·rw [if_neg c74] at H
             exact absurd H (by simp)
           ·rw [if_neg c73] at H
            exact absurd H (by simp)
          ·as_aux_lemma =>
           rw [if_neg c72] at H
           have c72b0 : ((x3_2.length : Int) == (l0_3.length : Int)) = false := beq_eq_false_iff_ne.mpr c72; have c72b1 : ((x3_2.length : Int) != (l0_3.length : Int)) = true := bne_iff_ne.mpr c72
           have c72b2 : (x3_2.length == l0_3.length) = false := by first | simpa using c72 | (simp at c72 ⊢; omega)
           obtain rfl := Option.some.inj H
           obtain ⟨hcz83_0, hcz83_1, hcz83_2, hcz83_3, hfz83_0, hfz83_1, hfz83_2, hfz83_3⟩ := xf4 (w := wr) BK124
           try go_wp2
           replace HO_3 := aM (Kd.R_drew HO_3.out); replace BK124 := aM (blk_drew BK124.out); replace HB := aM (below_drew1 HB.out)
           obtain ⟨Ao85, co85, eo85⟩ := Kd.R_slice HO_3.out
           (first | subst eo85 | (injection eo85 with f1_ f2_ f3_; have f4_ := f1_.symm; have f5_ := f3_.symm; clear f1_ f2_ f3_; subst f4_; subst f5_))
           refine start_ (n := 18) (S := fun w' => w'.cell? ⟨gb124, 0, none⟩ = some (.int .i64 a0_0) ∧ w'.cell? ⟨gb124, 1, none⟩ = some (.slice A0_1 l0_1.length c0_1) ∧ w'.cell? ⟨gb124, 2, none⟩ = some (.int .i64 a0_2) ∧ w'.cell? ⟨gb124, 3, none⟩ = some (.slice A0_3 l0_3.length c0_3)) (ds := []) #[false, false, false, false, false, false, false, false, false, false, false, false, false, false, false, false, false, false] (by kernel_rfl) rfl rfl ⟨xc BK124 0 rfl, xc BK124 1 rfl, xc BK124 2 rfl, xc BK124 3 rfl⟩ (fun hHeld => ?_); refine with_tabW spec_RollOk.tab18 spec_RollOk.bits18 (fun HT_ HW_ => ?_)
           generalize wr.drew = w84 at HO_3 BK124 HB hHeld ⊢
           refine pv_ 0 112 (h := ?_)
           refine pv_ 1 113 (h := ?_)
           refine pv_ 2 114 (h := ?_)
           refine tk_ 3 115 (h := ?_)
           refine pv_ 4 116 (h := ?_)
           refine pv_ 5 117 (h := ?_)
           refine pv_ 6 118 (h := ?_)
           refine pu_ 7 119 (h := ?_)
           refine pu_ 8 120 (h := ?_)
           refine pu_ 9 121 (h := ?_)
           refine pu_ 10 122 (h := ?_)
           refine pu_ 11 123 (h := ?_)
           refine pu_ 12 124 (h := ?_)
           refine pu_ 13 125 (h := ?_)
           refine pu_ 14 126 (h := ?_)
           refine pu_ 15 127 (h := ?_)
           refine pu_ 16 128 (h := ?_)
           refine pv_ 17 129 (h := ?_)
           refine done_ (done_of HT_.out (by kernel_rfl)) ?_
           try go_wp2
           go_ret
           exact ⟨xerr, xbg⟩
         ·as_aux_lemma =>
          rw [if_neg c71] at H
          have c71b0 : decide (x7_3 < (l0_3.length : Int)) = false := decide_eq_false c71; clear c71
          by_cases c86 : (x3_2.length : Int) = (l0_3.length : Int)
          ·rw [if_pos c86] at H
           have c86b0 : ((x3_2.length : Int) == (l0_3.length : Int)) = true := beq_iff_eq.mpr c86; have c86b1 : ((x3_2.length : Int) != (l0_3.length : Int)) = false := bne_eq_false_iff_eq.mpr c86
           have c86b2 : (x3_2.length == l0_3.length) = true := by first | simpa using c86 | (simp at c86 ⊢; omega)
           clear c86
           obtain rfl := Option.some.inj H
           obtain ⟨hcz87_0, hcz87_1, hcz87_2, hcz87_3, hfz87_0, hfz87_1, hfz87_2, hfz87_3⟩ := xf4 (w := wr) BK124
           obtain ⟨Ao88, co88, eo88⟩ := Kd.R_slice HO_3.out
           subst eo88
           go_wp2
           go_ret
           exact ⟨xerr, xbg⟩
          ·rw [if_neg c86] at H
           have c86b0 : ((x3_2.length : Int) == (l0_3.length : Int)) = false := beq_eq_false_iff_ne.mpr c86; have c86b1 : ((x3_2.length : Int) != (l0_3.length : Int)) = true := bne_iff_ne.mpr c86
           have c86b2 : (x3_2.length == l0_3.length) = false := by first | simpa using c86 | (simp at c86 ⊢; omega)
           obtain rfl := Option.some.inj H
           obtain ⟨hcz89_0, hcz89_1, hcz89_2, hcz89_3, hfz89_0, hfz89_1, hfz89_2, hfz89_3⟩ := xf4 (w := wr) BK124
           obtain ⟨Ao90, co90, eo90⟩ := Kd.R_slice HO_3.out
           subst eo90
           go_wp2
           go_ret
           exact ⟨xerr, xbg⟩

end Go.Proofs.Ytoojdlobnbakoaa.QFnExactRollOk
