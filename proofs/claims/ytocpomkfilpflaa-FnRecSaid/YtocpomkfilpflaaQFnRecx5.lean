-- A walk, by a program of this session.
import Derived.Test.YtocpomkfilpflaaQFnRecx0
import Derived.Test.YtocpomkfilpflaaQFnRecx4
namespace Go.Proofs.Ytocpomkfilpflaa.QFnRec
open Go.RowKit Go.Proofs.YtocpomkfilpflaaW.PrintWords Go.Proofs.YtocpomkfilpflaaW.PrintLast Go.Proofs.YtocpomkfilpflaaW.PrintMore
attribute [local go_sem] max2_int min2_int max_two min_two max_three min_three max_four min_four   -- for this text's walks alone
set_option linter.unusedVariables false
set_option linter.unusedSimpArgs false

theorem u5_0 {p : Prop} (h : p := by first | (rw [hY]; with_reducible exact H) | (have H2_ := oS H; rw [hY]; with_reducible exact H2_) | (have H2_ := oS H; with_reducible exact H2_) | with_reducible exact H | (rw [hY]; exact H) | exact H) : p := h
theorem u5_1 {p : Prop} (h : p := by first | rfl | (simp; done) | (simp [*]; done)) : p := h
theorem u5_2 {p : Prop} (h : p := by first | (go_simp; done) | (go_simp; rfl)) : p := h
theorem u5_3 {p : Prop} (h : p := by (with_reducible repeat (first | apply Kd.R_alloc | apply Kd.R_drewN | apply Kd.R_drew)); exact aE.out) : p := h
theorem u5_4 {p : Prop} (h : p := by (try simp only [List.map_toArray, List.map_cons, List.map_nil]); first | done | (simp only [hji22]; rfl) | rfl | (simp only [List.length_drop, List.length_take]; rfl)) : p := h
theorem u5_5 {p : Prop} (h : p := by (try simp only [List.map_toArray, List.map_cons, List.map_nil]); first | done | (simp only [hji27]; rfl) | rfl | (simp only [List.length_drop, List.length_take]; rfl)) : p := h
theorem u5_6 {p : Prop} (h : p := by (with_reducible repeat (first | apply Kd.R_alloc | apply Kd.R_drewN | apply Kd.R_drew)); exact Kd.R_mono aD.out (fun _ hk => hk.2)) : p := h
/-! ### spec_l2Block: function 105 -/
mutual
def spec_l2Block.l0 : Nat → List Int → List Int → List Int → Int → Option (List Int)
 | 0, _, _, _, _ => none
 | k + 1, x0, x1, x5, x6 => if x6 < 16 then (if 0 ≤ (wrap64 (4 * x6)) then (if (wrap64 (4 * x6)) < (x1.length : Int) then (if 0 ≤ (wrap64 ((wrap64 (4 * x6)) + 1)) then (if (wrap64 ((wrap64 (4 * x6)) + 1)) < (x1.length : Int) then (if 0 ≤ (wrap64 ((wrap64 (4 * x6)) + 2)) then (if (wrap64 ((wrap64 (4 * x6)) + 2)) < (x1.length : Int) then (if 0 ≤ (wrap64 ((wrap64 (4 * x6)) + 3)) then (if (wrap64 ((wrap64 (4 * x6)) + 3)) < (x1.length : Int) then (if x5.length < 17592186044416 then (spec_l2Block.l0 k x0 x1 (x5 ++ [Go.bits .or .i64 (Go.bits .or .i64 (Go.bits .or .i64 (wrap64 ((wrap64 (rd x1 (wrap64 (4 * x6)))) * 16777216)) (wrap64 ((wrap64 (rd x1 (wrap64 ((wrap64 (4 * x6)) + 1)))) * 65536))) (wrap64 ((wrap64 (rd x1 (wrap64 ((wrap64 (4 * x6)) + 2)))) * 256))) (wrap64 (rd x1 (wrap64 ((wrap64 (4 * x6)) + 3))))]) (wrap64 (x6 + 1))) else (none)) else (none)) else (none)) else (none)) else (none)) else (none)) else (none)) else (none)) else (none)) else (spec_l2Block.l1 k x0 x5 16)
def spec_l2Block.l1 : Nat → List Int → List Int → Int → Option (List Int)
 | 0, _, _, _ => none
 | k + 1, x0, x5, x7 => if x7 < 64 then (if 0 ≤ (wrap64 (x7 - 15)) then (if (wrap64 (x7 - 15)) < (x5.length : Int) then ((spec_l2Turn.f (rd x5 (wrap64 (x7 - 15))) 7).bind fun cC => ((spec_l2Turn.f (rd x5 (wrap64 (x7 - 15))) 18).bind fun cD => (if 0 ≤ (wrap64 (x7 - 2)) then (if (wrap64 (x7 - 2)) < (x5.length : Int) then ((spec_l2Turn.f (rd x5 (wrap64 (x7 - 2))) 17).bind fun bY => ((spec_l2Turn.f (rd x5 (wrap64 (x7 - 2))) 19).bind fun bZ => (if 0 ≤ (wrap64 (x7 - 7)) then (if (wrap64 (x7 - 7)) < (x5.length : Int) then (if 0 ≤ (wrap64 (x7 - 16)) then (if (wrap64 (x7 - 16)) < (x5.length : Int) then ((spec_l2Low.f (wrap64 ((wrap64 ((wrap64 ((Go.bits .xor .i64 (Go.bits .xor .i64 bY bZ) ((rd x5 (wrap64 (x7 - 2))) / 1024)) + (rd x5 (wrap64 (x7 - 7))))) + (Go.bits .xor .i64 (Go.bits .xor .i64 cC cD) ((rd x5 (wrap64 (x7 - 15))) / 8)))) + (rd x5 (wrap64 (x7 - 16)))))).bind fun aU => (if x5.length < 17592186044416 then (spec_l2Block.l1 k x0 (x5 ++ [aU]) (wrap64 (x7 + 1))) else (none))) else (none)) else (none)) else (none)) else (none)))) else (none)) else (none)))) else (none)) else (none)) else ((spec_l2Keys.f).bind fun aV => ((some (([] : List Int) : List Int)).bind fun cL => (if cL.length + x0.length < 17592186044416 then (spec_l2Block.l2 k x0 x5 aV (cL ++ x0) 0) else (none))))
def spec_l2Block.l2 : Nat → List Int → List Int → List Int → List Int → Int → Option (List Int)
 | 0, _, _, _, _, _ => none
 | k + 1, x0, x5, jF, aQ, dQ => if dQ < 64 then (if 4 < (aQ.length : Int) then (if 0 < (aQ.length : Int) then (if 5 < (aQ.length : Int) then (if 6 < (aQ.length : Int) then (if 7 < (aQ.length : Int) then ((spec_l2Turn.f (rd aQ 4) 6).bind fun dB => ((spec_l2Turn.f (rd aQ 4) 11).bind fun dC => ((spec_l2Turn.f (rd aQ 4) 25).bind fun dD => (if 0 ≤ dQ then (if dQ < (jF.length : Int) then (if dQ < (x5.length : Int) then ((spec_l2Low.f (wrap64 ((wrap64 ((wrap64 ((wrap64 ((rd aQ 7) + (Go.bits .xor .i64 (Go.bits .xor .i64 dB dC) dD))) + (Go.bits .xor .i64 (Go.bits .and .i64 (rd aQ 4) (rd aQ 5)) (Go.bits .and .i64 (Go.bits .xor .i64 4294967295 (rd aQ 4)) (rd aQ 6))))) + (rd jF dQ))) + (rd x5 dQ)))).bind fun cM => (if 1 < (aQ.length : Int) then (if 2 < (aQ.length : Int) then ((spec_l2Turn.f (rd aQ 0) 2).bind fun dE => ((spec_l2Turn.f (rd aQ 0) 13).bind fun dF => ((spec_l2Turn.f (rd aQ 0) 22).bind fun dG => ((spec_l2Low.f (wrap64 ((Go.bits .xor .i64 (Go.bits .xor .i64 dE dF) dG) + (Go.bits .xor .i64 (Go.bits .xor .i64 (Go.bits .and .i64 (rd aQ 0) (rd aQ 1)) (Go.bits .and .i64 (rd aQ 0) (rd aQ 2))) (Go.bits .and .i64 (rd aQ 1) (rd aQ 2)))))).bind fun dH => ((spec_l2Low.f (wrap64 (cM + dH))).bind fun cN => (if 3 < (aQ.length : Int) then ((spec_l2Low.f (wrap64 ((rd aQ 3) + cM))).bind fun cO => (spec_l2Block.l2 k x0 x5 jF (([cN, rd aQ 0, rd aQ 1, rd aQ 2, cO, rd aQ 4, rd aQ 5, rd aQ 6] : List Int)) (wrap64 (dQ + 1)))) else (none))))))) else (none)) else (none))) else (none)) else (none)) else (none))))) else (none)) else (none)) else (none)) else (none)) else (none)) else (spec_l2Block.l3 k x0 aQ (([] : List Int)) 0)
def spec_l2Block.l3 : Nat → List Int → List Int → List Int → Int → Option (List Int)
 | 0, _, _, _, _ => none
 | k + 1, x0, aQ, jG, dR => if dR < 8 then (if 0 ≤ dR then (if dR < (x0.length : Int) then (if dR < (aQ.length : Int) then ((spec_l2Low.f (wrap64 ((rd x0 dR) + (rd aQ dR)))).bind fun dA => (if jG.length < 17592186044416 then (spec_l2Block.l3 k x0 aQ (jG ++ [dA]) (wrap64 (dR + 1))) else (none))) else (none)) else (none)) else (none)) else (some jG)
end
def spec_l2Block.f (k : Nat) (l0 : List Int) (l1 : List Int) : Option (List Int) := spec_l2Block.l0 k l0 l1 (([] : List Int)) 0
theorem u5_mq0 {p : Prop} (h : p := by repeat' first | (with_reducible first | exact kT _ _ _ _ | exact kU _ _ _ | exact kV _ _ _ _ _ | exact kW _ _ _ _ | exact LeO.refl _ | exact LeO.none _ | refine LeO.ite ?_ ?_ | refine LeO.bind ?_ (fun _ => ?_)) | exact LeO.none _ | refine LeO.ite ?_ ?_ | refine LeO.bind ?_ (fun _ => ?_)) : p := h
set_option maxRecDepth 100000 in
theorem spec_l2Block.mono_l : ∀ k, (∀ y0 y1 y2 y3, LeO (spec_l2Block.l0 k y0 y1 y2 y3) (spec_l2Block.l0 (k + 1) y0 y1 y2 y3)) ∧ (∀ y0 y1 y2, LeO (spec_l2Block.l1 k y0 y1 y2) (spec_l2Block.l1 (k + 1) y0 y1 y2)) ∧ (∀ y0 y1 y2 y3 y4, LeO (spec_l2Block.l2 k y0 y1 y2 y3 y4) (spec_l2Block.l2 (k + 1) y0 y1 y2 y3 y4)) ∧ (∀ y0 y1 y2 y3, LeO (spec_l2Block.l3 k y0 y1 y2 y3) (spec_l2Block.l3 (k + 1) y0 y1 y2 y3))
 | 0 => ⟨fun _ _ _ _ r h => by simp [spec_l2Block.l0] at h, fun _ _ _ r h => by simp [spec_l2Block.l1] at h, fun _ _ _ _ _ r h => by simp [spec_l2Block.l2] at h, fun _ _ _ _ r h => by simp [spec_l2Block.l3] at h⟩
 | k + 1 => by
  obtain ⟨kT, kU, kV, kW⟩ := spec_l2Block.mono_l k; refine ⟨?_, ?_, ?_, ?_⟩
  ·intro y0 y1 y2 y3; unfold spec_l2Block.l0; exact u5_mq0
  ·intro y0 y1 y2; unfold spec_l2Block.l1; exact u5_mq0
  ·intro y0 y1 y2 y3 y4; unfold spec_l2Block.l2; exact u5_mq0
  ·intro y0 y1 y2 y3; unfold spec_l2Block.l3; exact u5_mq0
theorem spec_l2Block.mono : ∀ a0 a1 k, LeO (spec_l2Block.f k a0 a1) (spec_l2Block.f (k + 1) a0 a1) := by
 intro a0 a1 k
 obtain ⟨kT, kU, kV, kW⟩ := spec_l2Block.mono_l k
 unfold spec_l2Block.f
 exact u5_mq0
def spec_l2Block.T5 : Bool × List (List Nat × List Nat) := (true, [([], []), ([], []), ([], []), ([2], [2]), ([1, 3], [1, 3]), ([4], [4]), ([5], [5]), ([6], [6]), ([], []), ([], []), ([9], [9]), ([10], [10]), ([8, 11], [8, 11]), ([12], [12]), ([13], [13]), ([14], [14]), ([7, 15], [7, 15]), ([], []), ([], []), ([18], [18]), ([19], [19]), ([17, 20], [17, 20]), ([21], [21]), ([22], [22]), ([23], [23]), ([16, 24], [16, 24]), ([], []), ([], []), ([27], [27]), ([28], [28]), ([26, 29], [26, 29]), ([30], [30]), ([31], [31]), ([25, 32], [25, 32]), ([33], [33]), ([0, 34], [0, 34]), ([35, 35, 0, 1, 2, 3, 4, 5, 6, 7, 8, 9, 10, 11, 12, 13, 14, 15, 16, 17, 18, 19, 20, 21, 22, 23, 24, 25, 26, 27, 28, 29, 30, 31, 32, 33, 34, 35], [0, 35])])
def spec_l2Block.B5 : List Nat := [0, 0, 0, 4, 14, 30, 62, 126, 0, 0, 512, 1536, 3840, 7936, 16128, 32512, 65534, 0, 0, 262144, 786432, 1966080, 4063232, 8257536, 16646144, 33554430, 0, 0, 134217728, 402653184, 1006632960, 2080374784, 4227858432, 8589934590, 17179869182, 34359738367, 68719476735]
def spec_l2Block.T9 : Bool × List (List Nat × List Nat) := (true, [([], []), ([], []), ([1], [1]), ([0, 2], [0, 2]), ([3], [3]), ([4], [4]), ([], []), ([], []), ([7], [7]), ([6, 8], [6, 8]), ([9], [9]), ([10, 5], [10]), ([5, 11], [5, 11]), ([], []), ([], []), ([14], [14]), ([13, 15], [13, 15]), ([16], [16]), ([17], [17]), ([12, 18], [12, 18]), ([19, 11, 0, 1, 2, 3, 4, 5, 6, 7, 8, 9, 10, 11, 12, 13, 14, 15, 16, 17, 18, 19], [19])])
def spec_l2Block.B9 : List Nat := [0, 0, 2, 7, 15, 31, 0, 0, 128, 448, 960, 2047, 4095, 0, 0, 16384, 57344, 122880, 253952, 524287, 1048575]
def spec_l2Block.T10 : Bool × List (List Nat × List Nat) := (true, [([], []), ([], []), ([1], [1]), ([0, 2], [0, 2]), ([3], [3]), ([4], [4]), ([], []), ([], []), ([7], [7]), ([6, 8], [6, 8]), ([9], [9]), ([10, 5], [10]), ([5, 11], [5, 11]), ([], []), ([], []), ([14], [14]), ([13, 15], [13, 15]), ([16], [16]), ([17], [17]), ([12, 18], [12, 18]), ([19, 11, 0, 1, 2, 3, 4, 5, 6, 7, 8, 9, 10, 11, 12, 13, 14, 15, 16, 17, 18, 19], [19])])
def spec_l2Block.B10 : List Nat := [0, 0, 2, 7, 15, 31, 0, 0, 128, 448, 960, 2047, 4095, 0, 0, 16384, 57344, 122880, 253952, 524287, 1048575]
def spec_l2Block.T11 : Bool × List (List Nat × List Nat) := (true, [([], []), ([], []), ([], []), ([], []), ([3], [3]), ([2, 4], [2, 4]), ([5], [5]), ([1, 6], [1, 6]), ([], []), ([7, 8], [7, 8]), ([], []), ([], []), ([11], [11]), ([10, 12], [10, 12]), ([13], [13]), ([9, 14], [9, 14]), ([15], [15]), ([16], [16]), ([0, 17, 16], [0, 17]), ([18, 18, 0, 1, 2, 3, 4, 5, 6, 7, 8, 9, 10, 11, 12, 13, 14, 15, 16, 17, 18], [0, 2, 10, 18])])
def spec_l2Block.B11 : List Nat := [0, 0, 0, 0, 8, 28, 60, 126, 0, 510, 0, 0, 2048, 7168, 15360, 32766, 65534, 131070, 262143, 524287]
theorem spec_l2Block.tab11 : rtab .any (opsOf Try.f105 11) = spec_l2Block.T11 := by kernel_rfl
theorem spec_l2Block.bits11 : waitsOk spec_l2Block.T11.2 spec_l2Block.B11 = true := by kernel_rfl
def spec_l2Block.T17 : Bool × List (List Nat × List Nat) := (true, [([], []), ([0], [0]), ([1], [1]), ([], []), ([3], [3]), ([4], [4]), ([2, 0, 1, 2], [2]), ([5, 6, 0, 1, 2, 3, 4, 5, 6], [5])])
def spec_l2Block.B17 : List Nat := [0, 1, 3, 0, 8, 24, 7, 127]
def spec_l2Block.T18 : Bool × List (List Nat × List Nat) := (true, [([], []), ([], []), ([1], [1]), ([2], [2]), ([0, 3], [0, 3]), ([], []), ([5], [5]), ([], []), ([7], [7]), ([8], [8]), ([6, 9], [6, 9]), ([4, 10], [4, 10]), ([11, 0, 1, 2, 3, 4, 5, 6, 7, 8, 9, 10, 11], [11])])
def spec_l2Block.B18 : List Nat := [0, 0, 2, 6, 15, 0, 32, 0, 128, 384, 992, 2047, 4095]
def spec_l2Block.T19 : Bool × List (List Nat × List Nat) := (true, [([], []), ([0], [0]), ([1], [1]), ([], []), ([3], [3]), ([], []), ([5, 4], [5]), ([4, 6], [4, 6]), ([], []), ([8, 6], [8]), ([7, 9], [7, 9]), ([2, 10], [2, 10]), ([], []), ([11, 12], [11, 12]), ([], []), ([], []), ([14, 15], [14, 15]), ([16], [16]), ([13, 17], [13, 17]), ([], []), ([], []), ([19, 20], [19, 20]), ([21], [21]), ([18, 22], [18, 22]), ([23, 9], [23]), ([24, 24, 0, 1, 2, 3, 4, 5, 6, 7, 8, 9, 10, 11, 12, 13, 14, 15, 16, 17, 18, 19, 20, 21, 22, 23, 24], [24])])
def spec_l2Block.B19 : List Nat := [0, 1, 3, 0, 8, 0, 56, 120, 0, 376, 1016, 2047, 0, 8191, 0, 0, 49152, 114688, 262143, 0, 0, 1572864, 3670016, 8388607, 16777215, 33554431]
def spec_l2Block.T20 : Bool × List (List Nat × List Nat) := (true, [([], []), ([], []), ([1], [1]), ([2], [2]), ([0, 3], [0, 3]), ([], []), ([], []), ([6], [6]), ([7], [7]), ([5, 8], [5, 8]), ([4, 9], [4, 9]), ([], []), ([11], [11]), ([12], [12]), ([], []), ([14], [14]), ([15], [15]), ([13, 16], [13, 16]), ([10, 17], [10, 17]), ([18, 0, 1, 2, 3, 4, 5, 6, 7, 8, 9, 10, 11, 12, 13, 14, 15, 16, 17, 18], [18])])
def spec_l2Block.B20 : List Nat := [0, 0, 2, 6, 15, 0, 0, 64, 192, 480, 1023, 0, 2048, 6144, 0, 16384, 49152, 129024, 262143, 524287]
def spec_l2Block.T22 : Bool × List (List Nat × List Nat) := (true, [([], []), ([], []), ([0, 1], [0, 1]), ([2], [2]), ([], []), ([], []), ([5], [5]), ([6], [6]), ([], []), ([8], [8]), ([9], [9]), ([], []), ([11], [11]), ([12], [12]), ([], []), ([13, 14], [13, 14]), ([15, 3], [15]), ([], []), ([], []), ([18], [18]), ([19], [19]), ([], []), ([21], [21]), ([22], [22]), ([3, 4, 7, 10, 16, 17, 20, 23], [3, 4, 7, 10, 16, 17, 20, 23]), ([24, 16, 0, 1, 2, 3, 4, 5, 6, 7, 8, 9, 10, 11, 12, 13, 14, 15, 16, 17, 18, 19, 20, 21, 22, 23, 24], [5, 8, 11, 18, 21, 24])])
def spec_l2Block.B22 : List Nat := [0, 0, 3, 7, 0, 0, 32, 96, 0, 256, 768, 0, 2048, 6144, 0, 30720, 63503, 0, 0, 262144, 786432, 0, 2097152, 6291456, 16777215, 33554431]
def spec_l2Block.T27 : Bool × List (List Nat × List Nat) := (true, [([], []), ([], []), ([], []), ([1, 2], [1, 2]), ([3], [3]), ([], []), ([], []), ([5, 6], [5, 6]), ([7], [7]), ([4, 8], [4, 8]), ([9], [9]), ([10], [10]), ([0, 11, 10], [0, 11]), ([12, 12, 0, 1, 2, 3, 4, 5, 6, 7, 8, 9, 10, 11, 12], [0, 12])])
def spec_l2Block.B27 : List Nat := [0, 0, 0, 6, 14, 0, 0, 96, 224, 510, 1022, 2046, 4095, 8191]
theorem spec_l2Block.tab27 : rtab .any (opsOf Try.f105 27) = spec_l2Block.T27 := by kernel_rfl
theorem spec_l2Block.bits27 : waitsOk spec_l2Block.T27.2 spec_l2Block.B27 = true := by kernel_rfl
set_option maxHeartbeats 8000000 in
set_option maxRecDepth 100000 in
theorem spec_l2Block.calls (k : Nat) (A0 : Option Addr) (c0 : Nat) (l0 : List Int) (A1 : Option Addr) (c1 : Nat) (l1 : List Int) (r : List Int) (w : World) (kX : Kd.C (Kd.int .i64) w A0 l0.length l0) (kY : l0.length ≤ c0) (kZ : Kd.C (Kd.int .u8) w A1 l1.length l1) (lA : l1.length ≤ c1) (h : spec_l2Block.f k l0 l1 = some r) :
 Calls Try.prog 105 #[.slice A0 l0.length c0, .slice A1 l1.length c1] w fun e w' => ∃ v0_ : Value, e = .returned (v0_) ∧ Kd.R (Kd.int .i64) 3 w' w.heap.size (fun _ => True) v0_ r ∧ Below w.heap.size w w' := by
 have lB := aM kX
 have nL := aM kY
 clear kX kY
 have iU := aM kZ
 have nM := aM lA
 clear kZ lA
 have HB := aM (Below.refl w.heap.size w)
 have H : (spec_l2Block.l0 k l0 l1 (([] : List Int)) 0) = some r := h
 clear h
 obtain ⟨dW, hY⟩ : ∃ y_ : List Int, y_ = (([] : List Int)) := ⟨_, rfl⟩
 replace H : (spec_l2Block.l0 k l0 l1 dW 0) = some r := u5_0
 have dI := aM hY
 clear hY
 have H' := aM H
 clear H
 go_enter Try.func105, Try.ntmps105
 go_wp2_with (first | ((with_reducible refine gD 21 rfl ?_); refine Kd.R_lit (Kd.int .i64) _ 3 ?hg (N := 21) ?hd (xs := ([] : List Int)) (inner := []) (ok := fun _ => True) (okp := fun _ => True) ?hr ?hp (fun _ hk => hk) trivial (Below.refl _ _) (Nat.le_refl _) (by simp) ?_; (case hd => rfl); (case hg => rfl); (case hr => exact u5_2); (case hp => exact (Reps.none _ _)); intro v132 w3 dX hb hg_ hnew_; clear hg_ hnew_; (first | rw [← dI.out] at dX | (simp only [Int.reduceToNat] at dX; rw [← dI.out] at dX)); have dY := aM (Kd.R_lower dX (below_size xbel)); replace HB := xbs hb; clear hb dX))
 go_loopg [5, 6] k (fun kq v5 v6 w' => ∃ (aT : List Int) (aW : Int), v6 = .int .i64 aW ∧ Aside0 (spec_l2Block.l0 kq l0 l1 aT aW = some r) ∧ Aside0 (kq ≤ k) ∧ Aside0 (Kd.R (Kd.int .i64) 3 w' w.heap.size (fun _ => True) v5 aT) ∧ Aside0 (Below w.heap.size w w'))
 case atStart => exact ⟨(dW), (0), u5_1, H', ⟨Nat.le_refl _⟩, ⟨by (with_reducible repeat (first | apply Kd.R_alloc | apply Kd.R_drewN | apply Kd.R_drew)); exact dY.out⟩, ⟨xbel⟩⟩
 case round =>
  clear H'; try clear c1
  try clear p2
  obtain ⟨aT, aW, rfl, HA, HK1, aE, HB⟩ := hrel; cases gk with
  | zero => exact absurd HA.out (by simp [spec_l2Block.l0])
  | succ k1 =>
   have H := HA.out; clear HA; simp only [spec_l2Block.l0] at H; by_cases c5 : aW < 16
   ·rw [if_pos c5] at H; have dZ : decide (aW < 16) = true := decide_eq_true c5; clear c5; obtain ⟨ji6, hji6⟩ : ∃ j_ : Int, (wrap64 (4 * aW)) = j_ := ⟨_, rfl⟩; replace H : (if 0 ≤ (ji6) then (if (ji6) < (l1.length : Int) then (if 0 ≤ (wrap64 ((ji6) + 1)) then (if (wrap64 ((ji6) + 1)) < (l1.length : Int) then (if 0 ≤ (wrap64 ((ji6) + 2)) then (if (wrap64 ((ji6) + 2)) < (l1.length : Int) then (if 0 ≤ (wrap64 ((ji6) + 3)) then (if (wrap64 ((ji6) + 3)) < (l1.length : Int) then (if aT.length < 17592186044416 then (spec_l2Block.l0 k1 l0 l1 (aT ++ [Go.bits .or .i64 (Go.bits .or .i64 (Go.bits .or .i64 (wrap64 ((wrap64 (rd l1 (ji6))) * 16777216)) (wrap64 ((wrap64 (rd l1 (wrap64 ((ji6) + 1)))) * 65536))) (wrap64 ((wrap64 (rd l1 (wrap64 ((ji6) + 2)))) * 256))) (wrap64 (rd l1 (wrap64 ((ji6) + 3))))]) (wrap64 (aW + 1))) else (none)) else (none)) else (none)) else (none)) else (none)) else (none)) else (none)) else (none)) else (none)) = some r := by first | (rw [hji6] at H; exact H) | (simp only [hji6] at H ⊢; exact H)
    have hji6w : (IntKind.i64.wrap (4 * aW)) = ji6 := (i64_w _).trans hji6; by_cases c7 : 0 ≤ (ji6)
    ·rw [if_pos c7] at H; have jH : decide (0 ≤ (ji6)) = true := decide_eq_true c7; clear c7; by_cases c8 : (ji6) < (l1.length : Int)
     ·rw [if_pos c8] at H; have jI : decide ((ji6) < (l1.length : Int)) = true := decide_eq_true c8; clear c8; obtain ⟨ji9, hji9⟩ : ∃ j_ : Int, (wrap64 ((ji6) + 1)) = j_ := ⟨_, rfl⟩; replace H : (if 0 ≤ (ji9) then (if (ji9) < (l1.length : Int) then (if 0 ≤ (wrap64 ((ji6) + 2)) then (if (wrap64 ((ji6) + 2)) < (l1.length : Int) then (if 0 ≤ (wrap64 ((ji6) + 3)) then (if (wrap64 ((ji6) + 3)) < (l1.length : Int) then (if aT.length < 17592186044416 then (spec_l2Block.l0 k1 l0 l1 (aT ++ [Go.bits .or .i64 (Go.bits .or .i64 (Go.bits .or .i64 (wrap64 ((wrap64 (rd l1 (ji6))) * 16777216)) (wrap64 ((wrap64 (rd l1 (ji9))) * 65536))) (wrap64 ((wrap64 (rd l1 (wrap64 ((ji6) + 2)))) * 256))) (wrap64 (rd l1 (wrap64 ((ji6) + 3))))]) (wrap64 (aW + 1))) else (none)) else (none)) else (none)) else (none)) else (none)) else (none)) else (none)) = some r := by first | (rw [hji9] at H; exact H) | (simp only [hji9] at H ⊢; exact H)
      have hji9w : (IntKind.i64.wrap ((ji6) + 1)) = ji9 := (i64_w _).trans hji9; by_cases c10 : 0 ≤ (ji9)
      ·rw [if_pos c10] at H; have eA : decide (0 ≤ (ji9)) = true := decide_eq_true c10; clear c10; by_cases eB : (ji9) < (l1.length : Int)
       ·rw [if_pos eB] at H; have eC : decide ((ji9) < (l1.length : Int)) = true := decide_eq_true eB; clear eB; obtain ⟨ji12, hji12⟩ : ∃ j_ : Int, (wrap64 ((ji6) + 2)) = j_ := ⟨_, rfl⟩; replace H : (if 0 ≤ (ji12) then (if (ji12) < (l1.length : Int) then (if 0 ≤ (wrap64 ((ji6) + 3)) then (if (wrap64 ((ji6) + 3)) < (l1.length : Int) then (if aT.length < 17592186044416 then (spec_l2Block.l0 k1 l0 l1 (aT ++ [Go.bits .or .i64 (Go.bits .or .i64 (Go.bits .or .i64 (wrap64 ((wrap64 (rd l1 (ji6))) * 16777216)) (wrap64 ((wrap64 (rd l1 (ji9))) * 65536))) (wrap64 ((wrap64 (rd l1 (ji12))) * 256))) (wrap64 (rd l1 (wrap64 ((ji6) + 3))))]) (wrap64 (aW + 1))) else (none)) else (none)) else (none)) else (none)) else (none)) = some r := by first | (rw [hji12] at H; exact H) | (simp only [hji12] at H ⊢; exact H)
        have hji12w : (IntKind.i64.wrap ((ji6) + 2)) = ji12 := (i64_w _).trans hji12; by_cases eD : 0 ≤ (ji12)
        ·rw [if_pos eD] at H; have eE : decide (0 ≤ (ji12)) = true := decide_eq_true eD; clear eD; by_cases eF : (ji12) < (l1.length : Int)
         ·rw [if_pos eF] at H; have eG : decide ((ji12) < (l1.length : Int)) = true := decide_eq_true eF; clear eF; obtain ⟨ji15, hji15⟩ : ∃ j_ : Int, (wrap64 ((ji6) + 3)) = j_ := ⟨_, rfl⟩; replace H : (if 0 ≤ (ji15) then (if (ji15) < (l1.length : Int) then (if aT.length < 17592186044416 then (spec_l2Block.l0 k1 l0 l1 (aT ++ [Go.bits .or .i64 (Go.bits .or .i64 (Go.bits .or .i64 (wrap64 ((wrap64 (rd l1 (ji6))) * 16777216)) (wrap64 ((wrap64 (rd l1 (ji9))) * 65536))) (wrap64 ((wrap64 (rd l1 (ji12))) * 256))) (wrap64 (rd l1 (ji15)))]) (wrap64 (aW + 1))) else (none)) else (none)) else (none)) = some r := by first | (rw [hji15] at H; exact H) | (simp only [hji15] at H ⊢; exact H)
          have hji15w : (IntKind.i64.wrap ((ji6) + 3)) = ji15 := (i64_w _).trans hji15; by_cases eH : 0 ≤ (ji15)
          ·rw [if_pos eH] at H; have eI : decide (0 ≤ (ji15)) = true := decide_eq_true eH; clear eH; by_cases eJ : (ji15) < (l1.length : Int)
           ·rw [if_pos eJ] at H; have eK : decide ((ji15) < (l1.length : Int)) = true := decide_eq_true eJ; clear eJ; by_cases eL : aT.length < 17592186044416
            ·rw [if_pos eL] at H; have LMc18 := aM eL; clear eL; obtain ⟨eM, hY⟩ : ∃ y_ : List Int, y_ = (aT ++ [Go.bits .or .i64 (Go.bits .or .i64 (Go.bits .or .i64 (wrap64 ((wrap64 (rd l1 (ji6))) * 16777216)) (wrap64 ((wrap64 (rd l1 (ji9))) * 65536))) (wrap64 ((wrap64 (rd l1 (ji12))) * 256))) (wrap64 (rd l1 (ji15)))]) := ⟨_, rfl⟩; replace H : (spec_l2Block.l0 k1 l0 l1 eM (wrap64 (aW + 1))) = some r := u5_0; have eN := aM hY; clear hY; have H' := aM H; clear H; try go_wp2
             replace aE := rD aE; replace HB := lD HB; have p134 : 0 ≤ ((ji6) : Int) := oda; have q134 : (ji6) < (l1.length : Int) := oda; obtain ⟨cA, jJ, aX⟩ := Kd.at_int iU.out (ji6) p134 q134; have bM := aX; cases jJ
             replace aX := xce HB aX; replace p134 := eq_true p134; replace q134 := eq_true q134; have p135 : 0 ≤ ((ji9) : Int) := oda; have q135 : (ji9) < (l1.length : Int) := oda; obtain ⟨eO, jK, aY⟩ := Kd.at_int iU.out (ji9) p135 q135; have bN := aY; obtain rfl : cA = eO := (by injection jK); replace aY := xce HB aY; replace p135 := eq_true p135; replace q135 := eq_true q135; have p136 : 0 ≤ ((ji12) : Int) := oda; have q136 : (ji12) < (l1.length : Int) := oda; obtain ⟨eP, jL, aZ⟩ := Kd.at_int iU.out (ji12) p136 q136; have bO := aZ; obtain rfl : cA = eP := (by injection jL); replace aZ := xce HB aZ; replace p136 := eq_true p136; replace q136 := eq_true q136; have p137 : 0 ≤ ((ji15) : Int) := oda; have q137 : (ji15) < (l1.length : Int) := oda; obtain ⟨eQ, jM, bA⟩ := Kd.at_int iU.out (ji15) p137 q137; have bP := bA; obtain rfl : cA = eQ := (by injection jM); replace bA := xce HB bA; replace p137 := eq_true p137; replace q137 := eq_true q137; refine st_ 37 (fun w' => w'.cell? (cA.add ((ji6)).toNat) = some (.int .u8 (rd l1 (ji6))) ∧ w'.cell? (cA.add ((ji9)).toNat) = some (.int .u8 (rd l1 (ji9))) ∧ w'.cell? (cA.add ((ji12)).toNat) = some (.int .u8 (rd l1 (ji12))) ∧ w'.cell? (cA.add ((ji15)).toNat) = some (.int .u8 (rd l1 (ji15)))) spec_l2Block.T5 spec_l2Block.B5 ⟨(xce HB bM), (xce HB bN), (xce HB bO), (xce HB bP)⟩ (fun hHeld HT_ HW_ => ?_); generalize wr.drew = nN at aE HB aX aY aZ bA hHeld ⊢; refine pV 0 26 ?_; refine pV 1 27 ?_; refine pV 2 28 ?_; refine pV 3 29 ?_; refine pV 4 30 ?_; refine pV 8 34 ?_; refine pV 9 35 ?_; refine pV 10 36 ?_; refine pV 11 37 ?_; refine pV 12 38 ?_; refine pV 17 43 ?_; refine pV 18 44 ?_; refine pV 19 45 ?_; refine pV 20 46 ?_; refine pV 21 47 ?_; refine pV 26 52 ?_; refine pV 27 53 ?_; refine pV 28 54 ?_; refine pV 29 55 ?_; refine pV 30 56 ?_; refine tK 5 31 ?_; refine pV 6 32 ?_; refine pV 7 33 ?_; refine tK 13 39 ?_; refine pV 14 40 ?_; refine pV 15 41 ?_; refine pV 16 42 ?_; refine tK 22 48 ?_; refine pV 23 49 ?_; refine pV 24 50 ?_; refine pV 25 51 ?_; refine tK 31 57 ?_; refine pV 32 58 ?_; refine pV 33 59 ?_; refine oN 34 60 fun K hK => ?_
             refine value_ (w1 := ?_) (v := ?_) (by rfl) rfl ?_ ?_; rotate_left 2
             ·go_simp
              constructor
              ·rfl
              ·rfl
             refine hK.out _ _ ⟨(World.cell?_alloc_lt _ _ _ (World.block_lt_of_cell? _ _ ((xce HB bM)))).trans ((xce HB bM)), (World.cell?_alloc_lt _ _ _ (World.block_lt_of_cell? _ _ ((xce HB bN)))).trans ((xce HB bN)), (World.cell?_alloc_lt _ _ _ (World.block_lt_of_cell? _ _ ((xce HB bO)))).trans ((xce HB bO)), (World.cell?_alloc_lt _ _ _ (World.block_lt_of_cell? _ _ ((xce HB bP)))).trans ((xce HB bP))⟩ (fun hHeld => ?_); clear hK K; refine nm_ (N := 60) ?_; refine oN 35 61 fun K hK => ?_
             refine Kd.R_append_step (Kd.int .i64) (w0 := w) w.heap.size (by rfl) (.tmp 26) (.tmp 60) 85 3 (.int .i64 0) 8 rfl Try.underlying85 info3 rfl (by decide) (by omega) u5 aT (Go.bits .or .i64 (Go.bits .or .i64 (Go.bits .or .i64 (wrap64 ((wrap64 (rd l1 (ji6))) * 16777216)) (wrap64 ((wrap64 (rd l1 (ji9))) * 65536))) (wrap64 ((wrap64 (rd l1 (ji12))) * 256))) (wrap64 (rd l1 (ji15)))) [.int .i64 (Go.bits .or .i64 (Go.bits .or .i64 (Go.bits .or .i64 (wrap64 ((wrap64 (rd l1 (ji6))) * 16777216)) (wrap64 ((wrap64 (rd l1 (ji9))) * 65536))) (wrap64 ((wrap64 (rd l1 (ji12))) * 256))) (wrap64 (rd l1 (ji15))))] (fun _ => True) (fun _ => False) rfl rfl ?aP (fun _ hk => hk.elim) ?aF ?aO ?aB ?aS ?aL ?_; (case aP => exact rfl); (case aB => exact xbel); (case aF => exact (fun _ _ => trivial)); (case aO => exact (xr aE)); (case aS => exact (below_size xbel)); (case aL => have := LMc18.out; omega); intro v139 nO ho hb hg hat; rw [← eN.out] at ho; replace HB := aM (hb); have eR := aM (ho); clear aE ho hb hg hat; refine hK.out _ _ ⟨(xce HB bM), (xce HB bN), (xce HB bO), (xce HB bP)⟩ (fun hHeld => ?_); clear hK K; refine nm_ (N := 61) ?_; refine pV 36 5 ?_; refine dn_ ?_; try go_wp2
             go_roundg k1
             case measure => have := HK1.out; omega
             case rel => exact ⟨(eM), (wrap64 (aW + 1)), u5_1, H', ⟨by have := HK1.out; omega⟩, ⟨by (with_reducible repeat (first | apply Kd.R_alloc | apply Kd.R_drewN | apply Kd.R_drew)); exact eR.out⟩, ⟨xbel⟩⟩
            ·rw [if_neg eL] at H; exact absurd H (by simp)
           ·rw [if_neg eJ] at H; exact absurd H (by simp)
          ·rw [if_neg eH] at H; exact absurd H (by simp)
         ·rw [if_neg eF] at H; exact absurd H (by simp)
        ·rw [if_neg eD] at H; exact absurd H (by simp)
       ·rw [if_neg eB] at H; exact absurd H (by simp)
      ·rw [if_neg c10] at H; exact absurd H (by simp)
     ·rw [if_neg c8] at H; exact absurd H (by simp)
    ·rw [if_neg c7] at H; exact absurd H (by simp)
   ·rw [if_neg c5] at H; have dZ : decide (aW < 16) = false := decide_eq_false c5; clear c5; have H' := aM H; clear H; go_wp2; go_loopg [5, 7] k1 (fun kq v5 v7 w' => ∃ (aC : List Int) (aK : Int), v7 = .int .i64 aK ∧ Aside0 (spec_l2Block.l1 kq l0 aC aK = some r) ∧ Aside0 (kq ≤ k1) ∧ Aside0 (Kd.R (Kd.int .i64) 3 w' w.heap.size (fun _ => True) v5 aC) ∧ Aside0 (Below w.heap.size w w'))
    case atStart => exact ⟨(aT), (16), u5_1, H', ⟨Nat.le_refl _⟩, ⟨u5_3⟩, ⟨xbel⟩⟩
    case round =>
     clear H'; try clear c1
     try clear p1
     try clear q1
     try clear lC
     try clear p2
     try clear c5
     try clear dZ
     try clear p6
     try clear c7
     try clear jH
     try clear c8
     try clear jI
     try clear c10
     try clear eA
     try clear eB
     try clear eC
     try clear eD
     try clear eE
     try clear p13
     try clear q13
     try clear mI
     try clear eF
     try clear eG
     try clear eH
     try clear eI
     try clear eJ
     try clear eK
     try clear eL
     try clear aX
     try clear aY
     try clear aZ
     try clear bA
     try clear p134
     try clear p135
     try clear p136
     try clear p137
     try clear p2
     try clear q134
     try clear q135
     try clear q136
     try clear q137
     obtain ⟨aC, aK, rfl, HA, HK2, aE, HB⟩ := hrel; cases gk with
     | zero => exact absurd HA.out (by simp [spec_l2Block.l1])
     | succ k2 =>
      have H := HA.out; clear HA; simp only [spec_l2Block.l1] at H; by_cases dS : aK < 64
      ·rw [if_pos dS] at H; have dJ : decide (aK < 64) = true := decide_eq_true dS; clear dS; obtain ⟨ji22, hji22⟩ : ∃ j_ : Int, (wrap64 (aK - 15)) = j_ := ⟨_, rfl⟩; replace H : (if 0 ≤ (ji22) then (if (ji22) < (aC.length : Int) then ((spec_l2Turn.f (rd aC (ji22)) 7).bind fun cC => ((spec_l2Turn.f (rd aC (ji22)) 18).bind fun cD => (if 0 ≤ (wrap64 (aK - 2)) then (if (wrap64 (aK - 2)) < (aC.length : Int) then ((spec_l2Turn.f (rd aC (wrap64 (aK - 2))) 17).bind fun bY => ((spec_l2Turn.f (rd aC (wrap64 (aK - 2))) 19).bind fun bZ => (if 0 ≤ (wrap64 (aK - 7)) then (if (wrap64 (aK - 7)) < (aC.length : Int) then (if 0 ≤ (wrap64 (aK - 16)) then (if (wrap64 (aK - 16)) < (aC.length : Int) then ((spec_l2Low.f (wrap64 ((wrap64 ((wrap64 ((Go.bits .xor .i64 (Go.bits .xor .i64 bY bZ) ((rd aC (wrap64 (aK - 2))) / 1024)) + (rd aC (wrap64 (aK - 7))))) + (Go.bits .xor .i64 (Go.bits .xor .i64 cC cD) ((rd aC (ji22)) / 8)))) + (rd aC (wrap64 (aK - 16)))))).bind fun aU => (if aC.length < 17592186044416 then (spec_l2Block.l1 k2 l0 (aC ++ [aU]) (wrap64 (aK + 1))) else (none))) else (none)) else (none)) else (none)) else (none)))) else (none)) else (none)))) else (none)) else (none)) = some r := by first | (rw [hji22] at H; exact H) | (simp only [hji22] at H ⊢; exact H)
       have hji22w : (IntKind.i64.wrap (aK - 15)) = ji22 := (i64_w _).trans hji22; by_cases eS : 0 ≤ (ji22)
       ·rw [if_pos eS] at H; have lE : decide (0 ≤ (ji22)) = true := decide_eq_true eS; clear eS; by_cases eT : (ji22) < (aC.length : Int)
        ·rw [if_pos eT] at H; have lF : decide ((ji22) < (aC.length : Int)) = true := decide_eq_true eT; clear eT; replace H := oB H; obtain ⟨cC, eU, H⟩ := H; (try dsimp only at H); have iV := aM eU; clear eU; replace H := oB H
         obtain ⟨cD, eV, H⟩ := H; (try dsimp only at H); have iW := aM eV; clear eV
         obtain ⟨ji27, hji27⟩ : ∃ j_ : Int, (wrap64 (aK - 2)) = j_ := ⟨_, rfl⟩; replace H : (if 0 ≤ (ji27) then (if (ji27) < (aC.length : Int) then ((spec_l2Turn.f (rd aC (ji27)) 17).bind fun bY => ((spec_l2Turn.f (rd aC (ji27)) 19).bind fun bZ => (if 0 ≤ (wrap64 (aK - 7)) then (if (wrap64 (aK - 7)) < (aC.length : Int) then (if 0 ≤ (wrap64 (aK - 16)) then (if (wrap64 (aK - 16)) < (aC.length : Int) then ((spec_l2Low.f (wrap64 ((wrap64 ((wrap64 ((Go.bits .xor .i64 (Go.bits .xor .i64 bY bZ) ((rd aC (ji27)) / 1024)) + (rd aC (wrap64 (aK - 7))))) + (Go.bits .xor .i64 (Go.bits .xor .i64 cC cD) ((rd aC (ji22)) / 8)))) + (rd aC (wrap64 (aK - 16)))))).bind fun aU => (if aC.length < 17592186044416 then (spec_l2Block.l1 k2 l0 (aC ++ [aU]) (wrap64 (aK + 1))) else (none))) else (none)) else (none)) else (none)) else (none)))) else (none)) else (none)) = some r := by first | (rw [hji27] at H; exact H) | (simp only [hji27] at H ⊢; exact H)
         (try rw [hji27] at iV); (try rw [hji27] at iW); have hji27w : (IntKind.i64.wrap (aK - 2)) = ji27 := (i64_w _).trans hji27; by_cases eW : 0 ≤ (ji27)
         ·rw [if_pos eW] at H; have lG : decide (0 ≤ (ji27)) = true := decide_eq_true eW; clear eW; by_cases eX : (ji27) < (aC.length : Int)
          ·rw [if_pos eX] at H; have lH : decide ((ji27) < (aC.length : Int)) = true := decide_eq_true eX; clear eX; replace H := oB H; obtain ⟨bY, eY, H⟩ := H; (try dsimp only at H); have jN := aM eY; clear eY; replace H := oB H
           obtain ⟨bZ, eZ, H⟩ := H; (try dsimp only at H); have jO := aM eZ; clear eZ
           obtain ⟨ji32, hji32⟩ : ∃ j_ : Int, (wrap64 (aK - 7)) = j_ := ⟨_, rfl⟩; replace H : (if 0 ≤ (ji32) then (if (ji32) < (aC.length : Int) then (if 0 ≤ (wrap64 (aK - 16)) then (if (wrap64 (aK - 16)) < (aC.length : Int) then ((spec_l2Low.f (wrap64 ((wrap64 ((wrap64 ((Go.bits .xor .i64 (Go.bits .xor .i64 bY bZ) ((rd aC (ji27)) / 1024)) + (rd aC (ji32)))) + (Go.bits .xor .i64 (Go.bits .xor .i64 cC cD) ((rd aC (ji22)) / 8)))) + (rd aC (wrap64 (aK - 16)))))).bind fun aU => (if aC.length < 17592186044416 then (spec_l2Block.l1 k2 l0 (aC ++ [aU]) (wrap64 (aK + 1))) else (none))) else (none)) else (none)) else (none)) else (none)) = some r := by first | (rw [hji32] at H; exact H) | (simp only [hji32] at H ⊢; exact H)
           (try rw [hji32] at iV); (try rw [hji32] at iW); (try rw [hji32] at jN); (try rw [hji32] at jO); have hji32w : (IntKind.i64.wrap (aK - 7)) = ji32 := (i64_w _).trans hji32; by_cases fA : 0 ≤ (ji32)
           ·rw [if_pos fA] at H; have lI : decide (0 ≤ (ji32)) = true := decide_eq_true fA; clear fA; by_cases fB : (ji32) < (aC.length : Int)
            ·rw [if_pos fB] at H; have lJ : decide ((ji32) < (aC.length : Int)) = true := decide_eq_true fB; clear fB; obtain ⟨ji35, hji35⟩ : ∃ j_ : Int, (wrap64 (aK - 16)) = j_ := ⟨_, rfl⟩; replace H : (if 0 ≤ (ji35) then (if (ji35) < (aC.length : Int) then ((spec_l2Low.f (wrap64 ((wrap64 ((wrap64 ((Go.bits .xor .i64 (Go.bits .xor .i64 bY bZ) ((rd aC (ji27)) / 1024)) + (rd aC (ji32)))) + (Go.bits .xor .i64 (Go.bits .xor .i64 cC cD) ((rd aC (ji22)) / 8)))) + (rd aC (ji35))))).bind fun aU => (if aC.length < 17592186044416 then (spec_l2Block.l1 k2 l0 (aC ++ [aU]) (wrap64 (aK + 1))) else (none))) else (none)) else (none)) = some r := by first | (rw [hji35] at H; exact H) | (simp only [hji35] at H ⊢; exact H)
             (try rw [hji35] at iV); (try rw [hji35] at iW); (try rw [hji35] at jN); (try rw [hji35] at jO); have hji35w : (IntKind.i64.wrap (aK - 16)) = ji35 := (i64_w _).trans hji35; by_cases fC : 0 ≤ (ji35)
             ·rw [if_pos fC] at H; have lK : decide (0 ≤ (ji35)) = true := decide_eq_true fC; clear fC; by_cases fD : (ji35) < (aC.length : Int)
              ·rw [if_pos fD] at H; have lL : decide ((ji35) < (aC.length : Int)) = true := decide_eq_true fD; clear fD; replace H := oB H; obtain ⟨aU, fE, H⟩ := H; (try dsimp only at H); have mJ := aM fE; clear fE
               by_cases fF : aC.length < 17592186044416
               ·rw [if_pos fF] at H; have LMc39 := aM fF; clear fF; obtain ⟨fG, hY⟩ : ∃ y_ : List Int, y_ = (aC ++ [aU]) := ⟨_, rfl⟩; replace H : (spec_l2Block.l1 k2 l0 fG (wrap64 (aK + 1))) = some r := u5_0; have fH := aM hY; clear hY; have H' := aM H; clear H; try go_wp2
                replace aE := rD aE; replace HB := lD HB; obtain ⟨mK, jP, fI⟩ := Kd.R_slice aE.out; (first | subst fI | (injection fI with f1_ f2_ f3_; have f4_ := f1_.symm; have f5_ := f3_.symm; clear f1_ f2_ f3_; subst f4_; subst f5_)); have p141 : 0 ≤ ((ji22) : Int) := oda; have q141 : (ji22) < (aC.length : Int) := oda; obtain ⟨aN, jQ, cT⟩ := Kd.at_int (Kd.R_reads' aE.out).2.2 (ji22) p141 q141; cases jQ
                replace p141 := eq_true p141; replace q141 := eq_true q141; have p143 : 0 ≤ ((ji22) : Int) := oda; have q143 : (ji22) < (aC.length : Int) := oda; obtain ⟨fJ, jR, cU⟩ := Kd.at_int (Kd.R_reads' aE.out).2.2 (ji22) p143 q143; obtain rfl : aN = fJ := (by injection jR); replace p143 := eq_true p143; replace q143 := eq_true q143; have p145 : 0 ≤ ((ji22) : Int) := oda; have q145 : (ji22) < (aC.length : Int) := oda; obtain ⟨fK, jS, cV⟩ := Kd.at_int (Kd.R_reads' aE.out).2.2 (ji22) p145 q145; obtain rfl : aN = fK := (by injection jS); replace p145 := eq_true p145; replace q145 := eq_true q145; refine st_ 21 (fun w' => w'.cell? (aN.add ((ji22)).toNat) = some (.int .i64 (rd aC (ji22))) ∧ w'.cell? (aN.add ((ji22)).toNat) = some (.int .i64 (rd aC (ji22))) ∧ w'.cell? (aN.add ((ji22)).toNat) = some (.int .i64 (rd aC (ji22)))) spec_l2Block.T9 spec_l2Block.B9 ⟨cT, cU, cV⟩ (fun hHeld HT_ HW_ => ?_); generalize wr.drew = iX at aE HB cT cU cV hHeld ⊢; refine pV 0 66 ?_; refine pV 1 67 ?_; refine pV 2 68 ?_; refine pV 3 69 ?_; refine pV 6 72 ?_; refine pV 7 73 ?_; refine pV 8 74 ?_; refine pV 9 75 ?_; refine pV 13 79 ?_; refine pV 14 80 ?_; refine pV 15 81 ?_; refine pV 16 82 ?_; refine tK 4 70 ?_; refine tK 10 76 ?_; refine tK 17 83 ?_; refine pV 18 84 ?_; refine oN 5 71 fun K hK => ?_
                refine goes_ Try.func106 (by kernel_rfl) rfl #[.int .i64 (rd aC (ji22)), .int .i64 7] (by rfl) rfl rfl u5_4 ?_; with_reducible refine (spec_l2Turn.calls (rd aC (ji22)) 7 cC _ iV.out).mono ?_
                rintro e w' ⟨rfl, ⟨nd, rfl⟩⟩; refine ⟨_, rfl, ?_⟩; refine hK.out _ _ ⟨hHeld.1, hHeld.2.1, hHeld.2.2⟩ (fun hHeld => ?_); clear hK K; refine nm_ (N := 71) ?_; refine oN 11 77 fun K hK => ?_
                refine goes_ Try.func106 (by kernel_rfl) rfl #[.int .i64 (rd aC (ji22)), .int .i64 18] (by rfl) rfl rfl u5_4 ?_; with_reducible refine (spec_l2Turn.calls (rd aC (ji22)) 18 cD _ iW.out).mono ?_
                rintro e w' ⟨rfl, ⟨nd, rfl⟩⟩; refine ⟨_, rfl, ?_⟩; refine hK.out _ _ ⟨hHeld.1, hHeld.2.1, hHeld.2.2⟩ (fun hHeld => ?_); clear hK K; refine nm_ (N := 77) ?_; refine pV 12 78 ?_; refine pV 19 85 ?_; refine pV 20 8 ?_; refine dn_ ?_; try go_wp2
                (try ((repeat rw [World.drewN_drewN]); rw [drewN_self iX]; generalize hq_ : World.drewN iX _ = iX; replace aE := aM (Kd.R_at hq_ aE.out); replace HB := aM (below_at hq_ HB.out); clear hq_)); replace aE := rD aE; replace HB := lD HB; have p146 : 0 ≤ ((ji27) : Int) := oda; have q146 : (ji27) < (aC.length : Int) := oda; obtain ⟨fL, jT, cG⟩ := Kd.at_int (Kd.R_reads' aE.out).2.2 (ji27) p146 q146; obtain rfl : aN = fL := (by injection jT); replace p146 := eq_true p146; replace q146 := eq_true q146; have p148 : 0 ≤ ((ji27) : Int) := oda; have q148 : (ji27) < (aC.length : Int) := oda; obtain ⟨fM, jU, cH⟩ := Kd.at_int (Kd.R_reads' aE.out).2.2 (ji27) p148 q148; obtain rfl : aN = fM := (by injection jU); replace p148 := eq_true p148; replace q148 := eq_true q148; have p150 : 0 ≤ ((ji27) : Int) := oda; have q150 : (ji27) < (aC.length : Int) := oda; obtain ⟨fN, jV, cI⟩ := Kd.at_int (Kd.R_reads' aE.out).2.2 (ji27) p150 q150; obtain rfl : aN = fN := (by injection jV); replace p150 := eq_true p150; replace q150 := eq_true q150; refine st_ 21 (fun w' => w'.cell? (aN.add ((ji27)).toNat) = some (.int .i64 (rd aC (ji27))) ∧ w'.cell? (aN.add ((ji27)).toNat) = some (.int .i64 (rd aC (ji27))) ∧ w'.cell? (aN.add ((ji27)).toNat) = some (.int .i64 (rd aC (ji27)))) spec_l2Block.T10 spec_l2Block.B10 ⟨cG, cH, cI⟩ (fun hHeld HT_ HW_ => ?_); generalize iX.drew = iY at aE HB cG cH cI hHeld ⊢; refine pV 0 86 ?_; refine pV 1 87 ?_; refine pV 2 88 ?_; refine pV 3 89 ?_; refine pV 6 92 ?_; refine pV 7 93 ?_; refine pV 8 94 ?_; refine pV 9 95 ?_; refine pV 13 99 ?_; refine pV 14 100 ?_; refine pV 15 101 ?_; refine pV 16 102 ?_; refine tK 4 90 ?_; refine tK 10 96 ?_; refine tK 17 103 ?_; refine pV 18 104 ?_; refine oN 5 91 fun K hK => ?_
                refine goes_ Try.func106 (by kernel_rfl) rfl #[.int .i64 (rd aC (ji27)), .int .i64 17] (by rfl) rfl rfl u5_5 ?_; with_reducible refine (spec_l2Turn.calls (rd aC (ji27)) 17 bY _ jN.out).mono ?_
                rintro e w' ⟨rfl, ⟨nd, rfl⟩⟩; refine ⟨_, rfl, ?_⟩; refine hK.out _ _ ⟨hHeld.1, hHeld.2.1, hHeld.2.2⟩ (fun hHeld => ?_); clear hK K; refine nm_ (N := 91) ?_; refine oN 11 97 fun K hK => ?_
                refine goes_ Try.func106 (by kernel_rfl) rfl #[.int .i64 (rd aC (ji27)), .int .i64 19] (by rfl) rfl rfl u5_5 ?_; with_reducible refine (spec_l2Turn.calls (rd aC (ji27)) 19 bZ _ jO.out).mono ?_
                rintro e w' ⟨rfl, ⟨nd, rfl⟩⟩; refine ⟨_, rfl, ?_⟩; refine hK.out _ _ ⟨hHeld.1, hHeld.2.1, hHeld.2.2⟩ (fun hHeld => ?_); clear hK K; refine nm_ (N := 97) ?_; refine pV 12 98 ?_; refine pV 19 105 ?_; refine pV 20 9 ?_; refine dn_ ?_; try go_wp2
                (try ((repeat rw [World.drewN_drewN]); rw [drewN_self iY]; generalize hq_ : World.drewN iY _ = iY; replace aE := aM (Kd.R_at hq_ aE.out); replace HB := aM (below_at hq_ HB.out); clear hq_)); replace aE := rD aE; replace HB := lD HB; have p151 : 0 ≤ ((ji32) : Int) := oda; have q151 : (ji32) < (aC.length : Int) := oda; obtain ⟨fO, jW, cJ⟩ := Kd.at_int (Kd.R_reads' aE.out).2.2 (ji32) p151 q151; obtain rfl : aN = fO := (by injection jW); replace p151 := eq_true p151; replace q151 := eq_true q151; have p152 : 0 ≤ ((ji35) : Int) := oda; have q152 : (ji35) < (aC.length : Int) := oda; obtain ⟨fP, jX, cK⟩ := Kd.at_int (Kd.R_reads' aE.out).2.2 (ji35) p152 q152; obtain rfl : aN = fP := (by injection jX); replace p152 := eq_true p152; replace q152 := eq_true q152; refine start_ (n := 20) (S := fun w' => w'.cell? (aN.add ((ji32)).toNat) = some (.int .i64 (rd aC (ji32))) ∧ w'.cell? (aN.add ((ji35)).toNat) = some (.int .i64 (rd aC (ji35)))) (ds := [17, 18]) #[false, false, false, false, false, false, false, false, false, false, false, false, false, false, false, false, false, false, false, false] (by kernel_rfl) rfl rfl ⟨cJ, cK⟩ (fun hHeld => ?_); refine with_tabW spec_l2Block.tab11 spec_l2Block.bits11 (fun HT_ HW_ => ?_); generalize iY.drew = nP at aE HB cJ cK hHeld ⊢; refine pV 0 106 ?_; refine pV 1 107 ?_; refine pV 2 108 ?_; refine pV 3 109 ?_; refine pV 4 110 ?_; refine pV 5 111 ?_; refine pV 8 114 ?_; refine pV 10 116 ?_; refine pV 11 117 ?_; refine pV 12 118 ?_; refine pV 13 119 ?_; refine tK 6 112 ?_; refine pV 7 113 ?_; refine pV 9 115 ?_; refine tK 14 120 ?_; refine pV 15 121 ?_; refine oN 16 122 fun K hK => ?_
                refine goes_ Try.func107 (by kernel_rfl) rfl #[.int .i64 (wrap64 ((wrap64 ((wrap64 ((Go.bits .xor .i64 (Go.bits .xor .i64 bY bZ) ((rd aC (ji27)) / 1024)) + (rd aC (ji32)))) + (Go.bits .xor .i64 (Go.bits .xor .i64 cC cD) ((rd aC (ji22)) / 8)))) + (rd aC (ji35))))] (by rfl) rfl rfl (by (try simp only [List.map_toArray, List.map_cons, List.map_nil]); first | done | (simp only [hji22, hji27, hji32, hji35]; rfl) | rfl | (simp only [List.length_drop, List.length_take]; rfl)) ?_; with_reducible refine (spec_l2Low.calls (wrap64 ((wrap64 ((wrap64 ((Go.bits .xor .i64 (Go.bits .xor .i64 bY bZ) ((rd aC (ji27)) / 1024)) + (rd aC (ji32)))) + (Go.bits .xor .i64 (Go.bits .xor .i64 cC cD) ((rd aC (ji22)) / 8)))) + (rd aC (ji35)))) aU _ mJ.out).mono ?_
                rintro e w' ⟨rfl, ⟨nd, rfl⟩⟩; refine ⟨_, rfl, ?_⟩; refine hK.out _ _ ⟨hHeld.1, hHeld.2⟩ (fun hHeld => ?_); clear hK K; refine nm_ (N := 122) ?_; refine last_ (i := 17) (N := some 123) #[true, true, true, true, true, true, true, true, true, true, true, true, true, true, true, true, true, true, false, false] rfl rfl (one_of HT_.out (by kernel_rfl)) (by decide) (fun K hK => ?_); refine value_ (w1 := ?_) (v := ?_) (by rfl) rfl ?_ ?_; rotate_left 2
                ·go_simp
                 constructor
                 ·rfl
                 ·rfl
                refine hK.out _ _ ?_; clear hK K; refine nm_ (N := 123) ?_; refine last_ (i := 18) (N := some 124) #[true, true, true, true, true, true, true, true, true, true, true, true, true, true, true, true, true, true, true, false] rfl rfl (one_of HT_.out (by kernel_rfl)) (by decide) (fun K hK => ?_); refine Kd.R_append_step (Kd.int .i64) (w0 := w) w.heap.size (by rfl) (.tmp 106) (.tmp 123) 85 3 (.int .i64 0) 8 rfl Try.underlying85 info3 rfl (by decide) (by omega) (.slice (some aN) aC.length jP) aC aU [.int .i64 aU] (fun _ => True) (fun _ => False) rfl rfl ?aP (fun _ hk => hk.elim) ?aF ?aO ?aB ?aS ?aL ?_; (case aP => exact rfl); (case aB => exact xbel); (case aF => exact (fun _ _ => trivial)); (case aO => exact (xr aE)); (case aS => exact (below_size xbel)); (case aL => have := LMc39.out; omega); intro v155 nQ ho hb hg hat; rw [← fH.out] at ho; replace HB := aM (hb); have fQ := aM (ho); clear aE ho hb hg hat; refine hK.out _ _ ?_; clear hK K; refine nm_ (N := 124) ?_; refine pV 19 5 ?_; refine dn_ ?_; try go_wp2
                go_roundg k2
                case measure => have := HK1.out; have := HK2.out; omega
                case rel => exact ⟨(fG), (wrap64 (aK + 1)), u5_1, H', ⟨by have := HK1.out; have := HK2.out; omega⟩, ⟨by (with_reducible repeat (first | apply Kd.R_alloc | apply Kd.R_drewN | apply Kd.R_drew)); exact fQ.out⟩, ⟨xbel⟩⟩
               ·rw [if_neg fF] at H; exact absurd H (by simp)
              ·rw [if_neg fD] at H; exact absurd H (by simp)
             ·rw [if_neg fC] at H; exact absurd H (by simp)
            ·rw [if_neg fB] at H; exact absurd H (by simp)
           ·rw [if_neg fA] at H; exact absurd H (by simp)
          ·rw [if_neg eX] at H; exact absurd H (by simp)
         ·rw [if_neg eW] at H; exact absurd H (by simp)
        ·rw [if_neg eT] at H; exact absurd H (by simp)
       ·rw [if_neg eS] at H; exact absurd H (by simp)
      ·rw [if_neg dS] at H; have dJ : decide (aK < 64) = false := decide_eq_false dS; clear dS; replace H := oB H; obtain ⟨aV, fR, H⟩ := H; (try dsimp only at H); have mL := aM fR; clear fR
       obtain ⟨cL, hY⟩ : ∃ y_ : List Int, y_ = (([] : List Int)) := ⟨_, rfl⟩; replace H : (if cL.length + l0.length < 17592186044416 then (spec_l2Block.l2 k2 l0 aC aV (cL ++ l0) 0) else (none)) = some r := u5_0; have dK := aM hY; clear hY; by_cases fS : cL.length + l0.length < 17592186044416
       ·rw [if_pos fS] at H; have LMc46 := aM fS; clear fS; obtain ⟨fT, hY⟩ : ∃ y_ : List Int, y_ = (cL ++ l0) := ⟨_, rfl⟩; replace H : (spec_l2Block.l2 k2 l0 aC aV fT 0) = some r := u5_0; have fU := aM hY; clear hY; have H' := aM H; clear H; go_wp2_with (first | ((with_reducible refine gC 108 rfl ?_); refine goesLY (some 125) rfl Try.func108 #[] ?_; (with_reducible refine (spec_l2Keys.calls  aV _ mL.out).mono ?_); rintro e nR ⟨v158, rfl, jY, hb⟩; refine ⟨_, rfl, ?_⟩; have cB := aM (Kd.R_lower (Kd.R_new' jY (Kd.R_lt (xr aE))) (below_size xbel)); replace aE := aM (Kd.R_elder' (xr aE) (Kd.R_base jY) hb); replace HB := xbs hb; (try clear hb jY)) | ((with_reducible refine gD 126 rfl ?_); refine Kd.R_lit (Kd.int .i64) _ 3 ?hg (N := 126) ?hd (xs := ([] : List Int)) (inner := []) (ok := fun _ => True) (okp := fun _ => True) ?hr ?hp (fun _ hk => hk) trivial (Below.refl _ _) (Nat.le_refl _) (by simp) ?_; (case hd => rfl); (case hg => rfl); (case hr => exact u5_2); (case hp => exact (Reps.none _ _)); intro v161 nS cS hb hg_ hnew_; clear hg_ hnew_; (first | rw [← dK.out] at cS | (simp only [Int.reduceToNat] at cS; rw [← dK.out] at cS)); have dL := aM (Kd.R_lower (Kd.R_new' (Kd.R_new' cS (Kd.R_lt (xr aE))) (Kd.R_lt (xr cB))) (below_size xbel)); replace aE := aM (Kd.R_elder' (xr aE) (Kd.R_base cS) hb); replace cB := aM (Kd.R_elder' (xr cB) (Kd.R_base cS) hb); replace HB := xbs hb; clear hb cS) | ((with_reducible refine gate_builtin (b := .append) (xs := #[.tmp 126, .tmp 127]) rfl ?_); at_builtin; refine Kd.R_append_rows (Kd.int .i64) (w0 := w) w.heap.size rfl (.tmp 126) (.tmp 127) 85 3 (.int .i64 0) 8 rfl Try.underlying85 info3 rfl (by decide) (by omega) v161 cL l0 _ _ _ (fun k_ => some k_ ≠ (u5 : Value).ownBlock ∧ some k_ ≠ (v158 : Value).ownBlock) (fun _ => False) rfl rfl ?aO ?aR (fun _ _ h => h) (fun _ h => h.elim) ?aF ?aB ?aS ?aL ?_; (case aR => exact xcb lB); (case aB => exact xbel); (case aF => exact (fun k_ hk => ⟨Kd.fresh' (Kd.R_lt (xr aE)) k_ hk, Kd.fresh' (Kd.R_lt (xr cB)) k_ hk⟩)); (case aO => exact (by (with_reducible repeat (first | apply Kd.R_alloc | apply Kd.R_drewN | apply Kd.R_drew)); exact Kd.R_mono dL.out (fun _ hk => ⟨hk.1.2, hk.2⟩))); (case aS => exact (below_size xbel)); (case aL => have := LMc46.out; omega); intro v164 nT ho hb hg hat; rw [← fU.out] at ho; replace aE := aM (Kd.R_after (ok := (fun k_ => some k_ ≠ (v158 : Value).ownBlock)) (by (with_reducible repeat (first | apply Kd.R_alloc | apply Kd.R_drewN | apply Kd.R_drew)); exact Kd.R_mono aE.out (fun _ hk => ⟨hk.1.2, hk.2⟩)) hg hat); replace cB := aM (Kd.R_after (ok := (fun k_ => some k_ ≠ (u5 : Value).ownBlock)) (by (with_reducible repeat (first | apply Kd.R_alloc | apply Kd.R_drewN | apply Kd.R_drew)); exact Kd.R_mono cB.out (fun _ hk => ⟨hk.1.2, hk.2⟩)) hg hat); replace HB := aM (hb); have fV := aM (ho); clear dL; clear ho hb hg hat))
        go_loopg [11, 12] k2 (fun kq v11 v12 w' => ∃ (aA : List Int) (aH : Int), v12 = .int .i64 aH ∧ Aside0 (spec_l2Block.l2 kq l0 aC aV aA aH = some r) ∧ Aside0 (kq ≤ k2) ∧ Aside0 (Kd.R (Kd.int .i64) 3 w' w.heap.size (fun k_ => some k_ ≠ (v158 : Value).ownBlock ∧ some k_ ≠ (v11 : Value).ownBlock) u5 aC) ∧ Aside0 (Kd.R (Kd.int .i64) 3 w' w.heap.size (fun k_ => some k_ ≠ (u5 : Value).ownBlock ∧ some k_ ≠ (v11 : Value).ownBlock) v158 aV) ∧ Aside0 (Kd.R (Kd.int .i64) 3 w' w.heap.size (fun k_ => some k_ ≠ (u5 : Value).ownBlock ∧ some k_ ≠ (v158 : Value).ownBlock) v11 aA) ∧ Aside0 (Below w.heap.size w w'))
        case atStart => exact ⟨(fT), (0), u5_1, H', ⟨Nat.le_refl _⟩, ⟨u5_3⟩, ⟨by (with_reducible repeat (first | apply Kd.R_alloc | apply Kd.R_drewN | apply Kd.R_drew)); exact cB.out⟩, ⟨by (with_reducible repeat (first | apply Kd.R_alloc | apply Kd.R_drewN | apply Kd.R_drew)); exact fV.out⟩, ⟨xbel⟩⟩
        case round =>
         clear H'; try clear c1
         try clear p1
         try clear q1
         try clear lC
         try clear c2
         try clear p2
         try clear c3
         try clear c4
         try clear p6
         try clear c10
         try clear p14
         try clear q14
         try clear mM
         try clear p15
         try clear q15
         try clear mN
         try clear dS
         try clear dJ
         try clear eS
         try clear eT
         try clear eW
         try clear eX
         try clear fA
         try clear fB
         try clear fC
         try clear fD
         try clear fF
         try clear fS
         try clear cG
         try clear cH
         try clear cI
         try clear cJ
         try clear cK
         try clear p146
         try clear p148
         try clear p150
         try clear p151
         try clear p152
         try clear q146
         try clear q148
         try clear q150
         try clear q151
         try clear q152
         obtain ⟨aA, aH, rfl, HA, HK3, aE, aI, aD, HB⟩ := hrel; cases gk with
         | zero => exact absurd HA.out (by simp [spec_l2Block.l2])
         | succ k3 =>
          have H := HA.out; clear HA; simp only [spec_l2Block.l2] at H; by_cases dU : aH < 64
          ·rw [if_pos dU] at H; have dM : decide (aH < 64) = true := decide_eq_true dU; clear dU; by_cases fW : 4 < (aA.length : Int)
           ·rw [if_pos fW] at H; have lM : decide (4 < (aA.length : Int)) = true := decide_eq_true fW; have lN : decide (4 < aA.length) = true := decide_eq_true (by omega); clear fW; by_cases fX : 0 < (aA.length : Int)
            ·rw [if_pos fX] at H; have lO : decide (0 < (aA.length : Int)) = true := decide_eq_true fX; have lP : decide (0 < aA.length) = true := decide_eq_true (by omega); clear fX; by_cases fY : 5 < (aA.length : Int)
             ·rw [if_pos fY] at H; have lQ : decide (5 < (aA.length : Int)) = true := decide_eq_true fY; have lR : decide (5 < aA.length) = true := decide_eq_true (by omega); clear fY; by_cases fZ : 6 < (aA.length : Int)
              ·rw [if_pos fZ] at H; have lS : decide (6 < (aA.length : Int)) = true := decide_eq_true fZ; have lT : decide (6 < aA.length) = true := decide_eq_true (by omega); clear fZ; by_cases gA : 7 < (aA.length : Int)
               ·rw [if_pos gA] at H; have lU : decide (7 < (aA.length : Int)) = true := decide_eq_true gA; have lV : decide (7 < aA.length) = true := decide_eq_true (by omega); clear gA; replace H := oB H; obtain ⟨dB, gB, H⟩ := H; (try dsimp only at H); have mO := aM gB; clear gB; replace H := oB H
                obtain ⟨dC, gE, H⟩ := H; (try dsimp only at H); have mP := aM gE; clear gE; replace H := oB H
                obtain ⟨dD, gF, H⟩ := H; (try dsimp only at H); have mQ := aM gF; clear gF
                by_cases gG : 0 ≤ aH
                ·rw [if_pos gG] at H; have lW : decide (0 ≤ aH) = true := decide_eq_true gG; clear gG; by_cases gH : aH < (aV.length : Int)
                 ·rw [if_pos gH] at H; have lX : decide (aH < (aV.length : Int)) = true := decide_eq_true gH; clear gH; by_cases gI : aH < (aC.length : Int)
                  ·rw [if_pos gI] at H; have lY : decide (aH < (aC.length : Int)) = true := decide_eq_true gI; clear gI; replace H := oB H; obtain ⟨cM, gJ, H⟩ := H; (try dsimp only at H); have mR := aM gJ; clear gJ
                   by_cases gK : 1 < (aA.length : Int)
                   ·rw [if_pos gK] at H; have lZ : decide (1 < (aA.length : Int)) = true := decide_eq_true gK; have mA : decide (1 < aA.length) = true := decide_eq_true (by omega); clear gK; by_cases gL : 2 < (aA.length : Int)
                    ·rw [if_pos gL] at H; have mB : decide (2 < (aA.length : Int)) = true := decide_eq_true gL; have mC : decide (2 < aA.length) = true := decide_eq_true (by omega); clear gL; replace H := oB H; obtain ⟨dE, gM, H⟩ := H; (try dsimp only at H); have mS := aM gM; clear gM; replace H := oB H
                     obtain ⟨dF, gN, H⟩ := H; (try dsimp only at H); have mT := aM gN; clear gN; replace H := oB H
                     obtain ⟨dG, gO, H⟩ := H; (try dsimp only at H); have mU := aM gO; clear gO; replace H := oB H
                     obtain ⟨dH, gP, H⟩ := H; (try dsimp only at H); have mV := aM gP; clear gP; replace H := oB H
                     obtain ⟨cN, gQ, H⟩ := H; (try dsimp only at H); have mW := aM gQ; clear gQ
                     by_cases gR : 3 < (aA.length : Int)
                     ·rw [if_pos gR] at H; have mD : decide (3 < (aA.length : Int)) = true := decide_eq_true gR; have mE : decide (3 < aA.length) = true := decide_eq_true (by omega); clear gR; replace H := oB H; obtain ⟨cO, gS, H⟩ := H; (try dsimp only at H); have mX := aM gS; clear gS
                      obtain ⟨gT, hY⟩ : ∃ y_ : List Int, y_ = (([cN, rd aA 0, rd aA 1, rd aA 2, cO, rd aA 4, rd aA 5, rd aA 6] : List Int)) := ⟨_, rfl⟩; replace H : (spec_l2Block.l2 k3 l0 aC aV gT (wrap64 (aH + 1))) = some r := u5_0; have dN := aM hY; clear hY; have H' := aM H; clear H; try go_wp2
                      replace aE := rD aE; replace aI := rD aI; replace aD := rD aD; replace HB := lD HB; obtain ⟨mY, mZ, gU⟩ := Kd.R_slice aD.out; (first | subst gU | (injection gU with f1_ f2_ f3_; have f4_ := f1_.symm; have f5_ := f3_.symm; clear f1_ f2_ f3_; subst f4_; subst f5_)); have p166 : 0 ≤ (4 : Int) := (by omega); have q166 : 4 < (aA.length : Int) := oda; obtain ⟨aG, jZ, bQ⟩ := Kd.at_int (Kd.R_reads' aD.out).2.2 4 p166 q166; cases jZ
                      (try simp only [show (4 : Int).toNat = 4 from rfl, Nat.reduceMul, Nat.reduceEqDiff, Go.Addr.add, ↓reduceIte] at bQ); have qi166 : (4 < aA.length) = True := eq_true (by omega); (try rw [show ((4 : Int)).toNat = 4 from rfl] at bQ); replace p166 := eq_true p166; replace q166 := eq_true q166; have p167 : 0 ≤ (0 : Int) := (by omega); have q167 : 0 < (aA.length : Int) := oda; obtain ⟨gV, kA, bR⟩ := Kd.at_int (Kd.R_reads' aD.out).2.2 0 p167 q167; obtain rfl : aG = gV := (by injection kA); have qi167 : (0 < aA.length) = True := eq_true (by omega); (try rw [show ((0 : Int)).toNat = 0 from rfl] at bR); (try rw [Addr.add_zero'] at bR); replace p167 := eq_true p167; replace q167 := eq_true q167; refine st_ 8 (fun w' => w'.cell? ⟨aG.block, aG.off + 4, none⟩ = some (.int .i64 (rd aA 4)) ∧ w'.cell? aG = some (.int .i64 (rd aA 0))) spec_l2Block.T17 spec_l2Block.B17 ⟨bQ, bR⟩ (fun hHeld HT_ HW_ => ?_); generalize wr.drew = nA at aE aI aD HB bQ bR hHeld ⊢; refine pV 0 133 ?_; refine pV 1 134 ?_; refine pV 3 136 ?_; refine pV 4 137 ?_; refine tK 2 135 ?_; refine pV 6 13 ?_; refine tK 5 138 ?_; refine pV 7 14 ?_; refine dn_ ?_; try go_wp2
                      replace aE := rD aE; replace aI := rD aI; replace aD := rD aD; replace HB := lD HB; have p168 : 0 ≤ (5 : Int) := (by omega); have q168 : 5 < (aA.length : Int) := oda; obtain ⟨gW, kB, bU⟩ := Kd.at_int (Kd.R_reads' aD.out).2.2 5 p168 q168; obtain rfl : aG = gW := (by injection kB); (try simp only [show (5 : Int).toNat = 5 from rfl, Nat.reduceMul, Nat.reduceEqDiff, Go.Addr.add, ↓reduceIte] at bU); have qi168 : (5 < aA.length) = True := eq_true (by omega); (try rw [show ((5 : Int)).toNat = 5 from rfl] at bU); replace p168 := eq_true p168; replace q168 := eq_true q168; have p169 : 0 ≤ (6 : Int) := (by omega); have q169 : 6 < (aA.length : Int) := oda; obtain ⟨gX, kC, bV⟩ := Kd.at_int (Kd.R_reads' aD.out).2.2 6 p169 q169; obtain rfl : aG = gX := (by injection kC); (try simp only [show (6 : Int).toNat = 6 from rfl, Nat.reduceMul, Nat.reduceEqDiff, Go.Addr.add, ↓reduceIte] at bV); have qi169 : (6 < aA.length) = True := eq_true (by omega); (try rw [show ((6 : Int)).toNat = 6 from rfl] at bV); replace p169 := eq_true p169; replace q169 := eq_true q169; refine st_ 13 (fun w' => w'.cell? ⟨aG.block, aG.off + 5, none⟩ = some (.int .i64 (rd aA 5)) ∧ w'.cell? ⟨aG.block, aG.off + 6, none⟩ = some (.int .i64 (rd aA 6))) spec_l2Block.T18 spec_l2Block.B18 ⟨bU, bV⟩ (fun hHeld HT_ HW_ => ?_); generalize nA.drew = nB at aE aI aD HB bU bV hHeld ⊢; refine pV 0 139 ?_; refine pV 1 140 ?_; refine pV 2 141 ?_; refine pV 5 144 ?_; refine pV 6 145 ?_; refine pV 7 146 ?_; refine pV 8 147 ?_; refine tK 3 142 ?_; refine pV 4 143 ?_; refine tK 9 148 ?_; refine pV 10 149 ?_; refine pV 11 150 ?_; refine pV 12 15 ?_; refine dn_ ?_; try go_wp2
                      replace aE := rD aE; replace aI := rD aI; replace aD := rD aD; replace HB := lD HB; have p170 : 0 ≤ (7 : Int) := (by omega); have q170 : 7 < (aA.length : Int) := oda; obtain ⟨gY, kE, bW⟩ := Kd.at_int (Kd.R_reads' aD.out).2.2 7 p170 q170; obtain rfl : aG = gY := (by injection kE); (try simp only [show (7 : Int).toNat = 7 from rfl, Nat.reduceMul, Nat.reduceEqDiff, Go.Addr.add, ↓reduceIte] at bW); have qi170 : (7 < aA.length) = True := eq_true (by omega); (try rw [show ((7 : Int)).toNat = 7 from rfl] at bW); replace p170 := eq_true p170; replace q170 := eq_true q170; obtain ⟨nC, nD, gZ⟩ := Kd.R_slice aI.out; (first | subst gZ | (injection gZ with f1_ f2_ f3_; have f4_ := f1_.symm; have f5_ := f3_.symm; clear f1_ f2_ f3_; subst f4_; subst f5_)); have p174 : 0 ≤ (aH : Int) := oda; have q174 : aH < (aV.length : Int) := oda; obtain ⟨hJ, kF, cW⟩ := Kd.at_int (Kd.R_reads' aI.out).2.2 aH p174 q174; cases kF
                      replace p174 := eq_true p174; replace q174 := eq_true q174; obtain ⟨nE, nF, hU⟩ := Kd.R_slice aE.out; (first | subst hU | (injection hU with f1_ f2_ f3_; have f4_ := f1_.symm; have f5_ := f3_.symm; clear f1_ f2_ f3_; subst f4_; subst f5_)); have p175 : 0 ≤ (aH : Int) := oda; have q175 : aH < (aC.length : Int) := oda; obtain ⟨hX, kG, cX⟩ := Kd.at_int (Kd.R_reads' aE.out).2.2 aH p175 q175; cases kG
                      replace p175 := eq_true p175; replace q175 := eq_true q175; refine st_ 26 (fun w' => w'.cell? ⟨aG.block, aG.off + 7, none⟩ = some (.int .i64 (rd aA 7)) ∧ w'.cell? (hJ.add (aH).toNat) = some (.int .i64 (rd aV aH)) ∧ w'.cell? (hX.add (aH).toNat) = some (.int .i64 (rd aC aH))) spec_l2Block.T19 spec_l2Block.B19 ⟨bW, cW, cX⟩ (fun hHeld HT_ HW_ => ?_); generalize nB.drew = iZ at aE aI aD HB bW cW cX hHeld ⊢; refine pV 0 151 ?_; refine pV 1 152 ?_; refine pV 3 154 ?_; refine pV 5 156 ?_; refine pV 8 159 ?_; refine pV 12 163 ?_; refine pV 14 165 ?_; refine pV 15 166 ?_; refine pV 16 167 ?_; refine pV 19 170 ?_; refine pV 20 171 ?_; refine pV 21 172 ?_; refine tK 2 153 ?_; refine tK 17 168 ?_; refine tK 22 173 ?_; refine oN 4 155 fun K hK => ?_
                      refine goesY Try.func106 #[.int .i64 (rd aA 4), .int .i64 6] ?_; with_reducible refine (spec_l2Turn.calls (rd aA 4) 6 dB _ mO.out).mono ?_
                      rintro e w' ⟨rfl, ⟨nd, rfl⟩⟩; refine ⟨_, rfl, ?_⟩; refine hK.out _ _ ⟨hHeld.1, hHeld.2.1, hHeld.2.2⟩ (fun hHeld => ?_); clear hK K; refine nm_ (N := 155) ?_; refine oN 6 157 fun K hK => ?_
                      refine goesY Try.func106 #[.int .i64 (rd aA 4), .int .i64 11] ?_; with_reducible refine (spec_l2Turn.calls (rd aA 4) 11 dC _ mP.out).mono ?_
                      rintro e w' ⟨rfl, ⟨nd, rfl⟩⟩; refine ⟨_, rfl, ?_⟩; refine hK.out _ _ ⟨hHeld.1, hHeld.2.1, hHeld.2.2⟩ (fun hHeld => ?_); clear hK K; refine nm_ (N := 157) ?_; refine pV 7 158 ?_; refine oN 9 160 fun K hK => ?_
                      refine goesY Try.func106 #[.int .i64 (rd aA 4), .int .i64 25] ?_; with_reducible refine (spec_l2Turn.calls (rd aA 4) 25 dD _ mQ.out).mono ?_
                      rintro e w' ⟨rfl, ⟨nd, rfl⟩⟩; refine ⟨_, rfl, ?_⟩; refine hK.out _ _ ⟨hHeld.1, hHeld.2.1, hHeld.2.2⟩ (fun hHeld => ?_); clear hK K; refine nm_ (N := 160) ?_; refine pV 10 161 ?_; refine pV 11 162 ?_; refine pV 13 164 ?_; refine pV 18 169 ?_; refine pV 23 174 ?_; refine oN 24 175 fun K hK => ?_
                      refine goesY Try.func107 #[.int .i64 (wrap64 ((wrap64 ((wrap64 ((wrap64 ((rd aA 7) + (Go.bits .xor .i64 (Go.bits .xor .i64 dB dC) dD))) + (Go.bits .xor .i64 (Go.bits .and .i64 (rd aA 4) (rd aA 5)) (Go.bits .and .i64 (Go.bits .xor .i64 4294967295 (rd aA 4)) (rd aA 6))))) + (rd aV aH))) + (rd aC aH)))] ?_; with_reducible refine (spec_l2Low.calls (wrap64 ((wrap64 ((wrap64 ((wrap64 ((rd aA 7) + (Go.bits .xor .i64 (Go.bits .xor .i64 dB dC) dD))) + (Go.bits .xor .i64 (Go.bits .and .i64 (rd aA 4) (rd aA 5)) (Go.bits .and .i64 (Go.bits .xor .i64 4294967295 (rd aA 4)) (rd aA 6))))) + (rd aV aH))) + (rd aC aH))) cM _ mR.out).mono ?_
                      rintro e w' ⟨rfl, ⟨nd, rfl⟩⟩; refine ⟨_, rfl, ?_⟩; refine hK.out _ _ ⟨hHeld.1, hHeld.2.1, hHeld.2.2⟩ (fun hHeld => ?_); clear hK K; refine nm_ (N := 175) ?_; refine pV 25 16 ?_; refine dn_ ?_; try go_wp2
                      (try ((repeat rw [World.drewN_drewN]); rw [drewN_self iZ]; generalize hq_ : World.drewN iZ _ = iZ; replace aE := aM (Kd.R_at hq_ aE.out); replace aI := aM (Kd.R_at hq_ aI.out); replace aD := aM (Kd.R_at hq_ aD.out); replace HB := aM (below_at hq_ HB.out); clear hq_)); replace aE := rD aE; replace aI := rD aI; replace aD := rD aD; replace HB := lD HB; have p177 : 0 ≤ (1 : Int) := (by omega); have q177 : 1 < (aA.length : Int) := oda; obtain ⟨hZ, kH, bB⟩ := Kd.at_int (Kd.R_reads' aD.out).2.2 1 p177 q177; obtain rfl : aG = hZ := (by injection kH); (try simp only [show (1 : Int).toNat = 1 from rfl, Nat.reduceMul, Nat.reduceEqDiff, Go.Addr.add, ↓reduceIte] at bB); have qi177 : (1 < aA.length) = True := eq_true (by omega); (try rw [show ((1 : Int)).toNat = 1 from rfl] at bB); replace p177 := eq_true p177; replace q177 := eq_true q177; have p178 : 0 ≤ (2 : Int) := (by omega); have q178 : 2 < (aA.length : Int) := oda; obtain ⟨iA, kI, bC⟩ := Kd.at_int (Kd.R_reads' aD.out).2.2 2 p178 q178; obtain rfl : aG = iA := (by injection kI); (try simp only [show (2 : Int).toNat = 2 from rfl, Nat.reduceMul, Nat.reduceEqDiff, Go.Addr.add, ↓reduceIte] at bC); have qi178 : (2 < aA.length) = True := eq_true (by omega); (try rw [show ((2 : Int)).toNat = 2 from rfl] at bC); replace p178 := eq_true p178; replace q178 := eq_true q178; have p179 : 0 ≤ (1 : Int) := (by omega); have q179 : 1 < (aA.length : Int) := oda; obtain ⟨iB, kJ, bE⟩ := Kd.at_int (Kd.R_reads' aD.out).2.2 1 p179 q179; obtain rfl : aG = iB := (by injection kJ); (try simp only [show (1 : Int).toNat = 1 from rfl, Nat.reduceMul, Nat.reduceEqDiff, Go.Addr.add, ↓reduceIte] at bE); have qi179 : (1 < aA.length) = True := eq_true (by omega); (try rw [show ((1 : Int)).toNat = 1 from rfl] at bE); replace p179 := eq_true p179; replace q179 := eq_true q179; have p180 : 0 ≤ (2 : Int) := (by omega); have q180 : 2 < (aA.length : Int) := oda; obtain ⟨iC, kK, bG⟩ := Kd.at_int (Kd.R_reads' aD.out).2.2 2 p180 q180; obtain rfl : aG = iC := (by injection kK); (try simp only [show (2 : Int).toNat = 2 from rfl, Nat.reduceMul, Nat.reduceEqDiff, Go.Addr.add, ↓reduceIte] at bG); have qi180 : (2 < aA.length) = True := eq_true (by omega); (try rw [show ((2 : Int)).toNat = 2 from rfl] at bG); replace p180 := eq_true p180; replace q180 := eq_true q180; refine st_ 20 (fun w' => w'.cell? ⟨aG.block, aG.off + 1, none⟩ = some (.int .i64 (rd aA 1)) ∧ w'.cell? ⟨aG.block, aG.off + 2, none⟩ = some (.int .i64 (rd aA 2)) ∧ w'.cell? ⟨aG.block, aG.off + 1, none⟩ = some (.int .i64 (rd aA 1)) ∧ w'.cell? ⟨aG.block, aG.off + 2, none⟩ = some (.int .i64 (rd aA 2))) spec_l2Block.T20 spec_l2Block.B20 ⟨bB, bC, bE, bG⟩ (fun hHeld HT_ HW_ => ?_); generalize iZ.drew = jA at aE aI aD HB bB bC bE bG hHeld ⊢; refine pV 0 176 ?_; refine pV 1 177 ?_; refine pV 2 178 ?_; refine pV 5 181 ?_; refine pV 6 182 ?_; refine pV 7 183 ?_; refine pV 11 187 ?_; refine pV 12 188 ?_; refine pV 14 190 ?_; refine pV 15 191 ?_; refine tK 3 179 ?_; refine pV 4 180 ?_; refine tK 8 184 ?_; refine pV 9 185 ?_; refine pV 10 186 ?_; refine tK 13 189 ?_; refine tK 16 192 ?_; refine pV 17 193 ?_; refine pV 18 194 ?_; refine pV 19 17 ?_; refine dn_ ?_
                      try go_wp2_with (first | ((with_reducible refine gC 106 rfl ?_); refine goesLY (some 196) rfl Try.func106 #[.int .i64 (rd aA 0), .int .i64 2] ?_; (with_reducible refine (spec_l2Turn.calls (rd aA 0) 2 dE _ mS.out).mono ?_); rintro e w' ⟨rfl, ⟨nd, rfl⟩⟩; refine ⟨_, rfl, ?_⟩) | ((with_reducible refine gC 106 rfl ?_); refine goesLY (some 198) rfl Try.func106 #[.int .i64 (rd aA 0), .int .i64 13] ?_; (with_reducible refine (spec_l2Turn.calls (rd aA 0) 13 dF _ mT.out).mono ?_); rintro e w' ⟨rfl, ⟨nd, rfl⟩⟩; refine ⟨_, rfl, ?_⟩) | ((with_reducible refine gC 106 rfl ?_); refine goesLY (some 201) rfl Try.func106 #[.int .i64 (rd aA 0), .int .i64 22] ?_; (with_reducible refine (spec_l2Turn.calls (rd aA 0) 22 dG _ mU.out).mono ?_); rintro e w' ⟨rfl, ⟨nd, rfl⟩⟩; refine ⟨_, rfl, ?_⟩) | ((with_reducible refine gC 107 rfl ?_); refine goesLY (some 205) rfl Try.func107 #[.int .i64 (wrap64 ((Go.bits .xor .i64 (Go.bits .xor .i64 dE dF) dG) + (Go.bits .xor .i64 (Go.bits .xor .i64 (Go.bits .and .i64 (rd aA 0) (rd aA 1)) (Go.bits .and .i64 (rd aA 0) (rd aA 2))) (Go.bits .and .i64 (rd aA 1) (rd aA 2)))))] ?_; (with_reducible refine (spec_l2Low.calls (wrap64 ((Go.bits .xor .i64 (Go.bits .xor .i64 dE dF) dG) + (Go.bits .xor .i64 (Go.bits .xor .i64 (Go.bits .and .i64 (rd aA 0) (rd aA 1)) (Go.bits .and .i64 (rd aA 0) (rd aA 2))) (Go.bits .and .i64 (rd aA 1) (rd aA 2))))) dH _ mV.out).mono ?_); rintro e w' ⟨rfl, ⟨nd, rfl⟩⟩; refine ⟨_, rfl, ?_⟩))
                      (try ((repeat rw [World.drewN_drewN]); rw [drewN_self jA]; generalize hq_ : World.drewN jA _ = jA; replace aE := aM (Kd.R_at hq_ aE.out); replace aI := aM (Kd.R_at hq_ aI.out); replace aD := aM (Kd.R_at hq_ aD.out); replace HB := aM (below_at hq_ HB.out); clear hq_)); replace aE := rD aE; replace aI := rD aI; replace aD := rD aD; replace HB := lD HB; have p186 : 0 ≤ (1 : Int) := (by omega); have q186 : 1 < (aA.length : Int) := oda; obtain ⟨iD, kL, bH⟩ := Kd.at_int (Kd.R_reads' aD.out).2.2 1 p186 q186; obtain rfl : aG = iD := (by injection kL); (try simp only [show (1 : Int).toNat = 1 from rfl, Nat.reduceMul, Nat.reduceEqDiff, Go.Addr.add, ↓reduceIte] at bH); have qi186 : (1 < aA.length) = True := eq_true (by omega); (try rw [show ((1 : Int)).toNat = 1 from rfl] at bH); replace p186 := eq_true p186; replace q186 := eq_true q186; have p187 : 0 ≤ (2 : Int) := (by omega); have q187 : 2 < (aA.length : Int) := oda; obtain ⟨iE, kM, bI⟩ := Kd.at_int (Kd.R_reads' aD.out).2.2 2 p187 q187; obtain rfl : aG = iE := (by injection kM); (try simp only [show (2 : Int).toNat = 2 from rfl, Nat.reduceMul, Nat.reduceEqDiff, Go.Addr.add, ↓reduceIte] at bI); have qi187 : (2 < aA.length) = True := eq_true (by omega); (try rw [show ((2 : Int)).toNat = 2 from rfl] at bI); replace p187 := eq_true p187; replace q187 := eq_true q187; have p188 : 0 ≤ (3 : Int) := (by omega); have q188 : 3 < (aA.length : Int) := oda; obtain ⟨iF, kN, bJ⟩ := Kd.at_int (Kd.R_reads' aD.out).2.2 3 p188 q188; obtain rfl : aG = iF := (by injection kN); (try simp only [show (3 : Int).toNat = 3 from rfl, Nat.reduceMul, Nat.reduceEqDiff, Go.Addr.add, ↓reduceIte] at bJ); have qi188 : (3 < aA.length) = True := eq_true (by omega); (try rw [show ((3 : Int)).toNat = 3 from rfl] at bJ); replace p188 := eq_true p188; replace q188 := eq_true q188; have p190 : 0 ≤ (5 : Int) := (by omega); have q190 : 5 < (aA.length : Int) := oda; obtain ⟨iG, kO, bK⟩ := Kd.at_int (Kd.R_reads' aD.out).2.2 5 p190 q190; obtain rfl : aG = iG := (by injection kO); (try simp only [show (5 : Int).toNat = 5 from rfl, Nat.reduceMul, Nat.reduceEqDiff, Go.Addr.add, ↓reduceIte] at bK); have qi190 : (5 < aA.length) = True := eq_true (by omega); (try rw [show ((5 : Int)).toNat = 5 from rfl] at bK); replace p190 := eq_true p190; replace q190 := eq_true q190; have p191 : 0 ≤ (6 : Int) := (by omega); have q191 : 6 < (aA.length : Int) := oda; obtain ⟨iH, kP, bL⟩ := Kd.at_int (Kd.R_reads' aD.out).2.2 6 p191 q191; obtain rfl : aG = iH := (by injection kP); (try simp only [show (6 : Int).toNat = 6 from rfl, Nat.reduceMul, Nat.reduceEqDiff, Go.Addr.add, ↓reduceIte] at bL); have qi191 : (6 < aA.length) = True := eq_true (by omega); (try rw [show ((6 : Int)).toNat = 6 from rfl] at bL); replace p191 := eq_true p191; replace q191 := eq_true q191; refine st_ 26 (fun w' => w'.cell? ⟨aG.block, aG.off + 1, none⟩ = some (.int .i64 (rd aA 1)) ∧ w'.cell? ⟨aG.block, aG.off + 2, none⟩ = some (.int .i64 (rd aA 2)) ∧ w'.cell? ⟨aG.block, aG.off + 3, none⟩ = some (.int .i64 (rd aA 3)) ∧ w'.cell? ⟨aG.block, aG.off + 5, none⟩ = some (.int .i64 (rd aA 5)) ∧ w'.cell? ⟨aG.block, aG.off + 6, none⟩ = some (.int .i64 (rd aA 6))) spec_l2Block.T22 spec_l2Block.B22 ⟨bH, bI, bJ, bK, bL⟩ (fun hHeld HT_ HW_ => ?_); generalize jA.drew = nU at aE aI aD HB bH bI bJ bK bL hHeld ⊢; refine pV 0 206 ?_; refine pV 1 207 ?_; refine pV 2 208 ?_; refine pV 4 210 ?_; refine pV 5 211 ?_; refine pV 6 212 ?_; refine pV 8 214 ?_; refine pV 9 215 ?_; refine pV 11 217 ?_; refine pV 12 218 ?_; refine pV 14 220 ?_; refine pV 17 223 ?_; refine pV 18 224 ?_; refine pV 19 225 ?_; refine pV 21 227 ?_; refine pV 22 228 ?_; refine tK 7 213 ?_
                      refine tK 10 216 ?_; refine tK 13 219 ?_; refine pV 15 221 ?_; refine tK 20 226 ?_; refine tK 23 229 ?_; refine oN 3 209 fun K hK => ?_
                      refine goesY Try.func107 #[.int .i64 (wrap64 (cM + dH))] ?_; with_reducible refine (spec_l2Low.calls (wrap64 (cM + dH)) cN _ mW.out).mono ?_
                      rintro e w' ⟨rfl, ⟨nd, rfl⟩⟩; refine ⟨_, rfl, ?_⟩; refine hK.out _ _ ⟨hHeld.1, hHeld.2.1, hHeld.2.2.1, hHeld.2.2.2.1, hHeld.2.2.2.2⟩ (fun hHeld => ?_); clear hK K; refine nm_ (N := 209) ?_; refine oN 16 222 fun K hK => ?_
                      refine goesY Try.func107 #[.int .i64 (wrap64 ((rd aA 3) + cM))] ?_; with_reducible refine (spec_l2Low.calls (wrap64 ((rd aA 3) + cM)) cO _ mX.out).mono ?_
                      rintro e w' ⟨rfl, ⟨nd, rfl⟩⟩; refine ⟨_, rfl, ?_⟩; refine hK.out _ _ ⟨hHeld.1, hHeld.2.1, hHeld.2.2.1, hHeld.2.2.2.1, hHeld.2.2.2.2⟩ (fun hHeld => ?_); clear hK K; refine nm_ (N := 222) ?_; refine oN 24 230 fun K hK => ?_
                      refine Kd.R_lit_step (Kd.int .i64) _ 3 ?hg (N := 230) ?hd (xs := ([cN, rd aA 0, rd aA 1, rd aA 2, cO, rd aA 4, rd aA 5, rd aA 6] : List Int)) (inner := [.int .i64 cN, .int .i64 (rd aA 0), .int .i64 (rd aA 1), .int .i64 (rd aA 2), .int .i64 cO, .int .i64 (rd aA 4), .int .i64 (rd aA 5), .int .i64 (rd aA 6)]) (ok := fun _ => True) (okp := fun _ => True) ?hr ?hp (fun _ hk => hk) trivial (Below.refl _ _) (Nat.le_refl _) (by simp) ?_; (case hd => rfl); (case hg => rfl); (case hr => exact u5_2); (case hp => exact (Reps.one (show Kd.M (Kd.int .i64) _ _ _ cN [.int .i64 cN] from rfl) (Reps.one (show Kd.M (Kd.int .i64) _ _ _ (rd aA 0) [.int .i64 (rd aA 0)] from rfl) (Reps.one (show Kd.M (Kd.int .i64) _ _ _ (rd aA 1) [.int .i64 (rd aA 1)] from rfl) (Reps.one (show Kd.M (Kd.int .i64) _ _ _ (rd aA 2) [.int .i64 (rd aA 2)] from rfl) (Reps.one (show Kd.M (Kd.int .i64) _ _ _ cO [.int .i64 cO] from rfl) (Reps.one (show Kd.M (Kd.int .i64) _ _ _ (rd aA 4) [.int .i64 (rd aA 4)] from rfl) (Reps.one (show Kd.M (Kd.int .i64) _ _ _ (rd aA 5) [.int .i64 (rd aA 5)] from rfl) (Reps.one (show Kd.M (Kd.int .i64) _ _ _ (rd aA 6) [.int .i64 (rd aA 6)] from rfl) (Reps.none _ _)))))))))); intro v193 nV cP hb hg_ hnew_; have HS0_ := (hb.cell (World.block_lt_of_cell? _ _ (hHeld.1))).trans (hHeld.1); have HS1_ := (hb.cell (World.block_lt_of_cell? _ _ (hHeld.2.1))).trans (hHeld.2.1); have HS2_ := (hb.cell (World.block_lt_of_cell? _ _ (hHeld.2.2.1))).trans (hHeld.2.2.1); have HS3_ := (hb.cell (World.block_lt_of_cell? _ _ (hHeld.2.2.2.1))).trans (hHeld.2.2.2.1); have HS4_ := (hb.cell (World.block_lt_of_cell? _ _ (hHeld.2.2.2.2))).trans (hHeld.2.2.2.2); clear hg_ hnew_; (first | rw [← dN.out] at cP | (simp only [Int.reduceToNat] at cP; rw [← dN.out] at cP)); have iI := aM (Kd.R_lower (Kd.R_new' (Kd.R_new' (Kd.R_new' cP (Kd.R_lt (xr aE))) (Kd.R_lt (xr aI))) (Kd.R_lt (xr aD))) (below_size xbel)); replace aE := aM (Kd.R_elder' (xr aE) (Kd.R_base cP) hb); replace aI := aM (Kd.R_elder' (xr aI) (Kd.R_base cP) hb); replace aD := aM (Kd.R_elder' (xr aD) (Kd.R_base cP) hb); replace HB := xbs hb; clear hb cP; refine hK.out _ _ ⟨HS0_, HS1_, HS2_, HS3_, HS4_⟩ (fun hHeld => ?_); clear hK K; refine nm_ (N := 230) ?_; refine pV 25 11 ?_; refine dn_ ?_; try go_wp2
                      go_roundg k3
                      case measure => have := HK1.out; have := HK2.out; have := HK3.out; omega
                      case rel => exact ⟨(gT), (wrap64 (aH + 1)), u5_1, H', ⟨by have := HK1.out; have := HK2.out; have := HK3.out; omega⟩, ⟨by (with_reducible repeat (first | apply Kd.R_alloc | apply Kd.R_drewN | apply Kd.R_drew)); exact Kd.R_mono aE.out (fun _ hk => ⟨hk.1.1, hk.2⟩)⟩, ⟨by (with_reducible repeat (first | apply Kd.R_alloc | apply Kd.R_drewN | apply Kd.R_drew)); exact Kd.R_mono aI.out (fun _ hk => ⟨hk.1.1, hk.2⟩)⟩, ⟨by (with_reducible repeat (first | apply Kd.R_alloc | apply Kd.R_drewN | apply Kd.R_drew)); exact Kd.R_mono iI.out (fun _ hk => ⟨hk.1.1.2, hk.1.2⟩)⟩, ⟨xbel⟩⟩
                     ·rw [if_neg gR] at H; exact absurd H (by simp)
                    ·rw [if_neg gL] at H; exact absurd H (by simp)
                   ·rw [if_neg gK] at H; exact absurd H (by simp)
                  ·rw [if_neg gI] at H; exact absurd H (by simp)
                 ·rw [if_neg gH] at H; exact absurd H (by simp)
                ·rw [if_neg gG] at H; exact absurd H (by simp)
               ·rw [if_neg gA] at H; exact absurd H (by simp)
              ·rw [if_neg fZ] at H; exact absurd H (by simp)
             ·rw [if_neg fY] at H; exact absurd H (by simp)
            ·rw [if_neg fX] at H; exact absurd H (by simp)
           ·rw [if_neg fW] at H; exact absurd H (by simp)
          ·rw [if_neg dU] at H; have dM : decide (aH < 64) = false := decide_eq_false dU; clear dU; obtain ⟨iJ, hY⟩ : ∃ y_ : List Int, y_ = (([] : List Int)) := ⟨_, rfl⟩; replace H : (spec_l2Block.l3 k3 l0 aA iJ 0) = some r := u5_0; have dO := aM hY; clear hY; have H' := aM H; clear H; go_wp2_with (first | ((with_reducible refine gD 231 rfl ?_); refine Kd.R_lit (Kd.int .i64) _ 3 ?hg (N := 231) ?hd (xs := ([] : List Int)) (inner := []) (ok := fun _ => True) (okp := fun _ => True) ?hr ?hp (fun _ hk => hk) trivial (Below.refl _ _) (Nat.le_refl _) (by simp) ?_; (case hd => rfl); (case hg => rfl); (case hr => exact u5_2); (case hp => exact (Reps.none _ _)); intro v196 nW cQ hb hg_ hnew_; clear hg_ hnew_; (first | rw [← dO.out] at cQ | (simp only [Int.reduceToNat] at cQ; rw [← dO.out] at cQ)); have iK := aM (Kd.R_lower (Kd.R_new' (Kd.R_new' (Kd.R_new' cQ (Kd.R_lt (xr aE))) (Kd.R_lt (xr aI))) (Kd.R_lt (xr aD))) (below_size xbel)); replace aE := aM (Kd.R_elder' (xr aE) (Kd.R_base cQ) hb); replace aI := aM (Kd.R_elder' (xr aI) (Kd.R_base cQ) hb); replace aD := aM (Kd.R_elder' (xr aD) (Kd.R_base cQ) hb); replace HB := xbs hb; clear hb cQ))
           go_loopg [19, 20] k3 (fun kq v19 v20 w' => ∃ (cE : List Int) (aJ : Int), v20 = .int .i64 aJ ∧ Aside0 (spec_l2Block.l3 kq l0 aA cE aJ = some r) ∧ Aside0 (kq ≤ k3) ∧ Aside0 (Kd.R (Kd.int .i64) 3 w' w.heap.size (fun k_ => some k_ ≠ (v19 : Value).ownBlock) u11 aA) ∧ Aside0 (Kd.R (Kd.int .i64) 3 w' w.heap.size (fun k_ => some k_ ≠ (u11 : Value).ownBlock) v19 cE) ∧ Aside0 (Below w.heap.size w w'))
           case atStart => exact ⟨(iJ), (0), u5_1, H', ⟨Nat.le_refl _⟩, ⟨u5_6⟩, ⟨by (with_reducible repeat (first | apply Kd.R_alloc | apply Kd.R_drewN | apply Kd.R_drew)); exact Kd.R_mono iK.out (fun _ hk => hk.2)⟩, ⟨xbel⟩⟩
           case round =>
            clear H'; try clear c1
            try clear p1
            try clear q1
            try clear lC
            try clear qi1
            try clear p2
            try clear c5
            try clear c6
            try clear p6
            try clear c7
            try clear c10
            try clear p17
            try clear q17
            try clear nG
            try clear qi17
            try clear p18
            try clear q18
            try clear nH
            try clear qi18
            try clear p19
            try clear q19
            try clear nI
            try clear qi19
            try clear dU
            try clear dM
            try clear fW
            try clear fX
            try clear fY
            try clear fZ
            try clear gA
            try clear gG
            try clear gH
            try clear gI
            try clear gK
            try clear p64
            try clear gL
            try clear gR
            try clear bB
            try clear bC
            try clear bE
            try clear bG
            try clear bH
            try clear bI
            try clear bJ
            try clear bK
            try clear bL
            try clear p177
            try clear p178
            try clear p179
            try clear p180
            try clear p186
            try clear p187
            try clear p188
            try clear p190
            try clear p191
            try clear q177
            try clear q178
            try clear q179
            try clear q180
            try clear q186
            try clear q187
            try clear q188
            try clear q190
            try clear q191
            obtain ⟨cE, aJ, rfl, HA, HK4, aD, cF, HB⟩ := hrel; cases gk with
            | zero => exact absurd HA.out (by simp [spec_l2Block.l3])
            | succ k4 =>
             have H := HA.out; clear HA; simp only [spec_l2Block.l3] at H; by_cases dV : aJ < 8
             ·rw [if_pos dV] at H; have iL : decide (aJ < 8) = true := decide_eq_true dV; clear dV; by_cases jB : 0 ≤ aJ
              ·rw [if_pos jB] at H; have mF : decide (0 ≤ aJ) = true := decide_eq_true jB; clear jB; by_cases jC : aJ < (l0.length : Int)
               ·rw [if_pos jC] at H; have mG : decide (aJ < (l0.length : Int)) = true := decide_eq_true jC; clear jC; by_cases jD : aJ < (aA.length : Int)
                ·rw [if_pos jD] at H; have mH : decide (aJ < (aA.length : Int)) = true := decide_eq_true jD; clear jD; replace H := oB H; obtain ⟨dA, iM, H⟩ := H; (try dsimp only at H); have nJ := aM iM; clear iM
                 by_cases jE : cE.length < 17592186044416
                 ·rw [if_pos jE] at H; have LMc90 := aM jE; clear jE; obtain ⟨iO, hY⟩ : ∃ y_ : List Int, y_ = (cE ++ [dA]) := ⟨_, rfl⟩; replace H : (spec_l2Block.l3 k4 l0 aA iO (wrap64 (aJ + 1))) = some r := u5_0; have iP := aM hY; clear hY; have H' := aM H; clear H; try go_wp2
                  replace aD := rD aD; replace cF := rD cF; replace HB := lD HB; have p198 : 0 ≤ (aJ : Int) := oda; have q198 : aJ < (l0.length : Int) := oda; obtain ⟨iQ, kQ, bX⟩ := Kd.at_int lB.out aJ p198 q198; have cY := bX; cases kQ
                  replace bX := xce HB bX; replace p198 := eq_true p198; replace q198 := eq_true q198; obtain ⟨nK, kR, iR⟩ := Kd.R_slice aD.out; (first | subst iR | (injection iR with f1_ f2_ f3_; have f4_ := f1_.symm; have f5_ := f3_.symm; clear f1_ f2_ f3_; subst f4_; subst f5_)); have p199 : 0 ≤ (aJ : Int) := oda; have q199 : aJ < (aA.length : Int) := oda; obtain ⟨dP, kS, cZ⟩ := Kd.at_int (Kd.R_reads' aD.out).2.2 aJ p199 q199; cases kS
                  replace p199 := eq_true p199; replace q199 := eq_true q199; refine start_ (n := 14) (S := fun w' => w'.cell? (iQ.add (aJ).toNat) = some (.int .i64 (rd l0 aJ)) ∧ w'.cell? (dP.add (aJ).toNat) = some (.int .i64 (rd aA aJ))) (ds := [11, 12]) #[false, false, false, false, false, false, false, false, false, false, false, false, false, false] (by kernel_rfl) rfl rfl ⟨(xce HB cY), cZ⟩ (fun hHeld => ?_); refine with_tabW spec_l2Block.tab27 spec_l2Block.bits27 (fun HT_ HW_ => ?_); generalize wr.drew = nX at aD cF HB bX cZ hHeld ⊢; refine pV 0 236 ?_; refine pV 1 237 ?_; refine pV 2 238 ?_; refine pV 3 239 ?_; refine pV 5 241 ?_; refine pV 6 242 ?_; refine pV 7 243 ?_; refine tK 4 240 ?_; refine tK 8 244 ?_; refine pV 9 245 ?_; refine oN 10 246 fun K hK => ?_
                  refine goesY Try.func107 #[.int .i64 (wrap64 ((rd l0 aJ) + (rd aA aJ)))] ?_; with_reducible refine (spec_l2Low.calls (wrap64 ((rd l0 aJ) + (rd aA aJ))) dA _ nJ.out).mono ?_
                  rintro e w' ⟨rfl, ⟨nd, rfl⟩⟩; refine ⟨_, rfl, ?_⟩; refine hK.out _ _ ⟨(xce HB cY), hHeld.2⟩ (fun hHeld => ?_); clear hK K; refine nm_ (N := 246) ?_; refine last_ (i := 11) (N := some 247) #[true, true, true, true, true, true, true, true, true, true, true, true, false, false] rfl rfl (one_of HT_.out (by kernel_rfl)) (by decide) (fun K hK => ?_); refine value_ (w1 := ?_) (v := ?_) (by rfl) rfl ?_ ?_; rotate_left 2
                  ·go_simp
                   constructor
                   ·rfl
                   ·rfl
                  refine hK.out _ _ ?_; clear hK K; refine nm_ (N := 247) ?_; refine last_ (i := 12) (N := some 248) #[true, true, true, true, true, true, true, true, true, true, true, true, true, false] rfl rfl (one_of HT_.out (by kernel_rfl)) (by decide) (fun K hK => ?_); refine Kd.R_append_step (Kd.int .i64) (w0 := w) w.heap.size (by rfl) (.tmp 236) (.tmp 247) 85 3 (.int .i64 0) 8 rfl Try.underlying85 info3 rfl (by decide) (by omega) u19 cE dA [.int .i64 dA] (fun k_ => some k_ ≠ (.slice (some dP) aA.length kR : Value).ownBlock) (fun _ => False) rfl rfl ?aP (fun _ hk => hk.elim) ?aF ?aO ?aB ?aS ?aL ?_; (case aP => exact rfl); (case aB => exact xbel); (case aF => exact (fun k_ hk => Kd.fresh' (Kd.R_lt (xr aD)) k_ hk)); (case aO => exact (xr cF)); (case aS => exact (below_size xbel)); (case aL => have := LMc90.out; omega); intro v202 nY ho hb hg hat; rw [← iP.out] at ho; replace aD := aM (Kd.R_after (ok := (fun _ => True)) (by (with_reducible repeat (first | apply Kd.R_alloc | apply Kd.R_drewN | apply Kd.R_drew)); exact Kd.R_mono aD.out (fun _ hk => ⟨trivial, hk⟩)) hg hat); replace HB := aM (hb); have iS := aM (ho); clear cF ho hb hg hat; refine hK.out _ _ ?_; clear hK K; refine nm_ (N := 248) ?_; refine pV 13 19 ?_; refine dn_ ?_; try go_wp2
                  go_roundg k4
                  case measure => have := HK1.out; have := HK2.out; have := HK3.out; have := HK4.out; omega
                  case rel => exact ⟨(iO), (wrap64 (aJ + 1)), u5_1, H', ⟨by have := HK1.out; have := HK2.out; have := HK3.out; have := HK4.out; omega⟩, ⟨u5_6⟩, ⟨by (with_reducible repeat (first | apply Kd.R_alloc | apply Kd.R_drewN | apply Kd.R_drew)); exact iS.out⟩, ⟨xbel⟩⟩
                 ·rw [if_neg jE] at H; exact absurd H (by simp)
                ·rw [if_neg jD] at H; exact absurd H (by simp)
               ·rw [if_neg jC] at H; exact absurd H (by simp)
              ·rw [if_neg jB] at H; exact absurd H (by simp)
             ·rw [if_neg dV] at H; have iL : decide (aJ < 8) = false := decide_eq_false dV; clear dV; obtain rfl := Option.some.inj H; go_wp2; go_ret
              exact ⟨_, xerr, by (with_reducible repeat (first | apply Kd.R_alloc | apply Kd.R_drewN | apply Kd.R_drew)); exact Kd.R_mono cF.out (fun _ hk => trivial), xbel⟩
       ·rw [if_neg fS] at H; exact absurd H (by simp)

end Go.Proofs.Ytocpomkfilpflaa.QFnRec
