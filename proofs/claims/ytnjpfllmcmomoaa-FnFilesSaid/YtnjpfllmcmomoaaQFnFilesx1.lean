-- A walk, by a program of this session.
import Derived.Test.YtnjpfllmcmomoaaQFnFilesx0
namespace Go.Proofs.Ytnjpfllmcmomoaa.QFnFiles
open Go.RowKit Go.Proofs.YtnjpfllmcmomoaaW.PrintWords Go.Proofs.YtnjpfllmcmomoaaW.PrintLast Go.Proofs.YtnjpfllmcmomoaaW.PrintMore
attribute [local go_sem] max2_int min2_int max_two min_two max_three min_three max_four min_four   -- for this text's walks alone
set_option linter.unusedVariables false
set_option linter.unusedSimpArgs false

/-! ### laws_big: function 15 -/
def laws_big.f (l0 : List Int) : Option (Bool) := some (decide ((l0.length : Int) > 1048576))
set_option maxHeartbeats 8000000 in
set_option maxRecDepth 100000 in
theorem laws_big.calls (A0 : Option Addr) (c0 : Nat) (l0 : List Int) (r : Bool) (w : World) (hr0 : Kd.C (Kd.int .u8) w A0 l0.length l0) (hc0 : l0.length ≤ c0) (h : laws_big.f l0 = some r) :
 Calls Try.prog 15 #[.slice A0 l0.length c0] w fun e w' => e = .returned (.bool r) ∧ Drawn0 w w' := by
 have HR0 := aM hr0
 have HC0 := aM hc0
 clear hr0 hc0
 have H : (some (decide ((l0.length : Int) > 1048576))) = some r := h
 clear h
 obtain rfl := Option.some.inj H
 go_enter Try.func15, Try.ntmps15
 go_wp2
 go_ret
 exact ⟨by first | rfl | (simp; done) | (simp [*]; done), by repeat (first | exact Drawn0.refl _ | apply Drawn0.step)⟩

/-! ### spec_l1In: function 87 -/
def spec_l1In.f (a0 : Int) (a1 : Int) (a2 : Int) : Option (Bool) := if a0 ≥ a1 then (some (decide (a0 ≤ a2))) else (some false)
set_option maxHeartbeats 8000000 in
set_option maxRecDepth 100000 in
theorem spec_l1In.calls (a0 : Int) (a1 : Int) (a2 : Int) (r : Bool) (w : World) (h : spec_l1In.f a0 a1 a2 = some r) :
 Calls Try.prog 87 #[.int .i64 a0, .int .i64 a1, .int .i64 a2] w fun e w' => e = .returned (.bool r) ∧ Drawn0 w w' := by
 have H : (if a0 ≥ a1 then (some (decide (a0 ≤ a2))) else (some false)) = some r := h
 clear h
 by_cases c4 : a0 ≥ a1
 ·rw [if_pos c4] at H
  have c4b0 : decide (a1 ≤ a0) = true := decide_eq_true c4; clear c4
  obtain rfl := Option.some.inj H
  go_enter Try.func87, Try.ntmps87
  go_wp2
  go_ret
  exact ⟨by first | rfl | (simp; done) | (simp [*]; done), by repeat (first | exact Drawn0.refl _ | apply Drawn0.step)⟩
 ·rw [if_neg c4] at H
  have c4b0 : decide (a1 ≤ a0) = false := decide_eq_false c4; clear c4
  obtain rfl := Option.some.inj H
  go_enter Try.func87, Try.ntmps87
  go_wp2
  go_ret
  exact ⟨by first | rfl | (simp; done) | (simp [*]; done), by repeat (first | exact Drawn0.refl _ | apply Drawn0.step)⟩

/-! ### spec_l3Name: function 107 -/
def spec_l3Name.f (a0 : Int) : Option (Bool) := (spec_l1In.f a0 0 7).bind fun t101 => (some t101)
set_option maxHeartbeats 8000000 in
set_option maxRecDepth 100000 in
theorem spec_l3Name.calls (a0 : Int) (r : Bool) (w : World) (h : spec_l3Name.f a0 = some r) :
 Calls Try.prog 107 #[.int .i64 a0] w fun e w' => e = .returned (.bool r) ∧ Drawn0 w w' := by
 have H : ((spec_l1In.f a0 0 7).bind fun t101 => (some t101)) = some r := h
 clear h
 replace H := Option.bind_eq_some_iff.mp H
 obtain ⟨t101, A20, H⟩ := H
 replace H : (some t101) = some r := H
 have A2 := aM A20
 clear A20
 obtain rfl := Option.some.inj H
 go_enter Try.func107, Try.ntmps107
 go_wp2_with (first | ((with_reducible refine gate_callee (f := 87) rfl ?_); refine goesL_ (some 4) rfl rfl Try.func87 (by kernel_rfl) rfl #[.int .i64 a0, .int .i64 0, .int .i64 7] rfl (by (try simp only [List.map_toArray, List.map_cons, List.map_nil]); first | done | rfl | (simp only [List.length_drop, List.length_take]; rfl)) ?_; (with_reducible refine (spec_l1In.calls a0 0 7 t101 _ A2.out).mono ?_); rintro e w' ⟨rfl, ⟨nd, rfl⟩⟩; refine ⟨_, rfl, ?_⟩))
 go_ret
 exact ⟨by first | rfl | (simp; done) | (simp [*]; done), by repeat (first | exact Drawn0.refl _ | apply Drawn0.step)⟩

/-! ### spec_l3Size: function 108 -/
def spec_l3Size.l0 : Nat → Int → Int → Int → List (S134) → Option (Int)
 | 0, _, _, _, _ => none
 | k + 1, x3, x4, x103000, x103001 => if x4 < (x103001.length : Int) then (if 0 ≤ x4 then (spec_l3Size.l0 k (wrap64 ((wrap64 (x3 + (((rd_T134 x103001 x4).f1).size : Int))) + (((rd_T134 x103001 x4).f2).size : Int))) (wrap64 (x4 + 1)) x103000 x103001) else (none)) else (some x3)
def spec_l3Size.f (k : Nat) (a0_0 : Int) (l0_1 : List (S134)) : Option (Int) := spec_l3Size.l0 k 0 0 a0_0 l0_1
set_option maxRecDepth 100000 in
theorem spec_l3Size.mono_l : ∀ k, (∀ y0 y1 y2 y3, LeO (spec_l3Size.l0 k y0 y1 y2 y3) (spec_l3Size.l0 (k + 1) y0 y1 y2 y3))
 | 0 => fun _ _ _ _ r h => by simp [spec_l3Size.l0] at h
 | k + 1 => by
  have ih0 := spec_l3Size.mono_l k
  ·intro y0 y1 y2 y3
   unfold spec_l3Size.l0
   repeat' first
   | (with_reducible exact ih0 _ _ _ _)
   | (with_reducible exact LeO.refl _)
   | (with_reducible exact LeO.none _)
   | (with_reducible refine LeO.ite ?_ ?_)
   | (with_reducible refine LeO.bind ?_ (fun _ => ?_))
   | exact ih0 _ _ _ _
   | exact LeO.none _
   | refine LeO.ite ?_ ?_
   | refine LeO.bind ?_ (fun _ => ?_)
theorem spec_l3Size.mono : ∀ a0 a1 k, LeO (spec_l3Size.f k a0 a1) (spec_l3Size.f (k + 1) a0 a1) := by
 intro a0 a1 k
 have ih0 := spec_l3Size.mono_l k
 unfold spec_l3Size.f
 repeat' first
  | (with_reducible exact ih0 _ _ _ _)
  | (with_reducible exact LeO.refl _)
  | (with_reducible exact LeO.none _)
  | (with_reducible refine LeO.ite ?_ ?_)
  | (with_reducible refine LeO.bind ?_ (fun _ => ?_))
  | exact ih0 _ _ _ _
  | exact LeO.none _
  | refine LeO.ite ?_ ?_
  | refine LeO.bind ?_ (fun _ => ?_)
set_option maxHeartbeats 8000000 in
set_option maxRecDepth 100000 in
theorem spec_l3Size.calls (k : Nat) (a0_0 : Int) (A0_1 : Option Addr) (c0_1 : Nat) (l0_1 : List (S134)) (r : Int) (w : World) (hr0_1 : Kd.C k134 w A0_1 l0_1.length l0_1) (hc0_1 : l0_1.length ≤ c0_1) (h : spec_l3Size.f k a0_0 l0_1 = some r) :
 Calls Try.prog 108 #[.agg #[.int .i64 a0_0, .slice A0_1 l0_1.length c0_1]] w fun e w' => e = .returned (.int .i64 r) ∧ Below w.heap.size w w' := by
 have hu70 := Try.underlying70
 have HR0_1 := aM hr0_1
 have HC0_1 := aM hc0_1
 clear hr0_1 hc0_1
 have HB := aM (Below.refl w.heap.size w)
 have H : (spec_l3Size.l0 k 0 0 a0_0 l0_1) = some r := h
 clear h
 have H' := aM H
 clear H
 go_enter Try.func108, Try.ntmps108
 go_wp2_with (first | ((with_reducible refine gate_dst (N := 1) rfl ?_); refine box_event ?hg (N := 1) ?hd (cs := #[.int .i64 a0_0, .slice A0_1 l0_1.length c0_1]) (t := 70) ?hr ?_; (case hd => rfl); (case hg => rfl); (case hr => first | (go_simp; done) | (go_simp; rfl)); intro gb102 hg w2 hbox hb; have BK102 := aM (hbox); have GW102 := aM (xge hg); have GE102 := aM (xge hg); replace HB := xbs hb; clear hb hbox hg))
 repeat (go_quiet (first | ((with_reducible refine gate_dst (N := 1) rfl ?_); refine box_event ?hg (N := 1) ?hd (cs := #[.int .i64 a0_0, .slice A0_1 l0_1.length c0_1]) (t := 70) ?hr ?_; (case hd => rfl); (case hg => rfl); (case hr => first | (go_simp; done) | (go_simp; rfl)); intro gb102 hg w2 hbox hb; have BK102 := aM (hbox); have GW102 := aM (xge hg); have GE102 := aM (xge hg); replace HB := xbs hb; clear hb hbox hg)); try go_wp2_with (first | ((with_reducible refine gate_dst (N := 1) rfl ?_); refine box_event ?hg (N := 1) ?hd (cs := #[.int .i64 a0_0, .slice A0_1 l0_1.length c0_1]) (t := 70) ?hr ?_; (case hd => rfl); (case hg => rfl); (case hr => first | (go_simp; done) | (go_simp; rfl)); intro gb102 hg w2 hbox hb; have BK102 := aM (hbox); have GW102 := aM (xge hg); have GE102 := aM (xge hg); replace HB := xbs hb; clear hb hbox hg)))
 go_loopg [3, 4] k (fun kq v3 v4 w' => ∃ (x3_1 : Int) (x4_1 : Int), v3 = .int .i64 x3_1 ∧ v4 = .int .i64 x4_1 ∧ Aside0 (spec_l3Size.l0 kq x3_1 x4_1 a0_0 l0_1 = some r) ∧ Aside0 (kq ≤ k) ∧ Aside0 (w'.heap[gb102]? = some (.cells #[.int .i64 a0_0, (.slice A0_1 l0_1.length c0_1)] 70 (0, 0))) ∧ Aside0 (Below w.heap.size w w'))
 case atStart => exact ⟨(0), (0), (by first | rfl | (simp; done) | (simp [*]; done)), (by first | rfl | (simp; done) | (simp [*]; done)), H', ⟨Nat.le_refl _⟩, ⟨xblk⟩, ⟨xbg⟩⟩
 case round =>
  clear H'
  try clear c1
  try clear p2
  obtain ⟨x3_1, x4_1, rfl, rfl, HA, HK1, BK102, HB⟩ := hrel
  cases gk with
  | zero => exact absurd HA.out (by simp [spec_l3Size.l0])
  | succ k1 =>
   have H := HA.out; clear HA
   simp only [spec_l3Size.l0] at H
   by_cases c3 : x4_1 < (l0_1.length : Int)
   ·rw [if_pos c3] at H
    have c3b0 : decide (x4_1 < (l0_1.length : Int)) = true := decide_eq_true c3; clear c3
    by_cases c4 : 0 ≤ x4_1
    ·rw [if_pos c4] at H
     have c4b0 : decide (0 ≤ x4_1) = true := decide_eq_true c4; clear c4
     have H' := aM H
     clear H; obtain ⟨hcz5_0, hcz5_1, hfz5_0, hfz5_1⟩ := xf2 (w := wr) BK102; have p103 : 0 ≤ (x4_1 : Int) := oda; have q103 : x4_1 < (l0_1.length : Int) := oda
     obtain ⟨ad103, e103, hx103_0, hx103_1, hx103_2⟩ := at_T134 HR0_1.out x4_1 p103 q103
     cases e103
     replace hx103_0 := xce HB hx103_0; replace hx103_1 := xce HB hx103_1; replace hx103_2 := xce HB hx103_2; replace p103 := eq_true p103; replace q103 := eq_true q103; have p104 : 0 ≤ (x4_1 : Int) := oda; have q104 : x4_1 < (l0_1.length : Int) := oda
     obtain ⟨ad104, e104, hx104_0, hx104_1, hx104_2⟩ := at_T134 HR0_1.out x4_1 p104 q104
     obtain rfl : ad103 = ad104 := (by injection e104)
     replace hx104_0 := xce HB hx104_0; replace hx104_1 := xce HB hx104_1; replace hx104_2 := xce HB hx104_2; replace p104 := eq_true p104; replace q104 := eq_true q104
     go_wp2
     repeat (go_quiet (fail); try go_wp2)
     go_roundg k1
     case measure => have := HK1.out; omega
     case rel => exact ⟨(wrap64 ((wrap64 (x3_1 + (((rd_T134 l0_1 x4_1).f1).size : Int))) + (((rd_T134 l0_1 x4_1).f2).size : Int))), (wrap64 (x4_1 + 1)), (by first | rfl | (simp; done) | (simp [*]; done)), (by first | rfl | (simp; done) | (simp [*]; done)), H', ⟨by have := HK1.out; omega⟩, ⟨xblk⟩, ⟨xbg⟩⟩
    ·rw [if_neg c4] at H
     exact absurd H (by simp)
   ·rw [if_neg c3] at H
    have c3b0 : decide (x4_1 < (l0_1.length : Int)) = false := decide_eq_false c3; clear c3
    obtain rfl := Option.some.inj H
    obtain ⟨hcz6_0, hcz6_1, hfz6_0, hfz6_1⟩ := xf2 (w := wr) BK102
    go_wp2
    repeat (go_quiet (fail); try go_wp2)
    go_ret
    exact ⟨by first | rfl | (simp [errW_none, errW_some] <;> rfl) | (simp [*, errW_none, errW_some] <;> rfl), xbg⟩

/-! ### spec_DiskOk: function 106 -/
mutual
def spec_DiskOk.j0 : Nat → Bool → Int → List (S134) → Option (Bool)
 | 0, _, _, _ => none
 | k + 1, x20, x106000, x106001 => if x20 = true then (some false) else (spec_DiskOk.l0 k 0 x106000 x106001)
def spec_DiskOk.l0 : Nat → Int → Int → List (S134) → Option (Bool)
 | 0, _, _, _ => none
 | k + 1, x3, x106000, x106001 => if x3 < (x106001.length : Int) then (if 0 ≤ x3 then ((spec_l3Name.f ((rd_T134 x106001 x3).f0)).bind fun t109 => (if t109 = true then (if x3 > 0 then (if 0 ≤ (wrap64 (x3 - 1)) then (if (wrap64 (x3 - 1)) < (x106001.length : Int) then (if ((rd_T134 x106001 (wrap64 (x3 - 1))).f0) ≥ ((rd_T134 x106001 x3).f0) then (some false) else (spec_DiskOk.l0 k (wrap64 (x3 + 1)) x106000 x106001)) else (none)) else (none)) else (spec_DiskOk.l0 k (wrap64 (x3 + 1)) x106000 x106001)) else (some false))) else (none)) else (some true)
end
def spec_DiskOk.f (k : Nat) (a0_0 : Int) (l0_1 : List (S134)) : Option (Bool) := (spec_l1In.f a0_0 0 40000).bind fun t106 => (if t106 = true then (if (l0_1.length : Int) > 8 then (spec_DiskOk.j0 k true a0_0 l0_1) else ((spec_l3Size.f k a0_0 l0_1).bind fun t107 => (spec_DiskOk.j0 k (decide (t107 > a0_0)) a0_0 l0_1))) else (spec_DiskOk.j0 k true a0_0 l0_1))
set_option maxRecDepth 100000 in
theorem spec_DiskOk.mono_l : ∀ k, (∀ y0 y1 y2, LeO (spec_DiskOk.j0 k y0 y1 y2) (spec_DiskOk.j0 (k + 1) y0 y1 y2)) ∧ (∀ y0 y1 y2, LeO (spec_DiskOk.l0 k y0 y1 y2) (spec_DiskOk.l0 (k + 1) y0 y1 y2))
 | 0 => ⟨fun _ _ _ r h => by simp [spec_DiskOk.j0] at h, fun _ _ _ r h => by simp [spec_DiskOk.l0] at h⟩
 | k + 1 => by
  obtain ⟨ih0, ih1⟩ := spec_DiskOk.mono_l k
  refine ⟨?_, ?_⟩
  ·intro y0 y1 y2
   unfold spec_DiskOk.j0
   repeat' first
   | (with_reducible exact ih0 _ _ _)
   | (with_reducible exact ih1 _ _ _)
   | (with_reducible exact spec_l3Size.mono _ _ _)
   | (with_reducible exact LeO.refl _)
   | (with_reducible exact LeO.none _)
   | (with_reducible refine LeO.ite ?_ ?_)
   | (with_reducible refine LeO.bind ?_ (fun _ => ?_))
   | exact ih0 _ _ _
   | exact ih1 _ _ _
   | exact spec_l3Size.mono _ _ _
   | exact LeO.none _
   | refine LeO.ite ?_ ?_
   | refine LeO.bind ?_ (fun _ => ?_)
  ·intro y0 y1 y2
   unfold spec_DiskOk.l0
   repeat' first
   | (with_reducible exact ih0 _ _ _)
   | (with_reducible exact ih1 _ _ _)
   | (with_reducible exact spec_l3Size.mono _ _ _)
   | (with_reducible exact LeO.refl _)
   | (with_reducible exact LeO.none _)
   | (with_reducible refine LeO.ite ?_ ?_)
   | (with_reducible refine LeO.bind ?_ (fun _ => ?_))
   | exact ih0 _ _ _
   | exact ih1 _ _ _
   | exact spec_l3Size.mono _ _ _
   | exact LeO.none _
   | refine LeO.ite ?_ ?_
   | refine LeO.bind ?_ (fun _ => ?_)
theorem spec_DiskOk.mono : ∀ a0 a1 k, LeO (spec_DiskOk.f k a0 a1) (spec_DiskOk.f (k + 1) a0 a1) := by
 intro a0 a1 k
 obtain ⟨ih0, ih1⟩ := spec_DiskOk.mono_l k
 unfold spec_DiskOk.f
 repeat' first
  | (with_reducible exact ih0 _ _ _)
  | (with_reducible exact ih1 _ _ _)
  | (with_reducible exact spec_l3Size.mono _ _ _)
  | (with_reducible exact LeO.refl _)
  | (with_reducible exact LeO.none _)
  | (with_reducible refine LeO.ite ?_ ?_)
  | (with_reducible refine LeO.bind ?_ (fun _ => ?_))
  | exact ih0 _ _ _
  | exact ih1 _ _ _
  | exact spec_l3Size.mono _ _ _
  | exact LeO.none _
  | refine LeO.ite ?_ ?_
  | refine LeO.bind ?_ (fun _ => ?_)
def spec_DiskOk.T1 : Bool × List (List Nat × List Nat) := (true, [([], []), ([0], [0]), ([1], [1]), ([2], [2]), ([3, 2], [3]), ([4], [4]), ([5, 4], [4, 5]), ([6, 4], [4, 6]), ([7, 4], [4, 7]), ([4, 8], [4, 8]), ([9, 4], [9]), ([10], [10]), ([11, 10, 10], [10, 11]), ([10], [10]), ([13, 10], [10, 13]), ([12, 14, 10], [10, 12, 14]), ([10, 15], [10, 15])])
def spec_DiskOk.B1 : List Nat := [0, 1, 3, 7, 15, 31, 63, 127, 255, 511, 1023, 2047, 4095, 2047, 10239, 32767, 65535]
theorem spec_DiskOk.tab1 : rtab .any (opsOf Try.f106 1) = spec_DiskOk.T1 := by kernel_rfl
theorem spec_DiskOk.bits1 : waitsOk spec_DiskOk.T1.2 spec_DiskOk.B1 = true := by kernel_rfl
def spec_DiskOk.T6 : Bool × List (List Nat × List Nat) := (true, [([], []), ([0], [0]), ([], []), ([1, 2], [1, 2]), ([3], [3]), ([4], [4]), ([5], [5]), ([6], [6]), ([7, 6], [7]), ([8], [8]), ([9, 8], [8, 9]), ([10, 8, 8], [8, 10]), ([11], [11]), ([12, 11], [11, 12]), ([11], [11]), ([14, 11], [11, 14]), ([13, 15, 11], [11, 13, 15]), ([16, 11], [11, 16]), ([17, 11], [11, 17]), ([11], [11]), ([19, 11], [11, 19]), ([11], [11]), ([20, 21, 11], [11, 20, 21]), ([22, 11], [11, 22]), ([23, 11], [11, 23]), ([18, 24, 11], [11, 18, 24]), ([11, 25, 8], [8, 11, 25]), ([8, 26], [8, 26])])
def spec_DiskOk.B6 : List Nat := [0, 1, 0, 7, 15, 31, 63, 127, 255, 511, 1023, 2047, 4095, 8191, 4095, 20479, 65535, 131071, 262143, 4095, 528383, 4095, 3674111, 7868415, 16257023, 33554431, 67108863, 134217727]
theorem spec_DiskOk.tab6 : rtab .any (opsOf Try.f106 6) = spec_DiskOk.T6 := by kernel_rfl
theorem spec_DiskOk.bits6 : waitsOk spec_DiskOk.T6.2 spec_DiskOk.B6 = true := by kernel_rfl
set_option maxHeartbeats 8000000 in
set_option maxRecDepth 100000 in
theorem spec_DiskOk.calls (k : Nat) (a0_0 : Int) (A0_1 : Option Addr) (c0_1 : Nat) (l0_1 : List (S134)) (r : Bool) (w : World) (hr0_1 : Kd.C k134 w A0_1 l0_1.length l0_1) (hc0_1 : l0_1.length ≤ c0_1) (h : spec_DiskOk.f k a0_0 l0_1 = some r) :
 Calls Try.prog 106 #[.agg #[.int .i64 a0_0, .slice A0_1 l0_1.length c0_1]] w fun e w' => e = .returned (.bool r) ∧ Below w.heap.size w w' := by
 have hu70 := Try.underlying70
 have HR0_1 := aM hr0_1
 have HC0_1 := aM hc0_1
 clear hr0_1 hc0_1
 have HB := aM (Below.refl w.heap.size w)
 have H : ((spec_l1In.f a0_0 0 40000).bind fun t106 => (if t106 = true then (if (l0_1.length : Int) > 8 then (spec_DiskOk.j0 k true a0_0 l0_1) else ((spec_l3Size.f k a0_0 l0_1).bind fun t107 => (spec_DiskOk.j0 k (decide (t107 > a0_0)) a0_0 l0_1))) else (spec_DiskOk.j0 k true a0_0 l0_1))) = some r := h
 clear h
 have HC2 := aM H
 clear H
 go_enter Try.func106, Try.ntmps106
 go_upto_region 1 with (first | ((with_reducible refine gate_dst (N := 1) rfl ?_); (try (refine gate_guard (by rfl) ?_; dsimp only)); refine box_event ?hg (N := 1) ?hd (cs := #[.int .i64 a0_0, .slice A0_1 l0_1.length c0_1]) (t := 70) ?hr ?_; (case hd => rfl); (case hg => rfl); (case hr => first | (go_simp; done) | (go_simp; rfl)); intro gb105 hg w3 hbox hb; have BK105 := aM (hbox); have GW105 := aM (xge hg); have GE105 := aM (xge hg); replace HB := xbs hb; clear hb hbox hg))
 (try simp only [Act.put, List.setIfInBounds_toArray, List.set_cons_zero, List.set_cons_succ])
 go_cut [20] (fun v20 wc => ∃ (kq : Nat) (x20_1 : Bool), v20 = .bool x20_1 ∧ Aside0 (spec_DiskOk.j0 kq x20_1 a0_0 l0_1 = some r) ∧ Aside0 (kq ≤ k) ∧ Aside0 (wc.heap[gb105]? = some (.cells #[.int .i64 a0_0, (.slice A0_1 l0_1.length c0_1)] 70 (0, 0))) ∧ Aside0 (Below w.heap.size w wc))
 case first =>
  have H := HC2.out; clear HC2; replace H := Option.bind_eq_some_iff.mp H
  obtain ⟨t106, A40, H⟩ := H
  replace H : (if t106 = true then (if (l0_1.length : Int) > 8 then (spec_DiskOk.j0 k true a0_0 l0_1) else ((spec_l3Size.f k a0_0 l0_1).bind fun t107 => (spec_DiskOk.j0 k (decide (t107 > a0_0)) a0_0 l0_1))) else (spec_DiskOk.j0 k true a0_0 l0_1)) = some r := H; have A4 := aM A40; clear A40
  by_cases c5 : t106 = true
  ·subst c5
   have H1 : (if (l0_1.length : Int) > 8 then (spec_DiskOk.j0 k true a0_0 l0_1) else ((spec_l3Size.f k a0_0 l0_1).bind fun t107 => (spec_DiskOk.j0 k (decide (t107 > a0_0)) a0_0 l0_1))) = some r := by rw [if_pos rfl] at H; exact H
   clear H; have H := H1; clear H1
   by_cases c6 : (l0_1.length : Int) > 8
   ·rw [if_pos c6] at H
    have c6b0 : decide (8 < (l0_1.length : Int)) = true := decide_eq_true c6; have c6b1 : decide (8 < l0_1.length) = true := decide_eq_true (by omega); clear c6
    (first | rw [c6b0] | (simp only [i64_w, i32_w]; rw [c6b0]) | skip)
    have H' := aM H
    clear H
    try go_wp2
    replace BK105 := aM (blk_drew BK105.out); replace HB := aM (below_drew1 HB.out)
    refine start_ (n := 17) (S := fun w' => w'.cell? ⟨gb105, 0, none⟩ = some (.int .i64 a0_0) ∧ w'.cell? ⟨gb105, 1, none⟩ = some (.slice A0_1 l0_1.length c0_1)) (ds := []) #[false, false, false, false, false, false, false, false, false, false, false, false, false, false, false, false, false] (by kernel_rfl) rfl rfl ⟨xc BK105 0 rfl, xc BK105 1 rfl⟩ (fun hHeld => ?_); refine with_tabW spec_DiskOk.tab1 spec_DiskOk.bits1 (fun HT_ HW_ => ?_)
    generalize w3.drew = w7 at BK105 HB hHeld ⊢
    refine pv_ 0 4 (h := ?_)
    refine tk_ 1 5 (h := ?_)
    refine on_ 2 6 (h := fun K hK => ?_)
    refine goesY Try.func87 #[.int .i64 a0_0, .int .i64 0, .int .i64 40000] ?_
    with_reducible refine (spec_l1In.calls a0_0 0 40000 true _ A4.out).mono ?_
    rintro e w' ⟨rfl, ⟨nd, rfl⟩⟩
    refine ⟨_, rfl, ?_⟩
    refine hK.out _ _ ⟨xc BK105 0 rfl, xc BK105 1 rfl⟩ (fun hHeld => ?_)
    clear hK K
    refine norm_ (a' := ?_) ?_ ?_
    rotate_left
    ·show Act.put _ (some 6) _ = _
     simp only [Act.put, List.setIfInBounds_toArray, List.set_cons_zero, List.set_cons_succ, i64_w, i32_w]
     rfl
    refine pv_ 3 7 (h := ?_)
    refine pv_ 4 8 (h := ?_)
    refine pv_ 5 9 (h := ?_)
    refine tk_ 6 10 (h := ?_)
    refine pv_ 7 11 (h := ?_)
    refine pv_ 8 12 (h := ?_)
    refine pv_ 9 13 (h := ?_)
    refine pv_ 10 14 (h := ?_)
    refine pu_ 11 15 (h := ?_)
    refine pu_ 12 16 (h := ?_)
    refine pu_ 13 17 (h := ?_)
    refine pu_ 14 18 (h := ?_)
    refine pu_ 15 19 (h := ?_)
    refine pv_ 16 20 (h := ?_)
    refine done_ (done_of HT_.out (by kernel_rfl)) ?_
    try go_wp2
    go_meet
    case rel => exact ⟨_, (true), (by first | rfl | (simp; done) | (simp [*]; done)), H', ⟨by first | omega | exact Nat.le_refl _⟩, ⟨xblk⟩, ⟨xbg⟩⟩
   ·rw [if_neg c6] at H
    have c6b0 : decide (8 < (l0_1.length : Int)) = false := decide_eq_false c6; have c6b1 : decide (8 < l0_1.length) = false := decide_eq_false (by omega); clear c6
    (first | rw [c6b0] | (simp only [i64_w, i32_w]; rw [c6b0]) | skip)
    replace H := Option.bind_eq_some_iff.mp H
    obtain ⟨t107, A80, H⟩ := H
    replace H : (spec_DiskOk.j0 k (decide (t107 > a0_0)) a0_0 l0_1) = some r := H; have A8 := aM A80; clear A80
    have H' := aM H
    clear H
    try go_wp2
    replace BK105 := aM (blk_drew BK105.out); replace HB := aM (below_drew1 HB.out)
    refine start_ (n := 17) (S := fun w' => w'.cell? ⟨gb105, 0, none⟩ = some (.int .i64 a0_0) ∧ w'.cell? ⟨gb105, 1, none⟩ = some (.slice A0_1 l0_1.length c0_1)) (ds := []) #[false, false, false, false, false, false, false, false, false, false, false, false, false, false, false, false, false] (by kernel_rfl) rfl rfl ⟨xc BK105 0 rfl, xc BK105 1 rfl⟩ (fun hHeld => ?_); refine with_tabW spec_DiskOk.tab1 spec_DiskOk.bits1 (fun HT_ HW_ => ?_)
    generalize w3.drew = w9 at BK105 HB hHeld ⊢
    refine pv_ 0 4 (h := ?_)
    refine tk_ 1 5 (h := ?_)
    refine on_ 2 6 (h := fun K hK => ?_)
    refine goesY Try.func87 #[.int .i64 a0_0, .int .i64 0, .int .i64 40000] ?_
    with_reducible refine (spec_l1In.calls a0_0 0 40000 true _ A4.out).mono ?_
    rintro e w' ⟨rfl, ⟨nd, rfl⟩⟩
    refine ⟨_, rfl, ?_⟩
    refine hK.out _ _ ⟨xc BK105 0 rfl, xc BK105 1 rfl⟩ (fun hHeld => ?_)
    clear hK K
    refine norm_ (a' := ?_) ?_ ?_
    rotate_left
    ·show Act.put _ (some 6) _ = _
     simp only [Act.put, List.setIfInBounds_toArray, List.set_cons_zero, List.set_cons_succ, i64_w, i32_w]
     rfl
    refine pv_ 3 7 (h := ?_)
    refine pv_ 4 8 (h := ?_)
    refine pv_ 5 9 (h := ?_)
    refine tk_ 6 10 (h := ?_)
    refine pv_ 7 11 (h := ?_)
    refine pv_ 8 12 (h := ?_)
    refine pv_ 9 13 (h := ?_)
    refine pv_ 10 14 (h := ?_)
    refine pv_ 13 17 (h := ?_)
    refine tk_ 11 15 (h := ?_)
    refine tk_ 14 18 (h := ?_)
    refine on_ 12 16 (h := fun K hK => ?_)
    refine goesY Try.func108 #[.agg #[.int .i64 a0_0, .slice A0_1 l0_1.length c0_1]] ?_
    with_reducible refine (spec_l3Size.calls k a0_0 _ _ l0_1 t107 _ ?side1 ?side2 A8.out).mono ?_
    (case side1 => repeat (first | exact (Kd.C_below HR0_1.out xbg) | (with_reducible refine Kd.C_alloc ?_ _) | (with_reducible refine Kd.C_drewN ?_ _) | (with_reducible refine Kd.C_drew ?_)))
    (case side2 => exact HC0_1.out)
    rintro e w10 ⟨rfl, hb⟩
    refine ⟨_, rfl, ?_⟩
    replace BK105 := xbb BK105 hb; replace HB := xbs hb
    (try clear hb); (try clear hb2); (try clear hk); (try clear hi)
    refine hK.out _ _ ⟨xc BK105 0 rfl, xc BK105 1 rfl⟩ (fun hHeld => ?_)
    clear hK K
    refine norm_ (a' := ?_) ?_ ?_
    rotate_left
    ·show Act.put _ (some 16) _ = _
     simp only [Act.put, List.setIfInBounds_toArray, List.set_cons_zero, List.set_cons_succ, i64_w, i32_w]
     rfl
    refine pv_ 15 19 (h := ?_)
    refine pv_ 16 20 (h := ?_)
    refine done_ (done_of HT_.out (by kernel_rfl)) ?_
    try go_wp2
    go_meet
    case rel => exact ⟨_, (decide (t107 > a0_0)), (by first | rfl | (simp; done) | (simp [*]; done)), H', ⟨by first | omega | exact Nat.le_refl _⟩, ⟨xblk⟩, ⟨xbg⟩⟩
  ·replace c5 := Bool.eq_false_iff.mpr c5
   subst c5
   have H1 : (spec_DiskOk.j0 k true a0_0 l0_1) = some r := by rw [if_neg (show ¬ (false = true) by decide)] at H; exact H
   clear H; have H := H1; clear H1
   have H' := aM H
   clear H
   try go_wp2
   replace BK105 := aM (blk_drew BK105.out); replace HB := aM (below_drew1 HB.out)
   refine start_ (n := 17) (S := fun w' => w'.cell? ⟨gb105, 0, none⟩ = some (.int .i64 a0_0) ∧ w'.cell? ⟨gb105, 1, none⟩ = some (.slice A0_1 l0_1.length c0_1)) (ds := []) #[false, false, false, false, false, false, false, false, false, false, false, false, false, false, false, false, false] (by kernel_rfl) rfl rfl ⟨xc BK105 0 rfl, xc BK105 1 rfl⟩ (fun hHeld => ?_); refine with_tabW spec_DiskOk.tab1 spec_DiskOk.bits1 (fun HT_ HW_ => ?_)
   generalize w3.drew = w11 at BK105 HB hHeld ⊢
   refine pv_ 0 4 (h := ?_)
   refine tk_ 1 5 (h := ?_)
   refine on_ 2 6 (h := fun K hK => ?_)
   refine goesY Try.func87 #[.int .i64 a0_0, .int .i64 0, .int .i64 40000] ?_
   with_reducible refine (spec_l1In.calls a0_0 0 40000 false _ A4.out).mono ?_
   rintro e w' ⟨rfl, ⟨nd, rfl⟩⟩
   refine ⟨_, rfl, ?_⟩
   refine hK.out _ _ ⟨xc BK105 0 rfl, xc BK105 1 rfl⟩ (fun hHeld => ?_)
   clear hK K
   refine norm_ (a' := ?_) ?_ ?_
   rotate_left
   ·show Act.put _ (some 6) _ = _
    simp only [Act.put, List.setIfInBounds_toArray, List.set_cons_zero, List.set_cons_succ, i64_w, i32_w]
    rfl
   refine pv_ 3 7 (h := ?_)
   refine pv_ 4 8 (h := ?_)
   refine pu_ 5 9 (h := ?_)
   refine pu_ 6 10 (h := ?_)
   refine pu_ 7 11 (h := ?_)
   refine pu_ 8 12 (h := ?_)
   refine pv_ 9 13 (h := ?_)
   refine pv_ 10 14 (h := ?_)
   refine pu_ 11 15 (h := ?_)
   refine pu_ 12 16 (h := ?_)
   refine pu_ 13 17 (h := ?_)
   refine pu_ 14 18 (h := ?_)
   refine pu_ 15 19 (h := ?_)
   refine pv_ 16 20 (h := ?_)
   refine done_ (done_of HT_.out (by kernel_rfl)) ?_
   try go_wp2
   go_meet
   case rel => exact ⟨_, (true), (by first | rfl | (simp; done) | (simp [*]; done)), H', ⟨by first | omega | exact Nat.le_refl _⟩, ⟨xblk⟩, ⟨xbg⟩⟩
 case rest =>
  clear HC2
  try clear c1
  try clear p2
  try clear c5
  try clear c6
  try clear c6b0
  try clear c6b1
  try clear c8
  try clear c10
  obtain ⟨kq, x20_1, rfl, HA, HJ1, BK105, HB⟩ := hcut
  cases kq with
  | zero => exact absurd HA.out (by simp [spec_DiskOk.j0])
  | succ kj1 =>
   have H := HA.out; clear HA
   simp only [spec_DiskOk.j0] at H
   by_cases c12 : x20_1 = true
   ·subst c12
    have H1 : (some false) = some r := by rw [if_pos rfl] at H; exact H
    clear H; have H := H1; clear H1
    obtain rfl := Option.some.inj H
    go_wp2
    go_ret
    exact ⟨by first | rfl | (simp [errW_none, errW_some] <;> rfl) | (simp [*, errW_none, errW_some] <;> rfl), xbg⟩
   ·replace c12 := Bool.eq_false_iff.mpr c12
    subst c12
    have H1 : (spec_DiskOk.l0 kj1 0 a0_0 l0_1) = some r := by rw [if_neg (show ¬ (false = true) by decide)] at H; exact H
    clear H; have H := H1; clear H1
    have H' := aM H
    clear H
    go_wp2
    go_loopg [3] kj1 (fun kq v3 w' => ∃ (x3_2 : Int), v3 = .int .i64 x3_2 ∧ Aside0 (spec_DiskOk.l0 kq x3_2 a0_0 l0_1 = some r) ∧ Aside0 (kq ≤ kj1) ∧ Aside0 (w'.heap[gb105]? = some (.cells #[.int .i64 a0_0, (.slice A0_1 l0_1.length c0_1)] 70 (0, 0))) ∧ Aside0 (Below w.heap.size w w'))
    case atStart => exact ⟨(0), (by first | rfl | (simp; done) | (simp [*]; done)), H', ⟨Nat.le_refl _⟩, ⟨xblk⟩, ⟨xbg⟩⟩
    case round =>
     clear H'
     try clear c1
     try clear p2
     try clear c5
     try clear c6
     try clear c6b0
     try clear c6b1
     try clear c8
     try clear c10
     try clear c12
     try clear p2
     obtain ⟨x3_2, rfl, HA, HK2, BK105, HB⟩ := hrel
     cases gk with
     | zero => exact absurd HA.out (by simp [spec_DiskOk.l0])
     | succ k2 =>
      have H := HA.out; clear HA
      simp only [spec_DiskOk.l0] at H
      by_cases c13 : x3_2 < (l0_1.length : Int)
      ·rw [if_pos c13] at H
       have c13b0 : decide (x3_2 < (l0_1.length : Int)) = true := decide_eq_true c13; clear c13
       by_cases c14 : 0 ≤ x3_2
       ·rw [if_pos c14] at H
        have c14b0 : decide (0 ≤ x3_2) = true := decide_eq_true c14; clear c14; replace H := Option.bind_eq_some_iff.mp H
        obtain ⟨t109, A150, H⟩ := H
        replace H : (if t109 = true then (if x3_2 > 0 then (if 0 ≤ (wrap64 (x3_2 - 1)) then (if (wrap64 (x3_2 - 1)) < (l0_1.length : Int) then (if ((rd_T134 l0_1 (wrap64 (x3_2 - 1))).f0) ≥ ((rd_T134 l0_1 x3_2).f0) then (some false) else (spec_DiskOk.l0 k2 (wrap64 (x3_2 + 1)) a0_0 l0_1)) else (none)) else (none)) else (spec_DiskOk.l0 k2 (wrap64 (x3_2 + 1)) a0_0 l0_1)) else (some false)) = some r := H; have A15 := aM A150; clear A150
        by_cases c16 : t109 = true
        ·subst c16
         have H1 : (if x3_2 > 0 then (if 0 ≤ (wrap64 (x3_2 - 1)) then (if (wrap64 (x3_2 - 1)) < (l0_1.length : Int) then (if ((rd_T134 l0_1 (wrap64 (x3_2 - 1))).f0) ≥ ((rd_T134 l0_1 x3_2).f0) then (some false) else (spec_DiskOk.l0 k2 (wrap64 (x3_2 + 1)) a0_0 l0_1)) else (none)) else (none)) else (spec_DiskOk.l0 k2 (wrap64 (x3_2 + 1)) a0_0 l0_1)) = some r := by rw [if_pos rfl] at H; exact H
         clear H; have H := H1; clear H1
         by_cases c17 : x3_2 > 0
         ·rw [if_pos c17] at H
          have c17b0 : decide (0 < x3_2) = true := decide_eq_true c17; clear c17
          obtain ⟨ji18, hji18⟩ : ∃ j_ : Int, (wrap64 (x3_2 - 1)) = j_ := ⟨_, rfl⟩
          replace H : (if 0 ≤ (ji18) then (if (ji18) < (l0_1.length : Int) then (if ((rd_T134 l0_1 (ji18)).f0) ≥ ((rd_T134 l0_1 x3_2).f0) then (some false) else (spec_DiskOk.l0 k2 (wrap64 (x3_2 + 1)) a0_0 l0_1)) else (none)) else (none)) = some r := by first | (rw [hji18] at H; exact H) | (simp only [hji18] at H ⊢; exact H)
          (try rw [hji18] at A15)
          have hji18w : (IntKind.i64.wrap (x3_2 - 1)) = ji18 := (i64_w _).trans hji18
          by_cases c19 : 0 ≤ (ji18)
          ·rw [if_pos c19] at H
           have c19b0 : decide (0 ≤ (ji18)) = true := decide_eq_true c19; clear c19
           by_cases c20 : (ji18) < (l0_1.length : Int)
           ·rw [if_pos c20] at H
            have c20b0 : decide ((ji18) < (l0_1.length : Int)) = true := decide_eq_true c20; clear c20
            by_cases c21 : ((rd_T134 l0_1 (ji18)).f0) ≥ ((rd_T134 l0_1 x3_2).f0)
            ·rw [if_pos c21] at H
             have c21b0 : decide (((rd_T134 l0_1 x3_2).f0) ≤ ((rd_T134 l0_1 (ji18)).f0)) = true := decide_eq_true c21; clear c21
             obtain rfl := Option.some.inj H
             obtain ⟨hcz22_0, hcz22_1, hfz22_0, hfz22_1⟩ := xf2 (w := wr) BK105
             try go_wp2
             replace BK105 := aM (blk_drew BK105.out); replace HB := aM (below_drew1 HB.out); have p108 : 0 ≤ (x3_2 : Int) := oda; have q108 : x3_2 < (l0_1.length : Int) := oda
             obtain ⟨ad108, e108, hx108_0, hx108_1, hx108_2⟩ := at_T134 HR0_1.out x3_2 p108 q108
             have hw108_2 := hx108_2; have hw108_1 := hx108_1; have hw108_0 := hx108_0
             cases e108
             replace hx108_0 := xce HB hx108_0; replace hx108_1 := xce HB hx108_1; replace hx108_2 := xce HB hx108_2; replace p108 := eq_true p108; replace q108 := eq_true q108; have p110 : 0 ≤ ((ji18) : Int) := oda; have q110 : (ji18) < (l0_1.length : Int) := oda
             obtain ⟨ad110, e110, hx110_0, hx110_1, hx110_2⟩ := at_T134 HR0_1.out (ji18) p110 q110
             have hw110_2 := hx110_2; have hw110_1 := hx110_1; have hw110_0 := hx110_0
             obtain rfl : ad108 = ad110 := (by injection e110)
             replace hx110_0 := xce HB hx110_0; replace hx110_1 := xce HB hx110_1; replace hx110_2 := xce HB hx110_2; replace p110 := eq_true p110; replace q110 := eq_true q110; have p111 : 0 ≤ (x3_2 : Int) := oda; have q111 : x3_2 < (l0_1.length : Int) := oda
             obtain ⟨ad111, e111, hx111_0, hx111_1, hx111_2⟩ := at_T134 HR0_1.out x3_2 p111 q111
             have hw111_2 := hx111_2; have hw111_1 := hx111_1; have hw111_0 := hx111_0
             obtain rfl : ad108 = ad111 := (by injection e111)
             replace hx111_0 := xce HB hx111_0; replace hx111_1 := xce HB hx111_1; replace hx111_2 := xce HB hx111_2; replace p111 := eq_true p111; replace q111 := eq_true q111
             refine start_ (n := 28) (S := fun w' => w'.cell? ⟨gb105, 0, none⟩ = some (.int .i64 a0_0) ∧ w'.cell? ⟨gb105, 1, none⟩ = some (.slice (some ad108) l0_1.length c0_1) ∧ w'.cell? (ad108.add ((x3_2).toNat * 3)) = some (.int .i64 ((rd_T134 l0_1 x3_2).f0)) ∧ w'.cell? ⟨(ad108.add ((x3_2).toNat * 3)).block, (ad108.add ((x3_2).toNat * 3)).off + 1, none⟩ = some (.string ((rd_T134 l0_1 x3_2).f1)) ∧ w'.cell? ⟨(ad108.add ((x3_2).toNat * 3)).block, (ad108.add ((x3_2).toNat * 3)).off + 2, none⟩ = some (.string ((rd_T134 l0_1 x3_2).f2)) ∧ w'.cell? (ad108.add (((ji18)).toNat * 3)) = some (.int .i64 ((rd_T134 l0_1 (ji18)).f0)) ∧ w'.cell? ⟨(ad108.add (((ji18)).toNat * 3)).block, (ad108.add (((ji18)).toNat * 3)).off + 1, none⟩ = some (.string ((rd_T134 l0_1 (ji18)).f1)) ∧ w'.cell? ⟨(ad108.add (((ji18)).toNat * 3)).block, (ad108.add (((ji18)).toNat * 3)).off + 2, none⟩ = some (.string ((rd_T134 l0_1 (ji18)).f2)) ∧ w'.cell? (ad108.add ((x3_2).toNat * 3)) = some (.int .i64 ((rd_T134 l0_1 x3_2).f0)) ∧ w'.cell? ⟨(ad108.add ((x3_2).toNat * 3)).block, (ad108.add ((x3_2).toNat * 3)).off + 1, none⟩ = some (.string ((rd_T134 l0_1 x3_2).f1)) ∧ w'.cell? ⟨(ad108.add ((x3_2).toNat * 3)).block, (ad108.add ((x3_2).toNat * 3)).off + 2, none⟩ = some (.string ((rd_T134 l0_1 x3_2).f2))) (ds := []) #[false, false, false, false, false, false, false, false, false, false, false, false, false, false, false, false, false, false, false, false, false, false, false, false, false, false, false, false] (by kernel_rfl) rfl rfl ⟨xc BK105 0 rfl, xc BK105 1 rfl, (xce HB hw108_0), (xce HB hw108_1), (xce HB hw108_2), (xce HB hw110_0), (xce HB hw110_1), (xce HB hw110_2), (xce HB hw111_0), (xce HB hw111_1), (xce HB hw111_2)⟩ (fun hHeld => ?_); refine with_tabW spec_DiskOk.tab6 spec_DiskOk.bits6 (fun HT_ HW_ => ?_)
             generalize wr.drew = w23 at BK105 HB hx108_0 hx108_1 hx108_2 hx110_0 hx110_1 hx110_2 hx111_0 hx111_1 hx111_2 hHeld ⊢
             refine pv_ 0 28 (h := ?_)
             refine pv_ 2 30 (h := ?_)
             refine tk_ 1 29 (h := ?_)
             refine pv_ 3 31 (h := ?_)
             refine pv_ 4 32 (h := ?_)
             refine tk_ 5 33 (h := ?_)
             refine on_ 6 34 (h := fun K hK => ?_)
             refine goesY Try.func107 #[.int .i64 ((rd_T134 l0_1 x3_2).f0)] ?_
             with_reducible refine (spec_l3Name.calls ((rd_T134 l0_1 x3_2).f0) true _ A15.out).mono ?_
             rintro e w' ⟨rfl, ⟨nd, rfl⟩⟩
             refine ⟨_, rfl, ?_⟩
             refine hK.out _ _ ⟨xc BK105 0 rfl, xc BK105 1 rfl, (xce HB hw108_0), (xce HB hw108_1), (xce HB hw108_2), (xce HB hw110_0), (xce HB hw110_1), (xce HB hw110_2), (xce HB hw111_0), (xce HB hw111_1), (xce HB hw111_2)⟩ (fun hHeld => ?_)
             clear hK K
             refine norm_ (a' := ?_) ?_ ?_
             rotate_left
             ·show Act.put _ (some 34) _ = _
              simp only [Act.put, List.setIfInBounds_toArray, List.set_cons_zero, List.set_cons_succ, i64_w, i32_w]
              rfl
             refine pv_ 7 35 (h := ?_)
             refine pv_ 8 36 (h := ?_)
             refine pv_ 9 37 (h := ?_)
             refine pv_ 10 38 (h := ?_)
             refine pv_ 11 39 (h := ?_)
             refine pv_ 12 40 (h := ?_)
             refine pv_ 14 42 (h := ?_)
             refine pv_ 15 43 (h := ?_)
             refine pv_ 19 47 (h := ?_)
             refine pv_ 21 49 (h := ?_)
             refine tk_ 13 41 (h := ?_)
             refine pv_ 16 44 (h := ?_)
             refine pv_ 17 45 (h := ?_)
             refine tk_ 18 46 (h := ?_)
             refine tk_ 20 48 (h := ?_)
             refine pv_ 22 50 (h := ?_)
             refine pv_ 23 51 (h := ?_)
             refine tk_ 24 52 (h := ?_)
             refine pv_ 25 53 (h := ?_)
             refine pv_ 26 54 (h := ?_)
             refine pv_ 27 55 (h := ?_)
             refine done_ (done_of HT_.out (by kernel_rfl)) ?_
             try go_wp2
             go_ret
             exact ⟨by first | rfl | (simp [errW_none, errW_some] <;> rfl) | (simp only [← hji18]; first | rfl | (simp [errW_none, errW_some] <;> rfl)) | (simp [*, errW_none, errW_some] <;> rfl), xbg⟩
            ·rw [if_neg c21] at H
             have c21b0 : decide (((rd_T134 l0_1 x3_2).f0) ≤ ((rd_T134 l0_1 (ji18)).f0)) = false := decide_eq_false c21; clear c21
             have H' := aM H
             clear H; obtain ⟨hcz24_0, hcz24_1, hfz24_0, hfz24_1⟩ := xf2 (w := wr) BK105
             try go_wp2
             replace BK105 := aM (blk_drew BK105.out); replace HB := aM (below_drew1 HB.out); have p108 : 0 ≤ (x3_2 : Int) := oda; have q108 : x3_2 < (l0_1.length : Int) := oda
             obtain ⟨ad108, e108, hx108_0, hx108_1, hx108_2⟩ := at_T134 HR0_1.out x3_2 p108 q108
             have hw108_2 := hx108_2; have hw108_1 := hx108_1; have hw108_0 := hx108_0
             cases e108
             replace hx108_0 := xce HB hx108_0; replace hx108_1 := xce HB hx108_1; replace hx108_2 := xce HB hx108_2; replace p108 := eq_true p108; replace q108 := eq_true q108; have p110 : 0 ≤ ((ji18) : Int) := oda; have q110 : (ji18) < (l0_1.length : Int) := oda
             obtain ⟨ad110, e110, hx110_0, hx110_1, hx110_2⟩ := at_T134 HR0_1.out (ji18) p110 q110
             have hw110_2 := hx110_2; have hw110_1 := hx110_1; have hw110_0 := hx110_0
             obtain rfl : ad108 = ad110 := (by injection e110)
             replace hx110_0 := xce HB hx110_0; replace hx110_1 := xce HB hx110_1; replace hx110_2 := xce HB hx110_2; replace p110 := eq_true p110; replace q110 := eq_true q110; have p111 : 0 ≤ (x3_2 : Int) := oda; have q111 : x3_2 < (l0_1.length : Int) := oda
             obtain ⟨ad111, e111, hx111_0, hx111_1, hx111_2⟩ := at_T134 HR0_1.out x3_2 p111 q111
             have hw111_2 := hx111_2; have hw111_1 := hx111_1; have hw111_0 := hx111_0
             obtain rfl : ad108 = ad111 := (by injection e111)
             replace hx111_0 := xce HB hx111_0; replace hx111_1 := xce HB hx111_1; replace hx111_2 := xce HB hx111_2; replace p111 := eq_true p111; replace q111 := eq_true q111
             refine start_ (n := 28) (S := fun w' => w'.cell? ⟨gb105, 0, none⟩ = some (.int .i64 a0_0) ∧ w'.cell? ⟨gb105, 1, none⟩ = some (.slice (some ad108) l0_1.length c0_1) ∧ w'.cell? (ad108.add ((x3_2).toNat * 3)) = some (.int .i64 ((rd_T134 l0_1 x3_2).f0)) ∧ w'.cell? ⟨(ad108.add ((x3_2).toNat * 3)).block, (ad108.add ((x3_2).toNat * 3)).off + 1, none⟩ = some (.string ((rd_T134 l0_1 x3_2).f1)) ∧ w'.cell? ⟨(ad108.add ((x3_2).toNat * 3)).block, (ad108.add ((x3_2).toNat * 3)).off + 2, none⟩ = some (.string ((rd_T134 l0_1 x3_2).f2)) ∧ w'.cell? (ad108.add (((ji18)).toNat * 3)) = some (.int .i64 ((rd_T134 l0_1 (ji18)).f0)) ∧ w'.cell? ⟨(ad108.add (((ji18)).toNat * 3)).block, (ad108.add (((ji18)).toNat * 3)).off + 1, none⟩ = some (.string ((rd_T134 l0_1 (ji18)).f1)) ∧ w'.cell? ⟨(ad108.add (((ji18)).toNat * 3)).block, (ad108.add (((ji18)).toNat * 3)).off + 2, none⟩ = some (.string ((rd_T134 l0_1 (ji18)).f2)) ∧ w'.cell? (ad108.add ((x3_2).toNat * 3)) = some (.int .i64 ((rd_T134 l0_1 x3_2).f0)) ∧ w'.cell? ⟨(ad108.add ((x3_2).toNat * 3)).block, (ad108.add ((x3_2).toNat * 3)).off + 1, none⟩ = some (.string ((rd_T134 l0_1 x3_2).f1)) ∧ w'.cell? ⟨(ad108.add ((x3_2).toNat * 3)).block, (ad108.add ((x3_2).toNat * 3)).off + 2, none⟩ = some (.string ((rd_T134 l0_1 x3_2).f2))) (ds := []) #[false, false, false, false, false, false, false, false, false, false, false, false, false, false, false, false, false, false, false, false, false, false, false, false, false, false, false, false] (by kernel_rfl) rfl rfl ⟨xc BK105 0 rfl, xc BK105 1 rfl, (xce HB hw108_0), (xce HB hw108_1), (xce HB hw108_2), (xce HB hw110_0), (xce HB hw110_1), (xce HB hw110_2), (xce HB hw111_0), (xce HB hw111_1), (xce HB hw111_2)⟩ (fun hHeld => ?_); refine with_tabW spec_DiskOk.tab6 spec_DiskOk.bits6 (fun HT_ HW_ => ?_)
             generalize wr.drew = w25 at BK105 HB hx108_0 hx108_1 hx108_2 hx110_0 hx110_1 hx110_2 hx111_0 hx111_1 hx111_2 hHeld ⊢
             refine pv_ 0 28 (h := ?_)
             refine pv_ 2 30 (h := ?_)
             refine tk_ 1 29 (h := ?_)
             refine pv_ 3 31 (h := ?_)
             refine pv_ 4 32 (h := ?_)
             refine tk_ 5 33 (h := ?_)
             refine on_ 6 34 (h := fun K hK => ?_)
             refine goesY Try.func107 #[.int .i64 ((rd_T134 l0_1 x3_2).f0)] ?_
             with_reducible refine (spec_l3Name.calls ((rd_T134 l0_1 x3_2).f0) true _ A15.out).mono ?_
             rintro e w' ⟨rfl, ⟨nd, rfl⟩⟩
             refine ⟨_, rfl, ?_⟩
             refine hK.out _ _ ⟨xc BK105 0 rfl, xc BK105 1 rfl, (xce HB hw108_0), (xce HB hw108_1), (xce HB hw108_2), (xce HB hw110_0), (xce HB hw110_1), (xce HB hw110_2), (xce HB hw111_0), (xce HB hw111_1), (xce HB hw111_2)⟩ (fun hHeld => ?_)
             clear hK K
             refine norm_ (a' := ?_) ?_ ?_
             rotate_left
             ·show Act.put _ (some 34) _ = _
              simp only [Act.put, List.setIfInBounds_toArray, List.set_cons_zero, List.set_cons_succ, i64_w, i32_w]
              rfl
             refine pv_ 7 35 (h := ?_)
             refine pv_ 8 36 (h := ?_)
             refine pv_ 9 37 (h := ?_)
             refine pv_ 10 38 (h := ?_)
             refine pv_ 11 39 (h := ?_)
             refine pv_ 12 40 (h := ?_)
             refine pv_ 14 42 (h := ?_)
             refine pv_ 15 43 (h := ?_)
             refine pv_ 19 47 (h := ?_)
             refine pv_ 21 49 (h := ?_)
             refine tk_ 13 41 (h := ?_)
             refine pv_ 16 44 (h := ?_)
             refine pv_ 17 45 (h := ?_)
             refine tk_ 18 46 (h := ?_)
             refine tk_ 20 48 (h := ?_)
             refine pv_ 22 50 (h := ?_)
             refine pv_ 23 51 (h := ?_)
             refine tk_ 24 52 (h := ?_)
             refine pv_ 25 53 (h := ?_)
             refine pv_ 26 54 (h := ?_)
             refine pv_ 27 55 (h := ?_)
             refine done_ (done_of HT_.out (by kernel_rfl)) ?_
             try go_wp2
             go_roundg k2
             case measure => have := HJ1.out; have := HK2.out; omega
             case rel => exact ⟨(wrap64 (x3_2 + 1)), (by first | rfl | (simp; done) | (simp [*]; done)), H', ⟨by have := HJ1.out; have := HK2.out; omega⟩, ⟨xblk⟩, ⟨xbg⟩⟩
           ·rw [if_neg c20] at H
            exact absurd H (by simp)
          ·rw [if_neg c19] at H
           exact absurd H (by simp)
         ·rw [if_neg c17] at H
          have c17b0 : decide (0 < x3_2) = false := decide_eq_false c17; clear c17
          have H' := aM H
          clear H; obtain ⟨hcz26_0, hcz26_1, hfz26_0, hfz26_1⟩ := xf2 (w := wr) BK105
          try go_wp2
          replace BK105 := aM (blk_drew BK105.out); replace HB := aM (below_drew1 HB.out); have p108 : 0 ≤ (x3_2 : Int) := oda; have q108 : x3_2 < (l0_1.length : Int) := oda
          obtain ⟨ad108, e108, hx108_0, hx108_1, hx108_2⟩ := at_T134 HR0_1.out x3_2 p108 q108
          have hw108_2 := hx108_2; have hw108_1 := hx108_1; have hw108_0 := hx108_0
          cases e108
          replace hx108_0 := xce HB hx108_0; replace hx108_1 := xce HB hx108_1; replace hx108_2 := xce HB hx108_2; replace p108 := eq_true p108; replace q108 := eq_true q108
          refine start_ (n := 28) (S := fun w' => w'.cell? ⟨gb105, 0, none⟩ = some (.int .i64 a0_0) ∧ w'.cell? ⟨gb105, 1, none⟩ = some (.slice (some ad108) l0_1.length c0_1) ∧ w'.cell? (ad108.add ((x3_2).toNat * 3)) = some (.int .i64 ((rd_T134 l0_1 x3_2).f0)) ∧ w'.cell? ⟨(ad108.add ((x3_2).toNat * 3)).block, (ad108.add ((x3_2).toNat * 3)).off + 1, none⟩ = some (.string ((rd_T134 l0_1 x3_2).f1)) ∧ w'.cell? ⟨(ad108.add ((x3_2).toNat * 3)).block, (ad108.add ((x3_2).toNat * 3)).off + 2, none⟩ = some (.string ((rd_T134 l0_1 x3_2).f2))) (ds := []) #[false, false, false, false, false, false, false, false, false, false, false, false, false, false, false, false, false, false, false, false, false, false, false, false, false, false, false, false] (by kernel_rfl) rfl rfl ⟨xc BK105 0 rfl, xc BK105 1 rfl, (xce HB hw108_0), (xce HB hw108_1), (xce HB hw108_2)⟩ (fun hHeld => ?_); refine with_tabW spec_DiskOk.tab6 spec_DiskOk.bits6 (fun HT_ HW_ => ?_)
          generalize wr.drew = w27 at BK105 HB hx108_0 hx108_1 hx108_2 hHeld ⊢
          refine pv_ 0 28 (h := ?_)
          refine pv_ 2 30 (h := ?_)
          refine tk_ 1 29 (h := ?_)
          refine pv_ 3 31 (h := ?_)
          refine pv_ 4 32 (h := ?_)
          refine tk_ 5 33 (h := ?_)
          refine on_ 6 34 (h := fun K hK => ?_)
          refine goesY Try.func107 #[.int .i64 ((rd_T134 l0_1 x3_2).f0)] ?_
          with_reducible refine (spec_l3Name.calls ((rd_T134 l0_1 x3_2).f0) true _ A15.out).mono ?_
          rintro e w' ⟨rfl, ⟨nd, rfl⟩⟩
          refine ⟨_, rfl, ?_⟩
          refine hK.out _ _ ⟨xc BK105 0 rfl, xc BK105 1 rfl, (xce HB hw108_0), (xce HB hw108_1), (xce HB hw108_2)⟩ (fun hHeld => ?_)
          clear hK K
          refine norm_ (a' := ?_) ?_ ?_
          rotate_left
          ·show Act.put _ (some 34) _ = _
           simp only [Act.put, List.setIfInBounds_toArray, List.set_cons_zero, List.set_cons_succ, i64_w, i32_w]
           rfl
          refine pv_ 7 35 (h := ?_)
          refine pv_ 8 36 (h := ?_)
          refine pv_ 9 37 (h := ?_)
          refine pv_ 10 38 (h := ?_)
          refine pv_ 11 39 (h := ?_)
          refine pu_ 12 40 (h := ?_)
          refine pu_ 13 41 (h := ?_)
          refine pu_ 14 42 (h := ?_)
          refine pu_ 15 43 (h := ?_)
          refine pu_ 16 44 (h := ?_)
          refine pu_ 17 45 (h := ?_)
          refine pu_ 18 46 (h := ?_)
          refine pu_ 19 47 (h := ?_)
          refine pu_ 20 48 (h := ?_)
          refine pu_ 21 49 (h := ?_)
          refine pu_ 22 50 (h := ?_)
          refine pu_ 23 51 (h := ?_)
          refine pu_ 24 52 (h := ?_)
          refine pu_ 25 53 (h := ?_)
          refine pv_ 26 54 (h := ?_)
          refine pv_ 27 55 (h := ?_)
          refine done_ (done_of HT_.out (by kernel_rfl)) ?_
          try go_wp2
          go_roundg k2
          case measure => have := HJ1.out; have := HK2.out; omega
          case rel => exact ⟨(wrap64 (x3_2 + 1)), (by first | rfl | (simp; done) | (simp [*]; done)), H', ⟨by have := HJ1.out; have := HK2.out; omega⟩, ⟨xblk⟩, ⟨xbg⟩⟩
        ·replace c16 := Bool.eq_false_iff.mpr c16
         subst c16
         have H1 : (some false) = some r := by rw [if_neg (show ¬ (false = true) by decide)] at H; exact H
         clear H; have H := H1; clear H1
         obtain rfl := Option.some.inj H
         obtain ⟨hcz28_0, hcz28_1, hfz28_0, hfz28_1⟩ := xf2 (w := wr) BK105
         try go_wp2
         replace BK105 := aM (blk_drew BK105.out); replace HB := aM (below_drew1 HB.out); have p108 : 0 ≤ (x3_2 : Int) := oda; have q108 : x3_2 < (l0_1.length : Int) := oda
         obtain ⟨ad108, e108, hx108_0, hx108_1, hx108_2⟩ := at_T134 HR0_1.out x3_2 p108 q108
         have hw108_2 := hx108_2; have hw108_1 := hx108_1; have hw108_0 := hx108_0
         cases e108
         replace hx108_0 := xce HB hx108_0; replace hx108_1 := xce HB hx108_1; replace hx108_2 := xce HB hx108_2; replace p108 := eq_true p108; replace q108 := eq_true q108
         refine start_ (n := 28) (S := fun w' => w'.cell? ⟨gb105, 0, none⟩ = some (.int .i64 a0_0) ∧ w'.cell? ⟨gb105, 1, none⟩ = some (.slice (some ad108) l0_1.length c0_1) ∧ w'.cell? (ad108.add ((x3_2).toNat * 3)) = some (.int .i64 ((rd_T134 l0_1 x3_2).f0)) ∧ w'.cell? ⟨(ad108.add ((x3_2).toNat * 3)).block, (ad108.add ((x3_2).toNat * 3)).off + 1, none⟩ = some (.string ((rd_T134 l0_1 x3_2).f1)) ∧ w'.cell? ⟨(ad108.add ((x3_2).toNat * 3)).block, (ad108.add ((x3_2).toNat * 3)).off + 2, none⟩ = some (.string ((rd_T134 l0_1 x3_2).f2))) (ds := []) #[false, false, false, false, false, false, false, false, false, false, false, false, false, false, false, false, false, false, false, false, false, false, false, false, false, false, false, false] (by kernel_rfl) rfl rfl ⟨xc BK105 0 rfl, xc BK105 1 rfl, (xce HB hw108_0), (xce HB hw108_1), (xce HB hw108_2)⟩ (fun hHeld => ?_); refine with_tabW spec_DiskOk.tab6 spec_DiskOk.bits6 (fun HT_ HW_ => ?_)
         generalize wr.drew = w29 at BK105 HB hx108_0 hx108_1 hx108_2 hHeld ⊢
         refine pv_ 0 28 (h := ?_)
         refine pv_ 2 30 (h := ?_)
         refine tk_ 1 29 (h := ?_)
         refine pv_ 3 31 (h := ?_)
         refine pv_ 4 32 (h := ?_)
         refine tk_ 5 33 (h := ?_)
         refine on_ 6 34 (h := fun K hK => ?_)
         refine goesY Try.func107 #[.int .i64 ((rd_T134 l0_1 x3_2).f0)] ?_
         with_reducible refine (spec_l3Name.calls ((rd_T134 l0_1 x3_2).f0) false _ A15.out).mono ?_
         rintro e w' ⟨rfl, ⟨nd, rfl⟩⟩
         refine ⟨_, rfl, ?_⟩
         refine hK.out _ _ ⟨xc BK105 0 rfl, xc BK105 1 rfl, (xce HB hw108_0), (xce HB hw108_1), (xce HB hw108_2)⟩ (fun hHeld => ?_)
         clear hK K
         refine norm_ (a' := ?_) ?_ ?_
         rotate_left
         ·show Act.put _ (some 34) _ = _
          simp only [Act.put, List.setIfInBounds_toArray, List.set_cons_zero, List.set_cons_succ, i64_w, i32_w]
          rfl
         refine pv_ 7 35 (h := ?_)
         refine pv_ 8 36 (h := ?_)
         refine pu_ 9 37 (h := ?_)
         refine pu_ 10 38 (h := ?_)
         refine pu_ 11 39 (h := ?_)
         refine pu_ 12 40 (h := ?_)
         refine pu_ 13 41 (h := ?_)
         refine pu_ 14 42 (h := ?_)
         refine pu_ 15 43 (h := ?_)
         refine pu_ 16 44 (h := ?_)
         refine pu_ 17 45 (h := ?_)
         refine pu_ 18 46 (h := ?_)
         refine pu_ 19 47 (h := ?_)
         refine pu_ 20 48 (h := ?_)
         refine pu_ 21 49 (h := ?_)
         refine pu_ 22 50 (h := ?_)
         refine pu_ 23 51 (h := ?_)
         refine pu_ 24 52 (h := ?_)
         refine pu_ 25 53 (h := ?_)
         refine pu_ 26 54 (h := ?_)
         refine pv_ 27 55 (h := ?_)
         refine done_ (done_of HT_.out (by kernel_rfl)) ?_
         try go_wp2
         go_ret
         exact ⟨by first | rfl | (simp [errW_none, errW_some] <;> rfl) | (simp [*, errW_none, errW_some] <;> rfl), xbg⟩
       ·rw [if_neg c14] at H
        exact absurd H (by simp)
      ·rw [if_neg c13] at H
       have c13b0 : decide (x3_2 < (l0_1.length : Int)) = false := decide_eq_false c13; clear c13
       obtain rfl := Option.some.inj H
       obtain ⟨hcz30_0, hcz30_1, hfz30_0, hfz30_1⟩ := xf2 (w := wr) BK105
       go_wp2
       go_ret
       exact ⟨by first | rfl | (simp [errW_none, errW_some] <;> rfl) | (simp [*, errW_none, errW_some] <;> rfl), xbg⟩

/-! ### spec_l3Copy: function 109 -/
def spec_l3Copy.f (a0_0 : Int) (l0_1 : List (S134)) : Option (Int × (List (S134))) := (some (([] : List (S134)) : List (S134))).bind fun y114 => (if y114.length + l0_1.length < 3518437208883 then (some (a0_0, (y114 ++ l0_1))) else (none))
def spec_l3Copy.T1 : Bool × List (List Nat × List Nat) := (true, [([], []), ([0], [0]), ([], []), ([], []), ([3], [3]), ([2, 4], [2, 4]), ([1, 5], [1, 5]), ([6, 5, 0, 1, 2, 3, 4, 5, 6], [6])])
def spec_l3Copy.B1 : List Nat := [0, 1, 0, 0, 8, 28, 63, 127]
theorem spec_l3Copy.tab1 : rtab .any (opsOf Try.f109 1) = spec_l3Copy.T1 := by kernel_rfl
theorem spec_l3Copy.bits1 : waitsOk spec_l3Copy.T1.2 spec_l3Copy.B1 = true := by kernel_rfl
set_option maxHeartbeats 8000000 in
set_option maxRecDepth 100000 in
theorem spec_l3Copy.calls (a0_0 : Int) (A0_1 : Option Addr) (c0_1 : Nat) (l0_1 : List (S134)) (r1 : Int) (r2 : List (S134)) (w : World) (hr0_1 : Kd.C k134 w A0_1 l0_1.length l0_1) (hc0_1 : l0_1.length ≤ c0_1) (h : spec_l3Copy.f a0_0 l0_1 = some (r1, r2)) :
 Calls Try.prog 109 #[.agg #[.int .i64 a0_0, .slice A0_1 l0_1.length c0_1]] w fun e w' => ∃ v1_ : Value, e = .returned (.agg #[.int .i64 r1, v1_]) ∧ Kd.R k134 134 w' w.heap.size (fun _ => True) v1_ r2 ∧ Below w.heap.size w w' := by
 have hu70 := Try.underlying70
 have HR0_1 := aM hr0_1
 have HC0_1 := aM hc0_1
 clear hr0_1 hc0_1
 have HB := aM (Below.refl w.heap.size w)
 have H : ((some (([] : List (S134)) : List (S134))).bind fun y114 => (if y114.length + l0_1.length < 3518437208883 then (some (a0_0, (y114 ++ l0_1))) else (none))) = some (r1, r2) := h
 clear h
 obtain ⟨y114, hy114⟩ : ∃ y_ : List (S134), y_ = (([] : List (S134))) := ⟨_, rfl⟩
 replace H : (if y114.length + l0_1.length < 3518437208883 then (some (a0_0, (y114 ++ l0_1))) else (none)) = some (r1, r2) := by first | (rw [hy114]; with_reducible exact H) | (have H2_ := (Option.bind_some _ _).symm.trans H; rw [hy114]; with_reducible exact H2_) | (have H2_ := (Option.bind_some _ _).symm.trans H; with_reducible exact H2_) | with_reducible exact H | (rw [hy114]; exact H) | exact H
 have Ny114 := aM hy114
 clear hy114
 by_cases c2 : y114.length + l0_1.length < 3518437208883
 ·rw [if_pos c2] at H
  have LMc2 := aM c2; clear c2
  obtain ⟨y117, hy117⟩ : ∃ y_ : List (S134), y_ = (y114 ++ l0_1) := ⟨_, rfl⟩
  replace H : (some (a0_0, y117)) = some (r1, r2) := by first | (rw [hy117]; with_reducible exact H) | (have H2_ := (Option.bind_some _ _).symm.trans H; rw [hy117]; with_reducible exact H2_) | (have H2_ := (Option.bind_some _ _).symm.trans H; with_reducible exact H2_) | with_reducible exact H | (rw [hy117]; exact H) | exact H
  have Ny117 := aM hy117; clear hy117
  simp only [Option.some.injEq, Prod.mk.injEq] at H
  obtain ⟨rfl, rfl⟩ := H
  go_enter Try.func109, Try.ntmps109
  try go_wp2_with (first | ((with_reducible refine gate_dst (N := 1) rfl ?_); refine box_event ?hg (N := 1) ?hd (cs := #[.int .i64 a0_0, .slice A0_1 l0_1.length c0_1]) (t := 70) ?hr ?_; (case hd => rfl); (case hg => rfl); (case hr => first | (go_simp; done) | (go_simp; rfl)); intro gb112 hg w3 hbox hb; have BK112 := aM (hbox); have GW112 := aM (xge hg); have GE112 := aM (xge hg); replace HB := xbs hb; clear hb hbox hg) | ((with_reducible refine gate_dst (N := 2) rfl ?_); refine box_event ?hg (N := 2) ?hd (cs := #[.int .i64 0, .slice none 0 0]) (t := 70) ?hr ?_; (case hd => rfl); (case hg => rfl); (case hr => first | (go_simp; done) | (go_simp; rfl)); intro gb113 hg w4 hbox hb; have GW113 := aM (xge hg); have GE113 := aM (xge hg); replace HB := xbs hb; have NB112_113 := aM ((by rw [hg]; exact Nat.ne_of_lt (blk_lt (g := gb112) (o := .cells #[.int .i64 a0_0, .slice A0_1 l0_1.length c0_1] 70 (0, 0)) xblk) : gb112 ≠ gb113)); have NB113_112 := aM ((by rw [hg]; exact Nat.ne_of_gt (blk_lt (g := gb112) (o := .cells #[.int .i64 a0_0, .slice A0_1 l0_1.length c0_1] 70 (0, 0)) xblk) : gb113 ≠ gb112)); replace BK112 := xbb BK112 hb; have BK113 := aM (hbox); clear hb hbox hg))
  replace BK112 := aM (blk_drew BK112.out); replace BK113 := aM (blk_drew BK113.out); replace HB := aM (below_drew1 HB.out)
  refine start_ (n := 8) (S := fun w' => w'.cell? ⟨gb112, 0, none⟩ = some (.int .i64 a0_0) ∧ w'.cell? ⟨gb112, 1, none⟩ = some (.slice A0_1 l0_1.length c0_1)) (ds := []) #[false, false, false, false, false, false, false, false] (by kernel_rfl) rfl rfl ⟨xc BK112 0 rfl, xc BK112 1 rfl⟩ (fun hHeld => ?_); refine with_tabW spec_l3Copy.tab1 spec_l3Copy.bits1 (fun HT_ HW_ => ?_)
  generalize w4.drew = w5 at BK112 BK113 HB hHeld ⊢
  refine pv_ 0 3 (h := ?_)
  refine pv_ 3 6 (h := ?_)
  refine tk_ 1 4 (h := ?_)
  refine tk_ 4 7 (h := ?_)
  refine on_ 2 5 (h := fun K hK => ?_)
  refine Kd.R_lit_step k134 _ 134 ?hg (N := 5) ?hd (xs := ([] : List (S134))) (inner := []) (ok := fun _ => True) (okp := fun _ => True) ?hr ?hp (fun _ hk => hk) trivial (Below.refl _ _) (Nat.le_refl _) (by simp) ?_; (case hd => rfl); (case hg => rfl); (case hr => first | (go_simp; done) | (go_simp; rfl)); (case hp => exact (Reps.none _ _))
  intro v115 w6 ho7 hb hg_ hnew_
  clear hg_ hnew_
  (first | rw [← Ny114.out] at ho7 | (simp only [Int.reduceToNat] at ho7; rw [← Ny114.out] at ho7))
  have HO116 := aM (Kd.R_lower ho7 (below_size xbg)); replace BK112 := xbb BK112 hb; replace BK113 := xbb BK113 hb; replace HB := xbs hb; clear hb ho7
  refine hK.out _ _ ⟨xc BK112 0 rfl, xc BK112 1 rfl⟩ (fun hHeld => ?_)
  clear hK K
  refine norm_ (a' := ?_) ?_ ?_
  rotate_left
  ·show Act.put _ (some 5) _ = _
   simp only [Act.put, List.setIfInBounds_toArray, List.set_cons_zero, List.set_cons_succ, i64_w, i32_w]
   rfl
  refine on_ 5 8 (h := fun K hK => ?_)
  refine Kd.R_append_rows_step k134 (w0 := w) w.heap.size (by rfl) (.tmp 5) (.tmp 7) 68 134 (.agg #[(.int .i64 0), (.string ⟨#[]⟩), (.string ⟨#[]⟩)]) 40 rfl Try.underlying68 info134 rfl (by decide) (by omega) v115 y114 l0_1 _ _ _ (fun _ => True) (fun _ => False) rfl rfl ?aO ?aR (fun _ _ h => h) (fun _ h => h.elim) ?aF ?aB ?aS ?aL ?_
  (case aR => exact xcb HR0_1)
  (case aB => exact xbg)
  (case aF => exact (fun _ _ => trivial))
  (case aO => exact (xr HO116))
  (case aS => exact (below_size xbg))
  (case aL => have := LMc2.out; omega)
  intro v118 w8 ho hb hg hat
  rw [← Ny117.out] at ho
  have n0_ := aM (blk_grown (g := gb112) (o := .cells #[.int .i64 a0_0, .slice A0_1 l0_1.length c0_1] 70 (0, 0)) xblk hg (Kd.R_ne HO116.out BK112.out (by decide))); have n1_ := aM (blk_grown (g := gb113) (o := .cells #[.int .i64 0, .slice none 0 0] 70 (0, 0)) xblk hg (Kd.R_ne HO116.out BK113.out (by decide))); have n2_ := aM (hb); have n3_ := aM (ho); clear BK112 BK113 HB HO116; have BK112 := n0_; have BK113 := n1_; have HB := n2_; have HO119 := n3_; clear n0_ n1_ n2_ n3_ ho hb hg hat
  obtain ⟨Ao9, co9, eo9⟩ := Kd.R_slice HO119.out
  (first | subst eo9 | (injection eo9 with f1_ f2_ f3_; have f4_ := f1_.symm; have f5_ := f3_.symm; clear f1_ f2_ f3_; subst f4_; subst f5_))
  refine hK.out _ _ ⟨xc BK112 0 rfl, xc BK112 1 rfl⟩ (fun hHeld => ?_)
  clear hK K
  refine norm_ (a' := ?_) ?_ ?_
  rotate_left
  ·show Act.put _ (some 8) _ = _
   simp only [Act.put, List.setIfInBounds_toArray, List.set_cons_zero, List.set_cons_succ, i64_w, i32_w]
   rfl
  refine pv_ 6 9 (h := ?_)
  refine one_ (i := 7) (N := none) #[true, true, true, true, true, true, true, true] rfl rfl (one_of HT_.out (by kernel_rfl)) (by decide) (fun K hK => ?_)
  have hs10 : w8.cell? ⟨gb113, 0, none⟩ = some (.int .i64 0) := xc BK113 0 rfl; have hfs10 := blk_frozen BK113.out 0; have hns10_0 := NB112_113.out; have hms10_0 := NB113_112.out; have hs11 : w8.cell? ⟨gb113, 1, none⟩ = some (.slice none 0 0) := xc BK113 1 rfl; have hfs11 := blk_frozen BK113.out 1; have hns11_0 := NB112_113.out; have hms11_0 := NB113_112.out
  refine skip_ (w1 := ?_) (by rfl) rfl ?_ ?_
  rotate_left
  ·go_simp
   rfl
  refine hK.out _ _ ⟨((cell_far (p := ⟨gb113, _, none⟩) NB112_113.out _).trans (((cell_far (p := ⟨gb113, _, none⟩) NB112_113.out _).trans (hHeld.1)))), ((cell_far (p := ⟨gb113, _, none⟩) NB112_113.out _).trans (((cell_far (p := ⟨gb113, _, none⟩) NB112_113.out _).trans (hHeld.2))))⟩ (fun hHeld => ?_)
  clear hK K
  refine done_ (done_of HT_.out (by kernel_rfl)) ?_
  try go_wp2
  refine bodyPost_ret (results_cell_row rfl _ _ gb113 70 #[.int .i64 a0_0, .slice Ao9 y117.length co9] (0, 0) _ rfl (by (with_reducible repeat (first | refine blk_drewN ?_ _ | refine blk_drew ?_ | refine blk_alloc ?_ _)); refine blk_put (cs := #[.int .i64 a0_0, .slice none 0 0]) ?_ 1 _ rfl; (with_reducible repeat (first | refine blk_drewN ?_ _ | refine blk_drew ?_ | refine blk_alloc ?_ _)); refine blk_put (cs := #[.int .i64 0, .slice none 0 0]) ?_ 0 _ rfl; (with_reducible repeat (first | refine blk_drewN ?_ _ | refine blk_drew ?_ | refine blk_alloc ?_ _)); exact BK113.out) Try.underlying70 rfl (by kernel_rfl)) rfl ?_
  exact ⟨_, by first | rfl | (simp [errW_none, errW_some] <;> rfl) | (simp [*, errW_none, errW_some] <;> rfl), by (with_reducible repeat (first | apply Kd.R_alloc | apply Kd.R_drewN | apply Kd.R_drew)); exact Kd.R_mono (Kd.R_far (p := ⟨gb113, 1, none⟩) (Kd.R_far (p := ⟨gb113, 0, none⟩) (Kd.R_types HO119.out BK113.out (by decide)) (fun _ hk => hk.2) (.int .i64 a0_0)) (fun _ hk => hk.2) (.slice Ao9 y117.length co9)) (fun _ hk => trivial), xbg⟩
 ·rw [if_neg c2] at H
  exact absurd H (by simp)

end Go.Proofs.Ytnjpfllmcmomoaa.QFnFiles
