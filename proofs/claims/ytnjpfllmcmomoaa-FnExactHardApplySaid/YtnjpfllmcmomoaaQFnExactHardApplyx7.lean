-- A walk, by a program of this session.
import Derived.Test.YtnjpfllmcmomoaaQFnExactHardApplyx0
import Derived.Test.YtnjpfllmcmomoaaQFnExactHardApplyx5
import Derived.Test.YtnjpfllmcmomoaaQFnExactHardApplyx6
namespace Go.Proofs.Ytnjpfllmcmomoaa.QFnExactHardApply
open Go.RowKit Go.Proofs.YtnjpfllmcmomoaaW.PrintWords Go.Proofs.YtnjpfllmcmomoaaW.PrintLast Go.Proofs.YtnjpfllmcmomoaaW.PrintMore
attribute [local go_sem] max2_int min2_int max_two min_two max_three min_three max_four min_four   -- for this text's walks alone
set_option linter.unusedVariables false
set_option linter.unusedSimpArgs false

/-! ### spec_HardOk: function 98 -/
mutual
def spec_HardOk.j0 : Nat → Bool → Int → Int → List (S36) → Option (Bool)
 | 0, _, _, _, _ => none
 | k + 1, x19, x197000, x197001, x197002 => if x19 = true then (some false) else (spec_HardOk.l0 k 0 x197000 x197001 x197002)
def spec_HardOk.l0 : Nat → Int → Int → Int → List (S36) → Option (Bool)
 | 0, _, _, _, _ => none
 | k + 1, x3, x197000, x197001, x197002 => if x3 < (x197002.length : Int) then (if 0 ≤ x3 then ((spec_l6Entry.f k ((rd_T36 x197002 x3).f0) ((rd_T36 x197002 x3).f1.f0) ((rd_T36 x197002 x3).f1.f1) ((rd_T36 x197002 x3).f1.f2) ((rd_T36 x197002 x3).f1.f3) ((rd_T36 x197002 x3).f1.f4)).bind fun t200 => (if t200 = true then (if ((rd_T36 x197002 x3).f0) > x197000 then (some false) else (if x3 > 0 then (if 0 ≤ (wrap64 (x3 - 1)) then (if (wrap64 (x3 - 1)) < (x197002.length : Int) then (if ((rd_T36 x197002 x3).f0) < ((rd_T36 x197002 (wrap64 (x3 - 1))).f0) then (some false) else (spec_HardOk.l0 k (wrap64 (x3 + 1)) x197000 x197001 x197002)) else (none)) else (none)) else (spec_HardOk.l0 k (wrap64 (x3 + 1)) x197000 x197001 x197002))) else (some false))) else (none)) else (some true)
end
def spec_HardOk.f (k : Nat) (a0_0 : Int) (a0_1 : Int) (l0_2 : List (S36)) : Option (Bool) := (spec_l1Whole.f a0_0).bind fun t197 => (if t197 = true then ((spec_l1In.f a0_1 0 5).bind fun t198 => (if t198 = true then (spec_HardOk.j0 k (decide ((l0_2.length : Int) > 80)) a0_0 a0_1 l0_2) else (spec_HardOk.j0 k true a0_0 a0_1 l0_2))) else (spec_HardOk.j0 k true a0_0 a0_1 l0_2))
set_option maxRecDepth 100000 in
theorem spec_HardOk.mono_l : ∀ k, (∀ y0 y1 y2 y3, LeO (spec_HardOk.j0 k y0 y1 y2 y3) (spec_HardOk.j0 (k + 1) y0 y1 y2 y3)) ∧ (∀ y0 y1 y2 y3, LeO (spec_HardOk.l0 k y0 y1 y2 y3) (spec_HardOk.l0 (k + 1) y0 y1 y2 y3))
 | 0 => ⟨fun _ _ _ _ r h => by simp [spec_HardOk.j0] at h, fun _ _ _ _ r h => by simp [spec_HardOk.l0] at h⟩
 | k + 1 => by
  obtain ⟨ih0, ih1⟩ := spec_HardOk.mono_l k
  refine ⟨?_, ?_⟩
  ·intro y0 y1 y2 y3
   unfold spec_HardOk.j0
   repeat' first
   | (with_reducible exact ih0 _ _ _ _)
   | (with_reducible exact ih1 _ _ _ _)
   | (with_reducible exact spec_l6Entry.mono _ _ _ _ _ _ _)
   | (with_reducible exact LeO.refl _)
   | (with_reducible exact LeO.none _)
   | (with_reducible refine LeO.ite ?_ ?_)
   | (with_reducible refine LeO.bind ?_ (fun _ => ?_))
   | exact ih0 _ _ _ _
   | exact ih1 _ _ _ _
   | exact spec_l6Entry.mono _ _ _ _ _ _ _
   | exact LeO.none _
   | refine LeO.ite ?_ ?_
   | refine LeO.bind ?_ (fun _ => ?_)
  ·intro y0 y1 y2 y3
   unfold spec_HardOk.l0
   repeat' first
   | (with_reducible exact ih0 _ _ _ _)
   | (with_reducible exact ih1 _ _ _ _)
   | (with_reducible exact spec_l6Entry.mono _ _ _ _ _ _ _)
   | (with_reducible exact LeO.refl _)
   | (with_reducible exact LeO.none _)
   | (with_reducible refine LeO.ite ?_ ?_)
   | (with_reducible refine LeO.bind ?_ (fun _ => ?_))
   | exact ih0 _ _ _ _
   | exact ih1 _ _ _ _
   | exact spec_l6Entry.mono _ _ _ _ _ _ _
   | exact LeO.none _
   | refine LeO.ite ?_ ?_
   | refine LeO.bind ?_ (fun _ => ?_)
theorem spec_HardOk.mono : ∀ a0 a1 a2 k, LeO (spec_HardOk.f k a0 a1 a2) (spec_HardOk.f (k + 1) a0 a1 a2) := by
 intro a0 a1 a2 k
 obtain ⟨ih0, ih1⟩ := spec_HardOk.mono_l k
 unfold spec_HardOk.f
 repeat' first
  | (with_reducible exact ih0 _ _ _ _)
  | (with_reducible exact ih1 _ _ _ _)
  | (with_reducible exact spec_l6Entry.mono _ _ _ _ _ _ _)
  | (with_reducible exact LeO.refl _)
  | (with_reducible exact LeO.none _)
  | (with_reducible refine LeO.ite ?_ ?_)
  | (with_reducible refine LeO.bind ?_ (fun _ => ?_))
  | exact ih0 _ _ _ _
  | exact ih1 _ _ _ _
  | exact spec_l6Entry.mono _ _ _ _ _ _ _
  | exact LeO.none _
  | refine LeO.ite ?_ ?_
  | refine LeO.bind ?_ (fun _ => ?_)
def spec_HardOk.T6 : Bool × List (List Nat × List Nat) := (true, [([], []), ([0], [0]), ([], []), ([1, 2], [1, 2]), ([3], [3]), ([4], [4]), ([5], [5]), ([6, 5], [6]), ([7], [7]), ([8, 7], [7, 8]), ([7], [7]), ([9, 10, 7], [7, 9, 10]), ([11, 7], [7, 11]), ([12, 7], [7, 12]), ([7], [7]), ([14, 7], [7, 14]), ([13, 15, 7], [7, 13, 15]), ([7, 16], [7, 16]), ([17, 7], [17]), ([18], [18]), ([19, 18], [18, 19]), ([20, 18, 18], [18, 20]), ([21], [21]), ([22, 21], [21, 22]), ([21], [21]), ([23, 24, 21], [21, 23, 24]), ([25, 21], [21, 25]), ([26, 21], [21, 26]), ([21], [21]), ([28, 21], [21, 28]), ([21], [21]), ([30, 21], [21, 30]), ([29, 31, 21], [21, 29, 31]), ([32, 21], [21, 32]), ([33, 21], [21, 33]), ([27, 34, 21], [21, 27, 34]), ([21, 35, 18], [18, 21, 35]), ([18, 36], [18, 36])])
def spec_HardOk.B6 : List Nat := [0, 1, 0, 7, 15, 31, 63, 127, 255, 511, 255, 2047, 4095, 8191, 255, 16639, 65535, 131071, 262143, 524287, 1048575, 2097151, 4194303, 8388607, 4194303, 33554431, 67108863, 134217727, 4194303, 272629759, 4194303, 1077936127, 4030726143, 8325693439, 16915628031, 34359738367, 68719476735, 137438953471]
theorem spec_HardOk.tab6 : rtab .any (opsOf Try.f98 6) = spec_HardOk.T6 := by kernel_rfl
theorem spec_HardOk.bits6 : waitsOk spec_HardOk.T6.2 spec_HardOk.B6 = true := by kernel_rfl
set_option maxHeartbeats 8000000 in
set_option maxRecDepth 100000 in
theorem spec_HardOk.calls (k : Nat) (a0_0 : Int) (a0_1 : Int) (A0_2 : Option Addr) (c0_2 : Nat) (l0_2 : List (S36)) (r : Bool) (w : World) (hr0_2 : Kd.C k36 w A0_2 l0_2.length l0_2) (hc0_2 : l0_2.length ≤ c0_2) (h : spec_HardOk.f k a0_0 a0_1 l0_2 = some r) :
 Calls Try.prog 98 #[.agg #[.int .i64 a0_0, .int .i64 a0_1, .slice A0_2 l0_2.length c0_2]] w fun e w' => e = .returned (.bool r) ∧ Below w.heap.size w w' := by
 have hu28 := Try.underlying28
 have hu36 := Try.underlying36
 have HR0_2 := aM hr0_2
 have HC0_2 := aM hc0_2
 clear hr0_2 hc0_2
 have HB := aM (Below.refl w.heap.size w)
 have H : ((spec_l1Whole.f a0_0).bind fun t197 => (if t197 = true then ((spec_l1In.f a0_1 0 5).bind fun t198 => (if t198 = true then (spec_HardOk.j0 k (decide ((l0_2.length : Int) > 80)) a0_0 a0_1 l0_2) else (spec_HardOk.j0 k true a0_0 a0_1 l0_2))) else (spec_HardOk.j0 k true a0_0 a0_1 l0_2))) = some r := h
 clear h
 have HC2 := aM H
 clear H
 go_enter Try.func98, Try.ntmps98
 go_upto_region 1 with (first | ((with_reducible refine gate_dst (N := 1) rfl ?_); (try (refine gate_guard (by rfl) ?_; dsimp only)); refine box_event ?hg (N := 1) ?hd (cs := #[.int .i64 a0_0, .int .i64 a0_1, .slice A0_2 l0_2.length c0_2]) (t := 28) ?hr ?_; (case hd => rfl); (case hg => rfl); (case hr => first | (go_simp; done) | (go_simp; rfl)); intro gb196 hg w3 hbox hb; have BK196 := aM (hbox); have GW196 := aM (xge hg); have GE196 := aM (xge hg); replace HB := xbs hb; clear hb hbox hg))
 (try simp only [Act.put, List.setIfInBounds_toArray, List.set_cons_zero, List.set_cons_succ])
 go_cut [19] (fun v19 wc => ∃ (kq : Nat) (x19_1 : Bool), v19 = .bool x19_1 ∧ Aside0 (spec_HardOk.j0 kq x19_1 a0_0 a0_1 l0_2 = some r) ∧ Aside0 (kq ≤ k) ∧ Aside0 (wc.heap[gb196]? = some (.cells #[.int .i64 a0_0, .int .i64 a0_1, (.slice A0_2 l0_2.length c0_2)] 28 (0, 0))) ∧ Aside0 (Below w.heap.size w wc))
 case first =>
  have H := HC2.out; clear HC2; replace H := Option.bind_eq_some_iff.mp H
  obtain ⟨t197, A40, H⟩ := H
  replace H : (if t197 = true then ((spec_l1In.f a0_1 0 5).bind fun t198 => (if t198 = true then (spec_HardOk.j0 k (decide ((l0_2.length : Int) > 80)) a0_0 a0_1 l0_2) else (spec_HardOk.j0 k true a0_0 a0_1 l0_2))) else (spec_HardOk.j0 k true a0_0 a0_1 l0_2)) = some r := H; have A4 := aM A40; clear A40
  by_cases c5 : t197 = true
  ·subst c5
   have H1 : ((spec_l1In.f a0_1 0 5).bind fun t198 => (if t198 = true then (spec_HardOk.j0 k (decide ((l0_2.length : Int) > 80)) a0_0 a0_1 l0_2) else (spec_HardOk.j0 k true a0_0 a0_1 l0_2))) = some r := by rw [if_pos rfl] at H; exact H
   clear H; have H := H1; clear H1; replace H := Option.bind_eq_some_iff.mp H
   obtain ⟨t198, A60, H⟩ := H
   replace H : (if t198 = true then (spec_HardOk.j0 k (decide ((l0_2.length : Int) > 80)) a0_0 a0_1 l0_2) else (spec_HardOk.j0 k true a0_0 a0_1 l0_2)) = some r := H; have A6 := aM A60; clear A60
   by_cases c7 : t198 = true
   ·subst c7
    have H1 : (spec_HardOk.j0 k (decide ((l0_2.length : Int) > 80)) a0_0 a0_1 l0_2) = some r := by rw [if_pos rfl] at H; exact H
    clear H; have H := H1; clear H1
    have H' := aM H
    clear H; have hcz8_0 : w3.cell? ⟨gb196, 0, none⟩ = some (.int .i64 a0_0) := xc BK196 0 rfl; have hcz8_1 : w3.cell? ⟨gb196, 1, none⟩ = some (.int .i64 a0_1) := xc BK196 1 rfl; have hcz8_2 : w3.cell? ⟨gb196, 2, none⟩ = some (.slice A0_2 l0_2.length c0_2) := xc BK196 2 rfl; have hfz8_0 := blk_frozen BK196.out 0; have hfz8_1 := blk_frozen BK196.out 1; have hfz8_2 := blk_frozen BK196.out 2
    go_wp2_with (first | ((with_reducible refine gate_callee (f := 137) rfl ?_); refine goesL_ (some 6) rfl rfl Try.func137 (by kernel_rfl) rfl #[.int .i64 a0_0] rfl (by (try simp only [List.map_toArray, List.map_cons, List.map_nil]); first | done | rfl | (simp only [List.length_drop, List.length_take]; rfl)) ?_; (with_reducible refine (spec_l1Whole.calls a0_0 true _ A4.out).mono ?_); rintro e w' ⟨rfl, ⟨nd, rfl⟩⟩; refine ⟨_, rfl, ?_⟩) | (go_at_call 87; (with_reducible refine (spec_l1In.calls a0_1 0 5 true _ A6.out).mono ?_); rintro e w' ⟨rfl, ⟨nd, rfl⟩⟩))
    go_meet
    case rel => exact ⟨_, (decide ((l0_2.length : Int) > 80)), (by first | rfl | (simp; done) | (simp [*]; done)), H', ⟨by first | omega | exact Nat.le_refl _⟩, ⟨xblk⟩, ⟨xbg⟩⟩
   ·replace c7 := Bool.eq_false_iff.mpr c7
    subst c7
    have H1 : (spec_HardOk.j0 k true a0_0 a0_1 l0_2) = some r := by rw [if_neg (show ¬ (false = true) by decide)] at H; exact H
    clear H; have H := H1; clear H1
    have H' := aM H
    clear H; have hcz9_0 : w3.cell? ⟨gb196, 0, none⟩ = some (.int .i64 a0_0) := xc BK196 0 rfl; have hcz9_1 : w3.cell? ⟨gb196, 1, none⟩ = some (.int .i64 a0_1) := xc BK196 1 rfl; have hcz9_2 : w3.cell? ⟨gb196, 2, none⟩ = some (.slice A0_2 l0_2.length c0_2) := xc BK196 2 rfl; have hfz9_0 := blk_frozen BK196.out 0; have hfz9_1 := blk_frozen BK196.out 1; have hfz9_2 := blk_frozen BK196.out 2
    go_wp2_with (first | ((with_reducible refine gate_callee (f := 137) rfl ?_); refine goesL_ (some 6) rfl rfl Try.func137 (by kernel_rfl) rfl #[.int .i64 a0_0] rfl (by (try simp only [List.map_toArray, List.map_cons, List.map_nil]); first | done | rfl | (simp only [List.length_drop, List.length_take]; rfl)) ?_; (with_reducible refine (spec_l1Whole.calls a0_0 true _ A4.out).mono ?_); rintro e w' ⟨rfl, ⟨nd, rfl⟩⟩; refine ⟨_, rfl, ?_⟩) | (go_at_call 87; (with_reducible refine (spec_l1In.calls a0_1 0 5 false _ A6.out).mono ?_); rintro e w' ⟨rfl, ⟨nd, rfl⟩⟩))
    go_meet
    case rel => exact ⟨_, (true), (by first | rfl | (simp; done) | (simp [*]; done)), H', ⟨by first | omega | exact Nat.le_refl _⟩, ⟨xblk⟩, ⟨xbg⟩⟩
  ·replace c5 := Bool.eq_false_iff.mpr c5
   subst c5
   have H1 : (spec_HardOk.j0 k true a0_0 a0_1 l0_2) = some r := by rw [if_neg (show ¬ (false = true) by decide)] at H; exact H
   clear H; have H := H1; clear H1
   have H' := aM H
   clear H; have hcz10_0 : w3.cell? ⟨gb196, 0, none⟩ = some (.int .i64 a0_0) := xc BK196 0 rfl; have hcz10_1 : w3.cell? ⟨gb196, 1, none⟩ = some (.int .i64 a0_1) := xc BK196 1 rfl; have hcz10_2 : w3.cell? ⟨gb196, 2, none⟩ = some (.slice A0_2 l0_2.length c0_2) := xc BK196 2 rfl; have hfz10_0 := blk_frozen BK196.out 0; have hfz10_1 := blk_frozen BK196.out 1; have hfz10_2 := blk_frozen BK196.out 2
   go_wp2_with (first | ((with_reducible refine gate_callee (f := 137) rfl ?_); refine goesL_ (some 6) rfl rfl Try.func137 (by kernel_rfl) rfl #[.int .i64 a0_0] rfl (by (try simp only [List.map_toArray, List.map_cons, List.map_nil]); first | done | rfl | (simp only [List.length_drop, List.length_take]; rfl)) ?_; (with_reducible refine (spec_l1Whole.calls a0_0 false _ A4.out).mono ?_); rintro e w' ⟨rfl, ⟨nd, rfl⟩⟩; refine ⟨_, rfl, ?_⟩))
   go_meet
   case rel => exact ⟨_, (true), (by first | rfl | (simp; done) | (simp [*]; done)), H', ⟨by first | omega | exact Nat.le_refl _⟩, ⟨xblk⟩, ⟨xbg⟩⟩
 case rest =>
  clear HC2
  try clear c1
  try clear p2
  try clear c5
  try clear c7
  try clear c9
  try clear hcz10_0
  try clear hcz10_1
  try clear hcz10_2
  try clear hcz8_0
  try clear hcz8_1
  try clear hcz8_2
  try clear hcz9_0
  try clear hcz9_1
  try clear hcz9_2
  try clear hfz10_0
  try clear hfz10_1
  try clear hfz10_2
  try clear hfz8_0
  try clear hfz8_1
  try clear hfz8_2
  try clear hfz9_0
  try clear hfz9_1
  try clear hfz9_2
  obtain ⟨kq, x19_1, rfl, HA, HJ1, BK196, HB⟩ := hcut
  cases kq with
  | zero => exact absurd HA.out (by simp [spec_HardOk.j0])
  | succ kj1 =>
   have H := HA.out; clear HA
   simp only [spec_HardOk.j0] at H
   by_cases c11 : x19_1 = true
   ·subst c11
    have H1 : (some false) = some r := by rw [if_pos rfl] at H; exact H
    clear H; have H := H1; clear H1
    obtain rfl := Option.some.inj H
    go_wp2
    go_ret
    exact ⟨by first | rfl | (simp [errW_none, errW_some] <;> rfl) | (simp [*, errW_none, errW_some] <;> rfl), xbg⟩
   ·replace c11 := Bool.eq_false_iff.mpr c11
    subst c11
    have H1 : (spec_HardOk.l0 kj1 0 a0_0 a0_1 l0_2) = some r := by rw [if_neg (show ¬ (false = true) by decide)] at H; exact H
    clear H; have H := H1; clear H1
    have H' := aM H
    clear H
    go_wp2
    go_loopg [3] kj1 (fun kq v3 w' => ∃ (x3_2 : Int), v3 = .int .i64 x3_2 ∧ Aside0 (spec_HardOk.l0 kq x3_2 a0_0 a0_1 l0_2 = some r) ∧ Aside0 (kq ≤ kj1) ∧ Aside0 (w'.heap[gb196]? = some (.cells #[.int .i64 a0_0, .int .i64 a0_1, (.slice A0_2 l0_2.length c0_2)] 28 (0, 0))) ∧ Aside0 (Below w.heap.size w w'))
    case atStart => exact ⟨(0), (by first | rfl | (simp; done) | (simp [*]; done)), H', ⟨Nat.le_refl _⟩, ⟨xblk⟩, ⟨xbg⟩⟩
    case round =>
     clear H'
     try clear c1
     try clear p2
     try clear c5
     try clear c7
     try clear c9
     try clear c11
     try clear hcz10_0
     try clear hcz10_1
     try clear hcz10_2
     try clear hcz8_0
     try clear hcz8_1
     try clear hcz8_2
     try clear hcz9_0
     try clear hcz9_1
     try clear hcz9_2
     try clear hfz10_0
     try clear hfz10_1
     try clear hfz10_2
     try clear hfz8_0
     try clear hfz8_1
     try clear hfz8_2
     try clear hfz9_0
     try clear hfz9_1
     try clear hfz9_2
     try clear p2
     obtain ⟨x3_2, rfl, HA, HK2, BK196, HB⟩ := hrel
     cases gk with
     | zero => exact absurd HA.out (by simp [spec_HardOk.l0])
     | succ k2 =>
      have H := HA.out; clear HA
      simp only [spec_HardOk.l0] at H
      by_cases c12 : x3_2 < (l0_2.length : Int)
      ·rw [if_pos c12] at H
       have c12b0 : decide (x3_2 < (l0_2.length : Int)) = true := decide_eq_true c12; clear c12
       by_cases c13 : 0 ≤ x3_2
       ·rw [if_pos c13] at H
        have c13b0 : decide (0 ≤ x3_2) = true := decide_eq_true c13; clear c13; replace H := Option.bind_eq_some_iff.mp H
        obtain ⟨t200, A140, H⟩ := H
        replace H : (if t200 = true then (if ((rd_T36 l0_2 x3_2).f0) > a0_0 then (some false) else (if x3_2 > 0 then (if 0 ≤ (wrap64 (x3_2 - 1)) then (if (wrap64 (x3_2 - 1)) < (l0_2.length : Int) then (if ((rd_T36 l0_2 x3_2).f0) < ((rd_T36 l0_2 (wrap64 (x3_2 - 1))).f0) then (some false) else (spec_HardOk.l0 k2 (wrap64 (x3_2 + 1)) a0_0 a0_1 l0_2)) else (none)) else (none)) else (spec_HardOk.l0 k2 (wrap64 (x3_2 + 1)) a0_0 a0_1 l0_2))) else (some false)) = some r := H; have A14 := aM A140; clear A140
        by_cases c15 : t200 = true
        ·subst c15
         have H1 : (if ((rd_T36 l0_2 x3_2).f0) > a0_0 then (some false) else (if x3_2 > 0 then (if 0 ≤ (wrap64 (x3_2 - 1)) then (if (wrap64 (x3_2 - 1)) < (l0_2.length : Int) then (if ((rd_T36 l0_2 x3_2).f0) < ((rd_T36 l0_2 (wrap64 (x3_2 - 1))).f0) then (some false) else (spec_HardOk.l0 k2 (wrap64 (x3_2 + 1)) a0_0 a0_1 l0_2)) else (none)) else (none)) else (spec_HardOk.l0 k2 (wrap64 (x3_2 + 1)) a0_0 a0_1 l0_2))) = some r := by rw [if_pos rfl] at H; exact H
         clear H; have H := H1; clear H1
         by_cases c16 : ((rd_T36 l0_2 x3_2).f0) > a0_0
         ·rw [if_pos c16] at H
          have c16b0 : decide (a0_0 < ((rd_T36 l0_2 x3_2).f0)) = true := decide_eq_true c16; clear c16
          obtain rfl := Option.some.inj H
          have hcz17_0 : wr.cell? ⟨gb196, 0, none⟩ = some (.int .i64 a0_0) := xc BK196 0 rfl; have hcz17_1 : wr.cell? ⟨gb196, 1, none⟩ = some (.int .i64 a0_1) := xc BK196 1 rfl; have hcz17_2 : wr.cell? ⟨gb196, 2, none⟩ = some (.slice A0_2 l0_2.length c0_2) := xc BK196 2 rfl; have hfz17_0 := blk_frozen BK196.out 0; have hfz17_1 := blk_frozen BK196.out 1; have hfz17_2 := blk_frozen BK196.out 2
          try go_wp2
          replace BK196 := aM (blk_drew BK196.out); replace HB := aM (below_drew1 HB.out); have p199 : 0 ≤ (x3_2 : Int) := of_decide_eq_true (by first | (with_reducible assumption) | assumption); have q199 : x3_2 < (l0_2.length : Int) := of_decide_eq_true (by first | (with_reducible assumption) | assumption)
          obtain ⟨ad199, e199, hx199_0, hx199_1, hx199_2, hx199_3, hx199_4, hx199_5⟩ := at_T36 HR0_2.out x3_2 p199 q199
          have hw199_5 := hx199_5; have hw199_4 := hx199_4; have hw199_3 := hx199_3; have hw199_2 := hx199_2; have hw199_1 := hx199_1; have hw199_0 := hx199_0
          cases e199
          replace hx199_0 := xce HB hx199_0; replace hx199_1 := xce HB hx199_1; replace hx199_2 := xce HB hx199_2; replace hx199_3 := xce HB hx199_3; replace hx199_4 := xce HB hx199_4; replace hx199_5 := xce HB hx199_5; replace p199 := eq_true p199; replace q199 := eq_true q199; have p201 : 0 ≤ (x3_2 : Int) := of_decide_eq_true (by first | (with_reducible assumption) | assumption); have q201 : x3_2 < (l0_2.length : Int) := of_decide_eq_true (by first | (with_reducible assumption) | assumption)
          obtain ⟨ad201, e201, hx201_0, hx201_1, hx201_2, hx201_3, hx201_4, hx201_5⟩ := at_T36 HR0_2.out x3_2 p201 q201
          have hw201_5 := hx201_5; have hw201_4 := hx201_4; have hw201_3 := hx201_3; have hw201_2 := hx201_2; have hw201_1 := hx201_1; have hw201_0 := hx201_0
          obtain rfl : ad199 = ad201 := (by injection e201)
          replace hx201_0 := xce HB hx201_0; replace hx201_1 := xce HB hx201_1; replace hx201_2 := xce HB hx201_2; replace hx201_3 := xce HB hx201_3; replace hx201_4 := xce HB hx201_4; replace hx201_5 := xce HB hx201_5; replace p201 := eq_true p201; replace q201 := eq_true q201
          refine start_ (n := 38) (S := fun w' => w'.cell? ⟨gb196, 0, none⟩ = some (.int .i64 a0_0) ∧ w'.cell? ⟨gb196, 1, none⟩ = some (.int .i64 a0_1) ∧ w'.cell? ⟨gb196, 2, none⟩ = some (.slice (some ad199) l0_2.length c0_2) ∧ w'.cell? (ad199.add ((x3_2).toNat * 6)) = some (.int .i64 ((rd_T36 l0_2 x3_2).f0)) ∧ w'.cell? ⟨(ad199.add ((x3_2).toNat * 6)).block, (ad199.add ((x3_2).toNat * 6)).off + 1, none⟩ = some (.int .i64 ((rd_T36 l0_2 x3_2).f1.f0)) ∧ w'.cell? ⟨(ad199.add ((x3_2).toNat * 6)).block, (ad199.add ((x3_2).toNat * 6)).off + 2, none⟩ = some (.int .i64 ((rd_T36 l0_2 x3_2).f1.f1)) ∧ w'.cell? ⟨(ad199.add ((x3_2).toNat * 6)).block, (ad199.add ((x3_2).toNat * 6)).off + 3, none⟩ = some (.int .i64 ((rd_T36 l0_2 x3_2).f1.f2)) ∧ w'.cell? ⟨(ad199.add ((x3_2).toNat * 6)).block, (ad199.add ((x3_2).toNat * 6)).off + 4, none⟩ = some (.int .i64 ((rd_T36 l0_2 x3_2).f1.f3)) ∧ w'.cell? ⟨(ad199.add ((x3_2).toNat * 6)).block, (ad199.add ((x3_2).toNat * 6)).off + 5, none⟩ = some (.string ((rd_T36 l0_2 x3_2).f1.f4)) ∧ w'.cell? (ad199.add ((x3_2).toNat * 6)) = some (.int .i64 ((rd_T36 l0_2 x3_2).f0)) ∧ w'.cell? ⟨(ad199.add ((x3_2).toNat * 6)).block, (ad199.add ((x3_2).toNat * 6)).off + 1, none⟩ = some (.int .i64 ((rd_T36 l0_2 x3_2).f1.f0)) ∧ w'.cell? ⟨(ad199.add ((x3_2).toNat * 6)).block, (ad199.add ((x3_2).toNat * 6)).off + 2, none⟩ = some (.int .i64 ((rd_T36 l0_2 x3_2).f1.f1)) ∧ w'.cell? ⟨(ad199.add ((x3_2).toNat * 6)).block, (ad199.add ((x3_2).toNat * 6)).off + 3, none⟩ = some (.int .i64 ((rd_T36 l0_2 x3_2).f1.f2)) ∧ w'.cell? ⟨(ad199.add ((x3_2).toNat * 6)).block, (ad199.add ((x3_2).toNat * 6)).off + 4, none⟩ = some (.int .i64 ((rd_T36 l0_2 x3_2).f1.f3)) ∧ w'.cell? ⟨(ad199.add ((x3_2).toNat * 6)).block, (ad199.add ((x3_2).toNat * 6)).off + 5, none⟩ = some (.string ((rd_T36 l0_2 x3_2).f1.f4))) (ds := []) #[false, false, false, false, false, false, false, false, false, false, false, false, false, false, false, false, false, false, false, false, false, false, false, false, false, false, false, false, false, false, false, false, false, false, false, false, false, false] (by kernel_rfl) rfl rfl ⟨xc BK196 0 rfl, xc BK196 1 rfl, xc BK196 2 rfl, (xce HB hw199_0), (xce HB hw199_1), (xce HB hw199_2), (xce HB hw199_3), (xce HB hw199_4), (xce HB hw199_5), (xce HB hw201_0), (xce HB hw201_1), (xce HB hw201_2), (xce HB hw201_3), (xce HB hw201_4), (xce HB hw201_5)⟩ (fun hHeld => ?_); refine with_tabW spec_HardOk.tab6 spec_HardOk.bits6 (fun HT_ HW_ => ?_)
          generalize wr.drew = w18 at BK196 HB hx199_0 hx199_1 hx199_2 hx199_3 hx199_4 hx199_5 hx201_0 hx201_1 hx201_2 hx201_3 hx201_4 hx201_5 hHeld ⊢
          refine pv_ 0 27 (h := ?_)
          refine pv_ 2 29 (h := ?_)
          refine tk_ 1 28 (h := ?_)
          refine pv_ 3 30 (h := ?_)
          refine tk_ 4 31 (h := ?_)
          refine on_ 5 32 (h := fun K hK => ?_)
          refine goesY Try.func138 #[.agg #[.int .i64 ((rd_T36 l0_2 x3_2).f0), .int .i64 ((rd_T36 l0_2 x3_2).f1.f0), .int .i64 ((rd_T36 l0_2 x3_2).f1.f1), .int .i64 ((rd_T36 l0_2 x3_2).f1.f2), .int .i64 ((rd_T36 l0_2 x3_2).f1.f3), .string ((rd_T36 l0_2 x3_2).f1.f4)]] ?_
          with_reducible refine (spec_l6Entry.calls k2 ((rd_T36 l0_2 x3_2).f0) ((rd_T36 l0_2 x3_2).f1.f0) ((rd_T36 l0_2 x3_2).f1.f1) ((rd_T36 l0_2 x3_2).f1.f2) ((rd_T36 l0_2 x3_2).f1.f3) ((rd_T36 l0_2 x3_2).f1.f4) true _ A14.out).mono ?_
          rintro e w19 ⟨rfl, hb⟩
          refine ⟨_, rfl, ?_⟩
          replace BK196 := xbb BK196 hb; replace HB := xbs hb
          (try clear hb); (try clear hb2); (try clear hk); (try clear hi)
          refine hK.out _ _ ⟨xc BK196 0 rfl, xc BK196 1 rfl, xc BK196 2 rfl, (xce HB hw199_0), (xce HB hw199_1), (xce HB hw199_2), (xce HB hw199_3), (xce HB hw199_4), (xce HB hw199_5), (xce HB hw201_0), (xce HB hw201_1), (xce HB hw201_2), (xce HB hw201_3), (xce HB hw201_4), (xce HB hw201_5)⟩ (fun hHeld => ?_)
          clear hK K
          refine norm_ (a' := ?_) ?_ ?_
          rotate_left
          ·show Act.put _ (some 32) _ = _
           simp only [Act.put, List.setIfInBounds_toArray, List.set_cons_zero, List.set_cons_succ, i64_w, i32_w]
           rfl
          refine pv_ 6 33 (h := ?_)
          refine pv_ 7 34 (h := ?_)
          refine pv_ 8 35 (h := ?_)
          refine pv_ 10 37 (h := ?_)
          refine pv_ 14 41 (h := ?_)
          refine tk_ 9 36 (h := ?_)
          refine pv_ 11 38 (h := ?_)
          refine pv_ 12 39 (h := ?_)
          refine tk_ 13 40 (h := ?_)
          refine tk_ 15 42 (h := ?_)
          refine pv_ 16 43 (h := ?_)
          refine pv_ 17 44 (h := ?_)
          refine pv_ 18 45 (h := ?_)
          refine pu_ 19 46 (h := ?_)
          refine pu_ 20 47 (h := ?_)
          refine pu_ 21 48 (h := ?_)
          refine pu_ 22 49 (h := ?_)
          refine pu_ 23 50 (h := ?_)
          refine pu_ 24 51 (h := ?_)
          refine pu_ 25 52 (h := ?_)
          refine pu_ 26 53 (h := ?_)
          refine pu_ 27 54 (h := ?_)
          refine pu_ 28 55 (h := ?_)
          refine pu_ 29 56 (h := ?_)
          refine pu_ 30 57 (h := ?_)
          refine pu_ 31 58 (h := ?_)
          refine pu_ 32 59 (h := ?_)
          refine pu_ 33 60 (h := ?_)
          refine pu_ 34 61 (h := ?_)
          refine pu_ 35 62 (h := ?_)
          refine pu_ 36 63 (h := ?_)
          refine pv_ 37 64 (h := ?_)
          refine done_ (done_of HT_.out (by kernel_rfl)) ?_
          try go_wp2
          go_ret
          exact ⟨by first | rfl | (simp [errW_none, errW_some] <;> rfl) | (simp [*, errW_none, errW_some] <;> rfl), xbg⟩
         ·rw [if_neg c16] at H
          have c16b0 : decide (a0_0 < ((rd_T36 l0_2 x3_2).f0)) = false := decide_eq_false c16; clear c16
          by_cases c20 : x3_2 > 0
          ·rw [if_pos c20] at H
           have c20b0 : decide (0 < x3_2) = true := decide_eq_true c20; clear c20
           obtain ⟨ji21, hji21⟩ : ∃ j_ : Int, (wrap64 (x3_2 - 1)) = j_ := ⟨_, rfl⟩
           replace H : (if 0 ≤ (ji21) then (if (ji21) < (l0_2.length : Int) then (if ((rd_T36 l0_2 x3_2).f0) < ((rd_T36 l0_2 (ji21)).f0) then (some false) else (spec_HardOk.l0 k2 (wrap64 (x3_2 + 1)) a0_0 a0_1 l0_2)) else (none)) else (none)) = some r := by first | (rw [hji21] at H; exact H) | (simp only [hji21] at H ⊢; exact H)
           (try rw [hji21] at A14)
           have hji21w : (IntKind.i64.wrap (x3_2 - 1)) = ji21 := (i64_w _).trans hji21
           by_cases c22 : 0 ≤ (ji21)
           ·rw [if_pos c22] at H
            have c22b0 : decide (0 ≤ (ji21)) = true := decide_eq_true c22; clear c22
            by_cases c23 : (ji21) < (l0_2.length : Int)
            ·rw [if_pos c23] at H
             have c23b0 : decide ((ji21) < (l0_2.length : Int)) = true := decide_eq_true c23; clear c23
             by_cases c24 : ((rd_T36 l0_2 x3_2).f0) < ((rd_T36 l0_2 (ji21)).f0)
             ·rw [if_pos c24] at H
              have c24b0 : decide (((rd_T36 l0_2 x3_2).f0) < ((rd_T36 l0_2 (ji21)).f0)) = true := decide_eq_true c24; clear c24
              obtain rfl := Option.some.inj H
              have hcz25_0 : wr.cell? ⟨gb196, 0, none⟩ = some (.int .i64 a0_0) := xc BK196 0 rfl; have hcz25_1 : wr.cell? ⟨gb196, 1, none⟩ = some (.int .i64 a0_1) := xc BK196 1 rfl; have hcz25_2 : wr.cell? ⟨gb196, 2, none⟩ = some (.slice A0_2 l0_2.length c0_2) := xc BK196 2 rfl; have hfz25_0 := blk_frozen BK196.out 0; have hfz25_1 := blk_frozen BK196.out 1; have hfz25_2 := blk_frozen BK196.out 2
              try go_wp2
              replace BK196 := aM (blk_drew BK196.out); replace HB := aM (below_drew1 HB.out); have p199 : 0 ≤ (x3_2 : Int) := of_decide_eq_true (by first | (with_reducible assumption) | assumption); have q199 : x3_2 < (l0_2.length : Int) := of_decide_eq_true (by first | (with_reducible assumption) | assumption)
              obtain ⟨ad199, e199, hx199_0, hx199_1, hx199_2, hx199_3, hx199_4, hx199_5⟩ := at_T36 HR0_2.out x3_2 p199 q199
              have hw199_5 := hx199_5; have hw199_4 := hx199_4; have hw199_3 := hx199_3; have hw199_2 := hx199_2; have hw199_1 := hx199_1; have hw199_0 := hx199_0
              cases e199
              replace hx199_0 := xce HB hx199_0; replace hx199_1 := xce HB hx199_1; replace hx199_2 := xce HB hx199_2; replace hx199_3 := xce HB hx199_3; replace hx199_4 := xce HB hx199_4; replace hx199_5 := xce HB hx199_5; replace p199 := eq_true p199; replace q199 := eq_true q199; have p201 : 0 ≤ (x3_2 : Int) := of_decide_eq_true (by first | (with_reducible assumption) | assumption); have q201 : x3_2 < (l0_2.length : Int) := of_decide_eq_true (by first | (with_reducible assumption) | assumption)
              obtain ⟨ad201, e201, hx201_0, hx201_1, hx201_2, hx201_3, hx201_4, hx201_5⟩ := at_T36 HR0_2.out x3_2 p201 q201
              have hw201_5 := hx201_5; have hw201_4 := hx201_4; have hw201_3 := hx201_3; have hw201_2 := hx201_2; have hw201_1 := hx201_1; have hw201_0 := hx201_0
              obtain rfl : ad199 = ad201 := (by injection e201)
              replace hx201_0 := xce HB hx201_0; replace hx201_1 := xce HB hx201_1; replace hx201_2 := xce HB hx201_2; replace hx201_3 := xce HB hx201_3; replace hx201_4 := xce HB hx201_4; replace hx201_5 := xce HB hx201_5; replace p201 := eq_true p201; replace q201 := eq_true q201; have p202 : 0 ≤ (x3_2 : Int) := of_decide_eq_true (by first | (with_reducible assumption) | assumption); have q202 : x3_2 < (l0_2.length : Int) := of_decide_eq_true (by first | (with_reducible assumption) | assumption)
              obtain ⟨ad202, e202, hx202_0, hx202_1, hx202_2, hx202_3, hx202_4, hx202_5⟩ := at_T36 HR0_2.out x3_2 p202 q202
              have hw202_5 := hx202_5; have hw202_4 := hx202_4; have hw202_3 := hx202_3; have hw202_2 := hx202_2; have hw202_1 := hx202_1; have hw202_0 := hx202_0
              obtain rfl : ad199 = ad202 := (by injection e202)
              replace hx202_0 := xce HB hx202_0; replace hx202_1 := xce HB hx202_1; replace hx202_2 := xce HB hx202_2; replace hx202_3 := xce HB hx202_3; replace hx202_4 := xce HB hx202_4; replace hx202_5 := xce HB hx202_5; replace p202 := eq_true p202; replace q202 := eq_true q202; have p203 : 0 ≤ ((ji21) : Int) := of_decide_eq_true (by first | (with_reducible assumption) | assumption); have q203 : (ji21) < (l0_2.length : Int) := of_decide_eq_true (by first | (with_reducible assumption) | assumption)
              obtain ⟨ad203, e203, hx203_0, hx203_1, hx203_2, hx203_3, hx203_4, hx203_5⟩ := at_T36 HR0_2.out (ji21) p203 q203
              have hw203_5 := hx203_5; have hw203_4 := hx203_4; have hw203_3 := hx203_3; have hw203_2 := hx203_2; have hw203_1 := hx203_1; have hw203_0 := hx203_0
              obtain rfl : ad199 = ad203 := (by injection e203)
              replace hx203_0 := xce HB hx203_0; replace hx203_1 := xce HB hx203_1; replace hx203_2 := xce HB hx203_2; replace hx203_3 := xce HB hx203_3; replace hx203_4 := xce HB hx203_4; replace hx203_5 := xce HB hx203_5; replace p203 := eq_true p203; replace q203 := eq_true q203
              refine start_ (n := 38) (S := fun w' => w'.cell? ⟨gb196, 0, none⟩ = some (.int .i64 a0_0) ∧ w'.cell? ⟨gb196, 1, none⟩ = some (.int .i64 a0_1) ∧ w'.cell? ⟨gb196, 2, none⟩ = some (.slice (some ad199) l0_2.length c0_2) ∧ w'.cell? (ad199.add ((x3_2).toNat * 6)) = some (.int .i64 ((rd_T36 l0_2 x3_2).f0)) ∧ w'.cell? ⟨(ad199.add ((x3_2).toNat * 6)).block, (ad199.add ((x3_2).toNat * 6)).off + 1, none⟩ = some (.int .i64 ((rd_T36 l0_2 x3_2).f1.f0)) ∧ w'.cell? ⟨(ad199.add ((x3_2).toNat * 6)).block, (ad199.add ((x3_2).toNat * 6)).off + 2, none⟩ = some (.int .i64 ((rd_T36 l0_2 x3_2).f1.f1)) ∧ w'.cell? ⟨(ad199.add ((x3_2).toNat * 6)).block, (ad199.add ((x3_2).toNat * 6)).off + 3, none⟩ = some (.int .i64 ((rd_T36 l0_2 x3_2).f1.f2)) ∧ w'.cell? ⟨(ad199.add ((x3_2).toNat * 6)).block, (ad199.add ((x3_2).toNat * 6)).off + 4, none⟩ = some (.int .i64 ((rd_T36 l0_2 x3_2).f1.f3)) ∧ w'.cell? ⟨(ad199.add ((x3_2).toNat * 6)).block, (ad199.add ((x3_2).toNat * 6)).off + 5, none⟩ = some (.string ((rd_T36 l0_2 x3_2).f1.f4)) ∧ w'.cell? (ad199.add ((x3_2).toNat * 6)) = some (.int .i64 ((rd_T36 l0_2 x3_2).f0)) ∧ w'.cell? ⟨(ad199.add ((x3_2).toNat * 6)).block, (ad199.add ((x3_2).toNat * 6)).off + 1, none⟩ = some (.int .i64 ((rd_T36 l0_2 x3_2).f1.f0)) ∧ w'.cell? ⟨(ad199.add ((x3_2).toNat * 6)).block, (ad199.add ((x3_2).toNat * 6)).off + 2, none⟩ = some (.int .i64 ((rd_T36 l0_2 x3_2).f1.f1)) ∧ w'.cell? ⟨(ad199.add ((x3_2).toNat * 6)).block, (ad199.add ((x3_2).toNat * 6)).off + 3, none⟩ = some (.int .i64 ((rd_T36 l0_2 x3_2).f1.f2)) ∧ w'.cell? ⟨(ad199.add ((x3_2).toNat * 6)).block, (ad199.add ((x3_2).toNat * 6)).off + 4, none⟩ = some (.int .i64 ((rd_T36 l0_2 x3_2).f1.f3)) ∧ w'.cell? ⟨(ad199.add ((x3_2).toNat * 6)).block, (ad199.add ((x3_2).toNat * 6)).off + 5, none⟩ = some (.string ((rd_T36 l0_2 x3_2).f1.f4)) ∧ w'.cell? (ad199.add ((x3_2).toNat * 6)) = some (.int .i64 ((rd_T36 l0_2 x3_2).f0)) ∧ w'.cell? ⟨(ad199.add ((x3_2).toNat * 6)).block, (ad199.add ((x3_2).toNat * 6)).off + 1, none⟩ = some (.int .i64 ((rd_T36 l0_2 x3_2).f1.f0)) ∧ w'.cell? ⟨(ad199.add ((x3_2).toNat * 6)).block, (ad199.add ((x3_2).toNat * 6)).off + 2, none⟩ = some (.int .i64 ((rd_T36 l0_2 x3_2).f1.f1)) ∧ w'.cell? ⟨(ad199.add ((x3_2).toNat * 6)).block, (ad199.add ((x3_2).toNat * 6)).off + 3, none⟩ = some (.int .i64 ((rd_T36 l0_2 x3_2).f1.f2)) ∧ w'.cell? ⟨(ad199.add ((x3_2).toNat * 6)).block, (ad199.add ((x3_2).toNat * 6)).off + 4, none⟩ = some (.int .i64 ((rd_T36 l0_2 x3_2).f1.f3)) ∧ w'.cell? ⟨(ad199.add ((x3_2).toNat * 6)).block, (ad199.add ((x3_2).toNat * 6)).off + 5, none⟩ = some (.string ((rd_T36 l0_2 x3_2).f1.f4)) ∧ w'.cell? (ad199.add (((ji21)).toNat * 6)) = some (.int .i64 ((rd_T36 l0_2 (ji21)).f0)) ∧ w'.cell? ⟨(ad199.add (((ji21)).toNat * 6)).block, (ad199.add (((ji21)).toNat * 6)).off + 1, none⟩ = some (.int .i64 ((rd_T36 l0_2 (ji21)).f1.f0)) ∧ w'.cell? ⟨(ad199.add (((ji21)).toNat * 6)).block, (ad199.add (((ji21)).toNat * 6)).off + 2, none⟩ = some (.int .i64 ((rd_T36 l0_2 (ji21)).f1.f1)) ∧ w'.cell? ⟨(ad199.add (((ji21)).toNat * 6)).block, (ad199.add (((ji21)).toNat * 6)).off + 3, none⟩ = some (.int .i64 ((rd_T36 l0_2 (ji21)).f1.f2)) ∧ w'.cell? ⟨(ad199.add (((ji21)).toNat * 6)).block, (ad199.add (((ji21)).toNat * 6)).off + 4, none⟩ = some (.int .i64 ((rd_T36 l0_2 (ji21)).f1.f3)) ∧ w'.cell? ⟨(ad199.add (((ji21)).toNat * 6)).block, (ad199.add (((ji21)).toNat * 6)).off + 5, none⟩ = some (.string ((rd_T36 l0_2 (ji21)).f1.f4))) (ds := []) #[false, false, false, false, false, false, false, false, false, false, false, false, false, false, false, false, false, false, false, false, false, false, false, false, false, false, false, false, false, false, false, false, false, false, false, false, false, false] (by kernel_rfl) rfl rfl ⟨xc BK196 0 rfl, xc BK196 1 rfl, xc BK196 2 rfl, (xce HB hw199_0), (xce HB hw199_1), (xce HB hw199_2), (xce HB hw199_3), (xce HB hw199_4), (xce HB hw199_5), (xce HB hw201_0), (xce HB hw201_1), (xce HB hw201_2), (xce HB hw201_3), (xce HB hw201_4), (xce HB hw201_5), (xce HB hw202_0), (xce HB hw202_1), (xce HB hw202_2), (xce HB hw202_3), (xce HB hw202_4), (xce HB hw202_5), (xce HB hw203_0), (xce HB hw203_1), (xce HB hw203_2), (xce HB hw203_3), (xce HB hw203_4), (xce HB hw203_5)⟩ (fun hHeld => ?_); refine with_tabW spec_HardOk.tab6 spec_HardOk.bits6 (fun HT_ HW_ => ?_)
              generalize wr.drew = w26 at BK196 HB hx199_0 hx199_1 hx199_2 hx199_3 hx199_4 hx199_5 hx201_0 hx201_1 hx201_2 hx201_3 hx201_4 hx201_5 hx202_0 hx202_1 hx202_2 hx202_3 hx202_4 hx202_5 hx203_0 hx203_1 hx203_2 hx203_3 hx203_4 hx203_5 hHeld ⊢
              refine pv_ 0 27 (h := ?_)
              refine pv_ 2 29 (h := ?_)
              refine tk_ 1 28 (h := ?_)
              refine pv_ 3 30 (h := ?_)
              refine tk_ 4 31 (h := ?_)
              refine on_ 5 32 (h := fun K hK => ?_)
              refine goesY Try.func138 #[.agg #[.int .i64 ((rd_T36 l0_2 x3_2).f0), .int .i64 ((rd_T36 l0_2 x3_2).f1.f0), .int .i64 ((rd_T36 l0_2 x3_2).f1.f1), .int .i64 ((rd_T36 l0_2 x3_2).f1.f2), .int .i64 ((rd_T36 l0_2 x3_2).f1.f3), .string ((rd_T36 l0_2 x3_2).f1.f4)]] ?_
              with_reducible refine (spec_l6Entry.calls k2 ((rd_T36 l0_2 x3_2).f0) ((rd_T36 l0_2 x3_2).f1.f0) ((rd_T36 l0_2 x3_2).f1.f1) ((rd_T36 l0_2 x3_2).f1.f2) ((rd_T36 l0_2 x3_2).f1.f3) ((rd_T36 l0_2 x3_2).f1.f4) true _ A14.out).mono ?_
              rintro e w27 ⟨rfl, hb⟩
              refine ⟨_, rfl, ?_⟩
              replace BK196 := xbb BK196 hb; replace HB := xbs hb
              (try clear hb); (try clear hb2); (try clear hk); (try clear hi)
              refine hK.out _ _ ⟨xc BK196 0 rfl, xc BK196 1 rfl, xc BK196 2 rfl, (xce HB hw199_0), (xce HB hw199_1), (xce HB hw199_2), (xce HB hw199_3), (xce HB hw199_4), (xce HB hw199_5), (xce HB hw201_0), (xce HB hw201_1), (xce HB hw201_2), (xce HB hw201_3), (xce HB hw201_4), (xce HB hw201_5), (xce HB hw202_0), (xce HB hw202_1), (xce HB hw202_2), (xce HB hw202_3), (xce HB hw202_4), (xce HB hw202_5), (xce HB hw203_0), (xce HB hw203_1), (xce HB hw203_2), (xce HB hw203_3), (xce HB hw203_4), (xce HB hw203_5)⟩ (fun hHeld => ?_)
              clear hK K
              refine norm_ (a' := ?_) ?_ ?_
              rotate_left
              ·show Act.put _ (some 32) _ = _
               simp only [Act.put, List.setIfInBounds_toArray, List.set_cons_zero, List.set_cons_succ, i64_w, i32_w]
               rfl
              refine pv_ 6 33 (h := ?_)
              refine pv_ 7 34 (h := ?_)
              refine pv_ 8 35 (h := ?_)
              refine pv_ 10 37 (h := ?_)
              refine pv_ 14 41 (h := ?_)
              refine tk_ 9 36 (h := ?_)
              refine pv_ 11 38 (h := ?_)
              refine pv_ 12 39 (h := ?_)
              refine tk_ 13 40 (h := ?_)
              refine tk_ 15 42 (h := ?_)
              refine pv_ 16 43 (h := ?_)
              refine pv_ 17 44 (h := ?_)
              refine pv_ 18 45 (h := ?_)
              refine pv_ 19 46 (h := ?_)
              refine pv_ 20 47 (h := ?_)
              refine pv_ 21 48 (h := ?_)
              refine pv_ 22 49 (h := ?_)
              refine pv_ 24 51 (h := ?_)
              refine pv_ 28 55 (h := ?_)
              refine pv_ 30 57 (h := ?_)
              refine pv_ 31 58 (h := ?_)
              refine tk_ 23 50 (h := ?_)
              refine pv_ 25 52 (h := ?_)
              refine pv_ 26 53 (h := ?_)
              refine tk_ 27 54 (h := ?_)
              refine tk_ 29 56 (h := ?_)
              refine pv_ 32 59 (h := ?_)
              refine pv_ 33 60 (h := ?_)
              refine tk_ 34 61 (h := ?_)
              refine pv_ 35 62 (h := ?_)
              refine pv_ 36 63 (h := ?_)
              refine pv_ 37 64 (h := ?_)
              refine done_ (done_of HT_.out (by kernel_rfl)) ?_
              try go_wp2
              go_ret
              exact ⟨by first | rfl | (simp [errW_none, errW_some] <;> rfl) | (simp only [← hji21]; first | rfl | (simp [errW_none, errW_some] <;> rfl)) | (simp [*, errW_none, errW_some] <;> rfl), xbg⟩
             ·rw [if_neg c24] at H
              have c24b0 : decide (((rd_T36 l0_2 x3_2).f0) < ((rd_T36 l0_2 (ji21)).f0)) = false := decide_eq_false c24; clear c24
              have H' := aM H
              clear H; have hcz28_0 : wr.cell? ⟨gb196, 0, none⟩ = some (.int .i64 a0_0) := xc BK196 0 rfl; have hcz28_1 : wr.cell? ⟨gb196, 1, none⟩ = some (.int .i64 a0_1) := xc BK196 1 rfl; have hcz28_2 : wr.cell? ⟨gb196, 2, none⟩ = some (.slice A0_2 l0_2.length c0_2) := xc BK196 2 rfl; have hfz28_0 := blk_frozen BK196.out 0; have hfz28_1 := blk_frozen BK196.out 1; have hfz28_2 := blk_frozen BK196.out 2
              try go_wp2
              replace BK196 := aM (blk_drew BK196.out); replace HB := aM (below_drew1 HB.out); have p199 : 0 ≤ (x3_2 : Int) := of_decide_eq_true (by first | (with_reducible assumption) | assumption); have q199 : x3_2 < (l0_2.length : Int) := of_decide_eq_true (by first | (with_reducible assumption) | assumption)
              obtain ⟨ad199, e199, hx199_0, hx199_1, hx199_2, hx199_3, hx199_4, hx199_5⟩ := at_T36 HR0_2.out x3_2 p199 q199
              have hw199_5 := hx199_5; have hw199_4 := hx199_4; have hw199_3 := hx199_3; have hw199_2 := hx199_2; have hw199_1 := hx199_1; have hw199_0 := hx199_0
              cases e199
              replace hx199_0 := xce HB hx199_0; replace hx199_1 := xce HB hx199_1; replace hx199_2 := xce HB hx199_2; replace hx199_3 := xce HB hx199_3; replace hx199_4 := xce HB hx199_4; replace hx199_5 := xce HB hx199_5; replace p199 := eq_true p199; replace q199 := eq_true q199; have p201 : 0 ≤ (x3_2 : Int) := of_decide_eq_true (by first | (with_reducible assumption) | assumption); have q201 : x3_2 < (l0_2.length : Int) := of_decide_eq_true (by first | (with_reducible assumption) | assumption)
              obtain ⟨ad201, e201, hx201_0, hx201_1, hx201_2, hx201_3, hx201_4, hx201_5⟩ := at_T36 HR0_2.out x3_2 p201 q201
              have hw201_5 := hx201_5; have hw201_4 := hx201_4; have hw201_3 := hx201_3; have hw201_2 := hx201_2; have hw201_1 := hx201_1; have hw201_0 := hx201_0
              obtain rfl : ad199 = ad201 := (by injection e201)
              replace hx201_0 := xce HB hx201_0; replace hx201_1 := xce HB hx201_1; replace hx201_2 := xce HB hx201_2; replace hx201_3 := xce HB hx201_3; replace hx201_4 := xce HB hx201_4; replace hx201_5 := xce HB hx201_5; replace p201 := eq_true p201; replace q201 := eq_true q201; have p202 : 0 ≤ (x3_2 : Int) := of_decide_eq_true (by first | (with_reducible assumption) | assumption); have q202 : x3_2 < (l0_2.length : Int) := of_decide_eq_true (by first | (with_reducible assumption) | assumption)
              obtain ⟨ad202, e202, hx202_0, hx202_1, hx202_2, hx202_3, hx202_4, hx202_5⟩ := at_T36 HR0_2.out x3_2 p202 q202
              have hw202_5 := hx202_5; have hw202_4 := hx202_4; have hw202_3 := hx202_3; have hw202_2 := hx202_2; have hw202_1 := hx202_1; have hw202_0 := hx202_0
              obtain rfl : ad199 = ad202 := (by injection e202)
              replace hx202_0 := xce HB hx202_0; replace hx202_1 := xce HB hx202_1; replace hx202_2 := xce HB hx202_2; replace hx202_3 := xce HB hx202_3; replace hx202_4 := xce HB hx202_4; replace hx202_5 := xce HB hx202_5; replace p202 := eq_true p202; replace q202 := eq_true q202; have p203 : 0 ≤ ((ji21) : Int) := of_decide_eq_true (by first | (with_reducible assumption) | assumption); have q203 : (ji21) < (l0_2.length : Int) := of_decide_eq_true (by first | (with_reducible assumption) | assumption)
              obtain ⟨ad203, e203, hx203_0, hx203_1, hx203_2, hx203_3, hx203_4, hx203_5⟩ := at_T36 HR0_2.out (ji21) p203 q203
              have hw203_5 := hx203_5; have hw203_4 := hx203_4; have hw203_3 := hx203_3; have hw203_2 := hx203_2; have hw203_1 := hx203_1; have hw203_0 := hx203_0
              obtain rfl : ad199 = ad203 := (by injection e203)
              replace hx203_0 := xce HB hx203_0; replace hx203_1 := xce HB hx203_1; replace hx203_2 := xce HB hx203_2; replace hx203_3 := xce HB hx203_3; replace hx203_4 := xce HB hx203_4; replace hx203_5 := xce HB hx203_5; replace p203 := eq_true p203; replace q203 := eq_true q203
              refine start_ (n := 38) (S := fun w' => w'.cell? ⟨gb196, 0, none⟩ = some (.int .i64 a0_0) ∧ w'.cell? ⟨gb196, 1, none⟩ = some (.int .i64 a0_1) ∧ w'.cell? ⟨gb196, 2, none⟩ = some (.slice (some ad199) l0_2.length c0_2) ∧ w'.cell? (ad199.add ((x3_2).toNat * 6)) = some (.int .i64 ((rd_T36 l0_2 x3_2).f0)) ∧ w'.cell? ⟨(ad199.add ((x3_2).toNat * 6)).block, (ad199.add ((x3_2).toNat * 6)).off + 1, none⟩ = some (.int .i64 ((rd_T36 l0_2 x3_2).f1.f0)) ∧ w'.cell? ⟨(ad199.add ((x3_2).toNat * 6)).block, (ad199.add ((x3_2).toNat * 6)).off + 2, none⟩ = some (.int .i64 ((rd_T36 l0_2 x3_2).f1.f1)) ∧ w'.cell? ⟨(ad199.add ((x3_2).toNat * 6)).block, (ad199.add ((x3_2).toNat * 6)).off + 3, none⟩ = some (.int .i64 ((rd_T36 l0_2 x3_2).f1.f2)) ∧ w'.cell? ⟨(ad199.add ((x3_2).toNat * 6)).block, (ad199.add ((x3_2).toNat * 6)).off + 4, none⟩ = some (.int .i64 ((rd_T36 l0_2 x3_2).f1.f3)) ∧ w'.cell? ⟨(ad199.add ((x3_2).toNat * 6)).block, (ad199.add ((x3_2).toNat * 6)).off + 5, none⟩ = some (.string ((rd_T36 l0_2 x3_2).f1.f4)) ∧ w'.cell? (ad199.add ((x3_2).toNat * 6)) = some (.int .i64 ((rd_T36 l0_2 x3_2).f0)) ∧ w'.cell? ⟨(ad199.add ((x3_2).toNat * 6)).block, (ad199.add ((x3_2).toNat * 6)).off + 1, none⟩ = some (.int .i64 ((rd_T36 l0_2 x3_2).f1.f0)) ∧ w'.cell? ⟨(ad199.add ((x3_2).toNat * 6)).block, (ad199.add ((x3_2).toNat * 6)).off + 2, none⟩ = some (.int .i64 ((rd_T36 l0_2 x3_2).f1.f1)) ∧ w'.cell? ⟨(ad199.add ((x3_2).toNat * 6)).block, (ad199.add ((x3_2).toNat * 6)).off + 3, none⟩ = some (.int .i64 ((rd_T36 l0_2 x3_2).f1.f2)) ∧ w'.cell? ⟨(ad199.add ((x3_2).toNat * 6)).block, (ad199.add ((x3_2).toNat * 6)).off + 4, none⟩ = some (.int .i64 ((rd_T36 l0_2 x3_2).f1.f3)) ∧ w'.cell? ⟨(ad199.add ((x3_2).toNat * 6)).block, (ad199.add ((x3_2).toNat * 6)).off + 5, none⟩ = some (.string ((rd_T36 l0_2 x3_2).f1.f4)) ∧ w'.cell? (ad199.add ((x3_2).toNat * 6)) = some (.int .i64 ((rd_T36 l0_2 x3_2).f0)) ∧ w'.cell? ⟨(ad199.add ((x3_2).toNat * 6)).block, (ad199.add ((x3_2).toNat * 6)).off + 1, none⟩ = some (.int .i64 ((rd_T36 l0_2 x3_2).f1.f0)) ∧ w'.cell? ⟨(ad199.add ((x3_2).toNat * 6)).block, (ad199.add ((x3_2).toNat * 6)).off + 2, none⟩ = some (.int .i64 ((rd_T36 l0_2 x3_2).f1.f1)) ∧ w'.cell? ⟨(ad199.add ((x3_2).toNat * 6)).block, (ad199.add ((x3_2).toNat * 6)).off + 3, none⟩ = some (.int .i64 ((rd_T36 l0_2 x3_2).f1.f2)) ∧ w'.cell? ⟨(ad199.add ((x3_2).toNat * 6)).block, (ad199.add ((x3_2).toNat * 6)).off + 4, none⟩ = some (.int .i64 ((rd_T36 l0_2 x3_2).f1.f3)) ∧ w'.cell? ⟨(ad199.add ((x3_2).toNat * 6)).block, (ad199.add ((x3_2).toNat * 6)).off + 5, none⟩ = some (.string ((rd_T36 l0_2 x3_2).f1.f4)) ∧ w'.cell? (ad199.add (((ji21)).toNat * 6)) = some (.int .i64 ((rd_T36 l0_2 (ji21)).f0)) ∧ w'.cell? ⟨(ad199.add (((ji21)).toNat * 6)).block, (ad199.add (((ji21)).toNat * 6)).off + 1, none⟩ = some (.int .i64 ((rd_T36 l0_2 (ji21)).f1.f0)) ∧ w'.cell? ⟨(ad199.add (((ji21)).toNat * 6)).block, (ad199.add (((ji21)).toNat * 6)).off + 2, none⟩ = some (.int .i64 ((rd_T36 l0_2 (ji21)).f1.f1)) ∧ w'.cell? ⟨(ad199.add (((ji21)).toNat * 6)).block, (ad199.add (((ji21)).toNat * 6)).off + 3, none⟩ = some (.int .i64 ((rd_T36 l0_2 (ji21)).f1.f2)) ∧ w'.cell? ⟨(ad199.add (((ji21)).toNat * 6)).block, (ad199.add (((ji21)).toNat * 6)).off + 4, none⟩ = some (.int .i64 ((rd_T36 l0_2 (ji21)).f1.f3)) ∧ w'.cell? ⟨(ad199.add (((ji21)).toNat * 6)).block, (ad199.add (((ji21)).toNat * 6)).off + 5, none⟩ = some (.string ((rd_T36 l0_2 (ji21)).f1.f4))) (ds := []) #[false, false, false, false, false, false, false, false, false, false, false, false, false, false, false, false, false, false, false, false, false, false, false, false, false, false, false, false, false, false, false, false, false, false, false, false, false, false] (by kernel_rfl) rfl rfl ⟨xc BK196 0 rfl, xc BK196 1 rfl, xc BK196 2 rfl, (xce HB hw199_0), (xce HB hw199_1), (xce HB hw199_2), (xce HB hw199_3), (xce HB hw199_4), (xce HB hw199_5), (xce HB hw201_0), (xce HB hw201_1), (xce HB hw201_2), (xce HB hw201_3), (xce HB hw201_4), (xce HB hw201_5), (xce HB hw202_0), (xce HB hw202_1), (xce HB hw202_2), (xce HB hw202_3), (xce HB hw202_4), (xce HB hw202_5), (xce HB hw203_0), (xce HB hw203_1), (xce HB hw203_2), (xce HB hw203_3), (xce HB hw203_4), (xce HB hw203_5)⟩ (fun hHeld => ?_); refine with_tabW spec_HardOk.tab6 spec_HardOk.bits6 (fun HT_ HW_ => ?_)
              generalize wr.drew = w29 at BK196 HB hx199_0 hx199_1 hx199_2 hx199_3 hx199_4 hx199_5 hx201_0 hx201_1 hx201_2 hx201_3 hx201_4 hx201_5 hx202_0 hx202_1 hx202_2 hx202_3 hx202_4 hx202_5 hx203_0 hx203_1 hx203_2 hx203_3 hx203_4 hx203_5 hHeld ⊢
              refine pv_ 0 27 (h := ?_)
              refine pv_ 2 29 (h := ?_)
              refine tk_ 1 28 (h := ?_)
              refine pv_ 3 30 (h := ?_)
              refine tk_ 4 31 (h := ?_)
              refine on_ 5 32 (h := fun K hK => ?_)
              refine goesY Try.func138 #[.agg #[.int .i64 ((rd_T36 l0_2 x3_2).f0), .int .i64 ((rd_T36 l0_2 x3_2).f1.f0), .int .i64 ((rd_T36 l0_2 x3_2).f1.f1), .int .i64 ((rd_T36 l0_2 x3_2).f1.f2), .int .i64 ((rd_T36 l0_2 x3_2).f1.f3), .string ((rd_T36 l0_2 x3_2).f1.f4)]] ?_
              with_reducible refine (spec_l6Entry.calls k2 ((rd_T36 l0_2 x3_2).f0) ((rd_T36 l0_2 x3_2).f1.f0) ((rd_T36 l0_2 x3_2).f1.f1) ((rd_T36 l0_2 x3_2).f1.f2) ((rd_T36 l0_2 x3_2).f1.f3) ((rd_T36 l0_2 x3_2).f1.f4) true _ A14.out).mono ?_
              rintro e w30 ⟨rfl, hb⟩
              refine ⟨_, rfl, ?_⟩
              replace BK196 := xbb BK196 hb; replace HB := xbs hb
              (try clear hb); (try clear hb2); (try clear hk); (try clear hi)
              refine hK.out _ _ ⟨xc BK196 0 rfl, xc BK196 1 rfl, xc BK196 2 rfl, (xce HB hw199_0), (xce HB hw199_1), (xce HB hw199_2), (xce HB hw199_3), (xce HB hw199_4), (xce HB hw199_5), (xce HB hw201_0), (xce HB hw201_1), (xce HB hw201_2), (xce HB hw201_3), (xce HB hw201_4), (xce HB hw201_5), (xce HB hw202_0), (xce HB hw202_1), (xce HB hw202_2), (xce HB hw202_3), (xce HB hw202_4), (xce HB hw202_5), (xce HB hw203_0), (xce HB hw203_1), (xce HB hw203_2), (xce HB hw203_3), (xce HB hw203_4), (xce HB hw203_5)⟩ (fun hHeld => ?_)
              clear hK K
              refine norm_ (a' := ?_) ?_ ?_
              rotate_left
              ·show Act.put _ (some 32) _ = _
               simp only [Act.put, List.setIfInBounds_toArray, List.set_cons_zero, List.set_cons_succ, i64_w, i32_w]
               rfl
              refine pv_ 6 33 (h := ?_)
              refine pv_ 7 34 (h := ?_)
              refine pv_ 8 35 (h := ?_)
              refine pv_ 10 37 (h := ?_)
              refine pv_ 14 41 (h := ?_)
              refine tk_ 9 36 (h := ?_)
              refine pv_ 11 38 (h := ?_)
              refine pv_ 12 39 (h := ?_)
              refine tk_ 13 40 (h := ?_)
              refine tk_ 15 42 (h := ?_)
              refine pv_ 16 43 (h := ?_)
              refine pv_ 17 44 (h := ?_)
              refine pv_ 18 45 (h := ?_)
              refine pv_ 19 46 (h := ?_)
              refine pv_ 20 47 (h := ?_)
              refine pv_ 21 48 (h := ?_)
              refine pv_ 22 49 (h := ?_)
              refine pv_ 24 51 (h := ?_)
              refine pv_ 28 55 (h := ?_)
              refine pv_ 30 57 (h := ?_)
              refine pv_ 31 58 (h := ?_)
              refine tk_ 23 50 (h := ?_)
              refine pv_ 25 52 (h := ?_)
              refine pv_ 26 53 (h := ?_)
              refine tk_ 27 54 (h := ?_)
              refine tk_ 29 56 (h := ?_)
              refine pv_ 32 59 (h := ?_)
              refine pv_ 33 60 (h := ?_)
              refine tk_ 34 61 (h := ?_)
              refine pv_ 35 62 (h := ?_)
              refine pv_ 36 63 (h := ?_)
              refine pv_ 37 64 (h := ?_)
              refine done_ (done_of HT_.out (by kernel_rfl)) ?_
              try go_wp2
              go_roundg k2
              case measure => have := HJ1.out; have := HK2.out; omega
              case rel => exact ⟨(wrap64 (x3_2 + 1)), (by first | rfl | (simp; done) | (simp [*]; done)), H', ⟨by have := HJ1.out; have := HK2.out; omega⟩, ⟨xblk⟩, ⟨xbg⟩⟩
            ·rw [if_neg c23] at H
             exact absurd H (by simp)
           ·rw [if_neg c22] at H
            exact absurd H (by simp)
          ·rw [if_neg c20] at H
           have c20b0 : decide (0 < x3_2) = false := decide_eq_false c20; clear c20
           have H' := aM H
           clear H; have hcz31_0 : wr.cell? ⟨gb196, 0, none⟩ = some (.int .i64 a0_0) := xc BK196 0 rfl; have hcz31_1 : wr.cell? ⟨gb196, 1, none⟩ = some (.int .i64 a0_1) := xc BK196 1 rfl; have hcz31_2 : wr.cell? ⟨gb196, 2, none⟩ = some (.slice A0_2 l0_2.length c0_2) := xc BK196 2 rfl; have hfz31_0 := blk_frozen BK196.out 0; have hfz31_1 := blk_frozen BK196.out 1; have hfz31_2 := blk_frozen BK196.out 2
           try go_wp2
           replace BK196 := aM (blk_drew BK196.out); replace HB := aM (below_drew1 HB.out); have p199 : 0 ≤ (x3_2 : Int) := of_decide_eq_true (by first | (with_reducible assumption) | assumption); have q199 : x3_2 < (l0_2.length : Int) := of_decide_eq_true (by first | (with_reducible assumption) | assumption)
           obtain ⟨ad199, e199, hx199_0, hx199_1, hx199_2, hx199_3, hx199_4, hx199_5⟩ := at_T36 HR0_2.out x3_2 p199 q199
           have hw199_5 := hx199_5; have hw199_4 := hx199_4; have hw199_3 := hx199_3; have hw199_2 := hx199_2; have hw199_1 := hx199_1; have hw199_0 := hx199_0
           cases e199
           replace hx199_0 := xce HB hx199_0; replace hx199_1 := xce HB hx199_1; replace hx199_2 := xce HB hx199_2; replace hx199_3 := xce HB hx199_3; replace hx199_4 := xce HB hx199_4; replace hx199_5 := xce HB hx199_5; replace p199 := eq_true p199; replace q199 := eq_true q199; have p201 : 0 ≤ (x3_2 : Int) := of_decide_eq_true (by first | (with_reducible assumption) | assumption); have q201 : x3_2 < (l0_2.length : Int) := of_decide_eq_true (by first | (with_reducible assumption) | assumption)
           obtain ⟨ad201, e201, hx201_0, hx201_1, hx201_2, hx201_3, hx201_4, hx201_5⟩ := at_T36 HR0_2.out x3_2 p201 q201
           have hw201_5 := hx201_5; have hw201_4 := hx201_4; have hw201_3 := hx201_3; have hw201_2 := hx201_2; have hw201_1 := hx201_1; have hw201_0 := hx201_0
           obtain rfl : ad199 = ad201 := (by injection e201)
           replace hx201_0 := xce HB hx201_0; replace hx201_1 := xce HB hx201_1; replace hx201_2 := xce HB hx201_2; replace hx201_3 := xce HB hx201_3; replace hx201_4 := xce HB hx201_4; replace hx201_5 := xce HB hx201_5; replace p201 := eq_true p201; replace q201 := eq_true q201
           refine start_ (n := 38) (S := fun w' => w'.cell? ⟨gb196, 0, none⟩ = some (.int .i64 a0_0) ∧ w'.cell? ⟨gb196, 1, none⟩ = some (.int .i64 a0_1) ∧ w'.cell? ⟨gb196, 2, none⟩ = some (.slice (some ad199) l0_2.length c0_2) ∧ w'.cell? (ad199.add ((x3_2).toNat * 6)) = some (.int .i64 ((rd_T36 l0_2 x3_2).f0)) ∧ w'.cell? ⟨(ad199.add ((x3_2).toNat * 6)).block, (ad199.add ((x3_2).toNat * 6)).off + 1, none⟩ = some (.int .i64 ((rd_T36 l0_2 x3_2).f1.f0)) ∧ w'.cell? ⟨(ad199.add ((x3_2).toNat * 6)).block, (ad199.add ((x3_2).toNat * 6)).off + 2, none⟩ = some (.int .i64 ((rd_T36 l0_2 x3_2).f1.f1)) ∧ w'.cell? ⟨(ad199.add ((x3_2).toNat * 6)).block, (ad199.add ((x3_2).toNat * 6)).off + 3, none⟩ = some (.int .i64 ((rd_T36 l0_2 x3_2).f1.f2)) ∧ w'.cell? ⟨(ad199.add ((x3_2).toNat * 6)).block, (ad199.add ((x3_2).toNat * 6)).off + 4, none⟩ = some (.int .i64 ((rd_T36 l0_2 x3_2).f1.f3)) ∧ w'.cell? ⟨(ad199.add ((x3_2).toNat * 6)).block, (ad199.add ((x3_2).toNat * 6)).off + 5, none⟩ = some (.string ((rd_T36 l0_2 x3_2).f1.f4)) ∧ w'.cell? (ad199.add ((x3_2).toNat * 6)) = some (.int .i64 ((rd_T36 l0_2 x3_2).f0)) ∧ w'.cell? ⟨(ad199.add ((x3_2).toNat * 6)).block, (ad199.add ((x3_2).toNat * 6)).off + 1, none⟩ = some (.int .i64 ((rd_T36 l0_2 x3_2).f1.f0)) ∧ w'.cell? ⟨(ad199.add ((x3_2).toNat * 6)).block, (ad199.add ((x3_2).toNat * 6)).off + 2, none⟩ = some (.int .i64 ((rd_T36 l0_2 x3_2).f1.f1)) ∧ w'.cell? ⟨(ad199.add ((x3_2).toNat * 6)).block, (ad199.add ((x3_2).toNat * 6)).off + 3, none⟩ = some (.int .i64 ((rd_T36 l0_2 x3_2).f1.f2)) ∧ w'.cell? ⟨(ad199.add ((x3_2).toNat * 6)).block, (ad199.add ((x3_2).toNat * 6)).off + 4, none⟩ = some (.int .i64 ((rd_T36 l0_2 x3_2).f1.f3)) ∧ w'.cell? ⟨(ad199.add ((x3_2).toNat * 6)).block, (ad199.add ((x3_2).toNat * 6)).off + 5, none⟩ = some (.string ((rd_T36 l0_2 x3_2).f1.f4))) (ds := []) #[false, false, false, false, false, false, false, false, false, false, false, false, false, false, false, false, false, false, false, false, false, false, false, false, false, false, false, false, false, false, false, false, false, false, false, false, false, false] (by kernel_rfl) rfl rfl ⟨xc BK196 0 rfl, xc BK196 1 rfl, xc BK196 2 rfl, (xce HB hw199_0), (xce HB hw199_1), (xce HB hw199_2), (xce HB hw199_3), (xce HB hw199_4), (xce HB hw199_5), (xce HB hw201_0), (xce HB hw201_1), (xce HB hw201_2), (xce HB hw201_3), (xce HB hw201_4), (xce HB hw201_5)⟩ (fun hHeld => ?_); refine with_tabW spec_HardOk.tab6 spec_HardOk.bits6 (fun HT_ HW_ => ?_)
           generalize wr.drew = w32 at BK196 HB hx199_0 hx199_1 hx199_2 hx199_3 hx199_4 hx199_5 hx201_0 hx201_1 hx201_2 hx201_3 hx201_4 hx201_5 hHeld ⊢
           refine pv_ 0 27 (h := ?_)
           refine pv_ 2 29 (h := ?_)
           refine tk_ 1 28 (h := ?_)
           refine pv_ 3 30 (h := ?_)
           refine tk_ 4 31 (h := ?_)
           refine on_ 5 32 (h := fun K hK => ?_)
           refine goesY Try.func138 #[.agg #[.int .i64 ((rd_T36 l0_2 x3_2).f0), .int .i64 ((rd_T36 l0_2 x3_2).f1.f0), .int .i64 ((rd_T36 l0_2 x3_2).f1.f1), .int .i64 ((rd_T36 l0_2 x3_2).f1.f2), .int .i64 ((rd_T36 l0_2 x3_2).f1.f3), .string ((rd_T36 l0_2 x3_2).f1.f4)]] ?_
           with_reducible refine (spec_l6Entry.calls k2 ((rd_T36 l0_2 x3_2).f0) ((rd_T36 l0_2 x3_2).f1.f0) ((rd_T36 l0_2 x3_2).f1.f1) ((rd_T36 l0_2 x3_2).f1.f2) ((rd_T36 l0_2 x3_2).f1.f3) ((rd_T36 l0_2 x3_2).f1.f4) true _ A14.out).mono ?_
           rintro e w33 ⟨rfl, hb⟩
           refine ⟨_, rfl, ?_⟩
           replace BK196 := xbb BK196 hb; replace HB := xbs hb
           (try clear hb); (try clear hb2); (try clear hk); (try clear hi)
           refine hK.out _ _ ⟨xc BK196 0 rfl, xc BK196 1 rfl, xc BK196 2 rfl, (xce HB hw199_0), (xce HB hw199_1), (xce HB hw199_2), (xce HB hw199_3), (xce HB hw199_4), (xce HB hw199_5), (xce HB hw201_0), (xce HB hw201_1), (xce HB hw201_2), (xce HB hw201_3), (xce HB hw201_4), (xce HB hw201_5)⟩ (fun hHeld => ?_)
           clear hK K
           refine norm_ (a' := ?_) ?_ ?_
           rotate_left
           ·show Act.put _ (some 32) _ = _
            simp only [Act.put, List.setIfInBounds_toArray, List.set_cons_zero, List.set_cons_succ, i64_w, i32_w]
            rfl
           refine pv_ 6 33 (h := ?_)
           refine pv_ 7 34 (h := ?_)
           refine pv_ 8 35 (h := ?_)
           refine pv_ 10 37 (h := ?_)
           refine pv_ 14 41 (h := ?_)
           refine tk_ 9 36 (h := ?_)
           refine pv_ 11 38 (h := ?_)
           refine pv_ 12 39 (h := ?_)
           refine tk_ 13 40 (h := ?_)
           refine tk_ 15 42 (h := ?_)
           refine pv_ 16 43 (h := ?_)
           refine pv_ 17 44 (h := ?_)
           refine pv_ 18 45 (h := ?_)
           refine pv_ 19 46 (h := ?_)
           refine pv_ 20 47 (h := ?_)
           refine pv_ 21 48 (h := ?_)
           refine pu_ 22 49 (h := ?_)
           refine pu_ 23 50 (h := ?_)
           refine pu_ 24 51 (h := ?_)
           refine pu_ 25 52 (h := ?_)
           refine pu_ 26 53 (h := ?_)
           refine pu_ 27 54 (h := ?_)
           refine pu_ 28 55 (h := ?_)
           refine pu_ 29 56 (h := ?_)
           refine pu_ 30 57 (h := ?_)
           refine pu_ 31 58 (h := ?_)
           refine pu_ 32 59 (h := ?_)
           refine pu_ 33 60 (h := ?_)
           refine pu_ 34 61 (h := ?_)
           refine pu_ 35 62 (h := ?_)
           refine pv_ 36 63 (h := ?_)
           refine pv_ 37 64 (h := ?_)
           refine done_ (done_of HT_.out (by kernel_rfl)) ?_
           try go_wp2
           go_roundg k2
           case measure => have := HJ1.out; have := HK2.out; omega
           case rel => exact ⟨(wrap64 (x3_2 + 1)), (by first | rfl | (simp; done) | (simp [*]; done)), H', ⟨by have := HJ1.out; have := HK2.out; omega⟩, ⟨xblk⟩, ⟨xbg⟩⟩
        ·replace c15 := Bool.eq_false_iff.mpr c15
         subst c15
         have H1 : (some false) = some r := by rw [if_neg (show ¬ (false = true) by decide)] at H; exact H
         clear H; have H := H1; clear H1
         obtain rfl := Option.some.inj H
         have hcz34_0 : wr.cell? ⟨gb196, 0, none⟩ = some (.int .i64 a0_0) := xc BK196 0 rfl; have hcz34_1 : wr.cell? ⟨gb196, 1, none⟩ = some (.int .i64 a0_1) := xc BK196 1 rfl; have hcz34_2 : wr.cell? ⟨gb196, 2, none⟩ = some (.slice A0_2 l0_2.length c0_2) := xc BK196 2 rfl; have hfz34_0 := blk_frozen BK196.out 0; have hfz34_1 := blk_frozen BK196.out 1; have hfz34_2 := blk_frozen BK196.out 2
         try go_wp2
         replace BK196 := aM (blk_drew BK196.out); replace HB := aM (below_drew1 HB.out); have p199 : 0 ≤ (x3_2 : Int) := of_decide_eq_true (by first | (with_reducible assumption) | assumption); have q199 : x3_2 < (l0_2.length : Int) := of_decide_eq_true (by first | (with_reducible assumption) | assumption)
         obtain ⟨ad199, e199, hx199_0, hx199_1, hx199_2, hx199_3, hx199_4, hx199_5⟩ := at_T36 HR0_2.out x3_2 p199 q199
         have hw199_5 := hx199_5; have hw199_4 := hx199_4; have hw199_3 := hx199_3; have hw199_2 := hx199_2; have hw199_1 := hx199_1; have hw199_0 := hx199_0
         cases e199
         replace hx199_0 := xce HB hx199_0; replace hx199_1 := xce HB hx199_1; replace hx199_2 := xce HB hx199_2; replace hx199_3 := xce HB hx199_3; replace hx199_4 := xce HB hx199_4; replace hx199_5 := xce HB hx199_5; replace p199 := eq_true p199; replace q199 := eq_true q199
         refine start_ (n := 38) (S := fun w' => w'.cell? ⟨gb196, 0, none⟩ = some (.int .i64 a0_0) ∧ w'.cell? ⟨gb196, 1, none⟩ = some (.int .i64 a0_1) ∧ w'.cell? ⟨gb196, 2, none⟩ = some (.slice (some ad199) l0_2.length c0_2) ∧ w'.cell? (ad199.add ((x3_2).toNat * 6)) = some (.int .i64 ((rd_T36 l0_2 x3_2).f0)) ∧ w'.cell? ⟨(ad199.add ((x3_2).toNat * 6)).block, (ad199.add ((x3_2).toNat * 6)).off + 1, none⟩ = some (.int .i64 ((rd_T36 l0_2 x3_2).f1.f0)) ∧ w'.cell? ⟨(ad199.add ((x3_2).toNat * 6)).block, (ad199.add ((x3_2).toNat * 6)).off + 2, none⟩ = some (.int .i64 ((rd_T36 l0_2 x3_2).f1.f1)) ∧ w'.cell? ⟨(ad199.add ((x3_2).toNat * 6)).block, (ad199.add ((x3_2).toNat * 6)).off + 3, none⟩ = some (.int .i64 ((rd_T36 l0_2 x3_2).f1.f2)) ∧ w'.cell? ⟨(ad199.add ((x3_2).toNat * 6)).block, (ad199.add ((x3_2).toNat * 6)).off + 4, none⟩ = some (.int .i64 ((rd_T36 l0_2 x3_2).f1.f3)) ∧ w'.cell? ⟨(ad199.add ((x3_2).toNat * 6)).block, (ad199.add ((x3_2).toNat * 6)).off + 5, none⟩ = some (.string ((rd_T36 l0_2 x3_2).f1.f4))) (ds := []) #[false, false, false, false, false, false, false, false, false, false, false, false, false, false, false, false, false, false, false, false, false, false, false, false, false, false, false, false, false, false, false, false, false, false, false, false, false, false] (by kernel_rfl) rfl rfl ⟨xc BK196 0 rfl, xc BK196 1 rfl, xc BK196 2 rfl, (xce HB hw199_0), (xce HB hw199_1), (xce HB hw199_2), (xce HB hw199_3), (xce HB hw199_4), (xce HB hw199_5)⟩ (fun hHeld => ?_); refine with_tabW spec_HardOk.tab6 spec_HardOk.bits6 (fun HT_ HW_ => ?_)
         generalize wr.drew = w35 at BK196 HB hx199_0 hx199_1 hx199_2 hx199_3 hx199_4 hx199_5 hHeld ⊢
         refine pv_ 0 27 (h := ?_)
         refine pv_ 2 29 (h := ?_)
         refine tk_ 1 28 (h := ?_)
         refine pv_ 3 30 (h := ?_)
         refine tk_ 4 31 (h := ?_)
         refine on_ 5 32 (h := fun K hK => ?_)
         refine goesY Try.func138 #[.agg #[.int .i64 ((rd_T36 l0_2 x3_2).f0), .int .i64 ((rd_T36 l0_2 x3_2).f1.f0), .int .i64 ((rd_T36 l0_2 x3_2).f1.f1), .int .i64 ((rd_T36 l0_2 x3_2).f1.f2), .int .i64 ((rd_T36 l0_2 x3_2).f1.f3), .string ((rd_T36 l0_2 x3_2).f1.f4)]] ?_
         with_reducible refine (spec_l6Entry.calls k2 ((rd_T36 l0_2 x3_2).f0) ((rd_T36 l0_2 x3_2).f1.f0) ((rd_T36 l0_2 x3_2).f1.f1) ((rd_T36 l0_2 x3_2).f1.f2) ((rd_T36 l0_2 x3_2).f1.f3) ((rd_T36 l0_2 x3_2).f1.f4) false _ A14.out).mono ?_
         rintro e w36 ⟨rfl, hb⟩
         refine ⟨_, rfl, ?_⟩
         replace BK196 := xbb BK196 hb; replace HB := xbs hb
         (try clear hb); (try clear hb2); (try clear hk); (try clear hi)
         refine hK.out _ _ ⟨xc BK196 0 rfl, xc BK196 1 rfl, xc BK196 2 rfl, (xce HB hw199_0), (xce HB hw199_1), (xce HB hw199_2), (xce HB hw199_3), (xce HB hw199_4), (xce HB hw199_5)⟩ (fun hHeld => ?_)
         clear hK K
         refine norm_ (a' := ?_) ?_ ?_
         rotate_left
         ·show Act.put _ (some 32) _ = _
          simp only [Act.put, List.setIfInBounds_toArray, List.set_cons_zero, List.set_cons_succ, i64_w, i32_w]
          rfl
         refine pv_ 6 33 (h := ?_)
         refine pv_ 7 34 (h := ?_)
         refine pu_ 8 35 (h := ?_)
         refine pu_ 9 36 (h := ?_)
         refine pu_ 10 37 (h := ?_)
         refine pu_ 11 38 (h := ?_)
         refine pu_ 12 39 (h := ?_)
         refine pu_ 13 40 (h := ?_)
         refine pu_ 14 41 (h := ?_)
         refine pu_ 15 42 (h := ?_)
         refine pu_ 16 43 (h := ?_)
         refine pv_ 17 44 (h := ?_)
         refine pv_ 18 45 (h := ?_)
         refine pu_ 19 46 (h := ?_)
         refine pu_ 20 47 (h := ?_)
         refine pu_ 21 48 (h := ?_)
         refine pu_ 22 49 (h := ?_)
         refine pu_ 23 50 (h := ?_)
         refine pu_ 24 51 (h := ?_)
         refine pu_ 25 52 (h := ?_)
         refine pu_ 26 53 (h := ?_)
         refine pu_ 27 54 (h := ?_)
         refine pu_ 28 55 (h := ?_)
         refine pu_ 29 56 (h := ?_)
         refine pu_ 30 57 (h := ?_)
         refine pu_ 31 58 (h := ?_)
         refine pu_ 32 59 (h := ?_)
         refine pu_ 33 60 (h := ?_)
         refine pu_ 34 61 (h := ?_)
         refine pu_ 35 62 (h := ?_)
         refine pu_ 36 63 (h := ?_)
         refine pv_ 37 64 (h := ?_)
         refine done_ (done_of HT_.out (by kernel_rfl)) ?_
         try go_wp2
         go_ret
         exact ⟨by first | rfl | (simp [errW_none, errW_some] <;> rfl) | (simp [*, errW_none, errW_some] <;> rfl), xbg⟩
       ·rw [if_neg c13] at H
        exact absurd H (by simp)
      ·rw [if_neg c12] at H
       have c12b0 : decide (x3_2 < (l0_2.length : Int)) = false := decide_eq_false c12; clear c12
       obtain rfl := Option.some.inj H
       have hcz37_0 : wr.cell? ⟨gb196, 0, none⟩ = some (.int .i64 a0_0) := xc BK196 0 rfl; have hcz37_1 : wr.cell? ⟨gb196, 1, none⟩ = some (.int .i64 a0_1) := xc BK196 1 rfl; have hcz37_2 : wr.cell? ⟨gb196, 2, none⟩ = some (.slice A0_2 l0_2.length c0_2) := xc BK196 2 rfl; have hfz37_0 := blk_frozen BK196.out 0; have hfz37_1 := blk_frozen BK196.out 1; have hfz37_2 := blk_frozen BK196.out 2
       go_wp2
       go_ret
       exact ⟨by first | rfl | (simp [errW_none, errW_some] <;> rfl) | (simp [*, errW_none, errW_some] <;> rfl), xbg⟩

/-! ### spec_l6Copy: function 99 -/
def spec_l6Copy.f (a0_0 : Int) (a0_1 : Int) (l0_2 : List (S36)) : Option (Int × Int × (List (S36))) := (some (([] : List (S36)) : List (S36))).bind fun y206 => (if y206.length + l0_2.length < 2513169434916 then (some (a0_0, a0_1, (y206 ++ l0_2))) else (none))
def spec_l6Copy.T1 : Bool × List (List Nat × List Nat) := (true, [([], []), ([0], [0]), ([], []), ([2], [2]), ([], []), ([], []), ([5], [5]), ([4, 6], [4, 6]), ([1, 3, 7], [1, 3, 7]), ([8, 7, 0, 1, 2, 3, 4, 5, 6, 7, 8], [8])])
def spec_l6Copy.B1 : List Nat := [0, 1, 0, 4, 0, 0, 32, 112, 255, 511]
theorem spec_l6Copy.tab1 : rtab .any (opsOf Try.f99 1) = spec_l6Copy.T1 := by kernel_rfl
theorem spec_l6Copy.bits1 : waitsOk spec_l6Copy.T1.2 spec_l6Copy.B1 = true := by kernel_rfl
set_option maxHeartbeats 8000000 in
set_option maxRecDepth 100000 in
theorem spec_l6Copy.calls (a0_0 : Int) (a0_1 : Int) (A0_2 : Option Addr) (c0_2 : Nat) (l0_2 : List (S36)) (r1 : Int) (r2 : Int) (r3 : List (S36)) (w : World) (hr0_2 : Kd.C k36 w A0_2 l0_2.length l0_2) (hc0_2 : l0_2.length ≤ c0_2) (h : spec_l6Copy.f a0_0 a0_1 l0_2 = some (r1, r2, r3)) :
 Calls Try.prog 99 #[.agg #[.int .i64 a0_0, .int .i64 a0_1, .slice A0_2 l0_2.length c0_2]] w fun e w' => ∃ v2_ : Value, e = .returned (.agg #[.int .i64 r1, .int .i64 r2, v2_]) ∧ Kd.R k36 36 w' w.heap.size (fun _ => True) v2_ r3 ∧ Below w.heap.size w w' := by
 have hu28 := Try.underlying28
 have HR0_2 := aM hr0_2
 have HC0_2 := aM hc0_2
 clear hr0_2 hc0_2
 have HB := aM (Below.refl w.heap.size w)
 have H : ((some (([] : List (S36)) : List (S36))).bind fun y206 => (if y206.length + l0_2.length < 2513169434916 then (some (a0_0, a0_1, (y206 ++ l0_2))) else (none))) = some (r1, r2, r3) := h
 clear h
 obtain ⟨y206, hy206⟩ : ∃ y_ : List (S36), y_ = (([] : List (S36))) := ⟨_, rfl⟩
 replace H : (if y206.length + l0_2.length < 2513169434916 then (some (a0_0, a0_1, (y206 ++ l0_2))) else (none)) = some (r1, r2, r3) := by first | (rw [hy206]; with_reducible exact H) | (have H2_ := (Option.bind_some _ _).symm.trans H; rw [hy206]; with_reducible exact H2_) | (have H2_ := (Option.bind_some _ _).symm.trans H; with_reducible exact H2_) | with_reducible exact H | (rw [hy206]; exact H) | exact H
 have Ny206 := aM hy206
 clear hy206
 by_cases c2 : y206.length + l0_2.length < 2513169434916
 ·rw [if_pos c2] at H
  have LMc2 := aM c2; clear c2
  obtain ⟨y209, hy209⟩ : ∃ y_ : List (S36), y_ = (y206 ++ l0_2) := ⟨_, rfl⟩
  replace H : (some (a0_0, a0_1, y209)) = some (r1, r2, r3) := by first | (rw [hy209]; with_reducible exact H) | (have H2_ := (Option.bind_some _ _).symm.trans H; rw [hy209]; with_reducible exact H2_) | (have H2_ := (Option.bind_some _ _).symm.trans H; with_reducible exact H2_) | with_reducible exact H | (rw [hy209]; exact H) | exact H
  have Ny209 := aM hy209; clear hy209
  simp only [Option.some.injEq, Prod.mk.injEq] at H
  obtain ⟨rfl, rfl, rfl⟩ := H
  go_enter Try.func99, Try.ntmps99
  try go_wp2_with (first | ((with_reducible refine gate_dst (N := 1) rfl ?_); refine box_event ?hg (N := 1) ?hd (cs := #[.int .i64 a0_0, .int .i64 a0_1, .slice A0_2 l0_2.length c0_2]) (t := 28) ?hr ?_; (case hd => rfl); (case hg => rfl); (case hr => first | (go_simp; done) | (go_simp; rfl)); intro gb204 hg w3 hbox hb; have BK204 := aM (hbox); have GW204 := aM (xge hg); have GE204 := aM (xge hg); replace HB := xbs hb; clear hb hbox hg) | ((with_reducible refine gate_dst (N := 2) rfl ?_); refine box_event ?hg (N := 2) ?hd (cs := #[.int .i64 0, .int .i64 0, .slice none 0 0]) (t := 28) ?hr ?_; (case hd => rfl); (case hg => rfl); (case hr => first | (go_simp; done) | (go_simp; rfl)); intro gb205 hg w4 hbox hb; have GW205 := aM (xge hg); have GE205 := aM (xge hg); replace HB := xbs hb; have NB204_205 := aM ((by rw [hg]; exact Nat.ne_of_lt (blk_lt (g := gb204) (o := .cells #[.int .i64 a0_0, .int .i64 a0_1, .slice A0_2 l0_2.length c0_2] 28 (0, 0)) xblk) : gb204 ≠ gb205)); have NB205_204 := aM ((by rw [hg]; exact Nat.ne_of_gt (blk_lt (g := gb204) (o := .cells #[.int .i64 a0_0, .int .i64 a0_1, .slice A0_2 l0_2.length c0_2] 28 (0, 0)) xblk) : gb205 ≠ gb204)); replace BK204 := xbb BK204 hb; have BK205 := aM (hbox); clear hb hbox hg))
  replace BK204 := aM (blk_drew BK204.out); replace BK205 := aM (blk_drew BK205.out); replace HB := aM (below_drew1 HB.out)
  refine start_ (n := 10) (S := fun w' => w'.cell? ⟨gb204, 0, none⟩ = some (.int .i64 a0_0) ∧ w'.cell? ⟨gb204, 1, none⟩ = some (.int .i64 a0_1) ∧ w'.cell? ⟨gb204, 2, none⟩ = some (.slice A0_2 l0_2.length c0_2)) (ds := []) #[false, false, false, false, false, false, false, false, false, false] (by kernel_rfl) rfl rfl ⟨xc BK204 0 rfl, xc BK204 1 rfl, xc BK204 2 rfl⟩ (fun hHeld => ?_); refine with_tabW spec_l6Copy.tab1 spec_l6Copy.bits1 (fun HT_ HW_ => ?_)
  generalize w4.drew = w5 at BK204 BK205 HB hHeld ⊢
  refine pv_ 0 3 (h := ?_)
  refine pv_ 2 5 (h := ?_)
  refine pv_ 5 8 (h := ?_)
  refine tk_ 1 4 (h := ?_)
  refine tk_ 3 6 (h := ?_)
  refine tk_ 6 9 (h := ?_)
  refine on_ 4 7 (h := fun K hK => ?_)
  refine Kd.R_lit_step k36 _ 36 ?hg (N := 7) ?hd (xs := ([] : List (S36))) (inner := []) (ok := fun _ => True) (okp := fun _ => True) ?hr ?hp (fun _ hk => hk) trivial (Below.refl _ _) (Nat.le_refl _) (by simp) ?_; (case hd => rfl); (case hg => rfl); (case hr => first | (go_simp; done) | (go_simp; rfl)); (case hp => exact (Reps.none _ _))
  intro v207 w6 ho7 hb hg_ hnew_
  clear hg_ hnew_
  (first | rw [← Ny206.out] at ho7 | (simp only [Int.reduceToNat] at ho7; rw [← Ny206.out] at ho7))
  have HO208 := aM (Kd.R_lower ho7 (below_size xbg)); replace BK204 := xbb BK204 hb; replace BK205 := xbb BK205 hb; replace HB := xbs hb; clear hb ho7
  refine hK.out _ _ ⟨xc BK204 0 rfl, xc BK204 1 rfl, xc BK204 2 rfl⟩ (fun hHeld => ?_)
  clear hK K
  refine norm_ (a' := ?_) ?_ ?_
  rotate_left
  ·show Act.put _ (some 7) _ = _
   simp only [Act.put, List.setIfInBounds_toArray, List.set_cons_zero, List.set_cons_succ, i64_w, i32_w]
   rfl
  refine on_ 7 10 (h := fun K hK => ?_)
  refine Kd.R_append_rows_step k36 (w0 := w) w.heap.size (by rfl) (.tmp 7) (.tmp 9) 26 36 (.agg #[(.int .i64 0), (.int .i64 0), (.int .i64 0), (.int .i64 0), (.int .i64 0), (.string ⟨#[]⟩)]) 56 rfl Try.underlying26 info36 rfl (by decide) (by omega) v207 y206 l0_2 _ _ _ (fun _ => True) (fun _ => False) rfl rfl ?aO ?aR (fun _ _ h => h) (fun _ h => h.elim) ?aF ?aB ?aS ?aL ?_
  (case aR => exact xcb HR0_2)
  (case aB => exact xbg)
  (case aF => exact (fun _ _ => trivial))
  (case aO => exact (xr HO208))
  (case aS => exact (below_size xbg))
  (case aL => have := LMc2.out; omega)
  intro v210 w8 ho hb hg hat
  rw [← Ny209.out] at ho
  have n0_ := aM (blk_grown (g := gb204) (o := .cells #[.int .i64 a0_0, .int .i64 a0_1, .slice A0_2 l0_2.length c0_2] 28 (0, 0)) xblk hg (Kd.R_ne HO208.out BK204.out (by decide))); have n1_ := aM (blk_grown (g := gb205) (o := .cells #[.int .i64 0, .int .i64 0, .slice none 0 0] 28 (0, 0)) xblk hg (Kd.R_ne HO208.out BK205.out (by decide))); have n2_ := aM (hb); have n3_ := aM (ho); clear BK204 BK205 HB HO208; have BK204 := n0_; have BK205 := n1_; have HB := n2_; have HO211 := n3_; clear n0_ n1_ n2_ n3_ ho hb hg hat
  obtain ⟨Ao9, co9, eo9⟩ := Kd.R_slice HO211.out
  (first | subst eo9 | (injection eo9 with f1_ f2_ f3_; have f4_ := f1_.symm; have f5_ := f3_.symm; clear f1_ f2_ f3_; subst f4_; subst f5_))
  refine hK.out _ _ ⟨xc BK204 0 rfl, xc BK204 1 rfl, xc BK204 2 rfl⟩ (fun hHeld => ?_)
  clear hK K
  refine norm_ (a' := ?_) ?_ ?_
  rotate_left
  ·show Act.put _ (some 10) _ = _
   simp only [Act.put, List.setIfInBounds_toArray, List.set_cons_zero, List.set_cons_succ, i64_w, i32_w]
   rfl
  refine pv_ 8 11 (h := ?_)
  refine one_ (i := 9) (N := none) #[true, true, true, true, true, true, true, true, true, true] rfl rfl (one_of HT_.out (by kernel_rfl)) (by decide) (fun K hK => ?_)
  have hs10 : w8.cell? ⟨gb205, 0, none⟩ = some (.int .i64 0) := xc BK205 0 rfl; have hfs10 := blk_frozen BK205.out 0; have hns10_0 := NB204_205.out; have hms10_0 := NB205_204.out; have hs11 : w8.cell? ⟨gb205, 1, none⟩ = some (.int .i64 0) := xc BK205 1 rfl; have hfs11 := blk_frozen BK205.out 1; have hns11_0 := NB204_205.out; have hms11_0 := NB205_204.out; have hs12 : w8.cell? ⟨gb205, 2, none⟩ = some (.slice none 0 0) := xc BK205 2 rfl; have hfs12 := blk_frozen BK205.out 2; have hns12_0 := NB204_205.out; have hms12_0 := NB205_204.out
  refine skip_ (w1 := ?_) (by rfl) rfl ?_ ?_
  rotate_left
  ·go_simp
   rfl
  refine hK.out _ _ ⟨((cell_far (p := ⟨gb205, _, none⟩) NB204_205.out _).trans (((cell_far (p := ⟨gb205, _, none⟩) NB204_205.out _).trans (((cell_far (p := ⟨gb205, _, none⟩) NB204_205.out _).trans (hHeld.1)))))), ((cell_far (p := ⟨gb205, _, none⟩) NB204_205.out _).trans (((cell_far (p := ⟨gb205, _, none⟩) NB204_205.out _).trans (((cell_far (p := ⟨gb205, _, none⟩) NB204_205.out _).trans (hHeld.2.1)))))), ((cell_far (p := ⟨gb205, _, none⟩) NB204_205.out _).trans (((cell_far (p := ⟨gb205, _, none⟩) NB204_205.out _).trans (((cell_far (p := ⟨gb205, _, none⟩) NB204_205.out _).trans (hHeld.2.2))))))⟩ (fun hHeld => ?_)
  clear hK K
  refine done_ (done_of HT_.out (by kernel_rfl)) ?_
  try go_wp2
  refine bodyPost_ret (results_cell_row rfl _ _ gb205 28 #[.int .i64 a0_0, .int .i64 a0_1, .slice Ao9 y209.length co9] (0, 0) _ rfl (by (with_reducible repeat (first | refine blk_drewN ?_ _ | refine blk_drew ?_ | refine blk_alloc ?_ _)); refine blk_put (cs := #[.int .i64 a0_0, .int .i64 a0_1, .slice none 0 0]) ?_ 2 _ rfl; (with_reducible repeat (first | refine blk_drewN ?_ _ | refine blk_drew ?_ | refine blk_alloc ?_ _)); refine blk_put (cs := #[.int .i64 a0_0, .int .i64 0, .slice none 0 0]) ?_ 1 _ rfl; (with_reducible repeat (first | refine blk_drewN ?_ _ | refine blk_drew ?_ | refine blk_alloc ?_ _)); refine blk_put (cs := #[.int .i64 0, .int .i64 0, .slice none 0 0]) ?_ 0 _ rfl; (with_reducible repeat (first | refine blk_drewN ?_ _ | refine blk_drew ?_ | refine blk_alloc ?_ _)); exact BK205.out) Try.underlying28 rfl (by kernel_rfl)) rfl ?_
  exact ⟨_, by first | rfl | (simp [errW_none, errW_some] <;> rfl) | (simp [*, errW_none, errW_some] <;> rfl), by (with_reducible repeat (first | apply Kd.R_alloc | apply Kd.R_drewN | apply Kd.R_drew)); exact Kd.R_mono (Kd.R_far (p := ⟨gb205, 2, none⟩) (Kd.R_far (p := ⟨gb205, 1, none⟩) (Kd.R_far (p := ⟨gb205, 0, none⟩) (Kd.R_types HO211.out BK205.out (by decide)) (fun _ hk => hk.2) (.int .i64 a0_0)) (fun _ hk => hk.2) (.int .i64 a0_1)) (fun _ hk => hk.2) (.slice Ao9 y209.length co9)) (fun _ hk => trivial), xbg⟩
 ·rw [if_neg c2] at H
  exact absurd H (by simp)

end Go.Proofs.Ytnjpfllmcmomoaa.QFnExactHardApply
