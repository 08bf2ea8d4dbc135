-- A walk, by a program of this session.
import Derived.Test.YtnjpfllmcmomoaaQFnExactHardOfx0
import Derived.Test.YtnjpfllmcmomoaaQFnExactHardOfx6
namespace Go.Proofs.Ytnjpfllmcmomoaa.QFnExactHardOf
open Go.RowKit Go.Proofs.YtnjpfllmcmomoaaW.PrintWords Go.Proofs.YtnjpfllmcmomoaaW.PrintLast Go.Proofs.YtnjpfllmcmomoaaW.PrintMore
attribute [local go_sem] max2_int min2_int max_two min_two max_three min_three max_four min_four   -- for this text's walks alone
set_option linter.unusedVariables false
set_option linter.unusedSimpArgs false

/-! ### spec_RecOk: function 69 -/
def spec_RecOk.f (k : Nat) (a0_0 : Int) (a0_1 : Int) (a0_2 : Int) (a0_3 : Int) (a0_4 : Int) (a0_5 : Int) (a0_6 : Int) (a0_7 : Int) (a0_8 : Int) (a0_9 : ByteArray) : Option (Bool) :=
  if a0_0 = 1 then ((spec_l1Whole.f a0_1).bind fun t198 => (if t198 = true then ((spec_l1In.f a0_2 0 5).bind fun t199 => (if t199 = true then (some (a0_3 == 0 && ((a0_4 == 0 && ((a0_5 == 0 && (a0_6 == 0 && (a0_7 == 0 && (a0_8 == 0 && (a0_9.toList == ([] : List UInt8))))))))))) else (some false))) else (some false)))
  else (if a0_0 = 2 then ((spec_l1In.f a0_3 1 80).bind fun t200 => (if t200 = true then ((spec_l6Entry.f k a0_4 a0_5 a0_6 a0_7 a0_8 a0_9).bind fun t201 => (if t201 = true then (some (a0_1 == 0 && (a0_2 == 0))) else (some false))) else (some false)))
  else (if a0_0 = 3 then ((spec_l1In.f a0_3 0 80).bind fun t202 => (if t202 = true then (some (a0_1 == 0 && (a0_2 == 0 && ((a0_4 == 0 && ((a0_5 == 0 && (a0_6 == 0 && (a0_7 == 0 && (a0_8 == 0 && (a0_9.toList == ([] : List UInt8)))))))))))) else (some false))) else (some false)))
theorem spec_RecOk.mono : ∀ a0 a1 a2 a3 a4 a5 a6 a7 a8 a9 k, LeO (spec_RecOk.f k a0 a1 a2 a3 a4 a5 a6 a7 a8 a9) (spec_RecOk.f (k + 1) a0 a1 a2 a3 a4 a5 a6 a7 a8 a9) := by
  intro a0 a1 a2 a3 a4 a5 a6 a7 a8 a9 k
  unfold spec_RecOk.f
  repeat' first
  | exact spec_l6Entry.mono _ _ _ _ _ _ _
  | exact LeO.refl _
  | refine LeO.ite ?_ ?_
  | refine LeO.bind ?_ (fun _ => ?_)
theorem bcellR {W w1 : World} (hb : Below W.heap.size W w1) : (∀ b o, b < W.heap.size → w1.cell? ⟨b, o, none⟩ = W.cell? ⟨b, o, none⟩) ∧ (∀ b o, b < W.heap.size → w1.frozen? ⟨b, o, none⟩ = W.frozen? ⟨b, o, none⟩) :=
  ⟨fun b o h => hb.cell (p := ⟨b, o, none⟩) h, fun b o h => hb.frozen (p := ⟨b, o, none⟩) h⟩
set_option maxHeartbeats 8000000 in
set_option maxRecDepth 100000 in
theorem spec_RecOk.calls (k : Nat) (a0_0 : Int) (a0_1 : Int) (a0_2 : Int) (a0_3 : Int) (a0_4 : Int) (a0_5 : Int) (a0_6 : Int) (a0_7 : Int) (a0_8 : Int) (a0_9 : ByteArray) (r : Bool) (w : World) (h : spec_RecOk.f k a0_0 a0_1 a0_2 a0_3 a0_4 a0_5 a0_6 a0_7 a0_8 a0_9 = some r) :
    Calls Try.prog 69 #[.agg #[.int .i64 a0_0, .int .i64 a0_1, .int .i64 a0_2, .int .i64 a0_3, .int .i64 a0_4, .int .i64 a0_5, .int .i64 a0_6, .int .i64 a0_7, .int .i64 a0_8, .string a0_9]] w fun e w' => e = .returned (.bool r) ∧ Below w.heap.size w w' := by
  have hu38 := Try.underlying38
  have hu36 := Try.underlying36
  have hu34 := Try.underlying34
  unfold spec_RecOk.f at h
  by_cases k1 : a0_0 = 1
  · subst k1
    rw [if_pos rfl] at h
    obtain ⟨b1, A1, g⟩ := Option.bind_eq_some_iff.1 h
    replace h := g
    clear g
    replace A1 := Aside0.mk A1
    cases b1
    · simp only [Bool.false_eq_true, ↓reduceIte, Option.some.injEq] at h
      subst h
      go_enter Try.func69, Try.ntmps69
      go_wp2_with (first | (go_at_call 137; refine (spec_l1Whole.calls _ _ _ A1.out).mono ?_; rintro e w1 ⟨rfl, ⟨n1, rfl⟩⟩) | (go_at_call 87; refine (spec_l1In.calls _ _ _ _ _ A2.out).mono ?_; rintro e w1 ⟨rfl, ⟨n2, rfl⟩⟩))
      all_goals go_ret
      all_goals exact ⟨by first | rfl | (simp [Array.getD]; done) | (clear hu38 hu36 hu34; simp [*]; done) | (clear hu38 hu36 hu34; simp [*]; assumption) | (clear hu38 hu36 hu34; simp [*]; rename_i h_; simpa using h_), by repeat (first | apply pw_below_drewN | apply below_alloc | exact Below.refl _ w)⟩
    · simp only [↓reduceIte] at h
      obtain ⟨b2, A2, g⟩ := Option.bind_eq_some_iff.1 h
      replace h := g
      clear g
      replace A2 := Aside0.mk A2
      cases b2
      · simp only [Bool.false_eq_true, ↓reduceIte, Option.some.injEq] at h
        subst h
        go_enter Try.func69, Try.ntmps69
        go_wp2_with (first | (go_at_call 137; refine (spec_l1Whole.calls _ _ _ A1.out).mono ?_; rintro e w1 ⟨rfl, ⟨n1, rfl⟩⟩) | (go_at_call 87; refine (spec_l1In.calls _ _ _ _ _ A2.out).mono ?_; rintro e w1 ⟨rfl, ⟨n2, rfl⟩⟩))
        all_goals go_ret
        all_goals exact ⟨by first | rfl | (simp [Array.getD]; done) | (clear hu38 hu36 hu34; simp [*]; done) | (clear hu38 hu36 hu34; simp [*]; assumption) | (clear hu38 hu36 hu34; simp [*]; rename_i h_; simpa using h_), by repeat (first | apply pw_below_drewN | apply below_alloc | exact Below.refl _ w)⟩
      · simp only [↓reduceIte, Option.some.injEq] at h
        subst h
        go_enter Try.func69, Try.ntmps69
        go_wp2_with (first | (go_at_call 137; refine (spec_l1Whole.calls _ _ _ A1.out).mono ?_; rintro e w1 ⟨rfl, ⟨n1, rfl⟩⟩) | (go_at_call 87; refine (spec_l1In.calls _ _ _ _ _ A2.out).mono ?_; rintro e w1 ⟨rfl, ⟨n2, rfl⟩⟩))
        all_goals go_ret
        all_goals exact ⟨by first | rfl | (simp [Array.getD]; done) | (clear hu38 hu36 hu34; simp [*]; done) | (clear hu38 hu36 hu34; simp [*]; assumption) | (clear hu38 hu36 hu34; simp [*]; rename_i h_; simpa using h_), by repeat (first | apply pw_below_drewN | apply below_alloc | exact Below.refl _ w)⟩
  · rw [if_neg k1] at h
    have n1 : (a0_0 == 1) = false := beq_eq_false_iff_ne.2 k1
    by_cases k2 : a0_0 = 2
    · subst k2
      rw [if_pos rfl] at h
      obtain ⟨b1, A1, g⟩ := Option.bind_eq_some_iff.1 h
      replace h := g
      clear g
      replace A1 := Aside0.mk A1
      cases b1
      · simp only [Bool.false_eq_true, ↓reduceIte, Option.some.injEq] at h
        subst h
        go_enter Try.func69, Try.ntmps69
        go_wp2_with (first | (go_at_call 87; refine (spec_l1In.calls _ _ _ _ _ A1.out).mono ?_; rintro e w1 ⟨rfl, ⟨n1, rfl⟩⟩) | (go_at_call 138; refine (spec_l6Entry.calls k _ _ _ _ _ _ _ _ A2.out).mono ?_; rintro e w1 ⟨rfl, hb⟩; obtain ⟨hc, hf⟩ := bcellR hb; have HB := Aside0.mk hb; clear hb))
        all_goals go_ret
        all_goals exact ⟨by first | rfl | (simp [Array.getD]; done) | (clear hu38 hu36 hu34; simp [*]; done) | (clear hu38 hu36 hu34; simp [*]; assumption) | (clear hu38 hu36 hu34; simp [*]; rename_i h_; simpa using h_), by repeat (first | apply pw_below_drewN | apply below_alloc | exact Below.refl _ w)⟩
      · simp only [↓reduceIte] at h
        obtain ⟨b2, A2, g⟩ := Option.bind_eq_some_iff.1 h
        replace h := g
        clear g
        replace A2 := Aside0.mk A2
        cases b2
        · simp only [Bool.false_eq_true, ↓reduceIte, Option.some.injEq] at h
          subst h
          go_enter Try.func69, Try.ntmps69
          go_wp2_with (first | (go_at_call 87; refine (spec_l1In.calls _ _ _ _ _ A1.out).mono ?_; rintro e w1 ⟨rfl, ⟨n1, rfl⟩⟩) | (go_at_call 138; refine (spec_l6Entry.calls k _ _ _ _ _ _ _ _ A2.out).mono ?_; rintro e w1 ⟨rfl, hb⟩; obtain ⟨hc, hf⟩ := bcellR hb; have HB := Aside0.mk hb; clear hb))
          all_goals go_ret
          all_goals exact ⟨by first | rfl | (simp [Array.getD]; done) | (clear hu38 hu36 hu34; simp [*]; done) | (clear hu38 hu36 hu34; simp [*]; assumption) | (clear hu38 hu36 hu34; simp [*]; rename_i h_; simpa using h_), below_step (by repeat (first | apply pw_below_drewN | apply below_alloc | exact Below.refl _ w)) HB.out⟩
        · simp only [↓reduceIte, Option.some.injEq] at h
          subst h
          go_enter Try.func69, Try.ntmps69
          go_wp2_with (first | (go_at_call 87; refine (spec_l1In.calls _ _ _ _ _ A1.out).mono ?_; rintro e w1 ⟨rfl, ⟨n1, rfl⟩⟩) | (go_at_call 138; refine (spec_l6Entry.calls k _ _ _ _ _ _ _ _ A2.out).mono ?_; rintro e w1 ⟨rfl, hb⟩; obtain ⟨hc, hf⟩ := bcellR hb; have HB := Aside0.mk hb; clear hb))
          all_goals go_ret
          all_goals exact ⟨by first | rfl | (simp [Array.getD]; done) | (clear hu38 hu36 hu34; simp [*]; done) | (clear hu38 hu36 hu34; simp [*]; assumption) | (clear hu38 hu36 hu34; simp [*]; rename_i h_; simpa using h_), below_step (by repeat (first | apply pw_below_drewN | apply below_alloc | exact Below.refl _ w)) HB.out⟩
    · rw [if_neg k2] at h
      have n2 : (a0_0 == 2) = false := beq_eq_false_iff_ne.2 k2
      by_cases k3 : a0_0 = 3
      · subst k3
        rw [if_pos rfl] at h
        obtain ⟨b1, A1, g⟩ := Option.bind_eq_some_iff.1 h
        replace h := g
        clear g
        replace A1 := Aside0.mk A1
        cases b1
        · simp only [Bool.false_eq_true, ↓reduceIte, Option.some.injEq] at h
          subst h
          go_enter Try.func69, Try.ntmps69
          go_wp2_with (first | (go_at_call 87; refine (spec_l1In.calls _ _ _ _ _ A1.out).mono ?_; rintro e w1 ⟨rfl, ⟨n1, rfl⟩⟩))
          all_goals go_ret
          all_goals exact ⟨by first | rfl | (simp [Array.getD]; done) | (clear hu38 hu36 hu34; simp [*]; done) | (clear hu38 hu36 hu34; simp [*]; assumption) | (clear hu38 hu36 hu34; simp [*]; rename_i h_; simpa using h_), by repeat (first | apply pw_below_drewN | apply below_alloc | exact Below.refl _ w)⟩
        · simp only [↓reduceIte, Option.some.injEq] at h
          subst h
          go_enter Try.func69, Try.ntmps69
          go_wp2_with (first | (go_at_call 87; refine (spec_l1In.calls _ _ _ _ _ A1.out).mono ?_; rintro e w1 ⟨rfl, ⟨n1, rfl⟩⟩))
          all_goals go_ret
          all_goals exact ⟨by first | rfl | (simp [Array.getD]; done) | (clear hu38 hu36 hu34; simp [*]; done) | (clear hu38 hu36 hu34; simp [*]; assumption) | (clear hu38 hu36 hu34; simp [*]; rename_i h_; simpa using h_), by repeat (first | apply pw_below_drewN | apply below_alloc | exact Below.refl _ w)⟩
      · rw [if_neg k3] at h
        have n3 : (a0_0 == 3) = false := beq_eq_false_iff_ne.2 k3
        obtain rfl := Option.some.inj h
        go_enter Try.func69, Try.ntmps69
        go_wp2_with (first | (go_at_call 87; refine (spec_l1In.calls _ _ _ _ _ A1.out).mono ?_; rintro e w1 ⟨rfl, ⟨n1, rfl⟩⟩))
        all_goals go_ret
        all_goals exact ⟨by first | rfl | (simp [Array.getD]; done) | (clear hu38 hu36 hu34; simp [*]; done) | (clear hu38 hu36 hu34; simp [*]; assumption) | (clear hu38 hu36 hu34; simp [*]; rename_i h_; simpa using h_), by repeat (first | apply pw_below_drewN | apply below_alloc | exact Below.refl _ w)⟩


/-! ### spec_HardOk: function 98 -/
mutual
def spec_HardOk.j0 : Nat → Bool → Int → Int → List (S36) → Option (Bool)
 | 0, _, _, _, _ => none
 | k + 1, x19, x199000, x199001, x199002 => if x19 = true then (some false) else (spec_HardOk.l0 k 0 x199000 x199001 x199002)
def spec_HardOk.l0 : Nat → Int → Int → Int → List (S36) → Option (Bool)
 | 0, _, _, _, _ => none
 | k + 1, x3, x199000, x199001, x199002 => if x3 < (x199002.length : Int) then (if 0 ≤ x3 then ((spec_l6Entry.f k ((rd_T36 x199002 x3).f0) ((rd_T36 x199002 x3).f1.f0) ((rd_T36 x199002 x3).f1.f1) ((rd_T36 x199002 x3).f1.f2) ((rd_T36 x199002 x3).f1.f3) ((rd_T36 x199002 x3).f1.f4)).bind fun t202 => (if t202 = true then (if ((rd_T36 x199002 x3).f0) > x199000 then (some false) else (if x3 > 0 then (if 0 ≤ (wrap64 (x3 - 1)) then (if (wrap64 (x3 - 1)) < (x199002.length : Int) then (if ((rd_T36 x199002 x3).f0) < ((rd_T36 x199002 (wrap64 (x3 - 1))).f0) then (some false) else (spec_HardOk.l0 k (wrap64 (x3 + 1)) x199000 x199001 x199002)) else (none)) else (none)) else (spec_HardOk.l0 k (wrap64 (x3 + 1)) x199000 x199001 x199002))) else (some false))) else (none)) else (some true)
end
def spec_HardOk.f (k : Nat) (a0_0 : Int) (a0_1 : Int) (l0_2 : List (S36)) : Option (Bool) := (spec_l1Whole.f a0_0).bind fun t199 => (if t199 = true then ((spec_l1In.f a0_1 0 5).bind fun t200 => (if t200 = true then (spec_HardOk.j0 k (decide ((l0_2.length : Int) > 80)) a0_0 a0_1 l0_2) else (spec_HardOk.j0 k true a0_0 a0_1 l0_2))) else (spec_HardOk.j0 k true a0_0 a0_1 l0_2))
set_option maxRecDepth 100000 in
theorem spec_HardOk.mono_l : ∀ k, (∀ y0 y1 y2 y3, LeO (spec_HardOk.j0 k y0 y1 y2 y3) (spec_HardOk.j0 (k + 1) y0 y1 y2 y3)) ∧ (∀ y0 y1 y2 y3, LeO (spec_HardOk.l0 k y0 y1 y2 y3) (spec_HardOk.l0 (k + 1) y0 y1 y2 y3))
 | 0 => ⟨fun _ _ _ _ r h => by simp [spec_HardOk.j0] at h, fun _ _ _ _ r h => by simp [spec_HardOk.l0] at h⟩
 | k + 1 => by
  obtain ⟨ih0, ih1⟩ := spec_HardOk.mono_l k
  refine ⟨?_, ?_⟩
  ·intro y0 y1 y2 y3
   unfold spec_HardOk.j0
   repeat' first
   | (with_reducible exact ih0 _ _ _ _)
   | (with_reducible exact ih1 _ _ _ _)
   | (with_reducible exact spec_l6Entry.mono _ _ _ _ _ _ _)
   | (with_reducible exact LeO.refl _)
   | (with_reducible exact LeO.none _)
   | (with_reducible refine LeO.ite ?_ ?_)
   | (with_reducible refine LeO.bind ?_ (fun _ => ?_))
   | exact ih0 _ _ _ _
   | exact ih1 _ _ _ _
   | exact spec_l6Entry.mono _ _ _ _ _ _ _
   | exact LeO.none _
   | refine LeO.ite ?_ ?_
   | refine LeO.bind ?_ (fun _ => ?_)
  ·intro y0 y1 y2 y3
   unfold spec_HardOk.l0
   repeat' first
   | (with_reducible exact ih0 _ _ _ _)
   | (with_reducible exact ih1 _ _ _ _)
   | (with_reducible exact spec_l6Entry.mono _ _ _ _ _ _ _)
   | (with_reducible exact LeO.refl _)
   | (with_reducible exact LeO.none _)
   | (with_reducible refine LeO.ite ?_ ?_)
   | (with_reducible refine LeO.bind ?_ (fun _ => ?_))
   | exact ih0 _ _ _ _
   | exact ih1 _ _ _ _
   | exact spec_l6Entry.mono _ _ _ _ _ _ _
   | exact LeO.none _
   | refine LeO.ite ?_ ?_
   | refine LeO.bind ?_ (fun _ => ?_)
theorem spec_HardOk.mono : ∀ a0 a1 a2 k, LeO (spec_HardOk.f k a0 a1 a2) (spec_HardOk.f (k + 1) a0 a1 a2) := by
 intro a0 a1 a2 k
 obtain ⟨ih0, ih1⟩ := spec_HardOk.mono_l k
 unfold spec_HardOk.f
 repeat' first
  | (with_reducible exact ih0 _ _ _ _)
  | (with_reducible exact ih1 _ _ _ _)
  | (with_reducible exact spec_l6Entry.mono _ _ _ _ _ _ _)
  | (with_reducible exact LeO.refl _)
  | (with_reducible exact LeO.none _)
  | (with_reducible refine LeO.ite ?_ ?_)
  | (with_reducible refine LeO.bind ?_ (fun _ => ?_))
  | exact ih0 _ _ _ _
  | exact ih1 _ _ _ _
  | exact spec_l6Entry.mono _ _ _ _ _ _ _
  | exact LeO.none _
  | refine LeO.ite ?_ ?_
  | refine LeO.bind ?_ (fun _ => ?_)
def spec_HardOk.T6 : Bool × List (List Nat × List Nat) := (true, [([], []), ([0], [0]), ([], []), ([1, 2], [1, 2]), ([3], [3]), ([4], [4]), ([5], [5]), ([6, 5], [6]), ([7], [7]), ([8, 7], [7, 8]), ([7], [7]), ([9, 10, 7], [7, 9, 10]), ([11, 7], [7, 11]), ([12, 7], [7, 12]), ([7], [7]), ([14, 7], [7, 14]), ([13, 15, 7], [7, 13, 15]), ([7, 16], [7, 16]), ([17, 7], [17]), ([18], [18]), ([19, 18], [18, 19]), ([20, 18, 18], [18, 20]), ([21], [21]), ([22, 21], [21, 22]), ([21], [21]), ([23, 24, 21], [21, 23, 24]), ([25, 21], [21, 25]), ([26, 21], [21, 26]), ([21], [21]), ([28, 21], [21, 28]), ([21], [21]), ([30, 21], [21, 30]), ([29, 31, 21], [21, 29, 31]), ([32, 21], [21, 32]), ([33, 21], [21, 33]), ([27, 34, 21], [21, 27, 34]), ([21, 35, 18], [18, 21, 35]), ([18, 36], [18, 36])])
def spec_HardOk.B6 : List Nat := [0, 1, 0, 7, 15, 31, 63, 127, 255, 511, 255, 2047, 4095, 8191, 255, 16639, 65535, 131071, 262143, 524287, 1048575, 2097151, 4194303, 8388607, 4194303, 33554431, 67108863, 134217727, 4194303, 272629759, 4194303, 1077936127, 4030726143, 8325693439, 16915628031, 34359738367, 68719476735, 137438953471]
theorem spec_HardOk.tab6 : rtab .any (opsOf Try.f98 6) = spec_HardOk.T6 := by kernel_rfl
theorem spec_HardOk.bits6 : waitsOk spec_HardOk.T6.2 spec_HardOk.B6 = true := by kernel_rfl
set_option maxHeartbeats 8000000 in
set_option maxRecDepth 100000 in
theorem spec_HardOk.calls (k : Nat) (a0_0 : Int) (a0_1 : Int) (A0_2 : Option Addr) (c0_2 : Nat) (l0_2 : List (S36)) (r : Bool) (w : World) (hr0_2 : Kd.C k36 w A0_2 l0_2.length l0_2) (hc0_2 : l0_2.length ≤ c0_2) (h : spec_HardOk.f k a0_0 a0_1 l0_2 = some r) :
 Calls Try.prog 98 #[.agg #[.int .i64 a0_0, .int .i64 a0_1, .slice A0_2 l0_2.length c0_2]] w fun e w' => e = .returned (.bool r) ∧ Below w.heap.size w w' := by
 have hu28 := Try.underlying28
 have hu36 := Try.underlying36
 have HR0_2 := aM hr0_2
 have HC0_2 := aM hc0_2
 clear hr0_2 hc0_2
 have HB := aM (Below.refl w.heap.size w)
 have H : ((spec_l1Whole.f a0_0).bind fun t199 => (if t199 = true then ((spec_l1In.f a0_1 0 5).bind fun t200 => (if t200 = true then (spec_HardOk.j0 k (decide ((l0_2.length : Int) > 80)) a0_0 a0_1 l0_2) else (spec_HardOk.j0 k true a0_0 a0_1 l0_2))) else (spec_HardOk.j0 k true a0_0 a0_1 l0_2))) = some r := h
 clear h
 have HC2 := aM H
 clear H
 go_enter Try.func98, Try.ntmps98
 go_upto_region 1 with (first | ((with_reducible refine gate_dst (N := 1) rfl ?_); (try (refine gate_guard (by rfl) ?_; dsimp only)); refine box_event ?hg (N := 1) ?hd (cs := #[.int .i64 a0_0, .int .i64 a0_1, .slice A0_2 l0_2.length c0_2]) (t := 28) ?hr ?_; (case hd => rfl); (case hg => rfl); (case hr => first | (go_simp; done) | (go_simp; rfl)); intro gb198 hg w3 hbox hb; have BK198 := aM (hbox); have GW198 := aM (xge hg); have GE198 := aM (xge hg); replace HB := xbs hb; clear hb hbox hg))
 (try simp only [Act.put, List.setIfInBounds_toArray, List.set_cons_zero, List.set_cons_succ])
 go_cut [19] (fun v19 wc => ∃ (kq : Nat) (x19_1 : Bool), v19 = .bool x19_1 ∧ Aside0 (spec_HardOk.j0 kq x19_1 a0_0 a0_1 l0_2 = some r) ∧ Aside0 (kq ≤ k) ∧ Aside0 (wc.heap[gb198]? = some (.cells #[.int .i64 a0_0, .int .i64 a0_1, (.slice A0_2 l0_2.length c0_2)] 28 (0, 0))) ∧ Aside0 (Below w.heap.size w wc))
 case first =>
  have H := HC2.out; clear HC2; replace H := Option.bind_eq_some_iff.mp H
  obtain ⟨t199, A40, H⟩ := H
  replace H : (if t199 = true then ((spec_l1In.f a0_1 0 5).bind fun t200 => (if t200 = true then (spec_HardOk.j0 k (decide ((l0_2.length : Int) > 80)) a0_0 a0_1 l0_2) else (spec_HardOk.j0 k true a0_0 a0_1 l0_2))) else (spec_HardOk.j0 k true a0_0 a0_1 l0_2)) = some r := H; have A4 := aM A40; clear A40
  by_cases c5 : t199 = true
  ·subst c5
   have H1 : ((spec_l1In.f a0_1 0 5).bind fun t200 => (if t200 = true then (spec_HardOk.j0 k (decide ((l0_2.length : Int) > 80)) a0_0 a0_1 l0_2) else (spec_HardOk.j0 k true a0_0 a0_1 l0_2))) = some r := by rw [if_pos rfl] at H; exact H
   clear H; have H := H1; clear H1; replace H := Option.bind_eq_some_iff.mp H
   obtain ⟨t200, A60, H⟩ := H
   replace H : (if t200 = true then (spec_HardOk.j0 k (decide ((l0_2.length : Int) > 80)) a0_0 a0_1 l0_2) else (spec_HardOk.j0 k true a0_0 a0_1 l0_2)) = some r := H; have A6 := aM A60; clear A60
   by_cases c7 : t200 = true
   ·subst c7
    have H1 : (spec_HardOk.j0 k (decide ((l0_2.length : Int) > 80)) a0_0 a0_1 l0_2) = some r := by rw [if_pos rfl] at H; exact H
    clear H; have H := H1; clear H1
    have H' := aM H
    clear H; obtain ⟨hcz8_0, hcz8_1, hcz8_2, hfz8_0, hfz8_1, hfz8_2⟩ := xf3 (w := w3) BK198
    go_wp2_with (first | ((with_reducible refine gate_callee (f := 137) rfl ?_); refine goesL_ (some 6) rfl rfl Try.func137 (by kernel_rfl) rfl #[.int .i64 a0_0] rfl (by (try simp only [List.map_toArray, List.map_cons, List.map_nil]); first | done | rfl | (simp only [List.length_drop, List.length_take]; rfl)) ?_; (with_reducible refine (spec_l1Whole.calls a0_0 true _ A4.out).mono ?_); rintro e w' ⟨rfl, ⟨nd, rfl⟩⟩; refine ⟨_, rfl, ?_⟩) | (go_at_call 87; (with_reducible refine (spec_l1In.calls a0_1 0 5 true _ A6.out).mono ?_); rintro e w' ⟨rfl, ⟨nd, rfl⟩⟩))
    go_meet
    case rel => exact ⟨_, (decide ((l0_2.length : Int) > 80)), (by first | rfl | (simp; done) | (simp [*]; done)), H', ⟨by first | omega | exact Nat.le_refl _⟩, ⟨xblk⟩, ⟨xbg⟩⟩
   ·replace c7 := Bool.eq_false_iff.mpr c7
    subst c7
    have H1 : (spec_HardOk.j0 k true a0_0 a0_1 l0_2) = some r := by rw [if_neg (show ¬ (false = true) by decide)] at H; exact H
    clear H; have H := H1; clear H1
    have H' := aM H
    clear H; obtain ⟨hcz9_0, hcz9_1, hcz9_2, hfz9_0, hfz9_1, hfz9_2⟩ := xf3 (w := w3) BK198
    go_wp2_with (first | ((with_reducible refine gate_callee (f := 137) rfl ?_); refine goesL_ (some 6) rfl rfl Try.func137 (by kernel_rfl) rfl #[.int .i64 a0_0] rfl (by (try simp only [List.map_toArray, List.map_cons, List.map_nil]); first | done | rfl | (simp only [List.length_drop, List.length_take]; rfl)) ?_; (with_reducible refine (spec_l1Whole.calls a0_0 true _ A4.out).mono ?_); rintro e w' ⟨rfl, ⟨nd, rfl⟩⟩; refine ⟨_, rfl, ?_⟩) | (go_at_call 87; (with_reducible refine (spec_l1In.calls a0_1 0 5 false _ A6.out).mono ?_); rintro e w' ⟨rfl, ⟨nd, rfl⟩⟩))
    go_meet
    case rel => exact ⟨_, (true), (by first | rfl | (simp; done) | (simp [*]; done)), H', ⟨by first | omega | exact Nat.le_refl _⟩, ⟨xblk⟩, ⟨xbg⟩⟩
  ·replace c5 := Bool.eq_false_iff.mpr c5
   subst c5
   have H1 : (spec_HardOk.j0 k true a0_0 a0_1 l0_2) = some r := by rw [if_neg (show ¬ (false = true) by decide)] at H; exact H
   clear H; have H := H1; clear H1
   have H' := aM H
   clear H; obtain ⟨hcz10_0, hcz10_1, hcz10_2, hfz10_0, hfz10_1, hfz10_2⟩ := xf3 (w := w3) BK198
   go_wp2_with (first | ((with_reducible refine gate_callee (f := 137) rfl ?_); refine goesL_ (some 6) rfl rfl Try.func137 (by kernel_rfl) rfl #[.int .i64 a0_0] rfl (by (try simp only [List.map_toArray, List.map_cons, List.map_nil]); first | done | rfl | (simp only [List.length_drop, List.length_take]; rfl)) ?_; (with_reducible refine (spec_l1Whole.calls a0_0 false _ A4.out).mono ?_); rintro e w' ⟨rfl, ⟨nd, rfl⟩⟩; refine ⟨_, rfl, ?_⟩))
   go_meet
   case rel => exact ⟨_, (true), (by first | rfl | (simp; done) | (simp [*]; done)), H', ⟨by first | omega | exact Nat.le_refl _⟩, ⟨xblk⟩, ⟨xbg⟩⟩
 case rest =>
  clear HC2
  try clear c1
  try clear p2
  try clear c5
  try clear c7
  try clear c9
  try clear hcz10_0
  try clear hcz10_1
  try clear hcz10_2
  try clear hcz8_0
  try clear hcz8_1
  try clear hcz8_2
  try clear hcz9_0
  try clear hcz9_1
  try clear hcz9_2
  try clear hfz10_0
  try clear hfz10_1
  try clear hfz10_2
  try clear hfz8_0
  try clear hfz8_1
  try clear hfz8_2
  try clear hfz9_0
  try clear hfz9_1
  try clear hfz9_2
  obtain ⟨kq, x19_1, rfl, HA, HJ1, BK198, HB⟩ := hcut
  cases kq with
  | zero => exact absurd HA.out (by simp [spec_HardOk.j0])
  | succ kj1 =>
   have H := HA.out; clear HA
   simp only [spec_HardOk.j0] at H
   by_cases c11 : x19_1 = true
   ·subst c11
    have H1 : (some false) = some r := by rw [if_pos rfl] at H; exact H
    clear H; have H := H1; clear H1
    obtain rfl := Option.some.inj H
    go_wp2
    go_ret
    exact ⟨by first | rfl | (simp [errW_none, errW_some] <;> rfl) | (simp [*, errW_none, errW_some] <;> rfl), xbg⟩
   ·replace c11 := Bool.eq_false_iff.mpr c11
    subst c11
    have H1 : (spec_HardOk.l0 kj1 0 a0_0 a0_1 l0_2) = some r := by rw [if_neg (show ¬ (false = true) by decide)] at H; exact H
    clear H; have H := H1; clear H1
    have H' := aM H
    clear H
    go_wp2
    go_loopg [3] kj1 (fun kq v3 w' => ∃ (x3_2 : Int), v3 = .int .i64 x3_2 ∧ Aside0 (spec_HardOk.l0 kq x3_2 a0_0 a0_1 l0_2 = some r) ∧ Aside0 (kq ≤ kj1) ∧ Aside0 (w'.heap[gb198]? = some (.cells #[.int .i64 a0_0, .int .i64 a0_1, (.slice A0_2 l0_2.length c0_2)] 28 (0, 0))) ∧ Aside0 (Below w.heap.size w w'))
    case atStart => exact ⟨(0), (by first | rfl | (simp; done) | (simp [*]; done)), H', ⟨Nat.le_refl _⟩, ⟨xblk⟩, ⟨xbg⟩⟩
    case round =>
     clear H'
     try clear c1
     try clear p2
     try clear c5
     try clear c7
     try clear c9
     try clear c11
     try clear hcz10_0
     try clear hcz10_1
     try clear hcz10_2
     try clear hcz8_0
     try clear hcz8_1
     try clear hcz8_2
     try clear hcz9_0
     try clear hcz9_1
     try clear hcz9_2
     try clear hfz10_0
     try clear hfz10_1
     try clear hfz10_2
     try clear hfz8_0
     try clear hfz8_1
     try clear hfz8_2
     try clear hfz9_0
     try clear hfz9_1
     try clear hfz9_2
     try clear p2
     obtain ⟨x3_2, rfl, HA, HK2, BK198, HB⟩ := hrel
     cases gk with
     | zero => exact absurd HA.out (by simp [spec_HardOk.l0])
     | succ k2 =>
      have H := HA.out; clear HA
      simp only [spec_HardOk.l0] at H
      by_cases c12 : x3_2 < (l0_2.length : Int)
      ·rw [if_pos c12] at H
       have c12b0 : decide (x3_2 < (l0_2.length : Int)) = true := decide_eq_true c12; clear c12
       by_cases c13 : 0 ≤ x3_2
       ·rw [if_pos c13] at H
        have c13b0 : decide (0 ≤ x3_2) = true := decide_eq_true c13; clear c13; replace H := Option.bind_eq_some_iff.mp H
        obtain ⟨t202, A140, H⟩ := H
        replace H : (if t202 = true then (if ((rd_T36 l0_2 x3_2).f0) > a0_0 then (some false) else (if x3_2 > 0 then (if 0 ≤ (wrap64 (x3_2 - 1)) then (if (wrap64 (x3_2 - 1)) < (l0_2.length : Int) then (if ((rd_T36 l0_2 x3_2).f0) < ((rd_T36 l0_2 (wrap64 (x3_2 - 1))).f0) then (some false) else (spec_HardOk.l0 k2 (wrap64 (x3_2 + 1)) a0_0 a0_1 l0_2)) else (none)) else (none)) else (spec_HardOk.l0 k2 (wrap64 (x3_2 + 1)) a0_0 a0_1 l0_2))) else (some false)) = some r := H; have A14 := aM A140; clear A140
        by_cases c15 : t202 = true
        ·subst c15
         have H1 : (if ((rd_T36 l0_2 x3_2).f0) > a0_0 then (some false) else (if x3_2 > 0 then (if 0 ≤ (wrap64 (x3_2 - 1)) then (if (wrap64 (x3_2 - 1)) < (l0_2.length : Int) then (if ((rd_T36 l0_2 x3_2).f0) < ((rd_T36 l0_2 (wrap64 (x3_2 - 1))).f0) then (some false) else (spec_HardOk.l0 k2 (wrap64 (x3_2 + 1)) a0_0 a0_1 l0_2)) else (none)) else (none)) else (spec_HardOk.l0 k2 (wrap64 (x3_2 + 1)) a0_0 a0_1 l0_2))) = some r := by rw [if_pos rfl] at H; exact H
         clear H; have H := H1; clear H1
         by_cases c16 : ((rd_T36 l0_2 x3_2).f0) > a0_0
         ·rw [if_pos c16] at H
          have c16b0 : decide (a0_0 < ((rd_T36 l0_2 x3_2).f0)) = true := decide_eq_true c16; clear c16
          obtain rfl := Option.some.inj H
          obtain ⟨hcz17_0, hcz17_1, hcz17_2, hfz17_0, hfz17_1, hfz17_2⟩ := xf3 (w := wr) BK198
          try go_wp2
          replace BK198 := aM (blk_drew BK198.out); replace HB := aM (below_drew1 HB.out); have p201 : 0 ≤ (x3_2 : Int) := oda; have q201 : x3_2 < (l0_2.length : Int) := oda
          obtain ⟨ad201, e201, hx201_0, hx201_1, hx201_2, hx201_3, hx201_4, hx201_5⟩ := at_T36 HR0_2.out x3_2 p201 q201
          have hw201_5 := hx201_5; have hw201_4 := hx201_4; have hw201_3 := hx201_3; have hw201_2 := hx201_2; have hw201_1 := hx201_1; have hw201_0 := hx201_0
          cases e201
          replace hx201_0 := xce HB hx201_0; replace hx201_1 := xce HB hx201_1; replace hx201_2 := xce HB hx201_2; replace hx201_3 := xce HB hx201_3; replace hx201_4 := xce HB hx201_4; replace hx201_5 := xce HB hx201_5; replace p201 := eq_true p201; replace q201 := eq_true q201; have p203 : 0 ≤ (x3_2 : Int) := oda; have q203 : x3_2 < (l0_2.length : Int) := oda
          obtain ⟨ad203, e203, hx203_0, hx203_1, hx203_2, hx203_3, hx203_4, hx203_5⟩ := at_T36 HR0_2.out x3_2 p203 q203
          have hw203_5 := hx203_5; have hw203_4 := hx203_4; have hw203_3 := hx203_3; have hw203_2 := hx203_2; have hw203_1 := hx203_1; have hw203_0 := hx203_0
          obtain rfl : ad201 = ad203 := (by injection e203)
          replace hx203_0 := xce HB hx203_0; replace hx203_1 := xce HB hx203_1; replace hx203_2 := xce HB hx203_2; replace hx203_3 := xce HB hx203_3; replace hx203_4 := xce HB hx203_4; replace hx203_5 := xce HB hx203_5; replace p203 := eq_true p203; replace q203 := eq_true q203
          refine start_ (n := 38) (S := fun w' => w'.cell? ⟨gb198, 0, none⟩ = some (.int .i64 a0_0) ∧ w'.cell? ⟨gb198, 1, none⟩ = some (.int .i64 a0_1) ∧ w'.cell? ⟨gb198, 2, none⟩ = some (.slice (some ad201) l0_2.length c0_2) ∧ w'.cell? (ad201.add ((x3_2).toNat * 6)) = some (.int .i64 ((rd_T36 l0_2 x3_2).f0)) ∧ w'.cell? ⟨(ad201.add ((x3_2).toNat * 6)).block, (ad201.add ((x3_2).toNat * 6)).off + 1, none⟩ = some (.int .i64 ((rd_T36 l0_2 x3_2).f1.f0)) ∧ w'.cell? ⟨(ad201.add ((x3_2).toNat * 6)).block, (ad201.add ((x3_2).toNat * 6)).off + 2, none⟩ = some (.int .i64 ((rd_T36 l0_2 x3_2).f1.f1)) ∧ w'.cell? ⟨(ad201.add ((x3_2).toNat * 6)).block, (ad201.add ((x3_2).toNat * 6)).off + 3, none⟩ = some (.int .i64 ((rd_T36 l0_2 x3_2).f1.f2)) ∧ w'.cell? ⟨(ad201.add ((x3_2).toNat * 6)).block, (ad201.add ((x3_2).toNat * 6)).off + 4, none⟩ = some (.int .i64 ((rd_T36 l0_2 x3_2).f1.f3)) ∧ w'.cell? ⟨(ad201.add ((x3_2).toNat * 6)).block, (ad201.add ((x3_2).toNat * 6)).off + 5, none⟩ = some (.string ((rd_T36 l0_2 x3_2).f1.f4)) ∧ w'.cell? (ad201.add ((x3_2).toNat * 6)) = some (.int .i64 ((rd_T36 l0_2 x3_2).f0)) ∧ w'.cell? ⟨(ad201.add ((x3_2).toNat * 6)).block, (ad201.add ((x3_2).toNat * 6)).off + 1, none⟩ = some (.int .i64 ((rd_T36 l0_2 x3_2).f1.f0)) ∧ w'.cell? ⟨(ad201.add ((x3_2).toNat * 6)).block, (ad201.add ((x3_2).toNat * 6)).off + 2, none⟩ = some (.int .i64 ((rd_T36 l0_2 x3_2).f1.f1)) ∧ w'.cell? ⟨(ad201.add ((x3_2).toNat * 6)).block, (ad201.add ((x3_2).toNat * 6)).off + 3, none⟩ = some (.int .i64 ((rd_T36 l0_2 x3_2).f1.f2)) ∧ w'.cell? ⟨(ad201.add ((x3_2).toNat * 6)).block, (ad201.add ((x3_2).toNat * 6)).off + 4, none⟩ = some (.int .i64 ((rd_T36 l0_2 x3_2).f1.f3)) ∧ w'.cell? ⟨(ad201.add ((x3_2).toNat * 6)).block, (ad201.add ((x3_2).toNat * 6)).off + 5, none⟩ = some (.string ((rd_T36 l0_2 x3_2).f1.f4))) (ds := []) #[false, false, false, false, false, false, false, false, false, false, false, false, false, false, false, false, false, false, false, false, false, false, false, false, false, false, false, false, false, false, false, false, false, false, false, false, false, false] (by kernel_rfl) rfl rfl ⟨xc BK198 0 rfl, xc BK198 1 rfl, xc BK198 2 rfl, (xce HB hw201_0), (xce HB hw201_1), (xce HB hw201_2), (xce HB hw201_3), (xce HB hw201_4), (xce HB hw201_5), (xce HB hw203_0), (xce HB hw203_1), (xce HB hw203_2), (xce HB hw203_3), (xce HB hw203_4), (xce HB hw203_5)⟩ (fun hHeld => ?_); refine with_tabW spec_HardOk.tab6 spec_HardOk.bits6 (fun HT_ HW_ => ?_)
          generalize wr.drew = w18 at BK198 HB hx201_0 hx201_1 hx201_2 hx201_3 hx201_4 hx201_5 hx203_0 hx203_1 hx203_2 hx203_3 hx203_4 hx203_5 hHeld ⊢
          refine pv_ 0 27 (h := ?_)
          refine pv_ 2 29 (h := ?_)
          refine tk_ 1 28 (h := ?_)
          refine pv_ 3 30 (h := ?_)
          refine tk_ 4 31 (h := ?_)
          refine on_ 5 32 (h := fun K hK => ?_)
          refine goesY Try.func138 #[.agg #[.int .i64 ((rd_T36 l0_2 x3_2).f0), .int .i64 ((rd_T36 l0_2 x3_2).f1.f0), .int .i64 ((rd_T36 l0_2 x3_2).f1.f1), .int .i64 ((rd_T36 l0_2 x3_2).f1.f2), .int .i64 ((rd_T36 l0_2 x3_2).f1.f3), .string ((rd_T36 l0_2 x3_2).f1.f4)]] ?_
          with_reducible refine (spec_l6Entry.calls k2 ((rd_T36 l0_2 x3_2).f0) ((rd_T36 l0_2 x3_2).f1.f0) ((rd_T36 l0_2 x3_2).f1.f1) ((rd_T36 l0_2 x3_2).f1.f2) ((rd_T36 l0_2 x3_2).f1.f3) ((rd_T36 l0_2 x3_2).f1.f4) true _ A14.out).mono ?_
          rintro e w19 ⟨rfl, hb⟩
          refine ⟨_, rfl, ?_⟩
          replace BK198 := xbb BK198 hb; replace HB := xbs hb
          (try clear hb); (try clear hb2); (try clear hk); (try clear hi)
          refine hK.out _ _ ⟨xc BK198 0 rfl, xc BK198 1 rfl, xc BK198 2 rfl, (xce HB hw201_0), (xce HB hw201_1), (xce HB hw201_2), (xce HB hw201_3), (xce HB hw201_4), (xce HB hw201_5), (xce HB hw203_0), (xce HB hw203_1), (xce HB hw203_2), (xce HB hw203_3), (xce HB hw203_4), (xce HB hw203_5)⟩ (fun hHeld => ?_)
          clear hK K
          refine norm_ (a' := ?_) ?_ ?_
          rotate_left
          ·show Act.put _ (some 32) _ = _
           simp only [Act.put, List.setIfInBounds_toArray, List.set_cons_zero, List.set_cons_succ, i64_w, i32_w]
           rfl
          refine pv_ 6 33 (h := ?_)
          refine pv_ 7 34 (h := ?_)
          refine pv_ 8 35 (h := ?_)
          refine pv_ 10 37 (h := ?_)
          refine pv_ 14 41 (h := ?_)
          refine tk_ 9 36 (h := ?_)
          refine pv_ 11 38 (h := ?_)
          refine pv_ 12 39 (h := ?_)
          refine tk_ 13 40 (h := ?_)
          refine tk_ 15 42 (h := ?_)
          refine pv_ 16 43 (h := ?_)
          refine pv_ 17 44 (h := ?_)
          refine pv_ 18 45 (h := ?_)
          refine pu_ 19 46 (h := ?_)
          refine pu_ 20 47 (h := ?_)
          refine pu_ 21 48 (h := ?_)
          refine pu_ 22 49 (h := ?_)
          refine pu_ 23 50 (h := ?_)
          refine pu_ 24 51 (h := ?_)
          refine pu_ 25 52 (h := ?_)
          refine pu_ 26 53 (h := ?_)
          refine pu_ 27 54 (h := ?_)
          refine pu_ 28 55 (h := ?_)
          refine pu_ 29 56 (h := ?_)
          refine pu_ 30 57 (h := ?_)
          refine pu_ 31 58 (h := ?_)
          refine pu_ 32 59 (h := ?_)
          refine pu_ 33 60 (h := ?_)
          refine pu_ 34 61 (h := ?_)
          refine pu_ 35 62 (h := ?_)
          refine pu_ 36 63 (h := ?_)
          refine pv_ 37 64 (h := ?_)
          refine done_ (done_of HT_.out (by kernel_rfl)) ?_
          try go_wp2
          go_ret
          exact ⟨by first | rfl | (simp [errW_none, errW_some] <;> rfl) | (simp [*, errW_none, errW_some] <;> rfl), xbg⟩
         ·rw [if_neg c16] at H
          have c16b0 : decide (a0_0 < ((rd_T36 l0_2 x3_2).f0)) = false := decide_eq_false c16; clear c16
          by_cases c20 : x3_2 > 0
          ·rw [if_pos c20] at H
           have c20b0 : decide (0 < x3_2) = true := decide_eq_true c20; clear c20
           obtain ⟨ji21, hji21⟩ : ∃ j_ : Int, (wrap64 (x3_2 - 1)) = j_ := ⟨_, rfl⟩
           replace H : (if 0 ≤ (ji21) then (if (ji21) < (l0_2.length : Int) then (if ((rd_T36 l0_2 x3_2).f0) < ((rd_T36 l0_2 (ji21)).f0) then (some false) else (spec_HardOk.l0 k2 (wrap64 (x3_2 + 1)) a0_0 a0_1 l0_2)) else (none)) else (none)) = some r := by first | (rw [hji21] at H; exact H) | (simp only [hji21] at H ⊢; exact H)
           (try rw [hji21] at A14)
           have hji21w : (IntKind.i64.wrap (x3_2 - 1)) = ji21 := (i64_w _).trans hji21
           by_cases c22 : 0 ≤ (ji21)
           ·rw [if_pos c22] at H
            have c22b0 : decide (0 ≤ (ji21)) = true := decide_eq_true c22; clear c22
            by_cases c23 : (ji21) < (l0_2.length : Int)
            ·rw [if_pos c23] at H
             have c23b0 : decide ((ji21) < (l0_2.length : Int)) = true := decide_eq_true c23; clear c23
             by_cases c24 : ((rd_T36 l0_2 x3_2).f0) < ((rd_T36 l0_2 (ji21)).f0)
             ·rw [if_pos c24] at H
              have c24b0 : decide (((rd_T36 l0_2 x3_2).f0) < ((rd_T36 l0_2 (ji21)).f0)) = true := decide_eq_true c24; clear c24
              obtain rfl := Option.some.inj H
              obtain ⟨hcz25_0, hcz25_1, hcz25_2, hfz25_0, hfz25_1, hfz25_2⟩ := xf3 (w := wr) BK198
              try go_wp2
              replace BK198 := aM (blk_drew BK198.out); replace HB := aM (below_drew1 HB.out); have p201 : 0 ≤ (x3_2 : Int) := oda; have q201 : x3_2 < (l0_2.length : Int) := oda
              obtain ⟨ad201, e201, hx201_0, hx201_1, hx201_2, hx201_3, hx201_4, hx201_5⟩ := at_T36 HR0_2.out x3_2 p201 q201
              have hw201_5 := hx201_5; have hw201_4 := hx201_4; have hw201_3 := hx201_3; have hw201_2 := hx201_2; have hw201_1 := hx201_1; have hw201_0 := hx201_0
              cases e201
              replace hx201_0 := xce HB hx201_0; replace hx201_1 := xce HB hx201_1; replace hx201_2 := xce HB hx201_2; replace hx201_3 := xce HB hx201_3; replace hx201_4 := xce HB hx201_4; replace hx201_5 := xce HB hx201_5; replace p201 := eq_true p201; replace q201 := eq_true q201; have p203 : 0 ≤ (x3_2 : Int) := oda; have q203 : x3_2 < (l0_2.length : Int) := oda
              obtain ⟨ad203, e203, hx203_0, hx203_1, hx203_2, hx203_3, hx203_4, hx203_5⟩ := at_T36 HR0_2.out x3_2 p203 q203
              have hw203_5 := hx203_5; have hw203_4 := hx203_4; have hw203_3 := hx203_3; have hw203_2 := hx203_2; have hw203_1 := hx203_1; have hw203_0 := hx203_0
              obtain rfl : ad201 = ad203 := (by injection e203)
              replace hx203_0 := xce HB hx203_0; replace hx203_1 := xce HB hx203_1; replace hx203_2 := xce HB hx203_2; replace hx203_3 := xce HB hx203_3; replace hx203_4 := xce HB hx203_4; replace hx203_5 := xce HB hx203_5; replace p203 := eq_true p203; replace q203 := eq_true q203; have p204 : 0 ≤ (x3_2 : Int) := oda; have q204 : x3_2 < (l0_2.length : Int) := oda
              obtain ⟨ad204, e204, hx204_0, hx204_1, hx204_2, hx204_3, hx204_4, hx204_5⟩ := at_T36 HR0_2.out x3_2 p204 q204
              have hw204_5 := hx204_5; have hw204_4 := hx204_4; have hw204_3 := hx204_3; have hw204_2 := hx204_2; have hw204_1 := hx204_1; have hw204_0 := hx204_0
              obtain rfl : ad201 = ad204 := (by injection e204)
              replace hx204_0 := xce HB hx204_0; replace hx204_1 := xce HB hx204_1; replace hx204_2 := xce HB hx204_2; replace hx204_3 := xce HB hx204_3; replace hx204_4 := xce HB hx204_4; replace hx204_5 := xce HB hx204_5; replace p204 := eq_true p204; replace q204 := eq_true q204; have p205 : 0 ≤ ((ji21) : Int) := oda; have q205 : (ji21) < (l0_2.length : Int) := oda
              obtain ⟨ad205, e205, hx205_0, hx205_1, hx205_2, hx205_3, hx205_4, hx205_5⟩ := at_T36 HR0_2.out (ji21) p205 q205
              have hw205_5 := hx205_5; have hw205_4 := hx205_4; have hw205_3 := hx205_3; have hw205_2 := hx205_2; have hw205_1 := hx205_1; have hw205_0 := hx205_0
              obtain rfl : ad201 = ad205 := (by injection e205)
              replace hx205_0 := xce HB hx205_0; replace hx205_1 := xce HB hx205_1; replace hx205_2 := xce HB hx205_2; replace hx205_3 := xce HB hx205_3; replace hx205_4 := xce HB hx205_4; replace hx205_5 := xce HB hx205_5; replace p205 := eq_true p205; replace q205 := eq_true q205
              refine start_ (n := 38) (S := fun w' => w'.cell? ⟨gb198, 0, none⟩ = some (.int .i64 a0_0) ∧ w'.cell? ⟨gb198, 1, none⟩ = some (.int .i64 a0_1) ∧ w'.cell? ⟨gb198, 2, none⟩ = some (.slice (some ad201) l0_2.length c0_2) ∧ w'.cell? (ad201.add ((x3_2).toNat * 6)) = some (.int .i64 ((rd_T36 l0_2 x3_2).f0)) ∧ w'.cell? ⟨(ad201.add ((x3_2).toNat * 6)).block, (ad201.add ((x3_2).toNat * 6)).off + 1, none⟩ = some (.int .i64 ((rd_T36 l0_2 x3_2).f1.f0)) ∧ w'.cell? ⟨(ad201.add ((x3_2).toNat * 6)).block, (ad201.add ((x3_2).toNat * 6)).off + 2, none⟩ = some (.int .i64 ((rd_T36 l0_2 x3_2).f1.f1)) ∧ w'.cell? ⟨(ad201.add ((x3_2).toNat * 6)).block, (ad201.add ((x3_2).toNat * 6)).off + 3, none⟩ = some (.int .i64 ((rd_T36 l0_2 x3_2).f1.f2)) ∧ w'.cell? ⟨(ad201.add ((x3_2).toNat * 6)).block, (ad201.add ((x3_2).toNat * 6)).off + 4, none⟩ = some (.int .i64 ((rd_T36 l0_2 x3_2).f1.f3)) ∧ w'.cell? ⟨(ad201.add ((x3_2).toNat * 6)).block, (ad201.add ((x3_2).toNat * 6)).off + 5, none⟩ = some (.string ((rd_T36 l0_2 x3_2).f1.f4)) ∧ w'.cell? (ad201.add ((x3_2).toNat * 6)) = some (.int .i64 ((rd_T36 l0_2 x3_2).f0)) ∧ w'.cell? ⟨(ad201.add ((x3_2).toNat * 6)).block, (ad201.add ((x3_2).toNat * 6)).off + 1, none⟩ = some (.int .i64 ((rd_T36 l0_2 x3_2).f1.f0)) ∧ w'.cell? ⟨(ad201.add ((x3_2).toNat * 6)).block, (ad201.add ((x3_2).toNat * 6)).off + 2, none⟩ = some (.int .i64 ((rd_T36 l0_2 x3_2).f1.f1)) ∧ w'.cell? ⟨(ad201.add ((x3_2).toNat * 6)).block, (ad201.add ((x3_2).toNat * 6)).off + 3, none⟩ = some (.int .i64 ((rd_T36 l0_2 x3_2).f1.f2)) ∧ w'.cell? ⟨(ad201.add ((x3_2).toNat * 6)).block, (ad201.add ((x3_2).toNat * 6)).off + 4, none⟩ = some (.int .i64 ((rd_T36 l0_2 x3_2).f1.f3)) ∧ w'.cell? ⟨(ad201.add ((x3_2).toNat * 6)).block, (ad201.add ((x3_2).toNat * 6)).off + 5, none⟩ = some (.string ((rd_T36 l0_2 x3_2).f1.f4)) ∧ w'.cell? (ad201.add ((x3_2).toNat * 6)) = some (.int .i64 ((rd_T36 l0_2 x3_2).f0)) ∧ w'.cell? ⟨(ad201.add ((x3_2).toNat * 6)).block, (ad201.add ((x3_2).toNat * 6)).off + 1, none⟩ = some (.int .i64 ((rd_T36 l0_2 x3_2).f1.f0)) ∧ w'.cell? ⟨(ad201.add ((x3_2).toNat * 6)).block, (ad201.add ((x3_2).toNat * 6)).off + 2, none⟩ = some (.int .i64 ((rd_T36 l0_2 x3_2).f1.f1)) ∧ w'.cell? ⟨(ad201.add ((x3_2).toNat * 6)).block, (ad201.add ((x3_2).toNat * 6)).off + 3, none⟩ = some (.int .i64 ((rd_T36 l0_2 x3_2).f1.f2)) ∧ w'.cell? ⟨(ad201.add ((x3_2).toNat * 6)).block, (ad201.add ((x3_2).toNat * 6)).off + 4, none⟩ = some (.int .i64 ((rd_T36 l0_2 x3_2).f1.f3)) ∧ w'.cell? ⟨(ad201.add ((x3_2).toNat * 6)).block, (ad201.add ((x3_2).toNat * 6)).off + 5, none⟩ = some (.string ((rd_T36 l0_2 x3_2).f1.f4)) ∧ w'.cell? (ad201.add (((ji21)).toNat * 6)) = some (.int .i64 ((rd_T36 l0_2 (ji21)).f0)) ∧ w'.cell? ⟨(ad201.add (((ji21)).toNat * 6)).block, (ad201.add (((ji21)).toNat * 6)).off + 1, none⟩ = some (.int .i64 ((rd_T36 l0_2 (ji21)).f1.f0)) ∧ w'.cell? ⟨(ad201.add (((ji21)).toNat * 6)).block, (ad201.add (((ji21)).toNat * 6)).off + 2, none⟩ = some (.int .i64 ((rd_T36 l0_2 (ji21)).f1.f1)) ∧ w'.cell? ⟨(ad201.add (((ji21)).toNat * 6)).block, (ad201.add (((ji21)).toNat * 6)).off + 3, none⟩ = some (.int .i64 ((rd_T36 l0_2 (ji21)).f1.f2)) ∧ w'.cell? ⟨(ad201.add (((ji21)).toNat * 6)).block, (ad201.add (((ji21)).toNat * 6)).off + 4, none⟩ = some (.int .i64 ((rd_T36 l0_2 (ji21)).f1.f3)) ∧ w'.cell? ⟨(ad201.add (((ji21)).toNat * 6)).block, (ad201.add (((ji21)).toNat * 6)).off + 5, none⟩ = some (.string ((rd_T36 l0_2 (ji21)).f1.f4))) (ds := []) #[false, false, false, false, false, false, false, false, false, false, false, false, false, false, false, false, false, false, false, false, false, false, false, false, false, false, false, false, false, false, false, false, false, false, false, false, false, false] (by kernel_rfl) rfl rfl ⟨xc BK198 0 rfl, xc BK198 1 rfl, xc BK198 2 rfl, (xce HB hw201_0), (xce HB hw201_1), (xce HB hw201_2), (xce HB hw201_3), (xce HB hw201_4), (xce HB hw201_5), (xce HB hw203_0), (xce HB hw203_1), (xce HB hw203_2), (xce HB hw203_3), (xce HB hw203_4), (xce HB hw203_5), (xce HB hw204_0), (xce HB hw204_1), (xce HB hw204_2), (xce HB hw204_3), (xce HB hw204_4), (xce HB hw204_5), (xce HB hw205_0), (xce HB hw205_1), (xce HB hw205_2), (xce HB hw205_3), (xce HB hw205_4), (xce HB hw205_5)⟩ (fun hHeld => ?_); refine with_tabW spec_HardOk.tab6 spec_HardOk.bits6 (fun HT_ HW_ => ?_)
              generalize wr.drew = w26 at BK198 HB hx201_0 hx201_1 hx201_2 hx201_3 hx201_4 hx201_5 hx203_0 hx203_1 hx203_2 hx203_3 hx203_4 hx203_5 hx204_0 hx204_1 hx204_2 hx204_3 hx204_4 hx204_5 hx205_0 hx205_1 hx205_2 hx205_3 hx205_4 hx205_5 hHeld ⊢
              refine pv_ 0 27 (h := ?_)
              refine pv_ 2 29 (h := ?_)
              refine tk_ 1 28 (h := ?_)
              refine pv_ 3 30 (h := ?_)
              refine tk_ 4 31 (h := ?_)
              refine on_ 5 32 (h := fun K hK => ?_)
              refine goesY Try.func138 #[.agg #[.int .i64 ((rd_T36 l0_2 x3_2).f0), .int .i64 ((rd_T36 l0_2 x3_2).f1.f0), .int .i64 ((rd_T36 l0_2 x3_2).f1.f1), .int .i64 ((rd_T36 l0_2 x3_2).f1.f2), .int .i64 ((rd_T36 l0_2 x3_2).f1.f3), .string ((rd_T36 l0_2 x3_2).f1.f4)]] ?_
              with_reducible refine (spec_l6Entry.calls k2 ((rd_T36 l0_2 x3_2).f0) ((rd_T36 l0_2 x3_2).f1.f0) ((rd_T36 l0_2 x3_2).f1.f1) ((rd_T36 l0_2 x3_2).f1.f2) ((rd_T36 l0_2 x3_2).f1.f3) ((rd_T36 l0_2 x3_2).f1.f4) true _ A14.out).mono ?_
              rintro e w27 ⟨rfl, hb⟩
              refine ⟨_, rfl, ?_⟩
              replace BK198 := xbb BK198 hb; replace HB := xbs hb
              (try clear hb); (try clear hb2); (try clear hk); (try clear hi)
              refine hK.out _ _ ⟨xc BK198 0 rfl, xc BK198 1 rfl, xc BK198 2 rfl, (xce HB hw201_0), (xce HB hw201_1), (xce HB hw201_2), (xce HB hw201_3), (xce HB hw201_4), (xce HB hw201_5), (xce HB hw203_0), (xce HB hw203_1), (xce HB hw203_2), (xce HB hw203_3), (xce HB hw203_4), (xce HB hw203_5), (xce HB hw204_0), (xce HB hw204_1), (xce HB hw204_2), (xce HB hw204_3), (xce HB hw204_4), (xce HB hw204_5), (xce HB hw205_0), (xce HB hw205_1), (xce HB hw205_2), (xce HB hw205_3), (xce HB hw205_4), (xce HB hw205_5)⟩ (fun hHeld => ?_)
              clear hK K
              refine norm_ (a' := ?_) ?_ ?_
              rotate_left
              ·show Act.put _ (some 32) _ = _
               simp only [Act.put, List.setIfInBounds_toArray, List.set_cons_zero, List.set_cons_succ, i64_w, i32_w]
               rfl
              refine pv_ 6 33 (h := ?_)
              refine pv_ 7 34 (h := ?_)
              refine pv_ 8 35 (h := ?_)
              refine pv_ 10 37 (h := ?_)
              refine pv_ 14 41 (h := ?_)
              refine tk_ 9 36 (h := ?_)
              refine pv_ 11 38 (h := ?_)
              refine pv_ 12 39 (h := ?_)
              refine tk_ 13 40 (h := ?_)
              refine tk_ 15 42 (h := ?_)
              refine pv_ 16 43 (h := ?_)
              refine pv_ 17 44 (h := ?_)
              refine pv_ 18 45 (h := ?_)
              refine pv_ 19 46 (h := ?_)
              refine pv_ 20 47 (h := ?_)
              refine pv_ 21 48 (h := ?_)
              refine pv_ 22 49 (h := ?_)
              refine pv_ 24 51 (h := ?_)
              refine pv_ 28 55 (h := ?_)
              refine pv_ 30 57 (h := ?_)
              refine pv_ 31 58 (h := ?_)
              refine tk_ 23 50 (h := ?_)
              refine pv_ 25 52 (h := ?_)
              refine pv_ 26 53 (h := ?_)
              refine tk_ 27 54 (h := ?_)
              refine tk_ 29 56 (h := ?_)
              refine pv_ 32 59 (h := ?_)
              refine pv_ 33 60 (h := ?_)
              refine tk_ 34 61 (h := ?_)
              refine pv_ 35 62 (h := ?_)
              refine pv_ 36 63 (h := ?_)
              refine pv_ 37 64 (h := ?_)
              refine done_ (done_of HT_.out (by kernel_rfl)) ?_
              try go_wp2
              go_ret
              exact ⟨by first | rfl | (simp [errW_none, errW_some] <;> rfl) | (simp only [← hji21]; first | rfl | (simp [errW_none, errW_some] <;> rfl)) | (simp [*, errW_none, errW_some] <;> rfl), xbg⟩
             ·rw [if_neg c24] at H
              have c24b0 : decide (((rd_T36 l0_2 x3_2).f0) < ((rd_T36 l0_2 (ji21)).f0)) = false := decide_eq_false c24; clear c24
              have H' := aM H
              clear H; obtain ⟨hcz28_0, hcz28_1, hcz28_2, hfz28_0, hfz28_1, hfz28_2⟩ := xf3 (w := wr) BK198
              try go_wp2
              replace BK198 := aM (blk_drew BK198.out); replace HB := aM (below_drew1 HB.out); have p201 : 0 ≤ (x3_2 : Int) := oda; have q201 : x3_2 < (l0_2.length : Int) := oda
              obtain ⟨ad201, e201, hx201_0, hx201_1, hx201_2, hx201_3, hx201_4, hx201_5⟩ := at_T36 HR0_2.out x3_2 p201 q201
              have hw201_5 := hx201_5; have hw201_4 := hx201_4; have hw201_3 := hx201_3; have hw201_2 := hx201_2; have hw201_1 := hx201_1; have hw201_0 := hx201_0
              cases e201
              replace hx201_0 := xce HB hx201_0; replace hx201_1 := xce HB hx201_1; replace hx201_2 := xce HB hx201_2; replace hx201_3 := xce HB hx201_3; replace hx201_4 := xce HB hx201_4; replace hx201_5 := xce HB hx201_5; replace p201 := eq_true p201; replace q201 := eq_true q201; have p203 : 0 ≤ (x3_2 : Int) := oda; have q203 : x3_2 < (l0_2.length : Int) := oda
              obtain ⟨ad203, e203, hx203_0, hx203_1, hx203_2, hx203_3, hx203_4, hx203_5⟩ := at_T36 HR0_2.out x3_2 p203 q203
              have hw203_5 := hx203_5; have hw203_4 := hx203_4; have hw203_3 := hx203_3; have hw203_2 := hx203_2; have hw203_1 := hx203_1; have hw203_0 := hx203_0
              obtain rfl : ad201 = ad203 := (by injection e203)
              replace hx203_0 := xce HB hx203_0; replace hx203_1 := xce HB hx203_1; replace hx203_2 := xce HB hx203_2; replace hx203_3 := xce HB hx203_3; replace hx203_4 := xce HB hx203_4; replace hx203_5 := xce HB hx203_5; replace p203 := eq_true p203; replace q203 := eq_true q203; have p204 : 0 ≤ (x3_2 : Int) := oda; have q204 : x3_2 < (l0_2.length : Int) := oda
              obtain ⟨ad204, e204, hx204_0, hx204_1, hx204_2, hx204_3, hx204_4, hx204_5⟩ := at_T36 HR0_2.out x3_2 p204 q204
              have hw204_5 := hx204_5; have hw204_4 := hx204_4; have hw204_3 := hx204_3; have hw204_2 := hx204_2; have hw204_1 := hx204_1; have hw204_0 := hx204_0
              obtain rfl : ad201 = ad204 := (by injection e204)
              replace hx204_0 := xce HB hx204_0; replace hx204_1 := xce HB hx204_1; replace hx204_2 := xce HB hx204_2; replace hx204_3 := xce HB hx204_3; replace hx204_4 := xce HB hx204_4; replace hx204_5 := xce HB hx204_5; replace p204 := eq_true p204; replace q204 := eq_true q204; have p205 : 0 ≤ ((ji21) : Int) := oda; have q205 : (ji21) < (l0_2.length : Int) := oda
              obtain ⟨ad205, e205, hx205_0, hx205_1, hx205_2, hx205_3, hx205_4, hx205_5⟩ := at_T36 HR0_2.out (ji21) p205 q205
              have hw205_5 := hx205_5; have hw205_4 := hx205_4; have hw205_3 := hx205_3; have hw205_2 := hx205_2; have hw205_1 := hx205_1; have hw205_0 := hx205_0
              obtain rfl : ad201 = ad205 := (by injection e205)
              replace hx205_0 := xce HB hx205_0; replace hx205_1 := xce HB hx205_1; replace hx205_2 := xce HB hx205_2; replace hx205_3 := xce HB hx205_3; replace hx205_4 := xce HB hx205_4; replace hx205_5 := xce HB hx205_5; replace p205 := eq_true p205; replace q205 := eq_true q205
              refine start_ (n := 38) (S := fun w' => w'.cell? ⟨gb198, 0, none⟩ = some (.int .i64 a0_0) ∧ w'.cell? ⟨gb198, 1, none⟩ = some (.int .i64 a0_1) ∧ w'.cell? ⟨gb198, 2, none⟩ = some (.slice (some ad201) l0_2.length c0_2) ∧ w'.cell? (ad201.add ((x3_2).toNat * 6)) = some (.int .i64 ((rd_T36 l0_2 x3_2).f0)) ∧ w'.cell? ⟨(ad201.add ((x3_2).toNat * 6)).block, (ad201.add ((x3_2).toNat * 6)).off + 1, none⟩ = some (.int .i64 ((rd_T36 l0_2 x3_2).f1.f0)) ∧ w'.cell? ⟨(ad201.add ((x3_2).toNat * 6)).block, (ad201.add ((x3_2).toNat * 6)).off + 2, none⟩ = some (.int .i64 ((rd_T36 l0_2 x3_2).f1.f1)) ∧ w'.cell? ⟨(ad201.add ((x3_2).toNat * 6)).block, (ad201.add ((x3_2).toNat * 6)).off + 3, none⟩ = some (.int .i64 ((rd_T36 l0_2 x3_2).f1.f2)) ∧ w'.cell? ⟨(ad201.add ((x3_2).toNat * 6)).block, (ad201.add ((x3_2).toNat * 6)).off + 4, none⟩ = some (.int .i64 ((rd_T36 l0_2 x3_2).f1.f3)) ∧ w'.cell? ⟨(ad201.add ((x3_2).toNat * 6)).block, (ad201.add ((x3_2).toNat * 6)).off + 5, none⟩ = some (.string ((rd_T36 l0_2 x3_2).f1.f4)) ∧ w'.cell? (ad201.add ((x3_2).toNat * 6)) = some (.int .i64 ((rd_T36 l0_2 x3_2).f0)) ∧ w'.cell? ⟨(ad201.add ((x3_2).toNat * 6)).block, (ad201.add ((x3_2).toNat * 6)).off + 1, none⟩ = some (.int .i64 ((rd_T36 l0_2 x3_2).f1.f0)) ∧ w'.cell? ⟨(ad201.add ((x3_2).toNat * 6)).block, (ad201.add ((x3_2).toNat * 6)).off + 2, none⟩ = some (.int .i64 ((rd_T36 l0_2 x3_2).f1.f1)) ∧ w'.cell? ⟨(ad201.add ((x3_2).toNat * 6)).block, (ad201.add ((x3_2).toNat * 6)).off + 3, none⟩ = some (.int .i64 ((rd_T36 l0_2 x3_2).f1.f2)) ∧ w'.cell? ⟨(ad201.add ((x3_2).toNat * 6)).block, (ad201.add ((x3_2).toNat * 6)).off + 4, none⟩ = some (.int .i64 ((rd_T36 l0_2 x3_2).f1.f3)) ∧ w'.cell? ⟨(ad201.add ((x3_2).toNat * 6)).block, (ad201.add ((x3_2).toNat * 6)).off + 5, none⟩ = some (.string ((rd_T36 l0_2 x3_2).f1.f4)) ∧ w'.cell? (ad201.add ((x3_2).toNat * 6)) = some (.int .i64 ((rd_T36 l0_2 x3_2).f0)) ∧ w'.cell? ⟨(ad201.add ((x3_2).toNat * 6)).block, (ad201.add ((x3_2).toNat * 6)).off + 1, none⟩ = some (.int .i64 ((rd_T36 l0_2 x3_2).f1.f0)) ∧ w'.cell? ⟨(ad201.add ((x3_2).toNat * 6)).block, (ad201.add ((x3_2).toNat * 6)).off + 2, none⟩ = some (.int .i64 ((rd_T36 l0_2 x3_2).f1.f1)) ∧ w'.cell? ⟨(ad201.add ((x3_2).toNat * 6)).block, (ad201.add ((x3_2).toNat * 6)).off + 3, none⟩ = some (.int .i64 ((rd_T36 l0_2 x3_2).f1.f2)) ∧ w'.cell? ⟨(ad201.add ((x3_2).toNat * 6)).block, (ad201.add ((x3_2).toNat * 6)).off + 4, none⟩ = some (.int .i64 ((rd_T36 l0_2 x3_2).f1.f3)) ∧ w'.cell? ⟨(ad201.add ((x3_2).toNat * 6)).block, (ad201.add ((x3_2).toNat * 6)).off + 5, none⟩ = some (.string ((rd_T36 l0_2 x3_2).f1.f4)) ∧ w'.cell? (ad201.add (((ji21)).toNat * 6)) = some (.int .i64 ((rd_T36 l0_2 (ji21)).f0)) ∧ w'.cell? ⟨(ad201.add (((ji21)).toNat * 6)).block, (ad201.add (((ji21)).toNat * 6)).off + 1, none⟩ = some (.int .i64 ((rd_T36 l0_2 (ji21)).f1.f0)) ∧ w'.cell? ⟨(ad201.add (((ji21)).toNat * 6)).block, (ad201.add (((ji21)).toNat * 6)).off + 2, none⟩ = some (.int .i64 ((rd_T36 l0_2 (ji21)).f1.f1)) ∧ w'.cell? ⟨(ad201.add (((ji21)).toNat * 6)).block, (ad201.add (((ji21)).toNat * 6)).off + 3, none⟩ = some (.int .i64 ((rd_T36 l0_2 (ji21)).f1.f2)) ∧ w'.cell? ⟨(ad201.add (((ji21)).toNat * 6)).block, (ad201.add (((ji21)).toNat * 6)).off + 4, none⟩ = some (.int .i64 ((rd_T36 l0_2 (ji21)).f1.f3)) ∧ w'.cell? ⟨(ad201.add (((ji21)).toNat * 6)).block, (ad201.add (((ji21)).toNat * 6)).off + 5, none⟩ = some (.string ((rd_T36 l0_2 (ji21)).f1.f4))) (ds := []) #[false, false, false, false, false, false, false, false, false, false, false, false, false, false, false, false, false, false, false, false, false, false, false, false, false, false, false, false, false, false, false, false, false, false, false, false, false, false] (by kernel_rfl) rfl rfl ⟨xc BK198 0 rfl, xc BK198 1 rfl, xc BK198 2 rfl, (xce HB hw201_0), (xce HB hw201_1), (xce HB hw201_2), (xce HB hw201_3), (xce HB hw201_4), (xce HB hw201_5), (xce HB hw203_0), (xce HB hw203_1), (xce HB hw203_2), (xce HB hw203_3), (xce HB hw203_4), (xce HB hw203_5), (xce HB hw204_0), (xce HB hw204_1), (xce HB hw204_2), (xce HB hw204_3), (xce HB hw204_4), (xce HB hw204_5), (xce HB hw205_0), (xce HB hw205_1), (xce HB hw205_2), (xce HB hw205_3), (xce HB hw205_4), (xce HB hw205_5)⟩ (fun hHeld => ?_); refine with_tabW spec_HardOk.tab6 spec_HardOk.bits6 (fun HT_ HW_ => ?_)
              generalize wr.drew = w29 at BK198 HB hx201_0 hx201_1 hx201_2 hx201_3 hx201_4 hx201_5 hx203_0 hx203_1 hx203_2 hx203_3 hx203_4 hx203_5 hx204_0 hx204_1 hx204_2 hx204_3 hx204_4 hx204_5 hx205_0 hx205_1 hx205_2 hx205_3 hx205_4 hx205_5 hHeld ⊢
              refine pv_ 0 27 (h := ?_)
              refine pv_ 2 29 (h := ?_)
              refine tk_ 1 28 (h := ?_)
              refine pv_ 3 30 (h := ?_)
              refine tk_ 4 31 (h := ?_)
              refine on_ 5 32 (h := fun K hK => ?_)
              refine goesY Try.func138 #[.agg #[.int .i64 ((rd_T36 l0_2 x3_2).f0), .int .i64 ((rd_T36 l0_2 x3_2).f1.f0), .int .i64 ((rd_T36 l0_2 x3_2).f1.f1), .int .i64 ((rd_T36 l0_2 x3_2).f1.f2), .int .i64 ((rd_T36 l0_2 x3_2).f1.f3), .string ((rd_T36 l0_2 x3_2).f1.f4)]] ?_
              with_reducible refine (spec_l6Entry.calls k2 ((rd_T36 l0_2 x3_2).f0) ((rd_T36 l0_2 x3_2).f1.f0) ((rd_T36 l0_2 x3_2).f1.f1) ((rd_T36 l0_2 x3_2).f1.f2) ((rd_T36 l0_2 x3_2).f1.f3) ((rd_T36 l0_2 x3_2).f1.f4) true _ A14.out).mono ?_
              rintro e w30 ⟨rfl, hb⟩
              refine ⟨_, rfl, ?_⟩
              replace BK198 := xbb BK198 hb; replace HB := xbs hb
              (try clear hb); (try clear hb2); (try clear hk); (try clear hi)
              refine hK.out _ _ ⟨xc BK198 0 rfl, xc BK198 1 rfl, xc BK198 2 rfl, (xce HB hw201_0), (xce HB hw201_1), (xce HB hw201_2), (xce HB hw201_3), (xce HB hw201_4), (xce HB hw201_5), (xce HB hw203_0), (xce HB hw203_1), (xce HB hw203_2), (xce HB hw203_3), (xce HB hw203_4), (xce HB hw203_5), (xce HB hw204_0), (xce HB hw204_1), (xce HB hw204_2), (xce HB hw204_3), (xce HB hw204_4), (xce HB hw204_5), (xce HB hw205_0), (xce HB hw205_1), (xce HB hw205_2), (xce HB hw205_3), (xce HB hw205_4), (xce HB hw205_5)⟩ (fun hHeld => ?_)
              clear hK K
              refine norm_ (a' := ?_) ?_ ?_
              rotate_left
              ·show Act.put _ (some 32) _ = _
               simp only [Act.put, List.setIfInBounds_toArray, List.set_cons_zero, List.set_cons_succ, i64_w, i32_w]
               rfl
              refine pv_ 6 33 (h := ?_)
              refine pv_ 7 34 (h := ?_)
              refine pv_ 8 35 (h := ?_)
              refine pv_ 10 37 (h := ?_)
              refine pv_ 14 41 (h := ?_)
              refine tk_ 9 36 (h := ?_)
              refine pv_ 11 38 (h := ?_)
              refine pv_ 12 39 (h := ?_)
              refine tk_ 13 40 (h := ?_)
              refine tk_ 15 42 (h := ?_)
              refine pv_ 16 43 (h := ?_)
              refine pv_ 17 44 (h := ?_)
              refine pv_ 18 45 (h := ?_)
              refine pv_ 19 46 (h := ?_)
              refine pv_ 20 47 (h := ?_)
              refine pv_ 21 48 (h := ?_)
              refine pv_ 22 49 (h := ?_)
              refine pv_ 24 51 (h := ?_)
              refine pv_ 28 55 (h := ?_)
              refine pv_ 30 57 (h := ?_)
              refine pv_ 31 58 (h := ?_)
              refine tk_ 23 50 (h := ?_)
              refine pv_ 25 52 (h := ?_)
              refine pv_ 26 53 (h := ?_)
              refine tk_ 27 54 (h := ?_)
              refine tk_ 29 56 (h := ?_)
              refine pv_ 32 59 (h := ?_)
              refine pv_ 33 60 (h := ?_)
              refine tk_ 34 61 (h := ?_)
              refine pv_ 35 62 (h := ?_)
              refine pv_ 36 63 (h := ?_)
              refine pv_ 37 64 (h := ?_)
              refine done_ (done_of HT_.out (by kernel_rfl)) ?_
              try go_wp2
              go_roundg k2
              case measure => have := HJ1.out; have := HK2.out; omega
              case rel => exact ⟨(wrap64 (x3_2 + 1)), (by first | rfl | (simp; done) | (simp [*]; done)), H', ⟨by have := HJ1.out; have := HK2.out; omega⟩, ⟨xblk⟩, ⟨xbg⟩⟩
            ·rw [if_neg c23] at H
             exact absurd H (by simp)
           ·rw [if_neg c22] at H
            exact absurd H (by simp)
          ·rw [if_neg c20] at H
           have c20b0 : decide (0 < x3_2) = false := decide_eq_false c20; clear c20
           have H' := aM H
           clear H; obtain ⟨hcz31_0, hcz31_1, hcz31_2, hfz31_0, hfz31_1, hfz31_2⟩ := xf3 (w := wr) BK198
           try go_wp2
           replace BK198 := aM (blk_drew BK198.out); replace HB := aM (below_drew1 HB.out); have p201 : 0 ≤ (x3_2 : Int) := oda; have q201 : x3_2 < (l0_2.length : Int) := oda
           obtain ⟨ad201, e201, hx201_0, hx201_1, hx201_2, hx201_3, hx201_4, hx201_5⟩ := at_T36 HR0_2.out x3_2 p201 q201
           have hw201_5 := hx201_5; have hw201_4 := hx201_4; have hw201_3 := hx201_3; have hw201_2 := hx201_2; have hw201_1 := hx201_1; have hw201_0 := hx201_0
           cases e201
           replace hx201_0 := xce HB hx201_0; replace hx201_1 := xce HB hx201_1; replace hx201_2 := xce HB hx201_2; replace hx201_3 := xce HB hx201_3; replace hx201_4 := xce HB hx201_4; replace hx201_5 := xce HB hx201_5; replace p201 := eq_true p201; replace q201 := eq_true q201; have p203 : 0 ≤ (x3_2 : Int) := oda; have q203 : x3_2 < (l0_2.length : Int) := oda
           obtain ⟨ad203, e203, hx203_0, hx203_1, hx203_2, hx203_3, hx203_4, hx203_5⟩ := at_T36 HR0_2.out x3_2 p203 q203
           have hw203_5 := hx203_5; have hw203_4 := hx203_4; have hw203_3 := hx203_3; have hw203_2 := hx203_2; have hw203_1 := hx203_1; have hw203_0 := hx203_0
           obtain rfl : ad201 = ad203 := (by injection e203)
           replace hx203_0 := xce HB hx203_0; replace hx203_1 := xce HB hx203_1; replace hx203_2 := xce HB hx203_2; replace hx203_3 := xce HB hx203_3; replace hx203_4 := xce HB hx203_4; replace hx203_5 := xce HB hx203_5; replace p203 := eq_true p203; replace q203 := eq_true q203
           refine start_ (n := 38) (S := fun w' => w'.cell? ⟨gb198, 0, none⟩ = some (.int .i64 a0_0) ∧ w'.cell? ⟨gb198, 1, none⟩ = some (.int .i64 a0_1) ∧ w'.cell? ⟨gb198, 2, none⟩ = some (.slice (some ad201) l0_2.length c0_2) ∧ w'.cell? (ad201.add ((x3_2).toNat * 6)) = some (.int .i64 ((rd_T36 l0_2 x3_2).f0)) ∧ w'.cell? ⟨(ad201.add ((x3_2).toNat * 6)).block, (ad201.add ((x3_2).toNat * 6)).off + 1, none⟩ = some (.int .i64 ((rd_T36 l0_2 x3_2).f1.f0)) ∧ w'.cell? ⟨(ad201.add ((x3_2).toNat * 6)).block, (ad201.add ((x3_2).toNat * 6)).off + 2, none⟩ = some (.int .i64 ((rd_T36 l0_2 x3_2).f1.f1)) ∧ w'.cell? ⟨(ad201.add ((x3_2).toNat * 6)).block, (ad201.add ((x3_2).toNat * 6)).off + 3, none⟩ = some (.int .i64 ((rd_T36 l0_2 x3_2).f1.f2)) ∧ w'.cell? ⟨(ad201.add ((x3_2).toNat * 6)).block, (ad201.add ((x3_2).toNat * 6)).off + 4, none⟩ = some (.int .i64 ((rd_T36 l0_2 x3_2).f1.f3)) ∧ w'.cell? ⟨(ad201.add ((x3_2).toNat * 6)).block, (ad201.add ((x3_2).toNat * 6)).off + 5, none⟩ = some (.string ((rd_T36 l0_2 x3_2).f1.f4)) ∧ w'.cell? (ad201.add ((x3_2).toNat * 6)) = some (.int .i64 ((rd_T36 l0_2 x3_2).f0)) ∧ w'.cell? ⟨(ad201.add ((x3_2).toNat * 6)).block, (ad201.add ((x3_2).toNat * 6)).off + 1, none⟩ = some (.int .i64 ((rd_T36 l0_2 x3_2).f1.f0)) ∧ w'.cell? ⟨(ad201.add ((x3_2).toNat * 6)).block, (ad201.add ((x3_2).toNat * 6)).off + 2, none⟩ = some (.int .i64 ((rd_T36 l0_2 x3_2).f1.f1)) ∧ w'.cell? ⟨(ad201.add ((x3_2).toNat * 6)).block, (ad201.add ((x3_2).toNat * 6)).off + 3, none⟩ = some (.int .i64 ((rd_T36 l0_2 x3_2).f1.f2)) ∧ w'.cell? ⟨(ad201.add ((x3_2).toNat * 6)).block, (ad201.add ((x3_2).toNat * 6)).off + 4, none⟩ = some (.int .i64 ((rd_T36 l0_2 x3_2).f1.f3)) ∧ w'.cell? ⟨(ad201.add ((x3_2).toNat * 6)).block, (ad201.add ((x3_2).toNat * 6)).off + 5, none⟩ = some (.string ((rd_T36 l0_2 x3_2).f1.f4))) (ds := []) #[false, false, false, false, false, false, false, false, false, false, false, false, false, false, false, false, false, false, false, false, false, false, false, false, false, false, false, false, false, false, false, false, false, false, false, false, false, false] (by kernel_rfl) rfl rfl ⟨xc BK198 0 rfl, xc BK198 1 rfl, xc BK198 2 rfl, (xce HB hw201_0), (xce HB hw201_1), (xce HB hw201_2), (xce HB hw201_3), (xce HB hw201_4), (xce HB hw201_5), (xce HB hw203_0), (xce HB hw203_1), (xce HB hw203_2), (xce HB hw203_3), (xce HB hw203_4), (xce HB hw203_5)⟩ (fun hHeld => ?_); refine with_tabW spec_HardOk.tab6 spec_HardOk.bits6 (fun HT_ HW_ => ?_)
           generalize wr.drew = w32 at BK198 HB hx201_0 hx201_1 hx201_2 hx201_3 hx201_4 hx201_5 hx203_0 hx203_1 hx203_2 hx203_3 hx203_4 hx203_5 hHeld ⊢
           refine pv_ 0 27 (h := ?_)
           refine pv_ 2 29 (h := ?_)
           refine tk_ 1 28 (h := ?_)
           refine pv_ 3 30 (h := ?_)
           refine tk_ 4 31 (h := ?_)
           refine on_ 5 32 (h := fun K hK => ?_)
           refine goesY Try.func138 #[.agg #[.int .i64 ((rd_T36 l0_2 x3_2).f0), .int .i64 ((rd_T36 l0_2 x3_2).f1.f0), .int .i64 ((rd_T36 l0_2 x3_2).f1.f1), .int .i64 ((rd_T36 l0_2 x3_2).f1.f2), .int .i64 ((rd_T36 l0_2 x3_2).f1.f3), .string ((rd_T36 l0_2 x3_2).f1.f4)]] ?_
           with_reducible refine (spec_l6Entry.calls k2 ((rd_T36 l0_2 x3_2).f0) ((rd_T36 l0_2 x3_2).f1.f0) ((rd_T36 l0_2 x3_2).f1.f1) ((rd_T36 l0_2 x3_2).f1.f2) ((rd_T36 l0_2 x3_2).f1.f3) ((rd_T36 l0_2 x3_2).f1.f4) true _ A14.out).mono ?_
           rintro e w33 ⟨rfl, hb⟩
           refine ⟨_, rfl, ?_⟩
           replace BK198 := xbb BK198 hb; replace HB := xbs hb
           (try clear hb); (try clear hb2); (try clear hk); (try clear hi)
           refine hK.out _ _ ⟨xc BK198 0 rfl, xc BK198 1 rfl, xc BK198 2 rfl, (xce HB hw201_0), (xce HB hw201_1), (xce HB hw201_2), (xce HB hw201_3), (xce HB hw201_4), (xce HB hw201_5), (xce HB hw203_0), (xce HB hw203_1), (xce HB hw203_2), (xce HB hw203_3), (xce HB hw203_4), (xce HB hw203_5)⟩ (fun hHeld => ?_)
           clear hK K
           refine norm_ (a' := ?_) ?_ ?_
           rotate_left
           ·show Act.put _ (some 32) _ = _
            simp only [Act.put, List.setIfInBounds_toArray, List.set_cons_zero, List.set_cons_succ, i64_w, i32_w]
            rfl
           refine pv_ 6 33 (h := ?_)
           refine pv_ 7 34 (h := ?_)
           refine pv_ 8 35 (h := ?_)
           refine pv_ 10 37 (h := ?_)
           refine pv_ 14 41 (h := ?_)
           refine tk_ 9 36 (h := ?_)
           refine pv_ 11 38 (h := ?_)
           refine pv_ 12 39 (h := ?_)
           refine tk_ 13 40 (h := ?_)
           refine tk_ 15 42 (h := ?_)
           refine pv_ 16 43 (h := ?_)
           refine pv_ 17 44 (h := ?_)
           refine pv_ 18 45 (h := ?_)
           refine pv_ 19 46 (h := ?_)
           refine pv_ 20 47 (h := ?_)
           refine pv_ 21 48 (h := ?_)
           refine pu_ 22 49 (h := ?_)
           refine pu_ 23 50 (h := ?_)
           refine pu_ 24 51 (h := ?_)
           refine pu_ 25 52 (h := ?_)
           refine pu_ 26 53 (h := ?_)
           refine pu_ 27 54 (h := ?_)
           refine pu_ 28 55 (h := ?_)
           refine pu_ 29 56 (h := ?_)
           refine pu_ 30 57 (h := ?_)
           refine pu_ 31 58 (h := ?_)
           refine pu_ 32 59 (h := ?_)
           refine pu_ 33 60 (h := ?_)
           refine pu_ 34 61 (h := ?_)
           refine pu_ 35 62 (h := ?_)
           refine pv_ 36 63 (h := ?_)
           refine pv_ 37 64 (h := ?_)
           refine done_ (done_of HT_.out (by kernel_rfl)) ?_
           try go_wp2
           go_roundg k2
           case measure => have := HJ1.out; have := HK2.out; omega
           case rel => exact ⟨(wrap64 (x3_2 + 1)), (by first | rfl | (simp; done) | (simp [*]; done)), H', ⟨by have := HJ1.out; have := HK2.out; omega⟩, ⟨xblk⟩, ⟨xbg⟩⟩
        ·replace c15 := Bool.eq_false_iff.mpr c15
         subst c15
         have H1 : (some false) = some r := by rw [if_neg (show ¬ (false = true) by decide)] at H; exact H
         clear H; have H := H1; clear H1
         obtain rfl := Option.some.inj H
         obtain ⟨hcz34_0, hcz34_1, hcz34_2, hfz34_0, hfz34_1, hfz34_2⟩ := xf3 (w := wr) BK198
         try go_wp2
         replace BK198 := aM (blk_drew BK198.out); replace HB := aM (below_drew1 HB.out); have p201 : 0 ≤ (x3_2 : Int) := oda; have q201 : x3_2 < (l0_2.length : Int) := oda
         obtain ⟨ad201, e201, hx201_0, hx201_1, hx201_2, hx201_3, hx201_4, hx201_5⟩ := at_T36 HR0_2.out x3_2 p201 q201
         have hw201_5 := hx201_5; have hw201_4 := hx201_4; have hw201_3 := hx201_3; have hw201_2 := hx201_2; have hw201_1 := hx201_1; have hw201_0 := hx201_0
         cases e201
         replace hx201_0 := xce HB hx201_0; replace hx201_1 := xce HB hx201_1; replace hx201_2 := xce HB hx201_2; replace hx201_3 := xce HB hx201_3; replace hx201_4 := xce HB hx201_4; replace hx201_5 := xce HB hx201_5; replace p201 := eq_true p201; replace q201 := eq_true q201
         refine start_ (n := 38) (S := fun w' => w'.cell? ⟨gb198, 0, none⟩ = some (.int .i64 a0_0) ∧ w'.cell? ⟨gb198, 1, none⟩ = some (.int .i64 a0_1) ∧ w'.cell? ⟨gb198, 2, none⟩ = some (.slice (some ad201) l0_2.length c0_2) ∧ w'.cell? (ad201.add ((x3_2).toNat * 6)) = some (.int .i64 ((rd_T36 l0_2 x3_2).f0)) ∧ w'.cell? ⟨(ad201.add ((x3_2).toNat * 6)).block, (ad201.add ((x3_2).toNat * 6)).off + 1, none⟩ = some (.int .i64 ((rd_T36 l0_2 x3_2).f1.f0)) ∧ w'.cell? ⟨(ad201.add ((x3_2).toNat * 6)).block, (ad201.add ((x3_2).toNat * 6)).off + 2, none⟩ = some (.int .i64 ((rd_T36 l0_2 x3_2).f1.f1)) ∧ w'.cell? ⟨(ad201.add ((x3_2).toNat * 6)).block, (ad201.add ((x3_2).toNat * 6)).off + 3, none⟩ = some (.int .i64 ((rd_T36 l0_2 x3_2).f1.f2)) ∧ w'.cell? ⟨(ad201.add ((x3_2).toNat * 6)).block, (ad201.add ((x3_2).toNat * 6)).off + 4, none⟩ = some (.int .i64 ((rd_T36 l0_2 x3_2).f1.f3)) ∧ w'.cell? ⟨(ad201.add ((x3_2).toNat * 6)).block, (ad201.add ((x3_2).toNat * 6)).off + 5, none⟩ = some (.string ((rd_T36 l0_2 x3_2).f1.f4))) (ds := []) #[false, false, false, false, false, false, false, false, false, false, false, false, false, false, false, false, false, false, false, false, false, false, false, false, false, false, false, false, false, false, false, false, false, false, false, false, false, false] (by kernel_rfl) rfl rfl ⟨xc BK198 0 rfl, xc BK198 1 rfl, xc BK198 2 rfl, (xce HB hw201_0), (xce HB hw201_1), (xce HB hw201_2), (xce HB hw201_3), (xce HB hw201_4), (xce HB hw201_5)⟩ (fun hHeld => ?_); refine with_tabW spec_HardOk.tab6 spec_HardOk.bits6 (fun HT_ HW_ => ?_)
         generalize wr.drew = w35 at BK198 HB hx201_0 hx201_1 hx201_2 hx201_3 hx201_4 hx201_5 hHeld ⊢
         refine pv_ 0 27 (h := ?_)
         refine pv_ 2 29 (h := ?_)
         refine tk_ 1 28 (h := ?_)
         refine pv_ 3 30 (h := ?_)
         refine tk_ 4 31 (h := ?_)
         refine on_ 5 32 (h := fun K hK => ?_)
         refine goesY Try.func138 #[.agg #[.int .i64 ((rd_T36 l0_2 x3_2).f0), .int .i64 ((rd_T36 l0_2 x3_2).f1.f0), .int .i64 ((rd_T36 l0_2 x3_2).f1.f1), .int .i64 ((rd_T36 l0_2 x3_2).f1.f2), .int .i64 ((rd_T36 l0_2 x3_2).f1.f3), .string ((rd_T36 l0_2 x3_2).f1.f4)]] ?_
         with_reducible refine (spec_l6Entry.calls k2 ((rd_T36 l0_2 x3_2).f0) ((rd_T36 l0_2 x3_2).f1.f0) ((rd_T36 l0_2 x3_2).f1.f1) ((rd_T36 l0_2 x3_2).f1.f2) ((rd_T36 l0_2 x3_2).f1.f3) ((rd_T36 l0_2 x3_2).f1.f4) false _ A14.out).mono ?_
         rintro e w36 ⟨rfl, hb⟩
         refine ⟨_, rfl, ?_⟩
         replace BK198 := xbb BK198 hb; replace HB := xbs hb
         (try clear hb); (try clear hb2); (try clear hk); (try clear hi)
         refine hK.out _ _ ⟨xc BK198 0 rfl, xc BK198 1 rfl, xc BK198 2 rfl, (xce HB hw201_0), (xce HB hw201_1), (xce HB hw201_2), (xce HB hw201_3), (xce HB hw201_4), (xce HB hw201_5)⟩ (fun hHeld => ?_)
         clear hK K
         refine norm_ (a' := ?_) ?_ ?_
         rotate_left
         ·show Act.put _ (some 32) _ = _
          simp only [Act.put, List.setIfInBounds_toArray, List.set_cons_zero, List.set_cons_succ, i64_w, i32_w]
          rfl
         refine pv_ 6 33 (h := ?_)
         refine pv_ 7 34 (h := ?_)
         refine pu_ 8 35 (h := ?_)
         refine pu_ 9 36 (h := ?_)
         refine pu_ 10 37 (h := ?_)
         refine pu_ 11 38 (h := ?_)
         refine pu_ 12 39 (h := ?_)
         refine pu_ 13 40 (h := ?_)
         refine pu_ 14 41 (h := ?_)
         refine pu_ 15 42 (h := ?_)
         refine pu_ 16 43 (h := ?_)
         refine pv_ 17 44 (h := ?_)
         refine pv_ 18 45 (h := ?_)
         refine pu_ 19 46 (h := ?_)
         refine pu_ 20 47 (h := ?_)
         refine pu_ 21 48 (h := ?_)
         refine pu_ 22 49 (h := ?_)
         refine pu_ 23 50 (h := ?_)
         refine pu_ 24 51 (h := ?_)
         refine pu_ 25 52 (h := ?_)
         refine pu_ 26 53 (h := ?_)
         refine pu_ 27 54 (h := ?_)
         refine pu_ 28 55 (h := ?_)
         refine pu_ 29 56 (h := ?_)
         refine pu_ 30 57 (h := ?_)
         refine pu_ 31 58 (h := ?_)
         refine pu_ 32 59 (h := ?_)
         refine pu_ 33 60 (h := ?_)
         refine pu_ 34 61 (h := ?_)
         refine pu_ 35 62 (h := ?_)
         refine pu_ 36 63 (h := ?_)
         refine pv_ 37 64 (h := ?_)
         refine done_ (done_of HT_.out (by kernel_rfl)) ?_
         try go_wp2
         go_ret
         exact ⟨by first | rfl | (simp [errW_none, errW_some] <;> rfl) | (simp [*, errW_none, errW_some] <;> rfl), xbg⟩
       ·rw [if_neg c13] at H
        exact absurd H (by simp)
      ·rw [if_neg c12] at H
       have c12b0 : decide (x3_2 < (l0_2.length : Int)) = false := decide_eq_false c12; clear c12
       obtain rfl := Option.some.inj H
       obtain ⟨hcz37_0, hcz37_1, hcz37_2, hfz37_0, hfz37_1, hfz37_2⟩ := xf3 (w := wr) BK198
       go_wp2
       go_ret
       exact ⟨by first | rfl | (simp [errW_none, errW_some] <;> rfl) | (simp [*, errW_none, errW_some] <;> rfl), xbg⟩

/-! ### spec_l6Copy: function 99 -/
def spec_l6Copy.f (a0_0 : Int) (a0_1 : Int) (l0_2 : List (S36)) : Option (Int × Int × (List (S36))) := (some (([] : List (S36)) : List (S36))).bind fun y208 => (if y208.length + l0_2.length < 2513169434916 then (some (a0_0, a0_1, (y208 ++ l0_2))) else (none))
def spec_l6Copy.T1 : Bool × List (List Nat × List Nat) := (true, [([], []), ([0], [0]), ([], []), ([2], [2]), ([], []), ([], []), ([5], [5]), ([4, 6], [4, 6]), ([1, 3, 7], [1, 3, 7]), ([8, 7, 0, 1, 2, 3, 4, 5, 6, 7, 8], [8])])
def spec_l6Copy.B1 : List Nat := [0, 1, 0, 4, 0, 0, 32, 112, 255, 511]
theorem spec_l6Copy.tab1 : rtab .any (opsOf Try.f99 1) = spec_l6Copy.T1 := by kernel_rfl
theorem spec_l6Copy.bits1 : waitsOk spec_l6Copy.T1.2 spec_l6Copy.B1 = true := by kernel_rfl
set_option maxHeartbeats 8000000 in
set_option maxRecDepth 100000 in
theorem spec_l6Copy.calls (a0_0 : Int) (a0_1 : Int) (A0_2 : Option Addr) (c0_2 : Nat) (l0_2 : List (S36)) (r1 : Int) (r2 : Int) (r3 : List (S36)) (w : World) (hr0_2 : Kd.C k36 w A0_2 l0_2.length l0_2) (hc0_2 : l0_2.length ≤ c0_2) (h : spec_l6Copy.f a0_0 a0_1 l0_2 = some (r1, r2, r3)) :
 Calls Try.prog 99 #[.agg #[.int .i64 a0_0, .int .i64 a0_1, .slice A0_2 l0_2.length c0_2]] w fun e w' => ∃ v2_ : Value, e = .returned (.agg #[.int .i64 r1, .int .i64 r2, v2_]) ∧ Kd.R k36 36 w' w.heap.size (fun _ => True) v2_ r3 ∧ Below w.heap.size w w' := by
 have hu28 := Try.underlying28
 have HR0_2 := aM hr0_2
 have HC0_2 := aM hc0_2
 clear hr0_2 hc0_2
 have HB := aM (Below.refl w.heap.size w)
 have H : ((some (([] : List (S36)) : List (S36))).bind fun y208 => (if y208.length + l0_2.length < 2513169434916 then (some (a0_0, a0_1, (y208 ++ l0_2))) else (none))) = some (r1, r2, r3) := h
 clear h
 obtain ⟨y208, hy208⟩ : ∃ y_ : List (S36), y_ = (([] : List (S36))) := ⟨_, rfl⟩
 replace H : (if y208.length + l0_2.length < 2513169434916 then (some (a0_0, a0_1, (y208 ++ l0_2))) else (none)) = some (r1, r2, r3) := by first | (rw [hy208]; with_reducible exact H) | (have H2_ := (Option.bind_some _ _).symm.trans H; rw [hy208]; with_reducible exact H2_) | (have H2_ := (Option.bind_some _ _).symm.trans H; with_reducible exact H2_) | with_reducible exact H | (rw [hy208]; exact H) | exact H
 have Ny208 := aM hy208
 clear hy208
 by_cases c2 : y208.length + l0_2.length < 2513169434916
 ·rw [if_pos c2] at H
  have LMc2 := aM c2; clear c2
  obtain ⟨y211, hy211⟩ : ∃ y_ : List (S36), y_ = (y208 ++ l0_2) := ⟨_, rfl⟩
  replace H : (some (a0_0, a0_1, y211)) = some (r1, r2, r3) := by first | (rw [hy211]; with_reducible exact H) | (have H2_ := (Option.bind_some _ _).symm.trans H; rw [hy211]; with_reducible exact H2_) | (have H2_ := (Option.bind_some _ _).symm.trans H; with_reducible exact H2_) | with_reducible exact H | (rw [hy211]; exact H) | exact H
  have Ny211 := aM hy211; clear hy211
  simp only [Option.some.injEq, Prod.mk.injEq] at H
  obtain ⟨rfl, rfl, rfl⟩ := H
  go_enter Try.func99, Try.ntmps99
  try go_wp2_with (first | ((with_reducible refine gate_dst (N := 1) rfl ?_); refine box_event ?hg (N := 1) ?hd (cs := #[.int .i64 a0_0, .int .i64 a0_1, .slice A0_2 l0_2.length c0_2]) (t := 28) ?hr ?_; (case hd => rfl); (case hg => rfl); (case hr => first | (go_simp; done) | (go_simp; rfl)); intro gb206 hg w3 hbox hb; have BK206 := aM (hbox); have GW206 := aM (xge hg); have GE206 := aM (xge hg); replace HB := xbs hb; clear hb hbox hg) | ((with_reducible refine gate_dst (N := 2) rfl ?_); refine box_event ?hg (N := 2) ?hd (cs := #[.int .i64 0, .int .i64 0, .slice none 0 0]) (t := 28) ?hr ?_; (case hd => rfl); (case hg => rfl); (case hr => first | (go_simp; done) | (go_simp; rfl)); intro gb207 hg w4 hbox hb; have GW207 := aM (xge hg); have GE207 := aM (xge hg); replace HB := xbs hb; have NB206_207 := aM ((by rw [hg]; exact Nat.ne_of_lt (blk_lt (g := gb206) (o := .cells #[.int .i64 a0_0, .int .i64 a0_1, .slice A0_2 l0_2.length c0_2] 28 (0, 0)) xblk) : gb206 ≠ gb207)); have NB207_206 := aM ((by rw [hg]; exact Nat.ne_of_gt (blk_lt (g := gb206) (o := .cells #[.int .i64 a0_0, .int .i64 a0_1, .slice A0_2 l0_2.length c0_2] 28 (0, 0)) xblk) : gb207 ≠ gb206)); replace BK206 := xbb BK206 hb; have BK207 := aM (hbox); clear hb hbox hg))
  replace BK206 := aM (blk_drew BK206.out); replace BK207 := aM (blk_drew BK207.out); replace HB := aM (below_drew1 HB.out)
  refine start_ (n := 10) (S := fun w' => w'.cell? ⟨gb206, 0, none⟩ = some (.int .i64 a0_0) ∧ w'.cell? ⟨gb206, 1, none⟩ = some (.int .i64 a0_1) ∧ w'.cell? ⟨gb206, 2, none⟩ = some (.slice A0_2 l0_2.length c0_2)) (ds := []) #[false, false, false, false, false, false, false, false, false, false] (by kernel_rfl) rfl rfl ⟨xc BK206 0 rfl, xc BK206 1 rfl, xc BK206 2 rfl⟩ (fun hHeld => ?_); refine with_tabW spec_l6Copy.tab1 spec_l6Copy.bits1 (fun HT_ HW_ => ?_)
  generalize w4.drew = w5 at BK206 BK207 HB hHeld ⊢
  refine pv_ 0 3 (h := ?_)
  refine pv_ 2 5 (h := ?_)
  refine pv_ 5 8 (h := ?_)
  refine tk_ 1 4 (h := ?_)
  refine tk_ 3 6 (h := ?_)
  refine tk_ 6 9 (h := ?_)
  refine on_ 4 7 (h := fun K hK => ?_)
  refine Kd.R_lit_step k36 _ 36 ?hg (N := 7) ?hd (xs := ([] : List (S36))) (inner := []) (ok := fun _ => True) (okp := fun _ => True) ?hr ?hp (fun _ hk => hk) trivial (Below.refl _ _) (Nat.le_refl _) (by simp) ?_; (case hd => rfl); (case hg => rfl); (case hr => first | (go_simp; done) | (go_simp; rfl)); (case hp => exact (Reps.none _ _))
  intro v209 w6 ho7 hb hg_ hnew_
  clear hg_ hnew_
  (first | rw [← Ny208.out] at ho7 | (simp only [Int.reduceToNat] at ho7; rw [← Ny208.out] at ho7))
  have HO210 := aM (Kd.R_lower ho7 (below_size xbg)); replace BK206 := xbb BK206 hb; replace BK207 := xbb BK207 hb; replace HB := xbs hb; clear hb ho7
  refine hK.out _ _ ⟨xc BK206 0 rfl, xc BK206 1 rfl, xc BK206 2 rfl⟩ (fun hHeld => ?_)
  clear hK K
  refine norm_ (a' := ?_) ?_ ?_
  rotate_left
  ·show Act.put _ (some 7) _ = _
   simp only [Act.put, List.setIfInBounds_toArray, List.set_cons_zero, List.set_cons_succ, i64_w, i32_w]
   rfl
  refine on_ 7 10 (h := fun K hK => ?_)
  refine Kd.R_append_rows_step k36 (w0 := w) w.heap.size (by rfl) (.tmp 7) (.tmp 9) 26 36 (.agg #[(.int .i64 0), (.int .i64 0), (.int .i64 0), (.int .i64 0), (.int .i64 0), (.string ⟨#[]⟩)]) 56 rfl Try.underlying26 info36 rfl (by decide) (by omega) v209 y208 l0_2 _ _ _ (fun _ => True) (fun _ => False) rfl rfl ?aO ?aR (fun _ _ h => h) (fun _ h => h.elim) ?aF ?aB ?aS ?aL ?_
  (case aR => exact xcb HR0_2)
  (case aB => exact xbg)
  (case aF => exact (fun _ _ => trivial))
  (case aO => exact (xr HO210))
  (case aS => exact (below_size xbg))
  (case aL => have := LMc2.out; omega)
  intro v212 w8 ho hb hg hat
  rw [← Ny211.out] at ho
  have n0_ := aM (blk_grown (g := gb206) (o := .cells #[.int .i64 a0_0, .int .i64 a0_1, .slice A0_2 l0_2.length c0_2] 28 (0, 0)) xblk hg (Kd.R_ne HO210.out BK206.out (by decide))); have n1_ := aM (blk_grown (g := gb207) (o := .cells #[.int .i64 0, .int .i64 0, .slice none 0 0] 28 (0, 0)) xblk hg (Kd.R_ne HO210.out BK207.out (by decide))); have n2_ := aM (hb); have n3_ := aM (ho); clear BK206 BK207 HB HO210; have BK206 := n0_; have BK207 := n1_; have HB := n2_; have HO213 := n3_; clear n0_ n1_ n2_ n3_ ho hb hg hat
  obtain ⟨Ao9, co9, eo9⟩ := Kd.R_slice HO213.out
  (first | subst eo9 | (injection eo9 with f1_ f2_ f3_; have f4_ := f1_.symm; have f5_ := f3_.symm; clear f1_ f2_ f3_; subst f4_; subst f5_))
  refine hK.out _ _ ⟨xc BK206 0 rfl, xc BK206 1 rfl, xc BK206 2 rfl⟩ (fun hHeld => ?_)
  clear hK K
  refine norm_ (a' := ?_) ?_ ?_
  rotate_left
  ·show Act.put _ (some 10) _ = _
   simp only [Act.put, List.setIfInBounds_toArray, List.set_cons_zero, List.set_cons_succ, i64_w, i32_w]
   rfl
  refine pv_ 8 11 (h := ?_)
  refine one_ (i := 9) (N := none) #[true, true, true, true, true, true, true, true, true, true] rfl rfl (one_of HT_.out (by kernel_rfl)) (by decide) (fun K hK => ?_)
  have hs10 : w8.cell? ⟨gb207, 0, none⟩ = some (.int .i64 0) := xc BK207 0 rfl; have hfs10 := blk_frozen BK207.out 0; have hns10_0 := NB206_207.out; have hms10_0 := NB207_206.out; have hs11 : w8.cell? ⟨gb207, 1, none⟩ = some (.int .i64 0) := xc BK207 1 rfl; have hfs11 := blk_frozen BK207.out 1; have hns11_0 := NB206_207.out; have hms11_0 := NB207_206.out; have hs12 : w8.cell? ⟨gb207, 2, none⟩ = some (.slice none 0 0) := xc BK207 2 rfl; have hfs12 := blk_frozen BK207.out 2; have hns12_0 := NB206_207.out; have hms12_0 := NB207_206.out
  refine skip_ (w1 := ?_) (by rfl) rfl ?_ ?_
  rotate_left
  ·go_simp
   rfl
  refine hK.out _ _ ⟨((cell_far (p := ⟨gb207, _, none⟩) NB206_207.out _).trans (((cell_far (p := ⟨gb207, _, none⟩) NB206_207.out _).trans (((cell_far (p := ⟨gb207, _, none⟩) NB206_207.out _).trans (hHeld.1)))))), ((cell_far (p := ⟨gb207, _, none⟩) NB206_207.out _).trans (((cell_far (p := ⟨gb207, _, none⟩) NB206_207.out _).trans (((cell_far (p := ⟨gb207, _, none⟩) NB206_207.out _).trans (hHeld.2.1)))))), ((cell_far (p := ⟨gb207, _, none⟩) NB206_207.out _).trans (((cell_far (p := ⟨gb207, _, none⟩) NB206_207.out _).trans (((cell_far (p := ⟨gb207, _, none⟩) NB206_207.out _).trans (hHeld.2.2))))))⟩ (fun hHeld => ?_)
  clear hK K
  refine done_ (done_of HT_.out (by kernel_rfl)) ?_
  try go_wp2
  refine bodyPost_ret (results_cell_row rfl _ _ gb207 28 #[.int .i64 a0_0, .int .i64 a0_1, .slice Ao9 y211.length co9] (0, 0) _ rfl (by (with_reducible repeat (first | refine blk_drewN ?_ _ | refine blk_drew ?_ | refine blk_alloc ?_ _)); refine blk_put (cs := #[.int .i64 a0_0, .int .i64 a0_1, .slice none 0 0]) ?_ 2 _ rfl; (with_reducible repeat (first | refine blk_drewN ?_ _ | refine blk_drew ?_ | refine blk_alloc ?_ _)); refine blk_put (cs := #[.int .i64 a0_0, .int .i64 0, .slice none 0 0]) ?_ 1 _ rfl; (with_reducible repeat (first | refine blk_drewN ?_ _ | refine blk_drew ?_ | refine blk_alloc ?_ _)); refine blk_put (cs := #[.int .i64 0, .int .i64 0, .slice none 0 0]) ?_ 0 _ rfl; (with_reducible repeat (first | refine blk_drewN ?_ _ | refine blk_drew ?_ | refine blk_alloc ?_ _)); exact BK207.out) Try.underlying28 rfl (by kernel_rfl)) rfl ?_
  exact ⟨_, by first | rfl | (simp [errW_none, errW_some] <;> rfl) | (simp [*, errW_none, errW_some] <;> rfl), by (with_reducible repeat (first | apply Kd.R_alloc | apply Kd.R_drewN | apply Kd.R_drew)); exact Kd.R_mono (Kd.R_far (p := ⟨gb207, 2, none⟩) (Kd.R_far (p := ⟨gb207, 1, none⟩) (Kd.R_far (p := ⟨gb207, 0, none⟩) (Kd.R_types HO213.out BK207.out (by decide)) (fun _ hk => hk.2) (.int .i64 a0_0)) (fun _ hk => hk.2) (.int .i64 a0_1)) (fun _ hk => hk.2) (.slice Ao9 y211.length co9)) (fun _ hk => trivial), xbg⟩
 ·rw [if_neg c2] at H
  exact absurd H (by simp)

end Go.Proofs.Ytnjpfllmcmomoaa.QFnExactHardOf
