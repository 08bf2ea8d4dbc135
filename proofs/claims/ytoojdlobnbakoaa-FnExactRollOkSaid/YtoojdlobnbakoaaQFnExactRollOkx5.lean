-- A walk, by a program of this session.
import Derived.Test.YtoojdlobnbakoaaQFnExactRollOkx0
import Derived.Test.YtoojdlobnbakoaaQFnExactRollOkx4
namespace Go.Proofs.Ytoojdlobnbakoaa.QFnExactRollOk
open Go.RowKit Go.Proofs.YtoojdlobnbakoaaW.PrintWords Go.Proofs.YtoojdlobnbakoaaW.PrintLast Go.Proofs.YtoojdlobnbakoaaW.PrintMore
attribute [local go_sem] max2_int min2_int max_two min_two max_three min_three max_four min_four   -- for this text's walks alone
set_option linter.unusedVariables false
set_option linter.unusedSimpArgs false

/-! ### impl_RollOk: function 39 -/
mutual
def impl_RollOk.l0 : Nat → List Int → List (S65) → Int → Int → Int → List (S65) → Int → List Int → Option (Bool)
 | 0, _, _, _, _, _, _, _, _ => none
 | k + 1, x3, x9, x10, x11, x185000, x185001, x185002, x185003 => if x11 < x10 then (if 0 ≤ x11 then (if x11 < (x9.length : Int) then ((impl_isRelease.f ((rd_T65 x9 x11).f0)).bind fun t190 => (if t190 = true then (if x11 > 0 then (if 0 ≤ (wrap64 (x11 - 1)) then (if (wrap64 (x11 - 1)) < (x185001.length : Int) then (if ((rd_T65 x185001 (wrap64 (x11 - 1))).f0) ≥ ((rd_T65 x9 x11).f0) then (impl_RollOk.j1 k x3 x9 x10 x11 true x185000 x185001 x185002 x185003 ((rd_T65 x9 x11).f0) ((rd_T65 x9 x11).f1) ((rd_T65 x9 x11).f2) ((rd_T65 x9 x11).f3) ((rd_T65 x9 x11).f4)) else ((impl_isSize.f ((rd_T65 x9 x11).f1)).bind fun t192 => (if t192 = true then (impl_RollOk.j1 k x3 x9 x10 x11 ((((rd_T65 x9 x11).f2).size : Int) != 32) x185000 x185001 x185002 x185003 ((rd_T65 x9 x11).f0) ((rd_T65 x9 x11).f1) ((rd_T65 x9 x11).f2) ((rd_T65 x9 x11).f3) ((rd_T65 x9 x11).f4)) else (impl_RollOk.j1 k x3 x9 x10 x11 true x185000 x185001 x185002 x185003 ((rd_T65 x9 x11).f0) ((rd_T65 x9 x11).f1) ((rd_T65 x9 x11).f2) ((rd_T65 x9 x11).f3) ((rd_T65 x9 x11).f4))))) else (none)) else (none)) else ((impl_isSize.f ((rd_T65 x9 x11).f1)).bind fun t193 => (if t193 = true then (impl_RollOk.j1 k x3 x9 x10 x11 ((((rd_T65 x9 x11).f2).size : Int) != 32) x185000 x185001 x185002 x185003 ((rd_T65 x9 x11).f0) ((rd_T65 x9 x11).f1) ((rd_T65 x9 x11).f2) ((rd_T65 x9 x11).f3) ((rd_T65 x9 x11).f4)) else (impl_RollOk.j1 k x3 x9 x10 x11 true x185000 x185001 x185002 x185003 ((rd_T65 x9 x11).f0) ((rd_T65 x9 x11).f1) ((rd_T65 x9 x11).f2) ((rd_T65 x9 x11).f3) ((rd_T65 x9 x11).f4))))) else (impl_RollOk.j1 k x3 x9 x10 x11 true x185000 x185001 x185002 x185003 ((rd_T65 x9 x11).f0) ((rd_T65 x9 x11).f1) ((rd_T65 x9 x11).f2) ((rd_T65 x9 x11).f3) ((rd_T65 x9 x11).f4)))) else (none)) else (none)) else (if (x3.length : Int) > 0 then (if 0 ≤ (wrap64 ((x3.length : Int) - 1)) then (if (wrap64 ((x3.length : Int) - 1)) < (x3.length : Int) then ((impl_isOf.f x185000).bind fun t200 => (if t200 = true then (if (x185001.length : Int) ≤ 30 then ((slices_Equal_int_int.f k x3 x185003).bind fun t201 => (if t201 = true then (some (x185002 == (rd x3 (wrap64 ((x3.length : Int) - 1))))) else (some false))) else (some false)) else (some false))) else (none)) else (none)) else ((impl_isOf.f x185000).bind fun t202 => (if t202 = true then (if (x185001.length : Int) ≤ 30 then ((slices_Equal_int_int.f k x3 x185003).bind fun t203 => (if t203 = true then (some (x185002 == 0)) else (some false))) else (some false)) else (some false))))
def impl_RollOk.j1 : Nat → List Int → List (S65) → Int → Int → Bool → Int → List (S65) → Int → List Int → Int → Int → ByteArray → List Int → Int → Option (Bool)
 | 0, _, _, _, _, _, _, _, _, _, _, _, _, _, _ => none
 | k + 1, x3, x9, x10, x11, x47, x185000, x185001, x185002, x185003, x190000, x190001, x190002, x190003, x190004 => if x47 = true then (some false) else ((impl_nodesAscend.f k x190003 x185000).bind fun t194 => (if t194 = true then ((impl_within.f x190004 1 3).bind fun t195 => (if t195 = true then (if x190004 = 2 then (impl_RollOk.j2 k x3 x9 x10 x11 ((x190003.length : Int) != x185000) x185000 x185001 x185002 x185003 x190000 x190001 x190002 x190003 x190004) else (impl_RollOk.j2 k x3 x9 x10 x11 false x185000 x185001 x185002 x185003 x190000 x190001 x190002 x190003 x190004)) else (impl_RollOk.j2 k x3 x9 x10 x11 true x185000 x185001 x185002 x185003 x190000 x190001 x190002 x190003 x190004))) else (impl_RollOk.j2 k x3 x9 x10 x11 true x185000 x185001 x185002 x185003 x190000 x190001 x190002 x190003 x190004)))
def impl_RollOk.j2 : Nat → List Int → List (S65) → Int → Int → Bool → Int → List (S65) → Int → List Int → Int → Int → ByteArray → List Int → Int → Option (Bool)
 | 0, _, _, _, _, _, _, _, _, _, _, _, _, _, _ => none
 | k + 1, x3, x9, x10, x11, x72, x185000, x185001, x185002, x185003, x190000, x190001, x190002, x190003, x190004 => if x72 = true then (some false) else (if x190004 = 2 then (if x3.length < 17592186044416 then (impl_RollOk.l0 k (x3 ++ [x190000]) x9 x10 (wrap64 (x11 + 1)) x185000 x185001 x185002 x185003) else (none)) else (impl_RollOk.l0 k x3 x9 x10 (wrap64 (x11 + 1)) x185000 x185001 x185002 x185003))
end
def impl_RollOk.f (k : Nat) (a0_0 : Int) (l0_1 : List (S65)) (a0_2 : Int) (l0_3 : List Int) : Option (Bool) := impl_RollOk.l0 k (([] : List Int)) l0_1 (l0_1.length : Int) 0 a0_0 l0_1 a0_2 l0_3
set_option maxRecDepth 100000 in
theorem impl_RollOk.mono_l : ∀ k, (∀ y0 y1 y2 y3 y4 y5 y6 y7, LeO (impl_RollOk.l0 k y0 y1 y2 y3 y4 y5 y6 y7) (impl_RollOk.l0 (k + 1) y0 y1 y2 y3 y4 y5 y6 y7)) ∧ (∀ y0 y1 y2 y3 y4 y5 y6 y7 y8 y9 y10 y11 y12 y13, LeO (impl_RollOk.j1 k y0 y1 y2 y3 y4 y5 y6 y7 y8 y9 y10 y11 y12 y13) (impl_RollOk.j1 (k + 1) y0 y1 y2 y3 y4 y5 y6 y7 y8 y9 y10 y11 y12 y13)) ∧ (∀ y0 y1 y2 y3 y4 y5 y6 y7 y8 y9 y10 y11 y12 y13, LeO (impl_RollOk.j2 k y0 y1 y2 y3 y4 y5 y6 y7 y8 y9 y10 y11 y12 y13) (impl_RollOk.j2 (k + 1) y0 y1 y2 y3 y4 y5 y6 y7 y8 y9 y10 y11 y12 y13))
 | 0 => ⟨fun _ _ _ _ _ _ _ _ r h => by simp [impl_RollOk.l0] at h, fun _ _ _ _ _ _ _ _ _ _ _ _ _ _ r h => by simp [impl_RollOk.j1] at h, fun _ _ _ _ _ _ _ _ _ _ _ _ _ _ r h => by simp [impl_RollOk.j2] at h⟩
 | k + 1 => by
  obtain ⟨ih0, ih1, ih2⟩ := impl_RollOk.mono_l k
  refine ⟨?_, ?_, ?_⟩
  ·intro y0 y1 y2 y3 y4 y5 y6 y7
   unfold impl_RollOk.l0
   repeat' first
   | (with_reducible exact ih0 _ _ _ _ _ _ _ _)
   | (with_reducible exact ih1 _ _ _ _ _ _ _ _ _ _ _ _ _ _)
   | (with_reducible exact ih2 _ _ _ _ _ _ _ _ _ _ _ _ _ _)
   | (with_reducible exact impl_nodesAscend.mono _ _ _)
   | (with_reducible exact slices_Equal_int_int.mono _ _ _)
   | (with_reducible exact LeO.refl _)
   | (with_reducible exact LeO.none _)
   | (with_reducible refine LeO.ite ?_ ?_)
   | (with_reducible refine LeO.bind ?_ (fun _ => ?_))
   | exact ih0 _ _ _ _ _ _ _ _
   | exact ih1 _ _ _ _ _ _ _ _ _ _ _ _ _ _
   | exact ih2 _ _ _ _ _ _ _ _ _ _ _ _ _ _
   | exact impl_nodesAscend.mono _ _ _
   | exact slices_Equal_int_int.mono _ _ _
   | exact LeO.none _
   | refine LeO.ite ?_ ?_
   | refine LeO.bind ?_ (fun _ => ?_)
  ·intro y0 y1 y2 y3 y4 y5 y6 y7 y8 y9 y10 y11 y12 y13
   unfold impl_RollOk.j1
   repeat' first
   | (with_reducible exact ih0 _ _ _ _ _ _ _ _)
   | (with_reducible exact ih1 _ _ _ _ _ _ _ _ _ _ _ _ _ _)
   | (with_reducible exact ih2 _ _ _ _ _ _ _ _ _ _ _ _ _ _)
   | (with_reducible exact impl_nodesAscend.mono _ _ _)
   | (with_reducible exact slices_Equal_int_int.mono _ _ _)
   | (with_reducible exact LeO.refl _)
   | (with_reducible exact LeO.none _)
   | (with_reducible refine LeO.ite ?_ ?_)
   | (with_reducible refine LeO.bind ?_ (fun _ => ?_))
   | exact ih0 _ _ _ _ _ _ _ _
   | exact ih1 _ _ _ _ _ _ _ _ _ _ _ _ _ _
   | exact ih2 _ _ _ _ _ _ _ _ _ _ _ _ _ _
   | exact impl_nodesAscend.mono _ _ _
   | exact slices_Equal_int_int.mono _ _ _
   | exact LeO.none _
   | refine LeO.ite ?_ ?_
   | refine LeO.bind ?_ (fun _ => ?_)
  ·intro y0 y1 y2 y3 y4 y5 y6 y7 y8 y9 y10 y11 y12 y13
   unfold impl_RollOk.j2
   repeat' first
   | (with_reducible exact ih0 _ _ _ _ _ _ _ _)
   | (with_reducible exact ih1 _ _ _ _ _ _ _ _ _ _ _ _ _ _)
   | (with_reducible exact ih2 _ _ _ _ _ _ _ _ _ _ _ _ _ _)
   | (with_reducible exact impl_nodesAscend.mono _ _ _)
   | (with_reducible exact slices_Equal_int_int.mono _ _ _)
   | (with_reducible exact LeO.refl _)
   | (with_reducible exact LeO.none _)
   | (with_reducible refine LeO.ite ?_ ?_)
   | (with_reducible refine LeO.bind ?_ (fun _ => ?_))
   | exact ih0 _ _ _ _ _ _ _ _
   | exact ih1 _ _ _ _ _ _ _ _ _ _ _ _ _ _
   | exact ih2 _ _ _ _ _ _ _ _ _ _ _ _ _ _
   | exact impl_nodesAscend.mono _ _ _
   | exact slices_Equal_int_int.mono _ _ _
   | exact LeO.none _
   | refine LeO.ite ?_ ?_
   | refine LeO.bind ?_ (fun _ => ?_)
theorem impl_RollOk.mono : ∀ a0 a1 a2 a3 k, LeO (impl_RollOk.f k a0 a1 a2 a3) (impl_RollOk.f (k + 1) a0 a1 a2 a3) := by
 intro a0 a1 a2 a3 k
 obtain ⟨ih0, ih1, ih2⟩ := impl_RollOk.mono_l k
 unfold impl_RollOk.f
 repeat' first
  | (with_reducible exact ih0 _ _ _ _ _ _ _ _)
  | (with_reducible exact ih1 _ _ _ _ _ _ _ _ _ _ _ _ _ _)
  | (with_reducible exact ih2 _ _ _ _ _ _ _ _ _ _ _ _ _ _)
  | (with_reducible exact impl_nodesAscend.mono _ _ _)
  | (with_reducible exact slices_Equal_int_int.mono _ _ _)
  | (with_reducible exact LeO.refl _)
  | (with_reducible exact LeO.none _)
  | (with_reducible refine LeO.ite ?_ ?_)
  | (with_reducible refine LeO.bind ?_ (fun _ => ?_))
  | exact ih0 _ _ _ _ _ _ _ _
  | exact ih1 _ _ _ _ _ _ _ _ _ _ _ _ _ _
  | exact ih2 _ _ _ _ _ _ _ _ _ _ _ _ _ _
  | exact impl_nodesAscend.mono _ _ _
  | exact slices_Equal_int_int.mono _ _ _
  | exact LeO.none _
  | refine LeO.ite ?_ ?_
  | refine LeO.bind ?_ (fun _ => ?_)
def impl_RollOk.T5 : Bool × List (List Nat × List Nat) := (true, [([], []), ([0], [0]), ([1], [1]), ([2], [2]), ([3, 2], [3]), ([4], [4]), ([5, 4], [4, 5]), ([6, 4, 4], [4, 6]), ([7], [7]), ([8, 7], [7, 8]), ([7], [7]), ([10, 7], [7, 10]), ([9, 11, 7], [7, 9, 11]), ([12, 7], [7, 12]), ([13, 7], [7, 13]), ([7], [7]), ([15, 7], [7, 15]), ([14, 16, 7], [7, 14, 16]), ([7, 17, 4], [4, 7, 17]), ([4, 18], [4, 18]), ([19, 7], [19]), ([20], [20]), ([21, 20], [20, 21]), ([22, 20, 20], [20, 22]), ([23, 20], [20, 23]), ([20, 24], [20, 24]), ([25, 23], [25]), ([26], [26]), ([27, 26], [26, 27]), ([28, 26], [26, 28]), ([29, 26], [26, 29]), ([26, 30], [26, 30])])
def impl_RollOk.B5 : List Nat := [0, 1, 3, 7, 15, 31, 63, 127, 255, 511, 255, 1279, 4095, 8191, 16383, 255, 33023, 131071, 262143, 524287, 1048575, 2097151, 4194303, 8388607, 16777215, 33554431, 67108863, 134217727, 268435455, 536870911, 1073741823, 2147483647]
theorem impl_RollOk.tab5 : rtab .any (opsOf Try.f39 5) = impl_RollOk.T5 := by kernel_rfl
theorem impl_RollOk.bits5 : waitsOk impl_RollOk.T5.2 impl_RollOk.B5 = true := by kernel_rfl
set_option maxHeartbeats 8000000 in
set_option maxRecDepth 100000 in
theorem impl_RollOk.calls (k : Nat) (a0_0 : Int) (A0_1 : Option Addr) (c0_1 : Nat) (l0_1 : List (S65)) (a0_2 : Int) (A0_3 : Option Addr) (c0_3 : Nat) (l0_3 : List Int) (r : Bool) (w : World) (hr0_1 : Kd.C k65 w A0_1 l0_1.length l0_1) (hc0_1 : l0_1.length ≤ c0_1) (hr0_3 : Kd.C (Kd.int .i64) w A0_3 l0_3.length l0_3) (hc0_3 : l0_3.length ≤ c0_3) (h : impl_RollOk.f k a0_0 l0_1 a0_2 l0_3 = some r) :
 Calls Try.prog 39 #[.agg #[.int .i64 a0_0, .slice A0_1 l0_1.length c0_1, .int .i64 a0_2, .slice A0_3 l0_3.length c0_3]] w fun e w' => e = .returned (.bool r) ∧ Below w.heap.size w w' := by
 have hu43 := Try.underlying43
 have hu65 := Try.underlying65
 have HR0_1 := aM hr0_1
 have HC0_1 := aM hc0_1
 clear hr0_1 hc0_1
 have HR0_3 := aM hr0_3
 have HC0_3 := aM hc0_3
 clear hr0_3 hc0_3
 have HB := aM (Below.refl w.heap.size w)
 have H : (impl_RollOk.l0 k (([] : List Int)) l0_1 (l0_1.length : Int) 0 a0_0 l0_1 a0_2 l0_3) = some r := h
 clear h
 obtain ⟨y185, hy185⟩ : ∃ y_ : List Int, y_ = (([] : List Int)) := ⟨_, rfl⟩
 replace H : (impl_RollOk.l0 k y185 l0_1 (l0_1.length : Int) 0 a0_0 l0_1 a0_2 l0_3) = some r := by first | (rw [hy185]; with_reducible exact H) | (have H2_ := (Option.bind_some _ _).symm.trans H; rw [hy185]; with_reducible exact H2_) | (have H2_ := (Option.bind_some _ _).symm.trans H; with_reducible exact H2_) | with_reducible exact H | (rw [hy185]; exact H) | exact H
 have Ny185 := aM hy185
 clear hy185
 have H' := aM H
 clear H
 go_enter Try.func39, Try.ntmps39
 go_wp2_with (first | ((with_reducible refine gate_dst (N := 1) rfl ?_); (try (refine gate_guard (by rfl) ?_; dsimp only)); refine boxE (N := 1) rfl (cs := #[.int .i64 a0_0, .slice A0_1 l0_1.length c0_1, .int .i64 a0_2, .slice A0_3 l0_3.length c0_3]) (t := 43) ?_; intro gb184 hg w2 hbox hb; have BK184 := aM (hbox); have GW184 := aM (xge hg); have GE184 := aM (xge hg); replace HB := xbs hb; clear hb hbox hg) | ((with_reducible refine gate_dst (N := 7) rfl ?_); (try (refine gate_guard (by rfl) ?_; dsimp only)); refine Kd.R_lit (Kd.int .i64) _ 3 ?hg (N := 7) ?hd (xs := ([] : List Int)) (inner := []) (ok := fun _ => True) (okp := fun _ => True) ?hr ?hp (fun _ hk => hk) trivial (Below.refl _ _) (Nat.le_refl _) (by simp) ?_; (case hd => rfl); (case hg => rfl); (case hr => first | (go_simp; done) | (go_simp; rfl)); (case hp => exact (Reps.none _ _)); intro v186 w3 ho4 hb hg_ hnew_; clear hg_ hnew_; (first | rw [← Ny185.out] at ho4 | (simp only [Int.reduceToNat] at ho4; rw [← Ny185.out] at ho4)); have HO187 := aM (Kd.R_lower ho4 (below_size xbg)); replace BK184 := xbb BK184 hb; replace HB := xbs hb; clear hb ho4; obtain ⟨hcz5_0, hcz5_1, hcz5_2, hcz5_3, hfz5_0, hfz5_1, hfz5_2, hfz5_3⟩ := xf4 (w := w3) BK184))
 go_loopg [3, 11] k (fun kq v3 v11 w' => ∃ (x3_1 : List Int) (x11_1 : Int), v11 = .int .i64 x11_1 ∧ Aside0 (impl_RollOk.l0 kq x3_1 l0_1 (l0_1.length : Int) x11_1 a0_0 l0_1 a0_2 l0_3 = some r) ∧ Aside0 (kq ≤ k) ∧ Aside0 (Kd.R (Kd.int .i64) 3 w' w.heap.size (fun _ => True) v3 x3_1) ∧ Aside0 (w'.heap[gb184]? = some (.cells #[.int .i64 a0_0, (.slice A0_1 l0_1.length c0_1), .int .i64 a0_2, (.slice A0_3 l0_3.length c0_3)] 43 (0, 0))) ∧ Aside0 (Below w.heap.size w w'))
 case atStart => exact ⟨(y185), (0), (by first | rfl | (simp; done) | (simp [*]; done)), H', ⟨Nat.le_refl _⟩, ⟨by (with_reducible repeat (first | apply Kd.R_alloc | apply Kd.R_drewN | apply Kd.R_drew)); exact HO187.out⟩, ⟨xblk⟩, ⟨xbg⟩⟩
 case round =>
  clear H'
  try clear p2
  try clear c3
  try clear hcz5_0 hcz5_1 hcz5_2 hcz5_3 hfz5_0 hfz5_1 hfz5_2 hfz5_3
  obtain ⟨x3_1, x11_1, rfl, HA, HK1, HO_3, BK184, HB⟩ := hrel
  cases gk with
  | zero => exact absurd HA.out (by simp [impl_RollOk.l0])
  | succ k1 =>
   have H := HA.out; clear HA
   simp only [impl_RollOk.l0] at H
   by_cases c6 : x11_1 < (l0_1.length : Int)
   ·rw [if_pos c6] at H
    have c6b0 : decide (x11_1 < (l0_1.length : Int)) = true := decide_eq_true c6; clear c6
    by_cases c7 : 0 ≤ x11_1
    ·rw [if_pos c7] at H
     have c7b0 : decide (0 ≤ x11_1) = true := decide_eq_true c7; clear c7
     by_cases c8 : x11_1 < (l0_1.length : Int)
     ·rw [if_pos c8] at H
      have c8b0 : decide (x11_1 < (l0_1.length : Int)) = true := decide_eq_true c8; clear c8; have HC9 := aM H; clear H; have p188 : 0 ≤ (x11_1 : Int) := oda; have q188 : x11_1 < (l0_1.length : Int) := oda
      obtain ⟨ad188, A188_3, c188_3, e188, hx188_0, hx188_1, hx188_2, hx188_3, hx188_4, hl188_3, hi188_3⟩ := at_T65 HR0_1.out x11_1 p188 q188
      cases e188
      replace hx188_0 := xce HB hx188_0; replace hx188_1 := xce HB hx188_1; replace hx188_2 := xce HB hx188_2; replace hx188_3 := xce HB hx188_3; replace hx188_4 := xce HB hx188_4; have HR188_3 := aM hi188_3; have HC188_3 := aM hl188_3; clear hi188_3 hl188_3; replace p188 := eq_true p188; replace q188 := eq_true q188
      go_upto_region 5 with (first | ((with_reducible refine gate_dst (N := 5) rfl ?_); (try (refine gate_guard (by rfl) ?_; dsimp only)); refine boxE (N := 5) rfl (cs := #[.int .i64 0, .int .i64 0, .string (⟨#[]⟩ : ByteArray), .slice none 0 0, .int .i64 0]) (t := 65) ?_; intro gb189 hg w10 hbox hb; replace HO_3 := aM (Kd.R_below (xr HO_3) hb); have GW189 := aM (xge hg); have GE189 := aM (xge hg); replace HB := xbs hb; have NB184_189 := nblt BK184 hg; have NB189_184 := nbgt BK184 hg; replace BK184 := xbb BK184 hb; have BK189 := aM (hbox); clear hb hbox hg; have hnb11 := NB189_184.out; have hnc11 := NB184_189.out; obtain ⟨hcz12_0, hcz12_1, hcz12_2, hcz12_3, hcz12_4, hfz12_0, hfz12_1, hfz12_2, hfz12_3, hfz12_4⟩ := xf5 (w := w10) BK189) | ((with_reducible refine gate_store (t := 65) (p := 5) rfl ?_); refine store_event (t := 65) (p := 5) (v := ?vo_w13) (w1 := (((((w10.setCell ⟨gb189, 0, none⟩ (.int .i64 ((rd_T65 l0_1 x11_1).f0))).setCell ⟨gb189, 1, none⟩ (.int .i64 ((rd_T65 l0_1 x11_1).f1))).setCell ⟨gb189, 2, none⟩ (.string ((rd_T65 l0_1 x11_1).f2))).setCell ⟨gb189, 3, none⟩ (.slice A188_3 ((rd_T65 l0_1 x11_1).f3).length c188_3)).setCell ⟨gb189, 4, none⟩ (.int .i64 ((rd_T65 l0_1 x11_1).f4)))) ?hg ?ho ?hn ?hr ?_; (case ho | hg | hn => rfl); (case hr => first | (go_simp; done) | (go_simp; rfl)); intro w13 hw; replace HO_3 : Aside0 (Kd.R (Kd.int .i64) 3 w13 w.heap.size (fun _ => True) u3 x3_1) := ⟨(by rw [hw]; exact (by (with_reducible repeat (first | apply Kd.R_alloc | apply Kd.R_drewN | apply Kd.R_drew)); exact Kd.R_mono (Kd.R_far (p := ⟨gb189, 4, none⟩) (Kd.R_far (p := ⟨gb189, 3, none⟩) (Kd.R_far (p := ⟨gb189, 2, none⟩) (Kd.R_far (p := ⟨gb189, 1, none⟩) (Kd.R_far (p := ⟨gb189, 0, none⟩) (Kd.R_types HO_3.out BK189.out (by decide)) (fun _ hk => hk.2) (.int .i64 ((rd_T65 l0_1 x11_1).f0))) (fun _ hk => hk.2) (.int .i64 ((rd_T65 l0_1 x11_1).f1))) (fun _ hk => hk.2) (.string ((rd_T65 l0_1 x11_1).f2))) (fun _ hk => hk.2) (.slice A188_3 ((rd_T65 l0_1 x11_1).f3).length c188_3)) (fun _ hk => hk.2) (.int .i64 ((rd_T65 l0_1 x11_1).f4))) (fun _ hk => trivial)))⟩; replace BK184 : Aside0 (w13.heap[gb184]? = some (.cells #[.int .i64 a0_0, .slice (some ad188) l0_1.length c0_1, .int .i64 a0_2, .slice A0_3 l0_3.length c0_3] 43 (0, 0))) := ⟨(by rw [hw]; exact (by (with_reducible repeat (first | refine blk_drewN ?_ _ | refine blk_drew ?_ | refine blk_alloc ?_ _)); refine blk_far ?_ NB184_189.out _; (with_reducible repeat (first | refine blk_drewN ?_ _ | refine blk_drew ?_ | refine blk_alloc ?_ _)); refine blk_far ?_ NB184_189.out _; (with_reducible repeat (first | refine blk_drewN ?_ _ | refine blk_drew ?_ | refine blk_alloc ?_ _)); refine blk_far ?_ NB184_189.out _; (with_reducible repeat (first | refine blk_drewN ?_ _ | refine blk_drew ?_ | refine blk_alloc ?_ _)); refine blk_far ?_ NB184_189.out _; (with_reducible repeat (first | refine blk_drewN ?_ _ | refine blk_drew ?_ | refine blk_alloc ?_ _)); refine blk_far ?_ NB184_189.out _; (with_reducible repeat (first | refine blk_drewN ?_ _ | refine blk_drew ?_ | refine blk_alloc ?_ _)); exact BK184.out))⟩; replace BK189 : Aside0 (w13.heap[gb189]? = some (.cells #[.int .i64 ((rd_T65 l0_1 x11_1).f0), .int .i64 ((rd_T65 l0_1 x11_1).f1), .string ((rd_T65 l0_1 x11_1).f2), .slice A188_3 ((rd_T65 l0_1 x11_1).f3).length c188_3, .int .i64 ((rd_T65 l0_1 x11_1).f4)] 65 (0, 0))) := ⟨(by rw [hw]; exact (by (with_reducible repeat (first | refine blk_drewN ?_ _ | refine blk_drew ?_ | refine blk_alloc ?_ _)); refine blk_put (cs := #[.int .i64 ((rd_T65 l0_1 x11_1).f0), .int .i64 ((rd_T65 l0_1 x11_1).f1), .string ((rd_T65 l0_1 x11_1).f2), .slice A188_3 ((rd_T65 l0_1 x11_1).f3).length c188_3, .int .i64 0]) ?_ 4 _ rfl; (with_reducible repeat (first | refine blk_drewN ?_ _ | refine blk_drew ?_ | refine blk_alloc ?_ _)); refine blk_put (cs := #[.int .i64 ((rd_T65 l0_1 x11_1).f0), .int .i64 ((rd_T65 l0_1 x11_1).f1), .string ((rd_T65 l0_1 x11_1).f2), .slice none 0 0, .int .i64 0]) ?_ 3 _ rfl; (with_reducible repeat (first | refine blk_drewN ?_ _ | refine blk_drew ?_ | refine blk_alloc ?_ _)); refine blk_put (cs := #[.int .i64 ((rd_T65 l0_1 x11_1).f0), .int .i64 ((rd_T65 l0_1 x11_1).f1), .string (⟨#[]⟩ : ByteArray), .slice none 0 0, .int .i64 0]) ?_ 2 _ rfl; (with_reducible repeat (first | refine blk_drewN ?_ _ | refine blk_drew ?_ | refine blk_alloc ?_ _)); refine blk_put (cs := #[.int .i64 ((rd_T65 l0_1 x11_1).f0), .int .i64 0, .string (⟨#[]⟩ : ByteArray), .slice none 0 0, .int .i64 0]) ?_ 1 _ rfl; (with_reducible repeat (first | refine blk_drewN ?_ _ | refine blk_drew ?_ | refine blk_alloc ?_ _)); refine blk_put (cs := #[.int .i64 0, .int .i64 0, .string (⟨#[]⟩ : ByteArray), .slice none 0 0, .int .i64 0]) ?_ 0 _ rfl; (with_reducible repeat (first | refine blk_drewN ?_ _ | refine blk_drew ?_ | refine blk_alloc ?_ _)); exact BK189.out))⟩; replace HB : Aside0 (Below w.heap.size w w13) := ⟨(by rw [hw]; exact xbg)⟩; clear hw))
      (try simp only [Act.put, List.setIfInBounds_toArray, List.set_cons_zero, List.set_cons_succ])
      go_cut [47] (fun v47 wc => ∃ (kq : Nat) (x47_8 : Bool), v47 = .bool x47_8 ∧ Aside0 (impl_RollOk.j1 kq x3_1 l0_1 (l0_1.length : Int) x11_1 x47_8 a0_0 l0_1 a0_2 l0_3 ((rd_T65 l0_1 x11_1).f0) ((rd_T65 l0_1 x11_1).f1) ((rd_T65 l0_1 x11_1).f2) ((rd_T65 l0_1 x11_1).f3) ((rd_T65 l0_1 x11_1).f4) = some r) ∧ Aside0 (kq ≤ k1) ∧ Aside0 (Kd.R (Kd.int .i64) 3 wc w.heap.size (fun _ => True) u3 x3_1) ∧ Aside0 (wc.heap[gb184]? = some (.cells #[.int .i64 a0_0, (.slice (some ad188) l0_1.length c0_1), .int .i64 a0_2, (.slice A0_3 l0_3.length c0_3)] 43 (0, 0))) ∧ Aside0 (wc.heap[gb189]? = some (.cells #[.int .i64 ((rd_T65 l0_1 x11_1).f0), .int .i64 ((rd_T65 l0_1 x11_1).f1), .string ((rd_T65 l0_1 x11_1).f2), (.slice A188_3 ((rd_T65 l0_1 x11_1).f3).length c188_3), .int .i64 ((rd_T65 l0_1 x11_1).f4)] 65 (0, 0))) ∧ Aside0 (Below w.heap.size w wc))
      case first =>
       have H := HC9.out; clear HC9; replace H := Option.bind_eq_some_iff.mp H
       obtain ⟨t190, A140, H⟩ := H
       replace H : (if t190 = true then (if x11_1 > 0 then (if 0 ≤ (wrap64 (x11_1 - 1)) then (if (wrap64 (x11_1 - 1)) < (l0_1.length : Int) then (if ((rd_T65 l0_1 (wrap64 (x11_1 - 1))).f0) ≥ ((rd_T65 l0_1 x11_1).f0) then (impl_RollOk.j1 k1 x3_1 l0_1 (l0_1.length : Int) x11_1 true a0_0 l0_1 a0_2 l0_3 ((rd_T65 l0_1 x11_1).f0) ((rd_T65 l0_1 x11_1).f1) ((rd_T65 l0_1 x11_1).f2) ((rd_T65 l0_1 x11_1).f3) ((rd_T65 l0_1 x11_1).f4)) else ((impl_isSize.f ((rd_T65 l0_1 x11_1).f1)).bind fun t192 => (if t192 = true then (impl_RollOk.j1 k1 x3_1 l0_1 (l0_1.length : Int) x11_1 ((((rd_T65 l0_1 x11_1).f2).size : Int) != 32) a0_0 l0_1 a0_2 l0_3 ((rd_T65 l0_1 x11_1).f0) ((rd_T65 l0_1 x11_1).f1) ((rd_T65 l0_1 x11_1).f2) ((rd_T65 l0_1 x11_1).f3) ((rd_T65 l0_1 x11_1).f4)) else (impl_RollOk.j1 k1 x3_1 l0_1 (l0_1.length : Int) x11_1 true a0_0 l0_1 a0_2 l0_3 ((rd_T65 l0_1 x11_1).f0) ((rd_T65 l0_1 x11_1).f1) ((rd_T65 l0_1 x11_1).f2) ((rd_T65 l0_1 x11_1).f3) ((rd_T65 l0_1 x11_1).f4))))) else (none)) else (none)) else ((impl_isSize.f ((rd_T65 l0_1 x11_1).f1)).bind fun t193 => (if t193 = true then (impl_RollOk.j1 k1 x3_1 l0_1 (l0_1.length : Int) x11_1 ((((rd_T65 l0_1 x11_1).f2).size : Int) != 32) a0_0 l0_1 a0_2 l0_3 ((rd_T65 l0_1 x11_1).f0) ((rd_T65 l0_1 x11_1).f1) ((rd_T65 l0_1 x11_1).f2) ((rd_T65 l0_1 x11_1).f3) ((rd_T65 l0_1 x11_1).f4)) else (impl_RollOk.j1 k1 x3_1 l0_1 (l0_1.length : Int) x11_1 true a0_0 l0_1 a0_2 l0_3 ((rd_T65 l0_1 x11_1).f0) ((rd_T65 l0_1 x11_1).f1) ((rd_T65 l0_1 x11_1).f2) ((rd_T65 l0_1 x11_1).f3) ((rd_T65 l0_1 x11_1).f4))))) else (impl_RollOk.j1 k1 x3_1 l0_1 (l0_1.length : Int) x11_1 true a0_0 l0_1 a0_2 l0_3 ((rd_T65 l0_1 x11_1).f0) ((rd_T65 l0_1 x11_1).f1) ((rd_T65 l0_1 x11_1).f2) ((rd_T65 l0_1 x11_1).f3) ((rd_T65 l0_1 x11_1).f4))) = some r := H
       have A14 := aM A140; clear A140
       by_cases c15 : t190 = true
       ·subst c15
        have H1 : (if x11_1 > 0 then (if 0 ≤ (wrap64 (x11_1 - 1)) then (if (wrap64 (x11_1 - 1)) < (l0_1.length : Int) then (if ((rd_T65 l0_1 (wrap64 (x11_1 - 1))).f0) ≥ ((rd_T65 l0_1 x11_1).f0) then (impl_RollOk.j1 k1 x3_1 l0_1 (l0_1.length : Int) x11_1 true a0_0 l0_1 a0_2 l0_3 ((rd_T65 l0_1 x11_1).f0) ((rd_T65 l0_1 x11_1).f1) ((rd_T65 l0_1 x11_1).f2) ((rd_T65 l0_1 x11_1).f3) ((rd_T65 l0_1 x11_1).f4)) else ((impl_isSize.f ((rd_T65 l0_1 x11_1).f1)).bind fun t192 => (if t192 = true then (impl_RollOk.j1 k1 x3_1 l0_1 (l0_1.length : Int) x11_1 ((((rd_T65 l0_1 x11_1).f2).size : Int) != 32) a0_0 l0_1 a0_2 l0_3 ((rd_T65 l0_1 x11_1).f0) ((rd_T65 l0_1 x11_1).f1) ((rd_T65 l0_1 x11_1).f2) ((rd_T65 l0_1 x11_1).f3) ((rd_T65 l0_1 x11_1).f4)) else (impl_RollOk.j1 k1 x3_1 l0_1 (l0_1.length : Int) x11_1 true a0_0 l0_1 a0_2 l0_3 ((rd_T65 l0_1 x11_1).f0) ((rd_T65 l0_1 x11_1).f1) ((rd_T65 l0_1 x11_1).f2) ((rd_T65 l0_1 x11_1).f3) ((rd_T65 l0_1 x11_1).f4))))) else (none)) else (none)) else ((impl_isSize.f ((rd_T65 l0_1 x11_1).f1)).bind fun t193 => (if t193 = true then (impl_RollOk.j1 k1 x3_1 l0_1 (l0_1.length : Int) x11_1 ((((rd_T65 l0_1 x11_1).f2).size : Int) != 32) a0_0 l0_1 a0_2 l0_3 ((rd_T65 l0_1 x11_1).f0) ((rd_T65 l0_1 x11_1).f1) ((rd_T65 l0_1 x11_1).f2) ((rd_T65 l0_1 x11_1).f3) ((rd_T65 l0_1 x11_1).f4)) else (impl_RollOk.j1 k1 x3_1 l0_1 (l0_1.length : Int) x11_1 true a0_0 l0_1 a0_2 l0_3 ((rd_T65 l0_1 x11_1).f0) ((rd_T65 l0_1 x11_1).f1) ((rd_T65 l0_1 x11_1).f2) ((rd_T65 l0_1 x11_1).f3) ((rd_T65 l0_1 x11_1).f4))))) = some r := by rw [if_pos rfl] at H; exact H
        clear H; have H := H1; clear H1
        by_cases c16 : x11_1 > 0
        ·rw [if_pos c16] at H
         have c16b0 : decide (0 < x11_1) = true := decide_eq_true c16; clear c16
         (first | rw [c16b0] | (simp only [i64_w, i32_w]; rw [c16b0]) | skip)
         obtain ⟨ji17, hji17⟩ : ∃ j_ : Int, (wrap64 (x11_1 - 1)) = j_ := ⟨_, rfl⟩
         replace H : (if 0 ≤ (ji17) then (if (ji17) < (l0_1.length : Int) then (if ((rd_T65 l0_1 (ji17)).f0) ≥ ((rd_T65 l0_1 x11_1).f0) then (impl_RollOk.j1 k1 x3_1 l0_1 (l0_1.length : Int) x11_1 true a0_0 l0_1 a0_2 l0_3 ((rd_T65 l0_1 x11_1).f0) ((rd_T65 l0_1 x11_1).f1) ((rd_T65 l0_1 x11_1).f2) ((rd_T65 l0_1 x11_1).f3) ((rd_T65 l0_1 x11_1).f4)) else ((impl_isSize.f ((rd_T65 l0_1 x11_1).f1)).bind fun t192 => (if t192 = true then (impl_RollOk.j1 k1 x3_1 l0_1 (l0_1.length : Int) x11_1 ((((rd_T65 l0_1 x11_1).f2).size : Int) != 32) a0_0 l0_1 a0_2 l0_3 ((rd_T65 l0_1 x11_1).f0) ((rd_T65 l0_1 x11_1).f1) ((rd_T65 l0_1 x11_1).f2) ((rd_T65 l0_1 x11_1).f3) ((rd_T65 l0_1 x11_1).f4)) else (impl_RollOk.j1 k1 x3_1 l0_1 (l0_1.length : Int) x11_1 true a0_0 l0_1 a0_2 l0_3 ((rd_T65 l0_1 x11_1).f0) ((rd_T65 l0_1 x11_1).f1) ((rd_T65 l0_1 x11_1).f2) ((rd_T65 l0_1 x11_1).f3) ((rd_T65 l0_1 x11_1).f4))))) else (none)) else (none)) = some r := by first | (rw [hji17] at H; exact H) | (simp only [hji17] at H ⊢; exact H)
         (try rw [hji17] at A14)
         have hji17w : (IntKind.i64.wrap (x11_1 - 1)) = ji17 := (i64_w _).trans hji17
         by_cases c18 : 0 ≤ (ji17)
         ·rw [if_pos c18] at H
          have c18b0 : decide (0 ≤ (ji17)) = true := decide_eq_true c18; clear c18
          by_cases c19 : (ji17) < (l0_1.length : Int)
          ·rw [if_pos c19] at H
           have c19b0 : decide ((ji17) < (l0_1.length : Int)) = true := decide_eq_true c19; clear c19
           by_cases c20 : ((rd_T65 l0_1 (ji17)).f0) ≥ ((rd_T65 l0_1 x11_1).f0)
           ·rw [if_pos c20] at H
            have c20b0 : decide (((rd_T65 l0_1 x11_1).f0) ≤ ((rd_T65 l0_1 (ji17)).f0)) = true := decide_eq_true c20; clear c20
            have H' := aM H
            clear H
            try go_wp2
            replace HO_3 := aM (Kd.R_drew HO_3.out); replace BK184 := aM (blk_drew BK184.out); replace BK189 := aM (blk_drew BK189.out); replace HB := aM (below_drew1 HB.out); have p191 : 0 ≤ ((ji17) : Int) := oda; have q191 : (ji17) < (l0_1.length : Int) := oda
            obtain ⟨ad191, A191_3, c191_3, e191, hx191_0, hx191_1, hx191_2, hx191_3, hx191_4, hl191_3, hi191_3⟩ := at_T65 HR0_1.out (ji17) p191 q191
            have hw191_4 := hx191_4; have hw191_3 := hx191_3; have hw191_2 := hx191_2; have hw191_1 := hx191_1; have hw191_0 := hx191_0
            obtain rfl : ad188 = ad191 := (by injection e191)
            replace hx191_0 := xce HB hx191_0; replace hx191_1 := xce HB hx191_1; replace hx191_2 := xce HB hx191_2; replace hx191_3 := xce HB hx191_3; replace hx191_4 := xce HB hx191_4; have HR191_3 := aM hi191_3; have HC191_3 := aM hl191_3; clear hi191_3 hl191_3; replace p191 := eq_true p191; replace q191 := eq_true q191
            refine start_ (n := 32) (S := fun w' => w'.cell? ⟨gb189, 0, none⟩ = some (.int .i64 ((rd_T65 l0_1 x11_1).f0)) ∧ w'.cell? ⟨gb189, 1, none⟩ = some (.int .i64 ((rd_T65 l0_1 x11_1).f1)) ∧ w'.cell? ⟨gb189, 2, none⟩ = some (.string ((rd_T65 l0_1 x11_1).f2)) ∧ w'.cell? ⟨gb189, 3, none⟩ = some (.slice A188_3 ((rd_T65 l0_1 x11_1).f3).length c188_3) ∧ w'.cell? ⟨gb189, 4, none⟩ = some (.int .i64 ((rd_T65 l0_1 x11_1).f4)) ∧ w'.cell? ⟨gb184, 0, none⟩ = some (.int .i64 a0_0) ∧ w'.cell? ⟨gb184, 1, none⟩ = some (.slice (some ad188) l0_1.length c0_1) ∧ w'.cell? ⟨gb184, 2, none⟩ = some (.int .i64 a0_2) ∧ w'.cell? ⟨gb184, 3, none⟩ = some (.slice A0_3 l0_3.length c0_3) ∧ w'.cell? (ad188.add (((ji17)).toNat * 5)) = some (.int .i64 ((rd_T65 l0_1 (ji17)).f0)) ∧ w'.cell? ⟨(ad188.add (((ji17)).toNat * 5)).block, (ad188.add (((ji17)).toNat * 5)).off + 1, none⟩ = some (.int .i64 ((rd_T65 l0_1 (ji17)).f1)) ∧ w'.cell? ⟨(ad188.add (((ji17)).toNat * 5)).block, (ad188.add (((ji17)).toNat * 5)).off + 2, none⟩ = some (.string ((rd_T65 l0_1 (ji17)).f2)) ∧ w'.cell? ⟨(ad188.add (((ji17)).toNat * 5)).block, (ad188.add (((ji17)).toNat * 5)).off + 3, none⟩ = some (.slice A191_3 ((rd_T65 l0_1 (ji17)).f3).length c191_3) ∧ w'.cell? ⟨(ad188.add (((ji17)).toNat * 5)).block, (ad188.add (((ji17)).toNat * 5)).off + 4, none⟩ = some (.int .i64 ((rd_T65 l0_1 (ji17)).f4))) (ds := []) #[false, false, false, false, false, false, false, false, false, false, false, false, false, false, false, false, false, false, false, false, false, false, false, false, false, false, false, false, false, false, false, false] (by kernel_rfl) rfl rfl ⟨xc BK189 0 rfl, xc BK189 1 rfl, xc BK189 2 rfl, xc BK189 3 rfl, xc BK189 4 rfl, xc BK184 0 rfl, xc BK184 1 rfl, xc BK184 2 rfl, xc BK184 3 rfl, (xce HB hw191_0), (xce HB hw191_1), (xce HB hw191_2), (xce HB hw191_3), (xce HB hw191_4)⟩ (fun hHeld => ?_); refine with_tabW impl_RollOk.tab5 impl_RollOk.bits5 (fun HT_ HW_ => ?_)
            generalize w13.drew = w21 at HO_3 BK184 BK189 HB HR191_3 hx191_0 hx191_1 hx191_2 hx191_3 hx191_4 hHeld ⊢
            refine pv_ 0 16 (h := ?_)
            refine tk_ 1 17 (h := ?_)
            refine on_ 2 18 (h := fun K hK => ?_)
            refine goesY Try.func96 #[.int .i64 ((rd_T65 l0_1 x11_1).f0)] ?_
            with_reducible refine (impl_isRelease.calls ((rd_T65 l0_1 x11_1).f0) true _ A14.out).mono ?_
            rintro e w' ⟨rfl, ⟨nd, rfl⟩⟩
            refine ⟨_, rfl, ?_⟩
            refine hK.out _ _ ⟨xc BK189 0 rfl, xc BK189 1 rfl, xc BK189 2 rfl, xc BK189 3 rfl, xc BK189 4 rfl, xc BK184 0 rfl, xc BK184 1 rfl, xc BK184 2 rfl, xc BK184 3 rfl, (xce HB hw191_0), (xce HB hw191_1), (xce HB hw191_2), (xce HB hw191_3), (xce HB hw191_4)⟩ (fun hHeld => ?_)
            clear hK K
            refine norm_ (a' := ?_) ?_ ?_
            rotate_left
            ·show Act.put _ (some 18) _ = _
             simp only [Act.put, List.setIfInBounds_toArray, List.set_cons_zero, List.set_cons_succ, i64_w, i32_w]
             rfl
            refine pv_ 3 19 (h := ?_)
            refine pv_ 4 20 (h := ?_)
            refine pv_ 5 21 (h := ?_)
            refine pv_ 6 22 (h := ?_)
            refine pv_ 7 23 (h := ?_)
            refine pv_ 8 24 (h := ?_)
            refine pv_ 10 26 (h := ?_)
            refine pv_ 11 27 (h := ?_)
            refine pv_ 15 31 (h := ?_)
            refine tk_ 9 25 (h := ?_)
            refine pv_ 12 28 (h := ?_)
            refine pv_ 13 29 (h := ?_)
            refine tk_ 14 30 (h := ?_)
            refine tk_ 16 32 (h := ?_)
            refine pv_ 17 33 (h := ?_)
            refine pv_ 18 34 (h := ?_)
            refine pv_ 19 35 (h := ?_)
            refine pv_ 20 36 (h := ?_)
            refine pu_ 21 37 (h := ?_)
            refine pu_ 22 38 (h := ?_)
            refine pu_ 23 39 (h := ?_)
            refine pu_ 24 40 (h := ?_)
            refine pv_ 25 41 (h := ?_)
            refine pv_ 26 42 (h := ?_)
            refine pu_ 27 43 (h := ?_)
            refine pu_ 28 44 (h := ?_)
            refine pu_ 29 45 (h := ?_)
            refine pu_ 30 46 (h := ?_)
            refine pv_ 31 47 (h := ?_)
            refine done_ (done_of HT_.out (by kernel_rfl)) ?_
            try go_wp2
            go_meet
            case rel => exact ⟨_, (true), (by first | rfl | (simp; done) | (simp [*]; done)), H', ⟨by have := HK1.out; first | omega | exact Nat.le_refl _⟩, ⟨by (with_reducible repeat (first | apply Kd.R_alloc | apply Kd.R_drewN | apply Kd.R_drew)); exact HO_3.out⟩, ⟨xblk⟩, ⟨xblk⟩, ⟨xbg⟩⟩
           ·rw [if_neg c20] at H
            have c20b0 : decide (((rd_T65 l0_1 x11_1).f0) ≤ ((rd_T65 l0_1 (ji17)).f0)) = false := decide_eq_false c20; clear c20; replace H := Option.bind_eq_some_iff.mp H
            obtain ⟨t192, A220, H⟩ := H
            replace H : (if t192 = true then (impl_RollOk.j1 k1 x3_1 l0_1 (l0_1.length : Int) x11_1 ((((rd_T65 l0_1 x11_1).f2).size : Int) != 32) a0_0 l0_1 a0_2 l0_3 ((rd_T65 l0_1 x11_1).f0) ((rd_T65 l0_1 x11_1).f1) ((rd_T65 l0_1 x11_1).f2) ((rd_T65 l0_1 x11_1).f3) ((rd_T65 l0_1 x11_1).f4)) else (impl_RollOk.j1 k1 x3_1 l0_1 (l0_1.length : Int) x11_1 true a0_0 l0_1 a0_2 l0_3 ((rd_T65 l0_1 x11_1).f0) ((rd_T65 l0_1 x11_1).f1) ((rd_T65 l0_1 x11_1).f2) ((rd_T65 l0_1 x11_1).f3) ((rd_T65 l0_1 x11_1).f4))) = some r := H; have A22 := aM A220; clear A220
            by_cases c23 : t192 = true
            ·subst c23
             have H1 : (impl_RollOk.j1 k1 x3_1 l0_1 (l0_1.length : Int) x11_1 ((((rd_T65 l0_1 x11_1).f2).size : Int) != 32) a0_0 l0_1 a0_2 l0_3 ((rd_T65 l0_1 x11_1).f0) ((rd_T65 l0_1 x11_1).f1) ((rd_T65 l0_1 x11_1).f2) ((rd_T65 l0_1 x11_1).f3) ((rd_T65 l0_1 x11_1).f4)) = some r := by rw [if_pos rfl] at H; exact H
             clear H; have H := H1; clear H1
             have H' := aM H
             clear H
             try go_wp2
             replace HO_3 := aM (Kd.R_drew HO_3.out); replace BK184 := aM (blk_drew BK184.out); replace BK189 := aM (blk_drew BK189.out); replace HB := aM (below_drew1 HB.out); have p191 : 0 ≤ ((ji17) : Int) := oda; have q191 : (ji17) < (l0_1.length : Int) := oda
             obtain ⟨ad191, A191_3, c191_3, e191, hx191_0, hx191_1, hx191_2, hx191_3, hx191_4, hl191_3, hi191_3⟩ := at_T65 HR0_1.out (ji17) p191 q191
             have hw191_4 := hx191_4; have hw191_3 := hx191_3; have hw191_2 := hx191_2; have hw191_1 := hx191_1; have hw191_0 := hx191_0
             obtain rfl : ad188 = ad191 := (by injection e191)
             replace hx191_0 := xce HB hx191_0; replace hx191_1 := xce HB hx191_1; replace hx191_2 := xce HB hx191_2; replace hx191_3 := xce HB hx191_3; replace hx191_4 := xce HB hx191_4; have HR191_3 := aM hi191_3; have HC191_3 := aM hl191_3; clear hi191_3 hl191_3; replace p191 := eq_true p191; replace q191 := eq_true q191
             refine start_ (n := 32) (S := fun w' => w'.cell? ⟨gb189, 0, none⟩ = some (.int .i64 ((rd_T65 l0_1 x11_1).f0)) ∧ w'.cell? ⟨gb189, 1, none⟩ = some (.int .i64 ((rd_T65 l0_1 x11_1).f1)) ∧ w'.cell? ⟨gb189, 2, none⟩ = some (.string ((rd_T65 l0_1 x11_1).f2)) ∧ w'.cell? ⟨gb189, 3, none⟩ = some (.slice A188_3 ((rd_T65 l0_1 x11_1).f3).length c188_3) ∧ w'.cell? ⟨gb189, 4, none⟩ = some (.int .i64 ((rd_T65 l0_1 x11_1).f4)) ∧ w'.cell? ⟨gb184, 0, none⟩ = some (.int .i64 a0_0) ∧ w'.cell? ⟨gb184, 1, none⟩ = some (.slice (some ad188) l0_1.length c0_1) ∧ w'.cell? ⟨gb184, 2, none⟩ = some (.int .i64 a0_2) ∧ w'.cell? ⟨gb184, 3, none⟩ = some (.slice A0_3 l0_3.length c0_3) ∧ w'.cell? (ad188.add (((ji17)).toNat * 5)) = some (.int .i64 ((rd_T65 l0_1 (ji17)).f0)) ∧ w'.cell? ⟨(ad188.add (((ji17)).toNat * 5)).block, (ad188.add (((ji17)).toNat * 5)).off + 1, none⟩ = some (.int .i64 ((rd_T65 l0_1 (ji17)).f1)) ∧ w'.cell? ⟨(ad188.add (((ji17)).toNat * 5)).block, (ad188.add (((ji17)).toNat * 5)).off + 2, none⟩ = some (.string ((rd_T65 l0_1 (ji17)).f2)) ∧ w'.cell? ⟨(ad188.add (((ji17)).toNat * 5)).block, (ad188.add (((ji17)).toNat * 5)).off + 3, none⟩ = some (.slice A191_3 ((rd_T65 l0_1 (ji17)).f3).length c191_3) ∧ w'.cell? ⟨(ad188.add (((ji17)).toNat * 5)).block, (ad188.add (((ji17)).toNat * 5)).off + 4, none⟩ = some (.int .i64 ((rd_T65 l0_1 (ji17)).f4))) (ds := []) #[false, false, false, false, false, false, false, false, false, false, false, false, false, false, false, false, false, false, false, false, false, false, false, false, false, false, false, false, false, false, false, false] (by kernel_rfl) rfl rfl ⟨xc BK189 0 rfl, xc BK189 1 rfl, xc BK189 2 rfl, xc BK189 3 rfl, xc BK189 4 rfl, xc BK184 0 rfl, xc BK184 1 rfl, xc BK184 2 rfl, xc BK184 3 rfl, (xce HB hw191_0), (xce HB hw191_1), (xce HB hw191_2), (xce HB hw191_3), (xce HB hw191_4)⟩ (fun hHeld => ?_); refine with_tabW impl_RollOk.tab5 impl_RollOk.bits5 (fun HT_ HW_ => ?_)
             generalize w13.drew = w24 at HO_3 BK184 BK189 HB HR191_3 hx191_0 hx191_1 hx191_2 hx191_3 hx191_4 hHeld ⊢
             refine pv_ 0 16 (h := ?_)
             refine tk_ 1 17 (h := ?_)
             refine on_ 2 18 (h := fun K hK => ?_)
             refine goesY Try.func96 #[.int .i64 ((rd_T65 l0_1 x11_1).f0)] ?_
             with_reducible refine (impl_isRelease.calls ((rd_T65 l0_1 x11_1).f0) true _ A14.out).mono ?_
             rintro e w' ⟨rfl, ⟨nd, rfl⟩⟩
             refine ⟨_, rfl, ?_⟩
             refine hK.out _ _ ⟨xc BK189 0 rfl, xc BK189 1 rfl, xc BK189 2 rfl, xc BK189 3 rfl, xc BK189 4 rfl, xc BK184 0 rfl, xc BK184 1 rfl, xc BK184 2 rfl, xc BK184 3 rfl, (xce HB hw191_0), (xce HB hw191_1), (xce HB hw191_2), (xce HB hw191_3), (xce HB hw191_4)⟩ (fun hHeld => ?_)
             clear hK K
             refine norm_ (a' := ?_) ?_ ?_
             rotate_left
             ·show Act.put _ (some 18) _ = _
              simp only [Act.put, List.setIfInBounds_toArray, List.set_cons_zero, List.set_cons_succ, i64_w, i32_w]
              rfl
             refine pv_ 3 19 (h := ?_)
             refine pv_ 4 20 (h := ?_)
             refine pv_ 5 21 (h := ?_)
             refine pv_ 6 22 (h := ?_)
             refine pv_ 7 23 (h := ?_)
             refine pv_ 8 24 (h := ?_)
             refine pv_ 10 26 (h := ?_)
             refine pv_ 11 27 (h := ?_)
             refine pv_ 15 31 (h := ?_)
             refine tk_ 9 25 (h := ?_)
             refine pv_ 12 28 (h := ?_)
             refine pv_ 13 29 (h := ?_)
             refine tk_ 14 30 (h := ?_)
             refine tk_ 16 32 (h := ?_)
             refine pv_ 17 33 (h := ?_)
             refine pv_ 18 34 (h := ?_)
             refine pv_ 19 35 (h := ?_)
             refine pv_ 20 36 (h := ?_)
             refine pv_ 21 37 (h := ?_)
             refine tk_ 22 38 (h := ?_)
             refine on_ 23 39 (h := fun K hK => ?_)
             refine goesY Try.func97 #[.int .i64 ((rd_T65 l0_1 x11_1).f1)] ?_
             with_reducible refine (impl_isSize.calls ((rd_T65 l0_1 x11_1).f1) true _ A22.out).mono ?_
             rintro e w' ⟨rfl, ⟨nd, rfl⟩⟩
             refine ⟨_, rfl, ?_⟩
             refine hK.out _ _ ⟨xc BK189 0 rfl, xc BK189 1 rfl, xc BK189 2 rfl, xc BK189 3 rfl, xc BK189 4 rfl, xc BK184 0 rfl, xc BK184 1 rfl, xc BK184 2 rfl, xc BK184 3 rfl, (xce HB hw191_0), (xce HB hw191_1), (xce HB hw191_2), (xce HB hw191_3), (xce HB hw191_4)⟩ (fun hHeld => ?_)
             clear hK K
             refine norm_ (a' := ?_) ?_ ?_
             rotate_left
             ·show Act.put _ (some 39) _ = _
              simp only [Act.put, List.setIfInBounds_toArray, List.set_cons_zero, List.set_cons_succ, i64_w, i32_w]
              rfl
             refine pv_ 24 40 (h := ?_)
             refine pv_ 25 41 (h := ?_)
             refine pv_ 26 42 (h := ?_)
             refine pv_ 27 43 (h := ?_)
             refine tk_ 28 44 (h := ?_)
             refine pv_ 29 45 (h := ?_)
             refine pv_ 30 46 (h := ?_)
             refine pv_ 31 47 (h := ?_)
             refine done_ (done_of HT_.out (by kernel_rfl)) ?_
             try go_wp2
             go_meet
             case rel => exact ⟨_, (((((rd_T65 l0_1 x11_1).f2).size : Int) != 32)), (by first | rfl | (simp; done) | (simp [*]; done)), H', ⟨by have := HK1.out; first | omega | exact Nat.le_refl _⟩, ⟨by (with_reducible repeat (first | apply Kd.R_alloc | apply Kd.R_drewN | apply Kd.R_drew)); exact HO_3.out⟩, ⟨xblk⟩, ⟨xblk⟩, ⟨xbg⟩⟩
            ·replace c23 := Bool.eq_false_iff.mpr c23
             subst c23
             have H1 : (impl_RollOk.j1 k1 x3_1 l0_1 (l0_1.length : Int) x11_1 true a0_0 l0_1 a0_2 l0_3 ((rd_T65 l0_1 x11_1).f0) ((rd_T65 l0_1 x11_1).f1) ((rd_T65 l0_1 x11_1).f2) ((rd_T65 l0_1 x11_1).f3) ((rd_T65 l0_1 x11_1).f4)) = some r := by rw [if_neg (show ¬ (false = true) by decide)] at H; exact H
             clear H; have H := H1; clear H1
             have H' := aM H
             clear H
             try go_wp2
             replace HO_3 := aM (Kd.R_drew HO_3.out); replace BK184 := aM (blk_drew BK184.out); replace BK189 := aM (blk_drew BK189.out); replace HB := aM (below_drew1 HB.out); have p191 : 0 ≤ ((ji17) : Int) := oda; have q191 : (ji17) < (l0_1.length : Int) := oda
             obtain ⟨ad191, A191_3, c191_3, e191, hx191_0, hx191_1, hx191_2, hx191_3, hx191_4, hl191_3, hi191_3⟩ := at_T65 HR0_1.out (ji17) p191 q191
             have hw191_4 := hx191_4; have hw191_3 := hx191_3; have hw191_2 := hx191_2; have hw191_1 := hx191_1; have hw191_0 := hx191_0
             obtain rfl : ad188 = ad191 := (by injection e191)
             replace hx191_0 := xce HB hx191_0; replace hx191_1 := xce HB hx191_1; replace hx191_2 := xce HB hx191_2; replace hx191_3 := xce HB hx191_3; replace hx191_4 := xce HB hx191_4; have HR191_3 := aM hi191_3; have HC191_3 := aM hl191_3; clear hi191_3 hl191_3; replace p191 := eq_true p191; replace q191 := eq_true q191
             refine start_ (n := 32) (S := fun w' => w'.cell? ⟨gb189, 0, none⟩ = some (.int .i64 ((rd_T65 l0_1 x11_1).f0)) ∧ w'.cell? ⟨gb189, 1, none⟩ = some (.int .i64 ((rd_T65 l0_1 x11_1).f1)) ∧ w'.cell? ⟨gb189, 2, none⟩ = some (.string ((rd_T65 l0_1 x11_1).f2)) ∧ w'.cell? ⟨gb189, 3, none⟩ = some (.slice A188_3 ((rd_T65 l0_1 x11_1).f3).length c188_3) ∧ w'.cell? ⟨gb189, 4, none⟩ = some (.int .i64 ((rd_T65 l0_1 x11_1).f4)) ∧ w'.cell? ⟨gb184, 0, none⟩ = some (.int .i64 a0_0) ∧ w'.cell? ⟨gb184, 1, none⟩ = some (.slice (some ad188) l0_1.length c0_1) ∧ w'.cell? ⟨gb184, 2, none⟩ = some (.int .i64 a0_2) ∧ w'.cell? ⟨gb184, 3, none⟩ = some (.slice A0_3 l0_3.length c0_3) ∧ w'.cell? (ad188.add (((ji17)).toNat * 5)) = some (.int .i64 ((rd_T65 l0_1 (ji17)).f0)) ∧ w'.cell? ⟨(ad188.add (((ji17)).toNat * 5)).block, (ad188.add (((ji17)).toNat * 5)).off + 1, none⟩ = some (.int .i64 ((rd_T65 l0_1 (ji17)).f1)) ∧ w'.cell? ⟨(ad188.add (((ji17)).toNat * 5)).block, (ad188.add (((ji17)).toNat * 5)).off + 2, none⟩ = some (.string ((rd_T65 l0_1 (ji17)).f2)) ∧ w'.cell? ⟨(ad188.add (((ji17)).toNat * 5)).block, (ad188.add (((ji17)).toNat * 5)).off + 3, none⟩ = some (.slice A191_3 ((rd_T65 l0_1 (ji17)).f3).length c191_3) ∧ w'.cell? ⟨(ad188.add (((ji17)).toNat * 5)).block, (ad188.add (((ji17)).toNat * 5)).off + 4, none⟩ = some (.int .i64 ((rd_T65 l0_1 (ji17)).f4))) (ds := []) #[false, false, false, false, false, false, false, false, false, false, false, false, false, false, false, false, false, false, false, false, false, false, false, false, false, false, false, false, false, false, false, false] (by kernel_rfl) rfl rfl ⟨xc BK189 0 rfl, xc BK189 1 rfl, xc BK189 2 rfl, xc BK189 3 rfl, xc BK189 4 rfl, xc BK184 0 rfl, xc BK184 1 rfl, xc BK184 2 rfl, xc BK184 3 rfl, (xce HB hw191_0), (xce HB hw191_1), (xce HB hw191_2), (xce HB hw191_3), (xce HB hw191_4)⟩ (fun hHeld => ?_); refine with_tabW impl_RollOk.tab5 impl_RollOk.bits5 (fun HT_ HW_ => ?_)
             generalize w13.drew = w25 at HO_3 BK184 BK189 HB HR191_3 hx191_0 hx191_1 hx191_2 hx191_3 hx191_4 hHeld ⊢
             refine pv_ 0 16 (h := ?_)
             refine tk_ 1 17 (h := ?_)
             refine on_ 2 18 (h := fun K hK => ?_)
             refine goesY Try.func96 #[.int .i64 ((rd_T65 l0_1 x11_1).f0)] ?_
             with_reducible refine (impl_isRelease.calls ((rd_T65 l0_1 x11_1).f0) true _ A14.out).mono ?_
             rintro e w' ⟨rfl, ⟨nd, rfl⟩⟩
             refine ⟨_, rfl, ?_⟩
             refine hK.out _ _ ⟨xc BK189 0 rfl, xc BK189 1 rfl, xc BK189 2 rfl, xc BK189 3 rfl, xc BK189 4 rfl, xc BK184 0 rfl, xc BK184 1 rfl, xc BK184 2 rfl, xc BK184 3 rfl, (xce HB hw191_0), (xce HB hw191_1), (xce HB hw191_2), (xce HB hw191_3), (xce HB hw191_4)⟩ (fun hHeld => ?_)
             clear hK K
             refine norm_ (a' := ?_) ?_ ?_
             rotate_left
             ·show Act.put _ (some 18) _ = _
              simp only [Act.put, List.setIfInBounds_toArray, List.set_cons_zero, List.set_cons_succ, i64_w, i32_w]
              rfl
             refine pv_ 3 19 (h := ?_)
             refine pv_ 4 20 (h := ?_)
             refine pv_ 5 21 (h := ?_)
             refine pv_ 6 22 (h := ?_)
             refine pv_ 7 23 (h := ?_)
             refine pv_ 8 24 (h := ?_)
             refine pv_ 10 26 (h := ?_)
             refine pv_ 11 27 (h := ?_)
             refine pv_ 15 31 (h := ?_)
             refine tk_ 9 25 (h := ?_)
             refine pv_ 12 28 (h := ?_)
             refine pv_ 13 29 (h := ?_)
             refine tk_ 14 30 (h := ?_)
             refine tk_ 16 32 (h := ?_)
             refine pv_ 17 33 (h := ?_)
             refine pv_ 18 34 (h := ?_)
             refine pv_ 19 35 (h := ?_)
             refine pv_ 20 36 (h := ?_)
             refine pv_ 21 37 (h := ?_)
             refine tk_ 22 38 (h := ?_)
             refine on_ 23 39 (h := fun K hK => ?_)
             refine goesY Try.func97 #[.int .i64 ((rd_T65 l0_1 x11_1).f1)] ?_
             with_reducible refine (impl_isSize.calls ((rd_T65 l0_1 x11_1).f1) false _ A22.out).mono ?_
             rintro e w' ⟨rfl, ⟨nd, rfl⟩⟩
             refine ⟨_, rfl, ?_⟩
             refine hK.out _ _ ⟨xc BK189 0 rfl, xc BK189 1 rfl, xc BK189 2 rfl, xc BK189 3 rfl, xc BK189 4 rfl, xc BK184 0 rfl, xc BK184 1 rfl, xc BK184 2 rfl, xc BK184 3 rfl, (xce HB hw191_0), (xce HB hw191_1), (xce HB hw191_2), (xce HB hw191_3), (xce HB hw191_4)⟩ (fun hHeld => ?_)
             clear hK K
             refine norm_ (a' := ?_) ?_ ?_
             rotate_left
             ·show Act.put _ (some 39) _ = _
              simp only [Act.put, List.setIfInBounds_toArray, List.set_cons_zero, List.set_cons_succ, i64_w, i32_w]
              rfl
             refine pv_ 24 40 (h := ?_)
             refine pv_ 25 41 (h := ?_)
             refine pv_ 26 42 (h := ?_)
             refine pu_ 27 43 (h := ?_)
             refine pu_ 28 44 (h := ?_)
             refine pu_ 29 45 (h := ?_)
             refine pu_ 30 46 (h := ?_)
             refine pv_ 31 47 (h := ?_)
             refine done_ (done_of HT_.out (by kernel_rfl)) ?_
             try go_wp2
             go_meet
             case rel => exact ⟨_, (true), (by first | rfl | (simp; done) | (simp [*]; done)), H', ⟨by have := HK1.out; first | omega | exact Nat.le_refl _⟩, ⟨by (with_reducible repeat (first | apply Kd.R_alloc | apply Kd.R_drewN | apply Kd.R_drew)); exact HO_3.out⟩, ⟨xblk⟩, ⟨xblk⟩, ⟨xbg⟩⟩
          ·rw [if_neg c19] at H
           exact absurd H (by simp)
         ·rw [if_neg c18] at H
          exact absurd H (by simp)
        ·rw [if_neg c16] at H
         have c16b0 : decide (0 < x11_1) = false := decide_eq_false c16; clear c16
         (first | rw [c16b0] | (simp only [i64_w, i32_w]; rw [c16b0]) | skip)
         replace H := Option.bind_eq_some_iff.mp H
         obtain ⟨t193, A260, H⟩ := H
         replace H : (if t193 = true then (impl_RollOk.j1 k1 x3_1 l0_1 (l0_1.length : Int) x11_1 ((((rd_T65 l0_1 x11_1).f2).size : Int) != 32) a0_0 l0_1 a0_2 l0_3 ((rd_T65 l0_1 x11_1).f0) ((rd_T65 l0_1 x11_1).f1) ((rd_T65 l0_1 x11_1).f2) ((rd_T65 l0_1 x11_1).f3) ((rd_T65 l0_1 x11_1).f4)) else (impl_RollOk.j1 k1 x3_1 l0_1 (l0_1.length : Int) x11_1 true a0_0 l0_1 a0_2 l0_3 ((rd_T65 l0_1 x11_1).f0) ((rd_T65 l0_1 x11_1).f1) ((rd_T65 l0_1 x11_1).f2) ((rd_T65 l0_1 x11_1).f3) ((rd_T65 l0_1 x11_1).f4))) = some r := H; have A26 := aM A260; clear A260
         by_cases c27 : t193 = true
         ·subst c27
          have H1 : (impl_RollOk.j1 k1 x3_1 l0_1 (l0_1.length : Int) x11_1 ((((rd_T65 l0_1 x11_1).f2).size : Int) != 32) a0_0 l0_1 a0_2 l0_3 ((rd_T65 l0_1 x11_1).f0) ((rd_T65 l0_1 x11_1).f1) ((rd_T65 l0_1 x11_1).f2) ((rd_T65 l0_1 x11_1).f3) ((rd_T65 l0_1 x11_1).f4)) = some r := by rw [if_pos rfl] at H; exact H
          clear H; have H := H1; clear H1
          have H' := aM H
          clear H
          try go_wp2
          replace HO_3 := aM (Kd.R_drew HO_3.out); replace BK184 := aM (blk_drew BK184.out); replace BK189 := aM (blk_drew BK189.out); replace HB := aM (below_drew1 HB.out)
          refine start_ (n := 32) (S := fun w' => w'.cell? ⟨gb189, 0, none⟩ = some (.int .i64 ((rd_T65 l0_1 x11_1).f0)) ∧ w'.cell? ⟨gb189, 1, none⟩ = some (.int .i64 ((rd_T65 l0_1 x11_1).f1)) ∧ w'.cell? ⟨gb189, 2, none⟩ = some (.string ((rd_T65 l0_1 x11_1).f2)) ∧ w'.cell? ⟨gb189, 3, none⟩ = some (.slice A188_3 ((rd_T65 l0_1 x11_1).f3).length c188_3) ∧ w'.cell? ⟨gb189, 4, none⟩ = some (.int .i64 ((rd_T65 l0_1 x11_1).f4))) (ds := []) #[false, false, false, false, false, false, false, false, false, false, false, false, false, false, false, false, false, false, false, false, false, false, false, false, false, false, false, false, false, false, false, false] (by kernel_rfl) rfl rfl ⟨xc BK189 0 rfl, xc BK189 1 rfl, xc BK189 2 rfl, xc BK189 3 rfl, xc BK189 4 rfl⟩ (fun hHeld => ?_); refine with_tabW impl_RollOk.tab5 impl_RollOk.bits5 (fun HT_ HW_ => ?_)
          generalize w13.drew = w28 at HO_3 BK184 BK189 HB hHeld ⊢
          refine pv_ 0 16 (h := ?_)
          refine tk_ 1 17 (h := ?_)
          refine on_ 2 18 (h := fun K hK => ?_)
          refine goesY Try.func96 #[.int .i64 ((rd_T65 l0_1 x11_1).f0)] ?_
          with_reducible refine (impl_isRelease.calls ((rd_T65 l0_1 x11_1).f0) true _ A14.out).mono ?_
          rintro e w' ⟨rfl, ⟨nd, rfl⟩⟩
          refine ⟨_, rfl, ?_⟩
          refine hK.out _ _ ⟨xc BK189 0 rfl, xc BK189 1 rfl, xc BK189 2 rfl, xc BK189 3 rfl, xc BK189 4 rfl⟩ (fun hHeld => ?_)
          clear hK K
          refine norm_ (a' := ?_) ?_ ?_
          rotate_left
          ·show Act.put _ (some 18) _ = _
           simp only [Act.put, List.setIfInBounds_toArray, List.set_cons_zero, List.set_cons_succ, i64_w, i32_w]
           rfl
          refine pv_ 3 19 (h := ?_)
          refine pv_ 4 20 (h := ?_)
          refine pv_ 5 21 (h := ?_)
          refine pv_ 6 22 (h := ?_)
          refine pv_ 7 23 (h := ?_)
          refine pu_ 8 24 (h := ?_)
          refine pu_ 9 25 (h := ?_)
          refine pu_ 10 26 (h := ?_)
          refine pu_ 11 27 (h := ?_)
          refine pu_ 12 28 (h := ?_)
          refine pu_ 13 29 (h := ?_)
          refine pu_ 14 30 (h := ?_)
          refine pu_ 15 31 (h := ?_)
          refine pu_ 16 32 (h := ?_)
          refine pu_ 17 33 (h := ?_)
          refine pv_ 18 34 (h := ?_)
          refine pv_ 19 35 (h := ?_)
          refine pv_ 20 36 (h := ?_)
          refine pv_ 21 37 (h := ?_)
          refine tk_ 22 38 (h := ?_)
          refine on_ 23 39 (h := fun K hK => ?_)
          refine goesY Try.func97 #[.int .i64 ((rd_T65 l0_1 x11_1).f1)] ?_
          with_reducible refine (impl_isSize.calls ((rd_T65 l0_1 x11_1).f1) true _ A26.out).mono ?_
          rintro e w' ⟨rfl, ⟨nd, rfl⟩⟩
          refine ⟨_, rfl, ?_⟩
          refine hK.out _ _ ⟨xc BK189 0 rfl, xc BK189 1 rfl, xc BK189 2 rfl, xc BK189 3 rfl, xc BK189 4 rfl⟩ (fun hHeld => ?_)
          clear hK K
          refine norm_ (a' := ?_) ?_ ?_
          rotate_left
          ·show Act.put _ (some 39) _ = _
           simp only [Act.put, List.setIfInBounds_toArray, List.set_cons_zero, List.set_cons_succ, i64_w, i32_w]
           rfl
          refine pv_ 24 40 (h := ?_)
          refine pv_ 25 41 (h := ?_)
          refine pv_ 26 42 (h := ?_)
          refine pv_ 27 43 (h := ?_)
          refine tk_ 28 44 (h := ?_)
          refine pv_ 29 45 (h := ?_)
          refine pv_ 30 46 (h := ?_)
          refine pv_ 31 47 (h := ?_)
          refine done_ (done_of HT_.out (by kernel_rfl)) ?_
          try go_wp2
          go_meet
          case rel => exact ⟨_, (((((rd_T65 l0_1 x11_1).f2).size : Int) != 32)), (by first | rfl | (simp; done) | (simp [*]; done)), H', ⟨by have := HK1.out; first | omega | exact Nat.le_refl _⟩, ⟨by (with_reducible repeat (first | apply Kd.R_alloc | apply Kd.R_drewN | apply Kd.R_drew)); exact HO_3.out⟩, ⟨xblk⟩, ⟨xblk⟩, ⟨xbg⟩⟩
         ·replace c27 := Bool.eq_false_iff.mpr c27
          subst c27
          have H1 : (impl_RollOk.j1 k1 x3_1 l0_1 (l0_1.length : Int) x11_1 true a0_0 l0_1 a0_2 l0_3 ((rd_T65 l0_1 x11_1).f0) ((rd_T65 l0_1 x11_1).f1) ((rd_T65 l0_1 x11_1).f2) ((rd_T65 l0_1 x11_1).f3) ((rd_T65 l0_1 x11_1).f4)) = some r := by rw [if_neg (show ¬ (false = true) by decide)] at H; exact H
          clear H; have H := H1; clear H1
          have H' := aM H
          clear H
          try go_wp2
          replace HO_3 := aM (Kd.R_drew HO_3.out); replace BK184 := aM (blk_drew BK184.out); replace BK189 := aM (blk_drew BK189.out); replace HB := aM (below_drew1 HB.out)
          refine start_ (n := 32) (S := fun w' => w'.cell? ⟨gb189, 0, none⟩ = some (.int .i64 ((rd_T65 l0_1 x11_1).f0)) ∧ w'.cell? ⟨gb189, 1, none⟩ = some (.int .i64 ((rd_T65 l0_1 x11_1).f1)) ∧ w'.cell? ⟨gb189, 2, none⟩ = some (.string ((rd_T65 l0_1 x11_1).f2)) ∧ w'.cell? ⟨gb189, 3, none⟩ = some (.slice A188_3 ((rd_T65 l0_1 x11_1).f3).length c188_3) ∧ w'.cell? ⟨gb189, 4, none⟩ = some (.int .i64 ((rd_T65 l0_1 x11_1).f4))) (ds := []) #[false, false, false, false, false, false, false, false, false, false, false, false, false, false, false, false, false, false, false, false, false, false, false, false, false, false, false, false, false, false, false, false] (by kernel_rfl) rfl rfl ⟨xc BK189 0 rfl, xc BK189 1 rfl, xc BK189 2 rfl, xc BK189 3 rfl, xc BK189 4 rfl⟩ (fun hHeld => ?_); refine with_tabW impl_RollOk.tab5 impl_RollOk.bits5 (fun HT_ HW_ => ?_)
          generalize w13.drew = w29 at HO_3 BK184 BK189 HB hHeld ⊢
          refine pv_ 0 16 (h := ?_)
          refine tk_ 1 17 (h := ?_)
          refine on_ 2 18 (h := fun K hK => ?_)
          refine goesY Try.func96 #[.int .i64 ((rd_T65 l0_1 x11_1).f0)] ?_
          with_reducible refine (impl_isRelease.calls ((rd_T65 l0_1 x11_1).f0) true _ A14.out).mono ?_
          rintro e w' ⟨rfl, ⟨nd, rfl⟩⟩
          refine ⟨_, rfl, ?_⟩
          refine hK.out _ _ ⟨xc BK189 0 rfl, xc BK189 1 rfl, xc BK189 2 rfl, xc BK189 3 rfl, xc BK189 4 rfl⟩ (fun hHeld => ?_)
          clear hK K
          refine norm_ (a' := ?_) ?_ ?_
          rotate_left
          ·show Act.put _ (some 18) _ = _
           simp only [Act.put, List.setIfInBounds_toArray, List.set_cons_zero, List.set_cons_succ, i64_w, i32_w]
           rfl
          refine pv_ 3 19 (h := ?_)
          refine pv_ 4 20 (h := ?_)
          refine pv_ 5 21 (h := ?_)
          refine pv_ 6 22 (h := ?_)
          refine pv_ 7 23 (h := ?_)
          refine pu_ 8 24 (h := ?_)
          refine pu_ 9 25 (h := ?_)
          refine pu_ 10 26 (h := ?_)
          refine pu_ 11 27 (h := ?_)
          refine pu_ 12 28 (h := ?_)
          refine pu_ 13 29 (h := ?_)
          refine pu_ 14 30 (h := ?_)
          refine pu_ 15 31 (h := ?_)
          refine pu_ 16 32 (h := ?_)
          refine pu_ 17 33 (h := ?_)
          refine pv_ 18 34 (h := ?_)
          refine pv_ 19 35 (h := ?_)
          refine pv_ 20 36 (h := ?_)
          refine pv_ 21 37 (h := ?_)
          refine tk_ 22 38 (h := ?_)
          refine on_ 23 39 (h := fun K hK => ?_)
          refine goesY Try.func97 #[.int .i64 ((rd_T65 l0_1 x11_1).f1)] ?_
          with_reducible refine (impl_isSize.calls ((rd_T65 l0_1 x11_1).f1) false _ A26.out).mono ?_
          rintro e w' ⟨rfl, ⟨nd, rfl⟩⟩
          refine ⟨_, rfl, ?_⟩
          refine hK.out _ _ ⟨xc BK189 0 rfl, xc BK189 1 rfl, xc BK189 2 rfl, xc BK189 3 rfl, xc BK189 4 rfl⟩ (fun hHeld => ?_)
          clear hK K
          refine norm_ (a' := ?_) ?_ ?_
          rotate_left
          ·show Act.put _ (some 39) _ = _
           simp only [Act.put, List.setIfInBounds_toArray, List.set_cons_zero, List.set_cons_succ, i64_w, i32_w]
           rfl
          refine pv_ 24 40 (h := ?_)
          refine pv_ 25 41 (h := ?_)
          refine pv_ 26 42 (h := ?_)
          refine pu_ 27 43 (h := ?_)
          refine pu_ 28 44 (h := ?_)
          refine pu_ 29 45 (h := ?_)
          refine pu_ 30 46 (h := ?_)
          refine pv_ 31 47 (h := ?_)
          refine done_ (done_of HT_.out (by kernel_rfl)) ?_
          try go_wp2
          go_meet
          case rel => exact ⟨_, (true), (by first | rfl | (simp; done) | (simp [*]; done)), H', ⟨by have := HK1.out; first | omega | exact Nat.le_refl _⟩, ⟨by (with_reducible repeat (first | apply Kd.R_alloc | apply Kd.R_drewN | apply Kd.R_drew)); exact HO_3.out⟩, ⟨xblk⟩, ⟨xblk⟩, ⟨xbg⟩⟩
       ·replace c15 := Bool.eq_false_iff.mpr c15
        subst c15
        have H1 : (impl_RollOk.j1 k1 x3_1 l0_1 (l0_1.length : Int) x11_1 true a0_0 l0_1 a0_2 l0_3 ((rd_T65 l0_1 x11_1).f0) ((rd_T65 l0_1 x11_1).f1) ((rd_T65 l0_1 x11_1).f2) ((rd_T65 l0_1 x11_1).f3) ((rd_T65 l0_1 x11_1).f4)) = some r := by rw [if_neg (show ¬ (false = true) by decide)] at H; exact H
        clear H; have H := H1; clear H1
        have H' := aM H
        clear H
        try go_wp2
        replace HO_3 := aM (Kd.R_drew HO_3.out); replace BK184 := aM (blk_drew BK184.out); replace BK189 := aM (blk_drew BK189.out); replace HB := aM (below_drew1 HB.out)
        refine start_ (n := 32) (S := fun w' => w'.cell? ⟨gb189, 0, none⟩ = some (.int .i64 ((rd_T65 l0_1 x11_1).f0)) ∧ w'.cell? ⟨gb189, 1, none⟩ = some (.int .i64 ((rd_T65 l0_1 x11_1).f1)) ∧ w'.cell? ⟨gb189, 2, none⟩ = some (.string ((rd_T65 l0_1 x11_1).f2)) ∧ w'.cell? ⟨gb189, 3, none⟩ = some (.slice A188_3 ((rd_T65 l0_1 x11_1).f3).length c188_3) ∧ w'.cell? ⟨gb189, 4, none⟩ = some (.int .i64 ((rd_T65 l0_1 x11_1).f4))) (ds := []) #[false, false, false, false, false, false, false, false, false, false, false, false, false, false, false, false, false, false, false, false, false, false, false, false, false, false, false, false, false, false, false, false] (by kernel_rfl) rfl rfl ⟨xc BK189 0 rfl, xc BK189 1 rfl, xc BK189 2 rfl, xc BK189 3 rfl, xc BK189 4 rfl⟩ (fun hHeld => ?_); refine with_tabW impl_RollOk.tab5 impl_RollOk.bits5 (fun HT_ HW_ => ?_)
        generalize w13.drew = w30 at HO_3 BK184 BK189 HB hHeld ⊢
        refine pv_ 0 16 (h := ?_)
        refine tk_ 1 17 (h := ?_)
        refine on_ 2 18 (h := fun K hK => ?_)
        refine goesY Try.func96 #[.int .i64 ((rd_T65 l0_1 x11_1).f0)] ?_
        with_reducible refine (impl_isRelease.calls ((rd_T65 l0_1 x11_1).f0) false _ A14.out).mono ?_
        rintro e w' ⟨rfl, ⟨nd, rfl⟩⟩
        refine ⟨_, rfl, ?_⟩
        refine hK.out _ _ ⟨xc BK189 0 rfl, xc BK189 1 rfl, xc BK189 2 rfl, xc BK189 3 rfl, xc BK189 4 rfl⟩ (fun hHeld => ?_)
        clear hK K
        refine norm_ (a' := ?_) ?_ ?_
        rotate_left
        ·show Act.put _ (some 18) _ = _
         simp only [Act.put, List.setIfInBounds_toArray, List.set_cons_zero, List.set_cons_succ, i64_w, i32_w]
         rfl
        refine pv_ 3 19 (h := ?_)
        refine pv_ 4 20 (h := ?_)
        refine pu_ 5 21 (h := ?_)
        refine pu_ 6 22 (h := ?_)
        refine pu_ 7 23 (h := ?_)
        refine pu_ 8 24 (h := ?_)
        refine pu_ 9 25 (h := ?_)
        refine pu_ 10 26 (h := ?_)
        refine pu_ 11 27 (h := ?_)
        refine pu_ 12 28 (h := ?_)
        refine pu_ 13 29 (h := ?_)
        refine pu_ 14 30 (h := ?_)
        refine pu_ 15 31 (h := ?_)
        refine pu_ 16 32 (h := ?_)
        refine pu_ 17 33 (h := ?_)
        refine pu_ 18 34 (h := ?_)
        refine pv_ 19 35 (h := ?_)
        refine pv_ 20 36 (h := ?_)
        refine pu_ 21 37 (h := ?_)
        refine pu_ 22 38 (h := ?_)
        refine pu_ 23 39 (h := ?_)
        refine pu_ 24 40 (h := ?_)
        refine pv_ 25 41 (h := ?_)
        refine pv_ 26 42 (h := ?_)
        refine pu_ 27 43 (h := ?_)
        refine pu_ 28 44 (h := ?_)
        refine pu_ 29 45 (h := ?_)
        refine pu_ 30 46 (h := ?_)
        refine pv_ 31 47 (h := ?_)
        refine done_ (done_of HT_.out (by kernel_rfl)) ?_
        try go_wp2
        go_meet
        case rel => exact ⟨_, (true), (by first | rfl | (simp; done) | (simp [*]; done)), H', ⟨by have := HK1.out; first | omega | exact Nat.le_refl _⟩, ⟨by (with_reducible repeat (first | apply Kd.R_alloc | apply Kd.R_drewN | apply Kd.R_drew)); exact HO_3.out⟩, ⟨xblk⟩, ⟨xblk⟩, ⟨xbg⟩⟩
      case rest =>
       clear HC9
       try clear c1
       try clear c2
       try clear p2
       try clear c9
       try clear c15
       try clear c18
       try clear c27
       obtain ⟨kq, x47_8, rfl, HA, HJ8, HO_3, BK184, BK189, HB⟩ := hcut
       cases kq with
       | zero => exact absurd HA.out (by simp [impl_RollOk.j1])
       | succ kj8 =>
        have H := HA.out; clear HA
        simp only [impl_RollOk.j1] at H
        by_cases c31 : x47_8 = true
        ·subst c31
         have H1 : (some false) = some r := by rw [if_pos rfl] at H; exact H
         clear H; have H := H1; clear H1
         obtain rfl := Option.some.inj H
         go_wp2
         go_ret
         exact ⟨by first | rfl | (simp [errW_none, errW_some] <;> rfl) | (simp [*, errW_none, errW_some] <;> rfl), xbg⟩
        ·replace c31 := Bool.eq_false_iff.mpr c31
         subst c31
         have H1 : ((impl_nodesAscend.f kj8 ((rd_T65 l0_1 x11_1).f3) a0_0).bind fun t194 => (if t194 = true then ((impl_within.f ((rd_T65 l0_1 x11_1).f4) 1 3).bind fun t195 => (if t195 = true then (if ((rd_T65 l0_1 x11_1).f4) = 2 then (impl_RollOk.j2 kj8 x3_1 l0_1 (l0_1.length : Int) x11_1 ((((rd_T65 l0_1 x11_1).f3).length : Int) != a0_0) a0_0 l0_1 a0_2 l0_3 ((rd_T65 l0_1 x11_1).f0) ((rd_T65 l0_1 x11_1).f1) ((rd_T65 l0_1 x11_1).f2) ((rd_T65 l0_1 x11_1).f3) ((rd_T65 l0_1 x11_1).f4)) else (impl_RollOk.j2 kj8 x3_1 l0_1 (l0_1.length : Int) x11_1 false a0_0 l0_1 a0_2 l0_3 ((rd_T65 l0_1 x11_1).f0) ((rd_T65 l0_1 x11_1).f1) ((rd_T65 l0_1 x11_1).f2) ((rd_T65 l0_1 x11_1).f3) ((rd_T65 l0_1 x11_1).f4))) else (impl_RollOk.j2 kj8 x3_1 l0_1 (l0_1.length : Int) x11_1 true a0_0 l0_1 a0_2 l0_3 ((rd_T65 l0_1 x11_1).f0) ((rd_T65 l0_1 x11_1).f1) ((rd_T65 l0_1 x11_1).f2) ((rd_T65 l0_1 x11_1).f3) ((rd_T65 l0_1 x11_1).f4)))) else (impl_RollOk.j2 kj8 x3_1 l0_1 (l0_1.length : Int) x11_1 true a0_0 l0_1 a0_2 l0_3 ((rd_T65 l0_1 x11_1).f0) ((rd_T65 l0_1 x11_1).f1) ((rd_T65 l0_1 x11_1).f2) ((rd_T65 l0_1 x11_1).f3) ((rd_T65 l0_1 x11_1).f4)))) = some r := by rw [if_neg (show ¬ (false = true) by decide)] at H; exact H
         clear H; have H := H1; clear H1; have HC32 := aM H; clear H
         go_upto_region 7 with (fail)
         go_cut [72] (fun v72 wc => ∃ (kq : Nat) (x72_31 : Bool), v72 = .bool x72_31 ∧ Aside0 (impl_RollOk.j2 kq x3_1 l0_1 (l0_1.length : Int) x11_1 x72_31 a0_0 l0_1 a0_2 l0_3 ((rd_T65 l0_1 x11_1).f0) ((rd_T65 l0_1 x11_1).f1) ((rd_T65 l0_1 x11_1).f2) ((rd_T65 l0_1 x11_1).f3) ((rd_T65 l0_1 x11_1).f4) = some r) ∧ Aside0 (kq ≤ kj8) ∧ Aside0 (Kd.R (Kd.int .i64) 3 wc w.heap.size (fun _ => True) u3 x3_1) ∧ Aside0 (wc.heap[gb184]? = some (.cells #[.int .i64 a0_0, (.slice (some ad188) l0_1.length c0_1), .int .i64 a0_2, (.slice A0_3 l0_3.length c0_3)] 43 (0, 0))) ∧ Aside0 (wc.heap[gb189]? = some (.cells #[.int .i64 ((rd_T65 l0_1 x11_1).f0), .int .i64 ((rd_T65 l0_1 x11_1).f1), .string ((rd_T65 l0_1 x11_1).f2), (.slice A188_3 ((rd_T65 l0_1 x11_1).f3).length c188_3), .int .i64 ((rd_T65 l0_1 x11_1).f4)] 65 (0, 0))) ∧ Aside0 (Below w.heap.size w wc))
         case first =>
          have H := HC32.out; clear HC32; replace H := Option.bind_eq_some_iff.mp H
          obtain ⟨t194, A330, H⟩ := H
          replace H : (if t194 = true then ((impl_within.f ((rd_T65 l0_1 x11_1).f4) 1 3).bind fun t195 => (if t195 = true then (if ((rd_T65 l0_1 x11_1).f4) = 2 then (impl_RollOk.j2 kj8 x3_1 l0_1 (l0_1.length : Int) x11_1 ((((rd_T65 l0_1 x11_1).f3).length : Int) != a0_0) a0_0 l0_1 a0_2 l0_3 ((rd_T65 l0_1 x11_1).f0) ((rd_T65 l0_1 x11_1).f1) ((rd_T65 l0_1 x11_1).f2) ((rd_T65 l0_1 x11_1).f3) ((rd_T65 l0_1 x11_1).f4)) else (impl_RollOk.j2 kj8 x3_1 l0_1 (l0_1.length : Int) x11_1 false a0_0 l0_1 a0_2 l0_3 ((rd_T65 l0_1 x11_1).f0) ((rd_T65 l0_1 x11_1).f1) ((rd_T65 l0_1 x11_1).f2) ((rd_T65 l0_1 x11_1).f3) ((rd_T65 l0_1 x11_1).f4))) else (impl_RollOk.j2 kj8 x3_1 l0_1 (l0_1.length : Int) x11_1 true a0_0 l0_1 a0_2 l0_3 ((rd_T65 l0_1 x11_1).f0) ((rd_T65 l0_1 x11_1).f1) ((rd_T65 l0_1 x11_1).f2) ((rd_T65 l0_1 x11_1).f3) ((rd_T65 l0_1 x11_1).f4)))) else (impl_RollOk.j2 kj8 x3_1 l0_1 (l0_1.length : Int) x11_1 true a0_0 l0_1 a0_2 l0_3 ((rd_T65 l0_1 x11_1).f0) ((rd_T65 l0_1 x11_1).f1) ((rd_T65 l0_1 x11_1).f2) ((rd_T65 l0_1 x11_1).f3) ((rd_T65 l0_1 x11_1).f4))) = some r := H; have A33 := aM A330; clear A330
          by_cases c34 : t194 = true
          ·subst c34
           have H1 : ((impl_within.f ((rd_T65 l0_1 x11_1).f4) 1 3).bind fun t195 => (if t195 = true then (if ((rd_T65 l0_1 x11_1).f4) = 2 then (impl_RollOk.j2 kj8 x3_1 l0_1 (l0_1.length : Int) x11_1 ((((rd_T65 l0_1 x11_1).f3).length : Int) != a0_0) a0_0 l0_1 a0_2 l0_3 ((rd_T65 l0_1 x11_1).f0) ((rd_T65 l0_1 x11_1).f1) ((rd_T65 l0_1 x11_1).f2) ((rd_T65 l0_1 x11_1).f3) ((rd_T65 l0_1 x11_1).f4)) else (impl_RollOk.j2 kj8 x3_1 l0_1 (l0_1.length : Int) x11_1 false a0_0 l0_1 a0_2 l0_3 ((rd_T65 l0_1 x11_1).f0) ((rd_T65 l0_1 x11_1).f1) ((rd_T65 l0_1 x11_1).f2) ((rd_T65 l0_1 x11_1).f3) ((rd_T65 l0_1 x11_1).f4))) else (impl_RollOk.j2 kj8 x3_1 l0_1 (l0_1.length : Int) x11_1 true a0_0 l0_1 a0_2 l0_3 ((rd_T65 l0_1 x11_1).f0) ((rd_T65 l0_1 x11_1).f1) ((rd_T65 l0_1 x11_1).f2) ((rd_T65 l0_1 x11_1).f3) ((rd_T65 l0_1 x11_1).f4)))) = some r := by rw [if_pos rfl] at H; exact H
           clear H; have H := H1; clear H1; replace H := Option.bind_eq_some_iff.mp H
           obtain ⟨t195, A350, H⟩ := H
           replace H : (if t195 = true then (if ((rd_T65 l0_1 x11_1).f4) = 2 then (impl_RollOk.j2 kj8 x3_1 l0_1 (l0_1.length : Int) x11_1 ((((rd_T65 l0_1 x11_1).f3).length : Int) != a0_0) a0_0 l0_1 a0_2 l0_3 ((rd_T65 l0_1 x11_1).f0) ((rd_T65 l0_1 x11_1).f1) ((rd_T65 l0_1 x11_1).f2) ((rd_T65 l0_1 x11_1).f3) ((rd_T65 l0_1 x11_1).f4)) else (impl_RollOk.j2 kj8 x3_1 l0_1 (l0_1.length : Int) x11_1 false a0_0 l0_1 a0_2 l0_3 ((rd_T65 l0_1 x11_1).f0) ((rd_T65 l0_1 x11_1).f1) ((rd_T65 l0_1 x11_1).f2) ((rd_T65 l0_1 x11_1).f3) ((rd_T65 l0_1 x11_1).f4))) else (impl_RollOk.j2 kj8 x3_1 l0_1 (l0_1.length : Int) x11_1 true a0_0 l0_1 a0_2 l0_3 ((rd_T65 l0_1 x11_1).f0) ((rd_T65 l0_1 x11_1).f1) ((rd_T65 l0_1 x11_1).f2) ((rd_T65 l0_1 x11_1).f3) ((rd_T65 l0_1 x11_1).f4))) = some r := H; have A35 := aM A350; clear A350
           by_cases c36 : t195 = true
           ·subst c36
            have H1 : (if ((rd_T65 l0_1 x11_1).f4) = 2 then (impl_RollOk.j2 kj8 x3_1 l0_1 (l0_1.length : Int) x11_1 ((((rd_T65 l0_1 x11_1).f3).length : Int) != a0_0) a0_0 l0_1 a0_2 l0_3 ((rd_T65 l0_1 x11_1).f0) ((rd_T65 l0_1 x11_1).f1) ((rd_T65 l0_1 x11_1).f2) ((rd_T65 l0_1 x11_1).f3) ((rd_T65 l0_1 x11_1).f4)) else (impl_RollOk.j2 kj8 x3_1 l0_1 (l0_1.length : Int) x11_1 false a0_0 l0_1 a0_2 l0_3 ((rd_T65 l0_1 x11_1).f0) ((rd_T65 l0_1 x11_1).f1) ((rd_T65 l0_1 x11_1).f2) ((rd_T65 l0_1 x11_1).f3) ((rd_T65 l0_1 x11_1).f4))) = some r := by rw [if_pos rfl] at H; exact H
            clear H; have H := H1; clear H1
            by_cases c37 : ((rd_T65 l0_1 x11_1).f4) = 2
            ·rw [if_pos c37] at H
             have c37b0 : (((rd_T65 l0_1 x11_1).f4) == 2) = true := beq_iff_eq.mpr c37; have c37b1 : (((rd_T65 l0_1 x11_1).f4) != 2) = false := bne_eq_false_iff_eq.mpr c37; clear c37
             (first | rw [c37b0] | (simp only [i64_w, i32_w]; rw [c37b0]) | skip)
             have H' := aM H
             clear H; have hnb38 := NB189_184.out; have hnc38 := NB184_189.out; obtain ⟨hcz39_0, hcz39_1, hcz39_2, hcz39_3, hcz39_4, hfz39_0, hfz39_1, hfz39_2, hfz39_3, hfz39_4⟩ := xf5 (w := wc) BK189; obtain ⟨hcz40_0, hcz40_1, hcz40_2, hcz40_3, hfz40_0, hfz40_1, hfz40_2, hfz40_3⟩ := xf4 (w := wc) BK184
             go_wp2_with (first | ((with_reducible refine gate_callee (f := 98) rfl ?_); refine goesLY (some 52) rfl Try.func98 #[.slice A188_3 ((rd_T65 l0_1 x11_1).f3).length c188_3, .int .i64 a0_0] ?_; (with_reducible refine (impl_nodesAscend.calls kj8 _ _ ((rd_T65 l0_1 x11_1).f3) a0_0 true _ ?side1 ?side2 A33.out).mono ?_); (case side1 => exact xcb HR188_3); (case side2 => exact HC188_3.out); rintro e w' ⟨rfl, ⟨nd, rfl⟩⟩; refine ⟨_, rfl, ?_⟩) | (go_at_call 99; (with_reducible refine (impl_within.calls ((rd_T65 l0_1 x11_1).f4) 1 3 true _ A35.out).mono ?_); rintro e w' ⟨rfl, ⟨nd, rfl⟩⟩))
             go_meet
             case rel => exact ⟨_, (((((rd_T65 l0_1 x11_1).f3).length : Int) != a0_0)), (by first | rfl | (simp; done) | (simp [*]; done)), H', ⟨by have := HK1.out; have := HJ8.out; first | omega | exact Nat.le_refl _⟩, ⟨by (with_reducible repeat (first | apply Kd.R_alloc | apply Kd.R_drewN | apply Kd.R_drew)); exact HO_3.out⟩, ⟨xblk⟩, ⟨xblk⟩, ⟨xbg⟩⟩
            ·rw [if_neg c37] at H
             have c37b0 : (((rd_T65 l0_1 x11_1).f4) == 2) = false := beq_eq_false_iff_ne.mpr c37; have c37b1 : (((rd_T65 l0_1 x11_1).f4) != 2) = true := bne_iff_ne.mpr c37
             (first | rw [c37b0] | (simp only [i64_w, i32_w]; rw [c37b0]) | skip)
             have H' := aM H
             clear H; have hnb41 := NB189_184.out; have hnc41 := NB184_189.out; obtain ⟨hcz42_0, hcz42_1, hcz42_2, hcz42_3, hcz42_4, hfz42_0, hfz42_1, hfz42_2, hfz42_3, hfz42_4⟩ := xf5 (w := wc) BK189; obtain ⟨hcz43_0, hcz43_1, hcz43_2, hcz43_3, hfz43_0, hfz43_1, hfz43_2, hfz43_3⟩ := xf4 (w := wc) BK184
             go_wp2_with (first | ((with_reducible refine gate_callee (f := 98) rfl ?_); refine goesLY (some 52) rfl Try.func98 #[.slice A188_3 ((rd_T65 l0_1 x11_1).f3).length c188_3, .int .i64 a0_0] ?_; (with_reducible refine (impl_nodesAscend.calls kj8 _ _ ((rd_T65 l0_1 x11_1).f3) a0_0 true _ ?side1 ?side2 A33.out).mono ?_); (case side1 => exact xcb HR188_3); (case side2 => exact HC188_3.out); rintro e w' ⟨rfl, ⟨nd, rfl⟩⟩; refine ⟨_, rfl, ?_⟩) | (go_at_call 99; (with_reducible refine (impl_within.calls ((rd_T65 l0_1 x11_1).f4) 1 3 true _ A35.out).mono ?_); rintro e w' ⟨rfl, ⟨nd, rfl⟩⟩))
             go_meet
             case rel => exact ⟨_, (false), (by first | rfl | (simp; done) | (simp [*]; done)), H', ⟨by have := HK1.out; have := HJ8.out; first | omega | exact Nat.le_refl _⟩, ⟨by (with_reducible repeat (first | apply Kd.R_alloc | apply Kd.R_drewN | apply Kd.R_drew)); exact HO_3.out⟩, ⟨xblk⟩, ⟨xblk⟩, ⟨xbg⟩⟩
           ·replace c36 := Bool.eq_false_iff.mpr c36
            subst c36
            have H1 : (impl_RollOk.j2 kj8 x3_1 l0_1 (l0_1.length : Int) x11_1 true a0_0 l0_1 a0_2 l0_3 ((rd_T65 l0_1 x11_1).f0) ((rd_T65 l0_1 x11_1).f1) ((rd_T65 l0_1 x11_1).f2) ((rd_T65 l0_1 x11_1).f3) ((rd_T65 l0_1 x11_1).f4)) = some r := by rw [if_neg (show ¬ (false = true) by decide)] at H; exact H
            clear H; have H := H1; clear H1
            have H' := aM H
            clear H; have hnb44 := NB189_184.out; have hnc44 := NB184_189.out; obtain ⟨hcz45_0, hcz45_1, hcz45_2, hcz45_3, hcz45_4, hfz45_0, hfz45_1, hfz45_2, hfz45_3, hfz45_4⟩ := xf5 (w := wc) BK189; obtain ⟨hcz46_0, hcz46_1, hcz46_2, hcz46_3, hfz46_0, hfz46_1, hfz46_2, hfz46_3⟩ := xf4 (w := wc) BK184
            go_wp2_with (first | ((with_reducible refine gate_callee (f := 98) rfl ?_); refine goesLY (some 52) rfl Try.func98 #[.slice A188_3 ((rd_T65 l0_1 x11_1).f3).length c188_3, .int .i64 a0_0] ?_; (with_reducible refine (impl_nodesAscend.calls kj8 _ _ ((rd_T65 l0_1 x11_1).f3) a0_0 true _ ?side1 ?side2 A33.out).mono ?_); (case side1 => exact xcb HR188_3); (case side2 => exact HC188_3.out); rintro e w' ⟨rfl, ⟨nd, rfl⟩⟩; refine ⟨_, rfl, ?_⟩) | (go_at_call 99; (with_reducible refine (impl_within.calls ((rd_T65 l0_1 x11_1).f4) 1 3 false _ A35.out).mono ?_); rintro e w' ⟨rfl, ⟨nd, rfl⟩⟩))
            go_meet
            case rel => exact ⟨_, (true), (by first | rfl | (simp; done) | (simp [*]; done)), H', ⟨by have := HK1.out; have := HJ8.out; first | omega | exact Nat.le_refl _⟩, ⟨by (with_reducible repeat (first | apply Kd.R_alloc | apply Kd.R_drewN | apply Kd.R_drew)); exact HO_3.out⟩, ⟨xblk⟩, ⟨xblk⟩, ⟨xbg⟩⟩
          ·replace c34 := Bool.eq_false_iff.mpr c34
           subst c34
           have H1 : (impl_RollOk.j2 kj8 x3_1 l0_1 (l0_1.length : Int) x11_1 true a0_0 l0_1 a0_2 l0_3 ((rd_T65 l0_1 x11_1).f0) ((rd_T65 l0_1 x11_1).f1) ((rd_T65 l0_1 x11_1).f2) ((rd_T65 l0_1 x11_1).f3) ((rd_T65 l0_1 x11_1).f4)) = some r := by rw [if_neg (show ¬ (false = true) by decide)] at H; exact H
           clear H; have H := H1; clear H1
           have H' := aM H
           clear H; have hnb47 := NB189_184.out; have hnc47 := NB184_189.out; obtain ⟨hcz48_0, hcz48_1, hcz48_2, hcz48_3, hcz48_4, hfz48_0, hfz48_1, hfz48_2, hfz48_3, hfz48_4⟩ := xf5 (w := wc) BK189; obtain ⟨hcz49_0, hcz49_1, hcz49_2, hcz49_3, hfz49_0, hfz49_1, hfz49_2, hfz49_3⟩ := xf4 (w := wc) BK184
           go_wp2_with (first | ((with_reducible refine gate_callee (f := 98) rfl ?_); refine goesLY (some 52) rfl Try.func98 #[.slice A188_3 ((rd_T65 l0_1 x11_1).f3).length c188_3, .int .i64 a0_0] ?_; (with_reducible refine (impl_nodesAscend.calls kj8 _ _ ((rd_T65 l0_1 x11_1).f3) a0_0 false _ ?side1 ?side2 A33.out).mono ?_); (case side1 => exact xcb HR188_3); (case side2 => exact HC188_3.out); rintro e w' ⟨rfl, ⟨nd, rfl⟩⟩; refine ⟨_, rfl, ?_⟩))
           go_meet
           case rel => exact ⟨_, (true), (by first | rfl | (simp; done) | (simp [*]; done)), H', ⟨by have := HK1.out; have := HJ8.out; first | omega | exact Nat.le_refl _⟩, ⟨by (with_reducible repeat (first | apply Kd.R_alloc | apply Kd.R_drewN | apply Kd.R_drew)); exact HO_3.out⟩, ⟨xblk⟩, ⟨xblk⟩, ⟨xbg⟩⟩
         case rest =>
          clear HC32
          try clear c1
          try clear c2
          try clear p2
          try clear c3
          try clear c4
          try clear c9
          try clear c15
          try clear c18
          try clear c27
          try clear c31
          try clear c34
          try clear c36
          try clear c37
          try clear c37b0
          try clear c37b1
          try clear c38
          try clear c41
          try clear c44
          try clear c47
          try clear hcz39_0 hcz39_1 hcz39_2 hcz39_3 hcz39_4
          try clear hcz40_0 hcz40_1 hcz40_2 hcz40_3
          try clear hcz42_0 hcz42_1 hcz42_2 hcz42_3 hcz42_4
          try clear hcz43_0 hcz43_1 hcz43_2 hcz43_3
          try clear hcz45_0 hcz45_1 hcz45_2 hcz45_3 hcz45_4
          try clear hcz46_0 hcz46_1 hcz46_2 hcz46_3
          try clear hcz48_0 hcz48_1 hcz48_2 hcz48_3 hcz48_4
          try clear hcz49_0 hcz49_1 hcz49_2 hcz49_3
          try clear hfz39_0
          try clear hfz39_1
          try clear hfz39_2
          try clear hfz39_3
          try clear hfz39_4
          try clear hfz40_0
          try clear hfz40_1
          try clear hfz40_2
          try clear hfz40_3
          try clear hfz42_0
          try clear hfz42_1
          try clear hfz42_2
          try clear hfz42_3
          try clear hfz42_4
          try clear hfz43_0
          try clear hfz43_1
          try clear hfz43_2
          try clear hfz43_3
          try clear hfz45_0
          try clear hfz45_1
          try clear hfz45_2
          try clear hfz45_3
          try clear hfz45_4
          try clear hfz46_0
          try clear hfz46_1
          try clear hfz46_2
          try clear hfz46_3
          try clear hfz48_0
          try clear hfz48_1
          try clear hfz48_2
          try clear hfz48_3
          try clear hfz48_4
          try clear hfz49_0
          try clear hfz49_1
          try clear hfz49_2
          try clear hfz49_3
          try clear p2
          obtain ⟨kq, x72_31, rfl, HA, HJ31, HO_3, BK184, BK189, HB⟩ := hcut
          cases kq with
          | zero => exact absurd HA.out (by simp [impl_RollOk.j2])
          | succ kj31 =>
           have H := HA.out; clear HA
           simp only [impl_RollOk.j2] at H
           by_cases c50 : x72_31 = true
           ·subst c50
            have H1 : (some false) = some r := by rw [if_pos rfl] at H; exact H
            clear H; have H := H1; clear H1
            obtain rfl := Option.some.inj H
            go_wp2
            go_ret
            exact ⟨by first | rfl | (simp [errW_none, errW_some] <;> rfl) | (simp [*, errW_none, errW_some] <;> rfl), xbg⟩
           ·replace c50 := Bool.eq_false_iff.mpr c50
            subst c50
            have H1 : (if ((rd_T65 l0_1 x11_1).f4) = 2 then (if x3_1.length < 17592186044416 then (impl_RollOk.l0 kj31 (x3_1 ++ [((rd_T65 l0_1 x11_1).f0)]) l0_1 (l0_1.length : Int) (wrap64 (x11_1 + 1)) a0_0 l0_1 a0_2 l0_3) else (none)) else (impl_RollOk.l0 kj31 x3_1 l0_1 (l0_1.length : Int) (wrap64 (x11_1 + 1)) a0_0 l0_1 a0_2 l0_3)) = some r := by rw [if_neg (show ¬ (false = true) by decide)] at H; exact H
            clear H; have H := H1; clear H1
            by_cases c51 : ((rd_T65 l0_1 x11_1).f4) = 2
            ·rw [if_pos c51] at H
             have c51b0 : (((rd_T65 l0_1 x11_1).f4) == 2) = true := beq_iff_eq.mpr c51; have c51b1 : (((rd_T65 l0_1 x11_1).f4) != 2) = false := bne_eq_false_iff_eq.mpr c51; clear c51
             by_cases c52 : x3_1.length < 17592186044416
             ·rw [if_pos c52] at H
              have LMc52 := aM c52; clear c52
              obtain ⟨y196, hy196⟩ : ∃ y_ : List Int, y_ = (x3_1 ++ [((rd_T65 l0_1 x11_1).f0)]) := ⟨_, rfl⟩
              replace H : (impl_RollOk.l0 kj31 y196 l0_1 (l0_1.length : Int) (wrap64 (x11_1 + 1)) a0_0 l0_1 a0_2 l0_3) = some r := by first | (rw [hy196]; with_reducible exact H) | (have H2_ := (Option.bind_some _ _).symm.trans H; rw [hy196]; with_reducible exact H2_) | (have H2_ := (Option.bind_some _ _).symm.trans H; with_reducible exact H2_) | with_reducible exact H | (rw [hy196]; exact H) | exact H
              have Ny196 := aM hy196; clear hy196
              have H' := aM H
              clear H; have hnb53 := NB189_184.out; have hnc53 := NB184_189.out; obtain ⟨hcz54_0, hcz54_1, hcz54_2, hcz54_3, hcz54_4, hfz54_0, hfz54_1, hfz54_2, hfz54_3, hfz54_4⟩ := xf5 (w := wc) BK189
              go_wp2_with (first | ((with_reducible refine gate_builtin (b := .append) (xs := #[.tmp 76, .tmp 79]) rfl ?_); (try (refine gate_guard (by rfl) ?_; dsimp only)); at_builtin; refine Kd.R_append (Kd.int .i64) (w0 := w) w.heap.size rfl (.tmp 76) (.tmp 79) 38 3 (.int .i64 0) 8 rfl Try.underlying38 info3 rfl (by decide) (by omega) u3 x3_1 ((rd_T65 l0_1 x11_1).f0) [.int .i64 ((rd_T65 l0_1 x11_1).f0)] (fun _ => True) (fun _ => False) rfl rfl ?aP (fun _ hk => hk.elim) ?aF ?aO ?aB ?aS ?aL ?_; (case aP => exact rfl); (case aB => exact xbg); (case aF => exact (fun _ _ => trivial)); (case aO => exact (xr HO_3)); (case aS => exact (below_size xbg)); (case aL => have := LMc52.out; omega); intro v197 w55 ho hb hg hat; rw [← Ny196.out] at ho; have n0_ := aM (blk_grown (g := gb184) (o := .cells #[.int .i64 a0_0, .slice (some ad188) l0_1.length c0_1, .int .i64 a0_2, .slice A0_3 l0_3.length c0_3] 43 (0, 0)) xblk hg (Kd.R_ne HO_3.out BK184.out (by decide))); have n1_ := aM (blk_grown (g := gb189) (o := .cells #[.int .i64 ((rd_T65 l0_1 x11_1).f0), .int .i64 ((rd_T65 l0_1 x11_1).f1), .string ((rd_T65 l0_1 x11_1).f2), .slice A188_3 ((rd_T65 l0_1 x11_1).f3).length c188_3, .int .i64 ((rd_T65 l0_1 x11_1).f4)] 65 (0, 0)) xblk hg (Kd.R_ne HO_3.out BK189.out (by decide))); have n2_ := aM (hb); have n3_ := aM (ho); clear BK184; clear BK189; clear HB; clear HO_3; have BK184 := n0_; have BK189 := n1_; have HB := n2_; have HO198 := n3_; clear n0_ n1_ n2_ n3_; clear ho hb hg hat))
              go_roundg kj31
              case measure => have := HK1.out; have := HJ8.out; have := HJ31.out; omega
              case rel => exact ⟨(y196), (wrap64 (x11_1 + 1)), (by first | rfl | (simp; done) | (simp [*]; done)), H', ⟨by have := HK1.out; have := HJ8.out; have := HJ31.out; omega⟩, ⟨by (with_reducible repeat (first | apply Kd.R_alloc | apply Kd.R_drewN | apply Kd.R_drew)); exact HO198.out⟩, ⟨xblk⟩, ⟨xbg⟩⟩
             ·rw [if_neg c52] at H
              exact absurd H (by simp)
            ·rw [if_neg c51] at H
             have c51b0 : (((rd_T65 l0_1 x11_1).f4) == 2) = false := beq_eq_false_iff_ne.mpr c51; have c51b1 : (((rd_T65 l0_1 x11_1).f4) != 2) = true := bne_iff_ne.mpr c51
             have H' := aM H
             clear H; have hnb56 := NB189_184.out; have hnc56 := NB184_189.out; obtain ⟨hcz57_0, hcz57_1, hcz57_2, hcz57_3, hcz57_4, hfz57_0, hfz57_1, hfz57_2, hfz57_3, hfz57_4⟩ := xf5 (w := wc) BK189
             go_wp2
             go_roundg kj31
             case measure => have := HK1.out; have := HJ8.out; have := HJ31.out; omega
             case rel => exact ⟨(x3_1), (wrap64 (x11_1 + 1)), (by first | rfl | (simp; done) | (simp [*]; done)), H', ⟨by have := HK1.out; have := HJ8.out; have := HJ31.out; omega⟩, ⟨by (with_reducible repeat (first | apply Kd.R_alloc | apply Kd.R_drewN | apply Kd.R_drew)); exact HO_3.out⟩, ⟨xblk⟩, ⟨xbg⟩⟩
     ·rw [if_neg c8] at H
      exact absurd H (by simp)
    ·rw [if_neg c7] at H
     exact absurd H (by simp)
   ·rw [if_neg c6] at H
    have c6b0 : decide (x11_1 < (l0_1.length : Int)) = false := decide_eq_false c6; clear c6
    by_cases c58 : (x3_1.length : Int) > 0
    ·rw [if_pos c58] at H
     have c58b0 : decide (0 < (x3_1.length : Int)) = true := decide_eq_true c58; have c58b1 : decide (0 < x3_1.length) = true := decide_eq_true (by omega); clear c58
     obtain ⟨ji59, hji59⟩ : ∃ j_ : Int, (wrap64 ((x3_1.length : Int) - 1)) = j_ := ⟨_, rfl⟩
     replace H : (if 0 ≤ (ji59) then (if (ji59) < (x3_1.length : Int) then ((impl_isOf.f a0_0).bind fun t200 => (if t200 = true then (if (l0_1.length : Int) ≤ 30 then ((slices_Equal_int_int.f k1 x3_1 l0_3).bind fun t201 => (if t201 = true then (some (a0_2 == (rd x3_1 (ji59)))) else (some false))) else (some false)) else (some false))) else (none)) else (none)) = some r := by first | (rw [hji59] at H; exact H) | (simp only [hji59] at H ⊢; exact H)
     have hji59w : (IntKind.i64.wrap ((x3_1.length : Int) - 1)) = ji59 := (i64_w _).trans hji59
     by_cases c60 : 0 ≤ (ji59)
     ·rw [if_pos c60] at H
      have c60b0 : decide (0 ≤ (ji59)) = true := decide_eq_true c60; clear c60
      by_cases c61 : (ji59) < (x3_1.length : Int)
      ·rw [if_pos c61] at H
       have c61b0 : decide ((ji59) < (x3_1.length : Int)) = true := decide_eq_true c61; clear c61; replace H := Option.bind_eq_some_iff.mp H
       obtain ⟨t200, A620, H⟩ := H
       replace H : (if t200 = true then (if (l0_1.length : Int) ≤ 30 then ((slices_Equal_int_int.f k1 x3_1 l0_3).bind fun t201 => (if t201 = true then (some (a0_2 == (rd x3_1 (ji59)))) else (some false))) else (some false)) else (some false)) = some r := H; have A62 := aM A620; clear A620
       by_cases c63 : t200 = true
       ·subst c63
        have H1 : (if (l0_1.length : Int) ≤ 30 then ((slices_Equal_int_int.f k1 x3_1 l0_3).bind fun t201 => (if t201 = true then (some (a0_2 == (rd x3_1 (ji59)))) else (some false))) else (some false)) = some r := by rw [if_pos rfl] at H; exact H
        clear H; have H := H1; clear H1
        by_cases c64 : (l0_1.length : Int) ≤ 30
        ·rw [if_pos c64] at H
         have c64b0 : decide ((l0_1.length : Int) ≤ 30) = true := decide_eq_true c64; have c64b1 : decide (l0_1.length ≤ 30) = true := decide_eq_true (by omega); clear c64; replace H := Option.bind_eq_some_iff.mp H
         obtain ⟨t201, A650, H⟩ := H
         replace H : (if t201 = true then (some (a0_2 == (rd x3_1 (ji59)))) else (some false)) = some r := H; have A65 := aM A650; clear A650
         by_cases c66 : t201 = true
         ·subst c66
          have H1 : (some (a0_2 == (rd x3_1 (ji59)))) = some r := by rw [if_pos rfl] at H; exact H
          clear H; have H := H1; clear H1
          obtain rfl := Option.some.inj H
          obtain ⟨Ao67, co67, eo67⟩ := Kd.R_slice HO_3.out
          subst eo67
          have p199 : 0 ≤ ((ji59) : Int) := oda; have q199 : (ji59) < (x3_1.length : Int) := oda
          obtain ⟨ad199, e199, hx199_0⟩ := Kd.at_int (Kd.R_reads' HO_3.out).2.2 (ji59) p199 q199
          cases e199
          replace p199 := eq_true p199; replace q199 := eq_true q199; obtain ⟨hcz68_0, hcz68_1, hcz68_2, hcz68_3, hfz68_0, hfz68_1, hfz68_2, hfz68_3⟩ := xf4 (w := wr) BK184
          go_wp2_with (first | ((with_reducible refine gate_callee (f := 83) rfl ?_); refine goesLY (some 93) rfl Try.func83 #[.int .i64 a0_0] ?_; (with_reducible refine (impl_isOf.calls a0_0 true _ A62.out).mono ?_); rintro e w' ⟨rfl, ⟨nd, rfl⟩⟩; refine ⟨_, rfl, ?_⟩) | (go_at_call 100; (with_reducible refine (slices_Equal_int_int.calls k1 _ _ x3_1 _ _ l0_3 true _ ?side1 ?side2 ?side3 ?side4 A65.out).mono ?_); (case side1 => repeat (first | exact (Kd.R_reads' HO_3.out).2.2 | (with_reducible refine Kd.C_alloc ?_ _) | (with_reducible refine Kd.C_drewN ?_ _) | (with_reducible refine Kd.C_drew ?_))); (case side2 => exact (Kd.R_reads' HO_3.out).2.1); (case side3 => repeat (first | exact (Kd.C_below HR0_3.out xbg) | (with_reducible refine Kd.C_alloc ?_ _) | (with_reducible refine Kd.C_drewN ?_ _) | (with_reducible refine Kd.C_drew ?_))); (case side4 => exact HC0_3.out); rintro e w' ⟨rfl, ⟨nd, rfl⟩⟩))
          go_ret
          exact ⟨by first | rfl | (simp [errW_none, errW_some] <;> rfl) | (simp only [← hji59]; first | rfl | (simp [errW_none, errW_some] <;> rfl)) | (simp [*, errW_none, errW_some] <;> rfl), xbg⟩
         ·replace c66 := Bool.eq_false_iff.mpr c66
          subst c66
          have H1 : (some false) = some r := by rw [if_neg (show ¬ (false = true) by decide)] at H; exact H
          clear H; have H := H1; clear H1
          obtain rfl := Option.some.inj H
          obtain ⟨Ao69, co69, eo69⟩ := Kd.R_slice HO_3.out
          subst eo69
          have p199 : 0 ≤ ((ji59) : Int) := oda; have q199 : (ji59) < (x3_1.length : Int) := oda
          obtain ⟨ad199, e199, hx199_0⟩ := Kd.at_int (Kd.R_reads' HO_3.out).2.2 (ji59) p199 q199
          cases e199
          replace p199 := eq_true p199; replace q199 := eq_true q199; obtain ⟨hcz70_0, hcz70_1, hcz70_2, hcz70_3, hfz70_0, hfz70_1, hfz70_2, hfz70_3⟩ := xf4 (w := wr) BK184
          go_wp2_with (first | ((with_reducible refine gate_callee (f := 83) rfl ?_); refine goesLY (some 93) rfl Try.func83 #[.int .i64 a0_0] ?_; (with_reducible refine (impl_isOf.calls a0_0 true _ A62.out).mono ?_); rintro e w' ⟨rfl, ⟨nd, rfl⟩⟩; refine ⟨_, rfl, ?_⟩) | (go_at_call 100; (with_reducible refine (slices_Equal_int_int.calls k1 _ _ x3_1 _ _ l0_3 false _ ?side1 ?side2 ?side3 ?side4 A65.out).mono ?_); (case side1 => repeat (first | exact (Kd.R_reads' HO_3.out).2.2 | (with_reducible refine Kd.C_alloc ?_ _) | (with_reducible refine Kd.C_drewN ?_ _) | (with_reducible refine Kd.C_drew ?_))); (case side2 => exact (Kd.R_reads' HO_3.out).2.1); (case side3 => repeat (first | exact (Kd.C_below HR0_3.out xbg) | (with_reducible refine Kd.C_alloc ?_ _) | (with_reducible refine Kd.C_drewN ?_ _) | (with_reducible refine Kd.C_drew ?_))); (case side4 => exact HC0_3.out); rintro e w' ⟨rfl, ⟨nd, rfl⟩⟩))
          go_ret
          exact ⟨by first | rfl | (simp [errW_none, errW_some] <;> rfl) | (simp only [← hji59]; first | rfl | (simp [errW_none, errW_some] <;> rfl)) | (simp [*, errW_none, errW_some] <;> rfl), xbg⟩
        ·rw [if_neg c64] at H
         have c64b0 : decide ((l0_1.length : Int) ≤ 30) = false := decide_eq_false c64; have c64b1 : decide (l0_1.length ≤ 30) = false := decide_eq_false (by omega); clear c64
         obtain rfl := Option.some.inj H
         obtain ⟨Ao71, co71, eo71⟩ := Kd.R_slice HO_3.out
         subst eo71
         have p199 : 0 ≤ ((ji59) : Int) := oda; have q199 : (ji59) < (x3_1.length : Int) := oda
         obtain ⟨ad199, e199, hx199_0⟩ := Kd.at_int (Kd.R_reads' HO_3.out).2.2 (ji59) p199 q199
         cases e199
         replace p199 := eq_true p199; replace q199 := eq_true q199; obtain ⟨hcz72_0, hcz72_1, hcz72_2, hcz72_3, hfz72_0, hfz72_1, hfz72_2, hfz72_3⟩ := xf4 (w := wr) BK184
         go_wp2_with (first | ((with_reducible refine gate_callee (f := 83) rfl ?_); refine goesLY (some 93) rfl Try.func83 #[.int .i64 a0_0] ?_; (with_reducible refine (impl_isOf.calls a0_0 true _ A62.out).mono ?_); rintro e w' ⟨rfl, ⟨nd, rfl⟩⟩; refine ⟨_, rfl, ?_⟩))
         go_ret
         exact ⟨by first | rfl | (simp [errW_none, errW_some] <;> rfl) | (simp only [← hji59]; first | rfl | (simp [errW_none, errW_some] <;> rfl)) | (simp [*, errW_none, errW_some] <;> rfl), xbg⟩
       ·replace c63 := Bool.eq_false_iff.mpr c63
        subst c63
        have H1 : (some false) = some r := by rw [if_neg (show ¬ (false = true) by decide)] at H; exact H
        clear H; have H := H1; clear H1
        obtain rfl := Option.some.inj H
        obtain ⟨Ao73, co73, eo73⟩ := Kd.R_slice HO_3.out
        subst eo73
        have p199 : 0 ≤ ((ji59) : Int) := oda; have q199 : (ji59) < (x3_1.length : Int) := oda
        obtain ⟨ad199, e199, hx199_0⟩ := Kd.at_int (Kd.R_reads' HO_3.out).2.2 (ji59) p199 q199
        cases e199
        replace p199 := eq_true p199; replace q199 := eq_true q199; obtain ⟨hcz74_0, hcz74_1, hcz74_2, hcz74_3, hfz74_0, hfz74_1, hfz74_2, hfz74_3⟩ := xf4 (w := wr) BK184
        go_wp2_with (first | ((with_reducible refine gate_callee (f := 83) rfl ?_); refine goesLY (some 93) rfl Try.func83 #[.int .i64 a0_0] ?_; (with_reducible refine (impl_isOf.calls a0_0 false _ A62.out).mono ?_); rintro e w' ⟨rfl, ⟨nd, rfl⟩⟩; refine ⟨_, rfl, ?_⟩))
        go_ret
        exact ⟨by first | rfl | (simp [errW_none, errW_some] <;> rfl) | (simp only [← hji59]; first | rfl | (simp [errW_none, errW_some] <;> rfl)) | (simp [*, errW_none, errW_some] <;> rfl), xbg⟩
      ·rw [if_neg c61] at H
       exact absurd H (by simp)
     ·rw [if_neg c60] at H
      exact absurd H (by simp)
    ·rw [if_neg c58] at H
     have c58b0 : decide (0 < (x3_1.length : Int)) = false := decide_eq_false c58; have c58b1 : decide (0 < x3_1.length) = false := decide_eq_false (by omega); clear c58; replace H := Option.bind_eq_some_iff.mp H
     obtain ⟨t202, A750, H⟩ := H
     replace H : (if t202 = true then (if (l0_1.length : Int) ≤ 30 then ((slices_Equal_int_int.f k1 x3_1 l0_3).bind fun t203 => (if t203 = true then (some (a0_2 == 0)) else (some false))) else (some false)) else (some false)) = some r := H; have A75 := aM A750; clear A750
     by_cases c76 : t202 = true
     ·subst c76
      have H1 : (if (l0_1.length : Int) ≤ 30 then ((slices_Equal_int_int.f k1 x3_1 l0_3).bind fun t203 => (if t203 = true then (some (a0_2 == 0)) else (some false))) else (some false)) = some r := by rw [if_pos rfl] at H; exact H
      clear H; have H := H1; clear H1
      by_cases c77 : (l0_1.length : Int) ≤ 30
      ·rw [if_pos c77] at H
       have c77b0 : decide ((l0_1.length : Int) ≤ 30) = true := decide_eq_true c77; have c77b1 : decide (l0_1.length ≤ 30) = true := decide_eq_true (by omega); clear c77; replace H := Option.bind_eq_some_iff.mp H
       obtain ⟨t203, A780, H⟩ := H
       replace H : (if t203 = true then (some (a0_2 == 0)) else (some false)) = some r := H; have A78 := aM A780; clear A780
       by_cases c79 : t203 = true
       ·subst c79
        have H1 : (some (a0_2 == 0)) = some r := by rw [if_pos rfl] at H; exact H
        clear H; have H := H1; clear H1
        obtain rfl := Option.some.inj H
        obtain ⟨Ao80, co80, eo80⟩ := Kd.R_slice HO_3.out
        subst eo80
        obtain ⟨hcz81_0, hcz81_1, hcz81_2, hcz81_3, hfz81_0, hfz81_1, hfz81_2, hfz81_3⟩ := xf4 (w := wr) BK184
        go_wp2_with (first | ((with_reducible refine gate_callee (f := 83) rfl ?_); refine goesLY (some 93) rfl Try.func83 #[.int .i64 a0_0] ?_; (with_reducible refine (impl_isOf.calls a0_0 true _ A75.out).mono ?_); rintro e w' ⟨rfl, ⟨nd, rfl⟩⟩; refine ⟨_, rfl, ?_⟩) | (go_at_call 100; (with_reducible refine (slices_Equal_int_int.calls k1 _ _ x3_1 _ _ l0_3 true _ ?side1 ?side2 ?side3 ?side4 A78.out).mono ?_); (case side1 => repeat (first | exact (Kd.R_reads' HO_3.out).2.2 | (with_reducible refine Kd.C_alloc ?_ _) | (with_reducible refine Kd.C_drewN ?_ _) | (with_reducible refine Kd.C_drew ?_))); (case side2 => exact (Kd.R_reads' HO_3.out).2.1); (case side3 => repeat (first | exact (Kd.C_below HR0_3.out xbg) | (with_reducible refine Kd.C_alloc ?_ _) | (with_reducible refine Kd.C_drewN ?_ _) | (with_reducible refine Kd.C_drew ?_))); (case side4 => exact HC0_3.out); rintro e w' ⟨rfl, ⟨nd, rfl⟩⟩))
        go_ret
        exact ⟨by first | rfl | (simp [errW_none, errW_some] <;> rfl) | (simp [*, errW_none, errW_some] <;> rfl), xbg⟩
       ·replace c79 := Bool.eq_false_iff.mpr c79
        subst c79
        have H1 : (some false) = some r := by rw [if_neg (show ¬ (false = true) by decide)] at H; exact H
        clear H; have H := H1; clear H1
        obtain rfl := Option.some.inj H
        obtain ⟨Ao82, co82, eo82⟩ := Kd.R_slice HO_3.out
        subst eo82
        obtain ⟨hcz83_0, hcz83_1, hcz83_2, hcz83_3, hfz83_0, hfz83_1, hfz83_2, hfz83_3⟩ := xf4 (w := wr) BK184
        go_wp2_with (first | ((with_reducible refine gate_callee (f := 83) rfl ?_); refine goesLY (some 93) rfl Try.func83 #[.int .i64 a0_0] ?_; (with_reducible refine (impl_isOf.calls a0_0 true _ A75.out).mono ?_); rintro e w' ⟨rfl, ⟨nd, rfl⟩⟩; refine ⟨_, rfl, ?_⟩) | (go_at_call 100; (with_reducible refine (slices_Equal_int_int.calls k1 _ _ x3_1 _ _ l0_3 false _ ?side1 ?side2 ?side3 ?side4 A78.out).mono ?_); (case side1 => repeat (first | exact (Kd.R_reads' HO_3.out).2.2 | (with_reducible refine Kd.C_alloc ?_ _) | (with_reducible refine Kd.C_drewN ?_ _) | (with_reducible refine Kd.C_drew ?_))); (case side2 => exact (Kd.R_reads' HO_3.out).2.1); (case side3 => repeat (first | exact (Kd.C_below HR0_3.out xbg) | (with_reducible refine Kd.C_alloc ?_ _) | (with_reducible refine Kd.C_drewN ?_ _) | (with_reducible refine Kd.C_drew ?_))); (case side4 => exact HC0_3.out); rintro e w' ⟨rfl, ⟨nd, rfl⟩⟩))
        go_ret
        exact ⟨by first | rfl | (simp [errW_none, errW_some] <;> rfl) | (simp [*, errW_none, errW_some] <;> rfl), xbg⟩
      ·rw [if_neg c77] at H
       have c77b0 : decide ((l0_1.length : Int) ≤ 30) = false := decide_eq_false c77; have c77b1 : decide (l0_1.length ≤ 30) = false := decide_eq_false (by omega); clear c77
       obtain rfl := Option.some.inj H
       obtain ⟨Ao84, co84, eo84⟩ := Kd.R_slice HO_3.out
       subst eo84
       obtain ⟨hcz85_0, hcz85_1, hcz85_2, hcz85_3, hfz85_0, hfz85_1, hfz85_2, hfz85_3⟩ := xf4 (w := wr) BK184
       go_wp2_with (first | ((with_reducible refine gate_callee (f := 83) rfl ?_); refine goesLY (some 93) rfl Try.func83 #[.int .i64 a0_0] ?_; (with_reducible refine (impl_isOf.calls a0_0 true _ A75.out).mono ?_); rintro e w' ⟨rfl, ⟨nd, rfl⟩⟩; refine ⟨_, rfl, ?_⟩))
       go_ret
       exact ⟨by first | rfl | (simp [errW_none, errW_some] <;> rfl) | (simp [*, errW_none, errW_some] <;> rfl), xbg⟩
     ·replace c76 := Bool.eq_false_iff.mpr c76
      subst c76
      have H1 : (some false) = some r := by rw [if_neg (show ¬ (false = true) by decide)] at H; exact H
      clear H; have H := H1; clear H1
      obtain rfl := Option.some.inj H
      obtain ⟨Ao86, co86, eo86⟩ := Kd.R_slice HO_3.out
      subst eo86
      obtain ⟨hcz87_0, hcz87_1, hcz87_2, hcz87_3, hfz87_0, hfz87_1, hfz87_2, hfz87_3⟩ := xf4 (w := wr) BK184
      go_wp2_with (first | ((with_reducible refine gate_callee (f := 83) rfl ?_); refine goesLY (some 93) rfl Try.func83 #[.int .i64 a0_0] ?_; (with_reducible refine (impl_isOf.calls a0_0 false _ A75.out).mono ?_); rintro e w' ⟨rfl, ⟨nd, rfl⟩⟩; refine ⟨_, rfl, ?_⟩))
      go_ret
      exact ⟨by first | rfl | (simp [errW_none, errW_some] <;> rfl) | (simp [*, errW_none, errW_some] <;> rfl), xbg⟩

end Go.Proofs.Ytoojdlobnbakoaa.QFnExactRollOk
