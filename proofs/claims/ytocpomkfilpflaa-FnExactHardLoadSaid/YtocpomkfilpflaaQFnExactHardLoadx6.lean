-- A walk, by a program of this session.
import Derived.Test.YtocpomkfilpflaaQFnExactHardLoadx0
import Derived.Test.YtocpomkfilpflaaQFnExactHardLoadx5
namespace Go.Proofs.Ytocpomkfilpflaa.QFnExactHardLoad
open Go.RowKit Go.Proofs.YtocpomkfilpflaaW.PrintWords Go.Proofs.YtocpomkfilpflaaW.PrintLast Go.Proofs.YtocpomkfilpflaaW.PrintMore
attribute [local go_sem] max2_int min2_int max_two min_two max_three min_three max_four min_four   -- for this text's walks alone
set_option linter.unusedVariables false
set_option linter.unusedSimpArgs false

theorem u6_0 {p : Prop} (h : p := by first | rfl | (simp; done) | (simp [*]; done)) : p := h
theorem u6_1 {p : Prop} (h : p := by have := World.block_lt_of_cell? _ _ aR; first | rwa [add_block] at this | exact this) : p := h
theorem u6_2 {p : Prop} (h : p := by have := World.block_lt_of_cell? _ _ aS; first | rwa [add_block] at this | exact this) : p := h
theorem u6_3 {p : Prop} (h : p := by have := World.block_lt_of_cell? _ _ aT; first | rwa [add_block] at this | exact this) : p := h
theorem u6_4 {p : Prop} (h : p := by have := World.block_lt_of_cell? _ _ aU; first | rwa [add_block] at this | exact this) : p := h
theorem u6_5 {p : Prop} (h : p := by have := World.block_lt_of_cell? _ _ aV; first | rwa [add_block] at this | exact this) : p := h
theorem u6_6 {p : Prop} (h : p := by have := World.block_lt_of_cell? _ _ aW; first | rwa [add_block] at this | exact this) : p := h
theorem u6_7 {p : Prop} (h : p := by have := World.block_lt_of_cell? _ _ aX; first | rwa [add_block] at this | exact this) : p := h
theorem u6_8 {p : Prop} (h : p := by have := World.block_lt_of_cell? _ _ aY; first | rwa [add_block] at this | exact this) : p := h
theorem u6_9 {p : Prop} (h : p := by have := World.block_lt_of_cell? _ _ aZ; first | rwa [add_block] at this | exact this) : p := h
theorem u6_10 {p : Prop} (h : p := by have := World.block_lt_of_cell? _ _ bA; first | rwa [add_block] at this | exact this) : p := h
theorem u6_11 {p : Prop} (h : p := by repeat (first | exact Drawn0.refl _ | apply Drawn0.step)) : p := h
theorem u6_12 {p : Prop} (h : p := by first | (go_simp; done) | (go_simp; rfl)) : p := h
theorem u6_13 {p : Prop} (h : p := by first | rfl | (simp; done) | (simp only [← hji9] <;> (first | rfl | simp)) | (simp [*]; done)) : p := h
theorem u6_14 {p : Prop} (h : p := by first | exact Nat.ne_of_lt (Nat.lt_of_lt_of_le (by have := World.block_lt_of_cell? _ _ aR; first | rwa [add_block] at this | exact this) aH.out) | (rw [add_block]; exact Nat.ne_of_lt (Nat.lt_of_lt_of_le (by have := World.block_lt_of_cell? _ _ aR; first | rwa [add_block] at this | exact this) aH.out)) | (show (Addr.add _ _).block ≠ _; rw [add_block]; exact Nat.ne_of_lt (Nat.lt_of_lt_of_le (by have := World.block_lt_of_cell? _ _ aR; first | rwa [add_block] at this | exact this) aH.out)) | (dsimp only; exact Nat.ne_of_lt (Nat.lt_of_lt_of_le (by have := World.block_lt_of_cell? _ _ aR; first | rwa [add_block] at this | exact this) aH.out))) : p := h
theorem u6_15 {p : Prop} (h : p := by first | exact Nat.ne_of_lt (Nat.lt_of_lt_of_le (by have := World.block_lt_of_cell? _ _ aS; first | rwa [add_block] at this | exact this) aH.out) | (rw [add_block]; exact Nat.ne_of_lt (Nat.lt_of_lt_of_le (by have := World.block_lt_of_cell? _ _ aS; first | rwa [add_block] at this | exact this) aH.out)) | (show (Addr.add _ _).block ≠ _; rw [add_block]; exact Nat.ne_of_lt (Nat.lt_of_lt_of_le (by have := World.block_lt_of_cell? _ _ aS; first | rwa [add_block] at this | exact this) aH.out)) | (dsimp only; exact Nat.ne_of_lt (Nat.lt_of_lt_of_le (by have := World.block_lt_of_cell? _ _ aS; first | rwa [add_block] at this | exact this) aH.out))) : p := h
theorem u6_16 {p : Prop} (h : p := by first | exact Nat.ne_of_lt (Nat.lt_of_lt_of_le (by have := World.block_lt_of_cell? _ _ aT; first | rwa [add_block] at this | exact this) aH.out) | (rw [add_block]; exact Nat.ne_of_lt (Nat.lt_of_lt_of_le (by have := World.block_lt_of_cell? _ _ aT; first | rwa [add_block] at this | exact this) aH.out)) | (show (Addr.add _ _).block ≠ _; rw [add_block]; exact Nat.ne_of_lt (Nat.lt_of_lt_of_le (by have := World.block_lt_of_cell? _ _ aT; first | rwa [add_block] at this | exact this) aH.out)) | (dsimp only; exact Nat.ne_of_lt (Nat.lt_of_lt_of_le (by have := World.block_lt_of_cell? _ _ aT; first | rwa [add_block] at this | exact this) aH.out))) : p := h
theorem u6_17 {p : Prop} (h : p := by first | exact Nat.ne_of_lt (Nat.lt_of_lt_of_le (by have := World.block_lt_of_cell? _ _ aU; first | rwa [add_block] at this | exact this) aH.out) | (rw [add_block]; exact Nat.ne_of_lt (Nat.lt_of_lt_of_le (by have := World.block_lt_of_cell? _ _ aU; first | rwa [add_block] at this | exact this) aH.out)) | (show (Addr.add _ _).block ≠ _; rw [add_block]; exact Nat.ne_of_lt (Nat.lt_of_lt_of_le (by have := World.block_lt_of_cell? _ _ aU; first | rwa [add_block] at this | exact this) aH.out)) | (dsimp only; exact Nat.ne_of_lt (Nat.lt_of_lt_of_le (by have := World.block_lt_of_cell? _ _ aU; first | rwa [add_block] at this | exact this) aH.out))) : p := h
theorem u6_18 {p : Prop} (h : p := by first | exact Nat.ne_of_lt (Nat.lt_of_lt_of_le (by have := World.block_lt_of_cell? _ _ aV; first | rwa [add_block] at this | exact this) aH.out) | (rw [add_block]; exact Nat.ne_of_lt (Nat.lt_of_lt_of_le (by have := World.block_lt_of_cell? _ _ aV; first | rwa [add_block] at this | exact this) aH.out)) | (show (Addr.add _ _).block ≠ _; rw [add_block]; exact Nat.ne_of_lt (Nat.lt_of_lt_of_le (by have := World.block_lt_of_cell? _ _ aV; first | rwa [add_block] at this | exact this) aH.out)) | (dsimp only; exact Nat.ne_of_lt (Nat.lt_of_lt_of_le (by have := World.block_lt_of_cell? _ _ aV; first | rwa [add_block] at this | exact this) aH.out))) : p := h
theorem u6_19 {p : Prop} (h : p := by first | exact Nat.ne_of_lt (Nat.lt_of_lt_of_le (by have := World.block_lt_of_cell? _ _ aW; first | rwa [add_block] at this | exact this) aH.out) | (rw [add_block]; exact Nat.ne_of_lt (Nat.lt_of_lt_of_le (by have := World.block_lt_of_cell? _ _ aW; first | rwa [add_block] at this | exact this) aH.out)) | (show (Addr.add _ _).block ≠ _; rw [add_block]; exact Nat.ne_of_lt (Nat.lt_of_lt_of_le (by have := World.block_lt_of_cell? _ _ aW; first | rwa [add_block] at this | exact this) aH.out)) | (dsimp only; exact Nat.ne_of_lt (Nat.lt_of_lt_of_le (by have := World.block_lt_of_cell? _ _ aW; first | rwa [add_block] at this | exact this) aH.out))) : p := h
theorem u6_20 {p : Prop} (h : p := by first | exact Nat.ne_of_lt (Nat.lt_of_lt_of_le (by have := World.block_lt_of_cell? _ _ aX; first | rwa [add_block] at this | exact this) aH.out) | (rw [add_block]; exact Nat.ne_of_lt (Nat.lt_of_lt_of_le (by have := World.block_lt_of_cell? _ _ aX; first | rwa [add_block] at this | exact this) aH.out)) | (show (Addr.add _ _).block ≠ _; rw [add_block]; exact Nat.ne_of_lt (Nat.lt_of_lt_of_le (by have := World.block_lt_of_cell? _ _ aX; first | rwa [add_block] at this | exact this) aH.out)) | (dsimp only; exact Nat.ne_of_lt (Nat.lt_of_lt_of_le (by have := World.block_lt_of_cell? _ _ aX; first | rwa [add_block] at this | exact this) aH.out))) : p := h
theorem u6_21 {p : Prop} (h : p := by first | exact Nat.ne_of_lt (Nat.lt_of_lt_of_le (by have := World.block_lt_of_cell? _ _ aY; first | rwa [add_block] at this | exact this) aH.out) | (rw [add_block]; exact Nat.ne_of_lt (Nat.lt_of_lt_of_le (by have := World.block_lt_of_cell? _ _ aY; first | rwa [add_block] at this | exact this) aH.out)) | (show (Addr.add _ _).block ≠ _; rw [add_block]; exact Nat.ne_of_lt (Nat.lt_of_lt_of_le (by have := World.block_lt_of_cell? _ _ aY; first | rwa [add_block] at this | exact this) aH.out)) | (dsimp only; exact Nat.ne_of_lt (Nat.lt_of_lt_of_le (by have := World.block_lt_of_cell? _ _ aY; first | rwa [add_block] at this | exact this) aH.out))) : p := h
theorem u6_22 {p : Prop} (h : p := by first | exact Nat.ne_of_lt (Nat.lt_of_lt_of_le (by have := World.block_lt_of_cell? _ _ aZ; first | rwa [add_block] at this | exact this) aH.out) | (rw [add_block]; exact Nat.ne_of_lt (Nat.lt_of_lt_of_le (by have := World.block_lt_of_cell? _ _ aZ; first | rwa [add_block] at this | exact this) aH.out)) | (show (Addr.add _ _).block ≠ _; rw [add_block]; exact Nat.ne_of_lt (Nat.lt_of_lt_of_le (by have := World.block_lt_of_cell? _ _ aZ; first | rwa [add_block] at this | exact this) aH.out)) | (dsimp only; exact Nat.ne_of_lt (Nat.lt_of_lt_of_le (by have := World.block_lt_of_cell? _ _ aZ; first | rwa [add_block] at this | exact this) aH.out))) : p := h
theorem u6_23 {p : Prop} (h : p := by first | exact Nat.ne_of_lt (Nat.lt_of_lt_of_le (by have := World.block_lt_of_cell? _ _ bA; first | rwa [add_block] at this | exact this) aH.out) | (rw [add_block]; exact Nat.ne_of_lt (Nat.lt_of_lt_of_le (by have := World.block_lt_of_cell? _ _ bA; first | rwa [add_block] at this | exact this) aH.out)) | (show (Addr.add _ _).block ≠ _; rw [add_block]; exact Nat.ne_of_lt (Nat.lt_of_lt_of_le (by have := World.block_lt_of_cell? _ _ bA; first | rwa [add_block] at this | exact this) aH.out)) | (dsimp only; exact Nat.ne_of_lt (Nat.lt_of_lt_of_le (by have := World.block_lt_of_cell? _ _ bA; first | rwa [add_block] at this | exact this) aH.out))) : p := h
theorem u6_24 {p : Prop} (h : p := by first | exact Kd.R_nil _ _ _ _ _ | exact Kd.N_nil _ _ _ _ _ | exact Kd.V_nil _ _ _ _ _ | exact Kd.Q_nil _ _ _ _ _ | exact Kd.S_nil _ _ _ _ _) : p := h
theorem u6_25 {p : Prop} (h : p := by simp only [putAll, Act.put, List.setIfInBounds_toArray, List.set_cons_zero, List.set_cons_succ]) : p := h
theorem u6_26 {p : Prop} (h : p := by (with_reducible repeat (first | apply Kd.R_alloc | apply Kd.R_drewN | apply Kd.R_drew)); exact Kd.R_mono bQ.out (fun _ hk => hk.2)) : p := h
theorem u6_27 {p : Prop} (h : p := by (with_reducible repeat (first | apply Kd.R_alloc | apply Kd.R_drewN | apply Kd.R_drew)); exact Kd.R_mono aB.out (fun _ hk => hk.2)) : p := h
/-! ### spec_HardOf: function 9 -/
mutual
def spec_HardOf.j0 : Nat → List (S38) → Int → Int → Option (Int × Int × (List (S36)) × Int)
 | 0, _, _, _ => none
 | k + 1, x0, bI, bJ => spec_HardOf.l0 k x0 0 bI bJ ([] : List (S36))
def spec_HardOf.l0 : Nat → List (S38) → Int → Int → Int → List (S36) → Option (Int × Int × (List (S36)) × Int)
 | 0, _, _, _, _, _ => none
 | k + 1, x0, x5, bI, bJ, bR => if x5 < (x0.length : Int) then (spec_HardOf.j2 k x0 x5 bI bJ bR) else (some (bI, bJ, bR, (x0.length : Int)))
def spec_HardOf.j2 : Nat → List (S38) → Int → Int → Int → List (S36) → Option (Int × Int × (List (S36)) × Int)
 | 0, _, _, _, _, _ => none
 | k + 1, x0, x5, bI, bJ, bR => if 0 ≤ x5 then (if x5 < (x0.length : Int) then ((spec_HardApply.f k bI bJ bR ((rd_T38 x0 x5).f0) ((rd_T38 x0 x5).f1) ((rd_T38 x0 x5).f2) ((rd_T38 x0 x5).f3) ((rd_T38 x0 x5).f4.f0) ((rd_T38 x0 x5).f4.f1.f0) ((rd_T38 x0 x5).f4.f1.f1) ((rd_T38 x0 x5).f4.f1.f2) ((rd_T38 x0 x5).f4.f1.f3) ((rd_T38 x0 x5).f4.f1.f4)).bind fun dJ => (if dJ.2.2.2 = true then (spec_HardOf.j3 k x0 x5 dJ.1 dJ.2.1 dJ.2.2.1) else (some (bI, bJ, bR, x5)))) else (none)) else (none)
def spec_HardOf.j3 : Nat → List (S38) → Int → Int → Int → List (S36) → Option (Int × Int × (List (S36)) × Int)
 | 0, _, _, _, _, _ => none
 | k + 1, x0, x5, eI, eJ, eK => spec_HardOf.l0 k x0 (wrap64 (x5 + 1)) eI eJ eK
end
def spec_HardOf.f (k : Nat) (l0 : List (S38)) : Option (Int × Int × (List (S36)) × Int) := if (l0.length : Int) > 2000 then (some (0, 0, ([] : List (S36)), 0)) else (spec_HardOf.j0 k l0 0 0)
theorem u6_mq0 {p : Prop} (h : p := by repeat' first | (with_reducible first | exact eY _ _ _ | exact eZ _ _ _ _ _ | exact fA _ _ _ _ _ | exact gI _ _ _ _ _ | exact spec_HardApply.mono _ _ _ _ _ _ _ _ _ _ _ _ _ _ | exact LeO.refl _ | exact LeO.none _ | refine LeO.ite ?_ ?_ | refine LeO.bind ?_ (fun _ => ?_)) | exact eY _ _ _ | exact eZ _ _ _ _ _ | exact fA _ _ _ _ _ | exact gI _ _ _ _ _ | exact spec_HardApply.mono _ _ _ _ _ _ _ _ _ _ _ _ _ _ | exact LeO.none _ | refine LeO.ite ?_ ?_ | refine LeO.bind ?_ (fun _ => ?_)) : p := h
set_option maxRecDepth 100000 in
theorem spec_HardOf.mono_l : ∀ k, (∀ y0 y1 y2, LeO (spec_HardOf.j0 k y0 y1 y2) (spec_HardOf.j0 (k + 1) y0 y1 y2)) ∧ (∀ y0 y1 y2 y3 y4, LeO (spec_HardOf.l0 k y0 y1 y2 y3 y4) (spec_HardOf.l0 (k + 1) y0 y1 y2 y3 y4)) ∧ (∀ y0 y1 y2 y3 y4, LeO (spec_HardOf.j2 k y0 y1 y2 y3 y4) (spec_HardOf.j2 (k + 1) y0 y1 y2 y3 y4)) ∧ (∀ y0 y1 y2 y3 y4, LeO (spec_HardOf.j3 k y0 y1 y2 y3 y4) (spec_HardOf.j3 (k + 1) y0 y1 y2 y3 y4))
 | 0 => ⟨fun _ _ _ r h => by simp [spec_HardOf.j0] at h, fun _ _ _ _ _ r h => by simp [spec_HardOf.l0] at h, fun _ _ _ _ _ r h => by simp [spec_HardOf.j2] at h, fun _ _ _ _ _ r h => by simp [spec_HardOf.j3] at h⟩
 | k + 1 => by
  obtain ⟨eY, eZ, fA, gI⟩ := spec_HardOf.mono_l k; refine ⟨?_, ?_, ?_, ?_⟩
  ·intro y0 y1 y2; unfold spec_HardOf.j0; exact u6_mq0
  ·intro y0 y1 y2 y3 y4; unfold spec_HardOf.l0; exact u6_mq0
  ·intro y0 y1 y2 y3 y4; unfold spec_HardOf.j2; exact u6_mq0
  ·intro y0 y1 y2 y3 y4; unfold spec_HardOf.j3; exact u6_mq0
theorem spec_HardOf.mono : ∀ a0 k, LeO (spec_HardOf.f k a0) (spec_HardOf.f (k + 1) a0) := by
 intro a0 k
 obtain ⟨eY, eZ, fA, gI⟩ := spec_HardOf.mono_l k
 unfold spec_HardOf.f
 exact u6_mq0
def spec_HardOf.T7 : Bool × List (List Nat × List Nat) := (true, [([], []), ([], []), ([], []), ([1, 2], [1, 2]), ([3], [3]), ([0, 4], [0, 4]), ([5], [5]), ([6], [6]), ([6], [6]), ([], []), ([9, 7, 5, 0, 1, 2, 3, 4, 5, 6, 7, 9], [7, 9]), ([8, 10, 0, 1, 2, 3, 4, 5, 6, 7, 8, 9, 10], [8])])
def spec_HardOf.B7 : List Nat := [0, 0, 0, 6, 14, 31, 63, 127, 127, 0, 767, 2047]
theorem spec_HardOf.tab7 : rtab .any (opsOf Try.f9 7) = spec_HardOf.T7 := by kernel_rfl
theorem spec_HardOf.bits7 : waitsOk spec_HardOf.T7.2 spec_HardOf.B7 = true := by kernel_rfl
set_option maxHeartbeats 8000000 in
set_option maxRecDepth 100000 in
theorem spec_HardOf.calls (k : Nat) (A0 : Option Addr) (c0 : Nat) (l0 : List (S38)) (r1 : Int) (r2 : Int) (r3 : List (S36)) (r4 : Int) (w : World) (fH : Kd.C k38 w A0 l0.length l0) (fI : l0.length ≤ c0) (h : spec_HardOf.f k l0 = some (r1, r2, r3, r4)) :
 Calls Try.prog 9 #[.slice A0 l0.length c0] w fun e w' => ∃ v2_ : Value, e = .returned (.tuple #[.agg #[.int .i64 r1, .int .i64 r2, v2_], .int .i64 r4]) ∧ Kd.R k36 36 w' w.heap.size (fun _ => True) v2_ r3 ∧ Below w.heap.size w w' := by
 have iO := Try.underlying28
 have iP := Try.underlying38
 have fF := aM fH
 have iQ := aM fI
 clear fH fI
 have HB := aM (Below.refl w.heap.size w)
 have H : (if (l0.length : Int) > 2000 then (some (0, 0, ([] : List (S36)), 0)) else (spec_HardOf.j0 k l0 0 0)) = some (r1, r2, r3, r4) := h
 clear h
 have gJ := aM H
 clear H
 go_enter Try.func9, Try.ntmps9
 go_upto_if 11 with (first | ((with_reducible refine gD 2 rfl ?_); refine boxE (N := 2) rfl (cs := #[.int .i64 0, .int .i64 0, .slice none 0 0]) (t := 28) ?_; intro aQ hg w3 hbox hb; have aK := aM (hbox); have gS := aM (xge hg); have gT := aM (xge hg); replace HB := xbs hb; clear hb hbox hg) | ((with_reducible refine gD 4 rfl ?_); refine boxE (N := 4) rfl (cs := #[.int .i64 0, .int .i64 0, .slice none 0 0]) (t := 28) ?_; intro aL hg w4 hbox hb; have gU := aM (xge hg); have gV := aM (xge hg); replace HB := xbs hb; have bE := nblt aK hg; have bG := nbgt aK hg; replace aK := xbb aK hb; have aJ := aM (hbox); clear hb hbox hg; have iR := bG.out; have iS := bE.out; obtain ⟨cT, cU, cV, cW, cX, cY⟩ := xf3 (w := w4) aJ))
 (try simp only [Act.put, List.setIfInBounds_toArray, List.set_cons_zero, List.set_cons_succ])
 go_cut [] (fun wc => ∃ (kq : Nat) (cG : Int) (cH : Int), Aside0 (spec_HardOf.j0 kq l0 0 0 = some (r1, r2, r3, r4)) ∧ Aside0 (kq ≤ k) ∧ Aside0 (wc.heap[aQ]? = some (.cells #[.int .i64 cG, .int .i64 cH, (.slice none 0 0)] 28 (0, 0))) ∧ Aside0 (wc.heap[aL]? = some (.cells #[.int .i64 0, .int .i64 0, (.slice none 0 0)] 28 (0, 0))) ∧ Aside0 (Below w.heap.size w wc))
 case first =>
  have H := gJ.out; clear gJ; by_cases c7 : (l0.length : Int) > 2000
  ·rw [if_pos c7] at H; have bM : decide (2000 < (l0.length : Int)) = true := decide_eq_true c7; have eG : decide (2000 < l0.length) = true := decide_eq_true (by omega); clear c7; (first | rw [bM] | (simp only [i64_w, i32_w]; rw [bM]) | skip); simp only [Option.some.injEq, Prod.mk.injEq] at H; obtain ⟨rfl, rfl, rfl, rfl⟩ := H; have iU := bG.out; have iV := bE.out; obtain ⟨cZ, dA, dB, dC, dD, dE⟩ := xf3 (w := w4) aJ; obtain ⟨cK, cL, cM, cN, cO, cP⟩ := xf3 (w := w4) aK; go_wp2_with (first | ((with_reducible refine gate_store (t := 28) (p := 2) rfl ?_); refine store_event (t := 28) (p := 2) (v := ?vo_w11) (w1 := ((((((w4.setCell ⟨aL, 0, none⟩ (.int .i64 0)).setCell ⟨aL, 1, none⟩ (.int .i64 0)).setCell ⟨aL, 2, none⟩ (.slice none 0 0)).setCell ⟨aQ, 0, none⟩ (.int .i64 0)).setCell ⟨aQ, 1, none⟩ (.int .i64 0)).setCell ⟨aQ, 2, none⟩ (.slice none 0 0))) ?hg ?ho ?hn ?hr ?_; (case ho | hg | hn => rfl); (case hr => exact u6_12); intro gW hw; replace aK : Aside0 (gW.heap[aQ]? = some (.cells #[.int .i64 0, .int .i64 0, .slice none 0 0] 28 (0, 0))) := xwp hw; replace aJ : Aside0 (gW.heap[aL]? = some (.cells #[.int .i64 0, .int .i64 0, .slice none 0 0] 28 (0, 0))) := xwp hw; replace HB := xbw hw HB; clear hw))
   refine bodyPost_ret (results_ct rfl _ _ aQ 28 #[.int .i64 0, .int .i64 0, .slice none 0 0] (0, 0) _ rfl xblk Try.underlying28 rfl (by kernel_rfl)) rfl ?_; exact ⟨_, xerr, u6_24, xbg⟩
  ·rw [if_neg c7] at H; have bM : decide (2000 < (l0.length : Int)) = false := decide_eq_false c7; have eG : decide (2000 < l0.length) = false := decide_eq_false (by omega); clear c7; (first | rw [bM] | (simp only [i64_w, i32_w]; rw [bM]) | skip); have H' := aM H; clear H; go_wp2; go_meet
   case rel => exact ⟨_, (0), (0), H', ⟨by first | omega | exact Nat.le_refl _⟩, ⟨xB⟩, ⟨xP⟩, ⟨xbg⟩⟩
 case rest =>
  clear gJ; try clear p2
  try clear c5
  try clear c7
  try clear bM
  try clear eG
  try clear c8
  try clear c9
  try clear cK cL cM
  try clear cT cU cV
  try clear cZ dA dB
  try clear cN cO cP
  try clear cW cX cY
  try clear dC dD dE
  obtain ⟨kq, cG, cH, HA, HJ1, aK, aJ, HB⟩ := hcut; cases kq with
  | zero => exact absurd HA.out (by simp [spec_HardOf.j0])
  | succ gX =>
   have H := HA.out; clear HA; simp only [spec_HardOf.j0] at H; have H' := aM H; clear H; go_wp2; go_loopg [5] gX (fun kq v5 w' => ∃ (aA : Int) (bB : Int) (bC : Int) (aF : Int) (aG : Int) (aC : List (S36)) (bU : Value), v5 = .int .i64 aA ∧ Aside0 (spec_HardOf.l0 kq l0 aA aF aG aC = some (r1, r2, r3, r4)) ∧ Aside0 (kq ≤ gX) ∧ Aside0 (Kd.R k36 36 w' w.heap.size (fun _ => True) bU aC) ∧ Aside0 (w'.heap[aQ]? = some (.cells #[.int .i64 bB, .int .i64 bC, (.slice none 0 0)] 28 (0, 0))) ∧ Aside0 (w'.heap[aL]? = some (.cells #[.int .i64 aF, .int .i64 aG, bU] 28 (0, 0))) ∧ Aside0 (Below w.heap.size w w'))
   case atStart => exact ⟨(0), (cG), (cH), (0), (0), (([] : List (S36))), (.slice none 0 0), u6_0, H', ⟨Nat.le_refl _⟩, ⟨u6_24⟩, ⟨xblk⟩, ⟨xblk⟩, ⟨xbg⟩⟩
   case round =>
    clear H'; try clear p2
    try clear c5
    try clear c7
    try clear bM
    try clear eG
    try clear c8
    try clear c9
    try clear cK cL cM
    try clear cT cU cV
    try clear cZ dA dB
    try clear cN cO cP
    try clear cW cX cY
    try clear dC dD dE
    try clear p2
    obtain ⟨aA, bB, bC, aF, aG, aC, bU, rfl, HA, HK2, aB, aK, aJ, HB⟩ := hrel; cases gk with
    | zero => exact absurd HA.out (by simp [spec_HardOf.l0])
    | succ k2 =>
     have H := HA.out; clear HA; simp only [spec_HardOf.l0] at H; have fB := aM H; clear H; go_upto_if 16 with (fail)
     go_cut [] (fun wc => ∃ (kq : Nat), Aside0 (spec_HardOf.j2 kq l0 aA aF aG aC = some (r1, r2, r3, r4)) ∧ Aside0 (kq ≤ k2) ∧ Aside0 (Kd.R k36 36 wc w.heap.size (fun _ => True) bU aC) ∧ Aside0 (wc.heap[aQ]? = some (.cells #[.int .i64 bB, .int .i64 bC, (.slice none 0 0)] 28 (0, 0))) ∧ Aside0 (wc.heap[aL]? = some (.cells #[.int .i64 aF, .int .i64 aG, bU] 28 (0, 0))) ∧ Aside0 (Below w.heap.size w wc))
     case first =>
      have H := fB.out; clear fB; by_cases dK : aA < (l0.length : Int)
      ·rw [if_pos dK] at H; have bV : decide (aA < (l0.length : Int)) = true := decide_eq_true dK; clear dK; (first | rw [bV] | (simp only [i64_w, i32_w]; rw [bV]) | skip); have H' := aM H; clear H; go_wp2; go_meet
       case rel => exact ⟨_, H', ⟨by have := HJ1.out; have := HK2.out; first | omega | exact Nat.le_refl _⟩, ⟨by (with_reducible repeat (first | apply Kd.R_alloc | apply Kd.R_drewN | apply Kd.R_drew)); exact aB.out⟩, ⟨xblk⟩, ⟨xblk⟩, ⟨xbg⟩⟩
      ·rw [if_neg dK] at H; have bV : decide (aA < (l0.length : Int)) = false := decide_eq_false dK; clear dK; (first | rw [bV] | (simp only [i64_w, i32_w]; rw [bV]) | skip); simp only [Option.some.injEq, Prod.mk.injEq] at H; obtain ⟨rfl, rfl, rfl, rfl⟩ := H; have gY := bG.out; have gZ := bE.out; obtain ⟨dL, dM, dN, dO, dP, dQ⟩ := xf3 (w := wr) aJ; obtain ⟨dR, dS, dU, dV, dW, dX⟩ := xf3 (w := wr) aK; obtain ⟨gK, gL, gM⟩ := Kd.R_slice aB.out; subst gM; go_wp2; refine bodyPost_ret (results_ct rfl _ _ aQ 28 #[.int .i64 aF, .int .i64 aG, .slice gK aC.length gL] (0, 0) _ rfl xP Try.underlying28 rfl (by kernel_rfl)) rfl ?_; exact ⟨_, xerr, xrm aB (fun _ _ => trivial), xbg⟩
     case rest =>
      clear fB; try clear c1
      try clear p2
      try clear c5
      try clear c7
      try clear bM
      try clear eG
      try clear c8
      try clear c9
      try clear dK
      try clear bV
      try clear eX
      try clear cK cL cM
      try clear dL dM dN
      try clear dR dS dU
      try clear cT cU cV
      try clear cZ dA dB
      try clear cN cO cP
      try clear dO dP dQ
      try clear dV dW dX
      try clear cW cX cY
      try clear dC dD dE
      try clear p2
      obtain ⟨kq, HA, HJ11, aB, aK, aJ, HB⟩ := hcut; cases kq with
      | zero => exact absurd HA.out (by simp [spec_HardOf.j2])
      | succ fC =>
       have H := HA.out; clear HA; simp only [spec_HardOf.j2] at H; by_cases fJ : 0 ≤ aA
       ·rw [if_pos fJ] at H; have fK : decide (0 ≤ aA) = true := decide_eq_true fJ; clear fJ; by_cases fL : aA < (l0.length : Int)
        ·rw [if_pos fL] at H; have fM : decide (aA < (l0.length : Int)) = true := decide_eq_true fL; clear fL; replace H := oB H; obtain ⟨⟨cQ, cR, cI, eB⟩, fN, H⟩ := H; (try dsimp only at H); have hJ := aM fN; clear fN; have fD := aM H; clear H
         obtain ⟨bK, bL, gN⟩ := Kd.R_slice aB.out; subst gN; try go_wp2
         replace aB := rD aB; replace aK := bD aK; replace aJ := bD aJ; replace HB := lD HB; have p165 : 0 ≤ (aA : Int) := oda; have q165 : aA < (l0.length : Int) := oda; obtain ⟨aE, gO, bW, bX, bY, bZ, cA, cB, cC, cD, cE, cF⟩ := at_T38 fF.out aA p165 q165; have bA := cF; have aZ := cE; have aY := cD; have aX := cC; have aW := cB; have aV := cA; have aU := bZ; have aT := bY; have aS := bX; have aR := bW; cases gO
         replace bW := xce HB bW; replace bX := xce HB bX; replace bY := xce HB bY; replace bZ := xce HB bZ; replace cA := xce HB cA; replace cB := xce HB cB; replace cC := xce HB cC; replace cD := xce HB cD; replace cE := xce HB cE; replace cF := xce HB cF; replace p165 := eq_true p165; replace q165 := eq_true q165; refine st_ 12 (fun w' => w'.cell? ⟨aL, 0, none⟩ = some (.int .i64 aF) ∧ w'.cell? ⟨aL, 1, none⟩ = some (.int .i64 aG) ∧ w'.cell? ⟨aL, 2, none⟩ = some (.slice bK aC.length bL) ∧ w'.cell? (aE.add ((aA).toNat * 10)) = some (.int .i64 ((rd_T38 l0 aA).f0)) ∧ w'.cell? ⟨(aE.add ((aA).toNat * 10)).block, (aE.add ((aA).toNat * 10)).off + 1, none⟩ = some (.int .i64 ((rd_T38 l0 aA).f1)) ∧ w'.cell? ⟨(aE.add ((aA).toNat * 10)).block, (aE.add ((aA).toNat * 10)).off + 2, none⟩ = some (.int .i64 ((rd_T38 l0 aA).f2)) ∧ w'.cell? ⟨(aE.add ((aA).toNat * 10)).block, (aE.add ((aA).toNat * 10)).off + 3, none⟩ = some (.int .i64 ((rd_T38 l0 aA).f3)) ∧ w'.cell? ⟨(aE.add ((aA).toNat * 10)).block, (aE.add ((aA).toNat * 10)).off + 4, none⟩ = some (.int .i64 ((rd_T38 l0 aA).f4.f0)) ∧ w'.cell? ⟨(aE.add ((aA).toNat * 10)).block, (aE.add ((aA).toNat * 10)).off + 5, none⟩ = some (.int .i64 ((rd_T38 l0 aA).f4.f1.f0)) ∧ w'.cell? ⟨(aE.add ((aA).toNat * 10)).block, (aE.add ((aA).toNat * 10)).off + 6, none⟩ = some (.int .i64 ((rd_T38 l0 aA).f4.f1.f1)) ∧ w'.cell? ⟨(aE.add ((aA).toNat * 10)).block, (aE.add ((aA).toNat * 10)).off + 7, none⟩ = some (.int .i64 ((rd_T38 l0 aA).f4.f1.f2)) ∧ w'.cell? ⟨(aE.add ((aA).toNat * 10)).block, (aE.add ((aA).toNat * 10)).off + 8, none⟩ = some (.int .i64 ((rd_T38 l0 aA).f4.f1.f3)) ∧ w'.cell? ⟨(aE.add ((aA).toNat * 10)).block, (aE.add ((aA).toNat * 10)).off + 9, none⟩ = some (.string ((rd_T38 l0 aA).f4.f1.f4))) spec_HardOf.tab7 spec_HardOf.bits7 ⟨xc aJ 0 rfl, xc aJ 1 rfl, xc aJ 2 rfl, (xce HB aR), (xce HB aS), (xce HB aT), (xce HB aU), (xce HB aV), (xce HB aW), (xce HB aX), (xce HB aY), (xce HB aZ), (xce HB bA)⟩ (fun hHeld HT_ HW_ => ?_); generalize wc.drew = jD at aB aK aJ HB bW bX bY bZ cA cB cC cD cE cF hHeld ⊢; refine pv_ 1 21 (h := ?_); refine pv_ 2 22 (h := ?_); refine pv_ 3 23 (h := ?_); refine tk_ 0 20 (h := ?_); refine tk_ 4 24 (h := ?_)
         refine join_ (σ := Value × Nat) 2 #[true, true, true, true, true, true, true, true, true, true, false, false] (fun s_ => [(25, .tuple #[.agg #[.int .i64 cQ, .int .i64 cR, s_.1], .bool eB]), (6, .pointer (some ⟨s_.2, 0, none⟩)), (19, .tuple #[.agg #[.int .i64 cQ, .int .i64 cR, s_.1], .bool eB]), (26, .agg #[.int .i64 cQ, .int .i64 cR, s_.1]), (27, .bool eB)]) (fun s_ w' => (w'.cell? ⟨aL, 0, none⟩ = some (.int .i64 aF) ∧ w'.cell? ⟨aL, 1, none⟩ = some (.int .i64 aG) ∧ w'.cell? ⟨aL, 2, none⟩ = some (.slice bK aC.length bL) ∧ w'.cell? (aE.add ((aA).toNat * 10)) = some (.int .i64 ((rd_T38 l0 aA).f0)) ∧ w'.cell? ⟨(aE.add ((aA).toNat * 10)).block, (aE.add ((aA).toNat * 10)).off + 1, none⟩ = some (.int .i64 ((rd_T38 l0 aA).f1)) ∧ w'.cell? ⟨(aE.add ((aA).toNat * 10)).block, (aE.add ((aA).toNat * 10)).off + 2, none⟩ = some (.int .i64 ((rd_T38 l0 aA).f2)) ∧ w'.cell? ⟨(aE.add ((aA).toNat * 10)).block, (aE.add ((aA).toNat * 10)).off + 3, none⟩ = some (.int .i64 ((rd_T38 l0 aA).f3)) ∧ w'.cell? ⟨(aE.add ((aA).toNat * 10)).block, (aE.add ((aA).toNat * 10)).off + 4, none⟩ = some (.int .i64 ((rd_T38 l0 aA).f4.f0)) ∧ w'.cell? ⟨(aE.add ((aA).toNat * 10)).block, (aE.add ((aA).toNat * 10)).off + 5, none⟩ = some (.int .i64 ((rd_T38 l0 aA).f4.f1.f0)) ∧ w'.cell? ⟨(aE.add ((aA).toNat * 10)).block, (aE.add ((aA).toNat * 10)).off + 6, none⟩ = some (.int .i64 ((rd_T38 l0 aA).f4.f1.f1)) ∧ w'.cell? ⟨(aE.add ((aA).toNat * 10)).block, (aE.add ((aA).toNat * 10)).off + 7, none⟩ = some (.int .i64 ((rd_T38 l0 aA).f4.f1.f2)) ∧ w'.cell? ⟨(aE.add ((aA).toNat * 10)).block, (aE.add ((aA).toNat * 10)).off + 8, none⟩ = some (.int .i64 ((rd_T38 l0 aA).f4.f1.f3)) ∧ w'.cell? ⟨(aE.add ((aA).toNat * 10)).block, (aE.add ((aA).toNat * 10)).off + 9, none⟩ = some (.string ((rd_T38 l0 aA).f4.f1.f4))) ∧ (Kd.R k36 36 w' w.heap.size (fun k_ => some k_ ≠ (.slice bK aC.length bL : Value).ownBlock) s_.1 cI) ∧ (Kd.R k36 36 w' w.heap.size (fun k_ => some k_ ≠ (s_.1 : Value).ownBlock) (.slice bK aC.length bL) aC) ∧ (w'.heap[aQ]? = some (.cells #[.int .i64 bB, .int .i64 bC, .slice none 0 0] 28 (0, 0))) ∧ (w'.heap[aL]? = some (.cells #[.int .i64 aF, .int .i64 aG, .slice bK aC.length bL] 28 (0, 0))) ∧ (w'.heap[s_.2]? = some (.cells #[.int .i64 0, .int .i64 0, .slice none 0 0] 28 (0, 0))) ∧ (w.heap.size ≤ s_.2) ∧ (w.heap.size ≤ s_.2) ∧ (aQ ≠ s_.2) ∧ (s_.2 ≠ aQ) ∧ (aL ≠ s_.2) ∧ (s_.2 ≠ aL) ∧ (Below w.heap.size w w')) ?_ ?_; rotate_left
         ·intro hCont; refine two_ (i := 5) (j := 9) (Ni := some 25) (Nj := some 6) #[true, true, true, true, true, true, false, false, false, false, false, false] #[true, true, true, true, true, false, false, false, false, true, false, false] rfl rfl rfl rfl (two_of HT_.out (by kernel_rfl)) (by decide) (by decide) (fun K hK => ?_) (fun K hK => ?_)
          ·skip
           refine goesY Try.func33 #[.agg #[.int .i64 aF, .int .i64 aG, .slice bK aC.length bL], .agg #[.int .i64 ((rd_T38 l0 aA).f0), .int .i64 ((rd_T38 l0 aA).f1), .int .i64 ((rd_T38 l0 aA).f2), .int .i64 ((rd_T38 l0 aA).f3), .int .i64 ((rd_T38 l0 aA).f4.f0), .int .i64 ((rd_T38 l0 aA).f4.f1.f0), .int .i64 ((rd_T38 l0 aA).f4.f1.f1), .int .i64 ((rd_T38 l0 aA).f4.f1.f2), .int .i64 ((rd_T38 l0 aA).f4.f1.f3), .string ((rd_T38 l0 aA).f4.f1.f4)]] ?_; with_reducible refine (spec_HardApply.calls fC aF aG _ _ aC ((rd_T38 l0 aA).f0) ((rd_T38 l0 aA).f1) ((rd_T38 l0 aA).f2) ((rd_T38 l0 aA).f3) ((rd_T38 l0 aA).f4.f0) ((rd_T38 l0 aA).f4.f1.f0) ((rd_T38 l0 aA).f4.f1.f1) ((rd_T38 l0 aA).f4.f1.f2) ((rd_T38 l0 aA).f4.f1.f3) ((rd_T38 l0 aA).f4.f1.f4) cQ cR cI eB _ ?side1 ?side2 hJ.out).mono ?_
           (case side1 => exact xC aB); (case side2 => exact (Kd.R_reads' aB.out).2.1); rintro e iW ⟨eC, rfl, fE, hb⟩; refine ⟨_, rfl, ?_⟩; have bQ := aM (Kd.R_lower (Kd.R_new' fE (Kd.R_lt (xr aB))) (below_size xbg)); replace aB := aM (Kd.R_elder' (xr aB) (Kd.R_base fE) hb); replace aK := xbb aK hb; replace aJ := xbb aJ hb; replace HB := xbs hb; (try clear hb fE); refine hK.out _ _ ⟨xc aJ 0 rfl, xc aJ 1 rfl, xc aJ 2 rfl, (xce HB aR), (xce HB aS), (xce HB aT), (xce HB aU), (xce HB aV), (xce HB aW), (xce HB aX), (xce HB aY), (xce HB aZ), (xce HB bA)⟩ (fun hHeld => ?_); clear hK K; refine nm_ (N := 25) ?_; refine pv_ 6 19 (h := ?_); refine pv_ 7 26 (h := ?_); refine pv_ 8 27 (h := ?_); refine on_ 9 6 (h := fun K hK => ?_); refine box_step ?hg (N := 6) ?hd (cs := #[.int .i64 0, .int .i64 0, .slice none 0 0]) (t := 28) ?hr ?_; (case hd => rfl); (case hg => rfl); (case hr => exact u6_12); intro aD hg iX hbox hb; replace aB := xrb aB hb; replace bQ := xrb bQ hb; have aH := aM (xge hg); have dY := aM (xge hg); replace HB := xbs hb; have aN := nblt aK hg; have aO := nbgt aK hg; have aI := nblt aJ hg; have aP := nbgt aJ hg; replace aK := xbb aK hb; replace aJ := xbb aJ hb; have bH := aM (hbox); clear hb hbox hg; refine hK.out _ _ ⟨xc aJ 0 rfl, xc aJ 1 rfl, xc aJ 2 rfl, (xce HB aR), (xce HB aS), (xce HB aT), (xce HB aU), (xce HB aV), (xce HB aW), (xce HB aX), (xce HB aY), (xce HB aZ), (xce HB bA)⟩ (fun hHeld => ?_); clear hK K; refine nm_ (N := 6) ?_; exact norm_ u6_25 (hCont (eC, aD) _ ⟨hHeld, u6_26, u6_27, xblk, xblk, xblk, aH.out, dY.out, aN.out, aO.out, aI.out, aP.out, xbg⟩)
          ·skip
           refine box_step ?hg (N := 6) ?hd (cs := #[.int .i64 0, .int .i64 0, .slice none 0 0]) (t := 28) ?hr ?_; (case hd => rfl); (case hg => rfl); (case hr => exact u6_12); intro aD hg iW hbox hb; replace aB := xrb aB hb; have aH := aM (xge hg); have dY := aM (xge hg); replace HB := xbs hb; have aN := nblt aK hg; have aO := nbgt aK hg; have aI := nblt aJ hg; have aP := nbgt aJ hg; replace aK := xbb aK hb; replace aJ := xbb aJ hb; have bH := aM (hbox); clear hb hbox hg; refine hK.out _ _ ⟨xc aJ 0 rfl, xc aJ 1 rfl, xc aJ 2 rfl, (xce HB aR), (xce HB aS), (xce HB aT), (xce HB aU), (xce HB aV), (xce HB aW), (xce HB aX), (xce HB aY), (xce HB aZ), (xce HB bA)⟩ (fun hHeld => ?_); clear hK K; refine nm_ (N := 6) ?_; refine on_ 5 25 (h := fun K hK => ?_); refine goesY Try.func33 #[.agg #[.int .i64 aF, .int .i64 aG, .slice bK aC.length bL], .agg #[.int .i64 ((rd_T38 l0 aA).f0), .int .i64 ((rd_T38 l0 aA).f1), .int .i64 ((rd_T38 l0 aA).f2), .int .i64 ((rd_T38 l0 aA).f3), .int .i64 ((rd_T38 l0 aA).f4.f0), .int .i64 ((rd_T38 l0 aA).f4.f1.f0), .int .i64 ((rd_T38 l0 aA).f4.f1.f1), .int .i64 ((rd_T38 l0 aA).f4.f1.f2), .int .i64 ((rd_T38 l0 aA).f4.f1.f3), .string ((rd_T38 l0 aA).f4.f1.f4)]] ?_; with_reducible refine (spec_HardApply.calls fC aF aG _ _ aC ((rd_T38 l0 aA).f0) ((rd_T38 l0 aA).f1) ((rd_T38 l0 aA).f2) ((rd_T38 l0 aA).f3) ((rd_T38 l0 aA).f4.f0) ((rd_T38 l0 aA).f4.f1.f0) ((rd_T38 l0 aA).f4.f1.f1) ((rd_T38 l0 aA).f4.f1.f2) ((rd_T38 l0 aA).f4.f1.f3) ((rd_T38 l0 aA).f4.f1.f4) cQ cR cI eB _ ?side1 ?side2 hJ.out).mono ?_
           (case side1 => exact xC aB); (case side2 => exact (Kd.R_reads' aB.out).2.1); rintro e iX ⟨eC, rfl, fE, hb⟩; refine ⟨_, rfl, ?_⟩; have bQ := aM (Kd.R_lower (Kd.R_new' fE (Kd.R_lt (xr aB))) (below_size xbg)); replace aB := aM (Kd.R_elder' (xr aB) (Kd.R_base fE) hb); replace aK := xbb aK hb; replace aJ := xbb aJ hb; replace bH := xbb bH hb; replace HB := xbs hb; (try clear hb fE); refine hK.out _ _ ⟨xc aJ 0 rfl, xc aJ 1 rfl, xc aJ 2 rfl, (xce HB aR), (xce HB aS), (xce HB aT), (xce HB aU), (xce HB aV), (xce HB aW), (xce HB aX), (xce HB aY), (xce HB aZ), (xce HB bA)⟩ (fun hHeld => ?_); clear hK K; refine nm_ (N := 25) ?_; refine pv_ 6 19 (h := ?_); refine pv_ 7 26 (h := ?_); refine pv_ 8 27 (h := ?_); exact norm_ u6_25 (hCont (eC, aD) _ ⟨hHeld, u6_26, u6_27, xblk, xblk, xblk, aH.out, dY.out, aN.out, aO.out, aI.out, aP.out, xbg⟩)
         rintro ⟨eC, aD⟩ cJ ⟨hS_, h0_, h1_, h2_, h3_, h4_, h5_, h6_, h7_, h8_, h9_, h10_, h11_⟩; have bQ : Aside0 (Kd.R k36 36 cJ w.heap.size (fun k_ => some k_ ≠ (.slice bK aC.length bL : Value).ownBlock) eC cI) := ⟨h0_⟩; replace aB : Aside0 (Kd.R k36 36 cJ w.heap.size (fun k_ => some k_ ≠ (eC : Value).ownBlock) (.slice bK aC.length bL) aC) := ⟨h1_⟩; replace aK : Aside0 (cJ.heap[aQ]? = some (.cells #[.int .i64 bB, .int .i64 bC, .slice none 0 0] 28 (0, 0))) := ⟨h2_⟩; replace aJ : Aside0 (cJ.heap[aL]? = some (.cells #[.int .i64 aF, .int .i64 aG, .slice bK aC.length bL] 28 (0, 0))) := ⟨h3_⟩; have bH : Aside0 (cJ.heap[aD]? = some (.cells #[.int .i64 0, .int .i64 0, .slice none 0 0] 28 (0, 0))) := ⟨h4_⟩; have aH : Aside0 (w.heap.size ≤ aD) := ⟨h5_⟩; have dY : Aside0 (w.heap.size ≤ aD) := ⟨h6_⟩; have aN : Aside0 (aQ ≠ aD) := ⟨h7_⟩; have aO : Aside0 (aD ≠ aQ) := ⟨h8_⟩; have aI : Aside0 (aL ≠ aD) := ⟨h9_⟩; have aP : Aside0 (aD ≠ aL) := ⟨h10_⟩; replace HB : Aside0 (Below w.heap.size w cJ) := ⟨h11_⟩; clear h0_ h1_ h2_ h3_ h4_ h5_ h6_ h7_ h8_ h9_ h10_ h11_; have hHeld : cJ.cell? ⟨aL, 0, none⟩ = some (.int .i64 aF) ∧ cJ.cell? ⟨aL, 1, none⟩ = some (.int .i64 aG) ∧ cJ.cell? ⟨aL, 2, none⟩ = some (.slice bK aC.length bL) ∧ cJ.cell? (aE.add ((aA).toNat * 10)) = some (.int .i64 ((rd_T38 l0 aA).f0)) ∧ cJ.cell? ⟨(aE.add ((aA).toNat * 10)).block, (aE.add ((aA).toNat * 10)).off + 1, none⟩ = some (.int .i64 ((rd_T38 l0 aA).f1)) ∧ cJ.cell? ⟨(aE.add ((aA).toNat * 10)).block, (aE.add ((aA).toNat * 10)).off + 2, none⟩ = some (.int .i64 ((rd_T38 l0 aA).f2)) ∧ cJ.cell? ⟨(aE.add ((aA).toNat * 10)).block, (aE.add ((aA).toNat * 10)).off + 3, none⟩ = some (.int .i64 ((rd_T38 l0 aA).f3)) ∧ cJ.cell? ⟨(aE.add ((aA).toNat * 10)).block, (aE.add ((aA).toNat * 10)).off + 4, none⟩ = some (.int .i64 ((rd_T38 l0 aA).f4.f0)) ∧ cJ.cell? ⟨(aE.add ((aA).toNat * 10)).block, (aE.add ((aA).toNat * 10)).off + 5, none⟩ = some (.int .i64 ((rd_T38 l0 aA).f4.f1.f0)) ∧ cJ.cell? ⟨(aE.add ((aA).toNat * 10)).block, (aE.add ((aA).toNat * 10)).off + 6, none⟩ = some (.int .i64 ((rd_T38 l0 aA).f4.f1.f1)) ∧ cJ.cell? ⟨(aE.add ((aA).toNat * 10)).block, (aE.add ((aA).toNat * 10)).off + 7, none⟩ = some (.int .i64 ((rd_T38 l0 aA).f4.f1.f2)) ∧ cJ.cell? ⟨(aE.add ((aA).toNat * 10)).block, (aE.add ((aA).toNat * 10)).off + 8, none⟩ = some (.int .i64 ((rd_T38 l0 aA).f4.f1.f3)) ∧ cJ.cell? ⟨(aE.add ((aA).toNat * 10)).block, (aE.add ((aA).toNat * 10)).off + 9, none⟩ = some (.string ((rd_T38 l0 aA).f4.f1.f4)) := hS_; obtain ⟨eD, eE, fO⟩ := Kd.R_slice bQ.out; (first | subst fO | (injection fO with f1_ f2_ f3_; have f4_ := f1_.symm; have f5_ := f3_.symm; clear f1_ f2_ f3_; subst f4_; subst f5_)); refine norm_ (a' := ?_) ?_ ?_; rotate_left
         ·simp only [putAll, Act.put, List.setIfInBounds_toArray, List.set_cons_zero, List.set_cons_succ]; rfl
         refine one_ (i := 10) (N := none) #[true, true, true, true, true, true, true, true, true, true, true, false] rfl rfl (one_of HT_.out (by kernel_rfl)) (by decide) (fun K hK => ?_); have hs27 : cJ.cell? ⟨aD, 0, none⟩ = some (.int .i64 0) := xc bH 0 rfl; have hfs27 := blk_frozen bH.out 0; have hns27_0 := aN.out; have hns27_1 := aI.out; have hms27_0 := aO.out; have hms27_1 := aP.out; have hs28 : cJ.cell? ⟨aD, 1, none⟩ = some (.int .i64 0) := xc bH 1 rfl; have hfs28 := blk_frozen bH.out 1; have hns28_0 := aN.out; have hns28_1 := aI.out; have hms28_0 := aO.out; have hms28_1 := aP.out; have hs30 : cJ.cell? ⟨aD, 2, none⟩ = some (.slice none 0 0) := xc bH 2 rfl; have hfs30 := blk_frozen bH.out 2; have hns30_0 := aN.out; have hns30_1 := aI.out; have hms30_0 := aO.out; have hms30_1 := aP.out; refine skip_ (w1 := ?_) (by rfl) rfl ?_ ?_; rotate_left
         ·go_simp
          rfl
         refine hK.out _ _ ⟨((cell_far (p := ⟨aD, _, none⟩) aI.out _).trans (((cell_far (p := ⟨aD, _, none⟩) aI.out _).trans (((cell_far (p := ⟨aD, _, none⟩) aI.out _).trans (hHeld.1)))))), ((cell_far (p := ⟨aD, _, none⟩) aI.out _).trans (((cell_far (p := ⟨aD, _, none⟩) aI.out _).trans (((cell_far (p := ⟨aD, _, none⟩) aI.out _).trans (hHeld.2.1)))))), ((cell_far (p := ⟨aD, _, none⟩) aI.out _).trans (((cell_far (p := ⟨aD, _, none⟩) aI.out _).trans (((cell_far (p := ⟨aD, _, none⟩) aI.out _).trans (hHeld.2.2.1)))))), ((cell_far (p := ⟨aD, _, none⟩) u6_14 _).trans (((cell_far (p := ⟨aD, _, none⟩) u6_14 _).trans (((cell_far (p := ⟨aD, _, none⟩) u6_14 _).trans (hHeld.2.2.2.1)))))), ((cell_far (p := ⟨aD, _, none⟩) u6_15 _).trans (((cell_far (p := ⟨aD, _, none⟩) u6_15 _).trans (((cell_far (p := ⟨aD, _, none⟩) u6_15 _).trans (hHeld.2.2.2.2.1)))))), ((cell_far (p := ⟨aD, _, none⟩) u6_16 _).trans (((cell_far (p := ⟨aD, _, none⟩) u6_16 _).trans (((cell_far (p := ⟨aD, _, none⟩) u6_16 _).trans (hHeld.2.2.2.2.2.1)))))), ((cell_far (p := ⟨aD, _, none⟩) u6_17 _).trans (((cell_far (p := ⟨aD, _, none⟩) u6_17 _).trans (((cell_far (p := ⟨aD, _, none⟩) u6_17 _).trans (hHeld.2.2.2.2.2.2.1)))))), ((cell_far (p := ⟨aD, _, none⟩) u6_18 _).trans (((cell_far (p := ⟨aD, _, none⟩) u6_18 _).trans (((cell_far (p := ⟨aD, _, none⟩) u6_18 _).trans (hHeld.2.2.2.2.2.2.2.1)))))), ((cell_far (p := ⟨aD, _, none⟩) u6_19 _).trans (((cell_far (p := ⟨aD, _, none⟩) u6_19 _).trans (((cell_far (p := ⟨aD, _, none⟩) u6_19 _).trans (hHeld.2.2.2.2.2.2.2.2.1)))))), ((cell_far (p := ⟨aD, _, none⟩) u6_20 _).trans (((cell_far (p := ⟨aD, _, none⟩) u6_20 _).trans (((cell_far (p := ⟨aD, _, none⟩) u6_20 _).trans (hHeld.2.2.2.2.2.2.2.2.2.1)))))), ((cell_far (p := ⟨aD, _, none⟩) u6_21 _).trans (((cell_far (p := ⟨aD, _, none⟩) u6_21 _).trans (((cell_far (p := ⟨aD, _, none⟩) u6_21 _).trans (hHeld.2.2.2.2.2.2.2.2.2.2.1)))))), ((cell_far (p := ⟨aD, _, none⟩) u6_22 _).trans (((cell_far (p := ⟨aD, _, none⟩) u6_22 _).trans (((cell_far (p := ⟨aD, _, none⟩) u6_22 _).trans (hHeld.2.2.2.2.2.2.2.2.2.2.2.1)))))), ((cell_far (p := ⟨aD, _, none⟩) u6_23 _).trans (((cell_far (p := ⟨aD, _, none⟩) u6_23 _).trans (((cell_far (p := ⟨aD, _, none⟩) u6_23 _).trans (hHeld.2.2.2.2.2.2.2.2.2.2.2.2))))))⟩ (fun hHeld => ?_); clear hK K; refine pv_ 11 7 (h := ?_); refine dn_ ?_; go_upto_if 29 with (fail)
         go_cut [] (fun wc => ∃ (kq : Nat) (bO : Int) (bP : Int), Aside0 (spec_HardOf.j3 kq l0 aA cQ cR cI = some (r1, r2, r3, r4)) ∧ Aside0 (kq ≤ fC) ∧ Aside0 (Kd.R k36 36 wc w.heap.size (fun k_ => some k_ ≠ ((.slice eD cI.length eE) : Value).ownBlock) (.slice bK aC.length bL) aC) ∧ Aside0 (Kd.R k36 36 wc w.heap.size (fun k_ => some k_ ≠ ((.slice bK aC.length bL) : Value).ownBlock) (.slice eD cI.length eE) cI) ∧ Aside0 (wc.heap[aQ]? = some (.cells #[.int .i64 bO, .int .i64 bP, (.slice none 0 0)] 28 (0, 0))) ∧ Aside0 (wc.heap[aL]? = some (.cells #[.int .i64 aF, .int .i64 aG, (.slice bK aC.length bL)] 28 (0, 0))) ∧ Aside0 (wc.heap[aD]? = some (.cells #[.int .i64 cQ, .int .i64 cR, (.slice eD cI.length eE)] 28 (0, 0))) ∧ Aside0 (Below w.heap.size w wc))
         case first =>
          have H := fD.out; clear fD; by_cases fP : eB = true
          ·subst fP; replace H := iT H; have H' := aM H; clear H; go_wp2; go_meet
           case rel => exact ⟨_, (bB), (bC), H', ⟨by have := HJ1.out; have := HK2.out; have := HJ11.out; first | omega | exact Nat.le_refl _⟩, ⟨xrs aB⟩, ⟨xrs bQ⟩, ⟨xB⟩, ⟨xB⟩, ⟨xP⟩, ⟨xbg⟩⟩
          ·replace fP := Bool.eq_false_iff.mpr fP; subst fP; replace H := iN H; simp only [Option.some.injEq, Prod.mk.injEq] at H; obtain ⟨rfl, rfl, rfl, rfl⟩ := H; have hU := bG.out; have hX := bE.out; have hY := aI.out; have hZ := aP.out; obtain ⟨eL, eM, eN, eO, eP, eQ⟩ := xf3 (w := cJ) aJ; have iA := aN.out; have iB := aO.out; obtain ⟨eR, eS, eT, eU, eV, eW⟩ := xf3 (w := cJ) aK; go_wp2_with (first | ((with_reducible refine gate_store (t := 28) (p := 2) rfl ?_); refine store_event (t := 28) (p := 2) (v := ?vo_w37) (w1 := ((((((cJ.setCell ⟨aD, 0, none⟩ (.int .i64 cQ)).setCell ⟨aD, 1, none⟩ (.int .i64 cR)).setCell ⟨aD, 2, none⟩ (.slice eD cI.length eE)).setCell ⟨aQ, 0, none⟩ (.int .i64 aF)).setCell ⟨aQ, 1, none⟩ (.int .i64 aG)).setCell ⟨aQ, 2, none⟩ (.slice bK aC.length bL))) ?hg ?ho ?hn ?hr ?_; (case ho | hg | hn => rfl); (case hr => exact u6_12); intro iC hw; replace aB := xws hw aB; replace bQ := xws hw bQ; replace aK : Aside0 (iC.heap[aQ]? = some (.cells #[.int .i64 aF, .int .i64 aG, .slice bK aC.length bL] 28 (0, 0))) := xwp hw; replace aJ := xwc hw aJ; replace bH : Aside0 (iC.heap[aD]? = some (.cells #[.int .i64 cQ, .int .i64 cR, .slice eD cI.length eE] 28 (0, 0))) := xwp hw; replace HB := xbw hw HB; clear hw))
           refine bodyPost_ret (results_ct rfl _ _ aQ 28 #[.int .i64 aF, .int .i64 aG, .slice bK aC.length bL] (0, 0) _ rfl xblk Try.underlying28 rfl (by kernel_rfl)) rfl ?_; exact ⟨_, xerr, by (with_reducible repeat (first | apply Kd.R_alloc | apply Kd.R_drewN | apply Kd.R_drew)); exact Kd.R_mono aB.out (fun _ hk => trivial), xbg⟩
         case rest =>
          clear fD; try clear c1
          try clear p1
          try clear q1
          try clear jE
          try clear p2
          try clear c3
          try clear c5
          try clear c7
          try clear bM
          try clear eG
          try clear c8
          try clear c9
          try clear dK
          try clear bV
          try clear eX
          try clear p16
          try clear q16
          try clear iY
          try clear fJ
          try clear fK
          try clear fL
          try clear fM
          try clear fP
          try clear jF
          try clear jG
          try clear jH
          try clear cK cL cM
          try clear dL dM dN
          try clear dR dS dU
          try clear eL eM eN
          try clear eR eS eT
          try clear cT cU cV
          try clear cZ dA dB
          try clear cN cO cP
          try clear dO dP dQ
          try clear dV dW dX
          try clear eO eP eQ
          try clear eU eV eW
          try clear cW cX cY
          try clear dC dD dE
          try clear bW
          try clear bX
          try clear bY
          try clear bZ
          try clear cA
          try clear cB
          try clear cC
          try clear cD
          try clear cE
          try clear cF
          try clear p165
          try clear p2
          try clear q165
          obtain ⟨kq, bO, bP, HA, HJ20, aB, eF, aK, aJ, bH, HB⟩ := hcut; cases kq with
          | zero => exact absurd HA.out (by simp [spec_HardOf.j3])
          | succ gP =>
           have H := HA.out; clear HA; simp only [spec_HardOf.j3] at H; have H' := aM H; clear H; have iD := aO.out; have iE := aN.out; have iF := aP.out; have iG := aI.out; obtain ⟨fT, fU, fV, fW, fX, fY⟩ := xf3 (w := wc) bH; have iH := bG.out; have iI := bE.out; obtain ⟨fZ, gA, gB, gE, gF, gG⟩ := xf3 (w := wc) aJ; go_wp2; go_roundg gP
           case measure => have := HJ1.out; have := HK2.out; have := HJ11.out; have := HJ20.out; omega
           case rel => exact ⟨(wrap64 (aA + 1)), (bO), (bP), (cQ), (cR), (cI), (.slice eD cI.length eE), u6_0, H', ⟨by have := HJ1.out; have := HK2.out; have := HJ11.out; have := HJ20.out; omega⟩, ⟨xrm eF (fun _ _ => trivial)⟩, ⟨xB⟩, ⟨xP⟩, ⟨xbg⟩⟩
        ·rw [if_neg fL] at H; exact absurd H (by simp)
       ·rw [if_neg fJ] at H; exact absurd H (by simp)

/-! ### spec_GetNum: function 52 -/
mutual
def spec_GetNum.j0 : Nat → List Int → Int → Bool → Option (Int × Int × Bool)
 | 0, _, _, _ => none
 | k + 1, x0, x1, iZ => if iZ = true then (some (0, 0, false)) else (spec_GetNum.l0 k x0 x1 0 1 0)
def spec_GetNum.l0 : Nat → List Int → Int → Int → Int → Int → Option (Int × Int × Bool)
 | 0, _, _, _, _, _ => none
 | k + 1, x0, x1, x7, x8, x9 => if x9 < 9 then (spec_GetNum.j2 k x0 x1 x7 x8 x9 (decide ((wrap64 (x1 + x9)) < (x0.length : Int)))) else (spec_GetNum.j2 k x0 x1 x7 x8 x9 false)
def spec_GetNum.j2 : Nat → List Int → Int → Int → Int → Int → Bool → Option (Int × Int × Bool)
 | 0, _, _, _, _, _, _ => none
 | k + 1, x0, x1, x7, x8, x9, jA => if jA = true then (if 0 ≤ (wrap64 (x1 + x9)) then (if (wrap64 (x1 + x9)) < (x0.length : Int) then (if (wrap64 (rd x0 (wrap64 (x1 + x9)))) < 128 then (if (wrap64 (rd x0 (wrap64 (x1 + x9)))) = 0 then (if x9 > 0 then (some (0, 0, false)) else (some (wrap64 (x7 + (wrap64 ((Int.tmod (wrap64 (rd x0 (wrap64 (x1 + x9)))) 128) * x8))), wrap64 ((wrap64 (x1 + x9)) + 1), true))) else (some (wrap64 (x7 + (wrap64 ((Int.tmod (wrap64 (rd x0 (wrap64 (x1 + x9)))) 128) * x8))), wrap64 ((wrap64 (x1 + x9)) + 1), true))) else (spec_GetNum.l0 k x0 x1 (wrap64 (x7 + (wrap64 ((Int.tmod (wrap64 (rd x0 (wrap64 (x1 + x9)))) 128) * x8)))) (wrap64 (x8 * 128)) (wrap64 (x9 + 1)))) else (none)) else (none)) else (some (0, 0, false))
end
def spec_GetNum.f (k : Nat) (l0 : List Int) (a1 : Int) : Option (Int × Int × Bool) := if a1 < 0 then (spec_GetNum.j0 k l0 a1 true) else (spec_GetNum.j0 k l0 a1 (decide (a1 ≥ (l0.length : Int))))
theorem u6_mq1 {p : Prop} (h : p := by repeat' first | (with_reducible first | exact eY _ _ _ | exact eZ _ _ _ _ _ | exact fA _ _ _ _ _ _ | exact LeO.refl _ | exact LeO.none _ | refine LeO.ite ?_ ?_ | refine LeO.bind ?_ (fun _ => ?_)) | exact eY _ _ _ | exact eZ _ _ _ _ _ | exact fA _ _ _ _ _ _ | exact LeO.none _ | refine LeO.ite ?_ ?_ | refine LeO.bind ?_ (fun _ => ?_)) : p := h
set_option maxRecDepth 100000 in
theorem spec_GetNum.mono_l : ∀ k, (∀ y0 y1 y2, LeO (spec_GetNum.j0 k y0 y1 y2) (spec_GetNum.j0 (k + 1) y0 y1 y2)) ∧ (∀ y0 y1 y2 y3 y4, LeO (spec_GetNum.l0 k y0 y1 y2 y3 y4) (spec_GetNum.l0 (k + 1) y0 y1 y2 y3 y4)) ∧ (∀ y0 y1 y2 y3 y4 y5, LeO (spec_GetNum.j2 k y0 y1 y2 y3 y4 y5) (spec_GetNum.j2 (k + 1) y0 y1 y2 y3 y4 y5))
 | 0 => ⟨fun _ _ _ r h => by simp [spec_GetNum.j0] at h, fun _ _ _ _ _ r h => by simp [spec_GetNum.l0] at h, fun _ _ _ _ _ _ r h => by simp [spec_GetNum.j2] at h⟩
 | k + 1 => by
  obtain ⟨eY, eZ, fA⟩ := spec_GetNum.mono_l k; refine ⟨?_, ?_, ?_⟩
  ·intro y0 y1 y2; unfold spec_GetNum.j0; exact u6_mq1
  ·intro y0 y1 y2 y3 y4; unfold spec_GetNum.l0; exact u6_mq1
  ·intro y0 y1 y2 y3 y4 y5; unfold spec_GetNum.j2; exact u6_mq1
theorem spec_GetNum.mono : ∀ a0 a1 k, LeO (spec_GetNum.f k a0 a1) (spec_GetNum.f (k + 1) a0 a1) := by
 intro a0 a1 k
 obtain ⟨eY, eZ, fA⟩ := spec_GetNum.mono_l k
 unfold spec_GetNum.f
 exact u6_mq1
set_option maxHeartbeats 8000000 in
set_option maxRecDepth 100000 in
theorem spec_GetNum.calls (k : Nat) (A0 : Option Addr) (c0 : Nat) (l0 : List Int) (a1 : Int) (r1 : Int) (r2 : Int) (r3 : Bool) (w : World) (fH : Kd.C (Kd.int .u8) w A0 l0.length l0) (fI : l0.length ≤ c0) (h : spec_GetNum.f k l0 a1 = some (r1, r2, r3)) :
 Calls Try.prog 52 #[.slice A0 l0.length c0, .int .i64 a1] w fun e w' => e = .returned (.tuple #[.int .i64 r1, .int .i64 r2, .bool r3]) ∧ Drawn0 w w' := by
 have fF := aM fH
 have iQ := aM fI
 clear fH fI
 have H : (if a1 < 0 then (spec_GetNum.j0 k l0 a1 true) else (spec_GetNum.j0 k l0 a1 (decide (a1 ≥ (l0.length : Int))))) = some (r1, r2, r3) := h
 clear h
 have gQ := aM H
 clear H
 go_enter Try.func52, Try.ntmps52
 go_upto_region 1 with (fail)
 go_cut [18] (fun jB wc => ∃ (kq : Nat) (dZ : Bool), jB = .bool dZ ∧ Aside0 (spec_GetNum.j0 kq l0 a1 dZ = some (r1, r2, r3)) ∧ Aside0 (kq ≤ k) ∧ Drawn0 w wc)
 case first =>
  have H := gQ.out; clear gQ; by_cases c4 : a1 < 0
  ·rw [if_pos c4] at H; have dG : decide (a1 < 0) = true := decide_eq_true c4; clear c4; (first | rw [dG] | (simp only [i64_w, i32_w]; rw [dG]) | skip); have H' := aM H; clear H; go_wp2; go_meet
   case rel => exact ⟨_, (true), u6_0, H', ⟨by first | omega | exact Nat.le_refl _⟩, u6_11⟩
  ·rw [if_neg c4] at H; have dG : decide (a1 < 0) = false := decide_eq_false c4; clear c4; (first | rw [dG] | (simp only [i64_w, i32_w]; rw [dG]) | skip); have H' := aM H; clear H; go_wp2; go_meet
   case rel => exact ⟨_, (decide (a1 ≥ (l0.length : Int))), u6_0, H', ⟨by first | omega | exact Nat.le_refl _⟩, u6_11⟩
 case rest =>
  clear gQ; try clear p2
  try clear c4
  try clear dG
  obtain ⟨kq, dZ, rfl, HA, HJ2, ⟨mc2, rfl⟩⟩ := hcut; cases kq with
  | zero => exact absurd HA.out (by simp [spec_GetNum.j0])
  | succ iJ =>
   have H := HA.out; clear HA; simp only [spec_GetNum.j0] at H; by_cases c5 : dZ = true
   ·subst c5; replace H := iT H; simp only [Option.some.injEq, Prod.mk.injEq] at H; obtain ⟨rfl, rfl, rfl⟩ := H; go_wp2; go_ret3
    exact ⟨u6_0, u6_11⟩
   ·replace c5 := Bool.eq_false_iff.mpr c5; subst c5; replace H := iN H; have H' := aM H; clear H; go_wp2; go_loopg [7, 8, 9] iJ (fun kq v7 v8 v9 w' => ∃ (dH : Int) (cS : Int) (bN : Int), v7 = .int .i64 dH ∧ v8 = .int .i64 cS ∧ v9 = .int .i64 bN ∧ Aside0 (spec_GetNum.l0 kq l0 a1 dH cS bN = some (r1, r2, r3)) ∧ Aside0 (kq ≤ iJ) ∧ Drawn0 w w')
    case atStart => exact ⟨(0), (1), (0), u6_0, u6_0, u6_0, H', ⟨Nat.le_refl _⟩, u6_11⟩
    case round =>
     clear H'; try clear c2
     try clear p2
     try clear c4
     try clear dG
     try clear c5
     try clear p2
     obtain ⟨dH, cS, bN, rfl, rfl, rfl, HA, HK2, ⟨m2, rfl⟩⟩ := hrel; cases gk with
     | zero => exact absurd HA.out (by simp [spec_GetNum.l0])
     | succ k2 =>
      have H := HA.out; clear HA; simp only [spec_GetNum.l0] at H; have gR := aM H; clear H; go_upto_region 6 with (fail)
      go_cut [28] (fun jC wc => ∃ (kq : Nat) (eA : Bool), jC = .bool eA ∧ Aside0 (spec_GetNum.j2 kq l0 a1 dH cS bN eA = some (r1, r2, r3)) ∧ Aside0 (kq ≤ k2) ∧ Drawn0 w wc)
      case first =>
       have H := gR.out; clear gR; by_cases c7 : bN < 9
       ·rw [if_pos c7] at H; have bM : decide (bN < 9) = true := decide_eq_true c7; clear c7; (first | rw [bM] | (simp only [i64_w, i32_w]; rw [bM]) | skip); have H' := aM H; clear H; go_wp2; go_meet
        case rel => exact ⟨_, (decide ((wrap64 (a1 + bN)) < (l0.length : Int))), u6_0, H', ⟨by have := HJ2.out; have := HK2.out; first | omega | exact Nat.le_refl _⟩, u6_11⟩
       ·rw [if_neg c7] at H; have bM : decide (bN < 9) = false := decide_eq_false c7; clear c7; (first | rw [bM] | (simp only [i64_w, i32_w]; rw [bM]) | skip); have H' := aM H; clear H; go_wp2; go_meet
        case rel => exact ⟨_, (false), u6_0, H', ⟨by have := HJ2.out; have := HK2.out; first | omega | exact Nat.le_refl _⟩, u6_11⟩
      case rest =>
       clear gR; try clear c2
       try clear p2
       try clear c4
       try clear dG
       try clear c5
       try clear p6
       try clear c7
       try clear bM
       try clear p2
       obtain ⟨kq, eA, rfl, HA, HJ5, ⟨mc5, rfl⟩⟩ := hcut; cases kq with
       | zero => exact absurd HA.out (by simp [spec_GetNum.j2])
       | succ iK =>
        have H := HA.out; clear HA; simp only [spec_GetNum.j2] at H; by_cases c8 : eA = true
        ·subst c8; replace H := iT H; obtain ⟨ji9, hji9⟩ : ∃ j_ : Int, (wrap64 (a1 + bN)) = j_ := ⟨_, rfl⟩; replace H : (if 0 ≤ (ji9) then (if (ji9) < (l0.length : Int) then (if (wrap64 (rd l0 (ji9))) < 128 then (if (wrap64 (rd l0 (ji9))) = 0 then (if bN > 0 then (some (0, 0, false)) else (some (wrap64 (dH + (wrap64 ((Int.tmod (wrap64 (rd l0 (ji9))) 128) * cS))), wrap64 ((ji9) + 1), true))) else (some (wrap64 (dH + (wrap64 ((Int.tmod (wrap64 (rd l0 (ji9))) 128) * cS))), wrap64 ((ji9) + 1), true))) else (spec_GetNum.l0 iK l0 a1 (wrap64 (dH + (wrap64 ((Int.tmod (wrap64 (rd l0 (ji9))) 128) * cS)))) (wrap64 (cS * 128)) (wrap64 (bN + 1)))) else (none)) else (none)) = some (r1, r2, r3) := by first | (rw [hji9] at H; exact H) | (simp only [hji9] at H ⊢; exact H)
         have hji9w : (IntKind.i64.wrap (a1 + bN)) = ji9 := (i64_w _).trans hji9; by_cases c10 : 0 ≤ (ji9)
         ·rw [if_pos c10] at H; have iL : decide (0 ≤ (ji9)) = true := decide_eq_true c10; clear c10; by_cases gH : (ji9) < (l0.length : Int)
          ·rw [if_pos gH] at H; have iM : decide ((ji9) < (l0.length : Int)) = true := decide_eq_true gH; clear gH; by_cases fG : (wrap64 (rd l0 (ji9))) < 128
           ·rw [if_pos fG] at H; have fQ : decide ((wrap64 (rd l0 (ji9))) < 128) = true := decide_eq_true fG; clear fG; by_cases dK : (wrap64 (rd l0 (ji9))) = 0
            ·rw [if_pos dK] at H; obtain ⟨bV, fR⟩ := bT dK; clear dK; by_cases eX : bN > 0
             ·rw [if_pos eX] at H; have fS : decide (0 < bN) = true := decide_eq_true eX; clear eX; simp only [Option.some.injEq, Prod.mk.injEq] at H; obtain ⟨rfl, rfl, rfl⟩ := H; have p173 : 0 ≤ ((ji9) : Int) := oda; have q173 : (ji9) < (l0.length : Int) := oda; obtain ⟨eH, dI, dF⟩ := Kd.at_int fF.out (ji9) p173 q173; cases dI
              replace p173 := eq_true p173; replace q173 := eq_true q173; go_wp2; go_ret3
              exact ⟨u6_13, u6_11⟩
             ·rw [if_neg eX] at H; have fS : decide (0 < bN) = false := decide_eq_false eX; clear eX; simp only [Option.some.injEq, Prod.mk.injEq] at H; obtain ⟨rfl, rfl, rfl⟩ := H; have p173 : 0 ≤ ((ji9) : Int) := oda; have q173 : (ji9) < (l0.length : Int) := oda; obtain ⟨eH, dI, dF⟩ := Kd.at_int fF.out (ji9) p173 q173; cases dI
              replace p173 := eq_true p173; replace q173 := eq_true q173; go_wp2; go_ret3
              exact ⟨u6_13, u6_11⟩
            ·rw [if_neg dK] at H; obtain ⟨bV, fR⟩ := bF dK; simp only [Option.some.injEq, Prod.mk.injEq] at H; obtain ⟨rfl, rfl, rfl⟩ := H; have p173 : 0 ≤ ((ji9) : Int) := oda; have q173 : (ji9) < (l0.length : Int) := oda; obtain ⟨eH, dI, dF⟩ := Kd.at_int fF.out (ji9) p173 q173; cases dI
             replace p173 := eq_true p173; replace q173 := eq_true q173; go_wp2; go_ret3
             exact ⟨u6_13, u6_11⟩
           ·rw [if_neg fG] at H; have fQ : decide ((wrap64 (rd l0 (ji9))) < 128) = false := decide_eq_false fG; clear fG; have H' := aM H; clear H; have p173 : 0 ≤ ((ji9) : Int) := oda; have q173 : (ji9) < (l0.length : Int) := oda; obtain ⟨eH, dI, dF⟩ := Kd.at_int fF.out (ji9) p173 q173; cases dI
            replace p173 := eq_true p173; replace q173 := eq_true q173; go_wp2; go_roundg iK
            case measure => have := HJ2.out; have := HK2.out; have := HJ5.out; omega
            case rel => exact ⟨(wrap64 (dH + (wrap64 ((Int.tmod (wrap64 (rd l0 (ji9))) 128) * cS)))), (wrap64 (cS * 128)), (wrap64 (bN + 1)), u6_13, u6_0, u6_0, H', ⟨by have := HJ2.out; have := HK2.out; have := HJ5.out; omega⟩, u6_11⟩
          ·rw [if_neg gH] at H; exact absurd H (by simp)
         ·rw [if_neg c10] at H; exact absurd H (by simp)
        ·replace c8 := Bool.eq_false_iff.mpr c8; subst c8; replace H := iN H; simp only [Option.some.injEq, Prod.mk.injEq] at H; obtain ⟨rfl, rfl, rfl⟩ := H; go_wp2; go_ret3
         exact ⟨u6_0, u6_11⟩

end Go.Proofs.Ytocpomkfilpflaa.QFnExactHardLoad
