-- A walk, by a program of this session.
import Derived.Test.YtocpomkfilpflaaQFnHardRunx0
import Derived.Test.YtocpomkfilpflaaQFnHardRunx2
import Derived.Test.YtocpomkfilpflaaQFnHardRunx5
namespace Go.Proofs.Ytocpomkfilpflaa.QFnHardRun
open Go.RowKit Go.Proofs.YtocpomkfilpflaaW.PrintWords Go.Proofs.YtocpomkfilpflaaW.PrintLast Go.Proofs.YtocpomkfilpflaaW.PrintMore
attribute [local go_sem] max2_int min2_int max_two min_two max_three min_three max_four min_four   -- for this text's walks alone
set_option linter.unusedVariables false
set_option linter.unusedSimpArgs false

attribute [local go_sem high] eqA36
theorem u12_0 {p : Prop} (h : p := by have := World.block_lt_of_cell? _ _ aS; first | rwa [add_block] at this | exact this) : p := h
theorem u12_1 {p : Prop} (h : p := by have := World.block_lt_of_cell? _ _ aT; first | rwa [add_block] at this | exact this) : p := h
theorem u12_2 {p : Prop} (h : p := by have := World.block_lt_of_cell? _ _ aU; first | rwa [add_block] at this | exact this) : p := h
theorem u12_3 {p : Prop} (h : p := by have := World.block_lt_of_cell? _ _ aV; first | rwa [add_block] at this | exact this) : p := h
theorem u12_4 {p : Prop} (h : p := by have := World.block_lt_of_cell? _ _ aW; first | rwa [add_block] at this | exact this) : p := h
theorem u12_5 {p : Prop} (h : p := by have := World.block_lt_of_cell? _ _ aX; first | rwa [add_block] at this | exact this) : p := h
theorem u12_6 {p : Prop} (h : p := by have := World.block_lt_of_cell? _ _ aY; first | rwa [add_block] at this | exact this) : p := h
theorem u12_7 {p : Prop} (h : p := by have := World.block_lt_of_cell? _ _ aZ; first | rwa [add_block] at this | exact this) : p := h
theorem u12_8 {p : Prop} (h : p := by have := World.block_lt_of_cell? _ _ bA; first | rwa [add_block] at this | exact this) : p := h
theorem u12_9 {p : Prop} (h : p := by have := World.block_lt_of_cell? _ _ bB; first | rwa [add_block] at this | exact this) : p := h
theorem u12_10 {p : Prop} (h : p := by first | rfl | (simp; done) | (simp [*]; done)) : p := h
theorem u12_11 {p : Prop} (h : p := by repeat (first | exact Drawn0.refl _ | apply Drawn0.step)) : p := h
theorem u12_12 {p : Prop} (h : p := by first | (go_simp; done) | (go_simp; rfl)) : p := h
theorem u12_13 {p : Prop} (h : p := by first | exact Nat.ne_of_lt (Nat.lt_of_lt_of_le (by have := World.block_lt_of_cell? _ _ aS; first | rwa [add_block] at this | exact this) aH.out) | (rw [add_block]; exact Nat.ne_of_lt (Nat.lt_of_lt_of_le (by have := World.block_lt_of_cell? _ _ aS; first | rwa [add_block] at this | exact this) aH.out)) | (show (Addr.add _ _).block ≠ _; rw [add_block]; exact Nat.ne_of_lt (Nat.lt_of_lt_of_le (by have := World.block_lt_of_cell? _ _ aS; first | rwa [add_block] at this | exact this) aH.out)) | (dsimp only; exact Nat.ne_of_lt (Nat.lt_of_lt_of_le (by have := World.block_lt_of_cell? _ _ aS; first | rwa [add_block] at this | exact this) aH.out))) : p := h
theorem u12_14 {p : Prop} (h : p := by first | exact Nat.ne_of_lt (Nat.lt_of_lt_of_le (by have := World.block_lt_of_cell? _ _ aT; first | rwa [add_block] at this | exact this) aH.out) | (rw [add_block]; exact Nat.ne_of_lt (Nat.lt_of_lt_of_le (by have := World.block_lt_of_cell? _ _ aT; first | rwa [add_block] at this | exact this) aH.out)) | (show (Addr.add _ _).block ≠ _; rw [add_block]; exact Nat.ne_of_lt (Nat.lt_of_lt_of_le (by have := World.block_lt_of_cell? _ _ aT; first | rwa [add_block] at this | exact this) aH.out)) | (dsimp only; exact Nat.ne_of_lt (Nat.lt_of_lt_of_le (by have := World.block_lt_of_cell? _ _ aT; first | rwa [add_block] at this | exact this) aH.out))) : p := h
theorem u12_15 {p : Prop} (h : p := by first | exact Nat.ne_of_lt (Nat.lt_of_lt_of_le (by have := World.block_lt_of_cell? _ _ aU; first | rwa [add_block] at this | exact this) aH.out) | (rw [add_block]; exact Nat.ne_of_lt (Nat.lt_of_lt_of_le (by have := World.block_lt_of_cell? _ _ aU; first | rwa [add_block] at this | exact this) aH.out)) | (show (Addr.add _ _).block ≠ _; rw [add_block]; exact Nat.ne_of_lt (Nat.lt_of_lt_of_le (by have := World.block_lt_of_cell? _ _ aU; first | rwa [add_block] at this | exact this) aH.out)) | (dsimp only; exact Nat.ne_of_lt (Nat.lt_of_lt_of_le (by have := World.block_lt_of_cell? _ _ aU; first | rwa [add_block] at this | exact this) aH.out))) : p := h
theorem u12_16 {p : Prop} (h : p := by first | exact Nat.ne_of_lt (Nat.lt_of_lt_of_le (by have := World.block_lt_of_cell? _ _ aV; first | rwa [add_block] at this | exact this) aH.out) | (rw [add_block]; exact Nat.ne_of_lt (Nat.lt_of_lt_of_le (by have := World.block_lt_of_cell? _ _ aV; first | rwa [add_block] at this | exact this) aH.out)) | (show (Addr.add _ _).block ≠ _; rw [add_block]; exact Nat.ne_of_lt (Nat.lt_of_lt_of_le (by have := World.block_lt_of_cell? _ _ aV; first | rwa [add_block] at this | exact this) aH.out)) | (dsimp only; exact Nat.ne_of_lt (Nat.lt_of_lt_of_le (by have := World.block_lt_of_cell? _ _ aV; first | rwa [add_block] at this | exact this) aH.out))) : p := h
theorem u12_17 {p : Prop} (h : p := by first | exact Nat.ne_of_lt (Nat.lt_of_lt_of_le (by have := World.block_lt_of_cell? _ _ aW; first | rwa [add_block] at this | exact this) aH.out) | (rw [add_block]; exact Nat.ne_of_lt (Nat.lt_of_lt_of_le (by have := World.block_lt_of_cell? _ _ aW; first | rwa [add_block] at this | exact this) aH.out)) | (show (Addr.add _ _).block ≠ _; rw [add_block]; exact Nat.ne_of_lt (Nat.lt_of_lt_of_le (by have := World.block_lt_of_cell? _ _ aW; first | rwa [add_block] at this | exact this) aH.out)) | (dsimp only; exact Nat.ne_of_lt (Nat.lt_of_lt_of_le (by have := World.block_lt_of_cell? _ _ aW; first | rwa [add_block] at this | exact this) aH.out))) : p := h
theorem u12_18 {p : Prop} (h : p := by first | exact Nat.ne_of_lt (Nat.lt_of_lt_of_le (by have := World.block_lt_of_cell? _ _ aX; first | rwa [add_block] at this | exact this) aH.out) | (rw [add_block]; exact Nat.ne_of_lt (Nat.lt_of_lt_of_le (by have := World.block_lt_of_cell? _ _ aX; first | rwa [add_block] at this | exact this) aH.out)) | (show (Addr.add _ _).block ≠ _; rw [add_block]; exact Nat.ne_of_lt (Nat.lt_of_lt_of_le (by have := World.block_lt_of_cell? _ _ aX; first | rwa [add_block] at this | exact this) aH.out)) | (dsimp only; exact Nat.ne_of_lt (Nat.lt_of_lt_of_le (by have := World.block_lt_of_cell? _ _ aX; first | rwa [add_block] at this | exact this) aH.out))) : p := h
theorem u12_19 {p : Prop} (h : p := by first | exact Nat.ne_of_lt (Nat.lt_of_lt_of_le (by have := World.block_lt_of_cell? _ _ aY; first | rwa [add_block] at this | exact this) aH.out) | (rw [add_block]; exact Nat.ne_of_lt (Nat.lt_of_lt_of_le (by have := World.block_lt_of_cell? _ _ aY; first | rwa [add_block] at this | exact this) aH.out)) | (show (Addr.add _ _).block ≠ _; rw [add_block]; exact Nat.ne_of_lt (Nat.lt_of_lt_of_le (by have := World.block_lt_of_cell? _ _ aY; first | rwa [add_block] at this | exact this) aH.out)) | (dsimp only; exact Nat.ne_of_lt (Nat.lt_of_lt_of_le (by have := World.block_lt_of_cell? _ _ aY; first | rwa [add_block] at this | exact this) aH.out))) : p := h
theorem u12_20 {p : Prop} (h : p := by first | exact Nat.ne_of_lt (Nat.lt_of_lt_of_le (by have := World.block_lt_of_cell? _ _ aZ; first | rwa [add_block] at this | exact this) aH.out) | (rw [add_block]; exact Nat.ne_of_lt (Nat.lt_of_lt_of_le (by have := World.block_lt_of_cell? _ _ aZ; first | rwa [add_block] at this | exact this) aH.out)) | (show (Addr.add _ _).block ≠ _; rw [add_block]; exact Nat.ne_of_lt (Nat.lt_of_lt_of_le (by have := World.block_lt_of_cell? _ _ aZ; first | rwa [add_block] at this | exact this) aH.out)) | (dsimp only; exact Nat.ne_of_lt (Nat.lt_of_lt_of_le (by have := World.block_lt_of_cell? _ _ aZ; first | rwa [add_block] at this | exact this) aH.out))) : p := h
theorem u12_21 {p : Prop} (h : p := by first | exact Nat.ne_of_lt (Nat.lt_of_lt_of_le (by have := World.block_lt_of_cell? _ _ bA; first | rwa [add_block] at this | exact this) aH.out) | (rw [add_block]; exact Nat.ne_of_lt (Nat.lt_of_lt_of_le (by have := World.block_lt_of_cell? _ _ bA; first | rwa [add_block] at this | exact this) aH.out)) | (show (Addr.add _ _).block ≠ _; rw [add_block]; exact Nat.ne_of_lt (Nat.lt_of_lt_of_le (by have := World.block_lt_of_cell? _ _ bA; first | rwa [add_block] at this | exact this) aH.out)) | (dsimp only; exact Nat.ne_of_lt (Nat.lt_of_lt_of_le (by have := World.block_lt_of_cell? _ _ bA; first | rwa [add_block] at this | exact this) aH.out))) : p := h
theorem u12_22 {p : Prop} (h : p := by first | exact Nat.ne_of_lt (Nat.lt_of_lt_of_le (by have := World.block_lt_of_cell? _ _ bB; first | rwa [add_block] at this | exact this) aH.out) | (rw [add_block]; exact Nat.ne_of_lt (Nat.lt_of_lt_of_le (by have := World.block_lt_of_cell? _ _ bB; first | rwa [add_block] at this | exact this) aH.out)) | (show (Addr.add _ _).block ≠ _; rw [add_block]; exact Nat.ne_of_lt (Nat.lt_of_lt_of_le (by have := World.block_lt_of_cell? _ _ bB; first | rwa [add_block] at this | exact this) aH.out)) | (dsimp only; exact Nat.ne_of_lt (Nat.lt_of_lt_of_le (by have := World.block_lt_of_cell? _ _ bB; first | rwa [add_block] at this | exact this) aH.out))) : p := h
theorem u12_23 {p : Prop} (h : p := by first | exact Kd.R_nil _ _ _ _ _ | exact Kd.N_nil _ _ _ _ _ | exact Kd.V_nil _ _ _ _ _ | exact Kd.Q_nil _ _ _ _ _ | exact Kd.S_nil _ _ _ _ _) : p := h
theorem u12_24 {p : Prop} (h : p := by simp only [putAll, Act.put, List.setIfInBounds_toArray, List.set_cons_zero, List.set_cons_succ]) : p := h
theorem u12_25 {p : Prop} (h : p := by (with_reducible repeat (first | apply Kd.R_alloc | apply Kd.R_drewN | apply Kd.R_drew)); exact Kd.R_mono bP.out (fun _ hk => hk.2)) : p := h
theorem u12_26 {p : Prop} (h : p := by (with_reducible repeat (first | apply Kd.R_alloc | apply Kd.R_drewN | apply Kd.R_drew)); exact Kd.R_mono aB.out (fun _ hk => hk.2)) : p := h
/-! ### spec_HardOf: function 9 -/
mutual
def spec_HardOf.j0 : Nat → List (S38) → Int → Int → Option (Int × Int × (List (S36)) × Int)
 | 0, _, _, _ => none
 | k + 1, x0, bJ, bK => spec_HardOf.l0 k x0 0 bJ bK ([] : List (S36))
def spec_HardOf.l0 : Nat → List (S38) → Int → Int → Int → List (S36) → Option (Int × Int × (List (S36)) × Int)
 | 0, _, _, _, _, _ => none
 | k + 1, x0, x5, bJ, bK, bQ => if x5 < (x0.length : Int) then (spec_HardOf.j2 k x0 x5 bJ bK bQ) else (some (bJ, bK, bQ, (x0.length : Int)))
def spec_HardOf.j2 : Nat → List (S38) → Int → Int → Int → List (S36) → Option (Int × Int × (List (S36)) × Int)
 | 0, _, _, _, _, _ => none
 | k + 1, x0, x5, bJ, bK, bQ => if 0 ≤ x5 then (if x5 < (x0.length : Int) then ((spec_HardApply.f k bJ bK bQ ((rd_T38 x0 x5).f0) ((rd_T38 x0 x5).f1) ((rd_T38 x0 x5).f2) ((rd_T38 x0 x5).f3) ((rd_T38 x0 x5).f4.f0) ((rd_T38 x0 x5).f4.f1.f0) ((rd_T38 x0 x5).f4.f1.f1) ((rd_T38 x0 x5).f4.f1.f2) ((rd_T38 x0 x5).f4.f1.f3) ((rd_T38 x0 x5).f4.f1.f4)).bind fun dF => (if dF.2.2.2 = true then (spec_HardOf.j3 k x0 x5 dF.1 dF.2.1 dF.2.2.1) else (some (bJ, bK, bQ, x5)))) else (none)) else (none)
def spec_HardOf.j3 : Nat → List (S38) → Int → Int → Int → List (S36) → Option (Int × Int × (List (S36)) × Int)
 | 0, _, _, _, _, _ => none
 | k + 1, x0, x5, dZ, eA, eB => spec_HardOf.l0 k x0 (wrap64 (x5 + 1)) dZ eA eB
end
def spec_HardOf.f (k : Nat) (l0 : List (S38)) : Option (Int × Int × (List (S36)) × Int) := if (l0.length : Int) > 2000 then (some (0, 0, ([] : List (S36)), 0)) else (spec_HardOf.j0 k l0 0 0)
theorem u12_mq0 {p : Prop} (h : p := by repeat' first | (with_reducible first | exact fH _ _ _ | exact gT _ _ _ _ _ | exact gU _ _ _ _ _ | exact gV _ _ _ _ _ | exact spec_HardApply.mono _ _ _ _ _ _ _ _ _ _ _ _ _ _ | exact LeO.refl _ | exact LeO.none _ | refine LeO.ite ?_ ?_ | refine LeO.bind ?_ (fun _ => ?_)) | exact LeO.none _ | refine LeO.ite ?_ ?_ | refine LeO.bind ?_ (fun _ => ?_)) : p := h
set_option maxRecDepth 100000 in
theorem spec_HardOf.mono_l : ∀ k, (∀ y0 y1 y2, LeO (spec_HardOf.j0 k y0 y1 y2) (spec_HardOf.j0 (k + 1) y0 y1 y2)) ∧ (∀ y0 y1 y2 y3 y4, LeO (spec_HardOf.l0 k y0 y1 y2 y3 y4) (spec_HardOf.l0 (k + 1) y0 y1 y2 y3 y4)) ∧ (∀ y0 y1 y2 y3 y4, LeO (spec_HardOf.j2 k y0 y1 y2 y3 y4) (spec_HardOf.j2 (k + 1) y0 y1 y2 y3 y4)) ∧ (∀ y0 y1 y2 y3 y4, LeO (spec_HardOf.j3 k y0 y1 y2 y3 y4) (spec_HardOf.j3 (k + 1) y0 y1 y2 y3 y4))
 | 0 => ⟨fun _ _ _ r h => by simp [spec_HardOf.j0] at h, fun _ _ _ _ _ r h => by simp [spec_HardOf.l0] at h, fun _ _ _ _ _ r h => by simp [spec_HardOf.j2] at h, fun _ _ _ _ _ r h => by simp [spec_HardOf.j3] at h⟩
 | k + 1 => by
  obtain ⟨fH, gT, gU, gV⟩ := spec_HardOf.mono_l k; refine ⟨?_, ?_, ?_, ?_⟩
  ·intro y0 y1 y2; unfold spec_HardOf.j0; exact u12_mq0
  ·intro y0 y1 y2 y3 y4; unfold spec_HardOf.l0; exact u12_mq0
  ·intro y0 y1 y2 y3 y4; unfold spec_HardOf.j2; exact u12_mq0
  ·intro y0 y1 y2 y3 y4; unfold spec_HardOf.j3; exact u12_mq0
theorem spec_HardOf.mono : ∀ a0 k, LeO (spec_HardOf.f k a0) (spec_HardOf.f (k + 1) a0) := by
 intro a0 k
 obtain ⟨fH, gT, gU, gV⟩ := spec_HardOf.mono_l k
 unfold spec_HardOf.f
 exact u12_mq0
def spec_HardOf.T7 : Bool × List (List Nat × List Nat) := (true, [([], []), ([], []), ([], []), ([1, 2], [1, 2]), ([3], [3]), ([0, 4], [0, 4]), ([5], [5]), ([6], [6]), ([6], [6]), ([], []), ([9, 7, 5, 0, 1, 2, 3, 4, 5, 6, 7, 9], [7, 9]), ([8, 10, 0, 1, 2, 3, 4, 5, 6, 7, 8, 9, 10], [8])])
def spec_HardOf.B7 : List Nat := [0, 0, 0, 6, 14, 31, 63, 127, 127, 0, 767, 2047]
set_option maxHeartbeats 8000000 in
set_option maxRecDepth 100000 in
theorem spec_HardOf.calls (k : Nat) (A0 : Option Addr) (c0 : Nat) (l0 : List (S38)) (r1 : Int) (r2 : Int) (r3 : List (S36)) (r4 : Int) (w : World) (fI : Kd.C k38 w A0 l0.length l0) (fJ : l0.length ≤ c0) (h : spec_HardOf.f k l0 = some (r1, r2, r3, r4)) :
 Calls Try.prog 9 #[.slice A0 l0.length c0] w fun e w' => ∃ v2_ : Value, e = .returned (.tuple #[.agg #[.int .i64 r1, .int .i64 r2, v2_], .int .i64 r4]) ∧ Kd.R k36 36 w' w.heap.size (fun _ => True) v2_ r3 ∧ Below w.heap.size w w' := by
 have iR := Try.underlying28
 have iS := Try.underlying38
 have fW := aM fI
 have iU := aM fJ
 clear fI fJ
 have HB := aM (Below.refl w.heap.size w)
 have H : (if (l0.length : Int) > 2000 then (some (0, 0, ([] : List (S36)), 0)) else (spec_HardOf.j0 k l0 0 0)) = some (r1, r2, r3, r4) := h
 clear h
 have gL := aM H
 clear H
 go_enter Try.func9, Try.ntmps9
 go_upto_if 11 with (first | ((with_reducible refine gD 2 rfl ?_); refine boxE (N := 2) rfl (cs := #[.int .i64 0, .int .i64 0, .slice none 0 0]) (t := 28) ?_; intro aR hg w3 hbox hb; have aL := aM (hbox); have gW := aM (xge hg); have gX := aM (xge hg); replace HB := xbs hb; clear hb hbox hg) | ((with_reducible refine gD 4 rfl ?_); refine boxE (N := 4) rfl (cs := #[.int .i64 0, .int .i64 0, .slice none 0 0]) (t := 28) ?_; intro aN hg w4 hbox hb; have gY := aM (xge hg); have gZ := aM (xge hg); replace HB := xbs hb; have bG := nblt aL hg; have bH := nbgt aL hg; replace aL := xbb aL hb; have aJ := aM (hbox); clear hb hbox hg; have iV := bH.out; have iW := bG.out; obtain ⟨cT, cU, cV, cW, cX, cY⟩ := xf3 (w := w4) aJ))
 (try simp only [Act.put, List.setIfInBounds_toArray, List.set_cons_zero, List.set_cons_succ])
 go_cut [] (fun wc => ∃ (kq : Nat) (cE : Int) (cF : Int), Aside0 (spec_HardOf.j0 kq l0 0 0 = some (r1, r2, r3, r4)) ∧ Aside0 (kq ≤ k) ∧ Aside0 (wc.heap[aR]? = some (.cells #[.int .i64 cE, .int .i64 cF, (.slice none 0 0)] 28 (0, 0))) ∧ Aside0 (wc.heap[aN]? = some (.cells #[.int .i64 0, .int .i64 0, (.slice none 0 0)] 28 (0, 0))) ∧ Aside0 (Below w.heap.size w wc))
 case first =>
  have H := gL.out; clear gL; by_cases c7 : (l0.length : Int) > 2000
  ·rw [if_pos c7] at H; have cO : decide (2000 < (l0.length : Int)) = true := decide_eq_true c7; have dY : decide (2000 < l0.length) = true := decide_eq_true (by omega); clear c7; (first | rw [cO] | (simp only [i64_w, i32_w]; rw [cO]) | skip); simp only [Option.some.injEq, Prod.mk.injEq] at H; obtain ⟨rfl, rfl, rfl, rfl⟩ := H; have iX := bH.out; have iY := bG.out; obtain ⟨cZ, dA, dB, dC, dD, dE⟩ := xf3 (w := w4) aJ; obtain ⟨cI, cJ, cK, cL, cM, cN⟩ := xf3 (w := w4) aL; go_wp2_with (first | ((with_reducible refine gate_store (t := 28) (p := 2) rfl ?_); refine store_event (t := 28) (p := 2) (v := ?vo_w11) (w1 := ((((((w4.setCell ⟨aN, 0, none⟩ (.int .i64 0)).setCell ⟨aN, 1, none⟩ (.int .i64 0)).setCell ⟨aN, 2, none⟩ (.slice none 0 0)).setCell ⟨aR, 0, none⟩ (.int .i64 0)).setCell ⟨aR, 1, none⟩ (.int .i64 0)).setCell ⟨aR, 2, none⟩ (.slice none 0 0))) ?hg ?ho ?hn ?hr ?_; (case ho | hg | hn => rfl); (case hr => exact u12_12); intro hJ hw; replace aL : Aside0 (hJ.heap[aR]? = some (.cells #[.int .i64 0, .int .i64 0, .slice none 0 0] 28 (0, 0))) := xwp hw; replace aJ : Aside0 (hJ.heap[aN]? = some (.cells #[.int .i64 0, .int .i64 0, .slice none 0 0] 28 (0, 0))) := xwp hw; replace HB := xbw hw HB; clear hw))
   refine bodyPost_ret (results_ct rfl _ _ aR 28 #[.int .i64 0, .int .i64 0, .slice none 0 0] (0, 0) _ rfl xblk Try.underlying28 rfl (by kernel_rfl)) rfl ?_; exact ⟨_, xerr, u12_23, xbg⟩
  ·rw [if_neg c7] at H; have cO : decide (2000 < (l0.length : Int)) = false := decide_eq_false c7; have dY : decide (2000 < l0.length) = false := decide_eq_false (by omega); clear c7; (first | rw [cO] | (simp only [i64_w, i32_w]; rw [cO]) | skip); have H' := aM H; clear H; go_wp2; go_meet
   case rel => exact ⟨_, (0), (0), H', ⟨by first | omega | exact Nat.le_refl _⟩, ⟨xB⟩, ⟨xP⟩, ⟨xbg⟩⟩
 case rest =>
  clear gL; try clear p2
  try clear c5
  try clear c7
  try clear cO
  try clear dY
  try clear c8
  try clear c9
  try clear cI cJ cK
  try clear cT cU cV
  try clear cZ dA dB
  try clear cL cM cN
  try clear cW cX cY
  try clear dC dD dE
  obtain ⟨kq, cE, cF, HA, HJ1, aL, aJ, HB⟩ := hcut; cases kq with
  | zero => exact absurd HA.out (by simp [spec_HardOf.j0])
  | succ hU =>
   have H := HA.out; clear HA; simp only [spec_HardOf.j0] at H; have H' := aM H; clear H; go_wp2; go_loopg [5] hU (fun kq v5 w' => ∃ (aA : Int) (bC : Int) (bE : Int) (aF : Int) (aG : Int) (aC : List (S36)) (bR : Value), v5 = .int .i64 aA ∧ Aside0 (spec_HardOf.l0 kq l0 aA aF aG aC = some (r1, r2, r3, r4)) ∧ Aside0 (kq ≤ hU) ∧ Aside0 (Kd.R k36 36 w' w.heap.size (fun _ => True) bR aC) ∧ Aside0 (w'.heap[aR]? = some (.cells #[.int .i64 bC, .int .i64 bE, (.slice none 0 0)] 28 (0, 0))) ∧ Aside0 (w'.heap[aN]? = some (.cells #[.int .i64 aF, .int .i64 aG, bR] 28 (0, 0))) ∧ Aside0 (Below w.heap.size w w'))
   case atStart => exact ⟨(0), (cE), (cF), (0), (0), (([] : List (S36))), (.slice none 0 0), u12_10, H', ⟨Nat.le_refl _⟩, ⟨u12_23⟩, ⟨xblk⟩, ⟨xblk⟩, ⟨xbg⟩⟩
   case round =>
    clear H'; try clear p2
    try clear c5
    try clear c7
    try clear cO
    try clear dY
    try clear c8
    try clear c9
    try clear cI cJ cK
    try clear cT cU cV
    try clear cZ dA dB
    try clear cL cM cN
    try clear cW cX cY
    try clear dC dD dE
    try clear p2
    obtain ⟨aA, bC, bE, aF, aG, aC, bR, rfl, HA, HK2, aB, aL, aJ, HB⟩ := hrel; cases gk with
    | zero => exact absurd HA.out (by simp [spec_HardOf.l0])
    | succ k2 =>
     have H := HA.out; clear HA; simp only [spec_HardOf.l0] at H; have fB := aM H; clear H; go_upto_if 16 with (fail)
     go_cut [] (fun wc => ∃ (kq : Nat), Aside0 (spec_HardOf.j2 kq l0 aA aF aG aC = some (r1, r2, r3, r4)) ∧ Aside0 (kq ≤ k2) ∧ Aside0 (Kd.R k36 36 wc w.heap.size (fun _ => True) bR aC) ∧ Aside0 (wc.heap[aR]? = some (.cells #[.int .i64 bC, .int .i64 bE, (.slice none 0 0)] 28 (0, 0))) ∧ Aside0 (wc.heap[aN]? = some (.cells #[.int .i64 aF, .int .i64 aG, bR] 28 (0, 0))) ∧ Aside0 (Below w.heap.size w wc))
     case first =>
      have H := fB.out; clear fB; by_cases fA : aA < (l0.length : Int)
      ·rw [if_pos fA] at H; have cP : decide (aA < (l0.length : Int)) = true := decide_eq_true fA; clear fA; (first | rw [cP] | (simp only [i64_w, i32_w]; rw [cP]) | skip); have H' := aM H; clear H; go_wp2; go_meet
       case rel => exact ⟨_, H', ⟨by have := HJ1.out; have := HK2.out; first | omega | exact Nat.le_refl _⟩, ⟨by (with_reducible repeat (first | apply Kd.R_alloc | apply Kd.R_drewN | apply Kd.R_drew)); exact aB.out⟩, ⟨xblk⟩, ⟨xblk⟩, ⟨xbg⟩⟩
      ·rw [if_neg fA] at H; have cP : decide (aA < (l0.length : Int)) = false := decide_eq_false fA; clear fA; (first | rw [cP] | (simp only [i64_w, i32_w]; rw [cP]) | skip); simp only [Option.some.injEq, Prod.mk.injEq] at H; obtain ⟨rfl, rfl, rfl, rfl⟩ := H; have hX := bH.out; have hY := bG.out; obtain ⟨dG, dH, dI, dJ, dK, dL⟩ := xf3 (w := wr) aJ; obtain ⟨dM, dN, dO, dP, dQ, dR⟩ := xf3 (w := wr) aL; obtain ⟨gM, gN, gO⟩ := Kd.R_slice aB.out; subst gO; go_wp2; refine bodyPost_ret (results_ct rfl _ _ aR 28 #[.int .i64 aF, .int .i64 aG, .slice gM aC.length gN] (0, 0) _ rfl xP Try.underlying28 rfl (by kernel_rfl)) rfl ?_; exact ⟨_, xerr, xrm aB (fun _ _ => trivial), xbg⟩
     case rest =>
      clear fB; try clear c1
      try clear p2
      try clear c5
      try clear c7
      try clear cO
      try clear dY
      try clear c8
      try clear c9
      try clear fA
      try clear cP
      try clear iZ
      try clear cI cJ cK
      try clear dG dH dI
      try clear dM dN dO
      try clear cT cU cV
      try clear cZ dA dB
      try clear cL cM cN
      try clear dJ dK dL
      try clear dP dQ dR
      try clear cW cX cY
      try clear dC dD dE
      try clear p2
      obtain ⟨kq, HA, HJ11, aB, aL, aJ, HB⟩ := hcut; cases kq with
      | zero => exact absurd HA.out (by simp [spec_HardOf.j2])
      | succ fC =>
       have H := HA.out; clear HA; simp only [spec_HardOf.j2] at H; by_cases fK : 0 ≤ aA
       ·rw [if_pos fK] at H; have fL : decide (0 ≤ aA) = true := decide_eq_true fK; clear fK; by_cases fM : aA < (l0.length : Int)
        ·rw [if_pos fM] at H; have fN : decide (aA < (l0.length : Int)) = true := decide_eq_true fM; clear fM; replace H := oB H; obtain ⟨⟨cQ, cS, cG, dU⟩, fO, H⟩ := H; (try dsimp only at H); have hZ := aM fO; clear fO; have fD := aM H; clear H
         obtain ⟨bL, bM, gP⟩ := Kd.R_slice aB.out; subst gP; try go_wp2
         replace aB := rD aB; replace aL := bD aL; replace aJ := bD aJ; replace HB := lD HB; have p520 : 0 ≤ (aA : Int) := oda; have q520 : aA < (l0.length : Int) := oda; obtain ⟨aE, gQ, bU, bV, bW, bX, bY, bZ, cA, cB, cC, cD⟩ := at_T38 fW.out aA p520 q520; have bB := cD; have bA := cC; have aZ := cB; have aY := cA; have aX := bZ; have aW := bY; have aV := bX; have aU := bW; have aT := bV; have aS := bU; cases gQ
         replace bU := xce HB bU; replace bV := xce HB bV; replace bW := xce HB bW; replace bX := xce HB bX; replace bY := xce HB bY; replace bZ := xce HB bZ; replace cA := xce HB cA; replace cB := xce HB cB; replace cC := xce HB cC; replace cD := xce HB cD; replace p520 := eq_true p520; replace q520 := eq_true q520; refine st_ 12 (fun w' => w'.cell? ⟨aN, 0, none⟩ = some (.int .i64 aF) ∧ w'.cell? ⟨aN, 1, none⟩ = some (.int .i64 aG) ∧ w'.cell? ⟨aN, 2, none⟩ = some (.slice bL aC.length bM) ∧ w'.cell? (aE.add ((aA).toNat * 10)) = some (.int .i64 ((rd_T38 l0 aA).f0)) ∧ w'.cell? ⟨(aE.add ((aA).toNat * 10)).block, (aE.add ((aA).toNat * 10)).off + 1, none⟩ = some (.int .i64 ((rd_T38 l0 aA).f1)) ∧ w'.cell? ⟨(aE.add ((aA).toNat * 10)).block, (aE.add ((aA).toNat * 10)).off + 2, none⟩ = some (.int .i64 ((rd_T38 l0 aA).f2)) ∧ w'.cell? ⟨(aE.add ((aA).toNat * 10)).block, (aE.add ((aA).toNat * 10)).off + 3, none⟩ = some (.int .i64 ((rd_T38 l0 aA).f3)) ∧ w'.cell? ⟨(aE.add ((aA).toNat * 10)).block, (aE.add ((aA).toNat * 10)).off + 4, none⟩ = some (.int .i64 ((rd_T38 l0 aA).f4.f0)) ∧ w'.cell? ⟨(aE.add ((aA).toNat * 10)).block, (aE.add ((aA).toNat * 10)).off + 5, none⟩ = some (.int .i64 ((rd_T38 l0 aA).f4.f1.f0)) ∧ w'.cell? ⟨(aE.add ((aA).toNat * 10)).block, (aE.add ((aA).toNat * 10)).off + 6, none⟩ = some (.int .i64 ((rd_T38 l0 aA).f4.f1.f1)) ∧ w'.cell? ⟨(aE.add ((aA).toNat * 10)).block, (aE.add ((aA).toNat * 10)).off + 7, none⟩ = some (.int .i64 ((rd_T38 l0 aA).f4.f1.f2)) ∧ w'.cell? ⟨(aE.add ((aA).toNat * 10)).block, (aE.add ((aA).toNat * 10)).off + 8, none⟩ = some (.int .i64 ((rd_T38 l0 aA).f4.f1.f3)) ∧ w'.cell? ⟨(aE.add ((aA).toNat * 10)).block, (aE.add ((aA).toNat * 10)).off + 9, none⟩ = some (.string ((rd_T38 l0 aA).f4.f1.f4))) spec_HardOf.T7 spec_HardOf.B7 ⟨xc aJ 0 rfl, xc aJ 1 rfl, xc aJ 2 rfl, (xce HB aS), (xce HB aT), (xce HB aU), (xce HB aV), (xce HB aW), (xce HB aX), (xce HB aY), (xce HB aZ), (xce HB bA), (xce HB bB)⟩ (fun hHeld HT_ HW_ => ?_); generalize wc.drew = jF at aB aL aJ HB bU bV bW bX bY bZ cA cB cC cD hHeld ⊢; refine pV 1 21 ?_; refine pV 2 22 ?_; refine pV 3 23 ?_; refine tK 0 20 ?_; refine tK 4 24 ?_
         refine join_ (σ := Value × Nat) 2 #[true, true, true, true, true, true, true, true, true, true, false, false] (fun s_ => [(25, .tuple #[.agg #[.int .i64 cQ, .int .i64 cS, s_.1], .bool dU]), (6, .pointer (some ⟨s_.2, 0, none⟩)), (19, .tuple #[.agg #[.int .i64 cQ, .int .i64 cS, s_.1], .bool dU]), (26, .agg #[.int .i64 cQ, .int .i64 cS, s_.1]), (27, .bool dU)]) (fun s_ w' => (w'.cell? ⟨aN, 0, none⟩ = some (.int .i64 aF) ∧ w'.cell? ⟨aN, 1, none⟩ = some (.int .i64 aG) ∧ w'.cell? ⟨aN, 2, none⟩ = some (.slice bL aC.length bM) ∧ w'.cell? (aE.add ((aA).toNat * 10)) = some (.int .i64 ((rd_T38 l0 aA).f0)) ∧ w'.cell? ⟨(aE.add ((aA).toNat * 10)).block, (aE.add ((aA).toNat * 10)).off + 1, none⟩ = some (.int .i64 ((rd_T38 l0 aA).f1)) ∧ w'.cell? ⟨(aE.add ((aA).toNat * 10)).block, (aE.add ((aA).toNat * 10)).off + 2, none⟩ = some (.int .i64 ((rd_T38 l0 aA).f2)) ∧ w'.cell? ⟨(aE.add ((aA).toNat * 10)).block, (aE.add ((aA).toNat * 10)).off + 3, none⟩ = some (.int .i64 ((rd_T38 l0 aA).f3)) ∧ w'.cell? ⟨(aE.add ((aA).toNat * 10)).block, (aE.add ((aA).toNat * 10)).off + 4, none⟩ = some (.int .i64 ((rd_T38 l0 aA).f4.f0)) ∧ w'.cell? ⟨(aE.add ((aA).toNat * 10)).block, (aE.add ((aA).toNat * 10)).off + 5, none⟩ = some (.int .i64 ((rd_T38 l0 aA).f4.f1.f0)) ∧ w'.cell? ⟨(aE.add ((aA).toNat * 10)).block, (aE.add ((aA).toNat * 10)).off + 6, none⟩ = some (.int .i64 ((rd_T38 l0 aA).f4.f1.f1)) ∧ w'.cell? ⟨(aE.add ((aA).toNat * 10)).block, (aE.add ((aA).toNat * 10)).off + 7, none⟩ = some (.int .i64 ((rd_T38 l0 aA).f4.f1.f2)) ∧ w'.cell? ⟨(aE.add ((aA).toNat * 10)).block, (aE.add ((aA).toNat * 10)).off + 8, none⟩ = some (.int .i64 ((rd_T38 l0 aA).f4.f1.f3)) ∧ w'.cell? ⟨(aE.add ((aA).toNat * 10)).block, (aE.add ((aA).toNat * 10)).off + 9, none⟩ = some (.string ((rd_T38 l0 aA).f4.f1.f4))) ∧ (Kd.R k36 36 w' w.heap.size (fun k_ => some k_ ≠ (.slice bL aC.length bM : Value).ownBlock) s_.1 cG) ∧ (Kd.R k36 36 w' w.heap.size (fun k_ => some k_ ≠ (s_.1 : Value).ownBlock) (.slice bL aC.length bM) aC) ∧ (w'.heap[aR]? = some (.cells #[.int .i64 bC, .int .i64 bE, .slice none 0 0] 28 (0, 0))) ∧ (w'.heap[aN]? = some (.cells #[.int .i64 aF, .int .i64 aG, .slice bL aC.length bM] 28 (0, 0))) ∧ (w'.heap[s_.2]? = some (.cells #[.int .i64 0, .int .i64 0, .slice none 0 0] 28 (0, 0))) ∧ (w.heap.size ≤ s_.2) ∧ (w.heap.size ≤ s_.2) ∧ (aR ≠ s_.2) ∧ (s_.2 ≠ aR) ∧ (aN ≠ s_.2) ∧ (s_.2 ≠ aN) ∧ (Below w.heap.size w w')) ?_ ?_; rotate_left
         ·intro hCont; refine two_ (i := 5) (j := 9) (Ni := some 25) (Nj := some 6) #[true, true, true, true, true, true, false, false, false, false, false, false] #[true, true, true, true, true, false, false, false, false, true, false, false] rfl rfl rfl rfl (two_of HT_.out (by kernel_rfl)) (by decide) (by decide) (fun K hK => ?_) (fun K hK => ?_)
          ·skip
           refine goesY Try.func33 #[.agg #[.int .i64 aF, .int .i64 aG, .slice bL aC.length bM], .agg #[.int .i64 ((rd_T38 l0 aA).f0), .int .i64 ((rd_T38 l0 aA).f1), .int .i64 ((rd_T38 l0 aA).f2), .int .i64 ((rd_T38 l0 aA).f3), .int .i64 ((rd_T38 l0 aA).f4.f0), .int .i64 ((rd_T38 l0 aA).f4.f1.f0), .int .i64 ((rd_T38 l0 aA).f4.f1.f1), .int .i64 ((rd_T38 l0 aA).f4.f1.f2), .int .i64 ((rd_T38 l0 aA).f4.f1.f3), .string ((rd_T38 l0 aA).f4.f1.f4)]] ?_; with_reducible refine (spec_HardApply.calls fC aF aG _ _ aC ((rd_T38 l0 aA).f0) ((rd_T38 l0 aA).f1) ((rd_T38 l0 aA).f2) ((rd_T38 l0 aA).f3) ((rd_T38 l0 aA).f4.f0) ((rd_T38 l0 aA).f4.f1.f0) ((rd_T38 l0 aA).f4.f1.f1) ((rd_T38 l0 aA).f4.f1.f2) ((rd_T38 l0 aA).f4.f1.f3) ((rd_T38 l0 aA).f4.f1.f4) cQ cS cG dU _ ?side1 ?side2 hZ.out).mono ?_
           (case side1 => exact xC aB); (case side2 => exact (Kd.R_reads' aB.out).2.1); rintro e jA ⟨v524, rfl, fE, hb⟩; refine ⟨_, rfl, ?_⟩; have bP := aM (Kd.R_lower (Kd.R_new' fE (Kd.R_lt (xr aB))) (below_size xbg)); replace aB := aM (Kd.R_elder' (xr aB) (Kd.R_base fE) hb); replace aL := xbb aL hb; replace aJ := xbb aJ hb; replace HB := xbs hb; (try clear hb fE); refine hK.out _ _ ⟨xc aJ 0 rfl, xc aJ 1 rfl, xc aJ 2 rfl, (xce HB aS), (xce HB aT), (xce HB aU), (xce HB aV), (xce HB aW), (xce HB aX), (xce HB aY), (xce HB aZ), (xce HB bA), (xce HB bB)⟩ (fun hHeld => ?_); clear hK K; refine nm_ (N := 25) ?_; refine pV 6 19 ?_; refine pV 7 26 ?_; refine pV 8 27 ?_; refine oN 9 6 fun K hK => ?_
           refine box_step ?hg (N := 6) ?hd (cs := #[.int .i64 0, .int .i64 0, .slice none 0 0]) (t := 28) ?hr ?_; (case hd => rfl); (case hg => rfl); (case hr => exact u12_12); intro aD hg jB hbox hb; replace aB := xrb aB hb; replace bP := xrb bP hb; have aH := aM (xge hg); have dS := aM (xge hg); replace HB := xbs hb; have aO := nblt aL hg; have aP := nbgt aL hg; have aI := nblt aJ hg; have aQ := nbgt aJ hg; replace aL := xbb aL hb; replace aJ := xbb aJ hb; have bI := aM (hbox); clear hb hbox hg; refine hK.out _ _ ⟨xc aJ 0 rfl, xc aJ 1 rfl, xc aJ 2 rfl, (xce HB aS), (xce HB aT), (xce HB aU), (xce HB aV), (xce HB aW), (xce HB aX), (xce HB aY), (xce HB aZ), (xce HB bA), (xce HB bB)⟩ (fun hHeld => ?_); clear hK K; refine nm_ (N := 6) ?_; exact norm_ u12_24 (hCont (v524, aD) _ ⟨hHeld, u12_25, u12_26, xblk, xblk, xblk, aH.out, dS.out, aO.out, aP.out, aI.out, aQ.out, xbg⟩)
          ·skip
           refine box_step ?hg (N := 6) ?hd (cs := #[.int .i64 0, .int .i64 0, .slice none 0 0]) (t := 28) ?hr ?_; (case hd => rfl); (case hg => rfl); (case hr => exact u12_12); intro aD hg jA hbox hb; replace aB := xrb aB hb; have aH := aM (xge hg); have dS := aM (xge hg); replace HB := xbs hb; have aO := nblt aL hg; have aP := nbgt aL hg; have aI := nblt aJ hg; have aQ := nbgt aJ hg; replace aL := xbb aL hb; replace aJ := xbb aJ hb; have bI := aM (hbox); clear hb hbox hg; refine hK.out _ _ ⟨xc aJ 0 rfl, xc aJ 1 rfl, xc aJ 2 rfl, (xce HB aS), (xce HB aT), (xce HB aU), (xce HB aV), (xce HB aW), (xce HB aX), (xce HB aY), (xce HB aZ), (xce HB bA), (xce HB bB)⟩ (fun hHeld => ?_); clear hK K; refine nm_ (N := 6) ?_; refine oN 5 25 fun K hK => ?_
           refine goesY Try.func33 #[.agg #[.int .i64 aF, .int .i64 aG, .slice bL aC.length bM], .agg #[.int .i64 ((rd_T38 l0 aA).f0), .int .i64 ((rd_T38 l0 aA).f1), .int .i64 ((rd_T38 l0 aA).f2), .int .i64 ((rd_T38 l0 aA).f3), .int .i64 ((rd_T38 l0 aA).f4.f0), .int .i64 ((rd_T38 l0 aA).f4.f1.f0), .int .i64 ((rd_T38 l0 aA).f4.f1.f1), .int .i64 ((rd_T38 l0 aA).f4.f1.f2), .int .i64 ((rd_T38 l0 aA).f4.f1.f3), .string ((rd_T38 l0 aA).f4.f1.f4)]] ?_; with_reducible refine (spec_HardApply.calls fC aF aG _ _ aC ((rd_T38 l0 aA).f0) ((rd_T38 l0 aA).f1) ((rd_T38 l0 aA).f2) ((rd_T38 l0 aA).f3) ((rd_T38 l0 aA).f4.f0) ((rd_T38 l0 aA).f4.f1.f0) ((rd_T38 l0 aA).f4.f1.f1) ((rd_T38 l0 aA).f4.f1.f2) ((rd_T38 l0 aA).f4.f1.f3) ((rd_T38 l0 aA).f4.f1.f4) cQ cS cG dU _ ?side1 ?side2 hZ.out).mono ?_
           (case side1 => exact xC aB); (case side2 => exact (Kd.R_reads' aB.out).2.1); rintro e jB ⟨v524, rfl, fE, hb⟩; refine ⟨_, rfl, ?_⟩; have bP := aM (Kd.R_lower (Kd.R_new' fE (Kd.R_lt (xr aB))) (below_size xbg)); replace aB := aM (Kd.R_elder' (xr aB) (Kd.R_base fE) hb); replace aL := xbb aL hb; replace aJ := xbb aJ hb; replace bI := xbb bI hb; replace HB := xbs hb; (try clear hb fE); refine hK.out _ _ ⟨xc aJ 0 rfl, xc aJ 1 rfl, xc aJ 2 rfl, (xce HB aS), (xce HB aT), (xce HB aU), (xce HB aV), (xce HB aW), (xce HB aX), (xce HB aY), (xce HB aZ), (xce HB bA), (xce HB bB)⟩ (fun hHeld => ?_); clear hK K; refine nm_ (N := 25) ?_; refine pV 6 19 ?_; refine pV 7 26 ?_; refine pV 8 27 ?_; exact norm_ u12_24 (hCont (v524, aD) _ ⟨hHeld, u12_25, u12_26, xblk, xblk, xblk, aH.out, dS.out, aO.out, aP.out, aI.out, aQ.out, xbg⟩)
         rintro ⟨v524, aD⟩ cH ⟨hS_, h0_, h1_, h2_, h3_, h4_, h5_, h6_, h7_, h8_, h9_, h10_, h11_⟩; have bP : Aside0 (Kd.R k36 36 cH w.heap.size (fun k_ => some k_ ≠ (.slice bL aC.length bM : Value).ownBlock) v524 cG) := ⟨h0_⟩; replace aB : Aside0 (Kd.R k36 36 cH w.heap.size (fun k_ => some k_ ≠ (v524 : Value).ownBlock) (.slice bL aC.length bM) aC) := ⟨h1_⟩; replace aL : Aside0 (cH.heap[aR]? = some (.cells #[.int .i64 bC, .int .i64 bE, .slice none 0 0] 28 (0, 0))) := ⟨h2_⟩; replace aJ : Aside0 (cH.heap[aN]? = some (.cells #[.int .i64 aF, .int .i64 aG, .slice bL aC.length bM] 28 (0, 0))) := ⟨h3_⟩; have bI : Aside0 (cH.heap[aD]? = some (.cells #[.int .i64 0, .int .i64 0, .slice none 0 0] 28 (0, 0))) := ⟨h4_⟩; have aH : Aside0 (w.heap.size ≤ aD) := ⟨h5_⟩; have dS : Aside0 (w.heap.size ≤ aD) := ⟨h6_⟩; have aO : Aside0 (aR ≠ aD) := ⟨h7_⟩; have aP : Aside0 (aD ≠ aR) := ⟨h8_⟩; have aI : Aside0 (aN ≠ aD) := ⟨h9_⟩; have aQ : Aside0 (aD ≠ aN) := ⟨h10_⟩; replace HB : Aside0 (Below w.heap.size w cH) := ⟨h11_⟩; clear h0_ h1_ h2_ h3_ h4_ h5_ h6_ h7_ h8_ h9_ h10_ h11_; have hHeld : cH.cell? ⟨aN, 0, none⟩ = some (.int .i64 aF) ∧ cH.cell? ⟨aN, 1, none⟩ = some (.int .i64 aG) ∧ cH.cell? ⟨aN, 2, none⟩ = some (.slice bL aC.length bM) ∧ cH.cell? (aE.add ((aA).toNat * 10)) = some (.int .i64 ((rd_T38 l0 aA).f0)) ∧ cH.cell? ⟨(aE.add ((aA).toNat * 10)).block, (aE.add ((aA).toNat * 10)).off + 1, none⟩ = some (.int .i64 ((rd_T38 l0 aA).f1)) ∧ cH.cell? ⟨(aE.add ((aA).toNat * 10)).block, (aE.add ((aA).toNat * 10)).off + 2, none⟩ = some (.int .i64 ((rd_T38 l0 aA).f2)) ∧ cH.cell? ⟨(aE.add ((aA).toNat * 10)).block, (aE.add ((aA).toNat * 10)).off + 3, none⟩ = some (.int .i64 ((rd_T38 l0 aA).f3)) ∧ cH.cell? ⟨(aE.add ((aA).toNat * 10)).block, (aE.add ((aA).toNat * 10)).off + 4, none⟩ = some (.int .i64 ((rd_T38 l0 aA).f4.f0)) ∧ cH.cell? ⟨(aE.add ((aA).toNat * 10)).block, (aE.add ((aA).toNat * 10)).off + 5, none⟩ = some (.int .i64 ((rd_T38 l0 aA).f4.f1.f0)) ∧ cH.cell? ⟨(aE.add ((aA).toNat * 10)).block, (aE.add ((aA).toNat * 10)).off + 6, none⟩ = some (.int .i64 ((rd_T38 l0 aA).f4.f1.f1)) ∧ cH.cell? ⟨(aE.add ((aA).toNat * 10)).block, (aE.add ((aA).toNat * 10)).off + 7, none⟩ = some (.int .i64 ((rd_T38 l0 aA).f4.f1.f2)) ∧ cH.cell? ⟨(aE.add ((aA).toNat * 10)).block, (aE.add ((aA).toNat * 10)).off + 8, none⟩ = some (.int .i64 ((rd_T38 l0 aA).f4.f1.f3)) ∧ cH.cell? ⟨(aE.add ((aA).toNat * 10)).block, (aE.add ((aA).toNat * 10)).off + 9, none⟩ = some (.string ((rd_T38 l0 aA).f4.f1.f4)) := hS_; obtain ⟨dV, dW, fP⟩ := Kd.R_slice bP.out; (first | subst fP | (injection fP with f1_ f2_ f3_; have f4_ := f1_.symm; have f5_ := f3_.symm; clear f1_ f2_ f3_; subst f4_; subst f5_)); refine norm_ (a' := ?_) ?_ ?_; rotate_left
         ·simp only [putAll, Act.put, List.setIfInBounds_toArray, List.set_cons_zero, List.set_cons_succ]; rfl
         refine one_ (i := 10) (N := none) #[true, true, true, true, true, true, true, true, true, true, true, false] rfl rfl (one_of HT_.out (by kernel_rfl)) (by decide) (fun K hK => ?_); have hs27 : cH.cell? ⟨aD, 0, none⟩ = some (.int .i64 0) := xc bI 0 rfl; have hfs27 := blk_frozen bI.out 0; have hns27_0 := aO.out; have hns27_1 := aI.out; have hms27_0 := aP.out; have hms27_1 := aQ.out; have hs28 : cH.cell? ⟨aD, 1, none⟩ = some (.int .i64 0) := xc bI 1 rfl; have hfs28 := blk_frozen bI.out 1; have hns28_0 := aO.out; have hns28_1 := aI.out; have hms28_0 := aP.out; have hms28_1 := aQ.out; have hs30 : cH.cell? ⟨aD, 2, none⟩ = some (.slice none 0 0) := xc bI 2 rfl; have hfs30 := blk_frozen bI.out 2; have hns30_0 := aO.out; have hns30_1 := aI.out; have hms30_0 := aP.out; have hms30_1 := aQ.out; refine skip_ (w1 := ?_) (by rfl) rfl ?_ ?_; rotate_left
         ·go_simp
          rfl
         refine hK.out _ _ ⟨((cell_far (p := ⟨aD, _, none⟩) aI.out _).trans (((cell_far (p := ⟨aD, _, none⟩) aI.out _).trans (((cell_far (p := ⟨aD, _, none⟩) aI.out _).trans (hHeld.1)))))), ((cell_far (p := ⟨aD, _, none⟩) aI.out _).trans (((cell_far (p := ⟨aD, _, none⟩) aI.out _).trans (((cell_far (p := ⟨aD, _, none⟩) aI.out _).trans (hHeld.2.1)))))), ((cell_far (p := ⟨aD, _, none⟩) aI.out _).trans (((cell_far (p := ⟨aD, _, none⟩) aI.out _).trans (((cell_far (p := ⟨aD, _, none⟩) aI.out _).trans (hHeld.2.2.1)))))), ((cell_far (p := ⟨aD, _, none⟩) u12_13 _).trans (((cell_far (p := ⟨aD, _, none⟩) u12_13 _).trans (((cell_far (p := ⟨aD, _, none⟩) u12_13 _).trans (hHeld.2.2.2.1)))))), ((cell_far (p := ⟨aD, _, none⟩) u12_14 _).trans (((cell_far (p := ⟨aD, _, none⟩) u12_14 _).trans (((cell_far (p := ⟨aD, _, none⟩) u12_14 _).trans (hHeld.2.2.2.2.1)))))), ((cell_far (p := ⟨aD, _, none⟩) u12_15 _).trans (((cell_far (p := ⟨aD, _, none⟩) u12_15 _).trans (((cell_far (p := ⟨aD, _, none⟩) u12_15 _).trans (hHeld.2.2.2.2.2.1)))))), ((cell_far (p := ⟨aD, _, none⟩) u12_16 _).trans (((cell_far (p := ⟨aD, _, none⟩) u12_16 _).trans (((cell_far (p := ⟨aD, _, none⟩) u12_16 _).trans (hHeld.2.2.2.2.2.2.1)))))), ((cell_far (p := ⟨aD, _, none⟩) u12_17 _).trans (((cell_far (p := ⟨aD, _, none⟩) u12_17 _).trans (((cell_far (p := ⟨aD, _, none⟩) u12_17 _).trans (hHeld.2.2.2.2.2.2.2.1)))))), ((cell_far (p := ⟨aD, _, none⟩) u12_18 _).trans (((cell_far (p := ⟨aD, _, none⟩) u12_18 _).trans (((cell_far (p := ⟨aD, _, none⟩) u12_18 _).trans (hHeld.2.2.2.2.2.2.2.2.1)))))), ((cell_far (p := ⟨aD, _, none⟩) u12_19 _).trans (((cell_far (p := ⟨aD, _, none⟩) u12_19 _).trans (((cell_far (p := ⟨aD, _, none⟩) u12_19 _).trans (hHeld.2.2.2.2.2.2.2.2.2.1)))))), ((cell_far (p := ⟨aD, _, none⟩) u12_20 _).trans (((cell_far (p := ⟨aD, _, none⟩) u12_20 _).trans (((cell_far (p := ⟨aD, _, none⟩) u12_20 _).trans (hHeld.2.2.2.2.2.2.2.2.2.2.1)))))), ((cell_far (p := ⟨aD, _, none⟩) u12_21 _).trans (((cell_far (p := ⟨aD, _, none⟩) u12_21 _).trans (((cell_far (p := ⟨aD, _, none⟩) u12_21 _).trans (hHeld.2.2.2.2.2.2.2.2.2.2.2.1)))))), ((cell_far (p := ⟨aD, _, none⟩) u12_22 _).trans (((cell_far (p := ⟨aD, _, none⟩) u12_22 _).trans (((cell_far (p := ⟨aD, _, none⟩) u12_22 _).trans (hHeld.2.2.2.2.2.2.2.2.2.2.2.2))))))⟩ (fun hHeld => ?_); clear hK K; refine pV 11 7 ?_; refine dn_ ?_; go_upto_if 29 with (fail)
         go_cut [] (fun wc => ∃ (kq : Nat) (bN : Int) (bO : Int), Aside0 (spec_HardOf.j3 kq l0 aA cQ cS cG = some (r1, r2, r3, r4)) ∧ Aside0 (kq ≤ fC) ∧ Aside0 (Kd.R k36 36 wc w.heap.size (fun k_ => some k_ ≠ ((.slice dV cG.length dW) : Value).ownBlock) (.slice bL aC.length bM) aC) ∧ Aside0 (Kd.R k36 36 wc w.heap.size (fun k_ => some k_ ≠ ((.slice bL aC.length bM) : Value).ownBlock) (.slice dV cG.length dW) cG) ∧ Aside0 (wc.heap[aR]? = some (.cells #[.int .i64 bN, .int .i64 bO, (.slice none 0 0)] 28 (0, 0))) ∧ Aside0 (wc.heap[aN]? = some (.cells #[.int .i64 aF, .int .i64 aG, (.slice bL aC.length bM)] 28 (0, 0))) ∧ Aside0 (wc.heap[aD]? = some (.cells #[.int .i64 cQ, .int .i64 cS, (.slice dV cG.length dW)] 28 (0, 0))) ∧ Aside0 (Below w.heap.size w wc))
         case first =>
          have H := fD.out; clear fD; by_cases fQ : dU = true
          ·subst fQ; replace H := iT H; have H' := aM H; clear H; go_wp2; go_meet
           case rel => exact ⟨_, (bC), (bE), H', ⟨by have := HJ1.out; have := HK2.out; have := HJ11.out; first | omega | exact Nat.le_refl _⟩, ⟨xrs aB⟩, ⟨xrs bP⟩, ⟨xB⟩, ⟨xB⟩, ⟨xP⟩, ⟨xbg⟩⟩
          ·replace fQ := Bool.eq_false_iff.mpr fQ; subst fQ; replace H := iN H; simp only [Option.some.injEq, Prod.mk.injEq] at H; obtain ⟨rfl, rfl, rfl, rfl⟩ := H; have iA := bH.out; have iB := bG.out; have iC := aI.out; have iD := aQ.out; obtain ⟨eC, eD, eE, eF, eG, eH⟩ := xf3 (w := cH) aJ; have iE := aO.out; have iF := aP.out; obtain ⟨eI, eJ, eK, eL, eM, eN⟩ := xf3 (w := cH) aL; go_wp2_with (first | ((with_reducible refine gate_store (t := 28) (p := 2) rfl ?_); refine store_event (t := 28) (p := 2) (v := ?vo_w37) (w1 := ((((((cH.setCell ⟨aD, 0, none⟩ (.int .i64 cQ)).setCell ⟨aD, 1, none⟩ (.int .i64 cS)).setCell ⟨aD, 2, none⟩ (.slice dV cG.length dW)).setCell ⟨aR, 0, none⟩ (.int .i64 aF)).setCell ⟨aR, 1, none⟩ (.int .i64 aG)).setCell ⟨aR, 2, none⟩ (.slice bL aC.length bM))) ?hg ?ho ?hn ?hr ?_; (case ho | hg | hn => rfl); (case hr => exact u12_12); intro iG hw; replace aB := xws hw aB; replace bP := xws hw bP; replace aL : Aside0 (iG.heap[aR]? = some (.cells #[.int .i64 aF, .int .i64 aG, .slice bL aC.length bM] 28 (0, 0))) := xwp hw; replace aJ := xwc hw aJ; replace bI : Aside0 (iG.heap[aD]? = some (.cells #[.int .i64 cQ, .int .i64 cS, .slice dV cG.length dW] 28 (0, 0))) := xwp hw; replace HB := xbw hw HB; clear hw))
           refine bodyPost_ret (results_ct rfl _ _ aR 28 #[.int .i64 aF, .int .i64 aG, .slice bL aC.length bM] (0, 0) _ rfl xblk Try.underlying28 rfl (by kernel_rfl)) rfl ?_; exact ⟨_, xerr, by (with_reducible repeat (first | apply Kd.R_alloc | apply Kd.R_drewN | apply Kd.R_drew)); exact Kd.R_mono aB.out (fun _ hk => trivial), xbg⟩
         case rest =>
          clear fD; try clear c1
          try clear p2
          try clear c3
          try clear c5
          try clear p5
          try clear q5
          try clear jG
          try clear c7
          try clear cO
          try clear dY
          try clear c8
          try clear c9
          try clear fA
          try clear cP
          try clear iZ
          try clear fK
          try clear fL
          try clear fM
          try clear fN
          try clear fQ
          try clear jH
          try clear jI
          try clear jJ
          try clear cI cJ cK
          try clear dG dH dI
          try clear dM dN dO
          try clear eC eD eE
          try clear eI eJ eK
          try clear cT cU cV
          try clear cZ dA dB
          try clear cL cM cN
          try clear dJ dK dL
          try clear dP dQ dR
          try clear eF eG eH
          try clear eL eM eN
          try clear cW cX cY
          try clear dC dD dE
          try clear bU
          try clear bV
          try clear bW
          try clear bX
          try clear bY
          try clear bZ
          try clear cA
          try clear cB
          try clear cC
          try clear cD
          try clear p2
          try clear p520
          try clear q520
          obtain ⟨kq, bN, bO, HA, HJ20, aB, dX, aL, aJ, bI, HB⟩ := hcut; cases kq with
          | zero => exact absurd HA.out (by simp [spec_HardOf.j3])
          | succ gR =>
           have H := HA.out; clear HA; simp only [spec_HardOf.j3] at H; have H' := aM H; clear H; have iH := aP.out; have iI := aO.out; have iJ := aQ.out; have iK := aI.out; obtain ⟨fX, fY, fZ, gA, gB, gE⟩ := xf3 (w := wc) bI; have iL := bH.out; have iM := bG.out; obtain ⟨gF, gG, gH, gI, gJ, gK⟩ := xf3 (w := wc) aJ; go_wp2; go_roundg gR
           case measure => have := HJ1.out; have := HK2.out; have := HJ11.out; have := HJ20.out; omega
           case rel => exact ⟨(wrap64 (aA + 1)), (bN), (bO), (cQ), (cS), (cG), (.slice dV cG.length dW), u12_10, H', ⟨by have := HJ1.out; have := HK2.out; have := HJ11.out; have := HJ20.out; omega⟩, ⟨xrm dX (fun _ _ => trivial)⟩, ⟨xB⟩, ⟨xP⟩, ⟨xbg⟩⟩
        ·rw [if_neg fM] at H; exact absurd H (by simp)
       ·rw [if_neg fK] at H; exact absurd H (by simp)

/-! ### laws_sameEntries: function 12 -/
def laws_sameEntries.l0 : Nat → List (S36) → List (S36) → Int → Option (Bool)
 | 0, _, _, _ => none
 | k + 1, x0, x1, x5 => if x5 < (x0.length : Int) then (if 0 ≤ x5 then (if x5 < (x1.length : Int) then (if (!(((rd_T36 x0 x5).f0) == ((rd_T36 x1 x5).f0)) || ((!(((rd_T36 x0 x5).f1.f0) == ((rd_T36 x1 x5).f1.f0)) || (!(((rd_T36 x0 x5).f1.f1) == ((rd_T36 x1 x5).f1.f1)) || (!(((rd_T36 x0 x5).f1.f2) == ((rd_T36 x1 x5).f1.f2)) || (!(((rd_T36 x0 x5).f1.f3) == ((rd_T36 x1 x5).f1.f3)) || (!((((rd_T36 x0 x5).f1.f4).toList) == (((rd_T36 x1 x5).f1.f4).toList))))))))) = true then (some false) else (laws_sameEntries.l0 k x0 x1 (wrap64 (x5 + 1)))) else (none)) else (none)) else (some true)
def laws_sameEntries.f (k : Nat) (l0 : List (S36)) (l1 : List (S36)) : Option (Bool) := if (l0.length : Int) = (l1.length : Int) then (laws_sameEntries.l0 k l0 l1 0) else (some false)
theorem u12_mq1 {p : Prop} (h : p := by repeat' first | (with_reducible first | exact fH _ _ _ | exact LeO.refl _ | exact LeO.none _ | refine LeO.ite ?_ ?_ | refine LeO.bind ?_ (fun _ => ?_)) | exact LeO.none _ | refine LeO.ite ?_ ?_ | refine LeO.bind ?_ (fun _ => ?_)) : p := h
set_option maxRecDepth 100000 in
theorem laws_sameEntries.mono_l : ∀ k, (∀ y0 y1 y2, LeO (laws_sameEntries.l0 k y0 y1 y2) (laws_sameEntries.l0 (k + 1) y0 y1 y2))
 | 0 => fun _ _ _ r h => by simp [laws_sameEntries.l0] at h
 | k + 1 => by
  have fH := laws_sameEntries.mono_l k
  ·intro y0 y1 y2; unfold laws_sameEntries.l0; exact u12_mq1
theorem laws_sameEntries.mono : ∀ a0 a1 k, LeO (laws_sameEntries.f k a0 a1) (laws_sameEntries.f (k + 1) a0 a1) := by
 intro a0 a1 k
 have fH := laws_sameEntries.mono_l k
 unfold laws_sameEntries.f
 exact u12_mq1
set_option maxHeartbeats 8000000 in
set_option maxRecDepth 100000 in
theorem laws_sameEntries.calls (k : Nat) (A0 : Option Addr) (c0 : Nat) (l0 : List (S36)) (A1 : Option Addr) (c1 : Nat) (l1 : List (S36)) (r : Bool) (w : World) (fI : Kd.C k36 w A0 l0.length l0) (fJ : l0.length ≤ c0) (iO : Kd.C k36 w A1 l1.length l1) (iP : l1.length ≤ c1) (h : laws_sameEntries.f k l0 l1 = some r) :
 Calls Try.prog 12 #[.slice A0 l0.length c0, .slice A1 l1.length c1] w fun e w' => e = .returned (.bool r) ∧ Drawn0 w w' := by
 have jC := Try.underlying36
 have fW := aM fI
 have iU := aM fJ
 clear fI fJ
 have iQ := aM iO
 have jK := aM iP
 clear iO iP
 have H : (if (l0.length : Int) = (l1.length : Int) then (laws_sameEntries.l0 k l0 l1 0) else (some false)) = some r := h
 clear h
 by_cases c3 : (l0.length : Int) = (l1.length : Int)
 ·rw [if_pos c3] at H; obtain ⟨fR, fS⟩ := bT c3; have fT : (l0.length == l1.length) = true := by first | simpa using c3 | (simp at c3 ⊢; omega)
  clear c3; have H' := aM H; clear H; go_enter Try.func12, Try.ntmps12
  go_wp2
  repeat (go_quiet (fail); try go_wp2)
  go_loopg [5] k (fun kq v5 w' => ∃ (aK : Int), v5 = .int .i64 aK ∧ Aside0 (laws_sameEntries.l0 kq l0 l1 aK = some r) ∧ Aside0 (kq ≤ k) ∧ Drawn0 w w')
  case atStart => exact ⟨(0), u12_10, H', ⟨Nat.le_refl _⟩, u12_11⟩
  case round =>
   clear H'; try clear c1
   try clear p2
   try clear c3
   try clear fR
   try clear fS
   try clear fT
   obtain ⟨aK, rfl, HA, HK1, ⟨m1, rfl⟩⟩ := hrel; cases gk with
   | zero => exact absurd HA.out (by simp [laws_sameEntries.l0])
   | succ k1 =>
    have H := HA.out; clear HA; simp only [laws_sameEntries.l0] at H; by_cases c4 : aK < (l0.length : Int)
    ·rw [if_pos c4] at H; have gS : decide (aK < (l0.length : Int)) = true := decide_eq_true c4; clear c4; by_cases c5 : 0 ≤ aK
     ·rw [if_pos c5] at H; have jD : decide (0 ≤ aK) = true := decide_eq_true c5; clear c5; by_cases c6 : aK < (l1.length : Int)
      ·rw [if_pos c6] at H; have jE : decide (aK < (l1.length : Int)) = true := decide_eq_true c6; clear c6; by_cases c7 : (!(((rd_T36 l0 aK).f0) == ((rd_T36 l1 aK).f0)) || ((!(((rd_T36 l0 aK).f1.f0) == ((rd_T36 l1 aK).f1.f0)) || (!(((rd_T36 l0 aK).f1.f1) == ((rd_T36 l1 aK).f1.f1)) || (!(((rd_T36 l0 aK).f1.f2) == ((rd_T36 l1 aK).f1.f2)) || (!(((rd_T36 l0 aK).f1.f3) == ((rd_T36 l1 aK).f1.f3)) || (!((((rd_T36 l0 aK).f1.f4).toList) == (((rd_T36 l1 aK).f1.f4).toList))))))))) = true
       ·rw [if_pos c7] at H; have cO : (!(((rd_T36 l0 aK).f0) == ((rd_T36 l1 aK).f0)) || ((!(((rd_T36 l0 aK).f1.f0) == ((rd_T36 l1 aK).f1.f0)) || (!(((rd_T36 l0 aK).f1.f1) == ((rd_T36 l1 aK).f1.f1)) || (!(((rd_T36 l0 aK).f1.f2) == ((rd_T36 l1 aK).f1.f2)) || (!(((rd_T36 l0 aK).f1.f3) == ((rd_T36 l1 aK).f1.f3)) || (!((((rd_T36 l0 aK).f1.f4).toList) == (((rd_T36 l1 aK).f1.f4).toList))))))))) = true := c7; clear c7; obtain rfl := Option.some.inj H; have p528 : 0 ≤ (aK : Int) := oda; have q528 : aK < (l0.length : Int) := oda; obtain ⟨fU, fF, eO, eP, eQ, eR, eS, eT⟩ := at_T36 fW.out aK p528 q528; cases fF
        replace p528 := eq_true p528; replace q528 := eq_true q528; have p529 : 0 ≤ (aK : Int) := oda; have q529 : aK < (l1.length : Int) := oda; obtain ⟨fV, fG, eU, eV, eW, eX, eY, eZ⟩ := at_T36 iQ.out aK p529 q529; cases fG
        replace p529 := eq_true p529; replace q529 := eq_true q529; go_wp2
        repeat (go_quiet (fail); try go_wp2)
        go_ret
        exact ⟨u12_10, u12_11⟩
       ·rw [if_neg c7] at H; have cO : (!(((rd_T36 l0 aK).f0) == ((rd_T36 l1 aK).f0)) || ((!(((rd_T36 l0 aK).f1.f0) == ((rd_T36 l1 aK).f1.f0)) || (!(((rd_T36 l0 aK).f1.f1) == ((rd_T36 l1 aK).f1.f1)) || (!(((rd_T36 l0 aK).f1.f2) == ((rd_T36 l1 aK).f1.f2)) || (!(((rd_T36 l0 aK).f1.f3) == ((rd_T36 l1 aK).f1.f3)) || (!((((rd_T36 l0 aK).f1.f4).toList) == (((rd_T36 l1 aK).f1.f4).toList))))))))) = false := by simpa using c7
        clear c7; have H' := aM H; clear H; have p528 : 0 ≤ (aK : Int) := oda; have q528 : aK < (l0.length : Int) := oda; obtain ⟨fU, fF, eO, eP, eQ, eR, eS, eT⟩ := at_T36 fW.out aK p528 q528; cases fF
        replace p528 := eq_true p528; replace q528 := eq_true q528; have p529 : 0 ≤ (aK : Int) := oda; have q529 : aK < (l1.length : Int) := oda; obtain ⟨fV, fG, eU, eV, eW, eX, eY, eZ⟩ := at_T36 iQ.out aK p529 q529; cases fG
        replace p529 := eq_true p529; replace q529 := eq_true q529; go_wp2
        repeat (go_quiet (fail); try go_wp2)
        go_roundg k1
        case measure => have := HK1.out; omega
        case rel => exact ⟨(wrap64 (aK + 1)), u12_10, H', ⟨by have := HK1.out; omega⟩, u12_11⟩
      ·rw [if_neg c6] at H; exact absurd H (by simp)
     ·rw [if_neg c5] at H; exact absurd H (by simp)
    ·rw [if_neg c4] at H; have gS : decide (aK < (l0.length : Int)) = false := decide_eq_false c4; clear c4; obtain rfl := Option.some.inj H; go_wp2
     repeat (go_quiet (fail); try go_wp2)
     go_ret
     exact ⟨u12_10, u12_11⟩
 ·rw [if_neg c3] at H; obtain ⟨fR, fS⟩ := bF c3; have fT : (l0.length == l1.length) = false := by first | simpa using c3 | (simp at c3 ⊢; omega)
  obtain rfl := Option.some.inj H; go_enter Try.func12, Try.ntmps12
  go_wp2
  repeat (go_quiet (fail); try go_wp2)
  go_ret
  exact ⟨u12_10, u12_11⟩

end Go.Proofs.Ytocpomkfilpflaa.QFnHardRun
