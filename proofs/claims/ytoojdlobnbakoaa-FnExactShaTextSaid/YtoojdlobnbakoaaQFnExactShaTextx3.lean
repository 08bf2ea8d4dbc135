-- A walk, by a program of this session.
import Derived.Test.YtoojdlobnbakoaaQFnExactShaTextx0
import Derived.Test.YtoojdlobnbakoaaQFnExactShaTextx2
namespace Go.Proofs.Ytoojdlobnbakoaa.QFnExactShaText
open Go.RowKit Go.Proofs.YtoojdlobnbakoaaW.PrintWords Go.Proofs.YtoojdlobnbakoaaW.PrintLast Go.Proofs.YtoojdlobnbakoaaW.PrintMore
attribute [local go_sem] max2_int min2_int max_two min_two max_three min_three max_four min_four   -- for this text's walks alone
set_option linter.unusedVariables false
set_option linter.unusedSimpArgs false

theorem u3_0 {p : Prop} (h : p := by first | (rw [hY]; with_reducible exact H) | (have H2_ := oS H; rw [hY]; with_reducible exact H2_) | (have H2_ := oS H; with_reducible exact H2_) | with_reducible exact H | (rw [hY]; exact H) | exact H) : p := h
theorem u3_1 {p : Prop} (h : p := by first | rfl | (simp; done) | (simp [*]; done)) : p := h
theorem u3_2 {p : Prop} (h : p := by first | (go_simp; done) | (go_simp; rfl)) : p := h
theorem u3_3 {p : Prop} (h : p := by (with_reducible repeat (first | apply Kd.R_alloc | apply Kd.R_drewN | apply Kd.R_drew)); exact aG.out) : p := h
theorem u3_4 {p : Prop} (h : p := by (with_reducible repeat (first | apply Kd.R_alloc | apply Kd.R_drewN | apply Kd.R_drew)); exact Kd.R_mono aG.out (fun _ hk => hk.2)) : p := h
theorem u3_5 {p : Prop} (h : p := by (with_reducible repeat (first | apply Kd.R_alloc | apply Kd.R_drewN | apply Kd.R_drew)); exact aN.out) : p := h
theorem u3_6 {p : Prop} (h : p := by (with_reducible repeat (first | apply Kd.R_alloc | apply Kd.R_drewN | apply Kd.R_drew)); exact Kd.R_mono aG.out (fun _ hk => ⟨trivial, hk⟩)) : p := h
theorem u3_7 {p : Prop} (h : p := by repeat (first | (with_reducible exact cF.out) | (with_reducible refine Kd.C_alloc ?_ _) | (with_reducible refine Kd.C_drewN ?_ _) | (with_reducible refine Kd.C_drew ?_) | exact cF.out)) : p := h
theorem u3_8 {p : Prop} (h : p := by (with_reducible repeat (first | apply Kd.R_alloc | apply Kd.R_drewN | apply Kd.R_drew)); exact aJ.out) : p := h
theorem u3_9 {p : Prop} (h : p := by exact (by (with_reducible repeat (first | apply Kd.R_alloc | apply Kd.R_drewN | apply Kd.R_drew)); exact Kd.R_mono aG.out (fun _ hk => hk.2))) : p := h
theorem u3_10 {p : Prop} (h : p := by (with_reducible repeat (first | apply Kd.V_alloc | apply Kd.V_drewN | apply Kd.V_drew)); exact bB.out) : p := h
/-! ### spec_Sha: function 30 -/
mutual
def spec_Sha.l0 : Nat → List Int → List Int → List Int → Option (List Int)
 | 0, _, _, _ => none
 | k + 1, x0, x3, x4 => if ((x4.length : Int) % 64) = 56 then (spec_Sha.l1 k x0 x3 x4 7) else (if x4.length < 140737488355328 then (spec_Sha.l0 k x0 x3 (x4 ++ [0])) else (none))
def spec_Sha.l1 : Nat → List Int → List Int → List Int → Int → Option (List Int)
 | 0, _, _, _, _ => none
 | k + 1, x0, x3, x4, x5 => if x5 ≥ 0 then (if 0 ≤ (wrap64 (8 * x5)) then (if x4.length < 140737488355328 then (spec_Sha.l1 k x0 x3 (x4 ++ [(shr .i64 (wrap64 (8 * (x0.length : Int))) (wrap64 (8 * x5))) % 256]) (wrap64 (x5 - 1))) else (none)) else (none)) else (spec_Sha.l2 k x3 x4 (([1779033703, 3144134277, 1013904242, 2773480762, 1359893119, 2600822924, 528734635, 1541459225] : List Int)) 0)
def spec_Sha.l2 : Nat → List Int → List Int → List Int → Int → Option (List Int)
 | 0, _, _, _, _ => none
 | k + 1, x3, x4, x6, x7 => if x7 < (x4.length : Int) then (if 0 ≤ x7 then (if x7 ≤ (wrap64 (x7 + 64)) then (if (wrap64 (x7 + 64)) ≤ (x4.length : Int) then ((spec_l2Block.f k x6 ((x4.take ((wrap64 (x7 + 64)) : Int).toNat).drop (x7 : Int).toNat)).bind fun cB => (spec_Sha.l2 k x3 x4 cB (wrap64 (x7 + 64)))) else (none)) else (none)) else (none)) else (spec_Sha.l3 k x3 x6 0)
def spec_Sha.l3 : Nat → List Int → List Int → Int → Option (List Int)
 | 0, _, _, _ => none
 | k + 1, x3, x6, x8 => if x8 < 8 then (if 0 ≤ x8 then (if x8 < (x6.length : Int) then ((some (([((rd x6 x8) / 16777216) % 256, ((rd x6 x8) / 65536) % 256, ((rd x6 x8) / 256) % 256, (rd x6 x8) % 256] : List Int) : List Int)).bind fun bC => (if x3.length + bC.length < 140737488355328 then (spec_Sha.l3 k (x3 ++ bC) x6 (wrap64 (x8 + 1))) else (none))) else (none)) else (none)) else (some x3)
end
def spec_Sha.f (k : Nat) (l0 : List Int) : Option (List Int) := (some (([] : List Int) : List Int)).bind fun aI => (if (l0.length : Int) > 4000 then (some aI) else ((some (([] : List Int) : List Int)).bind fun aT => (if aT.length + l0.length < 140737488355328 then ((some (aT ++ l0 : List Int)).bind fun aQ => (if aQ.length < 140737488355328 then (spec_Sha.l0 k l0 aI (aQ ++ [128])) else (none))) else (none))))
theorem u3_mq0 {p : Prop} (h : p := by repeat' first | (with_reducible first | exact dL _ _ _ | exact gH _ _ _ _ | exact gI _ _ _ _ | exact gJ _ _ _ | exact spec_l2Block.mono _ _ _ | exact LeO.refl _ | exact LeO.none _ | refine LeO.ite ?_ ?_ | refine LeO.bind ?_ (fun _ => ?_)) | exact LeO.none _ | refine LeO.ite ?_ ?_ | refine LeO.bind ?_ (fun _ => ?_)) : p := h
set_option maxRecDepth 100000 in
theorem spec_Sha.mono_l : ∀ k, (∀ y0 y1 y2, LeO (spec_Sha.l0 k y0 y1 y2) (spec_Sha.l0 (k + 1) y0 y1 y2)) ∧ (∀ y0 y1 y2 y3, LeO (spec_Sha.l1 k y0 y1 y2 y3) (spec_Sha.l1 (k + 1) y0 y1 y2 y3)) ∧ (∀ y0 y1 y2 y3, LeO (spec_Sha.l2 k y0 y1 y2 y3) (spec_Sha.l2 (k + 1) y0 y1 y2 y3)) ∧ (∀ y0 y1 y2, LeO (spec_Sha.l3 k y0 y1 y2) (spec_Sha.l3 (k + 1) y0 y1 y2))
 | 0 => ⟨fun _ _ _ r h => by simp [spec_Sha.l0] at h, fun _ _ _ _ r h => by simp [spec_Sha.l1] at h, fun _ _ _ _ r h => by simp [spec_Sha.l2] at h, fun _ _ _ r h => by simp [spec_Sha.l3] at h⟩
 | k + 1 => by
  obtain ⟨dL, gH, gI, gJ⟩ := spec_Sha.mono_l k; refine ⟨?_, ?_, ?_, ?_⟩
  ·intro y0 y1 y2; unfold spec_Sha.l0; exact u3_mq0
  ·intro y0 y1 y2 y3; unfold spec_Sha.l1; exact u3_mq0
  ·intro y0 y1 y2 y3; unfold spec_Sha.l2; exact u3_mq0
  ·intro y0 y1 y2; unfold spec_Sha.l3; exact u3_mq0
theorem spec_Sha.mono : ∀ a0 k, LeO (spec_Sha.f k a0) (spec_Sha.f (k + 1) a0) := by
 intro a0 k
 obtain ⟨dL, gH, gI, gJ⟩ := spec_Sha.mono_l k
 unfold spec_Sha.f
 exact u3_mq0
def spec_Sha.T19 : Bool × List (List Nat × List Nat) := (true, [([], []), ([], []), ([], []), ([1, 2], [1, 2]), ([3], [3]), ([4], [4]), ([5], [5]), ([], []), ([], []), ([7, 8], [7, 8]), ([9], [9]), ([10], [10]), ([11], [11]), ([], []), ([], []), ([13, 14], [13, 14]), ([15], [15]), ([16], [16]), ([17], [17]), ([], []), ([], []), ([19, 20], [19, 20]), ([21], [21]), ([22], [22]), ([6, 12, 18, 23], [6, 12, 18, 23]), ([0, 24], [0, 24]), ([25, 25, 0, 1, 2, 3, 4, 5, 6, 7, 8, 9, 10, 11, 12, 13, 14, 15, 16, 17, 18, 19, 20, 21, 22, 23, 24, 25], [0, 25])])
def spec_Sha.B19 : List Nat := [0, 0, 0, 6, 14, 30, 62, 0, 0, 384, 896, 1920, 3968, 0, 0, 24576, 57344, 122880, 253952, 0, 0, 1572864, 3670016, 7864320, 16777214, 33554431, 67108863]
theorem spec_Sha.tab19 : rtab .any (opsOf Try.f30 19) = spec_Sha.T19 := by kernel_rfl
theorem spec_Sha.bits19 : waitsOk spec_Sha.T19.2 spec_Sha.B19 = true := by kernel_rfl
set_option maxHeartbeats 8000000 in
set_option maxRecDepth 100000 in
theorem spec_Sha.calls (k : Nat) (A0 : Option Addr) (c0 : Nat) (l0 : List Int) (r : List Int) (w : World) (dM : Kd.C (Kd.int .u8) w A0 l0.length l0) (dN : l0.length ≤ c0) (h : spec_Sha.f k l0 = some r) :
 Calls Try.prog 30 #[.slice A0 l0.length c0] w fun e w' => ∃ v0_ : Value, e = .returned (v0_) ∧ Kd.R (Kd.int .u8) 5 w' w.heap.size (fun _ => True) v0_ r ∧ Below w.heap.size w w' := by
 have fD := aM dM
 have gQ := aM dN
 clear dM dN
 have HB := aM (Below.refl w.heap.size w)
 have H : ((some (([] : List Int) : List Int)).bind fun aI => (if (l0.length : Int) > 4000 then (some aI) else ((some (([] : List Int) : List Int)).bind fun aT => (if aT.length + l0.length < 140737488355328 then ((some (aT ++ l0 : List Int)).bind fun aQ => (if aQ.length < 140737488355328 then (spec_Sha.l0 k l0 aI (aQ ++ [128])) else (none))) else (none))))) = some r := h
 clear h
 obtain ⟨aI, hY⟩ : ∃ y_ : List Int, y_ = (([] : List Int)) := ⟨_, rfl⟩
 replace H : (if (l0.length : Int) > 4000 then (some aI) else ((some (([] : List Int) : List Int)).bind fun aT => (if aT.length + l0.length < 140737488355328 then ((some (aT ++ l0 : List Int)).bind fun aQ => (if aQ.length < 140737488355328 then (spec_Sha.l0 k l0 aI (aQ ++ [128])) else (none))) else (none)))) = some r := u3_0
 have bR := aM hY
 clear hY
 by_cases c2 : (l0.length : Int) > 4000
 ·rw [if_pos c2] at H; have bA : decide (4000 < (l0.length : Int)) = true := decide_eq_true c2; have bE : decide (4000 < l0.length) = true := decide_eq_true (by omega); clear c2; obtain rfl := Option.some.inj H; go_enter Try.func30, Try.ntmps30
  go_wp2_with (first | ((with_reducible refine gD 9 rfl ?_); refine Kd.R_lit (Kd.int .u8) _ 5 ?hg (N := 9) ?hd (xs := ([] : List Int)) (inner := []) (ok := fun _ => True) (okp := fun _ => True) ?hr ?hp (fun _ hk => hk) trivial (Below.refl _ _) (Nat.le_refl _) (by simp) ?_; (case hd => rfl); (case hg => rfl); (case hr => exact u3_2); (case hp => exact (Reps.none _ _)); intro v179 w3 cG hb hg_ hnew_; clear hg_ hnew_; (first | rw [← bR.out] at cG | (simp only [Int.reduceToNat] at cG; rw [← bR.out] at cG)); have aK := aM (Kd.R_lower cG (below_size xbel)); replace HB := xbs hb; clear hb cG))
  go_ret
  exact ⟨_, xerr, by (with_reducible repeat (first | apply Kd.R_alloc | apply Kd.R_drewN | apply Kd.R_drew)); exact aK.out, xbel⟩
 ·rw [if_neg c2] at H; have bA : decide (4000 < (l0.length : Int)) = false := decide_eq_false c2; have bE : decide (4000 < l0.length) = false := decide_eq_false (by omega); clear c2; obtain ⟨aT, hY⟩ : ∃ y_ : List Int, y_ = (([] : List Int)) := ⟨_, rfl⟩; replace H : (if aT.length + l0.length < 140737488355328 then ((some (aT ++ l0 : List Int)).bind fun aQ => (if aQ.length < 140737488355328 then (spec_Sha.l0 k l0 aI (aQ ++ [128])) else (none))) else (none)) = some r := u3_0; have cO := aM hY; clear hY; by_cases c5 : aT.length + l0.length < 140737488355328
  ·rw [if_pos c5] at H; have LMc5 := aM c5; clear c5; obtain ⟨aQ, hY⟩ : ∃ y_ : List Int, y_ = (aT ++ l0) := ⟨_, rfl⟩; replace H : (if aQ.length < 140737488355328 then (spec_Sha.l0 k l0 aI (aQ ++ [128])) else (none)) = some r := u3_0; have dO := aM hY; clear hY; by_cases c6 : aQ.length < 140737488355328
   ·rw [if_pos c6] at H; have LMc6 := aM c6; clear c6; obtain ⟨dP, hY⟩ : ∃ y_ : List Int, y_ = (aQ ++ [128]) := ⟨_, rfl⟩; replace H : (spec_Sha.l0 k l0 aI dP) = some r := u3_0; have dQ := aM hY; clear hY; have H' := aM H; clear H; go_enter Try.func30, Try.ntmps30
    go_wp2_with (first | ((with_reducible refine gD 9 rfl ?_); refine Kd.R_lit (Kd.int .u8) _ 5 ?hg (N := 9) ?hd (xs := ([] : List Int)) (inner := []) (ok := fun _ => True) (okp := fun _ => True) ?hr ?hp (fun _ hk => hk) trivial (Below.refl _ _) (Nat.le_refl _) (by simp) ?_; (case hd => rfl); (case hg => rfl); (case hr => exact u3_2); (case hp => exact (Reps.none _ _)); intro v179 w7 dR hb hg_ hnew_; clear hg_ hnew_; (first | rw [← bR.out] at dR | (simp only [Int.reduceToNat] at dR; rw [← bR.out] at dR)); have aK := aM (Kd.R_lower dR (below_size xbel)); replace HB := xbs hb; clear hb dR) | ((with_reducible refine gD 14 rfl ?_); refine Kd.R_lit (Kd.int .u8) _ 5 ?hg (N := 14) ?hd (xs := ([] : List Int)) (inner := []) (ok := fun _ => True) (okp := fun _ => True) ?hr ?hp (fun _ hk => hk) trivial (Below.refl _ _) (Nat.le_refl _) (by simp) ?_; (case hd => rfl); (case hg => rfl); (case hr => exact u3_2); (case hp => exact (Reps.none _ _)); intro v182 w9 cC hb hg_ hnew_; clear hg_ hnew_; (first | rw [← cO.out] at cC | (simp only [Int.reduceToNat] at cC; rw [← cO.out] at cC)); have cP := aM (Kd.R_lower (Kd.R_new' cC (Kd.R_lt (xr aK))) (below_size xbel)); replace aK := aM (Kd.R_elder' (xr aK) (Kd.R_base cC) hb); replace HB := xbs hb; clear hb cC) | ((with_reducible refine gate_builtin (b := .append) (xs := #[.tmp 14, .tmp 15]) rfl ?_); at_builtin; refine Kd.R_append_rows (Kd.int .u8) (w0 := w) w.heap.size rfl (.tmp 14) (.tmp 15) 22 5 (.int .u8 0) 1 rfl Try.underlying22 info5 rfl (by decide) (by omega) v182 aT l0 _ _ _ (fun k_ => some k_ ≠ (v179 : Value).ownBlock) (fun _ => False) rfl rfl ?aO ?aR (fun _ _ h => h) (fun _ h => h.elim) ?aF ?aB ?aS ?aL ?_; (case aR => exact xcb fD); (case aB => exact xbel); (case aF => exact (fun k_ hk => Kd.fresh' (Kd.R_lt (xr aK)) k_ hk)); (case aO => exact (by (with_reducible repeat (first | apply Kd.R_alloc | apply Kd.R_drewN | apply Kd.R_drew)); exact Kd.R_mono cP.out (fun _ hk => hk.2))); (case aS => exact (below_size xbel)); (case aL => have := LMc5.out; omega); intro v185 iH ho hb hg hat; rw [← dO.out] at ho; replace aK := aM (Kd.R_after (ok := (fun _ => True)) (xr aK) hg hat); replace HB := aM (hb); have cQ := aM (ho); clear cP; clear ho hb hg hat) | ((with_reducible refine gate_builtin (b := .append) (xs := #[.tmp 16, .tmp 17]) rfl ?_); at_builtin; refine Kd.R_append (Kd.int .u8) (w0 := w) w.heap.size rfl (.tmp 16) (.tmp 17) 22 5 (.int .u8 0) 1 rfl Try.underlying22 info5 rfl (by decide) (by omega) v185 aQ 128 [.int .u8 128] (fun k_ => some k_ ≠ (v179 : Value).ownBlock) (fun _ => False) rfl rfl ?aP (fun _ hk => hk.elim) ?aF ?aO ?aB ?aS ?aL ?_; (case aP => exact rfl); (case aB => exact xbel); (case aF => exact (fun k_ hk => Kd.fresh' (Kd.R_lt (xr aK)) k_ hk)); (case aO => exact (xr cQ)); (case aS => exact (below_size xbel)); (case aL => have := LMc6.out; omega); intro v188 gR ho hb hg hat; rw [← dQ.out] at ho; replace aK := aM (Kd.R_after (ok := (fun _ => True)) (xr aK) hg hat); replace HB := aM (hb); have dS := aM (ho); clear cQ; clear ho hb hg hat))
    go_loopg [4] k (fun kq v4 w' => ∃ (aE : List Int), Aside0 (spec_Sha.l0 kq l0 aI aE = some r) ∧ Aside0 (kq ≤ k) ∧ Aside0 (Kd.R (Kd.int .u8) 5 w' w.heap.size (fun k_ => some k_ ≠ (v4 : Value).ownBlock) v179 aI) ∧ Aside0 (Kd.R (Kd.int .u8) 5 w' w.heap.size (fun k_ => some k_ ≠ (v179 : Value).ownBlock) v4 aE) ∧ Aside0 (Below w.heap.size w w'))
    case atStart => exact ⟨(dP), H', ⟨Nat.le_refl _⟩, ⟨by (with_reducible repeat (first | apply Kd.R_alloc | apply Kd.R_drewN | apply Kd.R_drew)); exact Kd.R_mono aK.out (fun _ hk => hk.2)⟩, ⟨by (with_reducible repeat (first | apply Kd.R_alloc | apply Kd.R_drewN | apply Kd.R_drew)); exact dS.out⟩, ⟨xbel⟩⟩
    case round =>
     clear H'; try clear c2
     try clear bA
     try clear bE
     try clear p2
     try clear c3
     try clear c5
     try clear c6
     obtain ⟨aE, HA, HK1, aG, aN, HB⟩ := hrel; cases gk with
     | zero => exact absurd HA.out (by simp [spec_Sha.l0])
     | succ k1 =>
      have H := HA.out; clear HA; simp only [spec_Sha.l0] at H; by_cases cS : ((aE.length : Int) % 64) = 56
      ·rw [if_pos cS] at H; obtain ⟨bU, bV⟩ := bT cS; clear cS; have H' := aM H; clear H; obtain ⟨gS, gT, fJ⟩ := Kd.R_slice aN.out; subst fJ; go_wp2; go_loopg [4, 5] k1 (fun kq v4 v5 w' => ∃ (aH : List Int) (aW : Int), v5 = .int .i64 aW ∧ Aside0 (spec_Sha.l1 kq l0 aI aH aW = some r) ∧ Aside0 (kq ≤ k1) ∧ Aside0 (Kd.R (Kd.int .u8) 5 w' w.heap.size (fun k_ => some k_ ≠ (v4 : Value).ownBlock) v179 aI) ∧ Aside0 (Kd.R (Kd.int .u8) 5 w' w.heap.size (fun k_ => some k_ ≠ (v179 : Value).ownBlock) v4 aH) ∧ Aside0 (Below w.heap.size w w'))
       case atStart => exact ⟨(aE), (7), u3_1, H', ⟨Nat.le_refl _⟩, ⟨u3_3⟩, ⟨u3_5⟩, ⟨xbel⟩⟩
       case round =>
        clear H'; try clear c1
        try clear c2
        try clear bA
        try clear bE
        try clear p2
        try clear c3
        try clear c5
        try clear c6
        try clear cS
        try clear bU
        try clear bV
        try clear p2
        obtain ⟨aH, aW, rfl, HA, HK2, aG, aN, HB⟩ := hrel; cases gk with
        | zero => exact absurd HA.out (by simp [spec_Sha.l1])
        | succ k2 =>
         have H := HA.out; clear HA; simp only [spec_Sha.l1] at H; by_cases cT : aW ≥ 0
         ·rw [if_pos cT] at H; have cH : decide (0 ≤ aW) = true := decide_eq_true cT; clear cT; obtain ⟨ji16, hji16⟩ : ∃ j_ : Int, (wrap64 (8 * aW)) = j_ := ⟨_, rfl⟩; replace H : (if 0 ≤ (ji16) then (if aH.length < 140737488355328 then (spec_Sha.l1 k2 l0 aI (aH ++ [(shr .i64 (wrap64 (8 * (l0.length : Int))) (ji16)) % 256]) (wrap64 (aW - 1))) else (none)) else (none)) = some r := by first | (rw [hji16] at H; exact H) | (simp only [hji16] at H ⊢; exact H)
          have hji16w : (IntKind.i64.wrap (8 * aW)) = ji16 := (i64_w _).trans hji16; by_cases dD : 0 ≤ (ji16)
          ·rw [if_pos dD] at H; have cU := eq_true dD; have cV : decide (0 ≤ (ji16)) = true := decide_eq_true dD; clear dD; obtain ⟨ji18, hji18⟩ : ∃ j_ : Int, (shr .i64 (wrap64 (8 * (l0.length : Int))) (ji16)) = j_ := ⟨_, rfl⟩; replace H : (if aH.length < 140737488355328 then (spec_Sha.l1 k2 l0 aI (aH ++ [(ji18) % 256]) (wrap64 (aW - 1))) else (none)) = some r := by first | (rw [hji18] at H; exact H) | (simp only [hji18] at H ⊢; exact H)
           have hji18_ : ((wrap64 (8 * (l0.length : Int))) / 2 ^ min (ji16).toNat 64) = ji18 := hji18; have hji18z : (ji16) ≤ 64 → ((wrap64 (8 * (l0.length : Int))) / 2 ^ (ji16).toNat) = ji18 := shr_small hji18; by_cases dI : aH.length < 140737488355328
           ·rw [if_pos dI] at H; have LMc19 := aM dI; clear dI; obtain ⟨dU, hY⟩ : ∃ y_ : List Int, y_ = (aH ++ [(ji18) % 256]) := ⟨_, rfl⟩; replace H : (spec_Sha.l1 k2 l0 aI dU (wrap64 (aW - 1))) = some r := u3_0; have dV := aM hY; clear hY; have H' := aM H; clear H; go_wp2_with (first | ((with_reducible refine gate_builtin (b := .append) (xs := #[.tmp 30, .tmp 38]) rfl ?_); at_builtin; refine Kd.R_append (Kd.int .u8) (w0 := w) w.heap.size rfl (.tmp 30) (.tmp 38) 22 5 (.int .u8 0) 1 rfl Try.underlying22 info5 rfl (by decide) (by omega) u4 aH ((ji18) % 256) [.int .u8 ((ji18) % 256)] (fun k_ => some k_ ≠ (v179 : Value).ownBlock) (fun _ => False) rfl rfl ?aP (fun _ hk => hk.elim) ?aF ?aO ?aB ?aS ?aL ?_; (case aP => exact rfl); (case aB => exact xbel); (case aF => exact (fun k_ hk => Kd.fresh' (Kd.R_lt (xr aG)) k_ hk)); (case aO => exact (xr aN)); (case aS => exact (below_size xbel)); (case aL => have := LMc19.out; omega); intro v194 iI ho hb hg hat; rw [← dV.out] at ho; replace aG := aM (Kd.R_after (ok := (fun _ => True)) u3_6 hg hat); replace HB := aM (hb); have dW := aM (ho); clear aN; clear ho hb hg hat))
            go_roundg k2
            case measure => have := HK1.out; have := HK2.out; omega
            case rel => exact ⟨(dU), (wrap64 (aW - 1)), u3_1, H', ⟨by have := HK1.out; have := HK2.out; omega⟩, ⟨u3_4⟩, ⟨by (with_reducible repeat (first | apply Kd.R_alloc | apply Kd.R_drewN | apply Kd.R_drew)); exact dW.out⟩, ⟨xbel⟩⟩
           ·rw [if_neg dI] at H; exact absurd H (by simp)
          ·rw [if_neg dD] at H; exact absurd H (by simp)
         ·rw [if_neg cT] at H; have cH : decide (0 ≤ aW) = false := decide_eq_false cT; clear cT; obtain ⟨dX, hY⟩ : ∃ y_ : List Int, y_ = (([1779033703, 3144134277, 1013904242, 2773480762, 1359893119, 2600822924, 528734635, 1541459225] : List Int)) := ⟨_, rfl⟩; replace H : (spec_Sha.l2 k2 aI aH dX 0) = some r := u3_0; have cW := aM hY; clear hY; have H' := aM H; clear H; go_wp2_with (first | ((with_reducible refine gD 40 rfl ?_); refine Kd.R_lit (Kd.int .i64) _ 3 ?hg (N := 40) ?hd (xs := ([1779033703, 3144134277, 1013904242, 2773480762, 1359893119, 2600822924, 528734635, 1541459225] : List Int)) (inner := [.int .i64 1779033703, .int .i64 3144134277, .int .i64 1013904242, .int .i64 2773480762, .int .i64 1359893119, .int .i64 2600822924, .int .i64 528734635, .int .i64 1541459225]) (ok := fun _ => True) (okp := fun _ => True) ?hr ?hp (fun _ hk => hk) trivial (Below.refl _ _) (Nat.le_refl _) (by simp) ?_; (case hd => rfl); (case hg => rfl); (case hr => exact u3_2); (case hp => exact (Reps.one (show Kd.M (Kd.int .i64) _ _ _ 1779033703 [.int .i64 1779033703] from rfl) (Reps.one (show Kd.M (Kd.int .i64) _ _ _ 3144134277 [.int .i64 3144134277] from rfl) (Reps.one (show Kd.M (Kd.int .i64) _ _ _ 1013904242 [.int .i64 1013904242] from rfl) (Reps.one (show Kd.M (Kd.int .i64) _ _ _ 2773480762 [.int .i64 2773480762] from rfl) (Reps.one (show Kd.M (Kd.int .i64) _ _ _ 1359893119 [.int .i64 1359893119] from rfl) (Reps.one (show Kd.M (Kd.int .i64) _ _ _ 2600822924 [.int .i64 2600822924] from rfl) (Reps.one (show Kd.M (Kd.int .i64) _ _ _ 528734635 [.int .i64 528734635] from rfl) (Reps.one (show Kd.M (Kd.int .i64) _ _ _ 1541459225 [.int .i64 1541459225] from rfl) (Reps.none _ _)))))))))); intro v197 iJ cI hb hg_ hnew_; clear hg_ hnew_; (first | rw [← cW.out] at cI | (simp only [Int.reduceToNat] at cI; rw [← cW.out] at cI)); replace aG := xrb aG hb; replace aN := xrb aN hb; have dY := aM (Kd.R_lower cI (below_size xbel)); replace HB := xbs hb; clear hb cI))
          go_loopg [6, 7] k2 (fun kq v6 v7 w' => ∃ (aC : List Int) (aD : Int), v7 = .int .i64 aD ∧ Aside0 (spec_Sha.l2 kq aI aH aC aD = some r) ∧ Aside0 (kq ≤ k2) ∧ Aside0 (Kd.R (Kd.int .u8) 5 w' w.heap.size (fun k_ => some k_ ≠ (u4 : Value).ownBlock) v179 aI) ∧ Aside0 (Kd.R (Kd.int .u8) 5 w' w.heap.size (fun k_ => some k_ ≠ (v179 : Value).ownBlock) u4 aH) ∧ Aside0 (Kd.R (Kd.int .i64) 3 w' w.heap.size (fun _ => True) v6 aC) ∧ Aside0 (Below w.heap.size w w'))
          case atStart => exact ⟨(dX), (0), u3_1, H', ⟨Nat.le_refl _⟩, ⟨u3_3⟩, ⟨u3_5⟩, ⟨by (with_reducible repeat (first | apply Kd.R_alloc | apply Kd.R_drewN | apply Kd.R_drew)); exact dY.out⟩, ⟨xbel⟩⟩
          case round =>
           clear H'; try clear c1
           try clear c2
           try clear bA
           try clear bE
           try clear p2
           try clear c3
           try clear c5
           try clear c6
           try clear p6
           try clear cS
           try clear bU
           try clear bV
           try clear cT
           try clear cH
           try clear dD
           try clear cU
           try clear cV
           try clear dI
           try clear p2
           obtain ⟨aC, aD, rfl, HA, HK3, aG, aN, aJ, HB⟩ := hrel; cases gk with
           | zero => exact absurd HA.out (by simp [spec_Sha.l2])
           | succ k3 =>
            have H := HA.out; clear HA; simp only [spec_Sha.l2] at H; by_cases dE : aD < (aH.length : Int)
            ·rw [if_pos dE] at H; have cX : decide (aD < (aH.length : Int)) = true := decide_eq_true dE; clear dE; by_cases dJ : 0 ≤ aD
             ·rw [if_pos dJ] at H; have dZ := eq_true dJ; have eA : decide (0 ≤ aD) = true := decide_eq_true dJ; clear dJ; by_cases eB : aD ≤ (wrap64 (aD + 64))
              ·rw [if_pos eB] at H; have eC := eq_true eB; have eD : decide (aD ≤ (wrap64 (aD + 64))) = true := decide_eq_true eB; by_cases eE : (wrap64 (aD + 64)) ≤ (aH.length : Int)
               ·rw [if_pos eE] at H; have eF := eq_true eE; have eG : decide ((wrap64 (aD + 64)) ≤ (aH.length : Int)) = true := decide_eq_true eE; obtain ⟨bI, hY⟩ : ∃ y_ : List Int, y_ = ((aH.take ((wrap64 (aD + 64)) : Int).toNat).drop (aD : Int).toNat) := ⟨_, rfl⟩; replace H : ((spec_l2Block.f k3 aC bI).bind fun cB => (spec_Sha.l2 k3 aI aH cB (wrap64 (aD + 64)))) = some r := u3_0; have cY := aM hY; clear hY; replace H := oB H; obtain ⟨cB, eH, H⟩ := H; (try dsimp only at H); have gU := aM eH; clear eH
                have H' := aM H; clear H; obtain ⟨cN, cJ, fK⟩ := Kd.R_slice aN.out; subst fK; have q29 : ((wrap64 (aD + 64)) : Int) ≤ ((aH.length : Int) : Int) := oda; obtain ⟨i029, hi029, _, hsz29, _⟩ := info_parts info5; have hroom29 : aH.length ≤ cJ := (Kd.R_reads' aN.out).2.1; have hC29 : Kd.C (Kd.int .u8) _ cN aH.length aH := (Kd.R_reads' aN.out).2.2; have ql29 : (aD : Int) ≤ ((wrap64 (aD + 64)) : Int) := oda; have q029 : (0 : Int) ≤ (aD : Int) := oda; have hcut29 := cut_mid (P := Try.prog) 22 5 .i64 .i64 Try.underlying22 hi029 1 hsz29 cN aH.length cJ aD (wrap64 (aD + 64)) q029 ql29 q29 hroom29; have cK := Kd.C_mid (lo := (aD : Int).toNat) (hi := ((wrap64 (aD + 64)) : Int).toNat) (c := cJ) hC29 (by omega) (by omega) hroom29; obtain ⟨gK, hA29⟩ : ∃ A1, A1 = (if cJ = (aD : Int).toNat then cN else (cN : Option Addr).map (·.add ((aD : Int).toNat * 1))) := ⟨_, rfl⟩; obtain ⟨fL, dF⟩ : ∃ c1, c1 = cJ - (aD : Int).toNat := ⟨_, rfl⟩; have hY : bI.length = ((wrap64 (aD + 64)) : Int).toNat - (aD : Int).toNat := (by rw [cY.out, List.length_drop, List.length_take] <;> omega); rw [show ((aH).take ((wrap64 (aD + 64)) : Int).toNat).drop (aD : Int).toNat = bI from cY.out.symm] at cK; replace cK : Kd.C (Kd.int .u8) _ gK bI.length bI := (by rw [hA29]; exact cK); rw [← hY, ← hA29, ← dF] at hcut29; have cF := aM cK; have eI := aM (show bI.length ≤ fL from by rw [hY, dF]; exact Nat.sub_le_sub_right (Nat.le_trans (by omega) hroom29) _); clear cK hC29 hroom29 hi029 hsz29 dF; have KY29 := aM hY; have KA29 := aM hA29; clear hY hA29; have KL29 := aM (show ((wrap64 (aD + 64)) : Int).toNat ≤ aH.length from by omega); have KM29 := aM (show (aD : Int).toNat ≤ ((wrap64 (aD + 64)) : Int).toNat from by omega); replace q29 := eq_true q29; obtain ⟨fM, fN, fO⟩ := Kd.R_slice aJ.out; subst fO; go_wp2_with (first | ((with_reducible refine gC 87 rfl ?_); refine goesLY (some 53) rfl Try.func87 #[.slice fM aC.length fN, .slice gK bI.length fL] ?_; (with_reducible refine (spec_l2Block.calls k3 _ _ aC _ _ bI cB _ ?side1 ?side2 ?side3 ?side4 gU.out).mono ?_); (case side1 => exact xC aJ); (case side2 => exact (Kd.R_reads' aJ.out).2.1); (case side3 => repeat (first | exact u3_7 | (with_reducible refine Kd.C_alloc ?_ _) | (with_reducible refine Kd.C_drewN ?_ _) | (with_reducible refine Kd.C_drew ?_))); (case side4 => exact eI.out); rintro e iK ⟨v204, rfl, dG, hb⟩; refine ⟨_, rfl, ?_⟩; replace aG := xrb aG hb; replace aN := xrb aN hb; have eJ := aM (Kd.R_lower (Kd.R_new' dG (Kd.R_lt (xr aJ))) (below_size xbel)); replace aJ := aM (Kd.R_elder' (xr aJ) (Kd.R_base dG) hb); replace cF := aM (Kd.C_below u3_7 hb); replace HB := xbs hb; (try clear hb dG)))
                go_roundg k3
                case measure => have := HK1.out; have := HK2.out; have := HK3.out; omega
                case rel => exact ⟨(cB), (wrap64 (aD + 64)), u3_1, H', ⟨by have := HK1.out; have := HK2.out; have := HK3.out; omega⟩, ⟨u3_3⟩, ⟨u3_5⟩, ⟨by (with_reducible repeat (first | apply Kd.R_alloc | apply Kd.R_drewN | apply Kd.R_drew)); exact Kd.R_mono eJ.out (fun _ hk => trivial)⟩, ⟨xbel⟩⟩
               ·rw [if_neg eE] at H; exact absurd H (by simp)
              ·rw [if_neg eB] at H; exact absurd H (by simp)
             ·rw [if_neg dJ] at H; exact absurd H (by simp)
            ·rw [if_neg dE] at H; have cX : decide (aD < (aH.length : Int)) = false := decide_eq_false dE; clear dE; have H' := aM H; clear H; obtain ⟨gV, gW, fP⟩ := Kd.R_slice aN.out; subst fP; go_wp2; go_loopg [3, 8] k3 (fun kq v3 v8 w' => ∃ (bJ : List Int) (aA : Int), v8 = .int .i64 aA ∧ Aside0 (spec_Sha.l3 kq bJ aC aA = some r) ∧ Aside0 (kq ≤ k3) ∧ Aside0 (Kd.R (Kd.int .u8) 5 w' w.heap.size (fun _ => True) v3 bJ) ∧ Aside0 (Kd.R (Kd.int .i64) 3 w' w.heap.size (fun _ => True) u6 aC) ∧ Aside0 (Below w.heap.size w w'))
             case atStart => exact ⟨(aI), (0), u3_1, H', ⟨Nat.le_refl _⟩, ⟨by (with_reducible repeat (first | apply Kd.R_alloc | apply Kd.R_drewN | apply Kd.R_drew)); exact Kd.R_mono aG.out (fun _ hk => trivial)⟩, ⟨u3_8⟩, ⟨xbel⟩⟩
             case round =>
              clear H'; try clear c1
              try clear c2
              try clear bA
              try clear bE
              try clear p2
              try clear q2
              try clear c3
              try clear c5
              try clear c6
              try clear p6
              try clear c8
              try clear cS
              try clear bU
              try clear bV
              try clear cT
              try clear cH
              try clear dD
              try clear cU
              try clear cV
              try clear dI
              try clear dE
              try clear cX
              try clear dJ
              try clear dZ
              try clear eA
              try clear eB
              try clear eC
              try clear eD
              try clear eE
              try clear eF
              try clear eG
              try clear fL
              try clear q29
              try clear iL
              try clear p2
              try clear p6
              try clear q029
              try clear q29
              obtain ⟨bJ, aA, rfl, HA, HK4, aG, aJ, HB⟩ := hrel; cases gk with
              | zero => exact absurd HA.out (by simp [spec_Sha.l3])
              | succ k4 =>
               have H := HA.out; clear HA; simp only [spec_Sha.l3] at H; by_cases dK : aA < 8
               ·rw [if_pos dK] at H; have eK : decide (aA < 8) = true := decide_eq_true dK; clear dK; by_cases fE : 0 ≤ aA
                ·rw [if_pos fE] at H; have gL : decide (0 ≤ aA) = true := decide_eq_true fE; clear fE; by_cases fF : aA < (aC.length : Int)
                 ·rw [if_pos fF] at H; have gM : decide (aA < (aC.length : Int)) = true := decide_eq_true fF; clear fF; obtain ⟨bC, hY⟩ : ∃ y_ : List Int, y_ = (([((rd aC aA) / 16777216) % 256, ((rd aC aA) / 65536) % 256, ((rd aC aA) / 256) % 256, (rd aC aA) % 256] : List Int)) := ⟨_, rfl⟩; replace H : (if bJ.length + bC.length < 140737488355328 then (spec_Sha.l3 k4 (bJ ++ bC) aC (wrap64 (aA + 1))) else (none)) = some r := u3_0; have cZ := aM hY; clear hY; by_cases fG : bJ.length + bC.length < 140737488355328
                  ·rw [if_pos fG] at H; have LMc36 := aM fG; clear fG; obtain ⟨eL, hY⟩ : ∃ y_ : List Int, y_ = (bJ ++ bC) := ⟨_, rfl⟩; replace H : (spec_Sha.l3 k4 eL aC (wrap64 (aA + 1))) = some r := u3_0; have eM := aM hY; clear hY; have H' := aM H; clear H; try go_wp2
                   replace aG := rD aG; replace aJ := rD aJ; replace HB := lD HB; obtain ⟨gX, gY, eN⟩ := Kd.R_slice aJ.out; (first | subst eN | (injection eN with f1_ f2_ f3_; have f4_ := f1_.symm; have f5_ := f3_.symm; clear f1_ f2_ f3_; subst f4_; subst f5_)); have p206 : 0 ≤ (aA : Int) := oda; have q206 : aA < (aC.length : Int) := oda; obtain ⟨aZ, fQ, bW⟩ := Kd.at_int (Kd.R_reads' aJ.out).2.2 aA p206 q206; cases fQ
                   replace p206 := eq_true p206; replace q206 := eq_true q206; have p207 : 0 ≤ (aA : Int) := oda; have q207 : aA < (aC.length : Int) := oda; obtain ⟨eO, fR, bX⟩ := Kd.at_int (Kd.R_reads' aJ.out).2.2 aA p207 q207; obtain rfl : aZ = eO := (by injection fR); replace p207 := eq_true p207; replace q207 := eq_true q207; have p208 : 0 ≤ (aA : Int) := oda; have q208 : aA < (aC.length : Int) := oda; obtain ⟨eP, fS, bY⟩ := Kd.at_int (Kd.R_reads' aJ.out).2.2 aA p208 q208; obtain rfl : aZ = eP := (by injection fS); replace p208 := eq_true p208; replace q208 := eq_true q208; have p209 : 0 ≤ (aA : Int) := oda; have q209 : aA < (aC.length : Int) := oda; obtain ⟨eQ, fT, bZ⟩ := Kd.at_int (Kd.R_reads' aJ.out).2.2 aA p209 q209; obtain rfl : aZ = eQ := (by injection fT); replace p209 := eq_true p209; replace q209 := eq_true q209; refine start_ (n := 27) (S := fun w' => w'.cell? (aZ.add (aA).toNat) = some (.int .i64 (rd aC aA)) ∧ w'.cell? (aZ.add (aA).toNat) = some (.int .i64 (rd aC aA)) ∧ w'.cell? (aZ.add (aA).toNat) = some (.int .i64 (rd aC aA)) ∧ w'.cell? (aZ.add (aA).toNat) = some (.int .i64 (rd aC aA))) (ds := [25]) #[false, false, false, false, false, false, false, false, false, false, false, false, false, false, false, false, false, false, false, false, false, false, false, false, false, false, false] (by kernel_rfl) rfl rfl ⟨bW, bX, bY, bZ⟩ (fun hHeld => ?_); refine with_tabW spec_Sha.tab19 spec_Sha.bits19 (fun HT_ HW_ => ?_); generalize wr.drew = iM at aG aJ HB bW bX bY bZ hHeld ⊢; refine pV 0 58 ?_; refine pV 1 59 ?_; refine pV 2 60 ?_; refine pV 3 61 ?_; refine pV 7 65 ?_; refine pV 8 66 ?_; refine pV 9 67 ?_; refine pV 13 71 ?_; refine pV 14 72 ?_; refine pV 15 73 ?_; refine pV 19 77 ?_; refine pV 20 78 ?_; refine pV 21 79 ?_; refine tK 4 62 ?_; refine pV 5 63 ?_; refine pV 6 64 ?_; refine tK 10 68 ?_; refine pV 11 69 ?_; refine pV 12 70 ?_; refine tK 16 74 ?_; refine pV 17 75 ?_; refine pV 18 76 ?_; refine tK 22 80 ?_; refine pV 23 81 ?_; refine oN 24 82 fun K hK => ?_
                   refine Kd.R_lit_step (Kd.int .u8) _ 5 ?hg (N := 82) ?hd (xs := ([((rd aC aA) / 16777216) % 256, ((rd aC aA) / 65536) % 256, ((rd aC aA) / 256) % 256, (rd aC aA) % 256] : List Int)) (inner := [.int .u8 (((rd aC aA) / 16777216) % 256), .int .u8 (((rd aC aA) / 65536) % 256), .int .u8 (((rd aC aA) / 256) % 256), .int .u8 ((rd aC aA) % 256)]) (ok := fun _ => True) (okp := fun _ => True) ?hr ?hp (fun _ hk => hk) trivial (Below.refl _ _) (Nat.le_refl _) (by simp) ?_; (case hd => rfl); (case hg => rfl); (case hr => exact u3_2); (case hp => exact (Reps.one (show Kd.M (Kd.int .u8) _ _ _ (((rd aC aA) / 16777216) % 256) [.int .u8 (((rd aC aA) / 16777216) % 256)] from rfl) (Reps.one (show Kd.M (Kd.int .u8) _ _ _ (((rd aC aA) / 65536) % 256) [.int .u8 (((rd aC aA) / 65536) % 256)] from rfl) (Reps.one (show Kd.M (Kd.int .u8) _ _ _ (((rd aC aA) / 256) % 256) [.int .u8 (((rd aC aA) / 256) % 256)] from rfl) (Reps.one (show Kd.M (Kd.int .u8) _ _ _ ((rd aC aA) % 256) [.int .u8 ((rd aC aA) % 256)] from rfl) (Reps.none _ _)))))); intro v211 iO cD hb hg_ hnew_; have HS0_ := (hb.cell (World.block_lt_of_cell? _ _ (hHeld.1))).trans (hHeld.1); have HS1_ := (hb.cell (World.block_lt_of_cell? _ _ (hHeld.2.1))).trans (hHeld.2.1); have HS2_ := (hb.cell (World.block_lt_of_cell? _ _ (hHeld.2.2.1))).trans (hHeld.2.2.1); have HS3_ := (hb.cell (World.block_lt_of_cell? _ _ (hHeld.2.2.2))).trans (hHeld.2.2.2); clear hg_ hnew_; (first | rw [← cZ.out] at cD | (simp only [Int.reduceToNat] at cD; rw [← cZ.out] at cD)); replace aJ := xrb aJ hb; have bK := aM (Kd.R_lower (Kd.R_new' cD (Kd.R_lt (xr aG))) (below_size xbel)); replace aG := aM (Kd.R_elder' (xr aG) (Kd.R_base cD) hb); replace HB := xbs hb; clear hb cD; obtain ⟨fU, fV, eR⟩ := Kd.R_slice bK.out; (first | subst eR | (injection eR with f1_ f2_ f3_; have f4_ := f1_.symm; have f5_ := f3_.symm; clear f1_ f2_ f3_; subst f4_; subst f5_)); refine hK.out _ _ ⟨HS0_, HS1_, HS2_, HS3_⟩ (fun hHeld => ?_); clear hK K; refine nm_ (N := 82) ?_; refine last_ (i := 25) (N := some 83) #[true, true, true, true, true, true, true, true, true, true, true, true, true, true, true, true, true, true, true, true, true, true, true, true, true, true, false] rfl rfl (one_of HT_.out (by kernel_rfl)) (by decide) (fun K hK => ?_); refine Kd.R_append_rows_step (Kd.int .u8) (w0 := w) w.heap.size (by rfl) (.tmp 58) (.tmp 82) 22 5 (.int .u8 0) 1 rfl Try.underlying22 info5 rfl (by decide) (by omega) u3 bJ bC _ _ _ (fun k_ => some k_ ≠ (.slice fU bC.length fV : Value).ownBlock) (fun _ => False) rfl rfl ?aO ?aR (fun _ _ h => h) (fun _ h => h.elim) ?aF ?aB ?aS ?aL ?_; (case aR => repeat (first | exact (Kd.R_reads' bK.out).2.2 | (with_reducible refine Kd.C_alloc ?_ _) | (with_reducible refine Kd.C_drewN ?_ _) | (with_reducible refine Kd.C_drew ?_))); (case aB => exact xbel); (case aF => exact (fun k_ hk => Kd.fresh' (Kd.R_lt (xr bK)) k_ hk)); (case aO => exact u3_9); (case aS => exact (below_size xbel)); (case aL => have := LMc36.out; omega); intro v214 iP ho hb hg hat; rw [← eM.out] at ho; replace aJ := aM (Kd.R_over' (xr aJ) (Kd.R_typed (xr aG)) (by decide) hg); replace bK := aM (Kd.R_after (ok := (fun _ => True)) (xr bK) hg hat); replace HB := aM (hb); have eS := aM (ho); clear aG ho hb hg hat; refine hK.out _ _ ?_; clear hK K; refine nm_ (N := 83) ?_; refine pV 26 3 ?_; refine dn_ ?_; try go_wp2
                   go_roundg k4
                   case measure => have := HK1.out; have := HK2.out; have := HK3.out; have := HK4.out; omega
                   case rel => exact ⟨(eL), (wrap64 (aA + 1)), u3_1, H', ⟨by have := HK1.out; have := HK2.out; have := HK3.out; have := HK4.out; omega⟩, ⟨by (with_reducible repeat (first | apply Kd.R_alloc | apply Kd.R_drewN | apply Kd.R_drew)); exact Kd.R_mono eS.out (fun _ hk => trivial)⟩, ⟨u3_8⟩, ⟨xbel⟩⟩
                  ·rw [if_neg fG] at H; exact absurd H (by simp)
                 ·rw [if_neg fF] at H; exact absurd H (by simp)
                ·rw [if_neg fE] at H; exact absurd H (by simp)
               ·rw [if_neg dK] at H; have eK : decide (aA < 8) = false := decide_eq_false dK; clear dK; obtain rfl := Option.some.inj H; go_wp2; go_ret
                exact ⟨_, xerr, u3_3, xbel⟩
      ·rw [if_neg cS] at H; obtain ⟨bU, bV⟩ := bF cS; by_cases fH : aE.length < 140737488355328
       ·rw [if_pos fH] at H; have LMc43 := aM fH; clear fH; obtain ⟨eT, hY⟩ : ∃ y_ : List Int, y_ = (aE ++ [0]) := ⟨_, rfl⟩; replace H : (spec_Sha.l0 k1 l0 aI eT) = some r := u3_0; have eU := aM hY; clear hY; have H' := aM H; clear H; obtain ⟨fW, fX, fY⟩ := Kd.R_slice aN.out; subst fY; go_wp2_with (first | ((with_reducible refine gate_builtin (b := .append) (xs := #[.tmp 23, .tmp 24]) rfl ?_); at_builtin; refine Kd.R_append (Kd.int .u8) (w0 := w) w.heap.size rfl (.tmp 23) (.tmp 24) 22 5 (.int .u8 0) 1 rfl Try.underlying22 info5 rfl (by decide) (by omega) (.slice fW aE.length fX) aE 0 [.int .u8 0] (fun k_ => some k_ ≠ (v179 : Value).ownBlock) (fun _ => False) rfl rfl ?aP (fun _ hk => hk.elim) ?aF ?aO ?aB ?aS ?aL ?_; (case aP => exact rfl); (case aB => exact xbel); (case aF => exact (fun k_ hk => Kd.fresh' (Kd.R_lt (xr aG)) k_ hk)); (case aO => exact (xr aN)); (case aS => exact (below_size xbel)); (case aL => have := LMc43.out; omega); intro v191 iQ ho hb hg hat; rw [← eU.out] at ho; replace aG := aM (Kd.R_after (ok := (fun _ => True)) u3_6 hg hat); replace HB := aM (hb); have eV := aM (ho); clear aN; clear ho hb hg hat))
        go_roundg k1
        case measure => have := HK1.out; omega
        case rel => exact ⟨(eT), H', ⟨by have := HK1.out; omega⟩, ⟨u3_4⟩, ⟨by (with_reducible repeat (first | apply Kd.R_alloc | apply Kd.R_drewN | apply Kd.R_drew)); exact eV.out⟩, ⟨xbel⟩⟩
       ·rw [if_neg fH] at H; exact absurd H (by simp)
   ·rw [if_neg c6] at H; exact absurd H (by simp)
  ·rw [if_neg c5] at H; exact absurd H (by simp)

/-! ### spec_l2Digit: function 144 -/
def spec_l2Digit.f (a0 : Int) : Option (Int) := if 0 ≤ (Go.bits .and .i64 a0 15) then (if (Go.bits .and .i64 a0 15) < 16 then (some (bt (⟨#[48, 49, 50, 51, 52, 53, 54, 55, 56, 57, 97, 98, 99, 100, 101, 102]⟩ : ByteArray) (Go.bits .and .i64 a0 15))) else (none)) else (none)
set_option maxHeartbeats 8000000 in
set_option maxRecDepth 100000 in
theorem spec_l2Digit.calls (a0 : Int) (r : Int) (w : World) (h : spec_l2Digit.f a0 = some r) :
 Calls Try.prog 144 #[.int .i64 a0] w fun e w' => e = .returned (.int .u8 r) ∧ Drawn0 w w' := by
 have H : (if 0 ≤ (Go.bits .and .i64 a0 15) then (if (Go.bits .and .i64 a0 15) < 16 then (some (bt (⟨#[48, 49, 50, 51, 52, 53, 54, 55, 56, 57, 97, 98, 99, 100, 101, 102]⟩ : ByteArray) (Go.bits .and .i64 a0 15))) else (none)) else (none)) = some r := h
 clear h
 by_cases c2 : 0 ≤ (Go.bits .and .i64 a0 15)
 ·rw [if_pos c2] at H; have bA : decide (0 ≤ (Go.bits .and .i64 a0 15)) = true := decide_eq_true c2; clear c2; by_cases c3 : (Go.bits .and .i64 a0 15) < 16
  ·rw [if_pos c3] at H; have fZ : decide ((Go.bits .and .i64 a0 15) < 16) = true := decide_eq_true c3; clear c3; obtain rfl := Option.some.inj H; have p4 : 0 ≤ ((Go.bits .and .i64 a0 15) : Int) := oda; have q4 : (Go.bits .and .i64 a0 15) < (16 : Int) := oda; have iR := bt_at (⟨#[48, 49, 50, 51, 52, 53, 54, 55, 56, 57, 97, 98, 99, 100, 101, 102]⟩ : ByteArray) (Go.bits .and .i64 a0 15); replace p4 := eq_true p4; replace q4 := eq_true q4; go_enter Try.func144, Try.ntmps144
   go_wp2; go_ret
   exact ⟨u3_1, by repeat (first | exact Drawn0.refl _ | apply Drawn0.step)⟩
  ·rw [if_neg c3] at H; exact absurd H (by simp)
 ·rw [if_neg c2] at H; exact absurd H (by simp)

/-! ### spec_HexOf: function 81 -/
def spec_HexOf.l0 : Nat → List Int → List Int → Int → Option (ByteArray)
 | 0, _, _, _ => none
 | k + 1, x0, x3, x4 => if x4 < (x0.length : Int) then (if 0 ≤ x4 then ((spec_l2Digit.f (wrap64 (Int.tdiv (wrap64 (rd x0 x4)) 16))).bind fun bL => ((spec_l2Digit.f (wrap64 (rd x0 x4))).bind fun bM => ((some (([bL, bM] : List Int) : List Int)).bind fun bG => (if x3.length + bG.length < 140737488355328 then (spec_HexOf.l0 k x0 (x3 ++ bG) (wrap64 (x4 + 1))) else (none))))) else (none)) else (some (strOfNums x3))
def spec_HexOf.f (k : Nat) (l0 : List Int) : Option (ByteArray) := if (l0.length : Int) > 4000 then (some (⟨#[]⟩ : ByteArray)) else (spec_HexOf.l0 k l0 (([] : List Int)) 0)
theorem u3_mq1 {p : Prop} (h : p := by repeat' first | (with_reducible first | exact dL _ _ _ | exact LeO.refl _ | exact LeO.none _ | refine LeO.ite ?_ ?_ | refine LeO.bind ?_ (fun _ => ?_)) | exact LeO.none _ | refine LeO.ite ?_ ?_ | refine LeO.bind ?_ (fun _ => ?_)) : p := h
set_option maxRecDepth 100000 in
theorem spec_HexOf.mono_l : ∀ k, (∀ y0 y1 y2, LeO (spec_HexOf.l0 k y0 y1 y2) (spec_HexOf.l0 (k + 1) y0 y1 y2))
 | 0 => fun _ _ _ r h => by simp [spec_HexOf.l0] at h
 | k + 1 => by
  have dL := spec_HexOf.mono_l k
  ·intro y0 y1 y2; unfold spec_HexOf.l0; exact u3_mq1
theorem spec_HexOf.mono : ∀ a0 k, LeO (spec_HexOf.f k a0) (spec_HexOf.f (k + 1) a0) := by
 intro a0 k
 have dL := spec_HexOf.mono_l k
 unfold spec_HexOf.f
 exact u3_mq1
def spec_HexOf.T7 : Bool × List (List Nat × List Nat) := (true, [([], []), ([], []), ([], []), ([1, 2], [1, 2]), ([3], [3]), ([4], [4]), ([5], [5]), ([6], [6]), ([], []), ([], []), ([8, 9], [8, 9]), ([10], [10]), ([11], [11]), ([12, 7], [12]), ([7, 13], [7, 13]), ([0, 14, 13], [0, 14]), ([15, 15, 0, 1, 2, 3, 4, 5, 6, 7, 8, 9, 10, 11, 12, 13, 14, 15], [0, 15])])
def spec_HexOf.B7 : List Nat := [0, 0, 0, 6, 14, 30, 62, 126, 0, 0, 768, 1792, 3840, 8190, 16382, 32767, 65535]
set_option maxHeartbeats 8000000 in
set_option maxRecDepth 100000 in
theorem spec_HexOf.calls (k : Nat) (A0 : Option Addr) (c0 : Nat) (l0 : List Int) (r : ByteArray) (w : World) (dM : Kd.C (Kd.int .u8) w A0 l0.length l0) (dN : l0.length ≤ c0) (h : spec_HexOf.f k l0 = some r) :
 Calls Try.prog 81 #[.slice A0 l0.length c0] w fun e w' => e = .returned (.string r) ∧ Below w.heap.size w w' := by
 have fD := aM dM
 have gQ := aM dN
 clear dM dN
 have HB := aM (Below.refl w.heap.size w)
 have H : (if (l0.length : Int) > 4000 then (some (⟨#[]⟩ : ByteArray)) else (spec_HexOf.l0 k l0 (([] : List Int)) 0)) = some r := h
 clear h
 obtain ⟨eW, hY⟩ : ∃ y_ : List Int, y_ = (([] : List Int)) := ⟨_, rfl⟩
 replace H : (if (l0.length : Int) > 4000 then (some (⟨#[]⟩ : ByteArray)) else (spec_HexOf.l0 k l0 eW 0)) = some r := u3_0
 have cA := aM hY
 clear hY
 by_cases c2 : (l0.length : Int) > 4000
 ·rw [if_pos c2] at H; have bA : decide (4000 < (l0.length : Int)) = true := decide_eq_true c2; have bE : decide (4000 < l0.length) = true := decide_eq_true (by omega); clear c2; obtain rfl := Option.some.inj H; go_enter Try.func81, Try.ntmps81
  go_wp2_with (first | ((with_reducible refine gD 5 rfl ?_); refine Kd.R_lit (Kd.int .u8) _ 5 ?hg (N := 5) ?hd (xs := ([] : List Int)) (inner := []) (ok := fun _ => True) (okp := fun _ => True) ?hr ?hp (fun _ hk => hk) trivial (Below.refl _ _) (Nat.le_refl _) (by simp) ?_; (case hd => rfl); (case hg => rfl); (case hr => exact u3_2); (case hp => exact (Reps.none _ _)); intro v217 w3 cG hb hg_ hnew_; clear hg_ hnew_; (first | rw [← cA.out] at cG | (simp only [Int.reduceToNat] at cG; rw [← cA.out] at cG)); have dA := aM (Kd.R_lower cG (below_size xbel)); replace HB := xbs hb; clear hb cG))
  go_ret
  exact ⟨xerr, xbel⟩
 ·rw [if_neg c2] at H; have bA : decide (4000 < (l0.length : Int)) = false := decide_eq_false c2; have bE : decide (4000 < l0.length) = false := decide_eq_false (by omega); clear c2; have H' := aM H; clear H; go_enter Try.func81, Try.ntmps81
  go_wp2_with (first | ((with_reducible refine gD 5 rfl ?_); refine Kd.R_lit (Kd.int .u8) _ 5 ?hg (N := 5) ?hd (xs := ([] : List Int)) (inner := []) (ok := fun _ => True) (okp := fun _ => True) ?hr ?hp (fun _ hk => hk) trivial (Below.refl _ _) (Nat.le_refl _) (by simp) ?_; (case hd => rfl); (case hg => rfl); (case hr => exact u3_2); (case hp => exact (Reps.none _ _)); intro v217 w5 cL hb hg_ hnew_; clear hg_ hnew_; (first | rw [← cA.out] at cL | (simp only [Int.reduceToNat] at cL; rw [← cA.out] at cL)); have dA := aM (Kd.R_lower cL (below_size xbel)); replace HB := xbs hb; clear hb cL))
  go_loopg [3, 4] k (fun kq v3 v4 w' => ∃ (bN : List Int) (aE : Int), v4 = .int .i64 aE ∧ Aside0 (spec_HexOf.l0 kq l0 bN aE = some r) ∧ Aside0 (kq ≤ k) ∧ Aside0 (Kd.R (Kd.int .u8) 5 w' w.heap.size (fun _ => True) v3 bN) ∧ Aside0 (Below w.heap.size w w'))
  case atStart => exact ⟨(eW), (0), u3_1, H', ⟨Nat.le_refl _⟩, ⟨by (with_reducible repeat (first | apply Kd.R_alloc | apply Kd.R_drewN | apply Kd.R_drew)); exact dA.out⟩, ⟨xbel⟩⟩
  case round =>
   clear H'; try clear c2
   try clear bA
   try clear bE
   try clear p2
   obtain ⟨bN, aE, rfl, HA, HK1, aG, HB⟩ := hrel; cases gk with
   | zero => exact absurd HA.out (by simp [spec_HexOf.l0])
   | succ k1 =>
    have H := HA.out; clear HA; simp only [spec_HexOf.l0] at H; by_cases c7 : aE < (l0.length : Int)
    ·rw [if_pos c7] at H; have gA : decide (aE < (l0.length : Int)) = true := decide_eq_true c7; clear c7; by_cases c8 : 0 ≤ aE
     ·rw [if_pos c8] at H; have gZ : decide (0 ≤ aE) = true := decide_eq_true c8; clear c8; replace H := oB H; obtain ⟨bL, gN, H⟩ := H; (try dsimp only at H); have A9 := aM gN; clear gN; replace H := oB H
      obtain ⟨bM, eX, H⟩ := H; (try dsimp only at H); have hJ := aM eX; clear eX
      obtain ⟨bG, hY⟩ : ∃ y_ : List Int, y_ = (([bL, bM] : List Int)) := ⟨_, rfl⟩; replace H : (if bN.length + bG.length < 140737488355328 then (spec_HexOf.l0 k1 l0 (bN ++ bG) (wrap64 (aE + 1))) else (none)) = some r := u3_0; have dB := aM hY; clear hY; by_cases fI : bN.length + bG.length < 140737488355328
      ·rw [if_pos fI] at H; have LMc11 := aM fI; clear fI; obtain ⟨eY, hY⟩ : ∃ y_ : List Int, y_ = (bN ++ bG) := ⟨_, rfl⟩; replace H : (spec_HexOf.l0 k1 l0 eY (wrap64 (aE + 1))) = some r := u3_0; have eZ := aM hY; clear hY; have H' := aM H; clear H; try go_wp2
       replace aG := rD aG; replace HB := lD HB; have p219 : 0 ≤ (aE : Int) := oda; have q219 : aE < (l0.length : Int) := oda; obtain ⟨cM, gB, aX⟩ := Kd.at_int fD.out aE p219 q219; have aU := aX; cases gB
       replace aX := xce HB aX; replace p219 := eq_true p219; replace q219 := eq_true q219; have p221 : 0 ≤ (aE : Int) := oda; have q221 : aE < (l0.length : Int) := oda; obtain ⟨fA, gE, aY⟩ := Kd.at_int fD.out aE p221 q221; have aV := aY; obtain rfl : cM = fA := (by injection gE); replace aY := xce HB aY; replace p221 := eq_true p221; replace q221 := eq_true q221; refine st_ 17 (fun w' => w'.cell? (cM.add (aE).toNat) = some (.int .u8 (rd l0 aE)) ∧ w'.cell? (cM.add (aE).toNat) = some (.int .u8 (rd l0 aE))) spec_HexOf.T7 spec_HexOf.B7 ⟨(xce HB aU), (xce HB aV)⟩ (fun hHeld HT_ HW_ => ?_); generalize wr.drew = gR at aG HB aX aY hHeld ⊢; refine pV 0 15 ?_; refine pV 1 16 ?_; refine pV 2 17 ?_; refine pV 3 18 ?_; refine pV 8 23 ?_; refine pV 9 24 ?_; refine pV 10 25 ?_; refine tK 4 19 ?_; refine pV 5 20 ?_; refine pV 6 21 ?_; refine tK 11 26 ?_; refine pV 12 27 ?_; refine oN 7 22 fun K hK => ?_
       refine goesY Try.func144 #[.int .i64 (wrap64 (Int.tdiv (wrap64 (rd l0 aE)) 16))] ?_; with_reducible refine (spec_l2Digit.calls (wrap64 (Int.tdiv (wrap64 (rd l0 aE)) 16)) bL _ A9.out).mono ?_
       rintro e w' ⟨rfl, ⟨nd, rfl⟩⟩; refine ⟨_, rfl, ?_⟩; refine hK.out _ _ ⟨(xce HB aU), (xce HB aV)⟩ (fun hHeld => ?_); clear hK K; refine nm_ (N := 22) ?_; refine oN 13 28 fun K hK => ?_
       refine goesY Try.func144 #[.int .i64 (wrap64 (rd l0 aE))] ?_; with_reducible refine (spec_l2Digit.calls (wrap64 (rd l0 aE)) bM _ hJ.out).mono ?_
       rintro e w' ⟨rfl, ⟨nd, rfl⟩⟩; refine ⟨_, rfl, ?_⟩; refine hK.out _ _ ⟨(xce HB aU), (xce HB aV)⟩ (fun hHeld => ?_); clear hK K; refine nm_ (N := 28) ?_; refine oN 14 29 fun K hK => ?_
       refine Kd.R_lit_step (Kd.int .u8) _ 5 ?hg (N := 29) ?hd (xs := ([bL, bM] : List Int)) (inner := [.int .u8 bL, .int .u8 bM]) (ok := fun _ => True) (okp := fun _ => True) ?hr ?hp (fun _ hk => hk) trivial (Below.refl _ _) (Nat.le_refl _) (by simp) ?_; (case hd => rfl); (case hg => rfl); (case hr => exact u3_2); (case hp => exact (Reps.one (show Kd.M (Kd.int .u8) _ _ _ bL [.int .u8 bL] from rfl) (Reps.one (show Kd.M (Kd.int .u8) _ _ _ bM [.int .u8 bM] from rfl) (Reps.none _ _)))); intro v224 iS cE hb hg_ hnew_; clear hg_ hnew_; (first | rw [← dB.out] at cE | (simp only [Int.reduceToNat] at cE; rw [← dB.out] at cE)); have bO := aM (Kd.R_lower (Kd.R_new' cE (Kd.R_lt (xr aG))) (below_size xbel)); replace aG := aM (Kd.R_elder' (xr aG) (Kd.R_base cE) hb); replace HB := xbs hb; clear hb cE; obtain ⟨gF, gG, fB⟩ := Kd.R_slice bO.out; (first | subst fB | (injection fB with f1_ f2_ f3_; have f4_ := f1_.symm; have f5_ := f3_.symm; clear f1_ f2_ f3_; subst f4_; subst f5_)); refine hK.out _ _ ⟨(xce HB aU), (xce HB aV)⟩ (fun hHeld => ?_); clear hK K; refine nm_ (N := 29) ?_; refine oN 15 30 fun K hK => ?_
       refine Kd.R_append_rows_step (Kd.int .u8) (w0 := w) w.heap.size (by rfl) (.tmp 15) (.tmp 29) 22 5 (.int .u8 0) 1 rfl Try.underlying22 info5 rfl (by decide) (by omega) u3 bN bG _ _ _ (fun k_ => some k_ ≠ (.slice gF bG.length gG : Value).ownBlock) (fun _ => False) rfl rfl ?aO ?aR (fun _ _ h => h) (fun _ h => h.elim) ?aF ?aB ?aS ?aL ?_; (case aR => repeat (first | exact (Kd.R_reads' bO.out).2.2 | (with_reducible refine Kd.C_alloc ?_ _) | (with_reducible refine Kd.C_drewN ?_ _) | (with_reducible refine Kd.C_drew ?_))); (case aB => exact xbel); (case aF => exact (fun k_ hk => Kd.fresh' (Kd.R_lt (xr bO)) k_ hk)); (case aO => exact u3_9); (case aS => exact (below_size xbel)); (case aL => have := LMc11.out; omega); intro v227 iU ho hb hg hat; rw [← eZ.out] at ho; replace bO := aM (Kd.R_after (ok := (fun _ => True)) (xr bO) hg hat); replace HB := aM (hb); have fC := aM (ho); clear aG ho hb hg hat; refine hK.out _ _ ⟨(xce HB aU), (xce HB aV)⟩ (fun hHeld => ?_); clear hK K; refine nm_ (N := 30) ?_; refine pV 16 3 ?_; refine dn_ ?_; try go_wp2
       go_roundg k1
       case measure => have := HK1.out; omega
       case rel => exact ⟨(eY), (wrap64 (aE + 1)), u3_1, H', ⟨by have := HK1.out; omega⟩, ⟨by (with_reducible repeat (first | apply Kd.R_alloc | apply Kd.R_drewN | apply Kd.R_drew)); exact Kd.R_mono fC.out (fun _ hk => trivial)⟩, ⟨xbel⟩⟩
      ·rw [if_neg fI] at H; exact absurd H (by simp)
     ·rw [if_neg c8] at H; exact absurd H (by simp)
    ·rw [if_neg c7] at H; have gA : decide (aE < (l0.length : Int)) = false := decide_eq_false c7; clear c7; obtain rfl := Option.some.inj H; have hcv17 := own_string (P := Try.prog) Try.underlying22 Try.underlying5 Try.underlying9 (Kd.own_of_R aG.out); go_wp2; go_ret
     exact ⟨xerr, xbel⟩

/-! ### spec_ShaText: function 23 -/
def spec_ShaText.f (k : Nat) (a0 : ByteArray) : Option (ByteArray) := if a0.size ≤ 9223372036854775807 then ((spec_Sha.f k (bytesOf a0)).bind fun bH => ((spec_HexOf.f k bH).bind fun bQ => (some bQ))) else (none)
theorem u3_mq2 {p : Prop} (h : p := by repeat' first | (with_reducible first | exact spec_HexOf.mono _ _ | exact spec_Sha.mono _ _ | exact LeO.refl _ | exact LeO.none _ | refine LeO.ite ?_ ?_ | refine LeO.bind ?_ (fun _ => ?_)) | exact LeO.none _ | refine LeO.ite ?_ ?_ | refine LeO.bind ?_ (fun _ => ?_)) : p := h
theorem spec_ShaText.mono : ∀ a0 k, LeO (spec_ShaText.f k a0) (spec_ShaText.f (k + 1) a0) := by
 intro a0 k
 unfold spec_ShaText.f
 exact u3_mq2
set_option maxHeartbeats 8000000 in
set_option maxRecDepth 100000 in
theorem spec_ShaText.calls (k : Nat) (a0 : ByteArray) (r : ByteArray) (w : World) (h : spec_ShaText.f k a0 = some r) :
 Calls Try.prog 23 #[.string a0] w fun e w' => e = .returned (.string r) ∧ Below w.heap.size w w' := by
 have HB := aM (Below.refl w.heap.size w)
 have H : (if a0.size ≤ 9223372036854775807 then ((spec_Sha.f k (bytesOf a0)).bind fun bH => ((spec_HexOf.f k bH).bind fun bQ => (some bQ))) else (none)) = some r := h
 clear h
 by_cases c2 : a0.size ≤ 9223372036854775807
 ·rw [if_pos c2] at H; have bA := eq_true c2; have bE : decide (a0.size ≤ 9223372036854775807) = true := decide_eq_true c2; try have hU : (9223372036854775807 < a0.size) = False := eq_false (Nat.not_lt.2 c2)
  clear c2; obtain ⟨dH, hY⟩ : ∃ y_ : List Int, y_ = (bytesOf a0) := ⟨_, rfl⟩; replace H : ((spec_Sha.f k dH).bind fun bH => ((spec_HexOf.f k bH).bind fun bQ => (some bQ))) = some r := u3_0; have dC := aM hY; clear hY; replace H := oB H; obtain ⟨bH, gO, H⟩ := H; (try dsimp only at H); have A3 := aM gO; clear gO; replace H := oB H
  obtain ⟨bQ, gP, H⟩ := H; (try dsimp only at H); have A4 := aM gP; clear gP
  obtain rfl := Option.some.inj H; go_enter Try.func23, Try.ntmps23
  go_wp2_with (first | ((with_reducible refine gD 4 rfl ?_); refine Kd.V_conv _ 5 rfl (N := 4) rfl 9 22 _ rfl a0 rfl Try.underlying9 Try.underlying22 Try.underlying5 (oda) (ok := fun k_ => w.heap.size ≤ k_) (Nat.le_refl _) (Below.refl _ _) (Nat.le_refl _) ?_; intro v230 w5 cL hb hg_ hnew_; clear hg_ hnew_; (first | rw [← dC.out] at cL | (simp only [Int.reduceToNat] at cL; rw [← dC.out] at cL)); have bB := aM (Kd.V_lower (Kd.V_mono (ok' := fun k_ => True) cL (fun k_ hk_ => trivial)) (below_size xbel)); replace HB := xbs hb; clear hb cL; obtain ⟨hX, hZ, iA⟩ := Kd.V_slice bB.out; subst iA) | ((with_reducible refine gC 30 rfl ?_); refine goesLY (some 5) rfl Try.func30 #[.slice hX dH.length hZ] ?_; (with_reducible refine (spec_Sha.calls k _ _ dH bH _ ?side1 ?side2 A3.out).mono ?_); (case side1 => repeat (first | exact (Kd.V_reads' bB.out).2.2 | (with_reducible refine Kd.C_alloc ?_ _) | (with_reducible refine Kd.C_drewN ?_ _) | (with_reducible refine Kd.C_drew ?_))); (case side2 => exact (Kd.V_reads' bB.out).2.1); rintro e w8 ⟨v233, rfl, dG, hb⟩; refine ⟨_, rfl, ?_⟩; replace bB := aM (Kd.V_elder' u3_10 (Kd.R_base dG) hb); have bP := aM (Kd.R_lower dG (below_size xbel)); replace HB := xbs hb; (try clear hb dG); obtain ⟨iB, iC, iD⟩ := Kd.R_slice bP.out; subst iD) | ((with_reducible refine gC 81 rfl ?_); refine goesLY (some 6) rfl Try.func81 #[.slice iB bH.length iC] ?_; (with_reducible refine (spec_HexOf.calls k _ _ bH bQ _ ?side1 ?side2 A4.out).mono ?_); (case side1 => exact xC bP); (case side2 => exact (Kd.R_reads' bP.out).2.1); rintro e iV ⟨rfl, hb⟩; refine ⟨_, rfl, ?_⟩; replace bB := aM (Kd.V_below u3_10 hb); replace bP := xrb bP hb; replace HB := xbs hb; (try clear hb)))
  go_ret
  exact ⟨xerr, xbel⟩
 ·rw [if_neg c2] at H; exact absurd H (by simp)

-- NOT PRINTED: function 88 (impl_firstWords)

-- NOT PRINTED: function 148 (impl_constants)

/-! ### impl_turnRight: function 150 -/
def impl_turnRight.f (a0 : Int) (a1 : Int) : Option (Int) := if 0 ≤ a1 then (if 0 ≤ (wrap64 (32 - a1)) then (some (Go.bits .and .i64 (Go.bits .or .i64 (shr .i64 a0 a1) (shl .i64 a0 (wrap64 (32 - a1)))) 4294967295)) else (none)) else (none)
set_option maxHeartbeats 8000000 in
set_option maxRecDepth 100000 in
theorem impl_turnRight.calls (a0 : Int) (a1 : Int) (r : Int) (w : World) (h : impl_turnRight.f a0 a1 = some r) :
 Calls Try.prog 150 #[.int .i64 a0, .int .i64 a1] w fun e w' => e = .returned (.int .i64 r) ∧ Drawn0 w w' := by
 have H : (if 0 ≤ a1 then (if 0 ≤ (wrap64 (32 - a1)) then (some (Go.bits .and .i64 (Go.bits .or .i64 (shr .i64 a0 a1) (shl .i64 a0 (wrap64 (32 - a1)))) 4294967295)) else (none)) else (none)) = some r := h
 clear h
 by_cases c3 : 0 ≤ a1
 ·rw [if_pos c3] at H; have fZ := eq_true c3; have iE : decide (0 ≤ a1) = true := decide_eq_true c3; clear c3; obtain ⟨ji4, hji4⟩ : ∃ j_ : Int, (shr .i64 a0 a1) = j_ := ⟨_, rfl⟩; replace H : (if 0 ≤ (wrap64 (32 - a1)) then (some (Go.bits .and .i64 (Go.bits .or .i64 (ji4) (shl .i64 a0 (wrap64 (32 - a1)))) 4294967295)) else (none)) = some r := by first | (rw [hji4] at H; exact H) | (simp only [hji4] at H ⊢; exact H)
  have hji4_ : (a0 / 2 ^ min a1.toNat 64) = ji4 := hji4; have hji4z : a1 ≤ 64 → (a0 / 2 ^ a1.toNat) = ji4 := shr_small hji4; obtain ⟨ji5, hji5⟩ : ∃ j_ : Int, (wrap64 (32 - a1)) = j_ := ⟨_, rfl⟩; replace H : (if 0 ≤ (ji5) then (some (Go.bits .and .i64 (Go.bits .or .i64 (ji4) (shl .i64 a0 (ji5))) 4294967295)) else (none)) = some r := by first | (rw [hji5] at H; exact H) | (simp only [hji5] at H ⊢; exact H)
  have hji5w : (IntKind.i64.wrap (32 - a1)) = ji5 := (i64_w _).trans hji5; by_cases c6 : 0 ≤ (ji5)
  ·rw [if_pos c6] at H; have iF := eq_true c6; have iG : decide (0 ≤ (ji5)) = true := decide_eq_true c6; clear c6; obtain ⟨ji7, hji7⟩ : ∃ j_ : Int, (shl .i64 a0 (ji5)) = j_ := ⟨_, rfl⟩; replace H : (some (Go.bits .and .i64 (Go.bits .or .i64 (ji4) (ji7)) 4294967295)) = some r := by first | (rw [hji7] at H; exact H) | (simp only [hji7] at H ⊢; exact H)
   have hji7_ : (IntKind.i64.wrap (a0 * 2 ^ min (ji5).toNat 64)) = ji7 := hji7; have hji7z : (ji5) ≤ 64 → (IntKind.i64.wrap (a0 * 2 ^ (ji5).toNat)) = ji7 := shl_small hji7; have hji7y : (wrap64 (a0 * 2 ^ min (ji5).toNat 64)) = ji7 := (i64_w _).symm.trans hji7_; have hji7x : (ji5) ≤ 64 → (wrap64 (a0 * 2 ^ (ji5).toNat)) = ji7 := fun h_ => (i64_w _).symm.trans (hji7z h_)
   obtain rfl := Option.some.inj H; go_enter Try.func150, Try.ntmps150
   go_wp2
   repeat (go_quiet (fail); try go_wp2)
   go_ret
   exact ⟨by first | rfl | (simp; done) | (simp only [← hji4, ← hji5, ← hji7] <;> (first | rfl | simp)) | (simp [*]; done), by repeat (first | exact Drawn0.refl _ | apply Drawn0.step)⟩
  ·rw [if_neg c6] at H; exact absurd H (by simp)
 ·rw [if_neg c3] at H; exact absurd H (by simp)

-- NOT PRINTED: function 149 (impl_expanded)

-- NOT PRINTED: function 89 (impl_round)

end Go.Proofs.Ytoojdlobnbakoaa.QFnExactShaText
