-- A walk, by a program of this session.
import Derived.Test.YtoojdlobnbakoaaQFnExactShax0
import Derived.Test.YtoojdlobnbakoaaQFnExactShax2
namespace Go.Proofs.Ytoojdlobnbakoaa.QFnExactSha
open Go.RowKit Go.Proofs.YtoojdlobnbakoaaW.PrintWords Go.Proofs.YtoojdlobnbakoaaW.PrintLast Go.Proofs.YtoojdlobnbakoaaW.PrintMore
attribute [local go_sem] max2_int min2_int max_two min_two max_three min_three max_four min_four   -- for this text's walks alone
set_option linter.unusedVariables false
set_option linter.unusedSimpArgs false

theorem u3_0 {p : Prop} (h : p := by first | (rw [hY]; with_reducible exact H) | (have H2_ := oS H; rw [hY]; with_reducible exact H2_) | (have H2_ := oS H; with_reducible exact H2_) | with_reducible exact H | (rw [hY]; exact H) | exact H) : p := h
theorem u3_1 {p : Prop} (h : p := by first | rfl | (simp; done) | (simp [*]; done)) : p := h
theorem u3_2 {p : Prop} (h : p := by first | (go_simp; done) | (go_simp; rfl)) : p := h
theorem u3_3 {p : Prop} (h : p := by (with_reducible repeat (first | apply Kd.R_alloc | apply Kd.R_drewN | apply Kd.R_drew)); exact aG.out) : p := h
theorem u3_4 {p : Prop} (h : p := by (with_reducible repeat (first | apply Kd.R_alloc | apply Kd.R_drewN | apply Kd.R_drew)); exact aN.out) : p := h
theorem u3_5 {p : Prop} (h : p := by (with_reducible repeat (first | apply Kd.R_alloc | apply Kd.R_drewN | apply Kd.R_drew)); exact Kd.R_mono aG.out (fun _ hk => hk.2)) : p := h
theorem u3_6 {p : Prop} (h : p := by (with_reducible repeat (first | apply Kd.R_alloc | apply Kd.R_drewN | apply Kd.R_drew)); exact Kd.R_mono aG.out (fun _ hk => ⟨trivial, hk⟩)) : p := h
theorem u3_7 {p : Prop} (h : p := by repeat (first | (with_reducible exact bQ.out) | (with_reducible refine Kd.C_alloc ?_ _) | (with_reducible refine Kd.C_drewN ?_ _) | (with_reducible refine Kd.C_drew ?_) | exact bQ.out)) : p := h
theorem u3_8 {p : Prop} (h : p := by (with_reducible repeat (first | apply Kd.R_alloc | apply Kd.R_drewN | apply Kd.R_drew)); exact aJ.out) : p := h
/-! ### spec_Sha: function 30 -/
mutual
def spec_Sha.l0 : Nat → List Int → List Int → List Int → Option (List Int)
 | 0, _, _, _ => none
 | k + 1, x0, x3, x4 => if ((x4.length : Int) % 64) = 56 then (spec_Sha.l1 k x0 x3 x4 7) else (if x4.length < 140737488355328 then (spec_Sha.l0 k x0 x3 (x4 ++ [0])) else (none))
def spec_Sha.l1 : Nat → List Int → List Int → List Int → Int → Option (List Int)
 | 0, _, _, _, _ => none
 | k + 1, x0, x3, x4, x5 => if x5 ≥ 0 then (if 0 ≤ (wrap64 (8 * x5)) then (if x4.length < 140737488355328 then (spec_Sha.l1 k x0 x3 (x4 ++ [(shr .i64 (wrap64 (8 * (x0.length : Int))) (wrap64 (8 * x5))) % 256]) (wrap64 (x5 - 1))) else (none)) else (none)) else (spec_Sha.l2 k x3 x4 (([1779033703, 3144134277, 1013904242, 2773480762, 1359893119, 2600822924, 528734635, 1541459225] : List Int)) 0)
def spec_Sha.l2 : Nat → List Int → List Int → List Int → Int → Option (List Int)
 | 0, _, _, _, _ => none
 | k + 1, x3, x4, x6, x7 => if x7 < (x4.length : Int) then (if 0 ≤ x7 then (if x7 ≤ (wrap64 (x7 + 64)) then (if (wrap64 (x7 + 64)) ≤ (x4.length : Int) then ((spec_l2Block.f k x6 ((x4.take ((wrap64 (x7 + 64)) : Int).toNat).drop (x7 : Int).toNat)).bind fun bN => (spec_Sha.l2 k x3 x4 bN (wrap64 (x7 + 64)))) else (none)) else (none)) else (none)) else (spec_Sha.l3 k x3 x6 0)
def spec_Sha.l3 : Nat → List Int → List Int → Int → Option (List Int)
 | 0, _, _, _ => none
 | k + 1, x3, x6, x8 => if x8 < 8 then (if 0 ≤ x8 then (if x8 < (x6.length : Int) then ((some (([((rd x6 x8) / 16777216) % 256, ((rd x6 x8) / 65536) % 256, ((rd x6 x8) / 256) % 256, (rd x6 x8) % 256] : List Int) : List Int)).bind fun aW => (if x3.length + aW.length < 140737488355328 then (spec_Sha.l3 k (x3 ++ aW) x6 (wrap64 (x8 + 1))) else (none))) else (none)) else (none)) else (some x3)
end
def spec_Sha.f (k : Nat) (l0 : List Int) : Option (List Int) := (some (([] : List Int) : List Int)).bind fun aI => (if (l0.length : Int) > 4000 then (some aI) else ((some (([] : List Int) : List Int)).bind fun aT => (if aT.length + l0.length < 140737488355328 then ((some (aT ++ l0 : List Int)).bind fun aQ => (if aQ.length < 140737488355328 then (spec_Sha.l0 k l0 aI (aQ ++ [128])) else (none))) else (none))))
theorem u3_mq0 {p : Prop} (h : p := by repeat' first | (with_reducible first | exact cT _ _ _ | exact fL _ _ _ _ | exact fM _ _ _ _ | exact fN _ _ _ | exact spec_l2Block.mono _ _ _ | exact LeO.refl _ | exact LeO.none _ | refine LeO.ite ?_ ?_ | refine LeO.bind ?_ (fun _ => ?_)) | exact LeO.none _ | refine LeO.ite ?_ ?_ | refine LeO.bind ?_ (fun _ => ?_)) : p := h
set_option maxRecDepth 100000 in
theorem spec_Sha.mono_l : ∀ k, (∀ y0 y1 y2, LeO (spec_Sha.l0 k y0 y1 y2) (spec_Sha.l0 (k + 1) y0 y1 y2)) ∧ (∀ y0 y1 y2 y3, LeO (spec_Sha.l1 k y0 y1 y2 y3) (spec_Sha.l1 (k + 1) y0 y1 y2 y3)) ∧ (∀ y0 y1 y2 y3, LeO (spec_Sha.l2 k y0 y1 y2 y3) (spec_Sha.l2 (k + 1) y0 y1 y2 y3)) ∧ (∀ y0 y1 y2, LeO (spec_Sha.l3 k y0 y1 y2) (spec_Sha.l3 (k + 1) y0 y1 y2))
 | 0 => ⟨fun _ _ _ r h => by simp [spec_Sha.l0] at h, fun _ _ _ _ r h => by simp [spec_Sha.l1] at h, fun _ _ _ _ r h => by simp [spec_Sha.l2] at h, fun _ _ _ r h => by simp [spec_Sha.l3] at h⟩
 | k + 1 => by
  obtain ⟨cT, fL, fM, fN⟩ := spec_Sha.mono_l k; refine ⟨?_, ?_, ?_, ?_⟩
  ·intro y0 y1 y2; unfold spec_Sha.l0; exact u3_mq0
  ·intro y0 y1 y2 y3; unfold spec_Sha.l1; exact u3_mq0
  ·intro y0 y1 y2 y3; unfold spec_Sha.l2; exact u3_mq0
  ·intro y0 y1 y2; unfold spec_Sha.l3; exact u3_mq0
theorem spec_Sha.mono : ∀ a0 k, LeO (spec_Sha.f k a0) (spec_Sha.f (k + 1) a0) := by
 intro a0 k
 obtain ⟨cT, fL, fM, fN⟩ := spec_Sha.mono_l k
 unfold spec_Sha.f
 exact u3_mq0
def spec_Sha.T19 : Bool × List (List Nat × List Nat) := (true, [([], []), ([], []), ([], []), ([1, 2], [1, 2]), ([3], [3]), ([4], [4]), ([5], [5]), ([], []), ([], []), ([7, 8], [7, 8]), ([9], [9]), ([10], [10]), ([11], [11]), ([], []), ([], []), ([13, 14], [13, 14]), ([15], [15]), ([16], [16]), ([17], [17]), ([], []), ([], []), ([19, 20], [19, 20]), ([21], [21]), ([22], [22]), ([6, 12, 18, 23], [6, 12, 18, 23]), ([0, 24], [0, 24]), ([25, 25, 0, 1, 2, 3, 4, 5, 6, 7, 8, 9, 10, 11, 12, 13, 14, 15, 16, 17, 18, 19, 20, 21, 22, 23, 24, 25], [0, 25])])
def spec_Sha.B19 : List Nat := [0, 0, 0, 6, 14, 30, 62, 0, 0, 384, 896, 1920, 3968, 0, 0, 24576, 57344, 122880, 253952, 0, 0, 1572864, 3670016, 7864320, 16777214, 33554431, 67108863]
theorem spec_Sha.tab19 : rtab .any (opsOf Try.f30 19) = spec_Sha.T19 := by kernel_rfl
theorem spec_Sha.bits19 : waitsOk spec_Sha.T19.2 spec_Sha.B19 = true := by kernel_rfl
set_option maxHeartbeats 8000000 in
set_option maxRecDepth 100000 in
theorem spec_Sha.calls (k : Nat) (A0 : Option Addr) (c0 : Nat) (l0 : List Int) (r : List Int) (w : World) (cU : Kd.C (Kd.int .u8) w A0 l0.length l0) (cV : l0.length ≤ c0) (h : spec_Sha.f k l0 = some r) :
 Calls Try.prog 30 #[.slice A0 l0.length c0] w fun e w' => ∃ v0_ : Value, e = .returned (v0_) ∧ Kd.R (Kd.int .u8) 5 w' w.heap.size (fun _ => True) v0_ r ∧ Below w.heap.size w w' := by
 have eR := aM cU
 have fW := aM cV
 clear cU cV
 have HB := aM (Below.refl w.heap.size w)
 have H : ((some (([] : List Int) : List Int)).bind fun aI => (if (l0.length : Int) > 4000 then (some aI) else ((some (([] : List Int) : List Int)).bind fun aT => (if aT.length + l0.length < 140737488355328 then ((some (aT ++ l0 : List Int)).bind fun aQ => (if aQ.length < 140737488355328 then (spec_Sha.l0 k l0 aI (aQ ++ [128])) else (none))) else (none))))) = some r := h
 clear h
 obtain ⟨aI, hY⟩ : ∃ y_ : List Int, y_ = (([] : List Int)) := ⟨_, rfl⟩
 replace H : (if (l0.length : Int) > 4000 then (some aI) else ((some (([] : List Int) : List Int)).bind fun aT => (if aT.length + l0.length < 140737488355328 then ((some (aT ++ l0 : List Int)).bind fun aQ => (if aQ.length < 140737488355328 then (spec_Sha.l0 k l0 aI (aQ ++ [128])) else (none))) else (none)))) = some r := u3_0
 have bE := aM hY
 clear hY
 by_cases c2 : (l0.length : Int) > 4000
 ·rw [if_pos c2] at H; have bB : decide (4000 < (l0.length : Int)) = true := decide_eq_true c2; have bC : decide (4000 < l0.length) = true := decide_eq_true (by omega); clear c2; obtain rfl := Option.some.inj H; go_enter Try.func30, Try.ntmps30
  go_wp2_with (first | ((with_reducible refine gD 9 rfl ?_); refine Kd.R_lit (Kd.int .u8) _ 5 ?hg (N := 9) ?hd (xs := ([] : List Int)) (inner := []) (ok := fun _ => True) (okp := fun _ => True) ?hr ?hp (fun _ hk => hk) trivial (Below.refl _ _) (Nat.le_refl _) (by simp) ?_; (case hd => rfl); (case hg => rfl); (case hr => exact u3_2); (case hp => exact (Reps.none _ _)); intro v179 w3 cW hb hg_ hnew_; clear hg_ hnew_; (first | rw [← bE.out] at cW | (simp only [Int.reduceToNat] at cW; rw [← bE.out] at cW)); have aK := aM (Kd.R_lower cW (below_size xbel)); replace HB := xbs hb; clear hb cW))
  go_ret
  exact ⟨_, xerr, by (with_reducible repeat (first | apply Kd.R_alloc | apply Kd.R_drewN | apply Kd.R_drew)); exact aK.out, xbel⟩
 ·rw [if_neg c2] at H; have bB : decide (4000 < (l0.length : Int)) = false := decide_eq_false c2; have bC : decide (4000 < l0.length) = false := decide_eq_false (by omega); clear c2; obtain ⟨aT, hY⟩ : ∃ y_ : List Int, y_ = (([] : List Int)) := ⟨_, rfl⟩; replace H : (if aT.length + l0.length < 140737488355328 then ((some (aT ++ l0 : List Int)).bind fun aQ => (if aQ.length < 140737488355328 then (spec_Sha.l0 k l0 aI (aQ ++ [128])) else (none))) else (none)) = some r := u3_0; have bY := aM hY; clear hY; by_cases c5 : aT.length + l0.length < 140737488355328
  ·rw [if_pos c5] at H; have LMc5 := aM c5; clear c5; obtain ⟨aQ, hY⟩ : ∃ y_ : List Int, y_ = (aT ++ l0) := ⟨_, rfl⟩; replace H : (if aQ.length < 140737488355328 then (spec_Sha.l0 k l0 aI (aQ ++ [128])) else (none)) = some r := u3_0; have cX := aM hY; clear hY; by_cases c6 : aQ.length < 140737488355328
   ·rw [if_pos c6] at H; have LMc6 := aM c6; clear c6; obtain ⟨cY, hY⟩ : ∃ y_ : List Int, y_ = (aQ ++ [128]) := ⟨_, rfl⟩; replace H : (spec_Sha.l0 k l0 aI cY) = some r := u3_0; have cZ := aM hY; clear hY; have H' := aM H; clear H; go_enter Try.func30, Try.ntmps30
    go_wp2_with (first | ((with_reducible refine gD 9 rfl ?_); refine Kd.R_lit (Kd.int .u8) _ 5 ?hg (N := 9) ?hd (xs := ([] : List Int)) (inner := []) (ok := fun _ => True) (okp := fun _ => True) ?hr ?hp (fun _ hk => hk) trivial (Below.refl _ _) (Nat.le_refl _) (by simp) ?_; (case hd => rfl); (case hg => rfl); (case hr => exact u3_2); (case hp => exact (Reps.none _ _)); intro v179 w7 dA hb hg_ hnew_; clear hg_ hnew_; (first | rw [← bE.out] at dA | (simp only [Int.reduceToNat] at dA; rw [← bE.out] at dA)); have aK := aM (Kd.R_lower dA (below_size xbel)); replace HB := xbs hb; clear hb dA) | ((with_reducible refine gD 14 rfl ?_); refine Kd.R_lit (Kd.int .u8) _ 5 ?hg (N := 14) ?hd (xs := ([] : List Int)) (inner := []) (ok := fun _ => True) (okp := fun _ => True) ?hr ?hp (fun _ hk => hk) trivial (Below.refl _ _) (Nat.le_refl _) (by simp) ?_; (case hd => rfl); (case hg => rfl); (case hr => exact u3_2); (case hp => exact (Reps.none _ _)); intro v182 w9 bO hb hg_ hnew_; clear hg_ hnew_; (first | rw [← bY.out] at bO | (simp only [Int.reduceToNat] at bO; rw [← bY.out] at bO)); have bZ := aM (Kd.R_lower (Kd.R_new' bO (Kd.R_lt (xr aK))) (below_size xbel)); replace aK := aM (Kd.R_elder' (xr aK) (Kd.R_base bO) hb); replace HB := xbs hb; clear hb bO) | ((with_reducible refine gate_builtin (b := .append) (xs := #[.tmp 14, .tmp 15]) rfl ?_); at_builtin; refine Kd.R_append_rows (Kd.int .u8) (w0 := w) w.heap.size rfl (.tmp 14) (.tmp 15) 22 5 (.int .u8 0) 1 rfl Try.underlying22 info5 rfl (by decide) (by omega) v182 aT l0 _ _ _ (fun k_ => some k_ ≠ (v179 : Value).ownBlock) (fun _ => False) rfl rfl ?aO ?aR (fun _ _ h => h) (fun _ h => h.elim) ?aF ?aB ?aS ?aL ?_; (case aR => exact xcb eR); (case aB => exact xbel); (case aF => exact (fun k_ hk => Kd.fresh' (Kd.R_lt (xr aK)) k_ hk)); (case aO => exact (by (with_reducible repeat (first | apply Kd.R_alloc | apply Kd.R_drewN | apply Kd.R_drew)); exact Kd.R_mono bZ.out (fun _ hk => hk.2))); (case aS => exact (below_size xbel)); (case aL => have := LMc5.out; omega); intro v185 eM ho hb hg hat; rw [← cX.out] at ho; replace aK := aM (Kd.R_after (ok := (fun _ => True)) (xr aK) hg hat); replace HB := aM (hb); have cA := aM (ho); clear bZ; clear ho hb hg hat) | ((with_reducible refine gate_builtin (b := .append) (xs := #[.tmp 16, .tmp 17]) rfl ?_); at_builtin; refine Kd.R_append (Kd.int .u8) (w0 := w) w.heap.size rfl (.tmp 16) (.tmp 17) 22 5 (.int .u8 0) 1 rfl Try.underlying22 info5 rfl (by decide) (by omega) v185 aQ 128 [.int .u8 128] (fun k_ => some k_ ≠ (v179 : Value).ownBlock) (fun _ => False) rfl rfl ?aP (fun _ hk => hk.elim) ?aF ?aO ?aB ?aS ?aL ?_; (case aP => exact rfl); (case aB => exact xbel); (case aF => exact (fun k_ hk => Kd.fresh' (Kd.R_lt (xr aK)) k_ hk)); (case aO => exact (xr cA)); (case aS => exact (below_size xbel)); (case aL => have := LMc6.out; omega); intro v188 gK ho hb hg hat; rw [← cZ.out] at ho; replace aK := aM (Kd.R_after (ok := (fun _ => True)) (xr aK) hg hat); replace HB := aM (hb); have dB := aM (ho); clear cA; clear ho hb hg hat))
    go_loopg [4] k (fun kq v4 w' => ∃ (aE : List Int), Aside0 (spec_Sha.l0 kq l0 aI aE = some r) ∧ Aside0 (kq ≤ k) ∧ Aside0 (Kd.R (Kd.int .u8) 5 w' w.heap.size (fun k_ => some k_ ≠ (v4 : Value).ownBlock) v179 aI) ∧ Aside0 (Kd.R (Kd.int .u8) 5 w' w.heap.size (fun k_ => some k_ ≠ (v179 : Value).ownBlock) v4 aE) ∧ Aside0 (Below w.heap.size w w'))
    case atStart => exact ⟨(cY), H', ⟨Nat.le_refl _⟩, ⟨by (with_reducible repeat (first | apply Kd.R_alloc | apply Kd.R_drewN | apply Kd.R_drew)); exact Kd.R_mono aK.out (fun _ hk => hk.2)⟩, ⟨by (with_reducible repeat (first | apply Kd.R_alloc | apply Kd.R_drewN | apply Kd.R_drew)); exact dB.out⟩, ⟨xbel⟩⟩
    case round =>
     clear H'; try clear c2
     try clear bB
     try clear bC
     try clear p2
     try clear c3
     try clear c5
     try clear c6
     obtain ⟨aE, HA, HK1, aG, aN, HB⟩ := hrel; cases gk with
     | zero => exact absurd HA.out (by simp [spec_Sha.l0])
     | succ k1 =>
      have H := HA.out; clear HA; simp only [spec_Sha.l0] at H; by_cases cB : ((aE.length : Int) % 64) = 56
      ·rw [if_pos cB] at H; obtain ⟨bG, bH⟩ := bT cB; clear cB; have H' := aM H; clear H; obtain ⟨fX, fY, eS⟩ := Kd.R_slice aN.out; subst eS; go_wp2; go_loopg [4, 5] k1 (fun kq v4 v5 w' => ∃ (aH : List Int) (aU : Int), v5 = .int .i64 aU ∧ Aside0 (spec_Sha.l1 kq l0 aI aH aU = some r) ∧ Aside0 (kq ≤ k1) ∧ Aside0 (Kd.R (Kd.int .u8) 5 w' w.heap.size (fun k_ => some k_ ≠ (v4 : Value).ownBlock) v179 aI) ∧ Aside0 (Kd.R (Kd.int .u8) 5 w' w.heap.size (fun k_ => some k_ ≠ (v179 : Value).ownBlock) v4 aH) ∧ Aside0 (Below w.heap.size w w'))
       case atStart => exact ⟨(aE), (7), u3_1, H', ⟨Nat.le_refl _⟩, ⟨u3_3⟩, ⟨u3_4⟩, ⟨xbel⟩⟩
       case round =>
        clear H'; try clear c1
        try clear c2
        try clear bB
        try clear bC
        try clear p2
        try clear c3
        try clear c5
        try clear c6
        try clear cB
        try clear bG
        try clear bH
        try clear p2
        obtain ⟨aH, aU, rfl, HA, HK2, aG, aN, HB⟩ := hrel; cases gk with
        | zero => exact absurd HA.out (by simp [spec_Sha.l1])
        | succ k2 =>
         have H := HA.out; clear HA; simp only [spec_Sha.l1] at H; by_cases cC : aU ≥ 0
         ·rw [if_pos cC] at H; have bR : decide (0 ≤ aU) = true := decide_eq_true cC; clear cC; obtain ⟨ji16, hji16⟩ : ∃ j_ : Int, (wrap64 (8 * aU)) = j_ := ⟨_, rfl⟩; replace H : (if 0 ≤ (ji16) then (if aH.length < 140737488355328 then (spec_Sha.l1 k2 l0 aI (aH ++ [(shr .i64 (wrap64 (8 * (l0.length : Int))) (ji16)) % 256]) (wrap64 (aU - 1))) else (none)) else (none)) = some r := by first | (rw [hji16] at H; exact H) | (simp only [hji16] at H ⊢; exact H)
          have hji16w : (IntKind.i64.wrap (8 * aU)) = ji16 := (i64_w _).trans hji16; by_cases cK : 0 ≤ (ji16)
          ·rw [if_pos cK] at H; have cD := eq_true cK; have cE : decide (0 ≤ (ji16)) = true := decide_eq_true cK; clear cK; obtain ⟨ji18, hji18⟩ : ∃ j_ : Int, (shr .i64 (wrap64 (8 * (l0.length : Int))) (ji16)) = j_ := ⟨_, rfl⟩; replace H : (if aH.length < 140737488355328 then (spec_Sha.l1 k2 l0 aI (aH ++ [(ji18) % 256]) (wrap64 (aU - 1))) else (none)) = some r := by first | (rw [hji18] at H; exact H) | (simp only [hji18] at H ⊢; exact H)
           have hji18_ : ((wrap64 (8 * (l0.length : Int))) / 2 ^ min (ji16).toNat 64) = ji18 := hji18; have hji18z : (ji16) ≤ 64 → ((wrap64 (8 * (l0.length : Int))) / 2 ^ (ji16).toNat) = ji18 := shr_small hji18; by_cases cP : aH.length < 140737488355328
           ·rw [if_pos cP] at H; have LMc19 := aM cP; clear cP; obtain ⟨dC, hY⟩ : ∃ y_ : List Int, y_ = (aH ++ [(ji18) % 256]) := ⟨_, rfl⟩; replace H : (spec_Sha.l1 k2 l0 aI dC (wrap64 (aU - 1))) = some r := u3_0; have dD := aM hY; clear hY; have H' := aM H; clear H; go_wp2_with (first | ((with_reducible refine gate_builtin (b := .append) (xs := #[.tmp 30, .tmp 38]) rfl ?_); at_builtin; refine Kd.R_append (Kd.int .u8) (w0 := w) w.heap.size rfl (.tmp 30) (.tmp 38) 22 5 (.int .u8 0) 1 rfl Try.underlying22 info5 rfl (by decide) (by omega) u4 aH ((ji18) % 256) [.int .u8 ((ji18) % 256)] (fun k_ => some k_ ≠ (v179 : Value).ownBlock) (fun _ => False) rfl rfl ?aP (fun _ hk => hk.elim) ?aF ?aO ?aB ?aS ?aL ?_; (case aP => exact rfl); (case aB => exact xbel); (case aF => exact (fun k_ hk => Kd.fresh' (Kd.R_lt (xr aG)) k_ hk)); (case aO => exact (xr aN)); (case aS => exact (below_size xbel)); (case aL => have := LMc19.out; omega); intro v194 gL ho hb hg hat; rw [← dD.out] at ho; replace aG := aM (Kd.R_after (ok := (fun _ => True)) u3_6 hg hat); replace HB := aM (hb); have dE := aM (ho); clear aN; clear ho hb hg hat))
            go_roundg k2
            case measure => have := HK1.out; have := HK2.out; omega
            case rel => exact ⟨(dC), (wrap64 (aU - 1)), u3_1, H', ⟨by have := HK1.out; have := HK2.out; omega⟩, ⟨u3_5⟩, ⟨by (with_reducible repeat (first | apply Kd.R_alloc | apply Kd.R_drewN | apply Kd.R_drew)); exact dE.out⟩, ⟨xbel⟩⟩
           ·rw [if_neg cP] at H; exact absurd H (by simp)
          ·rw [if_neg cK] at H; exact absurd H (by simp)
         ·rw [if_neg cC] at H; have bR : decide (0 ≤ aU) = false := decide_eq_false cC; clear cC; obtain ⟨dF, hY⟩ : ∃ y_ : List Int, y_ = (([1779033703, 3144134277, 1013904242, 2773480762, 1359893119, 2600822924, 528734635, 1541459225] : List Int)) := ⟨_, rfl⟩; replace H : (spec_Sha.l2 k2 aI aH dF 0) = some r := u3_0; have cF := aM hY; clear hY; have H' := aM H; clear H; go_wp2_with (first | ((with_reducible refine gD 40 rfl ?_); refine Kd.R_lit (Kd.int .i64) _ 3 ?hg (N := 40) ?hd (xs := ([1779033703, 3144134277, 1013904242, 2773480762, 1359893119, 2600822924, 528734635, 1541459225] : List Int)) (inner := [.int .i64 1779033703, .int .i64 3144134277, .int .i64 1013904242, .int .i64 2773480762, .int .i64 1359893119, .int .i64 2600822924, .int .i64 528734635, .int .i64 1541459225]) (ok := fun _ => True) (okp := fun _ => True) ?hr ?hp (fun _ hk => hk) trivial (Below.refl _ _) (Nat.le_refl _) (by simp) ?_; (case hd => rfl); (case hg => rfl); (case hr => exact u3_2); (case hp => exact (Reps.one (show Kd.M (Kd.int .i64) _ _ _ 1779033703 [.int .i64 1779033703] from rfl) (Reps.one (show Kd.M (Kd.int .i64) _ _ _ 3144134277 [.int .i64 3144134277] from rfl) (Reps.one (show Kd.M (Kd.int .i64) _ _ _ 1013904242 [.int .i64 1013904242] from rfl) (Reps.one (show Kd.M (Kd.int .i64) _ _ _ 2773480762 [.int .i64 2773480762] from rfl) (Reps.one (show Kd.M (Kd.int .i64) _ _ _ 1359893119 [.int .i64 1359893119] from rfl) (Reps.one (show Kd.M (Kd.int .i64) _ _ _ 2600822924 [.int .i64 2600822924] from rfl) (Reps.one (show Kd.M (Kd.int .i64) _ _ _ 528734635 [.int .i64 528734635] from rfl) (Reps.one (show Kd.M (Kd.int .i64) _ _ _ 1541459225 [.int .i64 1541459225] from rfl) (Reps.none _ _)))))))))); intro v197 gM bU hb hg_ hnew_; clear hg_ hnew_; (first | rw [← cF.out] at bU | (simp only [Int.reduceToNat] at bU; rw [← cF.out] at bU)); replace aG := xrb aG hb; replace aN := xrb aN hb; have dG := aM (Kd.R_lower bU (below_size xbel)); replace HB := xbs hb; clear hb bU))
          go_loopg [6, 7] k2 (fun kq v6 v7 w' => ∃ (aC : List Int) (aD : Int), v7 = .int .i64 aD ∧ Aside0 (spec_Sha.l2 kq aI aH aC aD = some r) ∧ Aside0 (kq ≤ k2) ∧ Aside0 (Kd.R (Kd.int .u8) 5 w' w.heap.size (fun k_ => some k_ ≠ (u4 : Value).ownBlock) v179 aI) ∧ Aside0 (Kd.R (Kd.int .u8) 5 w' w.heap.size (fun k_ => some k_ ≠ (v179 : Value).ownBlock) u4 aH) ∧ Aside0 (Kd.R (Kd.int .i64) 3 w' w.heap.size (fun _ => True) v6 aC) ∧ Aside0 (Below w.heap.size w w'))
          case atStart => exact ⟨(dF), (0), u3_1, H', ⟨Nat.le_refl _⟩, ⟨u3_3⟩, ⟨u3_4⟩, ⟨by (with_reducible repeat (first | apply Kd.R_alloc | apply Kd.R_drewN | apply Kd.R_drew)); exact dG.out⟩, ⟨xbel⟩⟩
          case round =>
           clear H'; try clear c1
           try clear c2
           try clear bB
           try clear bC
           try clear p2
           try clear c3
           try clear c5
           try clear c6
           try clear p6
           try clear cB
           try clear bG
           try clear bH
           try clear cC
           try clear bR
           try clear cK
           try clear cD
           try clear cE
           try clear cP
           try clear p2
           obtain ⟨aC, aD, rfl, HA, HK3, aG, aN, aJ, HB⟩ := hrel; cases gk with
           | zero => exact absurd HA.out (by simp [spec_Sha.l2])
           | succ k3 =>
            have H := HA.out; clear HA; simp only [spec_Sha.l2] at H; by_cases cL : aD < (aH.length : Int)
            ·rw [if_pos cL] at H; have cG : decide (aD < (aH.length : Int)) = true := decide_eq_true cL; clear cL; by_cases cQ : 0 ≤ aD
             ·rw [if_pos cQ] at H; have dH := eq_true cQ; have dI : decide (0 ≤ aD) = true := decide_eq_true cQ; clear cQ; by_cases dJ : aD ≤ (wrap64 (aD + 64))
              ·rw [if_pos dJ] at H; have dK := eq_true dJ; have dL : decide (aD ≤ (wrap64 (aD + 64))) = true := decide_eq_true dJ; by_cases dM : (wrap64 (aD + 64)) ≤ (aH.length : Int)
               ·rw [if_pos dM] at H; have dN := eq_true dM; have dO : decide ((wrap64 (aD + 64)) ≤ (aH.length : Int)) = true := decide_eq_true dM; obtain ⟨aX, hY⟩ : ∃ y_ : List Int, y_ = ((aH.take ((wrap64 (aD + 64)) : Int).toNat).drop (aD : Int).toNat) := ⟨_, rfl⟩; replace H : ((spec_l2Block.f k3 aC aX).bind fun bN => (spec_Sha.l2 k3 aI aH bN (wrap64 (aD + 64)))) = some r := u3_0; have cH := aM hY; clear hY; replace H := oB H; obtain ⟨bN, dP, H⟩ := H; (try dsimp only at H); have fZ := aM dP; clear dP
                have H' := aM H; clear H; obtain ⟨bX, bV, eT⟩ := Kd.R_slice aN.out; subst eT; have q29 : ((wrap64 (aD + 64)) : Int) ≤ ((aH.length : Int) : Int) := oda; obtain ⟨i029, hi029, _, hsz29, _⟩ := info_parts info5; have hroom29 : aH.length ≤ bV := (Kd.R_reads' aN.out).2.1; have hC29 : Kd.C (Kd.int .u8) _ bX aH.length aH := (Kd.R_reads' aN.out).2.2; have ql29 : (aD : Int) ≤ ((wrap64 (aD + 64)) : Int) := oda; have q029 : (0 : Int) ≤ (aD : Int) := oda; have hcut29 := cut_mid (P := Try.prog) 22 5 .i64 .i64 Try.underlying22 hi029 1 hsz29 bX aH.length bV aD (wrap64 (aD + 64)) q029 ql29 q29 hroom29; have bW := Kd.C_mid (lo := (aD : Int).toNat) (hi := ((wrap64 (aD + 64)) : Int).toNat) (c := bV) hC29 (by omega) (by omega) hroom29; obtain ⟨fO, hA29⟩ : ∃ A1, A1 = (if bV = (aD : Int).toNat then bX else (bX : Option Addr).map (·.add ((aD : Int).toNat * 1))) := ⟨_, rfl⟩; obtain ⟨eU, cM⟩ : ∃ c1, c1 = bV - (aD : Int).toNat := ⟨_, rfl⟩; have hY : aX.length = ((wrap64 (aD + 64)) : Int).toNat - (aD : Int).toNat := (by rw [cH.out, List.length_drop, List.length_take] <;> omega); rw [show ((aH).take ((wrap64 (aD + 64)) : Int).toNat).drop (aD : Int).toNat = aX from cH.out.symm] at bW; replace bW : Kd.C (Kd.int .u8) _ fO aX.length aX := (by rw [hA29]; exact bW); rw [← hY, ← hA29, ← cM] at hcut29; have bQ := aM bW; have dQ := aM (show aX.length ≤ eU from by rw [hY, cM]; exact Nat.sub_le_sub_right (Nat.le_trans (by omega) hroom29) _); clear bW hC29 hroom29 hi029 hsz29 cM; have KY29 := aM hY; have KA29 := aM hA29; clear hY hA29; have KL29 := aM (show ((wrap64 (aD + 64)) : Int).toNat ≤ aH.length from by omega); have KM29 := aM (show (aD : Int).toNat ≤ ((wrap64 (aD + 64)) : Int).toNat from by omega); replace q29 := eq_true q29; obtain ⟨eV, eW, eX⟩ := Kd.R_slice aJ.out; subst eX; go_wp2_with (first | ((with_reducible refine gC 87 rfl ?_); refine goesLY (some 53) rfl Try.func87 #[.slice eV aC.length eW, .slice fO aX.length eU] ?_; (with_reducible refine (spec_l2Block.calls k3 _ _ aC _ _ aX bN _ ?side1 ?side2 ?side3 ?side4 fZ.out).mono ?_); (case side1 => exact xC aJ); (case side2 => exact (Kd.R_reads' aJ.out).2.1); (case side3 => repeat (first | exact u3_7 | (with_reducible refine Kd.C_alloc ?_ _) | (with_reducible refine Kd.C_drewN ?_ _) | (with_reducible refine Kd.C_drew ?_))); (case side4 => exact dQ.out); rintro e gN ⟨v204, rfl, eY, hb⟩; refine ⟨_, rfl, ?_⟩; replace aG := xrb aG hb; replace aN := xrb aN hb; have dR := aM (Kd.R_lower (Kd.R_new' eY (Kd.R_lt (xr aJ))) (below_size xbel)); replace aJ := aM (Kd.R_elder' (xr aJ) (Kd.R_base eY) hb); replace bQ := aM (Kd.C_below u3_7 hb); replace HB := xbs hb; (try clear hb eY)))
                go_roundg k3
                case measure => have := HK1.out; have := HK2.out; have := HK3.out; omega
                case rel => exact ⟨(bN), (wrap64 (aD + 64)), u3_1, H', ⟨by have := HK1.out; have := HK2.out; have := HK3.out; omega⟩, ⟨u3_3⟩, ⟨u3_4⟩, ⟨by (with_reducible repeat (first | apply Kd.R_alloc | apply Kd.R_drewN | apply Kd.R_drew)); exact Kd.R_mono dR.out (fun _ hk => trivial)⟩, ⟨xbel⟩⟩
               ·rw [if_neg dM] at H; exact absurd H (by simp)
              ·rw [if_neg dJ] at H; exact absurd H (by simp)
             ·rw [if_neg cQ] at H; exact absurd H (by simp)
            ·rw [if_neg cL] at H; have cG : decide (aD < (aH.length : Int)) = false := decide_eq_false cL; clear cL; have H' := aM H; clear H; obtain ⟨gA, gB, eZ⟩ := Kd.R_slice aN.out; subst eZ; go_wp2; go_loopg [3, 8] k3 (fun kq v3 v8 w' => ∃ (aY : List Int) (aA : Int), v8 = .int .i64 aA ∧ Aside0 (spec_Sha.l3 kq aY aC aA = some r) ∧ Aside0 (kq ≤ k3) ∧ Aside0 (Kd.R (Kd.int .u8) 5 w' w.heap.size (fun _ => True) v3 aY) ∧ Aside0 (Kd.R (Kd.int .i64) 3 w' w.heap.size (fun _ => True) u6 aC) ∧ Aside0 (Below w.heap.size w w'))
             case atStart => exact ⟨(aI), (0), u3_1, H', ⟨Nat.le_refl _⟩, ⟨by (with_reducible repeat (first | apply Kd.R_alloc | apply Kd.R_drewN | apply Kd.R_drew)); exact Kd.R_mono aG.out (fun _ hk => trivial)⟩, ⟨u3_8⟩, ⟨xbel⟩⟩
             case round =>
              clear H'; try clear c1
              try clear c2
              try clear bB
              try clear bC
              try clear p2
              try clear q2
              try clear c3
              try clear c5
              try clear c6
              try clear p6
              try clear c8
              try clear cB
              try clear bG
              try clear bH
              try clear cC
              try clear bR
              try clear cK
              try clear cD
              try clear cE
              try clear cP
              try clear cL
              try clear cG
              try clear cQ
              try clear dH
              try clear dI
              try clear dJ
              try clear dK
              try clear dL
              try clear dM
              try clear dN
              try clear dO
              try clear eU
              try clear q29
              try clear gO
              try clear p2
              try clear p6
              try clear q029
              try clear q29
              obtain ⟨aY, aA, rfl, HA, HK4, aG, aJ, HB⟩ := hrel; cases gk with
              | zero => exact absurd HA.out (by simp [spec_Sha.l3])
              | succ k4 =>
               have H := HA.out; clear HA; simp only [spec_Sha.l3] at H; by_cases cS : aA < 8
               ·rw [if_pos cS] at H; have dS : decide (aA < 8) = true := decide_eq_true cS; clear cS; by_cases eN : 0 ≤ aA
                ·rw [if_pos eN] at H; have fP : decide (0 ≤ aA) = true := decide_eq_true eN; clear eN; by_cases eO : aA < (aC.length : Int)
                 ·rw [if_pos eO] at H; have fQ : decide (aA < (aC.length : Int)) = true := decide_eq_true eO; clear eO; obtain ⟨aW, hY⟩ : ∃ y_ : List Int, y_ = (([((rd aC aA) / 16777216) % 256, ((rd aC aA) / 65536) % 256, ((rd aC aA) / 256) % 256, (rd aC aA) % 256] : List Int)) := ⟨_, rfl⟩; replace H : (if aY.length + aW.length < 140737488355328 then (spec_Sha.l3 k4 (aY ++ aW) aC (wrap64 (aA + 1))) else (none)) = some r := u3_0; have cI := aM hY; clear hY; by_cases eP : aY.length + aW.length < 140737488355328
                  ·rw [if_pos eP] at H; have LMc36 := aM eP; clear eP; obtain ⟨dU, hY⟩ : ∃ y_ : List Int, y_ = (aY ++ aW) := ⟨_, rfl⟩; replace H : (spec_Sha.l3 k4 dU aC (wrap64 (aA + 1))) = some r := u3_0; have dV := aM hY; clear hY; have H' := aM H; clear H; try go_wp2
                   replace aG := rD aG; replace aJ := rD aJ; replace HB := lD HB; obtain ⟨gE, gF, dW⟩ := Kd.R_slice aJ.out; (first | subst dW | (injection dW with f1_ f2_ f3_; have f4_ := f1_.symm; have f5_ := f3_.symm; clear f1_ f2_ f3_; subst f4_; subst f5_)); have p206 : 0 ≤ (aA : Int) := oda; have q206 : aA < (aC.length : Int) := oda; obtain ⟨aV, fA, bI⟩ := Kd.at_int (Kd.R_reads' aJ.out).2.2 aA p206 q206; cases fA
                   replace p206 := eq_true p206; replace q206 := eq_true q206; have p207 : 0 ≤ (aA : Int) := oda; have q207 : aA < (aC.length : Int) := oda; obtain ⟨dX, fB, bJ⟩ := Kd.at_int (Kd.R_reads' aJ.out).2.2 aA p207 q207; obtain rfl : aV = dX := (by injection fB); replace p207 := eq_true p207; replace q207 := eq_true q207; have p208 : 0 ≤ (aA : Int) := oda; have q208 : aA < (aC.length : Int) := oda; obtain ⟨dY, fC, bK⟩ := Kd.at_int (Kd.R_reads' aJ.out).2.2 aA p208 q208; obtain rfl : aV = dY := (by injection fC); replace p208 := eq_true p208; replace q208 := eq_true q208; have p209 : 0 ≤ (aA : Int) := oda; have q209 : aA < (aC.length : Int) := oda; obtain ⟨dZ, fD, bL⟩ := Kd.at_int (Kd.R_reads' aJ.out).2.2 aA p209 q209; obtain rfl : aV = dZ := (by injection fD); replace p209 := eq_true p209; replace q209 := eq_true q209; refine start_ (n := 27) (S := fun w' => w'.cell? (aV.add (aA).toNat) = some (.int .i64 (rd aC aA)) ∧ w'.cell? (aV.add (aA).toNat) = some (.int .i64 (rd aC aA)) ∧ w'.cell? (aV.add (aA).toNat) = some (.int .i64 (rd aC aA)) ∧ w'.cell? (aV.add (aA).toNat) = some (.int .i64 (rd aC aA))) (ds := [25]) #[false, false, false, false, false, false, false, false, false, false, false, false, false, false, false, false, false, false, false, false, false, false, false, false, false, false, false] (by kernel_rfl) rfl rfl ⟨bI, bJ, bK, bL⟩ (fun hHeld => ?_); refine with_tabW spec_Sha.tab19 spec_Sha.bits19 (fun HT_ HW_ => ?_); generalize wr.drew = gP at aG aJ HB bI bJ bK bL hHeld ⊢; refine pV 0 58 ?_; refine pV 1 59 ?_; refine pV 2 60 ?_; refine pV 3 61 ?_; refine pV 7 65 ?_; refine pV 8 66 ?_; refine pV 9 67 ?_; refine pV 13 71 ?_; refine pV 14 72 ?_; refine pV 15 73 ?_; refine pV 19 77 ?_; refine pV 20 78 ?_; refine pV 21 79 ?_; refine tK 4 62 ?_; refine pV 5 63 ?_; refine pV 6 64 ?_; refine tK 10 68 ?_; refine pV 11 69 ?_; refine pV 12 70 ?_; refine tK 16 74 ?_; refine pV 17 75 ?_; refine pV 18 76 ?_; refine tK 22 80 ?_; refine pV 23 81 ?_; refine oN 24 82 fun K hK => ?_
                   refine Kd.R_lit_step (Kd.int .u8) _ 5 ?hg (N := 82) ?hd (xs := ([((rd aC aA) / 16777216) % 256, ((rd aC aA) / 65536) % 256, ((rd aC aA) / 256) % 256, (rd aC aA) % 256] : List Int)) (inner := [.int .u8 (((rd aC aA) / 16777216) % 256), .int .u8 (((rd aC aA) / 65536) % 256), .int .u8 (((rd aC aA) / 256) % 256), .int .u8 ((rd aC aA) % 256)]) (ok := fun _ => True) (okp := fun _ => True) ?hr ?hp (fun _ hk => hk) trivial (Below.refl _ _) (Nat.le_refl _) (by simp) ?_; (case hd => rfl); (case hg => rfl); (case hr => exact u3_2); (case hp => exact (Reps.one (show Kd.M (Kd.int .u8) _ _ _ (((rd aC aA) / 16777216) % 256) [.int .u8 (((rd aC aA) / 16777216) % 256)] from rfl) (Reps.one (show Kd.M (Kd.int .u8) _ _ _ (((rd aC aA) / 65536) % 256) [.int .u8 (((rd aC aA) / 65536) % 256)] from rfl) (Reps.one (show Kd.M (Kd.int .u8) _ _ _ (((rd aC aA) / 256) % 256) [.int .u8 (((rd aC aA) / 256) % 256)] from rfl) (Reps.one (show Kd.M (Kd.int .u8) _ _ _ ((rd aC aA) % 256) [.int .u8 ((rd aC aA) % 256)] from rfl) (Reps.none _ _)))))); intro v211 gQ bP hb hg_ hnew_; have HS0_ := (hb.cell (World.block_lt_of_cell? _ _ (hHeld.1))).trans (hHeld.1); have HS1_ := (hb.cell (World.block_lt_of_cell? _ _ (hHeld.2.1))).trans (hHeld.2.1); have HS2_ := (hb.cell (World.block_lt_of_cell? _ _ (hHeld.2.2.1))).trans (hHeld.2.2.1); have HS3_ := (hb.cell (World.block_lt_of_cell? _ _ (hHeld.2.2.2))).trans (hHeld.2.2.2); clear hg_ hnew_; (first | rw [← cI.out] at bP | (simp only [Int.reduceToNat] at bP; rw [← cI.out] at bP)); replace aJ := xrb aJ hb; have aZ := aM (Kd.R_lower (Kd.R_new' bP (Kd.R_lt (xr aG))) (below_size xbel)); replace aG := aM (Kd.R_elder' (xr aG) (Kd.R_base bP) hb); replace HB := xbs hb; clear hb bP; obtain ⟨fE, fF, eA⟩ := Kd.R_slice aZ.out; (first | subst eA | (injection eA with f1_ f2_ f3_; have f4_ := f1_.symm; have f5_ := f3_.symm; clear f1_ f2_ f3_; subst f4_; subst f5_)); refine hK.out _ _ ⟨HS0_, HS1_, HS2_, HS3_⟩ (fun hHeld => ?_); clear hK K; refine nm_ (N := 82) ?_; refine last_ (i := 25) (N := some 83) #[true, true, true, true, true, true, true, true, true, true, true, true, true, true, true, true, true, true, true, true, true, true, true, true, true, true, false] rfl rfl (one_of HT_.out (by kernel_rfl)) (by decide) (fun K hK => ?_); refine Kd.R_append_rows_step (Kd.int .u8) (w0 := w) w.heap.size (by rfl) (.tmp 58) (.tmp 82) 22 5 (.int .u8 0) 1 rfl Try.underlying22 info5 rfl (by decide) (by omega) u3 aY aW _ _ _ (fun k_ => some k_ ≠ (.slice fE aW.length fF : Value).ownBlock) (fun _ => False) rfl rfl ?aO ?aR (fun _ _ h => h) (fun _ h => h.elim) ?aF ?aB ?aS ?aL ?_; (case aR => repeat (first | exact (Kd.R_reads' aZ.out).2.2 | (with_reducible refine Kd.C_alloc ?_ _) | (with_reducible refine Kd.C_drewN ?_ _) | (with_reducible refine Kd.C_drew ?_))); (case aB => exact xbel); (case aF => exact (fun k_ hk => Kd.fresh' (Kd.R_lt (xr aZ)) k_ hk)); (case aO => exact u3_5); (case aS => exact (below_size xbel)); (case aL => have := LMc36.out; omega); intro v214 gR ho hb hg hat; rw [← dV.out] at ho; replace aJ := aM (Kd.R_over' (xr aJ) (Kd.R_typed (xr aG)) (by decide) hg); replace aZ := aM (Kd.R_after (ok := (fun _ => True)) (xr aZ) hg hat); replace HB := aM (hb); have eB := aM (ho); clear aG ho hb hg hat; refine hK.out _ _ ?_; clear hK K; refine nm_ (N := 83) ?_; refine pV 26 3 ?_; refine dn_ ?_; try go_wp2
                   go_roundg k4
                   case measure => have := HK1.out; have := HK2.out; have := HK3.out; have := HK4.out; omega
                   case rel => exact ⟨(dU), (wrap64 (aA + 1)), u3_1, H', ⟨by have := HK1.out; have := HK2.out; have := HK3.out; have := HK4.out; omega⟩, ⟨by (with_reducible repeat (first | apply Kd.R_alloc | apply Kd.R_drewN | apply Kd.R_drew)); exact Kd.R_mono eB.out (fun _ hk => trivial)⟩, ⟨u3_8⟩, ⟨xbel⟩⟩
                  ·rw [if_neg eP] at H; exact absurd H (by simp)
                 ·rw [if_neg eO] at H; exact absurd H (by simp)
                ·rw [if_neg eN] at H; exact absurd H (by simp)
               ·rw [if_neg cS] at H; have dS : decide (aA < 8) = false := decide_eq_false cS; clear cS; obtain rfl := Option.some.inj H; go_wp2; go_ret
                exact ⟨_, xerr, u3_3, xbel⟩
      ·rw [if_neg cB] at H; obtain ⟨bG, bH⟩ := bF cB; by_cases eQ : aE.length < 140737488355328
       ·rw [if_pos eQ] at H; have LMc43 := aM eQ; clear eQ; obtain ⟨eC, hY⟩ : ∃ y_ : List Int, y_ = (aE ++ [0]) := ⟨_, rfl⟩; replace H : (spec_Sha.l0 k1 l0 aI eC) = some r := u3_0; have eD := aM hY; clear hY; have H' := aM H; clear H; obtain ⟨fG, fH, fI⟩ := Kd.R_slice aN.out; subst fI; go_wp2_with (first | ((with_reducible refine gate_builtin (b := .append) (xs := #[.tmp 23, .tmp 24]) rfl ?_); at_builtin; refine Kd.R_append (Kd.int .u8) (w0 := w) w.heap.size rfl (.tmp 23) (.tmp 24) 22 5 (.int .u8 0) 1 rfl Try.underlying22 info5 rfl (by decide) (by omega) (.slice fG aE.length fH) aE 0 [.int .u8 0] (fun k_ => some k_ ≠ (v179 : Value).ownBlock) (fun _ => False) rfl rfl ?aP (fun _ hk => hk.elim) ?aF ?aO ?aB ?aS ?aL ?_; (case aP => exact rfl); (case aB => exact xbel); (case aF => exact (fun k_ hk => Kd.fresh' (Kd.R_lt (xr aG)) k_ hk)); (case aO => exact (xr aN)); (case aS => exact (below_size xbel)); (case aL => have := LMc43.out; omega); intro v191 gS ho hb hg hat; rw [← eD.out] at ho; replace aG := aM (Kd.R_after (ok := (fun _ => True)) u3_6 hg hat); replace HB := aM (hb); have eE := aM (ho); clear aN; clear ho hb hg hat))
        go_roundg k1
        case measure => have := HK1.out; omega
        case rel => exact ⟨(eC), H', ⟨by have := HK1.out; omega⟩, ⟨u3_5⟩, ⟨by (with_reducible repeat (first | apply Kd.R_alloc | apply Kd.R_drewN | apply Kd.R_drew)); exact eE.out⟩, ⟨xbel⟩⟩
       ·rw [if_neg eQ] at H; exact absurd H (by simp)
   ·rw [if_neg c6] at H; exact absurd H (by simp)
  ·rw [if_neg c5] at H; exact absurd H (by simp)

/-! ### laws_toByteS: function 31 -/
def laws_toByteS.l0 : Nat → List Int → List Int → Int → Option (List Int)
 | 0, _, _, _ => none
 | k + 1, x0, x3, x4 => if x4 < (x0.length : Int) then (if 0 ≤ x4 then (if x4 < (x3.length : Int) then (laws_toByteS.l0 k x0 (x3.set (x4 : Int).toNat (rd x0 x4)) (wrap64 (x4 + 1))) else (none)) else (none)) else (some x3)
def laws_toByteS.f (k : Nat) (l0 : List Int) : Option (List Int) := if 0 ≤ (l0.length : Int) then (if ((l0.length : Int) : Int).toNat ≤ 281474976710656 then (laws_toByteS.l0 k l0 (List.replicate ((l0.length : Int) : Int).toNat 0) 0) else (none)) else (none)
theorem u3_mq1 {p : Prop} (h : p := by repeat' first | (with_reducible first | exact cT _ _ _ | exact LeO.refl _ | exact LeO.none _ | refine LeO.ite ?_ ?_ | refine LeO.bind ?_ (fun _ => ?_)) | exact LeO.none _ | refine LeO.ite ?_ ?_ | refine LeO.bind ?_ (fun _ => ?_)) : p := h
set_option maxRecDepth 100000 in
theorem laws_toByteS.mono_l : ∀ k, (∀ y0 y1 y2, LeO (laws_toByteS.l0 k y0 y1 y2) (laws_toByteS.l0 (k + 1) y0 y1 y2))
 | 0 => fun _ _ _ r h => by simp [laws_toByteS.l0] at h
 | k + 1 => by
  have cT := laws_toByteS.mono_l k
  ·intro y0 y1 y2; unfold laws_toByteS.l0; exact u3_mq1
theorem laws_toByteS.mono : ∀ a0 k, LeO (laws_toByteS.f k a0) (laws_toByteS.f (k + 1) a0) := by
 intro a0 k
 have cT := laws_toByteS.mono_l k
 unfold laws_toByteS.f
 exact u3_mq1
set_option maxHeartbeats 8000000 in
set_option maxRecDepth 100000 in
theorem laws_toByteS.calls (k : Nat) (A0 : Option Addr) (c0 : Nat) (l0 : List Int) (r : List Int) (w : World) (cU : Kd.C (Kd.int .u8) w A0 l0.length l0) (cV : l0.length ≤ c0) (h : laws_toByteS.f k l0 = some r) :
 Calls Try.prog 31 #[.slice A0 l0.length c0] w fun e w' => ∃ v0_ : Value, e = .returned (v0_) ∧ Kd.R (Kd.int .u8) 5 w' w.heap.size (fun _ => True) v0_ r ∧ Below w.heap.size w w' := by
 have eR := aM cU
 have fW := aM cV
 clear cU cV
 have HB := aM (Below.refl w.heap.size w)
 have H : (if 0 ≤ (l0.length : Int) then (if ((l0.length : Int) : Int).toNat ≤ 281474976710656 then (laws_toByteS.l0 k l0 (List.replicate ((l0.length : Int) : Int).toNat 0) 0) else (none)) else (none)) = some r := h
 clear h
 by_cases c2 : 0 ≤ (l0.length : Int)
 ·rw [if_pos c2] at H; have bB := eq_true c2; have bC : decide (0 ≤ (l0.length : Int)) = true := decide_eq_true c2; clear c2; by_cases c3 : ((l0.length : Int) : Int).toNat ≤ 281474976710656
  ·rw [if_pos c3] at H; have eF := eq_true c3; have eG : decide (((l0.length : Int) : Int).toNat ≤ 281474976710656) = true := decide_eq_true c3; clear c3; obtain ⟨eH, hY⟩ : ∃ y_ : List Int, y_ = (List.replicate ((l0.length : Int) : Int).toNat 0) := ⟨_, rfl⟩; replace H : (laws_toByteS.l0 k l0 eH 0) = some r := u3_0; have cJ := aM hY; clear hY; have H' := aM H; clear H; go_enter Try.func31, Try.ntmps31
   go_wp2_with (first | ((with_reducible refine gD 7 rfl ?_); refine Kd.R_make (Kd.int .u8) _ 5 rfl (N := 7) rfl 22 _ _ rfl (l0.length : Int) rfl rfl Try.underlying22 (.int .u8 0) 1 info5 rfl (by decide) (by omega) 0 (ok := fun _ => True) (okp := fun _ => True) rfl (fun _ hk => hk) trivial (oda) (Nat.le_trans (Nat.mul_le_mul_right _ (oda : (l0.length : Int).toNat ≤ 281474976710656)) (by omega)) (Below.refl _ _) (Nat.le_refl _) ?_; intro v217 w4 eI hb hg_ hnew_; clear hg_ hnew_; (first | rw [← cJ.out] at eI | (simp only [Int.reduceToNat] at eI; rw [← cJ.out] at eI)); have eJ := aM (Kd.R_lower eI (below_size xbel)); replace HB := xbs hb; clear hb eI))
   go_loopg [4] k (fun kq v4 w' => ∃ (bA : List Int) (aE : Int), v4 = .int .i64 aE ∧ Aside0 (laws_toByteS.l0 kq l0 bA aE = some r) ∧ Aside0 (kq ≤ k) ∧ Aside0 (Kd.R (Kd.int .u8) 5 w' w.heap.size (fun _ => True) v217 bA) ∧ Aside0 (Below w.heap.size w w'))
   case atStart => exact ⟨(eH), (0), u3_1, H', ⟨Nat.le_refl _⟩, ⟨by (with_reducible repeat (first | apply Kd.R_alloc | apply Kd.R_drewN | apply Kd.R_drew)); exact eJ.out⟩, ⟨xbel⟩⟩
   case round =>
    clear H'; try clear c2
    try clear bB
    try clear bC
    try clear p2
    try clear c3
    try clear eF
    try clear eG
    obtain ⟨bA, aE, rfl, HA, HK1, aG, HB⟩ := hrel; cases gk with
    | zero => exact absurd HA.out (by simp [laws_toByteS.l0])
    | succ k1 =>
     have H := HA.out; clear HA; simp only [laws_toByteS.l0] at H; by_cases c6 : aE < (l0.length : Int)
     ·rw [if_pos c6] at H; have eK : decide (aE < (l0.length : Int)) = true := decide_eq_true c6; clear c6; by_cases c7 : 0 ≤ aE
      ·rw [if_pos c7] at H; have gG : decide (0 ≤ aE) = true := decide_eq_true c7; clear c7; by_cases c8 : aE < (bA.length : Int)
       ·rw [if_pos c8] at H; have gH : decide (aE < (bA.length : Int)) = true := decide_eq_true c8; clear c8; obtain ⟨cN, hY⟩ : ∃ y_ : List Int, y_ = (bA.set (aE : Int).toNat (rd l0 aE)) := ⟨_, rfl⟩; replace H : (laws_toByteS.l0 k1 l0 cN (wrap64 (aE + 1))) = some r := u3_0; have eL := aM hY; clear hY; have H' := aM H; clear H; have p219 : 0 ≤ (aE : Int) := oda; have q219 : aE < (l0.length : Int) := oda; obtain ⟨fR, fJ, bM⟩ := Kd.at_int eR.out aE p219 q219; cases fJ
        replace bM := xce HB bM; replace p219 := eq_true p219; replace q219 := eq_true q219; have p9 : 0 ≤ (aE : Int) := oda; have q9 : (aE : Int) < ((bA.length : Int) : Int) := oda; obtain ⟨fK, gI, fS, fT, gl9, cl9, HG9⟩ := Kd.R_form aG.out (by omega); (first | cases fS | (injection fS with ea_ en_ ec_; (first | subst ea_ | (injection ea_ with ea_; subst ea_)); subst ec_; clear en_)); have GB9 := aM fT; have GG9 := aM HG9; clear fT gl9 HG9; obtain ⟨fU, fV⟩ := Kd.R_celln 0 aG.out (aE : Int) p9 q9; replace p9 := eq_true p9; replace q9 := eq_true q9; have cO := Kd.R_putg aG.out (aE : Int) (rd l0 aE); go_wp2_with (first | ((with_reducible refine gate_store (t := 5) (p := 20) rfl ?_); refine store_event (t := 5) (p := 20) (v := ?vo_w11) (w1 := (wr.setCell ⟨fK, (aE : Int).toNat, none⟩ (.int .u8 (rd l0 aE)))) ?hg ?ho ?hn ?hr ?_; (case ho | hg | hn => rfl); (case hr => exact u3_2); intro eM hw; have hg : wr.grownBy eM (some fK) := (by rw [hw]; exact cO.2); have hp_ : Kd.R (Kd.int .u8) 5 eM w.heap.size (fun _ => True) (.slice (some ⟨fK, 0, none⟩) bA.length gI) cN := (by rw [hw, eL.out]; exact cO.1); clear cO; replace aG := aM (hp_); replace HB := aM ((by rw [hw]; exact below_set (HB.out) GB9.out : Below w.heap.size w eM)); clear hg hw hp_))
        go_roundg k1
        case measure => have := HK1.out; omega
        case rel => exact ⟨(cN), (wrap64 (aE + 1)), u3_1, H', ⟨by have := HK1.out; omega⟩, ⟨u3_3⟩, ⟨xbel⟩⟩
       ·rw [if_neg c8] at H; exact absurd H (by simp)
      ·rw [if_neg c7] at H; exact absurd H (by simp)
     ·rw [if_neg c6] at H; have eK : decide (aE < (l0.length : Int)) = false := decide_eq_false c6; clear c6; obtain rfl := Option.some.inj H; go_wp2; go_ret
      exact ⟨_, xerr, u3_3, xbel⟩
  ·rw [if_neg c3] at H; exact absurd H (by simp)
 ·rw [if_neg c2] at H; exact absurd H (by simp)

-- NOT PRINTED: function 88 (impl_firstWords)

-- NOT PRINTED: function 148 (impl_constants)

/-! ### impl_turnRight: function 150 -/
def impl_turnRight.f (a0 : Int) (a1 : Int) : Option (Int) := if 0 ≤ a1 then (if 0 ≤ (wrap64 (32 - a1)) then (some (Go.bits .and .i64 (Go.bits .or .i64 (shr .i64 a0 a1) (shl .i64 a0 (wrap64 (32 - a1)))) 4294967295)) else (none)) else (none)
set_option maxHeartbeats 8000000 in
set_option maxRecDepth 100000 in
theorem impl_turnRight.calls (a0 : Int) (a1 : Int) (r : Int) (w : World) (h : impl_turnRight.f a0 a1 = some r) :
 Calls Try.prog 150 #[.int .i64 a0, .int .i64 a1] w fun e w' => e = .returned (.int .i64 r) ∧ Drawn0 w w' := by
 have H : (if 0 ≤ a1 then (if 0 ≤ (wrap64 (32 - a1)) then (some (Go.bits .and .i64 (Go.bits .or .i64 (shr .i64 a0 a1) (shl .i64 a0 (wrap64 (32 - a1)))) 4294967295)) else (none)) else (none)) = some r := h
 clear h
 by_cases c3 : 0 ≤ a1
 ·rw [if_pos c3] at H; have eF := eq_true c3; have eG : decide (0 ≤ a1) = true := decide_eq_true c3; clear c3; obtain ⟨ji4, hji4⟩ : ∃ j_ : Int, (shr .i64 a0 a1) = j_ := ⟨_, rfl⟩; replace H : (if 0 ≤ (wrap64 (32 - a1)) then (some (Go.bits .and .i64 (Go.bits .or .i64 (ji4) (shl .i64 a0 (wrap64 (32 - a1)))) 4294967295)) else (none)) = some r := by first | (rw [hji4] at H; exact H) | (simp only [hji4] at H ⊢; exact H)
  have hji4_ : (a0 / 2 ^ min a1.toNat 64) = ji4 := hji4; have hji4z : a1 ≤ 64 → (a0 / 2 ^ a1.toNat) = ji4 := shr_small hji4; obtain ⟨ji5, hji5⟩ : ∃ j_ : Int, (wrap64 (32 - a1)) = j_ := ⟨_, rfl⟩; replace H : (if 0 ≤ (ji5) then (some (Go.bits .and .i64 (Go.bits .or .i64 (ji4) (shl .i64 a0 (ji5))) 4294967295)) else (none)) = some r := by first | (rw [hji5] at H; exact H) | (simp only [hji5] at H ⊢; exact H)
  have hji5w : (IntKind.i64.wrap (32 - a1)) = ji5 := (i64_w _).trans hji5; by_cases c6 : 0 ≤ (ji5)
  ·rw [if_pos c6] at H; have eK := eq_true c6; have gJ : decide (0 ≤ (ji5)) = true := decide_eq_true c6; clear c6; obtain ⟨ji7, hji7⟩ : ∃ j_ : Int, (shl .i64 a0 (ji5)) = j_ := ⟨_, rfl⟩; replace H : (some (Go.bits .and .i64 (Go.bits .or .i64 (ji4) (ji7)) 4294967295)) = some r := by first | (rw [hji7] at H; exact H) | (simp only [hji7] at H ⊢; exact H)
   have hji7_ : (IntKind.i64.wrap (a0 * 2 ^ min (ji5).toNat 64)) = ji7 := hji7; have hji7z : (ji5) ≤ 64 → (IntKind.i64.wrap (a0 * 2 ^ (ji5).toNat)) = ji7 := shl_small hji7; have hji7y : (wrap64 (a0 * 2 ^ min (ji5).toNat 64)) = ji7 := (i64_w _).symm.trans hji7_; have hji7x : (ji5) ≤ 64 → (wrap64 (a0 * 2 ^ (ji5).toNat)) = ji7 := fun h_ => (i64_w _).symm.trans (hji7z h_)
   obtain rfl := Option.some.inj H; go_enter Try.func150, Try.ntmps150
   go_wp2
   repeat (go_quiet (fail); try go_wp2)
   go_ret
   exact ⟨by first | rfl | (simp; done) | (simp only [← hji4, ← hji5, ← hji7] <;> (first | rfl | simp)) | (simp [*]; done), by repeat (first | exact Drawn0.refl _ | apply Drawn0.step)⟩
  ·rw [if_neg c6] at H; exact absurd H (by simp)
 ·rw [if_neg c3] at H; exact absurd H (by simp)

-- NOT PRINTED: function 149 (impl_expanded)

-- NOT PRINTED: function 89 (impl_round)

end Go.Proofs.Ytoojdlobnbakoaa.QFnExactSha
