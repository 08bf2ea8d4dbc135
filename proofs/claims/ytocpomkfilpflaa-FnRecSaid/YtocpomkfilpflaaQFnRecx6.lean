-- A walk, by a program of this session.
import Derived.Test.YtocpomkfilpflaaQFnRecx0
import Derived.Test.YtocpomkfilpflaaQFnRecx4
import Derived.Test.YtocpomkfilpflaaQFnRecx5
namespace Go.Proofs.Ytocpomkfilpflaa.QFnRec
open Go.RowKit Go.Proofs.YtocpomkfilpflaaW.PrintWords Go.Proofs.YtocpomkfilpflaaW.PrintLast Go.Proofs.YtocpomkfilpflaaW.PrintMore
attribute [local go_sem] max2_int min2_int max_two min_two max_three min_three max_four min_four   -- for this text's walks alone
set_option linter.unusedVariables false
set_option linter.unusedSimpArgs false

theorem u6_0 {p : Prop} (h : p := by first | (rw [hY]; with_reducible exact H) | (have H2_ := oS H; rw [hY]; with_reducible exact H2_) | (have H2_ := oS H; with_reducible exact H2_) | with_reducible exact H | (rw [hY]; exact H) | exact H) : p := h
theorem u6_1 {p : Prop} (h : p := by first | (go_simp; done) | (go_simp; rfl)) : p := h
theorem u6_2 {p : Prop} (h : p := by first | rfl | (simp; done) | (simp [*]; done)) : p := h
theorem u6_3 {p : Prop} (h : p := by (with_reducible repeat (first | apply Kd.R_alloc | apply Kd.R_drewN | apply Kd.R_drew)); exact aT.out) : p := h
theorem u6_4 {p : Prop} (h : p := by (with_reducible repeat (first | apply Kd.R_alloc | apply Kd.R_drewN | apply Kd.R_drew)); exact bB.out) : p := h
theorem u6_5 {p : Prop} (h : p := by (with_reducible repeat (first | apply Kd.R_alloc | apply Kd.R_drewN | apply Kd.R_drew)); exact Kd.R_mono aT.out (fun _ hk => hk.2)) : p := h
theorem u6_6 {p : Prop} (h : p := by (with_reducible repeat (first | apply Kd.R_alloc | apply Kd.R_drewN | apply Kd.R_drew)); exact Kd.R_mono aT.out (fun _ hk => ⟨trivial, hk⟩)) : p := h
theorem u6_7 {p : Prop} (h : p := by repeat (first | (with_reducible exact cS.out) | (with_reducible refine Kd.C_alloc ?_ _) | (with_reducible refine Kd.C_drewN ?_ _) | (with_reducible refine Kd.C_drew ?_) | exact cS.out)) : p := h
theorem u6_8 {p : Prop} (h : p := by (with_reducible repeat (first | apply Kd.R_alloc | apply Kd.R_drewN | apply Kd.R_drew)); exact aW.out) : p := h
/-! ### spec_Sha: function 97 -/
mutual
def spec_Sha.l0 : Nat → List Int → List Int → List Int → Option (List Int)
 | 0, _, _, _ => none
 | k + 1, x0, x3, x4 => if ((x4.length : Int) % 64) = 56 then (spec_Sha.l1 k x0 x3 x4 7) else (if x4.length < 140737488355328 then (spec_Sha.l0 k x0 x3 (x4 ++ [0])) else (none))
def spec_Sha.l1 : Nat → List Int → List Int → List Int → Int → Option (List Int)
 | 0, _, _, _, _ => none
 | k + 1, x0, x3, x4, x5 => if x5 ≥ 0 then (if 0 ≤ (wrap64 (8 * x5)) then (if x4.length < 140737488355328 then (spec_Sha.l1 k x0 x3 (x4 ++ [(shr .i64 (wrap64 (8 * (x0.length : Int))) (wrap64 (8 * x5))) % 256]) (wrap64 (x5 - 1))) else (none)) else (none)) else (spec_Sha.l2 k x3 x4 (([1779033703, 3144134277, 1013904242, 2773480762, 1359893119, 2600822924, 528734635, 1541459225] : List Int)) 0)
def spec_Sha.l2 : Nat → List Int → List Int → List Int → Int → Option (List Int)
 | 0, _, _, _, _ => none
 | k + 1, x3, x4, x6, x7 => if x7 < (x4.length : Int) then (if 0 ≤ x7 then (if x7 ≤ (wrap64 (x7 + 64)) then (if (wrap64 (x7 + 64)) ≤ (x4.length : Int) then ((spec_l2Block.f k x6 ((x4.take ((wrap64 (x7 + 64)) : Int).toNat).drop (x7 : Int).toNat)).bind fun cK => (spec_Sha.l2 k x3 x4 cK (wrap64 (x7 + 64)))) else (none)) else (none)) else (none)) else (spec_Sha.l3 k x3 x6 0)
def spec_Sha.l3 : Nat → List Int → List Int → Int → Option (List Int)
 | 0, _, _, _ => none
 | k + 1, x3, x6, x8 => if x8 < 8 then (if 0 ≤ x8 then (if x8 < (x6.length : Int) then ((some (([((rd x6 x8) / 16777216) % 256, ((rd x6 x8) / 65536) % 256, ((rd x6 x8) / 256) % 256, (rd x6 x8) % 256] : List Int) : List Int)).bind fun bQ => (if x3.length + bQ.length < 140737488355328 then (spec_Sha.l3 k (x3 ++ bQ) x6 (wrap64 (x8 + 1))) else (none))) else (none)) else (none)) else (some x3)
end
def spec_Sha.f (k : Nat) (l0 : List Int) : Option (List Int) := (some (([] : List Int) : List Int)).bind fun aN => (if (l0.length : Int) > 4000 then (some aN) else ((some (([] : List Int) : List Int)).bind fun bE => (if bE.length + l0.length < 140737488355328 then ((some (bE ++ l0 : List Int)).bind fun bC => (if bC.length < 140737488355328 then (spec_Sha.l0 k l0 aN (bC ++ [128])) else (none))) else (none))))
theorem u6_mq0 {p : Prop} (h : p := by repeat' first | (with_reducible first | exact fJ _ _ _ | exact nD _ _ _ _ | exact nE _ _ _ _ | exact nF _ _ _ | exact spec_l2Block.mono _ _ _ | exact LeO.refl _ | exact LeO.none _ | refine LeO.ite ?_ ?_ | refine LeO.bind ?_ (fun _ => ?_)) | exact LeO.none _ | refine LeO.ite ?_ ?_ | refine LeO.bind ?_ (fun _ => ?_)) : p := h
set_option maxRecDepth 100000 in
theorem spec_Sha.mono_l : ∀ k, (∀ y0 y1 y2, LeO (spec_Sha.l0 k y0 y1 y2) (spec_Sha.l0 (k + 1) y0 y1 y2)) ∧ (∀ y0 y1 y2 y3, LeO (spec_Sha.l1 k y0 y1 y2 y3) (spec_Sha.l1 (k + 1) y0 y1 y2 y3)) ∧ (∀ y0 y1 y2 y3, LeO (spec_Sha.l2 k y0 y1 y2 y3) (spec_Sha.l2 (k + 1) y0 y1 y2 y3)) ∧ (∀ y0 y1 y2, LeO (spec_Sha.l3 k y0 y1 y2) (spec_Sha.l3 (k + 1) y0 y1 y2))
 | 0 => ⟨fun _ _ _ r h => by simp [spec_Sha.l0] at h, fun _ _ _ _ r h => by simp [spec_Sha.l1] at h, fun _ _ _ _ r h => by simp [spec_Sha.l2] at h, fun _ _ _ r h => by simp [spec_Sha.l3] at h⟩
 | k + 1 => by
  obtain ⟨fJ, nD, nE, nF⟩ := spec_Sha.mono_l k; refine ⟨?_, ?_, ?_, ?_⟩
  ·intro y0 y1 y2; unfold spec_Sha.l0; exact u6_mq0
  ·intro y0 y1 y2 y3; unfold spec_Sha.l1; exact u6_mq0
  ·intro y0 y1 y2 y3; unfold spec_Sha.l2; exact u6_mq0
  ·intro y0 y1 y2; unfold spec_Sha.l3; exact u6_mq0
theorem spec_Sha.mono : ∀ a0 k, LeO (spec_Sha.f k a0) (spec_Sha.f (k + 1) a0) := by
 intro a0 k
 obtain ⟨fJ, nD, nE, nF⟩ := spec_Sha.mono_l k
 unfold spec_Sha.f
 exact u6_mq0
def spec_Sha.T19 : Bool × List (List Nat × List Nat) := (true, [([], []), ([], []), ([], []), ([1, 2], [1, 2]), ([3], [3]), ([4], [4]), ([5], [5]), ([], []), ([], []), ([7, 8], [7, 8]), ([9], [9]), ([10], [10]), ([11], [11]), ([], []), ([], []), ([13, 14], [13, 14]), ([15], [15]), ([16], [16]), ([17], [17]), ([], []), ([], []), ([19, 20], [19, 20]), ([21], [21]), ([22], [22]), ([6, 12, 18, 23], [6, 12, 18, 23]), ([0, 24], [0, 24]), ([25, 25, 0, 1, 2, 3, 4, 5, 6, 7, 8, 9, 10, 11, 12, 13, 14, 15, 16, 17, 18, 19, 20, 21, 22, 23, 24, 25], [0, 25])])
def spec_Sha.B19 : List Nat := [0, 0, 0, 6, 14, 30, 62, 0, 0, 384, 896, 1920, 3968, 0, 0, 24576, 57344, 122880, 253952, 0, 0, 1572864, 3670016, 7864320, 16777214, 33554431, 67108863]
theorem spec_Sha.tab19 : rtab .any (opsOf Try.f97 19) = spec_Sha.T19 := by kernel_rfl
theorem spec_Sha.bits19 : waitsOk spec_Sha.T19.2 spec_Sha.B19 = true := by kernel_rfl
set_option maxHeartbeats 8000000 in
set_option maxRecDepth 100000 in
theorem spec_Sha.calls (k : Nat) (A0 : Option Addr) (c0 : Nat) (l0 : List Int) (r : List Int) (w : World) (nG : Kd.C (Kd.int .u8) w A0 l0.length l0) (nH : l0.length ≤ c0) (h : spec_Sha.f k l0 = some r) :
 Calls Try.prog 97 #[.slice A0 l0.length c0] w fun e w' => ∃ v0_ : Value, e = .returned (v0_) ∧ Kd.R (Kd.int .u8) 5 w' w.heap.size (fun _ => True) v0_ r ∧ Below w.heap.size w w' := by
 have oP := aM nG
 have pM := aM nH
 clear nG nH
 have HB := aM (Below.refl w.heap.size w)
 have H : ((some (([] : List Int) : List Int)).bind fun aN => (if (l0.length : Int) > 4000 then (some aN) else ((some (([] : List Int) : List Int)).bind fun bE => (if bE.length + l0.length < 140737488355328 then ((some (bE ++ l0 : List Int)).bind fun bC => (if bC.length < 140737488355328 then (spec_Sha.l0 k l0 aN (bC ++ [128])) else (none))) else (none))))) = some r := h
 clear h
 obtain ⟨aN, hY⟩ : ∃ y_ : List Int, y_ = (([] : List Int)) := ⟨_, rfl⟩
 replace H : (if (l0.length : Int) > 4000 then (some aN) else ((some (([] : List Int) : List Int)).bind fun bE => (if bE.length + l0.length < 140737488355328 then ((some (bE ++ l0 : List Int)).bind fun bC => (if bC.length < 140737488355328 then (spec_Sha.l0 k l0 aN (bC ++ [128])) else (none))) else (none)))) = some r := u6_0
 have cA := aM hY
 clear hY
 by_cases c2 : (l0.length : Int) > 4000
 ·rw [if_pos c2] at H; have cT : decide (4000 < (l0.length : Int)) = true := decide_eq_true c2; have cU : decide (4000 < l0.length) = true := decide_eq_true (by omega); clear c2; obtain rfl := Option.some.inj H; go_enter Try.func97, Try.ntmps97
  go_wp2_with (first | ((with_reducible refine gD 9 rfl ?_); refine Kd.R_lit (Kd.int .u8) _ 5 ?hg (N := 9) ?hd (xs := ([] : List Int)) (inner := []) (ok := fun _ => True) (okp := fun _ => True) ?hr ?hp (fun _ hk => hk) trivial (Below.refl _ _) (Nat.le_refl _) (by simp) ?_; (case hd => rfl); (case hg => rfl); (case hr => exact u6_1); (case hp => exact (Reps.none _ _)); intro v205 w3 fK hb hg_ hnew_; clear hg_ hnew_; (first | rw [← cA.out] at fK | (simp only [Int.reduceToNat] at fK; rw [← cA.out] at fK)); have bA := aM (Kd.R_lower fK (below_size xbel)); replace HB := xbs hb; clear hb fK))
  go_ret
  exact ⟨_, xerr, by (with_reducible repeat (first | apply Kd.R_alloc | apply Kd.R_drewN | apply Kd.R_drew)); exact bA.out, xbel⟩
 ·rw [if_neg c2] at H; have cT : decide (4000 < (l0.length : Int)) = false := decide_eq_false c2; have cU : decide (4000 < l0.length) = false := decide_eq_false (by omega); clear c2; obtain ⟨bE, hY⟩ : ∃ y_ : List Int, y_ = (([] : List Int)) := ⟨_, rfl⟩; replace H : (if bE.length + l0.length < 140737488355328 then ((some (bE ++ l0 : List Int)).bind fun bC => (if bC.length < 140737488355328 then (spec_Sha.l0 k l0 aN (bC ++ [128])) else (none))) else (none)) = some r := u6_0; have eE := aM hY; clear hY; by_cases c5 : bE.length + l0.length < 140737488355328
  ·rw [if_pos c5] at H; have LMc5 := aM c5; clear c5; obtain ⟨bC, hY⟩ : ∃ y_ : List Int, y_ = (bE ++ l0) := ⟨_, rfl⟩; replace H : (if bC.length < 140737488355328 then (spec_Sha.l0 k l0 aN (bC ++ [128])) else (none)) = some r := u6_0; have fL := aM hY; clear hY; by_cases c6 : bC.length < 140737488355328
   ·rw [if_pos c6] at H; have LMc6 := aM c6; clear c6; obtain ⟨fM, hY⟩ : ∃ y_ : List Int, y_ = (bC ++ [128]) := ⟨_, rfl⟩; replace H : (spec_Sha.l0 k l0 aN fM) = some r := u6_0; have fN := aM hY; clear hY; have H' := aM H; clear H; go_enter Try.func97, Try.ntmps97
    go_wp2_with (first | ((with_reducible refine gD 9 rfl ?_); refine Kd.R_lit (Kd.int .u8) _ 5 ?hg (N := 9) ?hd (xs := ([] : List Int)) (inner := []) (ok := fun _ => True) (okp := fun _ => True) ?hr ?hp (fun _ hk => hk) trivial (Below.refl _ _) (Nat.le_refl _) (by simp) ?_; (case hd => rfl); (case hg => rfl); (case hr => exact u6_1); (case hp => exact (Reps.none _ _)); intro v205 w7 fO hb hg_ hnew_; clear hg_ hnew_; (first | rw [← cA.out] at fO | (simp only [Int.reduceToNat] at fO; rw [← cA.out] at fO)); have bA := aM (Kd.R_lower fO (below_size xbel)); replace HB := xbs hb; clear hb fO) | ((with_reducible refine gD 14 rfl ?_); refine Kd.R_lit (Kd.int .u8) _ 5 ?hg (N := 14) ?hd (xs := ([] : List Int)) (inner := []) (ok := fun _ => True) (okp := fun _ => True) ?hr ?hp (fun _ hk => hk) trivial (Below.refl _ _) (Nat.le_refl _) (by simp) ?_; (case hd => rfl); (case hg => rfl); (case hr => exact u6_1); (case hp => exact (Reps.none _ _)); intro v208 w9 cL hb hg_ hnew_; clear hg_ hnew_; (first | rw [← eE.out] at cL | (simp only [Int.reduceToNat] at cL; rw [← eE.out] at cL)); have eF := aM (Kd.R_lower (Kd.R_new' cL (Kd.R_lt (xr bA))) (below_size xbel)); replace bA := aM (Kd.R_elder' (xr bA) (Kd.R_base cL) hb); replace HB := xbs hb; clear hb cL) | ((with_reducible refine gate_builtin (b := .append) (xs := #[.tmp 14, .tmp 15]) rfl ?_); at_builtin; refine Kd.R_append_rows (Kd.int .u8) (w0 := w) w.heap.size rfl (.tmp 14) (.tmp 15) 22 5 (.int .u8 0) 1 rfl Try.underlying22 info5 rfl (by decide) (by omega) v208 bE l0 _ _ _ (fun k_ => some k_ ≠ (v205 : Value).ownBlock) (fun _ => False) rfl rfl ?aO ?aR (fun _ _ h => h) (fun _ h => h.elim) ?aF ?aB ?aS ?aL ?_; (case aR => exact xcb oP); (case aB => exact xbel); (case aF => exact (fun k_ hk => Kd.fresh' (Kd.R_lt (xr bA)) k_ hk)); (case aO => exact (by (with_reducible repeat (first | apply Kd.R_alloc | apply Kd.R_drewN | apply Kd.R_drew)); exact Kd.R_mono eF.out (fun _ hk => hk.2))); (case aS => exact (below_size xbel)); (case aL => have := LMc5.out; omega); intro v211 pN ho hb hg hat; rw [← fL.out] at ho; replace bA := aM (Kd.R_after (ok := (fun _ => True)) (xr bA) hg hat); replace HB := aM (hb); have eG := aM (ho); clear eF; clear ho hb hg hat) | ((with_reducible refine gate_builtin (b := .append) (xs := #[.tmp 16, .tmp 17]) rfl ?_); at_builtin; refine Kd.R_append (Kd.int .u8) (w0 := w) w.heap.size rfl (.tmp 16) (.tmp 17) 22 5 (.int .u8 0) 1 rfl Try.underlying22 info5 rfl (by decide) (by omega) v211 bC 128 [.int .u8 128] (fun k_ => some k_ ≠ (v205 : Value).ownBlock) (fun _ => False) rfl rfl ?aP (fun _ hk => hk.elim) ?aF ?aO ?aB ?aS ?aL ?_; (case aP => exact rfl); (case aB => exact xbel); (case aF => exact (fun k_ hk => Kd.fresh' (Kd.R_lt (xr bA)) k_ hk)); (case aO => exact (xr eG)); (case aS => exact (below_size xbel)); (case aL => have := LMc6.out; omega); intro v214 pO ho hb hg hat; rw [← fN.out] at ho; replace bA := aM (Kd.R_after (ok := (fun _ => True)) (xr bA) hg hat); replace HB := aM (hb); have fP := aM (ho); clear eG; clear ho hb hg hat))
    go_loopg [4] k (fun kq v4 w' => ∃ (bR : List Int), Aside0 (spec_Sha.l0 kq l0 aN bR = some r) ∧ Aside0 (kq ≤ k) ∧ Aside0 (Kd.R (Kd.int .u8) 5 w' w.heap.size (fun k_ => some k_ ≠ (v4 : Value).ownBlock) v205 aN) ∧ Aside0 (Kd.R (Kd.int .u8) 5 w' w.heap.size (fun k_ => some k_ ≠ (v205 : Value).ownBlock) v4 bR) ∧ Aside0 (Below w.heap.size w w'))
    case atStart => exact ⟨(fM), H', ⟨Nat.le_refl _⟩, ⟨by (with_reducible repeat (first | apply Kd.R_alloc | apply Kd.R_drewN | apply Kd.R_drew)); exact Kd.R_mono bA.out (fun _ hk => hk.2)⟩, ⟨by (with_reducible repeat (first | apply Kd.R_alloc | apply Kd.R_drewN | apply Kd.R_drew)); exact fP.out⟩, ⟨xbel⟩⟩
    case round =>
     clear H'; try clear c2
     try clear cT
     try clear cU
     try clear p2
     try clear c5
     try clear c6
     try clear c9
     obtain ⟨bR, HA, HK1, aT, bB, HB⟩ := hrel; cases gk with
     | zero => exact absurd HA.out (by simp [spec_Sha.l0])
     | succ k1 =>
      have H := HA.out; clear HA; simp only [spec_Sha.l0] at H; by_cases eH : ((bR.length : Int) % 64) = 56
      ·rw [if_pos eH] at H; obtain ⟨cB, cC⟩ := bT eH; clear eH; have H' := aM H; clear H; obtain ⟨oQ, oR, mG⟩ := Kd.R_slice bB.out; subst mG; go_wp2; go_loopg [4, 5] k1 (fun kq v4 v5 w' => ∃ (aJ : List Int) (bK : Int), v5 = .int .i64 bK ∧ Aside0 (spec_Sha.l1 kq l0 aN aJ bK = some r) ∧ Aside0 (kq ≤ k1) ∧ Aside0 (Kd.R (Kd.int .u8) 5 w' w.heap.size (fun k_ => some k_ ≠ (v4 : Value).ownBlock) v205 aN) ∧ Aside0 (Kd.R (Kd.int .u8) 5 w' w.heap.size (fun k_ => some k_ ≠ (v205 : Value).ownBlock) v4 aJ) ∧ Aside0 (Below w.heap.size w w'))
       case atStart => exact ⟨(bR), (7), u6_2, H', ⟨Nat.le_refl _⟩, ⟨u6_3⟩, ⟨u6_4⟩, ⟨xbel⟩⟩
       case round =>
        clear H'; try clear c1
        try clear c2
        try clear cT
        try clear cU
        try clear p2
        try clear c5
        try clear c6
        try clear c9
        try clear eH
        try clear cB
        try clear cC
        try clear p2
        obtain ⟨aJ, bK, rfl, HA, HK2, aT, bB, HB⟩ := hrel; cases gk with
        | zero => exact absurd HA.out (by simp [spec_Sha.l1])
        | succ k2 =>
         have H := HA.out; clear HA; simp only [spec_Sha.l1] at H; by_cases dH : bK ≥ 0
         ·rw [if_pos dH] at H; have cV : decide (0 ≤ bK) = true := decide_eq_true dH; clear dH; obtain ⟨ji16, hji16⟩ : ∃ j_ : Int, (wrap64 (8 * bK)) = j_ := ⟨_, rfl⟩; replace H : (if 0 ≤ (ji16) then (if aJ.length < 140737488355328 then (spec_Sha.l1 k2 l0 aN (aJ ++ [(shr .i64 (wrap64 (8 * (l0.length : Int))) (ji16)) % 256]) (wrap64 (bK - 1))) else (none)) else (none)) = some r := by first | (rw [hji16] at H; exact H) | (simp only [hji16] at H ⊢; exact H)
          have hji16w : (IntKind.i64.wrap (8 * bK)) = ji16 := (i64_w _).trans hji16; by_cases eQ : 0 ≤ (ji16)
          ·rw [if_pos eQ] at H; have eI := eq_true eQ; have eJ : decide (0 ≤ (ji16)) = true := decide_eq_true eQ; clear eQ; obtain ⟨ji18, hji18⟩ : ∃ j_ : Int, (shr .i64 (wrap64 (8 * (l0.length : Int))) (ji16)) = j_ := ⟨_, rfl⟩; replace H : (if aJ.length < 140737488355328 then (spec_Sha.l1 k2 l0 aN (aJ ++ [(ji18) % 256]) (wrap64 (bK - 1))) else (none)) = some r := by first | (rw [hji18] at H; exact H) | (simp only [hji18] at H ⊢; exact H)
           have hji18_ : ((wrap64 (8 * (l0.length : Int))) / 2 ^ min (ji16).toNat 64) = ji18 := hji18; have hji18z : (ji16) ≤ 64 → ((wrap64 (8 * (l0.length : Int))) / 2 ^ (ji16).toNat) = ji18 := shr_small hji18; by_cases fF : aJ.length < 140737488355328
           ·rw [if_pos fF] at H; have LMc19 := aM fF; clear fF; obtain ⟨fQ, hY⟩ : ∃ y_ : List Int, y_ = (aJ ++ [(ji18) % 256]) := ⟨_, rfl⟩; replace H : (spec_Sha.l1 k2 l0 aN fQ (wrap64 (bK - 1))) = some r := u6_0; have fR := aM hY; clear hY; have H' := aM H; clear H; go_wp2_with (first | ((with_reducible refine gate_builtin (b := .append) (xs := #[.tmp 30, .tmp 38]) rfl ?_); at_builtin; refine Kd.R_append (Kd.int .u8) (w0 := w) w.heap.size rfl (.tmp 30) (.tmp 38) 22 5 (.int .u8 0) 1 rfl Try.underlying22 info5 rfl (by decide) (by omega) u4 aJ ((ji18) % 256) [.int .u8 ((ji18) % 256)] (fun k_ => some k_ ≠ (v205 : Value).ownBlock) (fun _ => False) rfl rfl ?aP (fun _ hk => hk.elim) ?aF ?aO ?aB ?aS ?aL ?_; (case aP => exact rfl); (case aB => exact xbel); (case aF => exact (fun k_ hk => Kd.fresh' (Kd.R_lt (xr aT)) k_ hk)); (case aO => exact (xr bB)); (case aS => exact (below_size xbel)); (case aL => have := LMc19.out; omega); intro v220 pP ho hb hg hat; rw [← fR.out] at ho; replace aT := aM (Kd.R_after (ok := (fun _ => True)) u6_6 hg hat); replace HB := aM (hb); have fS := aM (ho); clear bB; clear ho hb hg hat))
            go_roundg k2
            case measure => have := HK1.out; have := HK2.out; omega
            case rel => exact ⟨(fQ), (wrap64 (bK - 1)), u6_2, H', ⟨by have := HK1.out; have := HK2.out; omega⟩, ⟨u6_5⟩, ⟨by (with_reducible repeat (first | apply Kd.R_alloc | apply Kd.R_drewN | apply Kd.R_drew)); exact fS.out⟩, ⟨xbel⟩⟩
           ·rw [if_neg fF] at H; exact absurd H (by simp)
          ·rw [if_neg eQ] at H; exact absurd H (by simp)
         ·rw [if_neg dH] at H; have cV : decide (0 ≤ bK) = false := decide_eq_false dH; clear dH; obtain ⟨fT, hY⟩ : ∃ y_ : List Int, y_ = (([1779033703, 3144134277, 1013904242, 2773480762, 1359893119, 2600822924, 528734635, 1541459225] : List Int)) := ⟨_, rfl⟩; replace H : (spec_Sha.l2 k2 aN aJ fT 0) = some r := u6_0; have eK := aM hY; clear hY; have H' := aM H; clear H; go_wp2_with (first | ((with_reducible refine gD 40 rfl ?_); refine Kd.R_lit (Kd.int .i64) _ 3 ?hg (N := 40) ?hd (xs := ([1779033703, 3144134277, 1013904242, 2773480762, 1359893119, 2600822924, 528734635, 1541459225] : List Int)) (inner := [.int .i64 1779033703, .int .i64 3144134277, .int .i64 1013904242, .int .i64 2773480762, .int .i64 1359893119, .int .i64 2600822924, .int .i64 528734635, .int .i64 1541459225]) (ok := fun _ => True) (okp := fun _ => True) ?hr ?hp (fun _ hk => hk) trivial (Below.refl _ _) (Nat.le_refl _) (by simp) ?_; (case hd => rfl); (case hg => rfl); (case hr => exact u6_1); (case hp => exact (Reps.one (show Kd.M (Kd.int .i64) _ _ _ 1779033703 [.int .i64 1779033703] from rfl) (Reps.one (show Kd.M (Kd.int .i64) _ _ _ 3144134277 [.int .i64 3144134277] from rfl) (Reps.one (show Kd.M (Kd.int .i64) _ _ _ 1013904242 [.int .i64 1013904242] from rfl) (Reps.one (show Kd.M (Kd.int .i64) _ _ _ 2773480762 [.int .i64 2773480762] from rfl) (Reps.one (show Kd.M (Kd.int .i64) _ _ _ 1359893119 [.int .i64 1359893119] from rfl) (Reps.one (show Kd.M (Kd.int .i64) _ _ _ 2600822924 [.int .i64 2600822924] from rfl) (Reps.one (show Kd.M (Kd.int .i64) _ _ _ 528734635 [.int .i64 528734635] from rfl) (Reps.one (show Kd.M (Kd.int .i64) _ _ _ 1541459225 [.int .i64 1541459225] from rfl) (Reps.none _ _)))))))))); intro v223 pQ cW hb hg_ hnew_; clear hg_ hnew_; (first | rw [← eK.out] at cW | (simp only [Int.reduceToNat] at cW; rw [← eK.out] at cW)); replace aT := xrb aT hb; replace bB := xrb bB hb; have fU := aM (Kd.R_lower cW (below_size xbel)); replace HB := xbs hb; clear hb cW))
          go_loopg [6, 7] k2 (fun kq v6 v7 w' => ∃ (aE : List Int) (aG : Int), v7 = .int .i64 aG ∧ Aside0 (spec_Sha.l2 kq aN aJ aE aG = some r) ∧ Aside0 (kq ≤ k2) ∧ Aside0 (Kd.R (Kd.int .u8) 5 w' w.heap.size (fun k_ => some k_ ≠ (u4 : Value).ownBlock) v205 aN) ∧ Aside0 (Kd.R (Kd.int .u8) 5 w' w.heap.size (fun k_ => some k_ ≠ (v205 : Value).ownBlock) u4 aJ) ∧ Aside0 (Kd.R (Kd.int .i64) 3 w' w.heap.size (fun _ => True) v6 aE) ∧ Aside0 (Below w.heap.size w w'))
          case atStart => exact ⟨(fT), (0), u6_2, H', ⟨Nat.le_refl _⟩, ⟨u6_3⟩, ⟨u6_4⟩, ⟨by (with_reducible repeat (first | apply Kd.R_alloc | apply Kd.R_drewN | apply Kd.R_drew)); exact fU.out⟩, ⟨xbel⟩⟩
          case round =>
           clear H'; try clear c1
           try clear c2
           try clear cT
           try clear cU
           try clear p2
           try clear c5
           try clear c6
           try clear p6
           try clear c9
           try clear eH
           try clear cB
           try clear cC
           try clear dH
           try clear cV
           try clear eQ
           try clear eI
           try clear eJ
           try clear fF
           try clear p2
           obtain ⟨aE, aG, rfl, HA, HK3, aT, bB, aW, HB⟩ := hrel; cases gk with
           | zero => exact absurd HA.out (by simp [spec_Sha.l2])
           | succ k3 =>
            have H := HA.out; clear HA; simp only [spec_Sha.l2] at H; by_cases eR : aG < (aJ.length : Int)
            ·rw [if_pos eR] at H; have eL : decide (aG < (aJ.length : Int)) = true := decide_eq_true eR; clear eR; by_cases fG : 0 ≤ aG
             ·rw [if_pos fG] at H; have fV := eq_true fG; have fW : decide (0 ≤ aG) = true := decide_eq_true fG; clear fG; by_cases fX : aG ≤ (wrap64 (aG + 64))
              ·rw [if_pos fX] at H; have fY := eq_true fX; have fZ : decide (aG ≤ (wrap64 (aG + 64))) = true := decide_eq_true fX; by_cases gA : (wrap64 (aG + 64)) ≤ (aJ.length : Int)
               ·rw [if_pos gA] at H; have gB := eq_true gA; have gE : decide ((wrap64 (aG + 64)) ≤ (aJ.length : Int)) = true := decide_eq_true gA; obtain ⟨bW, hY⟩ : ∃ y_ : List Int, y_ = ((aJ.take ((wrap64 (aG + 64)) : Int).toNat).drop (aG : Int).toNat) := ⟨_, rfl⟩; replace H : ((spec_l2Block.f k3 aE bW).bind fun cK => (spec_Sha.l2 k3 aN aJ cK (wrap64 (aG + 64)))) = some r := u6_0; have eM := aM hY; clear hY; replace H := oB H; obtain ⟨cK, gF, H⟩ := H; (try dsimp only at H); have oT := aM gF; clear gF
                have H' := aM H; clear H; obtain ⟨dI, cX, mH⟩ := Kd.R_slice bB.out; subst mH; have q29 : ((wrap64 (aG + 64)) : Int) ≤ ((aJ.length : Int) : Int) := oda; obtain ⟨i029, hi029, _, hsz29, _⟩ := info_parts info5; have hroom29 : aJ.length ≤ cX := (Kd.R_reads' bB.out).2.1; have hC29 : Kd.C (Kd.int .u8) _ dI aJ.length aJ := (Kd.R_reads' bB.out).2.2; have ql29 : (aG : Int) ≤ ((wrap64 (aG + 64)) : Int) := oda; have q029 : (0 : Int) ≤ (aG : Int) := oda; have hcut29 := cut_mid (P := Try.prog) 22 5 .i64 .i64 Try.underlying22 hi029 1 hsz29 dI aJ.length cX aG (wrap64 (aG + 64)) q029 ql29 q29 hroom29; have cY := Kd.C_mid (lo := (aG : Int).toNat) (hi := ((wrap64 (aG + 64)) : Int).toNat) (c := cX) hC29 (by omega) (by omega) hroom29; obtain ⟨iK, hA29⟩ : ∃ A1, A1 = (if cX = (aG : Int).toNat then dI else (dI : Option Addr).map (·.add ((aG : Int).toNat * 1))) := ⟨_, rfl⟩; obtain ⟨mI, eS⟩ : ∃ c1, c1 = cX - (aG : Int).toNat := ⟨_, rfl⟩; have hY : bW.length = ((wrap64 (aG + 64)) : Int).toNat - (aG : Int).toNat := (by rw [eM.out, List.length_drop, List.length_take] <;> omega); rw [show ((aJ).take ((wrap64 (aG + 64)) : Int).toNat).drop (aG : Int).toNat = bW from eM.out.symm] at cY; replace cY : Kd.C (Kd.int .u8) _ iK bW.length bW := (by rw [hA29]; exact cY); rw [← hY, ← hA29, ← eS] at hcut29; have cS := aM cY; have gG := aM (show bW.length ≤ mI from by rw [hY, eS]; exact Nat.sub_le_sub_right (Nat.le_trans (by omega) hroom29) _); clear cY hC29 hroom29 hi029 hsz29 eS; have KY29 := aM hY; have KA29 := aM hA29; clear hY hA29; have KL29 := aM (show ((wrap64 (aG + 64)) : Int).toNat ≤ aJ.length from by omega); have KM29 := aM (show (aG : Int).toNat ≤ ((wrap64 (aG + 64)) : Int).toNat from by omega); replace q29 := eq_true q29; obtain ⟨mJ, mK, mL⟩ := Kd.R_slice aW.out; subst mL; go_wp2_with (first | ((with_reducible refine gC 105 rfl ?_); refine goesLY (some 53) rfl Try.func105 #[.slice mJ aE.length mK, .slice iK bW.length mI] ?_; (with_reducible refine (spec_l2Block.calls k3 _ _ aE _ _ bW cK _ ?side1 ?side2 ?side3 ?side4 oT.out).mono ?_); (case side1 => exact xC aW); (case side2 => exact (Kd.R_reads' aW.out).2.1); (case side3 => repeat (first | exact u6_7 | (with_reducible refine Kd.C_alloc ?_ _) | (with_reducible refine Kd.C_drewN ?_ _) | (with_reducible refine Kd.C_drew ?_))); (case side4 => exact gG.out); rintro e pR ⟨v230, rfl, eT, hb⟩; refine ⟨_, rfl, ?_⟩; replace aT := xrb aT hb; replace bB := xrb bB hb; have gH := aM (Kd.R_lower (Kd.R_new' eT (Kd.R_lt (xr aW))) (below_size xbel)); replace aW := aM (Kd.R_elder' (xr aW) (Kd.R_base eT) hb); replace cS := aM (Kd.C_below u6_7 hb); replace HB := xbs hb; (try clear hb eT)))
                go_roundg k3
                case measure => have := HK1.out; have := HK2.out; have := HK3.out; omega
                case rel => exact ⟨(cK), (wrap64 (aG + 64)), u6_2, H', ⟨by have := HK1.out; have := HK2.out; have := HK3.out; omega⟩, ⟨u6_3⟩, ⟨u6_4⟩, ⟨by (with_reducible repeat (first | apply Kd.R_alloc | apply Kd.R_drewN | apply Kd.R_drew)); exact Kd.R_mono gH.out (fun _ hk => trivial)⟩, ⟨xbel⟩⟩
               ·rw [if_neg gA] at H; exact absurd H (by simp)
              ·rw [if_neg fX] at H; exact absurd H (by simp)
             ·rw [if_neg fG] at H; exact absurd H (by simp)
            ·rw [if_neg eR] at H; have eL : decide (aG < (aJ.length : Int)) = false := decide_eq_false eR; clear eR; have H' := aM H; clear H; obtain ⟨oU, oV, mM⟩ := Kd.R_slice bB.out; subst mM; go_wp2; go_loopg [3, 8] k3 (fun kq v3 v8 w' => ∃ (bX : List Int) (aC : Int), v8 = .int .i64 aC ∧ Aside0 (spec_Sha.l3 kq bX aE aC = some r) ∧ Aside0 (kq ≤ k3) ∧ Aside0 (Kd.R (Kd.int .u8) 5 w' w.heap.size (fun _ => True) v3 bX) ∧ Aside0 (Kd.R (Kd.int .i64) 3 w' w.heap.size (fun _ => True) u6 aE) ∧ Aside0 (Below w.heap.size w w'))
             case atStart => exact ⟨(aN), (0), u6_2, H', ⟨Nat.le_refl _⟩, ⟨by (with_reducible repeat (first | apply Kd.R_alloc | apply Kd.R_drewN | apply Kd.R_drew)); exact Kd.R_mono aT.out (fun _ hk => trivial)⟩, ⟨u6_8⟩, ⟨xbel⟩⟩
             case round =>
              clear H'; try clear c1
              try clear c2
              try clear cT
              try clear cU
              try clear p2
              try clear q2
              try clear c5
              try clear c6
              try clear p6
              try clear c9
              try clear c10
              try clear eH
              try clear cB
              try clear cC
              try clear dH
              try clear cV
              try clear eQ
              try clear eI
              try clear eJ
              try clear fF
              try clear eR
              try clear eL
              try clear fG
              try clear fV
              try clear fW
              try clear fX
              try clear fY
              try clear fZ
              try clear gA
              try clear gB
              try clear gE
              try clear mI
              try clear q29
              try clear p2
              try clear p6
              try clear q029
              try clear q29
              obtain ⟨bX, aC, rfl, HA, HK4, aT, aW, HB⟩ := hrel; cases gk with
              | zero => exact absurd HA.out (by simp [spec_Sha.l3])
              | succ k4 =>
               have H := HA.out; clear HA; simp only [spec_Sha.l3] at H; by_cases fH : aC < 8
               ·rw [if_pos fH] at H; have gI : decide (aC < 8) = true := decide_eq_true fH; clear fH; by_cases iL : 0 ≤ aC
                ·rw [if_pos iL] at H; have nI : decide (0 ≤ aC) = true := decide_eq_true iL; clear iL; by_cases iM : aC < (aE.length : Int)
                 ·rw [if_pos iM] at H; have nJ : decide (aC < (aE.length : Int)) = true := decide_eq_true iM; clear iM; obtain ⟨bQ, hY⟩ : ∃ y_ : List Int, y_ = (([((rd aE aC) / 16777216) % 256, ((rd aE aC) / 65536) % 256, ((rd aE aC) / 256) % 256, (rd aE aC) % 256] : List Int)) := ⟨_, rfl⟩; replace H : (if bX.length + bQ.length < 140737488355328 then (spec_Sha.l3 k4 (bX ++ bQ) aE (wrap64 (aC + 1))) else (none)) = some r := u6_0; have eN := aM hY; clear hY; by_cases iO : bX.length + bQ.length < 140737488355328
                  ·rw [if_pos iO] at H; have LMc36 := aM iO; clear iO; obtain ⟨gJ, hY⟩ : ∃ y_ : List Int, y_ = (bX ++ bQ) := ⟨_, rfl⟩; replace H : (spec_Sha.l3 k4 gJ aE (wrap64 (aC + 1))) = some r := u6_0; have gK := aM hY; clear hY; have H' := aM H; clear H; try go_wp2
                   replace aT := rD aT; replace aW := rD aW; replace HB := lD HB; obtain ⟨oW, oX, gL⟩ := Kd.R_slice aW.out; (first | subst gL | (injection gL with f1_ f2_ f3_; have f4_ := f1_.symm; have f5_ := f3_.symm; clear f1_ f2_ f3_; subst f4_; subst f5_)); have p232 : 0 ≤ (aC : Int) := oda; have q232 : aC < (aE.length : Int) := oda; obtain ⟨bL, mN, cD⟩ := Kd.at_int (Kd.R_reads' aW.out).2.2 aC p232 q232; cases mN
                   replace p232 := eq_true p232; replace q232 := eq_true q232; have p233 : 0 ≤ (aC : Int) := oda; have q233 : aC < (aE.length : Int) := oda; obtain ⟨gM, mO, cE⟩ := Kd.at_int (Kd.R_reads' aW.out).2.2 aC p233 q233; obtain rfl : bL = gM := (by injection mO); replace p233 := eq_true p233; replace q233 := eq_true q233; have p234 : 0 ≤ (aC : Int) := oda; have q234 : aC < (aE.length : Int) := oda; obtain ⟨gN, mP, cF⟩ := Kd.at_int (Kd.R_reads' aW.out).2.2 aC p234 q234; obtain rfl : bL = gN := (by injection mP); replace p234 := eq_true p234; replace q234 := eq_true q234; have p235 : 0 ≤ (aC : Int) := oda; have q235 : aC < (aE.length : Int) := oda; obtain ⟨gO, mQ, cG⟩ := Kd.at_int (Kd.R_reads' aW.out).2.2 aC p235 q235; obtain rfl : bL = gO := (by injection mQ); replace p235 := eq_true p235; replace q235 := eq_true q235; refine start_ (n := 27) (S := fun w' => w'.cell? (bL.add (aC).toNat) = some (.int .i64 (rd aE aC)) ∧ w'.cell? (bL.add (aC).toNat) = some (.int .i64 (rd aE aC)) ∧ w'.cell? (bL.add (aC).toNat) = some (.int .i64 (rd aE aC)) ∧ w'.cell? (bL.add (aC).toNat) = some (.int .i64 (rd aE aC))) (ds := [25]) #[false, false, false, false, false, false, false, false, false, false, false, false, false, false, false, false, false, false, false, false, false, false, false, false, false, false, false] (by kernel_rfl) rfl rfl ⟨cD, cE, cF, cG⟩ (fun hHeld => ?_); refine with_tabW spec_Sha.tab19 spec_Sha.bits19 (fun HT_ HW_ => ?_); generalize wr.drew = pS at aT aW HB cD cE cF cG hHeld ⊢; refine pV 0 58 ?_; refine pV 1 59 ?_; refine pV 2 60 ?_; refine pV 3 61 ?_; refine pV 7 65 ?_; refine pV 8 66 ?_; refine pV 9 67 ?_; refine pV 13 71 ?_; refine pV 14 72 ?_; refine pV 15 73 ?_; refine pV 19 77 ?_; refine pV 20 78 ?_; refine pV 21 79 ?_; refine tK 4 62 ?_; refine pV 5 63 ?_; refine pV 6 64 ?_; refine tK 10 68 ?_; refine pV 11 69 ?_; refine pV 12 70 ?_; refine tK 16 74 ?_; refine pV 17 75 ?_; refine pV 18 76 ?_; refine tK 22 80 ?_; refine pV 23 81 ?_; refine oN 24 82 fun K hK => ?_
                   refine Kd.R_lit_step (Kd.int .u8) _ 5 ?hg (N := 82) ?hd (xs := ([((rd aE aC) / 16777216) % 256, ((rd aE aC) / 65536) % 256, ((rd aE aC) / 256) % 256, (rd aE aC) % 256] : List Int)) (inner := [.int .u8 (((rd aE aC) / 16777216) % 256), .int .u8 (((rd aE aC) / 65536) % 256), .int .u8 (((rd aE aC) / 256) % 256), .int .u8 ((rd aE aC) % 256)]) (ok := fun _ => True) (okp := fun _ => True) ?hr ?hp (fun _ hk => hk) trivial (Below.refl _ _) (Nat.le_refl _) (by simp) ?_; (case hd => rfl); (case hg => rfl); (case hr => exact u6_1); (case hp => exact (Reps.one (show Kd.M (Kd.int .u8) _ _ _ (((rd aE aC) / 16777216) % 256) [.int .u8 (((rd aE aC) / 16777216) % 256)] from rfl) (Reps.one (show Kd.M (Kd.int .u8) _ _ _ (((rd aE aC) / 65536) % 256) [.int .u8 (((rd aE aC) / 65536) % 256)] from rfl) (Reps.one (show Kd.M (Kd.int .u8) _ _ _ (((rd aE aC) / 256) % 256) [.int .u8 (((rd aE aC) / 256) % 256)] from rfl) (Reps.one (show Kd.M (Kd.int .u8) _ _ _ ((rd aE aC) % 256) [.int .u8 ((rd aE aC) % 256)] from rfl) (Reps.none _ _)))))); intro v237 pT cM hb hg_ hnew_; have HS0_ := (hb.cell (World.block_lt_of_cell? _ _ (hHeld.1))).trans (hHeld.1); have HS1_ := (hb.cell (World.block_lt_of_cell? _ _ (hHeld.2.1))).trans (hHeld.2.1); have HS2_ := (hb.cell (World.block_lt_of_cell? _ _ (hHeld.2.2.1))).trans (hHeld.2.2.1); have HS3_ := (hb.cell (World.block_lt_of_cell? _ _ (hHeld.2.2.2))).trans (hHeld.2.2.2); clear hg_ hnew_; (first | rw [← eN.out] at cM | (simp only [Int.reduceToNat] at cM; rw [← eN.out] at cM)); replace aW := xrb aW hb; have bY := aM (Kd.R_lower (Kd.R_new' cM (Kd.R_lt (xr aT))) (below_size xbel)); replace aT := aM (Kd.R_elder' (xr aT) (Kd.R_base cM) hb); replace HB := xbs hb; clear hb cM; obtain ⟨mR, mS, gP⟩ := Kd.R_slice bY.out; (first | subst gP | (injection gP with f1_ f2_ f3_; have f4_ := f1_.symm; have f5_ := f3_.symm; clear f1_ f2_ f3_; subst f4_; subst f5_)); refine hK.out _ _ ⟨HS0_, HS1_, HS2_, HS3_⟩ (fun hHeld => ?_); clear hK K; refine nm_ (N := 82) ?_; refine last_ (i := 25) (N := some 83) #[true, true, true, true, true, true, true, true, true, true, true, true, true, true, true, true, true, true, true, true, true, true, true, true, true, true, false] rfl rfl (one_of HT_.out (by kernel_rfl)) (by decide) (fun K hK => ?_); refine Kd.R_append_rows_step (Kd.int .u8) (w0 := w) w.heap.size (by rfl) (.tmp 58) (.tmp 82) 22 5 (.int .u8 0) 1 rfl Try.underlying22 info5 rfl (by decide) (by omega) u3 bX bQ _ _ _ (fun k_ => some k_ ≠ (.slice mR bQ.length mS : Value).ownBlock) (fun _ => False) rfl rfl ?aO ?aR (fun _ _ h => h) (fun _ h => h.elim) ?aF ?aB ?aS ?aL ?_; (case aR => repeat (first | exact (Kd.R_reads' bY.out).2.2 | (with_reducible refine Kd.C_alloc ?_ _) | (with_reducible refine Kd.C_drewN ?_ _) | (with_reducible refine Kd.C_drew ?_))); (case aB => exact xbel); (case aF => exact (fun k_ hk => Kd.fresh' (Kd.R_lt (xr bY)) k_ hk)); (case aO => exact u6_5); (case aS => exact (below_size xbel)); (case aL => have := LMc36.out; omega); intro v240 pW ho hb hg hat; rw [← gK.out] at ho; replace aW := aM (Kd.R_over' (xr aW) (Kd.R_typed (xr aT)) (by decide) hg); replace bY := aM (Kd.R_after (ok := (fun _ => True)) (xr bY) hg hat); replace HB := aM (hb); have gQ := aM (ho); clear aT ho hb hg hat; refine hK.out _ _ ?_; clear hK K; refine nm_ (N := 83) ?_; refine pV 26 3 ?_; refine dn_ ?_; try go_wp2
                   go_roundg k4
                   case measure => have := HK1.out; have := HK2.out; have := HK3.out; have := HK4.out; omega
                   case rel => exact ⟨(gJ), (wrap64 (aC + 1)), u6_2, H', ⟨by have := HK1.out; have := HK2.out; have := HK3.out; have := HK4.out; omega⟩, ⟨by (with_reducible repeat (first | apply Kd.R_alloc | apply Kd.R_drewN | apply Kd.R_drew)); exact Kd.R_mono gQ.out (fun _ hk => trivial)⟩, ⟨u6_8⟩, ⟨xbel⟩⟩
                  ·rw [if_neg iO] at H; exact absurd H (by simp)
                 ·rw [if_neg iM] at H; exact absurd H (by simp)
                ·rw [if_neg iL] at H; exact absurd H (by simp)
               ·rw [if_neg fH] at H; have gI : decide (aC < 8) = false := decide_eq_false fH; clear fH; obtain rfl := Option.some.inj H; go_wp2; go_ret
                exact ⟨_, xerr, u6_3, xbel⟩
      ·rw [if_neg eH] at H; obtain ⟨cB, cC⟩ := bF eH; by_cases iP : bR.length < 140737488355328
       ·rw [if_pos iP] at H; have LMc43 := aM iP; clear iP; obtain ⟨gR, hY⟩ : ∃ y_ : List Int, y_ = (bR ++ [0]) := ⟨_, rfl⟩; replace H : (spec_Sha.l0 k1 l0 aN gR) = some r := u6_0; have gS := aM hY; clear hY; have H' := aM H; clear H; obtain ⟨mT, mU, mV⟩ := Kd.R_slice bB.out; subst mV; go_wp2_with (first | ((with_reducible refine gate_builtin (b := .append) (xs := #[.tmp 23, .tmp 24]) rfl ?_); at_builtin; refine Kd.R_append (Kd.int .u8) (w0 := w) w.heap.size rfl (.tmp 23) (.tmp 24) 22 5 (.int .u8 0) 1 rfl Try.underlying22 info5 rfl (by decide) (by omega) (.slice mT bR.length mU) bR 0 [.int .u8 0] (fun k_ => some k_ ≠ (v205 : Value).ownBlock) (fun _ => False) rfl rfl ?aP (fun _ hk => hk.elim) ?aF ?aO ?aB ?aS ?aL ?_; (case aP => exact rfl); (case aB => exact xbel); (case aF => exact (fun k_ hk => Kd.fresh' (Kd.R_lt (xr aT)) k_ hk)); (case aO => exact (xr bB)); (case aS => exact (below_size xbel)); (case aL => have := LMc43.out; omega); intro v217 pX ho hb hg hat; rw [← gS.out] at ho; replace aT := aM (Kd.R_after (ok := (fun _ => True)) u6_6 hg hat); replace HB := aM (hb); have gT := aM (ho); clear bB; clear ho hb hg hat))
        go_roundg k1
        case measure => have := HK1.out; omega
        case rel => exact ⟨(gR), H', ⟨by have := HK1.out; omega⟩, ⟨u6_5⟩, ⟨by (with_reducible repeat (first | apply Kd.R_alloc | apply Kd.R_drewN | apply Kd.R_drew)); exact gT.out⟩, ⟨xbel⟩⟩
       ·rw [if_neg iP] at H; exact absurd H (by simp)
   ·rw [if_neg c6] at H; exact absurd H (by simp)
  ·rw [if_neg c5] at H; exact absurd H (by simp)

/-! ### spec_l5DrawDigest: function 89 -/
def spec_l5DrawDigest.f (k : Nat) (s0_0 : List Int) (s0_1 : Int) (s0_2 : Int) : Option (ByteArray × Int × Int) := (spec_l1Below.f s0_0 s0_1 s0_2 4).bind fun bM => ((spec_Sha.f k (([(bM.1) % 256] : List Int))).bind fun bZ => (some (strOfNums bZ, bM.2.1, bM.2.2)))
theorem u6_mq1 {p : Prop} (h : p := by repeat' first | (with_reducible first | exact spec_Sha.mono _ _ | exact LeO.refl _ | exact LeO.none _ | refine LeO.ite ?_ ?_ | refine LeO.bind ?_ (fun _ => ?_)) | exact LeO.none _ | refine LeO.ite ?_ ?_ | refine LeO.bind ?_ (fun _ => ?_)) : p := h
theorem spec_l5DrawDigest.mono : ∀ a0 a1 a2 k, LeO (spec_l5DrawDigest.f k a0 a1 a2) (spec_l5DrawDigest.f (k + 1) a0 a1 a2) := by
 intro a0 a1 a2 k
 unfold spec_l5DrawDigest.f
 exact u6_mq1
set_option maxHeartbeats 8000000 in
set_option maxRecDepth 100000 in
theorem spec_l5DrawDigest.calls (k : Nat) (g : Nat) (s0_0 : List Int) (s0_1 : Int) (s0_2 : Int) (r1 : ByteArray) (r2 : Int) (r3 : Int) (w0 w : World) (hI : IsS99 w0 w g s0_0 s0_1 s0_2) (hB : Below w0.heap.size w0 w) (h : spec_l5DrawDigest.f k s0_0 s0_1 s0_2 = some (r1, r2, r3)) :
 Calls Try.prog 89 #[.pointer (some ⟨g, 0, none⟩)] w fun e w' => e = .returned (.string r1) ∧ IsS99 w0 w' g s0_0 r2 r3 ∧ Below w0.heap.size w0 w' ∧ KeepBut w w' g none := by
 have HI0 := aM hI
 have HK := aM (KeepBut.refl w g none)
 have HL := aM hB.size
 clear hI
 have HW0 := aM hB.size
 have HB := aM hB
 clear hB
 have H : ((spec_l1Below.f s0_0 s0_1 s0_2 4).bind fun bM => ((spec_Sha.f k (([(bM.1) % 256] : List Int))).bind fun bZ => (some (strOfNums bZ, bM.2.1, bM.2.2)))) = some (r1, r2, r3) := h
 clear h
 replace H := oB H
 obtain ⟨⟨cN, gU, gV⟩, gW, H⟩ := H
 (try dsimp only at H)
 have A2 := aM gW
 clear gW
 obtain ⟨eU, hY⟩ : ∃ y_ : List Int, y_ = (([(cN) % 256] : List Int)) := ⟨_, rfl⟩
 replace H : ((spec_Sha.f k eU).bind fun bZ => (some (strOfNums bZ, gU, gV))) = some (r1, r2, r3) := u6_0
 have eO := aM hY
 clear hY
 replace H := oB H
 obtain ⟨bZ, iQ, H⟩ := H
 (try dsimp only at H)
 have A3 := aM iQ
 clear iQ
 simp only [Option.some.injEq, Prod.mk.injEq] at H
 obtain ⟨rfl, rfl, rfl⟩ := H
 go_enter Try.func89, Try.ntmps89
 go_wp2_with (first | ((with_reducible refine gC 31 rfl ?_); refine goesLY (some 4) rfl Try.func31 #[.pointer (some ⟨g, 0, none⟩), .int .i64 4] ?_; (with_reducible refine (spec_l1Below.calls g s0_0 s0_1 s0_2 4 cN gU gV w0 _ ?side1 ?side2 A2.out).mono ?_); (case side1 => exact IsS99.s); (case side2 => exact IsS99.B); rintro e w4 ⟨rfl, hi, hb, hk⟩; refine ⟨_, rfl, ?_⟩; replace HK := xhk HK hk; replace HB := aM (hb); replace HI0 := aM (hi); (try clear hb hk hi)) | ((with_reducible refine gD 6 rfl ?_); refine Kd.R_lit (Kd.int .u8) _ 5 ?hg (N := 6) ?hd (xs := ([(cN) % 256] : List Int)) (inner := [.int .u8 ((cN) % 256)]) (ok := fun _ => True) (okp := fun _ => True) ?hr ?hp (fun _ hk => hk) trivial (Below.refl _ _) (Nat.le_refl _) (by simp) ?_; (case hd => rfl); (case hg => rfl); (case hr => exact u6_1); (case hp => exact (Reps.one (show Kd.M (Kd.int .u8) _ _ _ ((cN) % 256) [.int .u8 ((cN) % 256)] from rfl) (Reps.none _ _))); intro v246 w5 gX hb hg_ hnew_; clear hg_ hnew_; (first | rw [← eO.out] at gX | (simp only [Int.reduceToNat] at gX; rw [← eO.out] at gX)); have bO := aM (Kd.R_lower gX (keep_size (w := w) (g := g) (row := none) xK)); replace HK := xhb HK hb; replace HB := IsS99.Bb HB hb; replace HI0 := IsS99.bl HI0 hb; clear hb gX; obtain ⟨oY, oZ, pA⟩ := Kd.R_slice bO.out; subst pA) | ((with_reducible refine gC 97 rfl ?_); refine goesLY (some 7) rfl Try.func97 #[.slice oY eU.length oZ] ?_; (with_reducible refine (spec_Sha.calls k _ _ eU bZ _ ?side1 ?side2 A3.out).mono ?_); (case side1 => exact xC bO); (case side2 => exact (Kd.R_reads' bO.out).2.1); rintro e w8 ⟨v249, rfl, eT, hb⟩; refine ⟨_, rfl, ?_⟩; have gY := aM (Kd.R_lower (Kd.R_new' eT (Kd.R_lt (xr bO))) (keep_size (w := w) (g := g) (row := none) xK)); replace bO := aM (Kd.R_elder' (xr bO) (Kd.R_base eT) hb); replace HK := xhb HK hb; replace HB := IsS99.Bb HB hb; replace HI0 := IsS99.bl HI0 hb; (try clear hb eT); have hcv9 := own_string (P := Try.prog) Try.underlying22 Try.underlying5 Try.underlying9 (Kd.own_of_R gY.out)))
 go_ret
 exact ⟨xerr, IsS99.s, IsS99.B, xK⟩

/-! ### spec_l5DrawRight: function 79 -/
def spec_l5DrawRight.j0 : Nat → List Int → Int → Int → Int → Int → Int → Int → ByteArray → Option (Int × Int × Int × Int × ByteArray × Int × Int)
 | 0, _, _, _, _, _, _, _, _ => none
 | k + 1, cZ, dA, dB, bG, bU, cH, cI, cJ => if bG = 3 then ((spec_l1Below.f cZ dA dB 3).bind fun dC => (some (bG, bU, dC.1, cI, cJ, dC.2.1, dC.2.2))) else (if bG = 2 then ((spec_l1Below.f cZ dA dB 40).bind fun dD => ((spec_l5DrawDigest.f k cZ dD.2.1 dD.2.2).bind fun dE => (some (bG, bU, cH, dD.1, dE.1, dE.2.1, dE.2.2)))) else (some (bG, bU, cH, cI, cJ, dA, dB)))
def spec_l5DrawRight.f (k : Nat) (s0_0 : List Int) (s0_1 : Int) (s0_2 : Int) : Option (Int × Int × Int × Int × ByteArray × Int × Int) := (spec_l1Below.f s0_0 s0_1 s0_2 5).bind fun aU => (if (wrap64 (1 + aU.1)) = 1 then (spec_l5DrawRight.j0 k s0_0 aU.2.1 aU.2.2 (wrap64 (1 + aU.1)) 0 0 0 (⟨#[]⟩ : ByteArray)) else ((spec_l1Below.f s0_0 aU.2.1 aU.2.2 4).bind fun bN => (spec_l5DrawRight.j0 k s0_0 bN.2.1 bN.2.2 (wrap64 (1 + aU.1)) (wrap64 (1 + bN.1)) 0 0 (⟨#[]⟩ : ByteArray))))
theorem u6_mq2 {p : Prop} (h : p := by repeat' first | (with_reducible first | exact fJ _ _ _ _ _ _ _ _ | exact spec_l5DrawDigest.mono _ _ _ _ | exact LeO.refl _ | exact LeO.none _ | refine LeO.ite ?_ ?_ | refine LeO.bind ?_ (fun _ => ?_)) | exact LeO.none _ | refine LeO.ite ?_ ?_ | refine LeO.bind ?_ (fun _ => ?_)) : p := h
set_option maxRecDepth 100000 in
theorem spec_l5DrawRight.mono_l : ∀ k, (∀ y0 y1 y2 y3 y4 y5 y6 y7, LeO (spec_l5DrawRight.j0 k y0 y1 y2 y3 y4 y5 y6 y7) (spec_l5DrawRight.j0 (k + 1) y0 y1 y2 y3 y4 y5 y6 y7))
 | 0 => fun _ _ _ _ _ _ _ _ r h => by simp [spec_l5DrawRight.j0] at h
 | k + 1 => by
  have fJ := spec_l5DrawRight.mono_l k
  ·intro y0 y1 y2 y3 y4 y5 y6 y7; unfold spec_l5DrawRight.j0; exact u6_mq2
theorem spec_l5DrawRight.mono : ∀ a0 a1 a2 k, LeO (spec_l5DrawRight.f k a0 a1 a2) (spec_l5DrawRight.f (k + 1) a0 a1 a2) := by
 intro a0 a1 a2 k
 have fJ := spec_l5DrawRight.mono_l k
 unfold spec_l5DrawRight.f
 exact u6_mq2
set_option maxHeartbeats 8000000 in
set_option maxRecDepth 100000 in
theorem spec_l5DrawRight.calls (k : Nat) (g : Nat) (s0_0 : List Int) (s0_1 : Int) (s0_2 : Int) (r1 : Int) (r2 : Int) (r3 : Int) (r4 : Int) (r5 : ByteArray) (r6 : Int) (r7 : Int) (w0 w : World) (hI : IsS99 w0 w g s0_0 s0_1 s0_2) (hB : Below w0.heap.size w0 w) (h : spec_l5DrawRight.f k s0_0 s0_1 s0_2 = some (r1, r2, r3, r4, r5, r6, r7)) :
 Calls Try.prog 79 #[.pointer (some ⟨g, 0, none⟩)] w fun e w' => e = .returned (.agg #[.int .i64 r1, .int .i64 r2, .int .i64 r3, .int .i64 r4, .string r5]) ∧ IsS99 w0 w' g s0_0 r6 r7 ∧ Below w0.heap.size w0 w' ∧ KeepBut w w' g none := by
 have pB := Try.underlying34
 have HI0 := aM hI
 have HK := aM (KeepBut.refl w g none)
 have HL := aM hB.size
 clear hI
 have HW0 := aM hB.size
 have HB := aM hB
 clear hB
 have H : ((spec_l1Below.f s0_0 s0_1 s0_2 5).bind fun aU => (if (wrap64 (1 + aU.1)) = 1 then (spec_l5DrawRight.j0 k s0_0 aU.2.1 aU.2.2 (wrap64 (1 + aU.1)) 0 0 0 (⟨#[]⟩ : ByteArray)) else ((spec_l1Below.f s0_0 aU.2.1 aU.2.2 4).bind fun bN => (spec_l5DrawRight.j0 k s0_0 bN.2.1 bN.2.2 (wrap64 (1 + aU.1)) (wrap64 (1 + bN.1)) 0 0 (⟨#[]⟩ : ByteArray))))) = some (r1, r2, r3, r4, r5, r6, r7) := h
 clear h
 replace H := oB H
 obtain ⟨⟨aX, dF, dG⟩, gW, H⟩ := H
 (try dsimp only at H)
 have A2 := aM gW
 clear gW
 have mW := aM H
 clear H
 go_enter Try.func79, Try.ntmps79
 go_upto_if 10 with (first | ((with_reducible refine gD 2 rfl ?_); refine boxE (N := 2) rfl (cs := #[.int .i64 0, .int .i64 0, .int .i64 0, .int .i64 0, .string (⟨#[]⟩ : ByteArray)]) (t := 34) ?_; intro aD hg w4 hbox hb; replace HB := IsS99.Bb HB hb; have aH := aM (hbox); have nK := aM ((by rw [hg]; exact (keep_size (w := w) (g := g) (row := none) xK) : w.heap.size ≤ aD)); have nL := aM ((Nat.le_trans HW0.out (by rw [hg]; exact (keep_size (w := w) (g := g) (row := none) xK) : w.heap.size ≤ aD) : w0.heap.size ≤ aD)); replace HK := xhb HK hb; have bV := aM ((by rw [hg]; exact Nat.ne_of_lt (IsS99.lt (show IsS99 w0 _ g s0_0 s0_1 s0_2 from IsS99.s)) : g ≠ aD)); have aV := aM ((by rw [hg]; exact Nat.ne_of_gt (IsS99.lt (show IsS99 w0 _ g s0_0 s0_1 s0_2 from IsS99.s)) : aD ≠ g)); replace HI0 := IsS99.bl HI0 hb; clear hb hbox hg) | ((with_reducible refine gC 31 rfl ?_); refine goesLY (some 5) rfl Try.func31 #[.pointer (some ⟨g, 0, none⟩), .int .i64 5] ?_; (with_reducible refine (spec_l1Below.calls g s0_0 s0_1 s0_2 5 aX dF dG w0 _ ?side1 ?side2 A2.out).mono ?_); (case side1 => exact IsS99.s); (case side2 => exact IsS99.B); rintro e w5 ⟨rfl, hi, hb, hk⟩; refine ⟨_, rfl, ?_⟩; replace aH := kb aH aV hk; replace HK := xhk HK hk; replace HB := aM (hb); replace HI0 := aM (hi); (try clear hb hk hi)) | ((with_reducible refine gD 3 rfl ?_); refine boxE (N := 3) rfl (cs := #[.int .i64 0, .int .i64 0, .int .i64 0, .int .i64 0, .string (⟨#[]⟩ : ByteArray)]) (t := 34) ?_; intro aK hg w6 hbox hb; replace HB := IsS99.Bb HB hb; have nM := aM ((by rw [hg]; exact (keep_size (w := w) (g := g) (row := none) xK) : w.heap.size ≤ aK)); have nN := aM ((Nat.le_trans HW0.out (by rw [hg]; exact (keep_size (w := w) (g := g) (row := none) xK) : w.heap.size ≤ aK) : w0.heap.size ≤ aK)); replace HK := xhb HK hb; have aY := nblt aH hg; have aZ := nbgt aH hg; replace aH := xbb aH hb; have aI := aM (hbox); have bH := aM ((by rw [hg]; exact Nat.ne_of_lt (IsS99.lt (show IsS99 w0 _ g s0_0 dF dG from IsS99.s)) : g ≠ aK)); have aQ := aM ((by rw [hg]; exact Nat.ne_of_gt (IsS99.lt (show IsS99 w0 _ g s0_0 dF dG from IsS99.s)) : aK ≠ g)); replace HI0 := IsS99.bl HI0 hb; clear hb hbox hg; have pC := aZ.out; have pD := aY.out; have pE := aQ.out; have pF := bH.out; obtain ⟨eV, eW, eX, eY, eZ, fA, fB, fC, fD, fE⟩ := xf5 (w := w6) aI) | ((with_reducible refine gate_store (t := 34) (p := 3) rfl ?_); refine store_event (t := 34) (p := 3) (v := ?vo_w10) (w1 := (((((w6.setCell ⟨aK, 0, none⟩ (.int .i64 (wrap64 (1 + aX)))).setCell ⟨aK, 1, none⟩ (.int .i64 0)).setCell ⟨aK, 2, none⟩ (.int .i64 0)).setCell ⟨aK, 3, none⟩ (.int .i64 0)).setCell ⟨aK, 4, none⟩ (.string (⟨#[]⟩ : ByteArray)))) ?hg ?ho ?hn ?hr ?_; (case ho | hg | hn => rfl); (case hr => exact u6_1); intro nO hw; replace aH := xwc hw aH; replace aI : Aside0 (nO.heap[aK]? = some (.cells #[.int .i64 (wrap64 (1 + aX)), .int .i64 0, .int .i64 0, .int .i64 0, .string (⟨#[]⟩ : ByteArray)] 34 (0, 0))) := xwp hw; replace HK := xwk hw HK; replace HB := IsS99.Bw hw HB; replace HI0 := IsS99.sw hw HI0; clear hw; obtain ⟨dJ, dK, dL, dM, dN, dO, dP, dQ, dR, dS⟩ := xf5 (w := nO) aI))
 (try simp only [Act.put, List.setIfInBounds_toArray, List.set_cons_zero, List.set_cons_succ])
 go_cut [] (fun wc => ∃ (kq : Nat) (bI : Int) (bJ : Int) (aA : Int), Aside0 (spec_l5DrawRight.j0 kq s0_0 bI bJ (wrap64 (1 + aX)) aA 0 0 (⟨#[]⟩ : ByteArray) = some (r1, r2, r3, r4, r5, r6, r7)) ∧ Aside0 (kq ≤ k) ∧ Aside0 (wc.heap[aD]? = some (.cells #[.int .i64 0, .int .i64 0, .int .i64 0, .int .i64 0, .string (⟨#[]⟩ : ByteArray)] 34 (0, 0))) ∧ Aside0 (wc.heap[aK]? = some (.cells #[.int .i64 (wrap64 (1 + aX)), .int .i64 aA, .int .i64 0, .int .i64 0, .string (⟨#[]⟩ : ByteArray)] 34 (0, 0))) ∧ Aside0 (IsS99 w0 wc g s0_0 bI bJ) ∧ Aside0 (KeepBut w wc g none) ∧ Aside0 (Below w0.heap.size w0 wc))
 case first =>
  have H := mW.out; clear mW; by_cases fI : (wrap64 (1 + aX)) = 1
  ·rw [if_pos fI] at H; obtain ⟨bP, eP⟩ := bT fI; clear fI; (first | rw [bP] | (simp only [i64_w, i32_w]; rw [bP]) | skip); have H' := aM H; clear H; go_wp2; go_meet
   case rel => exact ⟨_, (dF), (dG), (0), H', ⟨by first | omega | exact Nat.le_refl _⟩, ⟨xblk⟩, ⟨xblk⟩, ⟨IsS99.s⟩, ⟨xK⟩, ⟨IsS99.B⟩⟩
  ·rw [if_neg fI] at H; obtain ⟨bP, eP⟩ := bF fI; (first | rw [bP] | (simp only [i64_w, i32_w]; rw [bP]) | skip); replace H := oB H; obtain ⟨⟨gZ, hJ, hU⟩, hX, H⟩ := H; (try dsimp only at H); have pG := aM hX; clear hX
   have H' := aM H; clear H; go_wp2_with (first | ((with_reducible refine gC 31 rfl ?_); refine goesLY (some 12) rfl Try.func31 #[.pointer (some ⟨g, 0, none⟩), .int .i64 4] ?_; (with_reducible refine (spec_l1Below.calls g s0_0 dF dG 4 gZ hJ hU w0 _ ?side1 ?side2 pG.out).mono ?_); (case side1 => exact IsS99.s); (case side2 => exact IsS99.B); rintro e pH ⟨rfl, hi, hb, hk⟩; refine ⟨_, rfl, ?_⟩; replace aH := kb aH aV hk; replace aI := kb aI aQ hk; replace HK := xhk HK hk; replace HB := aM (hb); replace HI0 := aM (hi); (try clear hb hk hi); have nP := aZ.out; have nQ := aY.out; have nR := aQ.out; have nS := bH.out; obtain ⟨dU, dV, dW, dX, dY, dZ, eA, eB, eC, eD⟩ := xf5 (w := pH) aI))
   go_meet
   case rel => exact ⟨_, (hJ), (hU), (wrap64 (1 + gZ)), H', ⟨by first | omega | exact Nat.le_refl _⟩, ⟨xB⟩, ⟨xP⟩, ⟨IsS99.s⟩, ⟨xK⟩, ⟨IsS99.B⟩⟩
 case rest =>
  clear mW; try clear c1
  try clear p2
  try clear c3
  try clear p6
  try clear c7
  try clear c8
  try clear fI
  try clear bP
  try clear eP
  try clear dH
  try clear pY
  try clear dJ dK dL dM dN
  try clear dU dV dW dX dY
  try clear eV eW eX eY eZ
  try clear dO dP dQ dR dS
  try clear dZ eA eB eC eD
  try clear fA fB fC fD fE
  obtain ⟨kq, bI, bJ, aA, HA, HJ2, aH, aI, HI0, HK, HB⟩ := hcut; cases kq with
  | zero => exact absurd HA.out (by simp [spec_l5DrawRight.j0])
  | succ pI =>
   have H := HA.out; clear HA; simp only [spec_l5DrawRight.j0] at H; by_cases hZ : (wrap64 (1 + aX)) = 3
   ·rw [if_pos hZ] at H; obtain ⟨iA, iB⟩ := bT hZ; clear hZ; replace H := oB H; obtain ⟨⟨cO, mX, mY⟩, iC, H⟩ := H; (try dsimp only at H); have pJ := aM iC; clear iC
    simp only [Option.some.injEq, Prod.mk.injEq] at H; obtain ⟨rfl, rfl, rfl, rfl, rfl, rfl, rfl⟩ := H; have nT := aZ.out; have nU := aY.out; have nV := aQ.out; have nW := bH.out; obtain ⟨iR, iS, iU, iV, iW, iX, iY, iZ, jA, jB⟩ := xf5 (w := wc) aI; go_wp2_with (first | ((with_reducible refine gC 31 rfl ?_); refine goesLY (some 20) rfl Try.func31 #[.pointer (some ⟨g, 0, none⟩), .int .i64 3] ?_; (with_reducible refine (spec_l1Below.calls g s0_0 bI bJ 3 cO mX mY w0 _ ?side1 ?side2 pJ.out).mono ?_); (case side1 => exact IsS99.s); (case side2 => exact IsS99.B); rintro e mZ ⟨rfl, hi, hb, hk⟩; refine ⟨_, rfl, ?_⟩; replace aH := kb aH aV hk; replace aI := kb aI aQ hk; replace HK := xhk HK hk; replace HB := aM (hb); replace HI0 := aM (hi); (try clear hb hk hi); obtain ⟨jC, jD, jE, jF, jG, jH, jI, jJ, jK, jL⟩ := xf5 (w := mZ) aI; have nX := aV.out; have nY := bV.out; obtain ⟨jM, jN, jO, jP, jQ, jR, jS, jT, jU, jV⟩ := xf5 (w := mZ) aH) | ((with_reducible refine gate_store (t := 34) (p := 2) rfl ?_); refine store_event (t := 34) (p := 2) (v := ?vo_w27) (w1 := ((((((mZ.setCell ⟨aK, 2, none⟩ (.int .i64 cO)).setCell ⟨aD, 0, none⟩ (.int .i64 (wrap64 (1 + aX)))).setCell ⟨aD, 1, none⟩ (.int .i64 aA)).setCell ⟨aD, 2, none⟩ (.int .i64 cO)).setCell ⟨aD, 3, none⟩ (.int .i64 0)).setCell ⟨aD, 4, none⟩ (.string (⟨#[]⟩ : ByteArray)))) ?hg ?ho ?hn ?hr ?_; (case ho | hg | hn => rfl); (case hr => exact u6_1); intro nZ hw; replace aH : Aside0 (nZ.heap[aD]? = some (.cells #[.int .i64 (wrap64 (1 + aX)), .int .i64 aA, .int .i64 cO, .int .i64 0, .string (⟨#[]⟩ : ByteArray)] 34 (0, 0))) := xwp hw; replace aI : Aside0 (nZ.heap[aK]? = some (.cells #[.int .i64 (wrap64 (1 + aX)), .int .i64 aA, .int .i64 cO, .int .i64 0, .string (⟨#[]⟩ : ByteArray)] 34 (0, 0))) := xwp hw; replace HK := xwk hw HK; replace HB := IsS99.Bw hw HB; replace HI0 := IsS99.sw hw HI0; clear hw))
    refine bodyPost_ret (results_cell_row rfl _ _ aD 34 #[.int .i64 (wrap64 (1 + aX)), .int .i64 aA, .int .i64 cO, .int .i64 0, .string (⟨#[]⟩ : ByteArray)] (0, 0) _ rfl xblk Try.underlying34 rfl (by kernel_rfl)) rfl ?_; exact ⟨xerr, IsS99.s, IsS99.B, xK⟩
   ·rw [if_neg hZ] at H; obtain ⟨iA, iB⟩ := bF hZ; by_cases iD : (wrap64 (1 + aX)) = 2
    ·rw [if_pos iD] at H; obtain ⟨iE, iF⟩ := bT iD; clear iD; replace H := oB H; obtain ⟨⟨cP, iG, iH⟩, iI, H⟩ := H; (try dsimp only at H); have iK := aM iI; clear iI; replace H := oB H
     obtain ⟨⟨cQ, nA, nB⟩, iJ, H⟩ := H; (try dsimp only at H); have iQ := aM iJ; clear iJ
     simp only [Option.some.injEq, Prod.mk.injEq] at H; obtain ⟨rfl, rfl, rfl, rfl, rfl, rfl, rfl⟩ := H; have oA := aZ.out; have oC := aY.out; have oD := aQ.out; have oE := bH.out; obtain ⟨jW, jX, jY, jZ, kA, kB, kC, kE, kF, kG⟩ := xf5 (w := wc) aI; go_wp2_with (first | ((with_reducible refine gC 31 rfl ?_); refine goesLY (some 25) rfl Try.func31 #[.pointer (some ⟨g, 0, none⟩), .int .i64 40] ?_; (with_reducible refine (spec_l1Below.calls g s0_0 bI bJ 40 cP iG iH w0 _ ?side1 ?side2 iK.out).mono ?_); (case side1 => exact IsS99.s); (case side2 => exact IsS99.B); rintro e pK ⟨rfl, hi, hb, hk⟩; refine ⟨_, rfl, ?_⟩; replace aH := kb aH aV hk; replace aI := kb aI aQ hk; replace HK := xhk HK hk; replace HB := aM (hb); replace HI0 := aM (hi); (try clear hb hk hi); obtain ⟨kH, kI, kJ, kK, kL, kM, kN, kO, kP, kQ⟩ := xf5 (w := pK) aI) | ((with_reducible refine gC 89 rfl ?_); refine goesLY (some 28) rfl Try.func89 #[.pointer (some ⟨g, 0, none⟩)] ?_; (with_reducible refine (spec_l5DrawDigest.calls pI g s0_0 iG iH cQ nA nB w0 _ ?side1 ?side2 iQ.out).mono ?_); (case side1 => exact IsS99.s); (case side2 => exact IsS99.B); rintro e nC ⟨rfl, hi, hb, hk⟩; refine ⟨_, rfl, ?_⟩; replace aH := kb aH aV hk; replace aI := aM (KeepBut.blk hk (g' := aK) (o := .cells #[.int .i64 (wrap64 (1 + aX)), .int .i64 aA, .int .i64 0, .int .i64 cP, .string (⟨#[]⟩ : ByteArray)] 34 (0, 0)) xP aQ.out (by simp)); replace HK := xhk HK hk; replace HB := aM (hb); replace HI0 := aM (hi); (try clear hb hk hi); obtain ⟨kR, kS, kT, kU, kV, kW, kX, kY, kZ, lA⟩ := xf5 (w := nC) aI; have oF := aV.out; have oG := bV.out; obtain ⟨lB, lC, lE, lF, lG, lH, lI, lJ, lK, lL⟩ := xf5 (w := nC) aH) | ((with_reducible refine gate_store (t := 34) (p := 2) rfl ?_); refine store_event (t := 34) (p := 2) (v := ?vo_w40) (w1 := ((((((nC.setCell ⟨aK, 4, none⟩ (.string cQ)).setCell ⟨aD, 0, none⟩ (.int .i64 (wrap64 (1 + aX)))).setCell ⟨aD, 1, none⟩ (.int .i64 aA)).setCell ⟨aD, 2, none⟩ (.int .i64 0)).setCell ⟨aD, 3, none⟩ (.int .i64 cP)).setCell ⟨aD, 4, none⟩ (.string cQ))) ?hg ?ho ?hn ?hr ?_; (case ho | hg | hn => rfl); (case hr => exact u6_1); intro oH hw; replace aH : Aside0 (oH.heap[aD]? = some (.cells #[.int .i64 (wrap64 (1 + aX)), .int .i64 aA, .int .i64 0, .int .i64 cP, .string cQ] 34 (0, 0))) := xwp hw; replace aI : Aside0 (oH.heap[aK]? = some (.cells #[.int .i64 (wrap64 (1 + aX)), .int .i64 aA, .int .i64 0, .int .i64 cP, .string cQ] 34 (0, 0))) := xwp hw; replace HK := xwk hw HK; replace HB := IsS99.Bw hw HB; replace HI0 := IsS99.sw hw HI0; clear hw))
     refine bodyPost_ret (results_cell_row rfl _ _ aD 34 #[.int .i64 (wrap64 (1 + aX)), .int .i64 aA, .int .i64 0, .int .i64 cP, .string cQ] (0, 0) _ rfl xblk Try.underlying34 rfl (by kernel_rfl)) rfl ?_; exact ⟨xerr, IsS99.s, IsS99.B, xK⟩
    ·rw [if_neg iD] at H; obtain ⟨iE, iF⟩ := bF iD; simp only [Option.some.injEq, Prod.mk.injEq] at H; obtain ⟨rfl, rfl, rfl, rfl, rfl, rfl, rfl⟩ := H; have oI := aZ.out; have oJ := aY.out; have oK := aQ.out; have oL := bH.out; obtain ⟨lM, lN, lO, lP, lQ, lR, lS, lT, lU, lV⟩ := xf5 (w := wc) aI; have oM := aV.out; have oO := bV.out; obtain ⟨lW, lX, lY, lZ, mA, mB, mC, mD, mE, mF⟩ := xf5 (w := wc) aH; go_wp2_with (first | ((with_reducible refine gate_store (t := 34) (p := 2) rfl ?_); refine store_event (t := 34) (p := 2) (v := ?vo_w46) (w1 := (((((wc.setCell ⟨aD, 0, none⟩ (.int .i64 (wrap64 (1 + aX)))).setCell ⟨aD, 1, none⟩ (.int .i64 aA)).setCell ⟨aD, 2, none⟩ (.int .i64 0)).setCell ⟨aD, 3, none⟩ (.int .i64 0)).setCell ⟨aD, 4, none⟩ (.string (⟨#[]⟩ : ByteArray)))) ?hg ?ho ?hn ?hr ?_; (case ho | hg | hn => rfl); (case hr => exact u6_1); intro pL hw; replace aH : Aside0 (pL.heap[aD]? = some (.cells #[.int .i64 (wrap64 (1 + aX)), .int .i64 aA, .int .i64 0, .int .i64 0, .string (⟨#[]⟩ : ByteArray)] 34 (0, 0))) := xwp hw; replace aI := xwc hw aI; replace HK := xwk hw HK; replace HB := IsS99.Bw hw HB; replace HI0 := IsS99.sw hw HI0; clear hw))
     refine bodyPost_ret (results_cell_row rfl _ _ aD 34 #[.int .i64 (wrap64 (1 + aX)), .int .i64 aA, .int .i64 0, .int .i64 0, .string (⟨#[]⟩ : ByteArray)] (0, 0) _ rfl xblk Try.underlying34 rfl (by kernel_rfl)) rfl ?_; exact ⟨xerr, IsS99.s, IsS99.B, xK⟩

end Go.Proofs.Ytocpomkfilpflaa.QFnRec
