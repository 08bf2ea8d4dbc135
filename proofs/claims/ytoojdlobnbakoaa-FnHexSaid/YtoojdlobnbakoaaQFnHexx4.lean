-- A walk, by a program of this session.
import Derived.Test.YtoojdlobnbakoaaQFnHexx0
import Derived.Test.YtoojdlobnbakoaaQFnHexx3
namespace Go.Proofs.Ytoojdlobnbakoaa.QFnHex
open Go.RowKit Go.Proofs.YtoojdlobnbakoaaW.PrintWords Go.Proofs.YtoojdlobnbakoaaW.PrintLast Go.Proofs.YtoojdlobnbakoaaW.PrintMore
attribute [local go_sem] max2_int min2_int max_two min_two max_three min_three max_four min_four   -- for this text's walks alone
set_option linter.unusedVariables false
set_option linter.unusedSimpArgs false

theorem u4_0 {p : Prop} (h : p := by first | (go_simp; done) | (go_simp; rfl)) : p := h
theorem u4_1 {p : Prop} (h : p := by first | (rw [hY]; with_reducible exact H) | (have H2_ := oS H; rw [hY]; with_reducible exact H2_) | (have H2_ := oS H; with_reducible exact H2_) | with_reducible exact H | (rw [hY]; exact H) | exact H) : p := h
theorem u4_2 {p : Prop} (h : p := by first | rfl | (simp; done) | (simp [*]; done)) : p := h
theorem u4_3 {p : Prop} (h : p := by (with_reducible repeat (first | apply Kd.R_alloc | apply Kd.R_drewN | apply Kd.R_drew)); exact aE.out) : p := h
theorem u4_4 {p : Prop} (h : p := by (with_reducible repeat (first | apply Kd.R_alloc | apply Kd.R_drewN | apply Kd.R_drew)); exact aV.out) : p := h
theorem u4_5 {p : Prop} (h : p := by first | rfl | (simp [errW_none, errW_some] <;> rfl) | (simp only [← hji11]; first | rfl | (simp [errW_none, errW_some] <;> rfl)) | (simp [*, errW_none, errW_some] <;> rfl)) : p := h
/-! ### spec_FromHex: function 44 -/
mutual
def spec_FromHex.j0 : Nat → ByteArray → List Int → Bool → Option (List Int × Bool)
 | 0, _, _, _ => none
 | k + 1, x0, x4, cC => if cC = true then (some (x4, false)) else (spec_FromHex.l0 k x0 x4 0)
def spec_FromHex.l0 : Nat → ByteArray → List Int → Int → Option (List Int × Bool)
 | 0, _, _, _ => none
 | k + 1, x0, x4, x5 => if x5 < (x0.size : Int) then (if 0 ≤ x5 then ((spec_l2Value.f k (bt x0 x5)).bind fun aD => (if 0 ≤ (wrap64 (x5 + 1)) then (if (wrap64 (x5 + 1)) < (x0.size : Int) then ((spec_l2Value.f k (bt x0 (wrap64 (x5 + 1)))).bind fun aC => (if aD < 0 then (some ((([] : List Int)), false)) else (if aC < 0 then (some ((([] : List Int)), false)) else (if x4.length < 140737488355328 then (spec_FromHex.l0 k x0 (x4 ++ [(wrap64 ((wrap64 (16 * aD)) + aC)) % 256]) (wrap64 (x5 + 2))) else (none))))) else (none)) else (none))) else (none)) else (some (x4, true))
end
def spec_FromHex.f (k : Nat) (a0 : ByteArray) : Option (List Int × Bool) := (some (([] : List Int) : List Int)).bind fun aI => (if ((a0.size : Int) % 2) = 1 then (spec_FromHex.j0 k a0 aI true) else (spec_FromHex.j0 k a0 aI (decide ((a0.size : Int) > 8000))))
theorem u4_mq0 {p : Prop} (h : p := by repeat' first | (with_reducible first | exact bW _ _ _ | exact bX _ _ _ | exact spec_l2Value.mono _ _ | exact LeO.refl _ | exact LeO.none _ | refine LeO.ite ?_ ?_ | refine LeO.bind ?_ (fun _ => ?_)) | exact LeO.none _ | refine LeO.ite ?_ ?_ | refine LeO.bind ?_ (fun _ => ?_)) : p := h
set_option maxRecDepth 100000 in
theorem spec_FromHex.mono_l : ∀ k, (∀ y0 y1 y2, LeO (spec_FromHex.j0 k y0 y1 y2) (spec_FromHex.j0 (k + 1) y0 y1 y2)) ∧ (∀ y0 y1 y2, LeO (spec_FromHex.l0 k y0 y1 y2) (spec_FromHex.l0 (k + 1) y0 y1 y2))
 | 0 => ⟨fun _ _ _ r h => by simp [spec_FromHex.j0] at h, fun _ _ _ r h => by simp [spec_FromHex.l0] at h⟩
 | k + 1 => by
  obtain ⟨bW, bX⟩ := spec_FromHex.mono_l k; refine ⟨?_, ?_⟩
  ·intro y0 y1 y2; unfold spec_FromHex.j0; exact u4_mq0
  ·intro y0 y1 y2; unfold spec_FromHex.l0; exact u4_mq0
theorem spec_FromHex.mono : ∀ a0 k, LeO (spec_FromHex.f k a0) (spec_FromHex.f (k + 1) a0) := by
 intro a0 k
 obtain ⟨bW, bX⟩ := spec_FromHex.mono_l k
 unfold spec_FromHex.f
 exact u4_mq0
set_option maxHeartbeats 8000000 in
set_option maxRecDepth 100000 in
theorem spec_FromHex.calls (k : Nat) (a0 : ByteArray) (r1 : List Int) (r2 : Bool) (w : World) (h : spec_FromHex.f k a0 = some (r1, r2)) :
 Calls Try.prog 44 #[.string a0] w fun e w' => ∃ v0_ : Value, e = .returned (.tuple #[v0_, .bool r2]) ∧ Kd.R (Kd.int .u8) 5 w' w.heap.size (fun _ => True) v0_ r1 ∧ Below w.heap.size w w' := by
 have HB := aM (Below.refl w.heap.size w)
 have H : ((some (([] : List Int) : List Int)).bind fun aI => (if ((a0.size : Int) % 2) = 1 then (spec_FromHex.j0 k a0 aI true) else (spec_FromHex.j0 k a0 aI (decide ((a0.size : Int) > 8000))))) = some (r1, r2) := h
 clear h
 obtain ⟨aI, hY⟩ : ∃ y_ : List Int, y_ = (([] : List Int)) := ⟨_, rfl⟩
 replace H : (if ((a0.size : Int) % 2) = 1 then (spec_FromHex.j0 k a0 aI true) else (spec_FromHex.j0 k a0 aI (decide ((a0.size : Int) > 8000)))) = some (r1, r2) := u4_1
 have aJ := aM hY
 clear hY
 have bQ := aM H
 clear H
 go_enter Try.func44, Try.ntmps44
 go_upto_region 2 with (first | ((with_reducible refine gD 8 rfl ?_); (try (refine gate_guard (by rfl) ?_; dsimp only)); refine Kd.R_lit (Kd.int .u8) _ 5 ?hg (N := 8) ?hd (xs := ([] : List Int)) (inner := []) (ok := fun _ => True) (okp := fun _ => True) ?hr ?hp (fun _ hk => hk) trivial (Below.refl _ _) (Nat.le_refl _) (by simp) ?_; (case hd => rfl); (case hg => rfl); (case hr => exact u4_0); (case hp => exact (Reps.none _ _)); intro v243 w3 aN hb hg_ hnew_; clear hg_ hnew_; (first | rw [← aJ.out] at aN | (simp only [Int.reduceToNat] at aN; rw [← aJ.out] at aN)); have aV := aM (Kd.R_lower aN (below_size xbel)); replace HB := xbs hb; clear hb aN))
 repeat (go_quiet (first | ((with_reducible refine gD 8 rfl ?_); (try (refine gate_guard (by rfl) ?_; dsimp only)); refine Kd.R_lit (Kd.int .u8) _ 5 ?hg (N := 8) ?hd (xs := ([] : List Int)) (inner := []) (ok := fun _ => True) (okp := fun _ => True) ?hr ?hp (fun _ hk => hk) trivial (Below.refl _ _) (Nat.le_refl _) (by simp) ?_; (case hd => rfl); (case hg => rfl); (case hr => exact u4_0); (case hp => exact (Reps.none _ _)); intro v243 w3 aN hb hg_ hnew_; clear hg_ hnew_; (first | rw [← aJ.out] at aN | (simp only [Int.reduceToNat] at aN; rw [← aJ.out] at aN)); have aV := aM (Kd.R_lower aN (below_size xbel)); replace HB := xbs hb; clear hb aN)); go_upto_region 2 with (first | ((with_reducible refine gD 8 rfl ?_); (try (refine gate_guard (by rfl) ?_; dsimp only)); refine Kd.R_lit (Kd.int .u8) _ 5 ?hg (N := 8) ?hd (xs := ([] : List Int)) (inner := []) (ok := fun _ => True) (okp := fun _ => True) ?hr ?hp (fun _ hk => hk) trivial (Below.refl _ _) (Nat.le_refl _) (by simp) ?_; (case hd => rfl); (case hg => rfl); (case hr => exact u4_0); (case hp => exact (Reps.none _ _)); intro v243 w3 aN hb hg_ hnew_; clear hg_ hnew_; (first | rw [← aJ.out] at aN | (simp only [Int.reduceToNat] at aN; rw [← aJ.out] at aN)); have aV := aM (Kd.R_lower aN (below_size xbel)); replace HB := xbs hb; clear hb aN)))
 (try simp only [Act.put, List.setIfInBounds_toArray, List.set_cons_zero, List.set_cons_succ])
 go_cut [17] (fun v17 wc => ∃ (kq : Nat) (aR : Bool), v17 = .bool aR ∧ Aside0 (spec_FromHex.j0 kq a0 aI aR = some (r1, r2)) ∧ Aside0 (kq ≤ k) ∧ Aside0 (Kd.R (Kd.int .u8) 5 wc w.heap.size (fun _ => True) v243 aI) ∧ Aside0 (Below w.heap.size w wc))
 case first =>
  have H := bQ.out; clear bQ; by_cases c5 : ((a0.size : Int) % 2) = 1
  ·rw [if_pos c5] at H; obtain ⟨aQ, bB⟩ := bT c5; clear c5; (first | rw [aQ] | (simp only [i64_w, i32_w]; rw [aQ]) | skip); have H' := aM H; clear H; go_wp2
   repeat (go_quiet (fail); try go_wp2)
   go_meet
   case rel => exact ⟨_, (true), u4_2, H', ⟨by first | omega | exact Nat.le_refl _⟩, ⟨u4_4⟩, ⟨xbel⟩⟩
  ·rw [if_neg c5] at H; obtain ⟨aQ, bB⟩ := bF c5; (first | rw [aQ] | (simp only [i64_w, i32_w]; rw [aQ]) | skip); have H' := aM H; clear H; go_wp2
   repeat (go_quiet (fail); try go_wp2)
   go_meet
   case rel => exact ⟨_, (decide ((a0.size : Int) > 8000)), u4_2, H', ⟨by first | omega | exact Nat.le_refl _⟩, ⟨u4_4⟩, ⟨xbel⟩⟩
 case rest =>
  clear bQ; try clear p2
  try clear c4
  try clear c5
  try clear aQ
  try clear bB
  obtain ⟨kq, aR, rfl, HA, HJ1, aE, HB⟩ := hcut; cases kq with
  | zero => exact absurd HA.out (by simp [spec_FromHex.j0])
  | succ bY =>
   have H := HA.out; clear HA; simp only [spec_FromHex.j0] at H; by_cases c6 : aR = true
   ·subst c6; replace H := iT H; simp only [Option.some.injEq, Prod.mk.injEq] at H; obtain ⟨rfl, rfl⟩ := H; go_wp2
    repeat (go_quiet (fail); try go_wp2)
    go_ret2
    exact ⟨_, by first | rfl | (simp [errW_none, errW_some] <;> rfl) | (simp [*, errW_none, errW_some] <;> rfl), u4_3, xbel⟩
   ·replace c6 := Bool.eq_false_iff.mpr c6; subst c6; replace H := iN H; have H' := aM H; clear H; go_wp2
    repeat (go_quiet (fail); try go_wp2)
    go_loopg [4, 5] bY (fun kq v4 v5 w' => ∃ (aK : List Int) (aA : Int), v5 = .int .i64 aA ∧ Aside0 (spec_FromHex.l0 kq a0 aK aA = some (r1, r2)) ∧ Aside0 (kq ≤ bY) ∧ Aside0 (Kd.R (Kd.int .u8) 5 w' w.heap.size (fun _ => True) v4 aK) ∧ Aside0 (Below w.heap.size w w'))
    case atStart => exact ⟨(aI), (0), u4_2, H', ⟨Nat.le_refl _⟩, ⟨u4_3⟩, ⟨xbel⟩⟩
    case round =>
     clear H'; try clear p2
     try clear c4
     try clear c5
     try clear aQ
     try clear bB
     try clear c6
     try clear p2
     obtain ⟨aK, aA, rfl, HA, HK2, aE, HB⟩ := hrel; cases gk with
     | zero => exact absurd HA.out (by simp [spec_FromHex.l0])
     | succ k2 =>
      have H := HA.out; clear HA; simp only [spec_FromHex.l0] at H; by_cases c7 : aA < (a0.size : Int)
      ·rw [if_pos c7] at H; have bR : decide (aA < (a0.size : Int)) = true := decide_eq_true c7; clear c7; by_cases c8 : 0 ≤ aA
       ·rw [if_pos c8] at H; have cD : decide (0 ≤ aA) = true := decide_eq_true c8; clear c8; replace H := oB H; obtain ⟨aD, bI, H⟩ := H; (try dsimp only at H); have bC := aM bI; clear bI
        obtain ⟨ji11, hji11⟩ : ∃ j_ : Int, (wrap64 (aA + 1)) = j_ := ⟨_, rfl⟩; replace H : (if 0 ≤ (ji11) then (if (ji11) < (a0.size : Int) then ((spec_l2Value.f k2 (bt a0 (ji11))).bind fun aC => (if aD < 0 then (some ((([] : List Int)), false)) else (if aC < 0 then (some ((([] : List Int)), false)) else (if aK.length < 140737488355328 then (spec_FromHex.l0 k2 a0 (aK ++ [(wrap64 ((wrap64 (16 * aD)) + aC)) % 256]) (wrap64 (aA + 2))) else (none))))) else (none)) else (none)) = some (r1, r2) := by first | (rw [hji11] at H; exact H) | (simp only [hji11] at H ⊢; exact H)
        (try rw [hji11] at bC); have hji11w : (IntKind.i64.wrap (aA + 1)) = ji11 := (i64_w _).trans hji11; by_cases bN : 0 ≤ (ji11)
        ·rw [if_pos bN] at H; have bZ : decide (0 ≤ (ji11)) = true := decide_eq_true bN; clear bN; by_cases bO : (ji11) < (a0.size : Int)
         ·rw [if_pos bO] at H; have cA : decide ((ji11) < (a0.size : Int)) = true := decide_eq_true bO; clear bO; replace H := oB H; obtain ⟨aC, bJ, H⟩ := H; (try dsimp only at H); have bE := aM bJ; clear bJ
          by_cases bG : aD < 0
          ·rw [if_pos bG] at H; have bK : decide (aD < 0) = true := decide_eq_true bG; clear bG; obtain ⟨bU, hY⟩ : ∃ y_ : List Int, y_ = (([] : List Int)) := ⟨_, rfl⟩; replace H : (some (bU, false)) = some (r1, r2) := u4_1; have aT := aM hY; clear hY; simp only [Option.some.injEq, Prod.mk.injEq] at H; obtain ⟨rfl, rfl⟩ := H; have p9 : 0 ≤ (aA : Int) := oda; have q9 : aA < (a0.size : Int) := oda; have cB := bt_at a0 aA; replace p9 := eq_true p9; replace q9 := eq_true q9
           iterate 6 ((try go_quiet (first | (go_at_call 109; (with_reducible refine (spec_l2Value.calls k2 (bt a0 aA) aD _ bC.out).mono ?_); rintro e w' ⟨rfl, ⟨nd, rfl⟩⟩; (try first | exact ⟨rfl, _, World.drewN_drewN _ _ _⟩ | exact ⟨rfl, _, Eq.trans (World.drewN_drewN _ _ _) (congrArg (World.drewN _) (Nat.add_assoc _ _ _))⟩); have p14 : 0 ≤ ((ji11) : Int) := oda; have q14 : (ji11) < (a0.size : Int) := oda; have aW := bt_at a0 (ji11); replace p14 := eq_true p14; replace q14 := eq_true q14) | (go_at_call 109; (with_reducible refine (spec_l2Value.calls k2 (bt a0 (ji11)) aC _ bE.out).mono ?_); rintro e w' ⟨rfl, ⟨nd, rfl⟩⟩; (try first | exact ⟨rfl, _, World.drewN_drewN _ _ _⟩ | exact ⟨rfl, _, Eq.trans (World.drewN_drewN _ _ _) (congrArg (World.drewN _) (Nat.add_assoc _ _ _))⟩)) | ((with_reducible refine gD 40 rfl ?_); (try (refine gate_guard (by rfl) ?_; dsimp only)); refine Kd.R_lit (Kd.int .u8) _ 5 ?hg (N := 40) ?hd (xs := ([] : List Int)) (inner := []) (ok := fun _ => True) (okp := fun _ => True) ?hr ?hp (fun _ hk => hk) trivial (Below.refl _ _) (Nat.le_refl _) (by simp) ?_; (case hd => rfl); (case hg => rfl); (case hr => exact u4_0); (case hp => exact (Reps.none _ _)); intro v248 cE aG hb hg_ hnew_; clear hg_ hnew_; (first | rw [← aT.out] at aG | (simp only [Int.reduceToNat] at aG; rw [← aT.out] at aG)); have aX := aM (Kd.R_lower (Kd.R_new' aG (Kd.R_lt (xr aE))) (below_size xbel)); replace aE := aM (Kd.R_elder' (xr aE) (Kd.R_base aG) hb); replace HB := xbs hb; clear hb aG))); (try go_wp2_with (first | (go_at_call 109; (with_reducible refine (spec_l2Value.calls k2 (bt a0 aA) aD _ bC.out).mono ?_); rintro e w' ⟨rfl, ⟨nd, rfl⟩⟩; (try first | exact ⟨rfl, _, World.drewN_drewN _ _ _⟩ | exact ⟨rfl, _, Eq.trans (World.drewN_drewN _ _ _) (congrArg (World.drewN _) (Nat.add_assoc _ _ _))⟩); have p14 : 0 ≤ ((ji11) : Int) := oda; have q14 : (ji11) < (a0.size : Int) := oda; have aW := bt_at a0 (ji11); replace p14 := eq_true p14; replace q14 := eq_true q14) | (go_at_call 109; (with_reducible refine (spec_l2Value.calls k2 (bt a0 (ji11)) aC _ bE.out).mono ?_); rintro e w' ⟨rfl, ⟨nd, rfl⟩⟩; (try first | exact ⟨rfl, _, World.drewN_drewN _ _ _⟩ | exact ⟨rfl, _, Eq.trans (World.drewN_drewN _ _ _) (congrArg (World.drewN _) (Nat.add_assoc _ _ _))⟩)) | ((with_reducible refine gD 40 rfl ?_); (try (refine gate_guard (by rfl) ?_; dsimp only)); refine Kd.R_lit (Kd.int .u8) _ 5 ?hg (N := 40) ?hd (xs := ([] : List Int)) (inner := []) (ok := fun _ => True) (okp := fun _ => True) ?hr ?hp (fun _ hk => hk) trivial (Below.refl _ _) (Nat.le_refl _) (by simp) ?_; (case hd => rfl); (case hg => rfl); (case hr => exact u4_0); (case hp => exact (Reps.none _ _)); intro v248 cE aG hb hg_ hnew_; clear hg_ hnew_; (first | rw [← aT.out] at aG | (simp only [Int.reduceToNat] at aG; rw [← aT.out] at aG)); have aX := aM (Kd.R_lower (Kd.R_new' aG (Kd.R_lt (xr aE))) (below_size xbel)); replace aE := aM (Kd.R_elder' (xr aE) (Kd.R_base aG) hb); replace HB := xbs hb; clear hb aG))))
           go_ret2
           exact ⟨_, u4_5, by (with_reducible repeat (first | apply Kd.R_alloc | apply Kd.R_drewN | apply Kd.R_drew)); exact Kd.R_mono aX.out (fun _ hk => trivial), xbel⟩
          ·rw [if_neg bG] at H; have bK : decide (aD < 0) = false := decide_eq_false bG; clear bG; by_cases bH : aC < 0
           ·rw [if_pos bH] at H; have bL : decide (aC < 0) = true := decide_eq_true bH; clear bH; obtain ⟨bV, hY⟩ : ∃ y_ : List Int, y_ = (([] : List Int)) := ⟨_, rfl⟩; replace H : (some (bV, false)) = some (r1, r2) := u4_1; have aU := aM hY; clear hY; simp only [Option.some.injEq, Prod.mk.injEq] at H; obtain ⟨rfl, rfl⟩ := H; have p9 : 0 ≤ (aA : Int) := oda; have q9 : aA < (a0.size : Int) := oda; have cB := bt_at a0 aA; replace p9 := eq_true p9; replace q9 := eq_true q9
            iterate 6 ((try go_quiet (first | (go_at_call 109; (with_reducible refine (spec_l2Value.calls k2 (bt a0 aA) aD _ bC.out).mono ?_); rintro e w' ⟨rfl, ⟨nd, rfl⟩⟩; (try first | exact ⟨rfl, _, World.drewN_drewN _ _ _⟩ | exact ⟨rfl, _, Eq.trans (World.drewN_drewN _ _ _) (congrArg (World.drewN _) (Nat.add_assoc _ _ _))⟩); have p14 : 0 ≤ ((ji11) : Int) := oda; have q14 : (ji11) < (a0.size : Int) := oda; have aW := bt_at a0 (ji11); replace p14 := eq_true p14; replace q14 := eq_true q14) | (go_at_call 109; (with_reducible refine (spec_l2Value.calls k2 (bt a0 (ji11)) aC _ bE.out).mono ?_); rintro e w' ⟨rfl, ⟨nd, rfl⟩⟩; (try first | exact ⟨rfl, _, World.drewN_drewN _ _ _⟩ | exact ⟨rfl, _, Eq.trans (World.drewN_drewN _ _ _) (congrArg (World.drewN _) (Nat.add_assoc _ _ _))⟩)) | ((with_reducible refine gD 40 rfl ?_); (try (refine gate_guard (by rfl) ?_; dsimp only)); refine Kd.R_lit (Kd.int .u8) _ 5 ?hg (N := 40) ?hd (xs := ([] : List Int)) (inner := []) (ok := fun _ => True) (okp := fun _ => True) ?hr ?hp (fun _ hk => hk) trivial (Below.refl _ _) (Nat.le_refl _) (by simp) ?_; (case hd => rfl); (case hg => rfl); (case hr => exact u4_0); (case hp => exact (Reps.none _ _)); intro v251 cF aH hb hg_ hnew_; clear hg_ hnew_; (first | rw [← aU.out] at aH | (simp only [Int.reduceToNat] at aH; rw [← aU.out] at aH)); have aY := aM (Kd.R_lower (Kd.R_new' aH (Kd.R_lt (xr aE))) (below_size xbel)); replace aE := aM (Kd.R_elder' (xr aE) (Kd.R_base aH) hb); replace HB := xbs hb; clear hb aH))); (try go_wp2_with (first | (go_at_call 109; (with_reducible refine (spec_l2Value.calls k2 (bt a0 aA) aD _ bC.out).mono ?_); rintro e w' ⟨rfl, ⟨nd, rfl⟩⟩; (try first | exact ⟨rfl, _, World.drewN_drewN _ _ _⟩ | exact ⟨rfl, _, Eq.trans (World.drewN_drewN _ _ _) (congrArg (World.drewN _) (Nat.add_assoc _ _ _))⟩); have p14 : 0 ≤ ((ji11) : Int) := oda; have q14 : (ji11) < (a0.size : Int) := oda; have aW := bt_at a0 (ji11); replace p14 := eq_true p14; replace q14 := eq_true q14) | (go_at_call 109; (with_reducible refine (spec_l2Value.calls k2 (bt a0 (ji11)) aC _ bE.out).mono ?_); rintro e w' ⟨rfl, ⟨nd, rfl⟩⟩; (try first | exact ⟨rfl, _, World.drewN_drewN _ _ _⟩ | exact ⟨rfl, _, Eq.trans (World.drewN_drewN _ _ _) (congrArg (World.drewN _) (Nat.add_assoc _ _ _))⟩)) | ((with_reducible refine gD 40 rfl ?_); (try (refine gate_guard (by rfl) ?_; dsimp only)); refine Kd.R_lit (Kd.int .u8) _ 5 ?hg (N := 40) ?hd (xs := ([] : List Int)) (inner := []) (ok := fun _ => True) (okp := fun _ => True) ?hr ?hp (fun _ hk => hk) trivial (Below.refl _ _) (Nat.le_refl _) (by simp) ?_; (case hd => rfl); (case hg => rfl); (case hr => exact u4_0); (case hp => exact (Reps.none _ _)); intro v251 cF aH hb hg_ hnew_; clear hg_ hnew_; (first | rw [← aU.out] at aH | (simp only [Int.reduceToNat] at aH; rw [← aU.out] at aH)); have aY := aM (Kd.R_lower (Kd.R_new' aH (Kd.R_lt (xr aE))) (below_size xbel)); replace aE := aM (Kd.R_elder' (xr aE) (Kd.R_base aH) hb); replace HB := xbs hb; clear hb aH))))
            go_ret2
            exact ⟨_, u4_5, by (with_reducible repeat (first | apply Kd.R_alloc | apply Kd.R_drewN | apply Kd.R_drew)); exact Kd.R_mono aY.out (fun _ hk => trivial), xbel⟩
           ·rw [if_neg bH] at H; have bL : decide (aC < 0) = false := decide_eq_false bH; clear bH; by_cases bP : aK.length < 140737488355328
            ·rw [if_pos bP] at H; have LMc22 := aM bP; clear bP; obtain ⟨bM, hY⟩ : ∃ y_ : List Int, y_ = (aK ++ [(wrap64 ((wrap64 (16 * aD)) + aC)) % 256]) := ⟨_, rfl⟩; replace H : (spec_FromHex.l0 k2 a0 bM (wrap64 (aA + 2))) = some (r1, r2) := u4_1; have aZ := aM hY; clear hY; have H' := aM H; clear H; have p9 : 0 ≤ (aA : Int) := oda; have q9 : aA < (a0.size : Int) := oda; have cB := bt_at a0 aA; replace p9 := eq_true p9; replace q9 := eq_true q9
             iterate 6 ((try go_quiet (first | (go_at_call 109; (with_reducible refine (spec_l2Value.calls k2 (bt a0 aA) aD _ bC.out).mono ?_); rintro e w' ⟨rfl, ⟨nd, rfl⟩⟩; (try first | exact ⟨rfl, _, World.drewN_drewN _ _ _⟩ | exact ⟨rfl, _, Eq.trans (World.drewN_drewN _ _ _) (congrArg (World.drewN _) (Nat.add_assoc _ _ _))⟩); have p14 : 0 ≤ ((ji11) : Int) := oda; have q14 : (ji11) < (a0.size : Int) := oda; have aW := bt_at a0 (ji11); replace p14 := eq_true p14; replace q14 := eq_true q14) | (go_at_call 109; (with_reducible refine (spec_l2Value.calls k2 (bt a0 (ji11)) aC _ bE.out).mono ?_); rintro e w' ⟨rfl, ⟨nd, rfl⟩⟩; (try first | exact ⟨rfl, _, World.drewN_drewN _ _ _⟩ | exact ⟨rfl, _, Eq.trans (World.drewN_drewN _ _ _) (congrArg (World.drewN _) (Nat.add_assoc _ _ _))⟩)) | ((with_reducible refine gate_builtin (b := .append) (xs := #[.tmp 41, .tmp 47]) rfl ?_); (try (refine gate_guard (by rfl) ?_; dsimp only)); at_builtin; refine Kd.R_append (Kd.int .u8) (w0 := w) w.heap.size rfl (.tmp 41) (.tmp 47) 22 5 (.int .u8 0) 1 rfl Try.underlying22 info5 rfl (by decide) (by omega) u4 aK ((wrap64 ((wrap64 (16 * aD)) + aC)) % 256) [.int .u8 ((wrap64 ((wrap64 (16 * aD)) + aC)) % 256)] (fun _ => True) (fun _ => False) rfl rfl ?aP (fun _ hk => hk.elim) ?aF ?aO ?aB ?aS ?aL ?_; (case aP => exact rfl); (case aB => exact xbel); (case aF => exact (fun _ _ => trivial)); (case aO => exact (xr aE)); (case aS => exact (below_size xbel)); (case aL => have := LMc22.out; omega); intro v254 cG ho hb hg hat; rw [← aZ.out] at ho; replace HB := aM (hb); have bA := aM (ho); clear aE; clear ho hb hg hat))); (try go_wp2_with (first | (go_at_call 109; (with_reducible refine (spec_l2Value.calls k2 (bt a0 aA) aD _ bC.out).mono ?_); rintro e w' ⟨rfl, ⟨nd, rfl⟩⟩; (try first | exact ⟨rfl, _, World.drewN_drewN _ _ _⟩ | exact ⟨rfl, _, Eq.trans (World.drewN_drewN _ _ _) (congrArg (World.drewN _) (Nat.add_assoc _ _ _))⟩); have p14 : 0 ≤ ((ji11) : Int) := oda; have q14 : (ji11) < (a0.size : Int) := oda; have aW := bt_at a0 (ji11); replace p14 := eq_true p14; replace q14 := eq_true q14) | (go_at_call 109; (with_reducible refine (spec_l2Value.calls k2 (bt a0 (ji11)) aC _ bE.out).mono ?_); rintro e w' ⟨rfl, ⟨nd, rfl⟩⟩; (try first | exact ⟨rfl, _, World.drewN_drewN _ _ _⟩ | exact ⟨rfl, _, Eq.trans (World.drewN_drewN _ _ _) (congrArg (World.drewN _) (Nat.add_assoc _ _ _))⟩)) | ((with_reducible refine gate_builtin (b := .append) (xs := #[.tmp 41, .tmp 47]) rfl ?_); (try (refine gate_guard (by rfl) ?_; dsimp only)); at_builtin; refine Kd.R_append (Kd.int .u8) (w0 := w) w.heap.size rfl (.tmp 41) (.tmp 47) 22 5 (.int .u8 0) 1 rfl Try.underlying22 info5 rfl (by decide) (by omega) u4 aK ((wrap64 ((wrap64 (16 * aD)) + aC)) % 256) [.int .u8 ((wrap64 ((wrap64 (16 * aD)) + aC)) % 256)] (fun _ => True) (fun _ => False) rfl rfl ?aP (fun _ hk => hk.elim) ?aF ?aO ?aB ?aS ?aL ?_; (case aP => exact rfl); (case aB => exact xbel); (case aF => exact (fun _ _ => trivial)); (case aO => exact (xr aE)); (case aS => exact (below_size xbel)); (case aL => have := LMc22.out; omega); intro v254 cG ho hb hg hat; rw [← aZ.out] at ho; replace HB := aM (hb); have bA := aM (ho); clear aE; clear ho hb hg hat))))
             go_roundg k2
             case measure => have := HJ1.out; have := HK2.out; omega
             case rel => exact ⟨(bM), (wrap64 (aA + 2)), u4_2, H', ⟨by have := HJ1.out; have := HK2.out; omega⟩, ⟨by (with_reducible repeat (first | apply Kd.R_alloc | apply Kd.R_drewN | apply Kd.R_drew)); exact bA.out⟩, ⟨xbel⟩⟩
            ·rw [if_neg bP] at H; exact absurd H (by simp)
         ·rw [if_neg bO] at H; exact absurd H (by simp)
        ·rw [if_neg bN] at H; exact absurd H (by simp)
       ·rw [if_neg c8] at H; exact absurd H (by simp)
      ·rw [if_neg c7] at H; have bR : decide (aA < (a0.size : Int)) = false := decide_eq_false c7; clear c7; simp only [Option.some.injEq, Prod.mk.injEq] at H; obtain ⟨rfl, rfl⟩ := H; go_wp2
       repeat (go_quiet (fail); try go_wp2)
       go_ret2
       exact ⟨_, by first | rfl | (simp [errW_none, errW_some] <;> rfl) | (simp [*, errW_none, errW_some] <;> rfl), u4_3, xbel⟩

end Go.Proofs.Ytoojdlobnbakoaa.QFnHex
