-- A walk, by a program of this session.
import Derived.Test.YtoojdlobnbakoaaQFnHexx0
import Derived.Test.YtoojdlobnbakoaaQFnHexx2
namespace Go.Proofs.Ytoojdlobnbakoaa.QFnHex
open Go.RowKit Go.Proofs.YtoojdlobnbakoaaW.PrintWords Go.Proofs.YtoojdlobnbakoaaW.PrintLast Go.Proofs.YtoojdlobnbakoaaW.PrintMore
attribute [local go_sem] max2_int min2_int max_two min_two max_three min_three max_four min_four   -- for this text's walks alone
set_option linter.unusedVariables false
set_option linter.unusedSimpArgs false

theorem u3_0 {p : Prop} (h : p := by first | rfl | (simp; done) | (simp [*]; done)) : p := h
theorem u3_1 {p : Prop} (h : p := by repeat (first | (with_reducible first | exact HB.out | apply below_alloc | apply pw_below_drewN | apply below_drew1 | refine below_set ?_ (IsS157.ge HI215.out)) | exact HB.out)) : p := h
theorem u3_2 {p : Prop} (h : p := by repeat (first | (with_reducible first | exact HI215.out | apply IsS157.alloc | apply IsS157.drewN | apply IsS157.drew | apply IsS157.set_1 | apply IsS157.set_2) | exact HI215.out)) : p := h
theorem u3_3 {p : Prop} (h : p := by repeat (first | exact Drawn0.refl _ | apply Drawn0.step)) : p := h
theorem u3_4 {p : Prop} (h : p := by first | (rw [hY]; with_reducible exact H) | (have H2_ := oS H; rw [hY]; with_reducible exact H2_) | (have H2_ := oS H; with_reducible exact H2_) | with_reducible exact H | (rw [hY]; exact H) | exact H) : p := h
theorem u3_5 {p : Prop} (h : p := by first | (go_simp; done) | (go_simp; rfl)) : p := h
theorem u3_6 {p : Prop} (h : p := by first | omega | exact Nat.le_refl _) : p := h
theorem u3_7 {p : Prop} (h : p := by first | rfl | (simp [errW_none, errW_some] <;> rfl) | (simp [*, errW_none, errW_some] <;> rfl)) : p := h
theorem u3_8 {p : Prop} (h : p := by first | exact Kd.R_nil _ _ _ _ _ | exact Kd.N_nil _ _ _ _ _ | exact Kd.V_nil _ _ _ _ _ | exact Kd.Q_nil _ _ _ _ _ | exact Kd.S_nil _ _ _ _ _) : p := h
theorem u3_9 {p : Prop} (h : p := by first | rfl | (simp [errW_none, errW_some] <;> rfl) | (simp only [← hji11]; first | rfl | (simp [errW_none, errW_some] <;> rfl)) | (simp [*, errW_none, errW_some] <;> rfl)) : p := h
/-! ### impl_hexValue: function 102 -/
def impl_hexValue.l0 : Nat → Int → Int → Option (Int)
 | 0, _, _ => none
 | k + 1, x0, x4 => if x4 < 16 then (if 0 ≤ x4 then (if (bt (⟨#[48, 49, 50, 51, 52, 53, 54, 55, 56, 57, 97, 98, 99, 100, 101, 102]⟩ : ByteArray) x4) = x0 then (some x4) else (impl_hexValue.l0 k x0 (wrap64 (x4 + 1)))) else (none)) else (some (-1))
def impl_hexValue.f (k : Nat) (a0 : Int) : Option (Int) := impl_hexValue.l0 k a0 0
theorem u3_mq0 {p : Prop} (h : p := by repeat' first | (with_reducible first | exact bW _ _ | exact LeO.refl _ | exact LeO.none _ | refine LeO.ite ?_ ?_ | refine LeO.bind ?_ (fun _ => ?_)) | exact LeO.none _ | refine LeO.ite ?_ ?_ | refine LeO.bind ?_ (fun _ => ?_)) : p := h
set_option maxRecDepth 100000 in
theorem impl_hexValue.mono_l : ∀ k, (∀ y0 y1, LeO (impl_hexValue.l0 k y0 y1) (impl_hexValue.l0 (k + 1) y0 y1))
 | 0 => fun _ _ r h => by simp [impl_hexValue.l0] at h
 | k + 1 => by
  have bW := impl_hexValue.mono_l k
  ·intro y0 y1; unfold impl_hexValue.l0; exact u3_mq0
theorem impl_hexValue.mono : ∀ a0 k, LeO (impl_hexValue.f k a0) (impl_hexValue.f (k + 1) a0) := by
 intro a0 k
 have bW := impl_hexValue.mono_l k
 unfold impl_hexValue.f
 exact u3_mq0
set_option maxHeartbeats 8000000 in
set_option maxRecDepth 100000 in
theorem impl_hexValue.calls (k : Nat) (a0 : Int) (r : Int) (w : World) (h : impl_hexValue.f k a0 = some r) :
 Calls Try.prog 102 #[.int .u8 a0] w fun e w' => e = .returned (.int .i64 r) ∧ Drawn0 w w' := by
 have H : (impl_hexValue.l0 k a0 0) = some r := h
 clear h
 have H' := aM H
 clear H
 go_enter Try.func102, Try.ntmps102
 go_wp2
 go_loopg [4] k (fun kq v4 w' => ∃ (aA : Int), v4 = .int .i64 aA ∧ Aside0 (impl_hexValue.l0 kq a0 aA = some r) ∧ Aside0 (kq ≤ k) ∧ Drawn0 w w')
 case atStart => exact ⟨(0), u3_0, H', ⟨Nat.le_refl _⟩, u3_3⟩
 case round =>
  clear H'; try clear c1
  obtain ⟨aA, rfl, HA, HK1, ⟨m1, rfl⟩⟩ := hrel; cases gk with
  | zero => exact absurd HA.out (by simp [impl_hexValue.l0])
  | succ k1 =>
   have H := HA.out; clear HA; simp only [impl_hexValue.l0] at H; by_cases c2 : aA < 16
   ·rw [if_pos c2] at H; have bN : decide (aA < 16) = true := decide_eq_true c2; clear c2; by_cases c3 : 0 ≤ aA
    ·rw [if_pos c3] at H; have bC : decide (0 ≤ aA) = true := decide_eq_true c3; clear c3; by_cases c5 : (bt (⟨#[48, 49, 50, 51, 52, 53, 54, 55, 56, 57, 97, 98, 99, 100, 101, 102]⟩ : ByteArray) aA) = a0
     ·rw [if_pos c5] at H; obtain ⟨dK, eU⟩ := bT c5; clear c5; obtain rfl := Option.some.inj H; have p4 : 0 ≤ (aA : Int) := oda; have q4 : aA < (16 : Int) := oda; have fX := bt_at (⟨#[48, 49, 50, 51, 52, 53, 54, 55, 56, 57, 97, 98, 99, 100, 101, 102]⟩ : ByteArray) aA; replace p4 := eq_true p4; replace q4 := eq_true q4; go_wp2; go_ret
      exact ⟨u3_0, u3_3⟩
     ·rw [if_neg c5] at H; obtain ⟨dK, eU⟩ := bF c5; have H' := aM H; clear H; have p4 : 0 ≤ (aA : Int) := oda; have q4 : aA < (16 : Int) := oda; have fX := bt_at (⟨#[48, 49, 50, 51, 52, 53, 54, 55, 56, 57, 97, 98, 99, 100, 101, 102]⟩ : ByteArray) aA; replace p4 := eq_true p4; replace q4 := eq_true q4; go_wp2; go_roundg k1
      case measure => have := HK1.out; omega
      case rel => exact ⟨(wrap64 (aA + 1)), u3_0, H', ⟨by have := HK1.out; omega⟩, u3_3⟩
    ·rw [if_neg c3] at H; exact absurd H (by simp)
   ·rw [if_neg c2] at H; have bN : decide (aA < 16) = false := decide_eq_false c2; clear c2; obtain rfl := Option.some.inj H; go_wp2; go_ret
    exact ⟨u3_0, u3_3⟩

/-! ### impl_FromHex: function 42 -/
mutual
def impl_FromHex.j0 : Nat → ByteArray → Bool → Option (List Int × Bool)
 | 0, _, _ => none
 | k + 1, x0, gR => if gR = true then (some (([] : List Int), false)) else (impl_FromHex.l0 k x0 (([] : List Int)) 0)
def impl_FromHex.l0 : Nat → ByteArray → List Int → Int → Option (List Int × Bool)
 | 0, _, _, _ => none
 | k + 1, x0, x4, x5 => if x5 < (x0.size : Int) then (if 0 ≤ x5 then ((impl_hexValue.f k (bt x0 x5)).bind fun aJ => (if 0 ≤ (wrap64 (x5 + 1)) then (if (wrap64 (x5 + 1)) < (x0.size : Int) then ((impl_hexValue.f k (bt x0 (wrap64 (x5 + 1)))).bind fun aE => (if aJ < 0 then (some (([] : List Int), false)) else (if aE < 0 then (some (([] : List Int), false)) else (if x4.length < 140737488355328 then (impl_FromHex.l0 k x0 (x4 ++ [(wrap64 ((wrap64 (16 * aJ)) + aE)) % 256]) (wrap64 (x5 + 2))) else (none))))) else (none)) else (none))) else (none)) else (some (x4, true))
end
def impl_FromHex.f (k : Nat) (a0 : ByteArray) : Option (List Int × Bool) := if ((a0.size : Int) % 2) = 1 then (impl_FromHex.j0 k a0 true) else (impl_FromHex.j0 k a0 (decide ((a0.size : Int) > 8000)))
theorem u3_mq1 {p : Prop} (h : p := by repeat' first | (with_reducible first | exact bW _ _ | exact fY _ _ _ | exact impl_hexValue.mono _ _ | exact LeO.refl _ | exact LeO.none _ | refine LeO.ite ?_ ?_ | refine LeO.bind ?_ (fun _ => ?_)) | exact LeO.none _ | refine LeO.ite ?_ ?_ | refine LeO.bind ?_ (fun _ => ?_)) : p := h
set_option maxRecDepth 100000 in
theorem impl_FromHex.mono_l : ∀ k, (∀ y0 y1, LeO (impl_FromHex.j0 k y0 y1) (impl_FromHex.j0 (k + 1) y0 y1)) ∧ (∀ y0 y1 y2, LeO (impl_FromHex.l0 k y0 y1 y2) (impl_FromHex.l0 (k + 1) y0 y1 y2))
 | 0 => ⟨fun _ _ r h => by simp [impl_FromHex.j0] at h, fun _ _ _ r h => by simp [impl_FromHex.l0] at h⟩
 | k + 1 => by
  obtain ⟨bW, fY⟩ := impl_FromHex.mono_l k; refine ⟨?_, ?_⟩
  ·intro y0 y1; unfold impl_FromHex.j0; exact u3_mq1
  ·intro y0 y1 y2; unfold impl_FromHex.l0; exact u3_mq1
theorem impl_FromHex.mono : ∀ a0 k, LeO (impl_FromHex.f k a0) (impl_FromHex.f (k + 1) a0) := by
 intro a0 k
 obtain ⟨bW, fY⟩ := impl_FromHex.mono_l k
 unfold impl_FromHex.f
 exact u3_mq1
set_option maxHeartbeats 8000000 in
set_option maxRecDepth 100000 in
theorem impl_FromHex.calls (k : Nat) (a0 : ByteArray) (r1 : List Int) (r2 : Bool) (w : World) (h : impl_FromHex.f k a0 = some (r1, r2)) :
 Calls Try.prog 42 #[.string a0] w fun e w' => ∃ v0_ : Value, e = .returned (.tuple #[v0_, .bool r2]) ∧ Kd.R (Kd.int .u8) 5 w' w.heap.size (fun _ => True) v0_ r1 ∧ Below w.heap.size w w' := by
 have HB := aM (Below.refl w.heap.size w)
 have H : (if ((a0.size : Int) % 2) = 1 then (impl_FromHex.j0 k a0 true) else (impl_FromHex.j0 k a0 (decide ((a0.size : Int) > 8000)))) = some (r1, r2) := h
 clear h
 have eV := aM H
 clear H
 go_enter Try.func42, Try.ntmps42
 go_upto_region 1 with (fail)
 repeat (go_quiet (fail); go_upto_region 1 with (fail))
 go_cut [16] (fun v16 wc => ∃ (kq : Nat) (bP : Bool), v16 = .bool bP ∧ Aside0 (impl_FromHex.j0 kq a0 bP = some (r1, r2)) ∧ Aside0 (kq ≤ k) ∧ Aside0 (Below w.heap.size w wc))
 case first =>
  have H := eV.out; clear eV; by_cases c3 : ((a0.size : Int) % 2) = 1
  ·rw [if_pos c3] at H; obtain ⟨bC, cX⟩ := bT c3; clear c3; (first | rw [bC] | (simp only [i64_w, i32_w]; rw [bC]) | skip); have H' := aM H; clear H; go_wp2
   repeat (go_quiet (fail); try go_wp2)
   go_meet
   case rel => exact ⟨_, (true), u3_0, H', ⟨u3_6⟩, ⟨xbel⟩⟩
  ·rw [if_neg c3] at H; obtain ⟨bC, cX⟩ := bF c3; (first | rw [bC] | (simp only [i64_w, i32_w]; rw [bC]) | skip); have H' := aM H; clear H; go_wp2
   repeat (go_quiet (fail); try go_wp2)
   go_meet
   case rel => exact ⟨_, (decide ((a0.size : Int) > 8000)), u3_0, H', ⟨u3_6⟩, ⟨xbel⟩⟩
 case rest =>
  clear eV; try clear p2
  try clear c3
  try clear bC
  try clear cX
  obtain ⟨kq, bP, rfl, HA, HJ1, HB⟩ := hcut; cases kq with
  | zero => exact absurd HA.out (by simp [impl_FromHex.j0])
  | succ eW =>
   have H := HA.out; clear HA; simp only [impl_FromHex.j0] at H; by_cases c4 : bP = true
   ·subst c4; replace H := iT H; simp only [Option.some.injEq, Prod.mk.injEq] at H; obtain ⟨rfl, rfl⟩ := H; go_wp2
    repeat (go_quiet (fail); try go_wp2)
    go_ret2
    exact ⟨_, u3_7, u3_8, xbel⟩
   ·replace c4 := Bool.eq_false_iff.mpr c4; subst c4; replace H := iN H; obtain ⟨dL, hY⟩ : ∃ y_ : List Int, y_ = (([] : List Int)) := ⟨_, rfl⟩; replace H : (impl_FromHex.l0 eW a0 dL 0) = some (r1, r2) := u3_4; have bQ := aM hY; clear hY; have H' := aM H; clear H
    iterate 6 ((try go_quiet (first | ((with_reducible refine gD 17 rfl ?_); (try (refine gate_guard (by rfl) ?_; dsimp only)); refine Kd.R_lit (Kd.int .u8) _ 5 ?hg (N := 17) ?hd (xs := ([] : List Int)) (inner := []) (ok := fun _ => True) (okp := fun _ => True) ?hr ?hp (fun _ hk => hk) trivial (Below.refl _ _) (Nat.le_refl _) (by simp) ?_; (case hd => rfl); (case hg => rfl); (case hr => exact u3_5); (case hp => exact (Reps.none _ _)); intro v185 w5 bI hb hg_ hnew_; clear hg_ hnew_; (first | rw [← bQ.out] at bI | (simp only [Int.reduceToNat] at bI; rw [← bQ.out] at bI)); have cP := aM (Kd.R_lower bI (below_size xbel)); replace HB := xbs hb; clear hb bI))); (try go_wp2_with (first | ((with_reducible refine gD 17 rfl ?_); (try (refine gate_guard (by rfl) ?_; dsimp only)); refine Kd.R_lit (Kd.int .u8) _ 5 ?hg (N := 17) ?hd (xs := ([] : List Int)) (inner := []) (ok := fun _ => True) (okp := fun _ => True) ?hr ?hp (fun _ hk => hk) trivial (Below.refl _ _) (Nat.le_refl _) (by simp) ?_; (case hd => rfl); (case hg => rfl); (case hr => exact u3_5); (case hp => exact (Reps.none _ _)); intro v185 w5 bI hb hg_ hnew_; clear hg_ hnew_; (first | rw [← bQ.out] at bI | (simp only [Int.reduceToNat] at bI; rw [← bQ.out] at bI)); have cP := aM (Kd.R_lower bI (below_size xbel)); replace HB := xbs hb; clear hb bI))))
    go_loopg [4, 5] eW (fun kq v4 v5 w' => ∃ (bE : List Int) (aC : Int), v5 = .int .i64 aC ∧ Aside0 (impl_FromHex.l0 kq a0 bE aC = some (r1, r2)) ∧ Aside0 (kq ≤ eW) ∧ Aside0 (Kd.R (Kd.int .u8) 5 w' w.heap.size (fun _ => True) v4 bE) ∧ Aside0 (Below w.heap.size w w'))
    case atStart => exact ⟨(dL), (0), u3_0, H', ⟨Nat.le_refl _⟩, ⟨by (with_reducible repeat (first | apply Kd.R_alloc | apply Kd.R_drewN | apply Kd.R_drew)); exact cP.out⟩, ⟨xbel⟩⟩
    case round =>
     clear H'; try clear p2
     try clear c3
     try clear bC
     try clear cX
     try clear c4
     try clear p2
     obtain ⟨bE, aC, rfl, HA, HK2, cB, HB⟩ := hrel; cases gk with
     | zero => exact absurd HA.out (by simp [impl_FromHex.l0])
     | succ k2 =>
      have H := HA.out; clear HA; simp only [impl_FromHex.l0] at H; by_cases c7 : aC < (a0.size : Int)
      ·rw [if_pos c7] at H; have cY : decide (aC < (a0.size : Int)) = true := decide_eq_true c7; clear c7; by_cases c8 : 0 ≤ aC
       ·rw [if_pos c8] at H; have eX : decide (0 ≤ aC) = true := decide_eq_true c8; clear c8; replace H := oB H; obtain ⟨aJ, cC, H⟩ := H; (try dsimp only at H); have cM := aM cC; clear cC
        obtain ⟨ji11, hji11⟩ : ∃ j_ : Int, (wrap64 (aC + 1)) = j_ := ⟨_, rfl⟩; replace H : (if 0 ≤ (ji11) then (if (ji11) < (a0.size : Int) then ((impl_hexValue.f k2 (bt a0 (ji11))).bind fun aE => (if aJ < 0 then (some (([] : List Int), false)) else (if aE < 0 then (some (([] : List Int), false)) else (if bE.length < 140737488355328 then (impl_FromHex.l0 k2 a0 (bE ++ [(wrap64 ((wrap64 (16 * aJ)) + aE)) % 256]) (wrap64 (aC + 2))) else (none))))) else (none)) else (none)) = some (r1, r2) := by first | (rw [hji11] at H; exact H) | (simp only [hji11] at H ⊢; exact H)
        (try rw [hji11] at cM); have hji11w : (IntKind.i64.wrap (aC + 1)) = ji11 := (i64_w _).trans hji11; by_cases eQ : 0 ≤ (ji11)
        ·rw [if_pos eQ] at H; have fZ : decide (0 ≤ (ji11)) = true := decide_eq_true eQ; clear eQ; by_cases cL : (ji11) < (a0.size : Int)
         ·rw [if_pos cL] at H; have gA : decide ((ji11) < (a0.size : Int)) = true := decide_eq_true cL; clear cL; replace H := oB H; obtain ⟨aE, dM, H⟩ := H; (try dsimp only at H); have dH := aM dM; clear dM
          by_cases dI : aJ < 0
          ·rw [if_pos dI] at H; have dN : decide (aJ < 0) = true := decide_eq_true dI; clear dI; simp only [Option.some.injEq, Prod.mk.injEq] at H; obtain ⟨rfl, rfl⟩ := H; have p9 : 0 ≤ (aC : Int) := oda; have q9 : aC < (a0.size : Int) := oda; have gB := bt_at a0 aC; replace p9 := eq_true p9; replace q9 := eq_true q9
           iterate 6 ((try go_quiet (first | (go_at_call 102; (with_reducible refine (impl_hexValue.calls k2 (bt a0 aC) aJ _ cM.out).mono ?_); rintro e w' ⟨rfl, ⟨nd, rfl⟩⟩; (try first | exact ⟨rfl, _, World.drewN_drewN _ _ _⟩ | exact ⟨rfl, _, Eq.trans (World.drewN_drewN _ _ _) (congrArg (World.drewN _) (Nat.add_assoc _ _ _))⟩); have p14 : 0 ≤ ((ji11) : Int) := oda; have q14 : (ji11) < (a0.size : Int) := oda; have cD := bt_at a0 (ji11); replace p14 := eq_true p14; replace q14 := eq_true q14) | (go_at_call 102; (with_reducible refine (impl_hexValue.calls k2 (bt a0 (ji11)) aE _ dH.out).mono ?_); rintro e w' ⟨rfl, ⟨nd, rfl⟩⟩; (try first | exact ⟨rfl, _, World.drewN_drewN _ _ _⟩ | exact ⟨rfl, _, Eq.trans (World.drewN_drewN _ _ _) (congrArg (World.drewN _) (Nat.add_assoc _ _ _))⟩)))); (try go_wp2_with (first | (go_at_call 102; (with_reducible refine (impl_hexValue.calls k2 (bt a0 aC) aJ _ cM.out).mono ?_); rintro e w' ⟨rfl, ⟨nd, rfl⟩⟩; (try first | exact ⟨rfl, _, World.drewN_drewN _ _ _⟩ | exact ⟨rfl, _, Eq.trans (World.drewN_drewN _ _ _) (congrArg (World.drewN _) (Nat.add_assoc _ _ _))⟩); have p14 : 0 ≤ ((ji11) : Int) := oda; have q14 : (ji11) < (a0.size : Int) := oda; have cD := bt_at a0 (ji11); replace p14 := eq_true p14; replace q14 := eq_true q14) | (go_at_call 102; (with_reducible refine (impl_hexValue.calls k2 (bt a0 (ji11)) aE _ dH.out).mono ?_); rintro e w' ⟨rfl, ⟨nd, rfl⟩⟩; (try first | exact ⟨rfl, _, World.drewN_drewN _ _ _⟩ | exact ⟨rfl, _, Eq.trans (World.drewN_drewN _ _ _) (congrArg (World.drewN _) (Nat.add_assoc _ _ _))⟩)))))
           go_ret2
           exact ⟨_, u3_9, u3_8, xbel⟩
          ·rw [if_neg dI] at H; have dN : decide (aJ < 0) = false := decide_eq_false dI; clear dI; by_cases dJ : aE < 0
           ·rw [if_pos dJ] at H; have dO : decide (aE < 0) = true := decide_eq_true dJ; clear dJ; simp only [Option.some.injEq, Prod.mk.injEq] at H; obtain ⟨rfl, rfl⟩ := H; have p9 : 0 ≤ (aC : Int) := oda; have q9 : aC < (a0.size : Int) := oda; have gB := bt_at a0 aC; replace p9 := eq_true p9; replace q9 := eq_true q9
            iterate 6 ((try go_quiet (first | (go_at_call 102; (with_reducible refine (impl_hexValue.calls k2 (bt a0 aC) aJ _ cM.out).mono ?_); rintro e w' ⟨rfl, ⟨nd, rfl⟩⟩; (try first | exact ⟨rfl, _, World.drewN_drewN _ _ _⟩ | exact ⟨rfl, _, Eq.trans (World.drewN_drewN _ _ _) (congrArg (World.drewN _) (Nat.add_assoc _ _ _))⟩); have p14 : 0 ≤ ((ji11) : Int) := oda; have q14 : (ji11) < (a0.size : Int) := oda; have cD := bt_at a0 (ji11); replace p14 := eq_true p14; replace q14 := eq_true q14) | (go_at_call 102; (with_reducible refine (impl_hexValue.calls k2 (bt a0 (ji11)) aE _ dH.out).mono ?_); rintro e w' ⟨rfl, ⟨nd, rfl⟩⟩; (try first | exact ⟨rfl, _, World.drewN_drewN _ _ _⟩ | exact ⟨rfl, _, Eq.trans (World.drewN_drewN _ _ _) (congrArg (World.drewN _) (Nat.add_assoc _ _ _))⟩)))); (try go_wp2_with (first | (go_at_call 102; (with_reducible refine (impl_hexValue.calls k2 (bt a0 aC) aJ _ cM.out).mono ?_); rintro e w' ⟨rfl, ⟨nd, rfl⟩⟩; (try first | exact ⟨rfl, _, World.drewN_drewN _ _ _⟩ | exact ⟨rfl, _, Eq.trans (World.drewN_drewN _ _ _) (congrArg (World.drewN _) (Nat.add_assoc _ _ _))⟩); have p14 : 0 ≤ ((ji11) : Int) := oda; have q14 : (ji11) < (a0.size : Int) := oda; have cD := bt_at a0 (ji11); replace p14 := eq_true p14; replace q14 := eq_true q14) | (go_at_call 102; (with_reducible refine (impl_hexValue.calls k2 (bt a0 (ji11)) aE _ dH.out).mono ?_); rintro e w' ⟨rfl, ⟨nd, rfl⟩⟩; (try first | exact ⟨rfl, _, World.drewN_drewN _ _ _⟩ | exact ⟨rfl, _, Eq.trans (World.drewN_drewN _ _ _) (congrArg (World.drewN _) (Nat.add_assoc _ _ _))⟩)))))
            go_ret2
            exact ⟨_, u3_9, u3_8, xbel⟩
           ·rw [if_neg dJ] at H; have dO : decide (aE < 0) = false := decide_eq_false dJ; clear dJ; by_cases eR : bE.length < 140737488355328
            ·rw [if_pos eR] at H; have LMc18 := aM eR; clear eR; obtain ⟨dP, hY⟩ : ∃ y_ : List Int, y_ = (bE ++ [(wrap64 ((wrap64 (16 * aJ)) + aE)) % 256]) := ⟨_, rfl⟩; replace H : (impl_FromHex.l0 k2 a0 dP (wrap64 (aC + 2))) = some (r1, r2) := u3_4; have cQ := aM hY; clear hY; have H' := aM H; clear H; have p9 : 0 ≤ (aC : Int) := oda; have q9 : aC < (a0.size : Int) := oda; have gB := bt_at a0 aC; replace p9 := eq_true p9; replace q9 := eq_true q9
             iterate 6 ((try go_quiet (first | (go_at_call 102; (with_reducible refine (impl_hexValue.calls k2 (bt a0 aC) aJ _ cM.out).mono ?_); rintro e w' ⟨rfl, ⟨nd, rfl⟩⟩; (try first | exact ⟨rfl, _, World.drewN_drewN _ _ _⟩ | exact ⟨rfl, _, Eq.trans (World.drewN_drewN _ _ _) (congrArg (World.drewN _) (Nat.add_assoc _ _ _))⟩); have p14 : 0 ≤ ((ji11) : Int) := oda; have q14 : (ji11) < (a0.size : Int) := oda; have cD := bt_at a0 (ji11); replace p14 := eq_true p14; replace q14 := eq_true q14) | (go_at_call 102; (with_reducible refine (impl_hexValue.calls k2 (bt a0 (ji11)) aE _ dH.out).mono ?_); rintro e w' ⟨rfl, ⟨nd, rfl⟩⟩; (try first | exact ⟨rfl, _, World.drewN_drewN _ _ _⟩ | exact ⟨rfl, _, Eq.trans (World.drewN_drewN _ _ _) (congrArg (World.drewN _) (Nat.add_assoc _ _ _))⟩)) | ((with_reducible refine gate_builtin (b := .append) (xs := #[.tmp 39, .tmp 45]) rfl ?_); (try (refine gate_guard (by rfl) ?_; dsimp only)); at_builtin; refine Kd.R_append (Kd.int .u8) (w0 := w) w.heap.size rfl (.tmp 39) (.tmp 45) 22 5 (.int .u8 0) 1 rfl Try.underlying22 info5 rfl (by decide) (by omega) u4 bE ((wrap64 ((wrap64 (16 * aJ)) + aE)) % 256) [.int .u8 ((wrap64 ((wrap64 (16 * aJ)) + aE)) % 256)] (fun _ => True) (fun _ => False) rfl rfl ?aP (fun _ hk => hk.elim) ?aF ?aO ?aB ?aS ?aL ?_; (case aP => exact rfl); (case aB => exact xbel); (case aF => exact (fun _ _ => trivial)); (case aO => exact (xr cB)); (case aS => exact (below_size xbel)); (case aL => have := LMc18.out; omega); intro v190 gS ho hb hg hat; rw [← cQ.out] at ho; replace HB := aM (hb); have cS := aM (ho); clear cB; clear ho hb hg hat))); (try go_wp2_with (first | (go_at_call 102; (with_reducible refine (impl_hexValue.calls k2 (bt a0 aC) aJ _ cM.out).mono ?_); rintro e w' ⟨rfl, ⟨nd, rfl⟩⟩; (try first | exact ⟨rfl, _, World.drewN_drewN _ _ _⟩ | exact ⟨rfl, _, Eq.trans (World.drewN_drewN _ _ _) (congrArg (World.drewN _) (Nat.add_assoc _ _ _))⟩); have p14 : 0 ≤ ((ji11) : Int) := oda; have q14 : (ji11) < (a0.size : Int) := oda; have cD := bt_at a0 (ji11); replace p14 := eq_true p14; replace q14 := eq_true q14) | (go_at_call 102; (with_reducible refine (impl_hexValue.calls k2 (bt a0 (ji11)) aE _ dH.out).mono ?_); rintro e w' ⟨rfl, ⟨nd, rfl⟩⟩; (try first | exact ⟨rfl, _, World.drewN_drewN _ _ _⟩ | exact ⟨rfl, _, Eq.trans (World.drewN_drewN _ _ _) (congrArg (World.drewN _) (Nat.add_assoc _ _ _))⟩)) | ((with_reducible refine gate_builtin (b := .append) (xs := #[.tmp 39, .tmp 45]) rfl ?_); (try (refine gate_guard (by rfl) ?_; dsimp only)); at_builtin; refine Kd.R_append (Kd.int .u8) (w0 := w) w.heap.size rfl (.tmp 39) (.tmp 45) 22 5 (.int .u8 0) 1 rfl Try.underlying22 info5 rfl (by decide) (by omega) u4 bE ((wrap64 ((wrap64 (16 * aJ)) + aE)) % 256) [.int .u8 ((wrap64 ((wrap64 (16 * aJ)) + aE)) % 256)] (fun _ => True) (fun _ => False) rfl rfl ?aP (fun _ hk => hk.elim) ?aF ?aO ?aB ?aS ?aL ?_; (case aP => exact rfl); (case aB => exact xbel); (case aF => exact (fun _ _ => trivial)); (case aO => exact (xr cB)); (case aS => exact (below_size xbel)); (case aL => have := LMc18.out; omega); intro v190 gS ho hb hg hat; rw [← cQ.out] at ho; replace HB := aM (hb); have cS := aM (ho); clear cB; clear ho hb hg hat))))
             go_roundg k2
             case measure => have := HJ1.out; have := HK2.out; omega
             case rel => exact ⟨(dP), (wrap64 (aC + 2)), u3_0, H', ⟨by have := HJ1.out; have := HK2.out; omega⟩, ⟨by (with_reducible repeat (first | apply Kd.R_alloc | apply Kd.R_drewN | apply Kd.R_drew)); exact cS.out⟩, ⟨xbel⟩⟩
            ·rw [if_neg eR] at H; exact absurd H (by simp)
         ·rw [if_neg cL] at H; exact absurd H (by simp)
        ·rw [if_neg eQ] at H; exact absurd H (by simp)
       ·rw [if_neg c8] at H; exact absurd H (by simp)
      ·rw [if_neg c7] at H; have cY : decide (aC < (a0.size : Int)) = false := decide_eq_false c7; clear c7; simp only [Option.some.injEq, Prod.mk.injEq] at H; obtain ⟨rfl, rfl⟩ := H; go_wp2
       repeat (go_quiet (fail); try go_wp2)
       go_ret2
       exact ⟨_, u3_7, by (with_reducible repeat (first | apply Kd.R_alloc | apply Kd.R_drewN | apply Kd.R_drew)); exact cB.out, xbel⟩

/-! ### spec_l2Digit: function 144 -/
def spec_l2Digit.f (a0 : Int) : Option (Int) := if 0 ≤ (Go.bits .and .i64 a0 15) then (if (Go.bits .and .i64 a0 15) < 16 then (some (bt (⟨#[48, 49, 50, 51, 52, 53, 54, 55, 56, 57, 97, 98, 99, 100, 101, 102]⟩ : ByteArray) (Go.bits .and .i64 a0 15))) else (none)) else (none)
set_option maxHeartbeats 8000000 in
set_option maxRecDepth 100000 in
theorem spec_l2Digit.calls (a0 : Int) (r : Int) (w : World) (h : spec_l2Digit.f a0 = some r) :
 Calls Try.prog 144 #[.int .i64 a0] w fun e w' => e = .returned (.int .u8 r) ∧ Drawn0 w w' := by
 have H : (if 0 ≤ (Go.bits .and .i64 a0 15) then (if (Go.bits .and .i64 a0 15) < 16 then (some (bt (⟨#[48, 49, 50, 51, 52, 53, 54, 55, 56, 57, 97, 98, 99, 100, 101, 102]⟩ : ByteArray) (Go.bits .and .i64 a0 15))) else (none)) else (none)) = some r := h
 clear h
 by_cases c2 : 0 ≤ (Go.bits .and .i64 a0 15)
 ·rw [if_pos c2] at H; have bN : decide (0 ≤ (Go.bits .and .i64 a0 15)) = true := decide_eq_true c2; clear c2; by_cases c3 : (Go.bits .and .i64 a0 15) < 16
  ·rw [if_pos c3] at H; have bC : decide ((Go.bits .and .i64 a0 15) < 16) = true := decide_eq_true c3; clear c3; obtain rfl := Option.some.inj H; have p4 : 0 ≤ ((Go.bits .and .i64 a0 15) : Int) := oda; have q4 : (Go.bits .and .i64 a0 15) < (16 : Int) := oda; have fX := bt_at (⟨#[48, 49, 50, 51, 52, 53, 54, 55, 56, 57, 97, 98, 99, 100, 101, 102]⟩ : ByteArray) (Go.bits .and .i64 a0 15); replace p4 := eq_true p4; replace q4 := eq_true q4; go_enter Try.func144, Try.ntmps144
   go_wp2; go_ret
   exact ⟨u3_0, u3_3⟩
  ·rw [if_neg c3] at H; exact absurd H (by simp)
 ·rw [if_neg c2] at H; exact absurd H (by simp)

/-! ### spec_HexOf: function 81 -/
def spec_HexOf.l0 : Nat → List Int → List Int → Int → Option (ByteArray)
 | 0, _, _, _ => none
 | k + 1, x0, x3, x4 => if x4 < (x0.length : Int) then (if 0 ≤ x4 then ((spec_l2Digit.f (wrap64 (Int.tdiv (wrap64 (rd x0 x4)) 16))).bind fun bJ => ((spec_l2Digit.f (wrap64 (rd x0 x4))).bind fun bK => ((some (([bJ, bK] : List Int) : List Int)).bind fun bG => (if x3.length + bG.length < 140737488355328 then (spec_HexOf.l0 k x0 (x3 ++ bG) (wrap64 (x4 + 1))) else (none))))) else (none)) else (some (strOfNums x3))
def spec_HexOf.f (k : Nat) (l0 : List Int) : Option (ByteArray) := if (l0.length : Int) > 4000 then (some (⟨#[]⟩ : ByteArray)) else (spec_HexOf.l0 k l0 (([] : List Int)) 0)
theorem u3_mq2 {p : Prop} (h : p := by repeat' first | (with_reducible first | exact bW _ _ _ | exact LeO.refl _ | exact LeO.none _ | refine LeO.ite ?_ ?_ | refine LeO.bind ?_ (fun _ => ?_)) | exact LeO.none _ | refine LeO.ite ?_ ?_ | refine LeO.bind ?_ (fun _ => ?_)) : p := h
set_option maxRecDepth 100000 in
theorem spec_HexOf.mono_l : ∀ k, (∀ y0 y1 y2, LeO (spec_HexOf.l0 k y0 y1 y2) (spec_HexOf.l0 (k + 1) y0 y1 y2))
 | 0 => fun _ _ _ r h => by simp [spec_HexOf.l0] at h
 | k + 1 => by
  have bW := spec_HexOf.mono_l k
  ·intro y0 y1 y2; unfold spec_HexOf.l0; exact u3_mq2
theorem spec_HexOf.mono : ∀ a0 k, LeO (spec_HexOf.f k a0) (spec_HexOf.f (k + 1) a0) := by
 intro a0 k
 have bW := spec_HexOf.mono_l k
 unfold spec_HexOf.f
 exact u3_mq2
def spec_HexOf.T7 : Bool × List (List Nat × List Nat) := (true, [([], []), ([], []), ([], []), ([1, 2], [1, 2]), ([3], [3]), ([4], [4]), ([5], [5]), ([6], [6]), ([], []), ([], []), ([8, 9], [8, 9]), ([10], [10]), ([11], [11]), ([12, 7], [12]), ([7, 13], [7, 13]), ([0, 14, 13], [0, 14]), ([15, 15, 0, 1, 2, 3, 4, 5, 6, 7, 8, 9, 10, 11, 12, 13, 14, 15], [0, 15])])
def spec_HexOf.B7 : List Nat := [0, 0, 0, 6, 14, 30, 62, 126, 0, 0, 768, 1792, 3840, 8190, 16382, 32767, 65535]
set_option maxHeartbeats 8000000 in
set_option maxRecDepth 100000 in
theorem spec_HexOf.calls (k : Nat) (A0 : Option Addr) (c0 : Nat) (l0 : List Int) (r : ByteArray) (w : World) (dQ : Kd.C (Kd.int .u8) w A0 l0.length l0) (dR : l0.length ≤ c0) (h : spec_HexOf.f k l0 = some r) :
 Calls Try.prog 81 #[.slice A0 l0.length c0] w fun e w' => e = .returned (.string r) ∧ Below w.heap.size w w' := by
 have dS := aM dQ
 have eY := aM dR
 clear dQ dR
 have HB := aM (Below.refl w.heap.size w)
 have H : (if (l0.length : Int) > 4000 then (some (⟨#[]⟩ : ByteArray)) else (spec_HexOf.l0 k l0 (([] : List Int)) 0)) = some r := h
 clear h
 obtain ⟨dU, hY⟩ : ∃ y_ : List Int, y_ = (([] : List Int)) := ⟨_, rfl⟩
 replace H : (if (l0.length : Int) > 4000 then (some (⟨#[]⟩ : ByteArray)) else (spec_HexOf.l0 k l0 dU 0)) = some r := u3_4
 have bR := aM hY
 clear hY
 by_cases c2 : (l0.length : Int) > 4000
 ·rw [if_pos c2] at H; have bN : decide (4000 < (l0.length : Int)) = true := decide_eq_true c2; have dV : decide (4000 < l0.length) = true := decide_eq_true (by omega); clear c2; obtain rfl := Option.some.inj H; go_enter Try.func81, Try.ntmps81
  go_wp2_with (first | ((with_reducible refine gD 5 rfl ?_); refine Kd.R_lit (Kd.int .u8) _ 5 ?hg (N := 5) ?hd (xs := ([] : List Int)) (inner := []) (ok := fun _ => True) (okp := fun _ => True) ?hr ?hp (fun _ hk => hk) trivial (Below.refl _ _) (Nat.le_refl _) (by simp) ?_; (case hd => rfl); (case hg => rfl); (case hr => exact u3_5); (case hp => exact (Reps.none _ _)); intro v193 w3 dW hb hg_ hnew_; clear hg_ hnew_; (first | rw [← bR.out] at dW | (simp only [Int.reduceToNat] at dW; rw [← bR.out] at dW)); have cT := aM (Kd.R_lower dW (below_size xbel)); replace HB := xbs hb; clear hb dW))
  go_ret
  exact ⟨xerr, xbel⟩
 ·rw [if_neg c2] at H; have bN : decide (4000 < (l0.length : Int)) = false := decide_eq_false c2; have dV : decide (4000 < l0.length) = false := decide_eq_false (by omega); clear c2; have H' := aM H; clear H; go_enter Try.func81, Try.ntmps81
  go_wp2_with (first | ((with_reducible refine gD 5 rfl ?_); refine Kd.R_lit (Kd.int .u8) _ 5 ?hg (N := 5) ?hd (xs := ([] : List Int)) (inner := []) (ok := fun _ => True) (okp := fun _ => True) ?hr ?hp (fun _ hk => hk) trivial (Below.refl _ _) (Nat.le_refl _) (by simp) ?_; (case hd => rfl); (case hg => rfl); (case hr => exact u3_5); (case hp => exact (Reps.none _ _)); intro v193 w5 bI hb hg_ hnew_; clear hg_ hnew_; (first | rw [← bR.out] at bI | (simp only [Int.reduceToNat] at bI; rw [← bR.out] at bI)); have cT := aM (Kd.R_lower bI (below_size xbel)); replace HB := xbs hb; clear hb bI))
  go_loopg [3, 4] k (fun kq v3 v4 w' => ∃ (aG : List Int) (aA : Int), v4 = .int .i64 aA ∧ Aside0 (spec_HexOf.l0 kq l0 aG aA = some r) ∧ Aside0 (kq ≤ k) ∧ Aside0 (Kd.R (Kd.int .u8) 5 w' w.heap.size (fun _ => True) v3 aG) ∧ Aside0 (Below w.heap.size w w'))
  case atStart => exact ⟨(dU), (0), u3_0, H', ⟨Nat.le_refl _⟩, ⟨by (with_reducible repeat (first | apply Kd.R_alloc | apply Kd.R_drewN | apply Kd.R_drew)); exact cT.out⟩, ⟨xbel⟩⟩
  case round =>
   clear H'; try clear c2
   try clear bN
   try clear dV
   try clear p2
   obtain ⟨aG, aA, rfl, HA, HK1, bH, HB⟩ := hrel; cases gk with
   | zero => exact absurd HA.out (by simp [spec_HexOf.l0])
   | succ k1 =>
    have H := HA.out; clear HA; simp only [spec_HexOf.l0] at H; by_cases c7 : aA < (l0.length : Int)
    ·rw [if_pos c7] at H; have cY : decide (aA < (l0.length : Int)) = true := decide_eq_true c7; clear c7; by_cases c8 : 0 ≤ aA
     ·rw [if_pos c8] at H; have eX : decide (0 ≤ aA) = true := decide_eq_true c8; clear c8; replace H := oB H; obtain ⟨bJ, gE, H⟩ := H; (try dsimp only at H); have A9 := aM gE; clear gE; replace H := oB H
      obtain ⟨bK, cC, H⟩ := H; (try dsimp only at H); have cM := aM cC; clear cC
      obtain ⟨bG, hY⟩ : ∃ y_ : List Int, y_ = (([bJ, bK] : List Int)) := ⟨_, rfl⟩; replace H : (if aG.length + bG.length < 140737488355328 then (spec_HexOf.l0 k1 l0 (aG ++ bG) (wrap64 (aA + 1))) else (none)) = some r := u3_4; have cU := aM hY; clear hY; by_cases eS : aG.length + bG.length < 140737488355328
      ·rw [if_pos eS] at H; have LMc11 := aM eS; clear eS; obtain ⟨dX, hY⟩ : ∃ y_ : List Int, y_ = (aG ++ bG) := ⟨_, rfl⟩; replace H : (spec_HexOf.l0 k1 l0 dX (wrap64 (aA + 1))) = some r := u3_4; have dY := aM hY; clear hY; have H' := aM H; clear H; try go_wp2
       replace bH := rD bH; replace HB := lD HB; have p195 : 0 ≤ (aA : Int) := oda; have q195 : aA < (l0.length : Int) := oda; obtain ⟨cE, eZ, aX⟩ := Kd.at_int dS.out aA p195 q195; have aU := aX; cases eZ
       replace aX := xce HB aX; replace p195 := eq_true p195; replace q195 := eq_true q195; have p197 : 0 ≤ (aA : Int) := oda; have q197 : aA < (l0.length : Int) := oda; obtain ⟨dZ, fA, aY⟩ := Kd.at_int dS.out aA p197 q197; have aV := aY; obtain rfl : cE = dZ := (by injection fA); replace aY := xce HB aY; replace p197 := eq_true p197; replace q197 := eq_true q197; refine st_ 17 (fun w' => w'.cell? (cE.add (aA).toNat) = some (.int .u8 (rd l0 aA)) ∧ w'.cell? (cE.add (aA).toNat) = some (.int .u8 (rd l0 aA))) spec_HexOf.T7 spec_HexOf.B7 ⟨(xce HB aU), (xce HB aV)⟩ (fun hHeld HT_ HW_ => ?_); generalize wr.drew = gT at bH HB aX aY hHeld ⊢; refine pV 0 15 ?_; refine pV 1 16 ?_; refine pV 2 17 ?_; refine pV 3 18 ?_; refine pV 8 23 ?_; refine pV 9 24 ?_; refine pV 10 25 ?_; refine tK 4 19 ?_; refine pV 5 20 ?_; refine pV 6 21 ?_; refine tK 11 26 ?_; refine pV 12 27 ?_; refine oN 7 22 fun K hK => ?_
       refine goesY Try.func144 #[.int .i64 (wrap64 (Int.tdiv (wrap64 (rd l0 aA)) 16))] ?_; with_reducible refine (spec_l2Digit.calls (wrap64 (Int.tdiv (wrap64 (rd l0 aA)) 16)) bJ _ A9.out).mono ?_
       rintro e w' ⟨rfl, ⟨nd, rfl⟩⟩; refine ⟨_, rfl, ?_⟩; refine hK.out _ _ ⟨(xce HB aU), (xce HB aV)⟩ (fun hHeld => ?_); clear hK K; refine nm_ (N := 22) ?_; refine oN 13 28 fun K hK => ?_
       refine goesY Try.func144 #[.int .i64 (wrap64 (rd l0 aA))] ?_; with_reducible refine (spec_l2Digit.calls (wrap64 (rd l0 aA)) bK _ cM.out).mono ?_
       rintro e w' ⟨rfl, ⟨nd, rfl⟩⟩; refine ⟨_, rfl, ?_⟩; refine hK.out _ _ ⟨(xce HB aU), (xce HB aV)⟩ (fun hHeld => ?_); clear hK K; refine nm_ (N := 28) ?_; refine oN 14 29 fun K hK => ?_
       refine Kd.R_lit_step (Kd.int .u8) _ 5 ?hg (N := 29) ?hd (xs := ([bJ, bK] : List Int)) (inner := [.int .u8 bJ, .int .u8 bK]) (ok := fun _ => True) (okp := fun _ => True) ?hr ?hp (fun _ hk => hk) trivial (Below.refl _ _) (Nat.le_refl _) (by simp) ?_; (case hd => rfl); (case hg => rfl); (case hr => exact u3_5); (case hp => exact (Reps.one (show Kd.M (Kd.int .u8) _ _ _ bJ [.int .u8 bJ] from rfl) (Reps.one (show Kd.M (Kd.int .u8) _ _ _ bK [.int .u8 bK] from rfl) (Reps.none _ _)))); intro v200 gY bX hb hg_ hnew_; clear hg_ hnew_; (first | rw [← cU.out] at bX | (simp only [Int.reduceToNat] at bX; rw [← cU.out] at bX)); have bL := aM (Kd.R_lower (Kd.R_new' bX (Kd.R_lt (xr bH))) (below_size xbel)); replace bH := aM (Kd.R_elder' (xr bH) (Kd.R_base bX) hb); replace HB := xbs hb; clear hb bX; obtain ⟨fB, fC, eA⟩ := Kd.R_slice bL.out; (first | subst eA | (injection eA with f1_ f2_ f3_; have f4_ := f1_.symm; have f5_ := f3_.symm; clear f1_ f2_ f3_; subst f4_; subst f5_)); refine hK.out _ _ ⟨(xce HB aU), (xce HB aV)⟩ (fun hHeld => ?_); clear hK K; refine nm_ (N := 29) ?_; refine oN 15 30 fun K hK => ?_
       refine Kd.R_append_rows_step (Kd.int .u8) (w0 := w) w.heap.size (by rfl) (.tmp 15) (.tmp 29) 22 5 (.int .u8 0) 1 rfl Try.underlying22 info5 rfl (by decide) (by omega) u3 aG bG _ _ _ (fun k_ => some k_ ≠ (.slice fB bG.length fC : Value).ownBlock) (fun _ => False) rfl rfl ?aO ?aR (fun _ _ h => h) (fun _ h => h.elim) ?aF ?aB ?aS ?aL ?_; (case aR => repeat (first | exact (Kd.R_reads' bL.out).2.2 | (with_reducible refine Kd.C_alloc ?_ _) | (with_reducible refine Kd.C_drewN ?_ _) | (with_reducible refine Kd.C_drew ?_))); (case aB => exact xbel); (case aF => exact (fun k_ hk => Kd.fresh' (Kd.R_lt (xr bL)) k_ hk)); (case aO => exact (by (with_reducible repeat (first | apply Kd.R_alloc | apply Kd.R_drewN | apply Kd.R_drew)); exact Kd.R_mono bH.out (fun _ hk => hk.2))); (case aS => exact (below_size xbel)); (case aL => have := LMc11.out; omega); intro v203 gU ho hb hg hat; rw [← dY.out] at ho; replace bL := aM (Kd.R_after (ok := (fun _ => True)) (xr bL) hg hat); replace HB := aM (hb); have eB := aM (ho); clear bH ho hb hg hat; refine hK.out _ _ ⟨(xce HB aU), (xce HB aV)⟩ (fun hHeld => ?_); clear hK K; refine nm_ (N := 30) ?_; refine pV 16 3 ?_; refine dn_ ?_; try go_wp2
       go_roundg k1
       case measure => have := HK1.out; omega
       case rel => exact ⟨(dX), (wrap64 (aA + 1)), u3_0, H', ⟨by have := HK1.out; omega⟩, ⟨by (with_reducible repeat (first | apply Kd.R_alloc | apply Kd.R_drewN | apply Kd.R_drew)); exact Kd.R_mono eB.out (fun _ hk => trivial)⟩, ⟨xbel⟩⟩
      ·rw [if_neg eS] at H; exact absurd H (by simp)
     ·rw [if_neg c8] at H; exact absurd H (by simp)
    ·rw [if_neg c7] at H; have cY : decide (aA < (l0.length : Int)) = false := decide_eq_false c7; clear c7; obtain rfl := Option.some.inj H; have hcv17 := own_string (P := Try.prog) Try.underlying22 Try.underlying5 Try.underlying9 (Kd.own_of_R bH.out); go_wp2; go_ret
     exact ⟨xerr, xbel⟩

/-! ### spec_l1Once: function 106 -/
def spec_l1Once.f (s0_0 : List Int) (s0_1 : Int) (s0_2 : Int) (a1 : Int) : Option (Bool × Int × Int) := (spec_l1Below.f s0_0 s0_1 s0_2 a1).bind fun aZ => (some ((aZ.1 == 0), aZ.2.1, aZ.2.2))
set_option maxHeartbeats 8000000 in
set_option maxRecDepth 100000 in
theorem spec_l1Once.calls (g : Nat) (s0_0 : List Int) (s0_1 : Int) (s0_2 : Int) (a1 : Int) (r1 : Bool) (r2 : Int) (r3 : Int) (w0 w : World) (hI : IsS157 w0 w g s0_0 s0_1 s0_2) (hB : Below w0.heap.size w0 w) (h : spec_l1Once.f s0_0 s0_1 s0_2 a1 = some (r1, r2, r3)) :
 Calls Try.prog 106 #[.pointer (some ⟨g, 0, none⟩), .int .i64 a1] w fun e w' => e = .returned (.bool r1) ∧ IsS157 w0 w' g s0_0 r2 r3 ∧ Below w0.heap.size w0 w' ∧ KeepBut w w' g none := by
 have HI0 := aM hI
 have HK := aM (KeepBut.refl w g none)
 have HL := aM hB.size
 clear hI
 have HW0 := aM hB.size
 have HB := aM hB
 clear hB
 have H : ((spec_l1Below.f s0_0 s0_1 s0_2 a1).bind fun aZ => (some ((aZ.1 == 0), aZ.2.1, aZ.2.2))) = some (r1, r2, r3) := h
 clear h
 replace H := oB H
 obtain ⟨⟨fD, fE, fF⟩, cF, H⟩ := H
 (try dsimp only at H)
 have A3 := aM cF
 clear cF
 simp only [Option.some.injEq, Prod.mk.injEq] at H
 obtain ⟨rfl, rfl, rfl⟩ := H
 go_enter Try.func106, Try.ntmps106
 go_wp2_with (first | ((with_reducible refine gC 108 rfl ?_); refine goesLY (some 7) rfl Try.func108 #[.pointer (some ⟨g, 0, none⟩), .int .i64 a1] ?_; (with_reducible refine (spec_l1Below.calls g s0_0 s0_1 s0_2 a1 fD fE fF w0 _ ?side1 ?side2 A3.out).mono ?_); (case side1 => exact IsS157.s); (case side2 => exact IsS157.B); rintro e w4 ⟨rfl, hi, hb, hk⟩; refine ⟨_, rfl, ?_⟩; replace HK := xhk HK hk; replace HB := aM (hb); replace HI0 := aM (hi); (try clear hb hk hi)))
 go_ret
 exact ⟨xerr, IsS157.s, IsS157.B, xK⟩

/-! ### spec_l1Pick: function 107 -/
def spec_l1Pick.f (s0_0 : List Int) (s0_1 : Int) (s0_2 : Int) (l1 : List ByteArray) : Option (ByteArray × Int × Int) := (spec_l1Below.f s0_0 s0_1 s0_2 (l1.length : Int)).bind fun aK => (if 0 ≤ aK.1 then (if aK.1 < (l1.length : Int) then (some (rdOf ByteArray.empty l1 aK.1, aK.2.1, aK.2.2)) else (none)) else (none))
set_option maxHeartbeats 8000000 in
set_option maxRecDepth 100000 in
theorem spec_l1Pick.calls (g : Nat) (s0_0 : List Int) (s0_1 : Int) (s0_2 : Int) (A1 : Option Addr) (c1 : Nat) (l1 : List ByteArray) (r1 : ByteArray) (r2 : Int) (r3 : Int) (w0 w : World) (hI : IsS157 w0 w g s0_0 s0_1 s0_2) (hB : Below w0.heap.size w0 w) (gF : Kd.C Kd.string w A1 l1.length l1) (gG : l1.length ≤ c1) (fG : ∀ ad, A1 = some ad → 0 < l1.length → ad.block ≠ g) (h : spec_l1Pick.f s0_0 s0_1 s0_2 l1 = some (r1, r2, r3)) :
 Calls Try.prog 107 #[.pointer (some ⟨g, 0, none⟩), .slice A1 l1.length c1] w fun e w' => e = .returned (.string r1) ∧ IsS157 w0 w' g s0_0 r2 r3 ∧ Below w0.heap.size w0 w' ∧ KeepBut w w' g none := by
 have gV := aM gF
 have gZ := aM gG
 clear gF gG
 have HI0 := aM hI
 have HK := aM (KeepBut.refl w g none)
 have HL := aM hB.size
 clear hI
 have HW0 := aM hB.size
 have HB := aM hB
 clear hB
 have H : ((spec_l1Below.f s0_0 s0_1 s0_2 (l1.length : Int)).bind fun aK => (if 0 ≤ aK.1 then (if aK.1 < (l1.length : Int) then (some (rdOf ByteArray.empty l1 aK.1, aK.2.1, aK.2.2)) else (none)) else (none))) = some (r1, r2, r3) := h
 clear h
 replace H := oB H
 obtain ⟨⟨bM, fH, fI⟩, cF, H⟩ := H
 (try dsimp only at H)
 have A3 := aM cF
 clear cF
 by_cases c4 : 0 ≤ bM
 ·rw [if_pos c4] at H; have eC : decide (0 ≤ bM) = true := decide_eq_true c4; clear c4; by_cases c5 : bM < (l1.length : Int)
  ·rw [if_pos c5] at H; have dK : decide (bM < (l1.length : Int)) = true := decide_eq_true c5; clear c5; simp only [Option.some.injEq, Prod.mk.injEq] at H; obtain ⟨rfl, rfl, rfl⟩ := H; go_enter Try.func107, Try.ntmps107
   go_wp2_with (first | ((with_reducible refine gC 108 rfl ?_); refine goesLY (some 9) rfl Try.func108 #[.pointer (some ⟨g, 0, none⟩), .int .i64 (l1.length : Int)] ?_; (with_reducible refine (spec_l1Below.calls g s0_0 s0_1 s0_2 (l1.length : Int) bM fH fI w0 _ ?side1 ?side2 A3.out).mono ?_); (case side1 => exact IsS157.s); (case side2 => exact IsS157.B); rintro e w6 ⟨rfl, hi, hb, hk⟩; refine ⟨_, rfl, ?_⟩; replace HK := xhk HK hk; replace HB := aM (hb); replace HI0 := aM (hi); (try clear hb hk hi); have p211 : 0 ≤ (bM : Int) := oda; have q211 : bM < (l1.length : Int) := oda; obtain ⟨eD, fJ, bU⟩ := Kd.at_string gV.out bM p211 q211; cases fJ; replace bU := keep_cell HK.out bU (by first | (rw [add_block]; exact fG _ rfl (by omega)) | exact fG _ rfl (by omega) | exact fG eD rfl (by omega)); replace p211 := eq_true p211; replace q211 := eq_true q211))
   go_ret
   exact ⟨xerr, IsS157.s, IsS157.B, xK⟩
  ·rw [if_neg c5] at H; exact absurd H (by simp)
 ·rw [if_neg c4] at H; exact absurd H (by simp)

/-! ### spec_DrawFromHex: function 43 -/
def spec_DrawFromHex.j0 : Nat → ByteArray → List Int → Int → Int → Option (ByteArray)
 | 0, _, _, _, _ => none
 | k + 1, x4, bV, cN, cO => (spec_l1Once.f bV cN cO 40).bind fun cG => (if cG.1 = true then ((spec_l1Below.f bV cG.2.1 cG.2.2 2).bind fun cH => (if 0 ≤ (wrap64 (8000 + (wrap64 (2 * cH.1)))) then (if (wrap64 (8000 + (wrap64 (2 * cH.1))) : Int).toNat ≤ 281474976710656 then (some (strOfNums (List.replicate (wrap64 (8000 + (wrap64 (2 * cH.1))) : Int).toNat 0))) else (none)) else (none))) else (some x4))
def spec_DrawFromHex.f (k : Nat) (l0 : List Int) : Option (ByteArray) := (spec_l1New.f k l0).bind fun aD => ((spec_l1Size.f l0 12).bind fun bO => ((spec_l1DrawBytes.f k aD.1 aD.2.1 aD.2.2 bO).bind fun bA => ((spec_HexOf.f k bA.1).bind fun bY => ((spec_l1Once.f aD.1 bA.2.1 bA.2.2 3).bind fun aN => (if aN.1 = true then ((spec_l1Pick.f aD.1 aN.2.1 aN.2.2 (([(⟨#[]⟩ : ByteArray), (⟨#[48]⟩ : ByteArray), (⟨#[48, 103]⟩ : ByteArray), (⟨#[65, 66]⟩ : ByteArray), (⟨#[97, 98]⟩ : ByteArray), (⟨#[48, 48, 102, 102]⟩ : ByteArray), (⟨#[97, 32, 98]⟩ : ByteArray)] : List ByteArray))).bind fun aQ => (spec_DrawFromHex.j0 k aQ.1 aD.1 aQ.2.1 aQ.2.2)) else (spec_DrawFromHex.j0 k bY aD.1 aN.2.1 aN.2.2))))))
theorem u3_mq3 {p : Prop} (h : p := by repeat' first | (with_reducible first | exact bW _ _ _ _ | exact spec_HexOf.mono _ _ | exact spec_l1DrawBytes.mono _ _ _ _ _ | exact spec_l1New.mono _ _ | exact LeO.refl _ | exact LeO.none _ | refine LeO.ite ?_ ?_ | refine LeO.bind ?_ (fun _ => ?_)) | exact LeO.none _ | refine LeO.ite ?_ ?_ | refine LeO.bind ?_ (fun _ => ?_)) : p := h
set_option maxRecDepth 100000 in
theorem spec_DrawFromHex.mono_l : ∀ k, (∀ y0 y1 y2 y3, LeO (spec_DrawFromHex.j0 k y0 y1 y2 y3) (spec_DrawFromHex.j0 (k + 1) y0 y1 y2 y3))
 | 0 => fun _ _ _ _ r h => by simp [spec_DrawFromHex.j0] at h
 | k + 1 => by
  have bW := spec_DrawFromHex.mono_l k
  ·intro y0 y1 y2 y3; unfold spec_DrawFromHex.j0; exact u3_mq3
theorem spec_DrawFromHex.mono : ∀ a0 k, LeO (spec_DrawFromHex.f k a0) (spec_DrawFromHex.f (k + 1) a0) := by
 intro a0 k
 have bW := spec_DrawFromHex.mono_l k
 unfold spec_DrawFromHex.f
 exact u3_mq3
set_option maxHeartbeats 8000000 in
set_option maxRecDepth 100000 in
theorem spec_DrawFromHex.calls (k : Nat) (A0 : Option Addr) (c0 : Nat) (l0 : List Int) (r : ByteArray) (w : World) (dQ : Kd.C (Kd.int .u8) w A0 l0.length l0) (dR : l0.length ≤ c0) (h : spec_DrawFromHex.f k l0 = some r) :
 Calls Try.prog 43 #[.slice A0 l0.length c0] w fun e w' => e = .returned (.string r) ∧ Below w.heap.size w w' := by
 have dS := aM dQ
 have eY := aM dR
 clear dQ dR
 have HB := aM (Below.refl w.heap.size w)
 have H : ((spec_l1New.f k l0).bind fun aD => ((spec_l1Size.f l0 12).bind fun bO => ((spec_l1DrawBytes.f k aD.1 aD.2.1 aD.2.2 bO).bind fun bA => ((spec_HexOf.f k bA.1).bind fun bY => ((spec_l1Once.f aD.1 bA.2.1 bA.2.2 3).bind fun aN => (if aN.1 = true then ((spec_l1Pick.f aD.1 aN.2.1 aN.2.2 (([(⟨#[]⟩ : ByteArray), (⟨#[48]⟩ : ByteArray), (⟨#[48, 103]⟩ : ByteArray), (⟨#[65, 66]⟩ : ByteArray), (⟨#[97, 98]⟩ : ByteArray), (⟨#[48, 48, 102, 102]⟩ : ByteArray), (⟨#[97, 32, 98]⟩ : ByteArray)] : List ByteArray))).bind fun aQ => (spec_DrawFromHex.j0 k aQ.1 aD.1 aQ.2.1 aQ.2.2)) else (spec_DrawFromHex.j0 k bY aD.1 aN.2.1 aN.2.2))))))) = some r := h
 clear h
 replace H := oB H
 obtain ⟨⟨aW, eE, eF⟩, gH, H⟩ := H
 (try dsimp only at H)
 have A2 := aM gH
 clear gH
 replace H := oB H
 obtain ⟨bO, cF, H⟩ := H
 (try dsimp only at H)
 have A3 := aM cF
 clear cF
 replace H := oB H
 obtain ⟨⟨cZ, dA, dB⟩, gI, H⟩ := H
 (try dsimp only at H)
 have A4 := aM gI
 clear gI
 replace H := oB H
 obtain ⟨bY, gJ, H⟩ := H
 (try dsimp only at H)
 have A5 := aM gJ
 clear gJ
 replace H := oB H
 obtain ⟨⟨eG, bZ, cA⟩, gK, H⟩ := H
 (try dsimp only at H)
 have A6 := aM gK
 clear gK
 have fK := aM H
 clear H
 go_enter Try.func43, Try.ntmps43
 go_upto_if 13 with (first | ((with_reducible refine gC 103 rfl ?_); refine goesLY (some 6) rfl Try.func103 #[.slice A0 l0.length c0] ?_; (with_reducible refine (spec_l1New.calls k _ _ l0 aW eE eF w _ ?side1 ?side2 ?side3 A2.out).mono ?_); (case side1 => exact xbg); (case side2 => exact dS.out); (case side3 => exact eY.out); rintro e w8 ⟨g215, rfl, hi, hb, gW⟩; refine ⟨_, rfl, ?_⟩; replace HB := aM (hb); have HI215 := aM (hi); (try clear hb gW hi)) | ((with_reducible refine gC 105 rfl ?_); refine goesLY (some 9) rfl Try.func105 #[.slice A0 l0.length c0, .int .i64 12] ?_; (with_reducible refine (spec_l1Size.calls _ _ l0 12 bO _ ?side1 ?side2 A3.out).mono ?_); (case side1 => exact xcb dS); (case side2 => exact eY.out); rintro e w' ⟨rfl, ⟨nd, rfl⟩⟩; refine ⟨_, rfl, ?_⟩) | ((with_reducible refine gC 104 rfl ?_); refine goesLY (some 10) rfl Try.func104 #[.pointer (some ⟨g215, 0, none⟩), .int .i64 bO] ?_; (with_reducible refine (spec_l1DrawBytes.calls k g215 aW eE eF bO cZ dA dB w _ ?side1 ?side2 A4.out).mono ?_); (case side1 => exact u3_2); (case side2 => exact u3_1); rintro e w9 ⟨v218, rfl, gL, hi, hb, hk⟩; refine ⟨_, rfl, ?_⟩; have aT := aM (Kd.R_lower gL (below_size u3_1)); replace HB := aM (hb); replace HI215 := aM (hi); (try clear hb hk hi gL); obtain ⟨fL, fM, fN⟩ := Kd.R_slice aT.out; subst fN) | ((with_reducible refine gC 81 rfl ?_); refine goesLY (some 11) rfl Try.func81 #[.slice fL cZ.length fM] ?_; (with_reducible refine (spec_HexOf.calls k _ _ cZ bY _ ?side1 ?side2 A5.out).mono ?_); (case side1 => exact xC aT); (case side2 => exact (Kd.R_reads' aT.out).2.1); rintro e hJ ⟨rfl, hb⟩; refine ⟨_, rfl, ?_⟩; replace aT := xrb aT hb; replace HB := aM (below_step u3_1 hb); replace HI215 := aM (IsS157.below u3_2 hb); (try clear hb)) | ((with_reducible refine gC 106 rfl ?_); refine goesLY (some 13) rfl Try.func106 #[.pointer (some ⟨g215, 0, none⟩), .int .i64 3] ?_; (with_reducible refine (spec_l1Once.calls g215 aW dA dB 3 eG bZ cA w _ ?side1 ?side2 A6.out).mono ?_); (case side1 => exact u3_2); (case side2 => exact u3_1); rintro e gT ⟨rfl, hi, hb, hk⟩; refine ⟨_, rfl, ?_⟩; replace aT := aM (Kd.R_mono (Kd.R_keep (IsS157.apart (show IsS157 w _ g215 aW dA dB from by repeat (first | (with_reducible first | exact HI215.out | apply IsS157.alloc | apply IsS157.drewN | apply IsS157.drew | apply IsS157.set_1 | apply IsS157.set_2) | exact HI215.out)) (xr aT) (by decide)) hk (fun _ h => h.2)) (fun _ h => h.1)); replace HB := aM (hb); replace HI215 := aM (hi); (try clear hb hk hi)))
 (try simp only [Act.put, List.setIfInBounds_toArray, List.set_cons_zero, List.set_cons_succ])
 go_cut [4] (fun v4 wc => ∃ (kq : Nat) (dC : ByteArray) (aH : Int) (aI : Int), v4 = .string dC ∧ Aside0 (spec_DrawFromHex.j0 kq dC aW aH aI = some r) ∧ Aside0 (kq ≤ k) ∧ Aside0 (IsS157 w wc g215 aW aH aI) ∧ Aside0 (Below w.heap.size w wc))
 case first =>
  have H := fK.out; clear fK; by_cases cL : eG = true
  ·subst cL; replace H := iT H; obtain ⟨dD, hY⟩ : ∃ y_ : List ByteArray, y_ = (([(⟨#[]⟩ : ByteArray), (⟨#[48]⟩ : ByteArray), (⟨#[48, 103]⟩ : ByteArray), (⟨#[65, 66]⟩ : ByteArray), (⟨#[97, 98]⟩ : ByteArray), (⟨#[48, 48, 102, 102]⟩ : ByteArray), (⟨#[97, 32, 98]⟩ : ByteArray)] : List ByteArray)) := ⟨_, rfl⟩; replace H : ((spec_l1Pick.f aW bZ cA dD).bind fun aQ => (spec_DrawFromHex.j0 k aQ.1 aW aQ.2.1 aQ.2.2)) = some r := u3_4; have cV := aM hY; clear hY; replace H := oB H; obtain ⟨⟨eH, eI, eJ⟩, eK, H⟩ := H; (try dsimp only at H); have gX := aM eK; clear eK
   have H' := aM H; clear H; go_wp2_with (first | ((with_reducible refine gD 15 rfl ?_); refine Kd.R_lit Kd.string _ 9 ?hg (N := 15) ?hd (xs := ([(⟨#[]⟩ : ByteArray), (⟨#[48]⟩ : ByteArray), (⟨#[48, 103]⟩ : ByteArray), (⟨#[65, 66]⟩ : ByteArray), (⟨#[97, 98]⟩ : ByteArray), (⟨#[48, 48, 102, 102]⟩ : ByteArray), (⟨#[97, 32, 98]⟩ : ByteArray)] : List ByteArray)) (inner := [.string (⟨#[]⟩ : ByteArray), .string (⟨#[48]⟩ : ByteArray), .string (⟨#[48, 103]⟩ : ByteArray), .string (⟨#[65, 66]⟩ : ByteArray), .string (⟨#[97, 98]⟩ : ByteArray), .string (⟨#[48, 48, 102, 102]⟩ : ByteArray), .string (⟨#[97, 32, 98]⟩ : ByteArray)]) (ok := fun _ => True) (okp := fun _ => True) ?hr ?hp (fun _ hk => hk) trivial (Below.refl _ _) (Nat.le_refl _) (by simp) ?_; (case hd => rfl); (case hg => rfl); (case hr => exact u3_5); (case hp => exact (Reps.one (show Kd.M Kd.string _ _ _ (⟨#[]⟩ : ByteArray) [.string (⟨#[]⟩ : ByteArray)] from rfl) (Reps.one (show Kd.M Kd.string _ _ _ (⟨#[48]⟩ : ByteArray) [.string (⟨#[48]⟩ : ByteArray)] from rfl) (Reps.one (show Kd.M Kd.string _ _ _ (⟨#[48, 103]⟩ : ByteArray) [.string (⟨#[48, 103]⟩ : ByteArray)] from rfl) (Reps.one (show Kd.M Kd.string _ _ _ (⟨#[65, 66]⟩ : ByteArray) [.string (⟨#[65, 66]⟩ : ByteArray)] from rfl) (Reps.one (show Kd.M Kd.string _ _ _ (⟨#[97, 98]⟩ : ByteArray) [.string (⟨#[97, 98]⟩ : ByteArray)] from rfl) (Reps.one (show Kd.M Kd.string _ _ _ (⟨#[48, 48, 102, 102]⟩ : ByteArray) [.string (⟨#[48, 48, 102, 102]⟩ : ByteArray)] from rfl) (Reps.one (show Kd.M Kd.string _ _ _ (⟨#[97, 32, 98]⟩ : ByteArray) [.string (⟨#[97, 32, 98]⟩ : ByteArray)] from rfl) (Reps.none _ _))))))))); intro v227 gU cI hb hg_ hnew_; clear hg_ hnew_; (first | rw [← cV.out] at cI | (simp only [Int.reduceToNat] at cI; rw [← cV.out] at cI)); replace aT := xrb aT hb; have bB := aM (Kd.R_lower cI (below_size u3_1)); replace HB := aM (below_step u3_1 hb); replace HI215 := aM (IsS157.below u3_2 hb); clear hb cI; obtain ⟨fO, fP, fQ⟩ := Kd.R_slice bB.out; subst fQ) | ((with_reducible refine gC 107 rfl ?_); refine goesLY (some 16) rfl Try.func107 #[.pointer (some ⟨g215, 0, none⟩), .slice fO dD.length fP] ?_; (with_reducible refine (spec_l1Pick.calls g215 aW bZ cA _ _ dD eH eI eJ w _ ?side1 ?side2 ?side3 ?side4 ?side5 gX.out).mono ?_); (case side1 => exact u3_2); (case side2 => exact u3_1); (case side3 => exact xC bB); (case side4 => exact (Kd.R_reads' bB.out).2.1); (case side5 => exact far_slice (IsS157.own_ne HI215.out bB.out (by decide))); rintro e hU ⟨rfl, hi, hb, hk⟩; refine ⟨_, rfl, ?_⟩; replace aT := aM (Kd.R_mono (Kd.R_keep (IsS157.apart (show IsS157 w _ g215 aW bZ cA from by repeat (first | (with_reducible first | exact HI215.out | apply IsS157.alloc | apply IsS157.drewN | apply IsS157.drew | apply IsS157.set_1 | apply IsS157.set_2) | exact HI215.out)) (xr aT) (by decide)) hk (fun _ h => h.2)) (fun _ h => h.1)); replace bB := aM (Kd.R_mono (Kd.R_keep (IsS157.apart (show IsS157 w _ g215 aW bZ cA from by repeat (first | (with_reducible first | exact HI215.out | apply IsS157.alloc | apply IsS157.drewN | apply IsS157.drew | apply IsS157.set_1 | apply IsS157.set_2) | exact HI215.out)) (xr bB) (by decide)) hk (fun _ h => h.2)) (fun _ h => h.1)); replace HB := aM (hb); replace HI215 := aM (hi); (try clear hb hk hi)))
   go_meet
   case rel => exact ⟨_, (eH), (eI), (eJ), u3_0, H', ⟨u3_6⟩, ⟨u3_2⟩, ⟨u3_1⟩⟩
  ·replace cL := Bool.eq_false_iff.mpr cL; subst cL; replace H := iN H; have H' := aM H; clear H; go_wp2; go_meet
   case rel => exact ⟨_, (bY), (bZ), (cA), u3_0, H', ⟨u3_6⟩, ⟨u3_2⟩, ⟨u3_1⟩⟩
 case rest =>
  clear fK; try clear c1
  try clear p2
  try clear c4
  try clear c8
  try clear c10
  try clear cL
  obtain ⟨kq, dC, aH, aI, rfl, HA, HJ6, HI215, HB⟩ := hcut; cases kq with
  | zero => exact absurd HA.out (by simp [spec_DrawFromHex.j0])
  | succ hX =>
   have H := HA.out; clear HA; simp only [spec_DrawFromHex.j0] at H; replace H := oB H; obtain ⟨⟨fR, dE, dF⟩, eL, H⟩ := H; (try dsimp only at H); have fS := aM eL; clear eL
   by_cases eT : fR = true
   ·subst eT; replace H := iT H; replace H := oB H; obtain ⟨⟨dG, fT, fU⟩, eM, H⟩ := H; (try dsimp only at H); have gM := aM eM; clear eM
    obtain ⟨ji22, hji22⟩ : ∃ j_ : Int, (wrap64 (8000 + (wrap64 (2 * dG)))) = j_ := ⟨_, rfl⟩; replace H : (if 0 ≤ (ji22) then (if (ji22 : Int).toNat ≤ 281474976710656 then (some (strOfNums (List.replicate (ji22 : Int).toNat 0))) else (none)) else (none)) = some r := by first | (rw [hji22] at H; exact H) | (simp only [hji22] at H ⊢; exact H)
    (try rw [hji22] at fS); (try rw [hji22] at gM); have hji22w : (IntKind.i64.wrap (8000 + (wrap64 (2 * dG)))) = ji22 := (i64_w _).trans hji22; by_cases eN : 0 ≤ (ji22)
    ·rw [if_pos eN] at H; have gN := eq_true eN; have gO : decide (0 ≤ (ji22)) = true := decide_eq_true eN; clear eN; by_cases eO : (ji22 : Int).toNat ≤ 281474976710656
     ·rw [if_pos eO] at H; have gP := eq_true eO; have gQ : decide ((ji22 : Int).toNat ≤ 281474976710656) = true := decide_eq_true eO; clear eO; obtain ⟨fV, hY⟩ : ∃ y_ : List Int, y_ = (List.replicate (ji22 : Int).toNat 0) := ⟨_, rfl⟩; replace H : (some (strOfNums fV)) = some r := u3_4; have cW := aM hY; clear hY; obtain rfl := Option.some.inj H; go_wp2_with (first | ((with_reducible refine gC 106 rfl ?_); refine goesLY (some 18) rfl Try.func106 #[.pointer (some ⟨g215, 0, none⟩), .int .i64 40] ?_; (with_reducible refine (spec_l1Once.calls g215 aW aH aI 40 true dE dF w _ ?side1 ?side2 fS.out).mono ?_); (case side1 => exact u3_2); (case side2 => exact u3_1); rintro e hZ ⟨rfl, hi, hb, hk⟩; refine ⟨_, rfl, ?_⟩; replace HB := aM (hb); replace HI215 := aM (hi); (try clear hb hk hi)) | ((with_reducible refine gC 108 rfl ?_); refine goesLY (some 20) rfl Try.func108 #[.pointer (some ⟨g215, 0, none⟩), .int .i64 2] ?_; (with_reducible refine (spec_l1Below.calls g215 aW dE dF 2 dG fT fU w _ ?side1 ?side2 gM.out).mono ?_); (case side1 => exact u3_2); (case side2 => exact u3_1); rintro e iA ⟨rfl, hi, hb, hk⟩; refine ⟨_, rfl, ?_⟩; replace HB := aM (hb); replace HI215 := aM (hi); (try clear hb hk hi)) | ((with_reducible refine gD 23 rfl ?_); refine Kd.R_make (Kd.int .u8) _ 5 rfl (N := 23) rfl 22 _ _ rfl ji22 rfl rfl Try.underlying22 (.int .u8 0) 1 info5 rfl (by decide) (by omega) 0 (ok := fun _ => True) (okp := fun _ => True) rfl (fun _ hk => hk) trivial (oda) (Nat.le_trans (Nat.mul_le_mul_right _ (oda : ji22.toNat ≤ 281474976710656)) (by omega)) (Below.refl _ _) (Nat.le_refl _) ?_; intro v239 iB cJ hb hg_ hnew_; clear hg_ hnew_; (first | rw [← cW.out] at cJ | (simp only [Int.reduceToNat] at cJ; rw [← cW.out] at cJ)); have eP := aM (Kd.R_lower cJ (below_size u3_1)); replace HB := aM (below_step u3_1 hb); replace HI215 := aM (IsS157.below u3_2 hb); clear hb cJ; have hcv29 := own_string (P := Try.prog) Try.underlying22 Try.underlying5 Try.underlying9 (Kd.own_of_R eP.out)))
      go_ret
      exact ⟨by first | rfl | (simp [errW_none, errW_some] <;> rfl) | (simp only [← hji22]; first | rfl | (simp [errW_none, errW_some] <;> rfl)) | (simp [*, errW_none, errW_some] <;> rfl), u3_1⟩
     ·rw [if_neg eO] at H; exact absurd H (by simp)
    ·rw [if_neg eN] at H; exact absurd H (by simp)
   ·replace eT := Bool.eq_false_iff.mpr eT; subst eT; replace H := iN H; obtain rfl := Option.some.inj H; go_wp2_with (first | ((with_reducible refine gC 106 rfl ?_); refine goesLY (some 18) rfl Try.func106 #[.pointer (some ⟨g215, 0, none⟩), .int .i64 40] ?_; (with_reducible refine (spec_l1Once.calls g215 aW aH aI 40 false dE dF w _ ?side1 ?side2 fS.out).mono ?_); (case side1 => exact u3_2); (case side2 => exact u3_1); rintro e iC ⟨rfl, hi, hb, hk⟩; refine ⟨_, rfl, ?_⟩; replace HB := aM (hb); replace HI215 := aM (hi); (try clear hb hk hi)))
    go_ret
    exact ⟨u3_7, u3_1⟩

/-! ### spec_l2Value: function 109 -/
def spec_l2Value.l0 : Nat → Int → Int → Option (Int)
 | 0, _, _ => none
 | k + 1, x0, x3 => if x3 < 16 then ((spec_l2Digit.f x3).bind fun cK => (if cK = x0 then (some x3) else (spec_l2Value.l0 k x0 (wrap64 (x3 + 1))))) else (some (-1))
def spec_l2Value.f (k : Nat) (a0 : Int) : Option (Int) := spec_l2Value.l0 k a0 0
set_option maxRecDepth 100000 in
theorem spec_l2Value.mono_l : ∀ k, (∀ y0 y1, LeO (spec_l2Value.l0 k y0 y1) (spec_l2Value.l0 (k + 1) y0 y1))
 | 0 => fun _ _ r h => by simp [spec_l2Value.l0] at h
 | k + 1 => by
  have bW := spec_l2Value.mono_l k
  ·intro y0 y1; unfold spec_l2Value.l0; exact u3_mq0
theorem spec_l2Value.mono : ∀ a0 k, LeO (spec_l2Value.f k a0) (spec_l2Value.f (k + 1) a0) := by
 intro a0 k
 have bW := spec_l2Value.mono_l k
 unfold spec_l2Value.f
 exact u3_mq0
set_option maxHeartbeats 8000000 in
set_option maxRecDepth 100000 in
theorem spec_l2Value.calls (k : Nat) (a0 : Int) (r : Int) (w : World) (h : spec_l2Value.f k a0 = some r) :
 Calls Try.prog 109 #[.int .u8 a0] w fun e w' => e = .returned (.int .i64 r) ∧ Drawn0 w w' := by
 have H : (spec_l2Value.l0 k a0 0) = some r := h
 clear h
 have H' := aM H
 clear H
 go_enter Try.func109, Try.ntmps109
 go_wp2
 go_loopg [3] k (fun kq v3 w' => ∃ (aG : Int), v3 = .int .i64 aG ∧ Aside0 (spec_l2Value.l0 kq a0 aG = some r) ∧ Aside0 (kq ≤ k) ∧ Drawn0 w w')
 case atStart => exact ⟨(0), u3_0, H', ⟨Nat.le_refl _⟩, u3_3⟩
 case round =>
  clear H'; try clear c1
  obtain ⟨aG, rfl, HA, HK1, ⟨m1, rfl⟩⟩ := hrel; cases gk with
  | zero => exact absurd HA.out (by simp [spec_l2Value.l0])
  | succ k1 =>
   have H := HA.out; clear HA; simp only [spec_l2Value.l0] at H; by_cases c2 : aG < 16
   ·rw [if_pos c2] at H; have bN : decide (aG < 16) = true := decide_eq_true c2; clear c2; replace H := oB H; obtain ⟨cK, cF, H⟩ := H; (try dsimp only at H); have A3 := aM cF; clear cF
    by_cases c4 : cK = a0
    ·rw [if_pos c4] at H; obtain ⟨eC, fW⟩ := bT c4; clear c4; obtain rfl := Option.some.inj H; go_wp2_with (first | ((with_reducible refine gC 144 rfl ?_); refine goesLY (some 9) rfl Try.func144 #[.int .i64 aG] ?_; (with_reducible refine (spec_l2Digit.calls aG cK _ A3.out).mono ?_); rintro e w' ⟨rfl, ⟨nd, rfl⟩⟩; refine ⟨_, rfl, ?_⟩))
     go_ret
     exact ⟨u3_0, u3_3⟩
    ·rw [if_neg c4] at H; obtain ⟨eC, fW⟩ := bF c4; have H' := aM H; clear H; go_wp2_with (first | ((with_reducible refine gC 144 rfl ?_); refine goesLY (some 9) rfl Try.func144 #[.int .i64 aG] ?_; (with_reducible refine (spec_l2Digit.calls aG cK _ A3.out).mono ?_); rintro e w' ⟨rfl, ⟨nd, rfl⟩⟩; refine ⟨_, rfl, ?_⟩))
     go_roundg k1
     case measure => have := HK1.out; omega
     case rel => exact ⟨(wrap64 (aG + 1)), u3_0, H', ⟨by have := HK1.out; omega⟩, u3_3⟩
   ·rw [if_neg c2] at H; have bN : decide (aG < 16) = false := decide_eq_false c2; clear c2; obtain rfl := Option.some.inj H; go_wp2; go_ret
    exact ⟨u3_0, u3_3⟩

end Go.Proofs.Ytoojdlobnbakoaa.QFnHex
