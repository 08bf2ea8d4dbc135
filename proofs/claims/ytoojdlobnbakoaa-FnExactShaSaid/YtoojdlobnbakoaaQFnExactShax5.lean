-- A walk, by a program of this session.
import Derived.Test.YtoojdlobnbakoaaQFnExactShax0
import Derived.Test.YtoojdlobnbakoaaQFnExactShax3
import Derived.Test.YtoojdlobnbakoaaQFnExactShax4
namespace Go.Proofs.Ytoojdlobnbakoaa.QFnExactSha
open Go.RowKit Go.Proofs.YtoojdlobnbakoaaW.PrintWords Go.Proofs.YtoojdlobnbakoaaW.PrintLast Go.Proofs.YtoojdlobnbakoaaW.PrintMore
attribute [local go_sem] max2_int min2_int max_two min_two max_three min_three max_four min_four   -- for this text's walks alone
set_option linter.unusedVariables false
set_option linter.unusedSimpArgs false

theorem u5_0 {p : Prop} (h : p := by first | rfl | (simp; done) | (simp [*]; done)) : p := h
theorem u5_1 {p : Prop} (h : p := by repeat (first | exact Drawn0.refl _ | apply Drawn0.step)) : p := h
theorem u5_2 {p : Prop} (h : p := by (try simp only [List.map_toArray, List.map_cons, List.map_nil]); first | done | (rw [show aP.length = aC.length from (Kd.R_reads' aF.out).1.symm] <;> rfl) | rfl | (simp only [List.length_drop, List.length_take]; rfl)) : p := h
theorem u5_3 {p : Prop} (h : p := by rw [show aP.length = aC.length from (Kd.R_reads' aF.out).1.symm]; exact (Kd.R_reads' aF.out).2.1) : p := h
theorem u5_4 {p : Prop} (h : p := by exact Kd.R_tight rfl aF.out) : p := h
theorem u5_5 {p : Prop} (h : p := by exact (Kd.R_reads' aG.out).2.1) : p := h
theorem u5_6 {p : Prop} (h : p := by repeat (first | (with_reducible first | exact HK.out | apply Kept.alloc | apply Kept.drewN | apply Kept.drew) | exact HK.out)) : p := h
theorem u5_7 {p : Prop} (h : p := by (with_reducible repeat (first | apply Kd.R_alloc | apply Kd.R_drewN | apply Kd.R_drew)); exact bE.out) : p := h
theorem u5_8 {p : Prop} (h : p := by (with_reducible repeat (first | apply Kd.R_alloc | apply Kd.R_drewN | apply Kd.R_drew)); exact Kd.R_mono aB.out (fun _ hk => hk.2.2.1)) : p := h
theorem u5_9 {p : Prop} (h : p := by (with_reducible repeat (first | apply Kd.R_alloc | apply Kd.R_drewN | apply Kd.R_drew)); exact Kd.R_mono aN.out (fun _ hk => hk.2.1)) : p := h
/-! ### laws_eqByteS: function 33 -/
def laws_eqByteS.l0 : Nat → List Int → List Int → Int → Option (Bool)
 | 0, _, _, _ => none
 | k + 1, x0, x1, x5 => if x5 < (x0.length : Int) then (if 0 ≤ x5 then (if x5 < (x1.length : Int) then (if (rd x0 x5) = (rd x1 x5) then (laws_eqByteS.l0 k x0 x1 (wrap64 (x5 + 1))) else (some false)) else (none)) else (none)) else (some true)
def laws_eqByteS.f (k : Nat) (l0 : List Int) (l1 : List Int) : Option (Bool) := if (l0.length : Int) = (l1.length : Int) then (laws_eqByteS.l0 k l0 l1 0) else (some false)
theorem u5_mq0 {p : Prop} (h : p := by repeat' first | (with_reducible first | exact bX _ _ _ | exact LeO.refl _ | exact LeO.none _ | refine LeO.ite ?_ ?_ | refine LeO.bind ?_ (fun _ => ?_)) | exact LeO.none _ | refine LeO.ite ?_ ?_ | refine LeO.bind ?_ (fun _ => ?_)) : p := h
set_option maxRecDepth 100000 in
theorem laws_eqByteS.mono_l : ∀ k, (∀ y0 y1 y2, LeO (laws_eqByteS.l0 k y0 y1 y2) (laws_eqByteS.l0 (k + 1) y0 y1 y2))
 | 0 => fun _ _ _ r h => by simp [laws_eqByteS.l0] at h
 | k + 1 => by
  have bX := laws_eqByteS.mono_l k
  ·intro y0 y1 y2; unfold laws_eqByteS.l0; exact u5_mq0
theorem laws_eqByteS.mono : ∀ a0 a1 k, LeO (laws_eqByteS.f k a0 a1) (laws_eqByteS.f (k + 1) a0 a1) := by
 intro a0 a1 k
 have bX := laws_eqByteS.mono_l k
 unfold laws_eqByteS.f
 exact u5_mq0
set_option maxHeartbeats 8000000 in
set_option maxRecDepth 100000 in
theorem laws_eqByteS.calls (k : Nat) (A0 : Option Addr) (c0 : Nat) (l0 : List Int) (A1 : Option Addr) (c1 : Nat) (l1 : List Int) (r : Bool) (w : World) (bV : Kd.C (Kd.int .u8) w A0 l0.length l0) (bW : l0.length ≤ c0) (gN : Kd.C (Kd.int .u8) w A1 l1.length l1) (gO : l1.length ≤ c1) (h : laws_eqByteS.f k l0 l1 = some r) :
 Calls Try.prog 33 #[.slice A0 l0.length c0, .slice A1 l1.length c1] w fun e w' => e = .returned (.bool r) ∧ Drawn0 w w' := by
 have bK := aM bV
 have bM := aM bW
 clear bV bW
 have gP := aM gN
 have iG := aM gO
 clear gN gO
 have H : (if (l0.length : Int) = (l1.length : Int) then (laws_eqByteS.l0 k l0 l1 0) else (some false)) = some r := h
 clear h
 by_cases c3 : (l0.length : Int) = (l1.length : Int)
 ·rw [if_pos c3] at H; obtain ⟨bO, cT⟩ := bT c3; have cU : (l0.length == l1.length) = true := by first | simpa using c3 | (simp at c3 ⊢; omega)
  clear c3; have H' := aM H; clear H; go_enter Try.func33, Try.ntmps33
  go_wp2
  repeat (go_quiet (fail); try go_wp2)
  go_loopg [5] k (fun kq v5 w' => ∃ (aD : Int), v5 = .int .i64 aD ∧ Aside0 (laws_eqByteS.l0 kq l0 l1 aD = some r) ∧ Aside0 (kq ≤ k) ∧ Drawn0 w w')
  case atStart => exact ⟨(0), u5_0, H', ⟨Nat.le_refl _⟩, u5_1⟩
  case round =>
   clear H'; try clear c1
   try clear p2
   try clear c3
   try clear bO
   try clear cT
   try clear cU
   obtain ⟨aD, rfl, HA, HK1, ⟨m1, rfl⟩⟩ := hrel; cases gk with
   | zero => exact absurd HA.out (by simp [laws_eqByteS.l0])
   | succ k1 =>
    have H := HA.out; clear HA; simp only [laws_eqByteS.l0] at H; by_cases c4 : aD < (l0.length : Int)
    ·rw [if_pos c4] at H; have cG : decide (aD < (l0.length : Int)) = true := decide_eq_true c4; clear c4; by_cases c5 : 0 ≤ aD
     ·rw [if_pos c5] at H; have cV : decide (0 ≤ aD) = true := decide_eq_true c5; clear c5; by_cases c6 : aD < (l1.length : Int)
      ·rw [if_pos c6] at H; have hU : decide (aD < (l1.length : Int)) = true := decide_eq_true c6; clear c6; by_cases c7 : (rd l0 aD) = (rd l1 aD)
       ·rw [if_pos c7] at H; obtain ⟨eD, eE⟩ := bT c7; clear c7; have H' := aM H; clear H; have p221 : 0 ≤ (aD : Int) := oda; have q221 : aD < (l0.length : Int) := oda; obtain ⟨cW, cH, bY⟩ := Kd.at_int bK.out aD p221 q221; cases cH
        replace p221 := eq_true p221; replace q221 := eq_true q221; have p222 : 0 ≤ (aD : Int) := oda; have q222 : aD < (l1.length : Int) := oda; obtain ⟨cX, cI, bZ⟩ := Kd.at_int gP.out aD p222 q222; cases cI
        replace p222 := eq_true p222; replace q222 := eq_true q222; go_wp2
        repeat (go_quiet (fail); try go_wp2)
        go_roundg k1
        case measure => have := HK1.out; omega
        case rel => exact ⟨(wrap64 (aD + 1)), u5_0, H', ⟨by have := HK1.out; omega⟩, u5_1⟩
       ·rw [if_neg c7] at H; obtain ⟨eD, eE⟩ := bF c7; obtain rfl := Option.some.inj H; have p221 : 0 ≤ (aD : Int) := oda; have q221 : aD < (l0.length : Int) := oda; obtain ⟨cW, cH, bY⟩ := Kd.at_int bK.out aD p221 q221; cases cH
        replace p221 := eq_true p221; replace q221 := eq_true q221; have p222 : 0 ≤ (aD : Int) := oda; have q222 : aD < (l1.length : Int) := oda; obtain ⟨cX, cI, bZ⟩ := Kd.at_int gP.out aD p222 q222; cases cI
        replace p222 := eq_true p222; replace q222 := eq_true q222; go_wp2
        repeat (go_quiet (fail); try go_wp2)
        go_ret
        exact ⟨u5_0, u5_1⟩
      ·rw [if_neg c6] at H; exact absurd H (by simp)
     ·rw [if_neg c5] at H; exact absurd H (by simp)
    ·rw [if_neg c4] at H; have cG : decide (aD < (l0.length : Int)) = false := decide_eq_false c4; clear c4; obtain rfl := Option.some.inj H; go_wp2
     repeat (go_quiet (fail); try go_wp2)
     go_ret
     exact ⟨u5_0, u5_1⟩
 ·rw [if_neg c3] at H; obtain ⟨bO, cT⟩ := bF c3; have cU : (l0.length == l1.length) = false := by first | simpa using c3 | (simp at c3 ⊢; omega)
  obtain rfl := Option.some.inj H; go_enter Try.func33, Try.ntmps33
  go_wp2
  repeat (go_quiet (fail); try go_wp2)
  go_ret
  exact ⟨u5_0, u5_1⟩

/-! ### laws_markByteS: function 34 -/
def laws_markByteS.l0 : Nat → List Int → Int → Int → Option (Int × List Int)
 | 0, _, _, _ => none
 | k + 1, x0, x1, x5 => if x5 < (x0.length : Int) then (if 0 ≤ x5 then (laws_markByteS.l0 k (x0.set (x5 : Int).toNat ((x1) % 256)) (wrap64 (x1 + 1)) (wrap64 (x5 + 1))) else (none)) else (some (x1, x0))
def laws_markByteS.f (k : Nat) (l0 : List Int) (a1 : Int) : Option (Int × List Int) := laws_markByteS.l0 k l0 a1 0
set_option maxRecDepth 100000 in
theorem laws_markByteS.mono_l : ∀ k, (∀ y0 y1 y2, LeO (laws_markByteS.l0 k y0 y1 y2) (laws_markByteS.l0 (k + 1) y0 y1 y2))
 | 0 => fun _ _ _ r h => by simp [laws_markByteS.l0] at h
 | k + 1 => by
  have bX := laws_markByteS.mono_l k
  ·intro y0 y1 y2; unfold laws_markByteS.l0; exact u5_mq0
theorem laws_markByteS.mono : ∀ a0 a1 k, LeO (laws_markByteS.f k a0 a1) (laws_markByteS.f (k + 1) a0 a1) := by
 intro a0 a1 k
 have bX := laws_markByteS.mono_l k
 unfold laws_markByteS.f
 exact u5_mq0
set_option maxHeartbeats 8000000 in
set_option maxRecDepth 100000 in
theorem laws_markByteS.calls (k : Nat) (P0_ : Nat → Prop) (u9000_ : Value) (l0 : List Int) (a1 : Int) (r1 : Int) (r2 : List Int) (w0 w : World) (hB : Below w0.heap.size w0 w) (aE : Kd.R (Kd.int .u8) 5 w w0.heap.size P0_ u9000_ l0) (h : laws_markByteS.f k l0 a1 = some (r1, r2)) :
 Calls Try.prog 34 #[u9000_, .int .i64 a1] w fun e w' => e = .returned (.int .i64 r1) ∧ Kd.R (Kd.int .u8) 5 w' w0.heap.size (fun k_ => (P0_ k_ ∨ w.heap.size ≤ k_)) u9000_ r2 ∧ Below w0.heap.size w0 w' ∧ Kept w w' (fun k_ => P0_ k_) := by
 have hX := aM (show Kd.R (Kd.int .u8) 5 w w0.heap.size (fun k_ => (P0_ k_ ∨ w.heap.size ≤ k_)) u9000_ l0 from Kd.R_mono aE (fun k_ hk => (.inl hk)))
 have HK := aM (Kept.refl w (fun k_ => P0_ k_))
 have HW0 := aM hB.size
 have HB := aM hB
 clear hB
 have H : (laws_markByteS.l0 k l0 a1 0) = some (r1, r2) := h
 clear h
 have H' := aM H
 clear H
 go_enter Try.func34, Try.ntmps34
 go_wp2
 go_loopg [1, 5] k (fun kq v1 v5 w' => ∃ (bG : List Int) (aT : Int) (aD : Int), v1 = .int .i64 aT ∧ v5 = .int .i64 aD ∧ Aside0 (laws_markByteS.l0 kq bG aT aD = some (r1, r2)) ∧ Aside0 (kq ≤ k) ∧ Aside0 (Kd.R (Kd.int .u8) 5 w' w0.heap.size (fun k_ => (P0_ k_ ∨ w.heap.size ≤ k_)) u9000_ bG) ∧ Aside0 (Kept w w' (fun k_ => P0_ k_)) ∧ Aside0 (Below w0.heap.size w0 w'))
 case atStart => exact ⟨(l0), (a1), (0), u5_0, u5_0, H', ⟨Nat.le_refl _⟩, ⟨by (with_reducible repeat (first | apply Kd.R_alloc | apply Kd.R_drewN | apply Kd.R_drew)); exact hX.out⟩, ⟨u5_6⟩, ⟨xbel⟩⟩
 case round =>
  clear H'; try clear p2
  obtain ⟨bG, aT, aD, rfl, rfl, HA, HK1, bE, HK, HB⟩ := hrel; cases gk with
  | zero => exact absurd HA.out (by simp [laws_markByteS.l0])
  | succ k1 =>
   have H := HA.out; clear HA; simp only [laws_markByteS.l0] at H; by_cases c3 : aD < (bG.length : Int)
   ·rw [if_pos c3] at H; have bO : decide (aD < (bG.length : Int)) = true := decide_eq_true c3; clear c3; by_cases c4 : 0 ≤ aD
    ·rw [if_pos c4] at H; have cG : decide (0 ≤ aD) = true := decide_eq_true c4; clear c4; obtain ⟨cJ, hY⟩ : ∃ y_ : List Int, y_ = (bG.set (aD : Int).toNat ((aT) % 256)) := ⟨_, rfl⟩; replace H : (laws_markByteS.l0 k1 cJ (wrap64 (aT + 1)) (wrap64 (aD + 1))) = some (r1, r2) := by first | (rw [hY]; with_reducible exact H) | (have H2_ := oS H; rw [hY]; with_reducible exact H2_) | (have H2_ := oS H; with_reducible exact H2_) | with_reducible exact H | (rw [hY]; exact H) | exact H
     have cY := aM hY; clear hY; have H' := aM H; clear H; obtain ⟨iH, hZ, iA⟩ := Kd.R_slice bE.out; subst iA; have p5 : 0 ≤ (aD : Int) := oda; have q5 : (aD : Int) < ((bG.length : Int) : Int) := oda; obtain ⟨cZ, iI, gQ, gR, gl5, cl5, HG5⟩ := Kd.R_form bE.out (by omega); (first | cases gQ | (injection gQ with ea_ en_ ec_; (first | subst ea_ | (injection ea_ with ea_; subst ea_)); subst ec_; clear en_)); have GB5 := aM gR; have GG5 := aM HG5; clear gR gl5 HG5; have HMgo5 := aM (show (P0_ cZ ∨ w.heap.size ≤ cZ) from (bE.out.1 _ rfl)); obtain ⟨gS, gT⟩ := Kd.R_celln 0 bE.out (aD : Int) p5 q5; replace p5 := eq_true p5; replace q5 := eq_true q5; have eF := Kd.R_putg bE.out (aD : Int) ((aT) % 256); go_wp2_with (first | ((with_reducible refine gate_store (t := 5) (p := 16) rfl ?_); refine store_event (t := 5) (p := 16) (v := ?vo_w8) (w1 := (wr.setCell ⟨cZ, (aD : Int).toNat, none⟩ (.int .u8 ((aT) % 256)))) ?hg ?ho ?hn ?hr ?_; (case ho | hg | hn => rfl); (case hr => first | (go_simp; done) | (go_simp; rfl)); intro w8 hw; have hg : wr.grownBy w8 (some cZ) := (by rw [hw]; exact eF.2); have hp_ : Kd.R (Kd.int .u8) 5 w8 w0.heap.size (fun k_ => (P0_ k_ ∨ w.heap.size ≤ k_)) (.slice (some ⟨cZ, 0, none⟩) bG.length hZ) cJ := (by rw [hw, cY.out]; exact eF.1); clear eF; replace HB := aM ((by rw [hw]; exact below_set (HB.out) GB5.out : Below w0.heap.size w0 w8)); replace HK := aM (Kept.of_grown (S := (fun k_ => P0_ k_)) hg u5_6 (fun k_ e_ => (bE.out.1 k_ e_))); replace bE := aM (hp_); clear hg hw hp_))
     go_roundg k1
     case measure => have := HK1.out; omega
     case rel => exact ⟨(cJ), (wrap64 (aT + 1)), (wrap64 (aD + 1)), u5_0, u5_0, H', ⟨by have := HK1.out; omega⟩, ⟨u5_7⟩, ⟨u5_6⟩, ⟨xbel⟩⟩
    ·rw [if_neg c4] at H; exact absurd H (by simp)
   ·rw [if_neg c3] at H; have bO : decide (aD < (bG.length : Int)) = false := decide_eq_false c3; clear c3; simp only [Option.some.injEq, Prod.mk.injEq] at H; obtain ⟨rfl, rfl⟩ := H; obtain ⟨iJ, iK, iB⟩ := Kd.R_slice bE.out; subst iB; go_wp2; go_ret
    exact ⟨xerr, u5_7, xbel, u5_6⟩

/-! ### laws_heldByteS: function 35 -/
def laws_heldByteS.l0 : Nat → List Int → Int → Int → Option (Int)
 | 0, _, _, _ => none
 | k + 1, x0, x1, x5 => if x5 < (x0.length : Int) then (if 0 ≤ x5 then (if (rd x0 x5) = ((x1) % 256) then (laws_heldByteS.l0 k x0 (wrap64 (x1 + 1)) (wrap64 (x5 + 1))) else (some (-1))) else (none)) else (some x1)
def laws_heldByteS.f (k : Nat) (l0 : List Int) (a1 : Int) : Option (Int) := laws_heldByteS.l0 k l0 a1 0
set_option maxRecDepth 100000 in
theorem laws_heldByteS.mono_l : ∀ k, (∀ y0 y1 y2, LeO (laws_heldByteS.l0 k y0 y1 y2) (laws_heldByteS.l0 (k + 1) y0 y1 y2))
 | 0 => fun _ _ _ r h => by simp [laws_heldByteS.l0] at h
 | k + 1 => by
  have bX := laws_heldByteS.mono_l k
  ·intro y0 y1 y2; unfold laws_heldByteS.l0; exact u5_mq0
theorem laws_heldByteS.mono : ∀ a0 a1 k, LeO (laws_heldByteS.f k a0 a1) (laws_heldByteS.f (k + 1) a0 a1) := by
 intro a0 a1 k
 have bX := laws_heldByteS.mono_l k
 unfold laws_heldByteS.f
 exact u5_mq0
set_option maxHeartbeats 8000000 in
set_option maxRecDepth 100000 in
theorem laws_heldByteS.calls (k : Nat) (A0 : Option Addr) (c0 : Nat) (l0 : List Int) (a1 : Int) (r : Int) (w : World) (bV : Kd.C (Kd.int .u8) w A0 l0.length l0) (bW : l0.length ≤ c0) (h : laws_heldByteS.f k l0 a1 = some r) :
 Calls Try.prog 35 #[.slice A0 l0.length c0, .int .i64 a1] w fun e w' => e = .returned (.int .i64 r) ∧ Drawn0 w w' := by
 have bK := aM bV
 have bM := aM bW
 clear bV bW
 have H : (laws_heldByteS.l0 k l0 a1 0) = some r := h
 clear h
 have H' := aM H
 clear H
 go_enter Try.func35, Try.ntmps35
 go_wp2
 go_loopg [1, 5] k (fun kq v1 v5 w' => ∃ (aT : Int) (aD : Int), v1 = .int .i64 aT ∧ v5 = .int .i64 aD ∧ Aside0 (laws_heldByteS.l0 kq l0 aT aD = some r) ∧ Aside0 (kq ≤ k) ∧ Drawn0 w w')
 case atStart => exact ⟨(a1), (0), u5_0, u5_0, H', ⟨Nat.le_refl _⟩, u5_1⟩
 case round =>
  clear H'; try clear p2
  obtain ⟨aT, aD, rfl, rfl, HA, HK1, ⟨m1, rfl⟩⟩ := hrel; cases gk with
  | zero => exact absurd HA.out (by simp [laws_heldByteS.l0])
  | succ k1 =>
   have H := HA.out; clear HA; simp only [laws_heldByteS.l0] at H; by_cases c3 : aD < (l0.length : Int)
   ·rw [if_pos c3] at H; have bO : decide (aD < (l0.length : Int)) = true := decide_eq_true c3; clear c3; by_cases c4 : 0 ≤ aD
    ·rw [if_pos c4] at H; have cG : decide (0 ≤ aD) = true := decide_eq_true c4; clear c4; by_cases c5 : (rd l0 aD) = ((aT) % 256)
     ·rw [if_pos c5] at H; obtain ⟨cV, eG⟩ := bT c5; clear c5; have H' := aM H; clear H; have p224 : 0 ≤ (aD : Int) := oda; have q224 : aD < (l0.length : Int) := oda; obtain ⟨dA, cK, cA⟩ := Kd.at_int bK.out aD p224 q224; cases cK
      replace p224 := eq_true p224; replace q224 := eq_true q224; go_wp2; go_roundg k1
      case measure => have := HK1.out; omega
      case rel => exact ⟨(wrap64 (aT + 1)), (wrap64 (aD + 1)), u5_0, u5_0, H', ⟨by have := HK1.out; omega⟩, u5_1⟩
     ·rw [if_neg c5] at H; obtain ⟨cV, eG⟩ := bF c5; obtain rfl := Option.some.inj H; have p224 : 0 ≤ (aD : Int) := oda; have q224 : aD < (l0.length : Int) := oda; obtain ⟨dA, cK, cA⟩ := Kd.at_int bK.out aD p224 q224; cases cK
      replace p224 := eq_true p224; replace q224 := eq_true q224; go_wp2; go_ret
      exact ⟨u5_0, u5_1⟩
    ·rw [if_neg c4] at H; exact absurd H (by simp)
   ·rw [if_neg c3] at H; have bO : decide (aD < (l0.length : Int)) = false := decide_eq_false c3; clear c3; obtain rfl := Option.some.inj H; go_wp2; go_ret
    exact ⟨u5_0, u5_1⟩

/-! ### laws_FnExactSha: function 6 -/
def laws_FnExactSha.j0 : Nat → List Int → List Int → List Int → Bool → Option (Bool)
 | 0, _, _, _, _ => none
 | k + 1, x0, x3, x5, iC => if iC = true then (some false) else ((laws_markByteS.f k x5 1).bind fun bN => ((laws_heldByteS.f k bN.2 1).bind fun aX => (if aX < 0 then (some false) else (if aX = bN.1 then ((laws_toByteS.f k x0).bind fun aU => ((impl_Sha.f aU).bind fun aV => ((laws_eqByteS.f k aV x3).bind fun cL => (if cL = true then ((laws_heldByteS.f k bN.2 1).bind fun aZ => (if aZ < 0 then (some false) else (if aZ = bN.1 then (some true) else (some false)))) else (some false))))) else (some false)))))
def laws_FnExactSha.f (k : Nat) (l0 : List Int) : Option (Bool) := if (l0.length : Int) > 1048576 then (some true) else ((laws_toByteS.f k l0).bind fun aS => ((spec_Sha.f k aS).bind fun aL => ((laws_toByteS.f k l0).bind fun aO => ((impl_Sha.f aO).bind fun aC => ((laws_eqByteS.f k aC aL).bind fun bQ => (if bQ = true then ((laws_toByteS.f k l0).bind fun aY => ((laws_eqByteS.f k aO aY).bind fun bR => (if bR = true then ((laws_markByteS.f k aO 1).bind fun bU => (if bU.1 < 0 then (laws_FnExactSha.j0 k l0 aL aC true) else ((laws_eqByteS.f k aC aL).bind fun bP => (laws_FnExactSha.j0 k l0 aL aC (!bP))))) else (some false)))) else (some false)))))))
theorem u5_mq1 {p : Prop} (h : p := by repeat' first | (with_reducible first | exact bX _ _ _ _ | exact laws_eqByteS.mono _ _ _ | exact laws_heldByteS.mono _ _ _ | exact laws_markByteS.mono _ _ _ | exact laws_toByteS.mono _ _ | exact spec_Sha.mono _ _ | exact LeO.refl _ | exact LeO.none _ | refine LeO.ite ?_ ?_ | refine LeO.bind ?_ (fun _ => ?_)) | exact LeO.none _ | refine LeO.ite ?_ ?_ | refine LeO.bind ?_ (fun _ => ?_)) : p := h
set_option maxRecDepth 100000 in
theorem laws_FnExactSha.mono_l : ∀ k, (∀ y0 y1 y2 y3, LeO (laws_FnExactSha.j0 k y0 y1 y2 y3) (laws_FnExactSha.j0 (k + 1) y0 y1 y2 y3))
 | 0 => fun _ _ _ _ r h => by simp [laws_FnExactSha.j0] at h
 | k + 1 => by
  have bX := laws_FnExactSha.mono_l k
  ·intro y0 y1 y2 y3; unfold laws_FnExactSha.j0; exact u5_mq1
theorem laws_FnExactSha.mono : ∀ a0 k, LeO (laws_FnExactSha.f k a0) (laws_FnExactSha.f (k + 1) a0) := by
 intro a0 k
 have bX := laws_FnExactSha.mono_l k
 unfold laws_FnExactSha.f
 exact u5_mq1
set_option maxHeartbeats 8000000 in
set_option maxRecDepth 100000 in
theorem laws_FnExactSha.calls (k : Nat) (A0 : Option Addr) (c0 : Nat) (l0 : List Int) (r : Bool) (w : World) (bV : Kd.C (Kd.int .u8) w A0 l0.length l0) (bW : l0.length ≤ c0) (h : laws_FnExactSha.f k l0 = some r) :
 Calls Try.prog 6 #[.slice A0 l0.length c0] w fun e w' => e = .returned (.bool r) ∧ Below w.heap.size w w' := by
 have bK := aM bV
 have bM := aM bW
 clear bV bW
 have HB := aM (Below.refl w.heap.size w)
 have H : (if (l0.length : Int) > 1048576 then (some true) else ((laws_toByteS.f k l0).bind fun aS => ((spec_Sha.f k aS).bind fun aL => ((laws_toByteS.f k l0).bind fun aO => ((impl_Sha.f aO).bind fun aC => ((laws_eqByteS.f k aC aL).bind fun bQ => (if bQ = true then ((laws_toByteS.f k l0).bind fun aY => ((laws_eqByteS.f k aO aY).bind fun bR => (if bR = true then ((laws_markByteS.f k aO 1).bind fun bU => (if bU.1 < 0 then (laws_FnExactSha.j0 k l0 aL aC true) else ((laws_eqByteS.f k aC aL).bind fun bP => (laws_FnExactSha.j0 k l0 aL aC (!bP))))) else (some false)))) else (some false)))))))) = some r := h
 clear h
 by_cases c2 : (l0.length : Int) > 1048576
 ·rw [if_pos c2] at H; have dB : decide (1048576 < (l0.length : Int)) = true := decide_eq_true c2; have dC : decide (1048576 < l0.length) = true := decide_eq_true (by omega); clear c2; obtain rfl := Option.some.inj H; go_enter Try.func6, Try.ntmps6
  go_wp2; go_ret
  exact ⟨xerr, xbel⟩
 ·rw [if_neg c2] at H; have dB : decide (1048576 < (l0.length : Int)) = false := decide_eq_false c2; have dC : decide (1048576 < l0.length) = false := decide_eq_false (by omega); clear c2; replace H := oB H; obtain ⟨aS, gU, H⟩ := H; (try dsimp only at H); have A3 := aM gU; clear gU; replace H := oB H
  obtain ⟨aL, gV, H⟩ := H; (try dsimp only at H); have A4 := aM gV; clear gV; replace H := oB H
  obtain ⟨aO, gW, H⟩ := H; (try dsimp only at H); have A5 := aM gW; clear gW; replace H := oB H
  obtain ⟨aC, gX, H⟩ := H; (try dsimp only at H); have A6 := aM gX; clear gX; replace H := oB H
  obtain ⟨bQ, gY, H⟩ := H; (try dsimp only at H); have A7 := aM gY; clear gY
  by_cases c8 : bQ = true
  ·subst c8; replace H := iT H; replace H := oB H; obtain ⟨aY, gZ, H⟩ := H; (try dsimp only at H); have A9 := aM gZ; clear gZ; replace H := oB H
   obtain ⟨bR, dD, H⟩ := H; (try dsimp only at H); have hJ := aM dD; clear dD
   by_cases dE : bR = true
   ·subst dE; replace H := iT H; replace H := oB H; obtain ⟨⟨cB, eH⟩, dF, H⟩ := H; (try dsimp only at H); have iD := aM dF; clear dF; have cM := aM H; clear H
    go_enter Try.func6, Try.ntmps6
    go_upto_region 12 with (first | ((with_reducible refine gC 31 rfl ?_); refine goesLY (some 14) rfl Try.func31 #[.slice A0 l0.length c0] ?_; (with_reducible refine (laws_toByteS.calls k _ _ l0 aS _ ?side1 ?side2 A3.out).mono ?_); (case side1 => repeat (first | exact bK.out | (with_reducible refine Kd.C_alloc ?_ _) | (with_reducible refine Kd.C_drewN ?_ _) | (with_reducible refine Kd.C_drew ?_))); (case side2 => exact bM.out); rintro e iL ⟨v226, rfl, aE, hb⟩; refine ⟨_, rfl, ?_⟩; have aA := aM (Kd.R_lower aE (below_size xbel)); replace HB := xbs hb; (try clear hb aE); obtain ⟨cC, cD, eI⟩ := Kd.R_slice aA.out; subst eI) | ((with_reducible refine gC 30 rfl ?_); refine goesLY (some 15) rfl Try.func30 #[.slice cC aS.length cD] ?_; (with_reducible refine (spec_Sha.calls k _ _ aS aL _ ?side1 ?side2 A4.out).mono ?_); (case side1 => exact xC aA); (case side2 => exact (Kd.R_reads' aA.out).2.1); rintro e iM ⟨v229, rfl, aE, hb⟩; refine ⟨_, rfl, ?_⟩; have aB := aM (Kd.R_lower (Kd.R_new' aE (Kd.R_lt (xr aA))) (below_size xbel)); replace aA := aM (Kd.R_elder' (xr aA) (Kd.R_base aE) hb); replace HB := xbs hb; (try clear hb aE)) | ((with_reducible refine gC 31 rfl ?_); refine goesLY (some 17) rfl Try.func31 #[.slice A0 l0.length c0] ?_; (with_reducible refine (laws_toByteS.calls k _ _ l0 aO _ ?side1 ?side2 A5.out).mono ?_); (case side1 => exact xcb bK); (case side2 => exact bM.out); rintro e iO ⟨v232, rfl, aE, hb⟩; refine ⟨_, rfl, ?_⟩; have aG := aM (Kd.R_lower (Kd.R_new' (Kd.R_new' aE (Kd.R_lt (xr aA))) (Kd.R_lt (xr aB))) (below_size xbel)); replace aA := aM (Kd.R_elder' (xr aA) (Kd.R_base aE) hb); replace aB := aM (Kd.R_elder' (xr aB) (Kd.R_base aE) hb); replace HB := xbs hb; (try clear hb aE); obtain ⟨bH, bI, eJ⟩ := Kd.R_slice aG.out; subst eJ) | ((with_reducible refine gC 32 rfl ?_); refine goesLY (some 19) rfl Try.func32 #[.slice bH aO.length bI] ?_; (with_reducible refine (impl_Sha.calls _ _ aO aC _ ?side1 ?side2 A6.out).mono ?_); (case side1 => exact xC aG); (case side2 => exact u5_5); rintro e iP ⟨v235, rfl, aE, hb⟩; refine ⟨_, rfl, ?_⟩; have aN := aM (Kd.R_lower (Kd.R_new' (Kd.R_new' (Kd.R_new' aE (Kd.R_lt (xr aA))) (Kd.R_lt (xr aB))) (Kd.R_lt (xr aG))) (below_size xbel)); replace aA := aM (Kd.R_elder' (xr aA) (Kd.R_base aE) hb); replace aB := aM (Kd.R_elder' (xr aB) (Kd.R_base aE) hb); replace aG := aM (Kd.R_elder' (xr aG) (Kd.R_base aE) hb); replace HB := xbs hb; (try clear hb aE); obtain ⟨aJ, aK, eK⟩ := Kd.R_slice aN.out; subst eK; obtain ⟨bA, bB, eL⟩ := Kd.R_slice aB.out; subst eL) | ((with_reducible refine gC 33 rfl ?_); refine goesLY (some 22) rfl Try.func33 #[.slice aJ aC.length aK, .slice bA aL.length bB] ?_; (with_reducible refine (laws_eqByteS.calls k _ _ aC _ _ aL true _ ?side1 ?side2 ?side3 ?side4 A7.out).mono ?_); (case side1 => exact xC aN); (case side2 => exact (Kd.R_reads' aN.out).2.1); (case side3 => exact xC aB); (case side4 => exact (Kd.R_reads' aB.out).2.1); rintro e w' ⟨rfl, ⟨nd, rfl⟩⟩; refine ⟨_, rfl, ?_⟩) | ((with_reducible refine gC 31 rfl ?_); refine goesLY (some 26) rfl Try.func31 #[.slice A0 l0.length c0] ?_; (with_reducible refine (laws_toByteS.calls k _ _ l0 aY _ ?side1 ?side2 A9.out).mono ?_); (case side1 => repeat (first | exact (Kd.C_below bK.out xbel) | (with_reducible refine Kd.C_alloc ?_ _) | (with_reducible refine Kd.C_drewN ?_ _) | (with_reducible refine Kd.C_drew ?_))); (case side2 => exact bM.out); rintro e iQ ⟨v239, rfl, aE, hb⟩; refine ⟨_, rfl, ?_⟩; have aW := aM (Kd.R_lower (Kd.R_new' (Kd.R_new' (Kd.R_new' (Kd.R_new' aE (Kd.R_lt (xr aA))) (Kd.R_lt (xr aB))) (Kd.R_lt (xr aG))) (Kd.R_lt (xr aN))) (below_size xbel)); replace aA := aM (Kd.R_elder' (xr aA) (Kd.R_base aE) hb); replace aB := aM (Kd.R_elder' (xr aB) (Kd.R_base aE) hb); replace aG := aM (Kd.R_elder' (xr aG) (Kd.R_base aE) hb); replace aN := aM (Kd.R_elder' (xr aN) (Kd.R_base aE) hb); replace HB := xbs hb; (try clear hb aE); obtain ⟨cE, cF, eM⟩ := Kd.R_slice aW.out; subst eM) | ((with_reducible refine gC 33 rfl ?_); refine goesLY (some 27) rfl Try.func33 #[.slice bH aO.length bI, .slice cE aY.length cF] ?_; (with_reducible refine (laws_eqByteS.calls k _ _ aO _ _ aY true _ ?side1 ?side2 ?side3 ?side4 hJ.out).mono ?_); (case side1 => exact xC aG); (case side2 => exact u5_5); (case side3 => exact xC aW); (case side4 => exact (Kd.R_reads' aW.out).2.1); rintro e w' ⟨rfl, ⟨nd, rfl⟩⟩; refine ⟨_, rfl, ?_⟩) | ((with_reducible refine gC 34 rfl ?_); refine goesLY (some 31) rfl Try.func34 #[.slice bH aO.length bI, .int .i64 1] ?_; (with_reducible refine (laws_markByteS.calls k (fun k_ => some k_ = (.slice bH aO.length bI : Value).ownBlock) (.slice bH aO.length bI) aO 1 cB eH w _ ?side1 ?side2 iD.out).mono ?_); (case side1 => exact xbg); (case side2 => exact Kd.R_tight rfl aG.out); rintro e iR ⟨rfl, hY, hb, hkp⟩; refine ⟨_, rfl, ?_⟩; replace aA := aM (Kd.R_mono (ok' := fun k_ => some k_ ≠ (.slice bA aL.length bB : Value).ownBlock ∧ some k_ ≠ (.slice bH aO.length bI : Value).ownBlock ∧ some k_ ≠ (.slice aJ aC.length aK : Value).ownBlock ∧ some k_ ≠ (.slice cE aY.length cF : Value).ownBlock) (Kd.R_keptB (aA.out) hkp (fun k_ hk_ hs_ => (hk_.1.1.2) hs_)) (fun k_ hk_ => ⟨hk_.1.1.1.1.2, hk_.1.1.1.2, hk_.1.1.2, hk_.1.2⟩)); replace aB := aM (Kd.R_mono (ok' := fun k_ => some k_ ≠ (.slice cC aS.length cD : Value).ownBlock ∧ some k_ ≠ (.slice bH aO.length bI : Value).ownBlock ∧ some k_ ≠ (.slice aJ aC.length aK : Value).ownBlock ∧ some k_ ≠ (.slice cE aY.length cF : Value).ownBlock) (Kd.R_keptB (aB.out) hkp (fun k_ hk_ hs_ => (hk_.1.1.2) hs_)) (fun k_ hk_ => ⟨hk_.1.1.1.1.2, hk_.1.1.1.2, hk_.1.1.2, hk_.1.2⟩)); replace aG := aM (Kd.R_reok rfl hY (fun k_ e_ => aG.out.1 k_ e_)); replace aN := aM (Kd.R_mono (ok' := fun k_ => some k_ ≠ (.slice cC aS.length cD : Value).ownBlock ∧ some k_ ≠ (.slice bA aL.length bB : Value).ownBlock ∧ some k_ ≠ (.slice bH aO.length bI : Value).ownBlock ∧ some k_ ≠ (.slice cE aY.length cF : Value).ownBlock) (Kd.R_keptB (aN.out) hkp (fun k_ hk_ hs_ => (hk_.1.2) hs_)) (fun k_ hk_ => ⟨hk_.1.1.1.1.2, hk_.1.1.1.2, hk_.1.1.2, hk_.1.2⟩)); replace aW := aM (Kd.R_mono (ok' := fun k_ => some k_ ≠ (.slice cC aS.length cD : Value).ownBlock ∧ some k_ ≠ (.slice bA aL.length bB : Value).ownBlock ∧ some k_ ≠ (.slice bH aO.length bI : Value).ownBlock ∧ some k_ ≠ (.slice aJ aC.length aK : Value).ownBlock) (Kd.R_keptB (aW.out) hkp (fun k_ hk_ hs_ => (hk_.1.2) hs_)) (fun k_ hk_ => ⟨hk_.1.1.1.1.2, hk_.1.1.1.2, hk_.1.1.2, hk_.1.2⟩)); replace HB := aM (hb); (try clear hb); (try clear hkp); (try clear hY)))
    (try simp only [Act.put, List.setIfInBounds_toArray, List.set_cons_zero, List.set_cons_succ]); go_cut [39] (fun v39 wc => ∃ (kq : Nat) (bJ : Bool), v39 = .bool bJ ∧ Aside0 (laws_FnExactSha.j0 kq l0 aL aC bJ = some r) ∧ Aside0 (kq ≤ k) ∧ Aside0 (Kd.R (Kd.int .u8) 5 wc w.heap.size (fun k_ => some k_ ≠ ((.slice aJ aC.length aK) : Value).ownBlock) (.slice bA aL.length bB) aL) ∧ Aside0 (Kd.R (Kd.int .u8) 5 wc w.heap.size (fun k_ => some k_ ≠ ((.slice bA aL.length bB) : Value).ownBlock) (.slice aJ aC.length aK) aC) ∧ Aside0 (Below w.heap.size w wc))
    case first =>
     have H := cM.out; clear cM; by_cases cN : cB < 0
     ·rw [if_pos cN] at H; have bC : decide (cB < 0) = true := decide_eq_true cN; clear cN; (first | rw [bC] | (simp only [i64_w, i32_w]; rw [bC]) | skip); have H' := aM H; clear H; go_wp2; go_meet
      case rel => exact ⟨_, (true), u5_0, H', ⟨by first | omega | exact Nat.le_refl _⟩, ⟨u5_8⟩, ⟨u5_9⟩, ⟨xbel⟩⟩
     ·rw [if_neg cN] at H; have bC : decide (cB < 0) = false := decide_eq_false cN; clear cN; (first | rw [bC] | (simp only [i64_w, i32_w]; rw [bC]) | skip); replace H := oB H; obtain ⟨bP, dG, H⟩ := H; (try dsimp only at H); have iE := aM dG; clear dG
      have H' := aM H; clear H; go_wp2_with (first | (go_at_call 33; (with_reducible refine (laws_eqByteS.calls k _ _ aC _ _ aL bP _ ?side1 ?side2 ?side3 ?side4 iE.out).mono ?_); (case side1 => exact xC aN); (case side2 => exact (Kd.R_reads' aN.out).2.1); (case side3 => exact xC aB); (case side4 => exact (Kd.R_reads' aB.out).2.1); rintro e w' ⟨rfl, ⟨nd, rfl⟩⟩))
      go_meet
      case rel => exact ⟨_, (!bP), u5_0, H', ⟨by first | omega | exact Nat.le_refl _⟩, ⟨u5_8⟩, ⟨u5_9⟩, ⟨xbel⟩⟩
    case rest =>
     clear cM; try clear c1
     try clear c2
     try clear dB
     try clear dC
     try clear p2
     try clear c3
     try clear c6
     try clear c8
     try clear dE
     try clear cN
     try clear bC
     obtain ⟨kq, bJ, rfl, HA, HJ12, aH, aF, HB⟩ := hcut; cases kq with
     | zero => exact absurd HA.out (by simp [laws_FnExactSha.j0])
     | succ aQ =>
      have H := HA.out; clear HA; simp only [laws_FnExactSha.j0] at H; by_cases dY : bJ = true
      ·subst dY; replace H := iT H; obtain rfl := Option.some.inj H; go_wp2; go_ret
       exact ⟨xerr, xbel⟩
      ·replace dY := Bool.eq_false_iff.mpr dY; subst dY; replace H := iN H; replace H := oB H; obtain ⟨⟨bL, aP⟩, dH, H⟩ := H; (try dsimp only at H); have cO := aM dH; clear dH; replace H := oB H
       obtain ⟨aX, dI, H⟩ := H; (try dsimp only at H); have cP := aM dI; clear dI
       by_cases cQ : aX < 0
       ·rw [if_pos cQ] at H; have dJ : decide (aX < 0) = true := decide_eq_true cQ; clear cQ; obtain rfl := Option.some.inj H; go_wp2_with (first | ((with_reducible refine gC 34 rfl ?_); refine goesLY (some 42) rfl Try.func34 #[.slice aJ aC.length aK, .int .i64 1] ?_; (with_reducible refine (laws_markByteS.calls aQ (fun k_ => some k_ = (.slice aJ aC.length aK : Value).ownBlock) (.slice aJ aC.length aK) aC 1 bL aP w _ ?side1 ?side2 cO.out).mono ?_); (case side1 => exact xbg); (case side2 => exact u5_4); rintro e iS ⟨rfl, hY, hb, hkp⟩; refine ⟨_, rfl, ?_⟩; replace aH := aM (Kd.R_mono (ok' := fun k_ => some k_ ≠ (.slice aJ aC.length aK : Value).ownBlock) (Kd.R_keptB (aH.out) hkp (fun k_ hk_ hs_ => (hk_) hs_)) (fun k_ hk_ => hk_.1)); replace aF := aM (Kd.R_reok rfl hY (fun k_ e_ => aF.out.1 k_ e_)); replace HB := aM (hb); (try clear hb); (try clear hkp); (try clear hY)) | ((with_reducible refine gC 35 rfl ?_); refine goesL_ (some 45) rfl rfl Try.func35 (by kernel_rfl) rfl #[.slice aJ aP.length aK, .int .i64 1] rfl u5_2 ?_; (with_reducible refine (laws_heldByteS.calls aQ _ _ aP 1 aX _ ?side1 ?side2 cP.out).mono ?_); (case side1 => exact xC aF); (case side2 => exact u5_3); rintro e w' ⟨rfl, ⟨nd, rfl⟩⟩; refine ⟨_, rfl, ?_⟩))
        go_ret
        exact ⟨xerr, xbel⟩
       ·rw [if_neg cQ] at H; have dJ : decide (aX < 0) = false := decide_eq_false cQ; clear cQ; by_cases dK : aX = bL
        ·rw [if_pos dK] at H; obtain ⟨dL, dM⟩ := bT dK; clear dK; replace H := oB H; obtain ⟨aU, dN, H⟩ := H; (try dsimp only at H); have dZ := aM dN; clear dN; replace H := oB H
         obtain ⟨aV, dO, H⟩ := H; (try dsimp only at H); have eA := aM dO; clear dO; replace H := oB H
         obtain ⟨cL, dP, H⟩ := H; (try dsimp only at H); have eB := aM dP; clear dP
         by_cases eC : cL = true
         ·subst eC; replace H := iT H; replace H := oB H; obtain ⟨aZ, dQ, H⟩ := H; (try dsimp only at H); have eN := aM dQ; clear dQ
          by_cases cS : aZ < 0
          ·rw [if_pos cS] at H; have dR : decide (aZ < 0) = true := decide_eq_true cS; clear cS; obtain rfl := Option.some.inj H; go_wp2_with (first | ((with_reducible refine gC 34 rfl ?_); refine goesLY (some 42) rfl Try.func34 #[.slice aJ aC.length aK, .int .i64 1] ?_; (with_reducible refine (laws_markByteS.calls aQ (fun k_ => some k_ = (.slice aJ aC.length aK : Value).ownBlock) (.slice aJ aC.length aK) aC 1 bL aP w _ ?side1 ?side2 cO.out).mono ?_); (case side1 => exact xbg); (case side2 => exact u5_4); rintro e iU ⟨rfl, hY, hb, hkp⟩; refine ⟨_, rfl, ?_⟩; replace aH := aM (Kd.R_mono (ok' := fun k_ => some k_ ≠ (.slice aJ aC.length aK : Value).ownBlock) (Kd.R_keptB (aH.out) hkp (fun k_ hk_ hs_ => (hk_) hs_)) (fun k_ hk_ => hk_.1)); replace aF := aM (Kd.R_reok rfl hY (fun k_ e_ => aF.out.1 k_ e_)); replace HB := aM (hb); (try clear hb); (try clear hkp); (try clear hY)) | ((with_reducible refine gC 35 rfl ?_); refine goesL_ (some 45) rfl rfl Try.func35 (by kernel_rfl) rfl #[.slice aJ aP.length aK, .int .i64 1] rfl u5_2 ?_; (with_reducible refine (laws_heldByteS.calls aQ _ _ aP 1 aX _ ?side1 ?side2 cP.out).mono ?_); (case side1 => exact xC aF); (case side2 => exact u5_3); rintro e w' ⟨rfl, ⟨nd, rfl⟩⟩; refine ⟨_, rfl, ?_⟩) | ((with_reducible refine gC 31 rfl ?_); refine goesLY (some 52) rfl Try.func31 #[.slice A0 l0.length c0] ?_; (with_reducible refine (laws_toByteS.calls aQ _ _ l0 aU _ ?side1 ?side2 dZ.out).mono ?_); (case side1 => repeat (first | exact (Kd.C_below bK.out xbel) | (with_reducible refine Kd.C_alloc ?_ _) | (with_reducible refine Kd.C_drewN ?_ _) | (with_reducible refine Kd.C_drew ?_))); (case side2 => exact bM.out); rintro e iV ⟨v249, rfl, aE, hb⟩; refine ⟨_, rfl, ?_⟩; have aI := aM (Kd.R_lower (Kd.R_new' (Kd.R_new' aE (Kd.R_lt (xr aH))) (Kd.R_lt (xr aF))) (below_size xbel)); replace aH := aM (Kd.R_elder' (xr aH) (Kd.R_base aE) hb); replace aF := aM (Kd.R_elder' (xr aF) (Kd.R_base aE) hb); replace HB := xbs hb; (try clear hb aE); obtain ⟨eO, eP, eQ⟩ := Kd.R_slice aI.out; subst eQ) | ((with_reducible refine gC 32 rfl ?_); refine goesLY (some 53) rfl Try.func32 #[.slice eO aU.length eP] ?_; (with_reducible refine (impl_Sha.calls _ _ aU aV _ ?side1 ?side2 eA.out).mono ?_); (case side1 => exact xC aI); (case side2 => exact (Kd.R_reads' aI.out).2.1); rintro e iW ⟨v252, rfl, aE, hb⟩; refine ⟨_, rfl, ?_⟩; have aR := aM (Kd.R_lower (Kd.R_new' (Kd.R_new' (Kd.R_new' aE (Kd.R_lt (xr aH))) (Kd.R_lt (xr aF))) (Kd.R_lt (xr aI))) (below_size xbel)); replace aH := aM (Kd.R_elder' (xr aH) (Kd.R_base aE) hb); replace aF := aM (Kd.R_elder' (xr aF) (Kd.R_base aE) hb); replace aI := aM (Kd.R_elder' (xr aI) (Kd.R_base aE) hb); replace HB := xbs hb; (try clear hb aE); obtain ⟨eR, eS, eT⟩ := Kd.R_slice aR.out; subst eT) | ((with_reducible refine gC 33 rfl ?_); refine goesLY (some 56) rfl Try.func33 #[.slice eR aV.length eS, .slice bA aL.length bB] ?_; (with_reducible refine (laws_eqByteS.calls aQ _ _ aV _ _ aL true _ ?side1 ?side2 ?side3 ?side4 eB.out).mono ?_); (case side1 => exact xC aR); (case side2 => exact (Kd.R_reads' aR.out).2.1); (case side3 => exact xC aH); (case side4 => exact (Kd.R_reads' aH.out).2.1); rintro e w' ⟨rfl, ⟨nd, rfl⟩⟩; refine ⟨_, rfl, ?_⟩) | ((with_reducible refine gC 35 rfl ?_); refine goesL_ (some 60) rfl rfl Try.func35 (by kernel_rfl) rfl #[.slice aJ aP.length aK, .int .i64 1] rfl u5_2 ?_; (with_reducible refine (laws_heldByteS.calls aQ _ _ aP 1 aZ _ ?side1 ?side2 eN.out).mono ?_); (case side1 => exact xC aF); (case side2 => exact u5_3); rintro e w' ⟨rfl, ⟨nd, rfl⟩⟩; refine ⟨_, rfl, ?_⟩))
           go_ret
           exact ⟨xerr, xbel⟩
          ·rw [if_neg cS] at H; have dR : decide (aZ < 0) = false := decide_eq_false cS; clear cS; by_cases dS : aZ = bL
           ·rw [if_pos dS] at H; obtain ⟨dU, dV⟩ := bT dS; clear dS; obtain rfl := Option.some.inj H; go_wp2_with (first | ((with_reducible refine gC 34 rfl ?_); refine goesLY (some 42) rfl Try.func34 #[.slice aJ aC.length aK, .int .i64 1] ?_; (with_reducible refine (laws_markByteS.calls aQ (fun k_ => some k_ = (.slice aJ aC.length aK : Value).ownBlock) (.slice aJ aC.length aK) aC 1 bL aP w _ ?side1 ?side2 cO.out).mono ?_); (case side1 => exact xbg); (case side2 => exact u5_4); rintro e iX ⟨rfl, hY, hb, hkp⟩; refine ⟨_, rfl, ?_⟩; replace aH := aM (Kd.R_mono (ok' := fun k_ => some k_ ≠ (.slice aJ aC.length aK : Value).ownBlock) (Kd.R_keptB (aH.out) hkp (fun k_ hk_ hs_ => (hk_) hs_)) (fun k_ hk_ => hk_.1)); replace aF := aM (Kd.R_reok rfl hY (fun k_ e_ => aF.out.1 k_ e_)); replace HB := aM (hb); (try clear hb); (try clear hkp); (try clear hY)) | ((with_reducible refine gC 35 rfl ?_); refine goesL_ (some 45) rfl rfl Try.func35 (by kernel_rfl) rfl #[.slice aJ aP.length aK, .int .i64 1] rfl u5_2 ?_; (with_reducible refine (laws_heldByteS.calls aQ _ _ aP 1 aX _ ?side1 ?side2 cP.out).mono ?_); (case side1 => exact xC aF); (case side2 => exact u5_3); rintro e w' ⟨rfl, ⟨nd, rfl⟩⟩; refine ⟨_, rfl, ?_⟩) | ((with_reducible refine gC 31 rfl ?_); refine goesLY (some 52) rfl Try.func31 #[.slice A0 l0.length c0] ?_; (with_reducible refine (laws_toByteS.calls aQ _ _ l0 aU _ ?side1 ?side2 dZ.out).mono ?_); (case side1 => repeat (first | exact (Kd.C_below bK.out xbel) | (with_reducible refine Kd.C_alloc ?_ _) | (with_reducible refine Kd.C_drewN ?_ _) | (with_reducible refine Kd.C_drew ?_))); (case side2 => exact bM.out); rintro e iY ⟨v249, rfl, aE, hb⟩; refine ⟨_, rfl, ?_⟩; have aI := aM (Kd.R_lower (Kd.R_new' (Kd.R_new' aE (Kd.R_lt (xr aH))) (Kd.R_lt (xr aF))) (below_size xbel)); replace aH := aM (Kd.R_elder' (xr aH) (Kd.R_base aE) hb); replace aF := aM (Kd.R_elder' (xr aF) (Kd.R_base aE) hb); replace HB := xbs hb; (try clear hb aE); obtain ⟨eU, eV, eW⟩ := Kd.R_slice aI.out; subst eW) | ((with_reducible refine gC 32 rfl ?_); refine goesLY (some 53) rfl Try.func32 #[.slice eU aU.length eV] ?_; (with_reducible refine (impl_Sha.calls _ _ aU aV _ ?side1 ?side2 eA.out).mono ?_); (case side1 => exact xC aI); (case side2 => exact (Kd.R_reads' aI.out).2.1); rintro e iZ ⟨v252, rfl, aE, hb⟩; refine ⟨_, rfl, ?_⟩; have aR := aM (Kd.R_lower (Kd.R_new' (Kd.R_new' (Kd.R_new' aE (Kd.R_lt (xr aH))) (Kd.R_lt (xr aF))) (Kd.R_lt (xr aI))) (below_size xbel)); replace aH := aM (Kd.R_elder' (xr aH) (Kd.R_base aE) hb); replace aF := aM (Kd.R_elder' (xr aF) (Kd.R_base aE) hb); replace aI := aM (Kd.R_elder' (xr aI) (Kd.R_base aE) hb); replace HB := xbs hb; (try clear hb aE); obtain ⟨eX, eY, eZ⟩ := Kd.R_slice aR.out; subst eZ) | ((with_reducible refine gC 33 rfl ?_); refine goesLY (some 56) rfl Try.func33 #[.slice eX aV.length eY, .slice bA aL.length bB] ?_; (with_reducible refine (laws_eqByteS.calls aQ _ _ aV _ _ aL true _ ?side1 ?side2 ?side3 ?side4 eB.out).mono ?_); (case side1 => exact xC aR); (case side2 => exact (Kd.R_reads' aR.out).2.1); (case side3 => exact xC aH); (case side4 => exact (Kd.R_reads' aH.out).2.1); rintro e w' ⟨rfl, ⟨nd, rfl⟩⟩; refine ⟨_, rfl, ?_⟩) | ((with_reducible refine gC 35 rfl ?_); refine goesL_ (some 60) rfl rfl Try.func35 (by kernel_rfl) rfl #[.slice aJ aP.length aK, .int .i64 1] rfl u5_2 ?_; (with_reducible refine (laws_heldByteS.calls aQ _ _ aP 1 aZ _ ?side1 ?side2 eN.out).mono ?_); (case side1 => exact xC aF); (case side2 => exact u5_3); rintro e w' ⟨rfl, ⟨nd, rfl⟩⟩; refine ⟨_, rfl, ?_⟩))
            go_ret
            exact ⟨xerr, xbel⟩
           ·rw [if_neg dS] at H; obtain ⟨dU, dV⟩ := bF dS; obtain rfl := Option.some.inj H; go_wp2_with (first | ((with_reducible refine gC 34 rfl ?_); refine goesLY (some 42) rfl Try.func34 #[.slice aJ aC.length aK, .int .i64 1] ?_; (with_reducible refine (laws_markByteS.calls aQ (fun k_ => some k_ = (.slice aJ aC.length aK : Value).ownBlock) (.slice aJ aC.length aK) aC 1 bL aP w _ ?side1 ?side2 cO.out).mono ?_); (case side1 => exact xbg); (case side2 => exact u5_4); rintro e jA ⟨rfl, hY, hb, hkp⟩; refine ⟨_, rfl, ?_⟩; replace aH := aM (Kd.R_mono (ok' := fun k_ => some k_ ≠ (.slice aJ aC.length aK : Value).ownBlock) (Kd.R_keptB (aH.out) hkp (fun k_ hk_ hs_ => (hk_) hs_)) (fun k_ hk_ => hk_.1)); replace aF := aM (Kd.R_reok rfl hY (fun k_ e_ => aF.out.1 k_ e_)); replace HB := aM (hb); (try clear hb); (try clear hkp); (try clear hY)) | ((with_reducible refine gC 35 rfl ?_); refine goesL_ (some 45) rfl rfl Try.func35 (by kernel_rfl) rfl #[.slice aJ aP.length aK, .int .i64 1] rfl u5_2 ?_; (with_reducible refine (laws_heldByteS.calls aQ _ _ aP 1 aX _ ?side1 ?side2 cP.out).mono ?_); (case side1 => exact xC aF); (case side2 => exact u5_3); rintro e w' ⟨rfl, ⟨nd, rfl⟩⟩; refine ⟨_, rfl, ?_⟩) | ((with_reducible refine gC 31 rfl ?_); refine goesLY (some 52) rfl Try.func31 #[.slice A0 l0.length c0] ?_; (with_reducible refine (laws_toByteS.calls aQ _ _ l0 aU _ ?side1 ?side2 dZ.out).mono ?_); (case side1 => repeat (first | exact (Kd.C_below bK.out xbel) | (with_reducible refine Kd.C_alloc ?_ _) | (with_reducible refine Kd.C_drewN ?_ _) | (with_reducible refine Kd.C_drew ?_))); (case side2 => exact bM.out); rintro e jB ⟨v249, rfl, aE, hb⟩; refine ⟨_, rfl, ?_⟩; have aI := aM (Kd.R_lower (Kd.R_new' (Kd.R_new' aE (Kd.R_lt (xr aH))) (Kd.R_lt (xr aF))) (below_size xbel)); replace aH := aM (Kd.R_elder' (xr aH) (Kd.R_base aE) hb); replace aF := aM (Kd.R_elder' (xr aF) (Kd.R_base aE) hb); replace HB := xbs hb; (try clear hb aE); obtain ⟨fA, fB, fC⟩ := Kd.R_slice aI.out; subst fC) | ((with_reducible refine gC 32 rfl ?_); refine goesLY (some 53) rfl Try.func32 #[.slice fA aU.length fB] ?_; (with_reducible refine (impl_Sha.calls _ _ aU aV _ ?side1 ?side2 eA.out).mono ?_); (case side1 => exact xC aI); (case side2 => exact (Kd.R_reads' aI.out).2.1); rintro e jC ⟨v252, rfl, aE, hb⟩; refine ⟨_, rfl, ?_⟩; have aR := aM (Kd.R_lower (Kd.R_new' (Kd.R_new' (Kd.R_new' aE (Kd.R_lt (xr aH))) (Kd.R_lt (xr aF))) (Kd.R_lt (xr aI))) (below_size xbel)); replace aH := aM (Kd.R_elder' (xr aH) (Kd.R_base aE) hb); replace aF := aM (Kd.R_elder' (xr aF) (Kd.R_base aE) hb); replace aI := aM (Kd.R_elder' (xr aI) (Kd.R_base aE) hb); replace HB := xbs hb; (try clear hb aE); obtain ⟨fD, fE, fF⟩ := Kd.R_slice aR.out; subst fF) | ((with_reducible refine gC 33 rfl ?_); refine goesLY (some 56) rfl Try.func33 #[.slice fD aV.length fE, .slice bA aL.length bB] ?_; (with_reducible refine (laws_eqByteS.calls aQ _ _ aV _ _ aL true _ ?side1 ?side2 ?side3 ?side4 eB.out).mono ?_); (case side1 => exact xC aR); (case side2 => exact (Kd.R_reads' aR.out).2.1); (case side3 => exact xC aH); (case side4 => exact (Kd.R_reads' aH.out).2.1); rintro e w' ⟨rfl, ⟨nd, rfl⟩⟩; refine ⟨_, rfl, ?_⟩) | ((with_reducible refine gC 35 rfl ?_); refine goesL_ (some 60) rfl rfl Try.func35 (by kernel_rfl) rfl #[.slice aJ aP.length aK, .int .i64 1] rfl u5_2 ?_; (with_reducible refine (laws_heldByteS.calls aQ _ _ aP 1 aZ _ ?side1 ?side2 eN.out).mono ?_); (case side1 => exact xC aF); (case side2 => exact u5_3); rintro e w' ⟨rfl, ⟨nd, rfl⟩⟩; refine ⟨_, rfl, ?_⟩))
            go_ret
            exact ⟨xerr, xbel⟩
         ·replace eC := Bool.eq_false_iff.mpr eC; subst eC; replace H := iN H; obtain rfl := Option.some.inj H; go_wp2_with (first | ((with_reducible refine gC 34 rfl ?_); refine goesLY (some 42) rfl Try.func34 #[.slice aJ aC.length aK, .int .i64 1] ?_; (with_reducible refine (laws_markByteS.calls aQ (fun k_ => some k_ = (.slice aJ aC.length aK : Value).ownBlock) (.slice aJ aC.length aK) aC 1 bL aP w _ ?side1 ?side2 cO.out).mono ?_); (case side1 => exact xbg); (case side2 => exact u5_4); rintro e jD ⟨rfl, hY, hb, hkp⟩; refine ⟨_, rfl, ?_⟩; replace aH := aM (Kd.R_mono (ok' := fun k_ => some k_ ≠ (.slice aJ aC.length aK : Value).ownBlock) (Kd.R_keptB (aH.out) hkp (fun k_ hk_ hs_ => (hk_) hs_)) (fun k_ hk_ => hk_.1)); replace aF := aM (Kd.R_reok rfl hY (fun k_ e_ => aF.out.1 k_ e_)); replace HB := aM (hb); (try clear hb); (try clear hkp); (try clear hY)) | ((with_reducible refine gC 35 rfl ?_); refine goesL_ (some 45) rfl rfl Try.func35 (by kernel_rfl) rfl #[.slice aJ aP.length aK, .int .i64 1] rfl u5_2 ?_; (with_reducible refine (laws_heldByteS.calls aQ _ _ aP 1 aX _ ?side1 ?side2 cP.out).mono ?_); (case side1 => exact xC aF); (case side2 => exact u5_3); rintro e w' ⟨rfl, ⟨nd, rfl⟩⟩; refine ⟨_, rfl, ?_⟩) | ((with_reducible refine gC 31 rfl ?_); refine goesLY (some 52) rfl Try.func31 #[.slice A0 l0.length c0] ?_; (with_reducible refine (laws_toByteS.calls aQ _ _ l0 aU _ ?side1 ?side2 dZ.out).mono ?_); (case side1 => repeat (first | exact (Kd.C_below bK.out xbel) | (with_reducible refine Kd.C_alloc ?_ _) | (with_reducible refine Kd.C_drewN ?_ _) | (with_reducible refine Kd.C_drew ?_))); (case side2 => exact bM.out); rintro e jE ⟨v249, rfl, aE, hb⟩; refine ⟨_, rfl, ?_⟩; have aI := aM (Kd.R_lower (Kd.R_new' (Kd.R_new' aE (Kd.R_lt (xr aH))) (Kd.R_lt (xr aF))) (below_size xbel)); replace aH := aM (Kd.R_elder' (xr aH) (Kd.R_base aE) hb); replace aF := aM (Kd.R_elder' (xr aF) (Kd.R_base aE) hb); replace HB := xbs hb; (try clear hb aE); obtain ⟨fG, fH, fI⟩ := Kd.R_slice aI.out; subst fI) | ((with_reducible refine gC 32 rfl ?_); refine goesLY (some 53) rfl Try.func32 #[.slice fG aU.length fH] ?_; (with_reducible refine (impl_Sha.calls _ _ aU aV _ ?side1 ?side2 eA.out).mono ?_); (case side1 => exact xC aI); (case side2 => exact (Kd.R_reads' aI.out).2.1); rintro e jF ⟨v252, rfl, aE, hb⟩; refine ⟨_, rfl, ?_⟩; have aR := aM (Kd.R_lower (Kd.R_new' (Kd.R_new' (Kd.R_new' aE (Kd.R_lt (xr aH))) (Kd.R_lt (xr aF))) (Kd.R_lt (xr aI))) (below_size xbel)); replace aH := aM (Kd.R_elder' (xr aH) (Kd.R_base aE) hb); replace aF := aM (Kd.R_elder' (xr aF) (Kd.R_base aE) hb); replace aI := aM (Kd.R_elder' (xr aI) (Kd.R_base aE) hb); replace HB := xbs hb; (try clear hb aE); obtain ⟨fJ, fK, fL⟩ := Kd.R_slice aR.out; subst fL) | ((with_reducible refine gC 33 rfl ?_); refine goesLY (some 56) rfl Try.func33 #[.slice fJ aV.length fK, .slice bA aL.length bB] ?_; (with_reducible refine (laws_eqByteS.calls aQ _ _ aV _ _ aL false _ ?side1 ?side2 ?side3 ?side4 eB.out).mono ?_); (case side1 => exact xC aR); (case side2 => exact (Kd.R_reads' aR.out).2.1); (case side3 => exact xC aH); (case side4 => exact (Kd.R_reads' aH.out).2.1); rintro e w' ⟨rfl, ⟨nd, rfl⟩⟩; refine ⟨_, rfl, ?_⟩))
          go_ret
          exact ⟨xerr, xbel⟩
        ·rw [if_neg dK] at H; obtain ⟨dL, dM⟩ := bF dK; obtain rfl := Option.some.inj H; go_wp2_with (first | ((with_reducible refine gC 34 rfl ?_); refine goesLY (some 42) rfl Try.func34 #[.slice aJ aC.length aK, .int .i64 1] ?_; (with_reducible refine (laws_markByteS.calls aQ (fun k_ => some k_ = (.slice aJ aC.length aK : Value).ownBlock) (.slice aJ aC.length aK) aC 1 bL aP w _ ?side1 ?side2 cO.out).mono ?_); (case side1 => exact xbg); (case side2 => exact u5_4); rintro e jG ⟨rfl, hY, hb, hkp⟩; refine ⟨_, rfl, ?_⟩; replace aH := aM (Kd.R_mono (ok' := fun k_ => some k_ ≠ (.slice aJ aC.length aK : Value).ownBlock) (Kd.R_keptB (aH.out) hkp (fun k_ hk_ hs_ => (hk_) hs_)) (fun k_ hk_ => hk_.1)); replace aF := aM (Kd.R_reok rfl hY (fun k_ e_ => aF.out.1 k_ e_)); replace HB := aM (hb); (try clear hb); (try clear hkp); (try clear hY)) | ((with_reducible refine gC 35 rfl ?_); refine goesL_ (some 45) rfl rfl Try.func35 (by kernel_rfl) rfl #[.slice aJ aP.length aK, .int .i64 1] rfl u5_2 ?_; (with_reducible refine (laws_heldByteS.calls aQ _ _ aP 1 aX _ ?side1 ?side2 cP.out).mono ?_); (case side1 => exact xC aF); (case side2 => exact u5_3); rintro e w' ⟨rfl, ⟨nd, rfl⟩⟩; refine ⟨_, rfl, ?_⟩))
         go_ret
         exact ⟨xerr, xbel⟩
   ·replace dE := Bool.eq_false_iff.mpr dE; subst dE; replace H := iN H; obtain rfl := Option.some.inj H; go_enter Try.func6, Try.ntmps6
    go_wp2_with (first | ((with_reducible refine gC 31 rfl ?_); refine goesLY (some 14) rfl Try.func31 #[.slice A0 l0.length c0] ?_; (with_reducible refine (laws_toByteS.calls k _ _ l0 aS _ ?side1 ?side2 A3.out).mono ?_); (case side1 => repeat (first | exact bK.out | (with_reducible refine Kd.C_alloc ?_ _) | (with_reducible refine Kd.C_drewN ?_ _) | (with_reducible refine Kd.C_drew ?_))); (case side2 => exact bM.out); rintro e jH ⟨v226, rfl, aE, hb⟩; refine ⟨_, rfl, ?_⟩; have aA := aM (Kd.R_lower aE (below_size xbel)); replace HB := xbs hb; (try clear hb aE); obtain ⟨fM, fN, fO⟩ := Kd.R_slice aA.out; subst fO) | ((with_reducible refine gC 30 rfl ?_); refine goesLY (some 15) rfl Try.func30 #[.slice fM aS.length fN] ?_; (with_reducible refine (spec_Sha.calls k _ _ aS aL _ ?side1 ?side2 A4.out).mono ?_); (case side1 => exact xC aA); (case side2 => exact (Kd.R_reads' aA.out).2.1); rintro e jI ⟨v229, rfl, aE, hb⟩; refine ⟨_, rfl, ?_⟩; have aB := aM (Kd.R_lower (Kd.R_new' aE (Kd.R_lt (xr aA))) (below_size xbel)); replace aA := aM (Kd.R_elder' (xr aA) (Kd.R_base aE) hb); replace HB := xbs hb; (try clear hb aE)) | ((with_reducible refine gC 31 rfl ?_); refine goesLY (some 17) rfl Try.func31 #[.slice A0 l0.length c0] ?_; (with_reducible refine (laws_toByteS.calls k _ _ l0 aO _ ?side1 ?side2 A5.out).mono ?_); (case side1 => exact xcb bK); (case side2 => exact bM.out); rintro e jJ ⟨v232, rfl, aE, hb⟩; refine ⟨_, rfl, ?_⟩; have aG := aM (Kd.R_lower (Kd.R_new' (Kd.R_new' aE (Kd.R_lt (xr aA))) (Kd.R_lt (xr aB))) (below_size xbel)); replace aA := aM (Kd.R_elder' (xr aA) (Kd.R_base aE) hb); replace aB := aM (Kd.R_elder' (xr aB) (Kd.R_base aE) hb); replace HB := xbs hb; (try clear hb aE); obtain ⟨dW, dX, fP⟩ := Kd.R_slice aG.out; subst fP) | ((with_reducible refine gC 32 rfl ?_); refine goesLY (some 19) rfl Try.func32 #[.slice dW aO.length dX] ?_; (with_reducible refine (impl_Sha.calls _ _ aO aC _ ?side1 ?side2 A6.out).mono ?_); (case side1 => exact xC aG); (case side2 => exact u5_5); rintro e jK ⟨v235, rfl, aE, hb⟩; refine ⟨_, rfl, ?_⟩; have aN := aM (Kd.R_lower (Kd.R_new' (Kd.R_new' (Kd.R_new' aE (Kd.R_lt (xr aA))) (Kd.R_lt (xr aB))) (Kd.R_lt (xr aG))) (below_size xbel)); replace aA := aM (Kd.R_elder' (xr aA) (Kd.R_base aE) hb); replace aB := aM (Kd.R_elder' (xr aB) (Kd.R_base aE) hb); replace aG := aM (Kd.R_elder' (xr aG) (Kd.R_base aE) hb); replace HB := xbs hb; (try clear hb aE); obtain ⟨fQ, fR, fS⟩ := Kd.R_slice aN.out; subst fS; obtain ⟨fT, fU, fV⟩ := Kd.R_slice aB.out; subst fV) | ((with_reducible refine gC 33 rfl ?_); refine goesLY (some 22) rfl Try.func33 #[.slice fQ aC.length fR, .slice fT aL.length fU] ?_; (with_reducible refine (laws_eqByteS.calls k _ _ aC _ _ aL true _ ?side1 ?side2 ?side3 ?side4 A7.out).mono ?_); (case side1 => exact xC aN); (case side2 => exact (Kd.R_reads' aN.out).2.1); (case side3 => exact xC aB); (case side4 => exact (Kd.R_reads' aB.out).2.1); rintro e w' ⟨rfl, ⟨nd, rfl⟩⟩; refine ⟨_, rfl, ?_⟩) | ((with_reducible refine gC 31 rfl ?_); refine goesLY (some 26) rfl Try.func31 #[.slice A0 l0.length c0] ?_; (with_reducible refine (laws_toByteS.calls k _ _ l0 aY _ ?side1 ?side2 A9.out).mono ?_); (case side1 => repeat (first | exact (Kd.C_below bK.out xbel) | (with_reducible refine Kd.C_alloc ?_ _) | (with_reducible refine Kd.C_drewN ?_ _) | (with_reducible refine Kd.C_drew ?_))); (case side2 => exact bM.out); rintro e jL ⟨v239, rfl, aE, hb⟩; refine ⟨_, rfl, ?_⟩; have aW := aM (Kd.R_lower (Kd.R_new' (Kd.R_new' (Kd.R_new' (Kd.R_new' aE (Kd.R_lt (xr aA))) (Kd.R_lt (xr aB))) (Kd.R_lt (xr aG))) (Kd.R_lt (xr aN))) (below_size xbel)); replace aA := aM (Kd.R_elder' (xr aA) (Kd.R_base aE) hb); replace aB := aM (Kd.R_elder' (xr aB) (Kd.R_base aE) hb); replace aG := aM (Kd.R_elder' (xr aG) (Kd.R_base aE) hb); replace aN := aM (Kd.R_elder' (xr aN) (Kd.R_base aE) hb); replace HB := xbs hb; (try clear hb aE); obtain ⟨fW, fX, fY⟩ := Kd.R_slice aW.out; subst fY) | ((with_reducible refine gC 33 rfl ?_); refine goesLY (some 27) rfl Try.func33 #[.slice dW aO.length dX, .slice fW aY.length fX] ?_; (with_reducible refine (laws_eqByteS.calls k _ _ aO _ _ aY false _ ?side1 ?side2 ?side3 ?side4 hJ.out).mono ?_); (case side1 => exact xC aG); (case side2 => exact u5_5); (case side3 => exact xC aW); (case side4 => exact (Kd.R_reads' aW.out).2.1); rintro e w' ⟨rfl, ⟨nd, rfl⟩⟩; refine ⟨_, rfl, ?_⟩))
    go_ret
    exact ⟨xerr, xbel⟩
  ·replace c8 := Bool.eq_false_iff.mpr c8; subst c8; replace H := iN H; obtain rfl := Option.some.inj H; go_enter Try.func6, Try.ntmps6
   go_wp2_with (first | ((with_reducible refine gC 31 rfl ?_); refine goesLY (some 14) rfl Try.func31 #[.slice A0 l0.length c0] ?_; (with_reducible refine (laws_toByteS.calls k _ _ l0 aS _ ?side1 ?side2 A3.out).mono ?_); (case side1 => repeat (first | exact bK.out | (with_reducible refine Kd.C_alloc ?_ _) | (with_reducible refine Kd.C_drewN ?_ _) | (with_reducible refine Kd.C_drew ?_))); (case side2 => exact bM.out); rintro e jM ⟨v226, rfl, aE, hb⟩; refine ⟨_, rfl, ?_⟩; have aA := aM (Kd.R_lower aE (below_size xbel)); replace HB := xbs hb; (try clear hb aE); obtain ⟨fZ, gA, gB⟩ := Kd.R_slice aA.out; subst gB) | ((with_reducible refine gC 30 rfl ?_); refine goesLY (some 15) rfl Try.func30 #[.slice fZ aS.length gA] ?_; (with_reducible refine (spec_Sha.calls k _ _ aS aL _ ?side1 ?side2 A4.out).mono ?_); (case side1 => exact xC aA); (case side2 => exact (Kd.R_reads' aA.out).2.1); rintro e jN ⟨v229, rfl, aE, hb⟩; refine ⟨_, rfl, ?_⟩; have aB := aM (Kd.R_lower (Kd.R_new' aE (Kd.R_lt (xr aA))) (below_size xbel)); replace aA := aM (Kd.R_elder' (xr aA) (Kd.R_base aE) hb); replace HB := xbs hb; (try clear hb aE)) | ((with_reducible refine gC 31 rfl ?_); refine goesLY (some 17) rfl Try.func31 #[.slice A0 l0.length c0] ?_; (with_reducible refine (laws_toByteS.calls k _ _ l0 aO _ ?side1 ?side2 A5.out).mono ?_); (case side1 => exact xcb bK); (case side2 => exact bM.out); rintro e jO ⟨v232, rfl, aE, hb⟩; refine ⟨_, rfl, ?_⟩; have aG := aM (Kd.R_lower (Kd.R_new' (Kd.R_new' aE (Kd.R_lt (xr aA))) (Kd.R_lt (xr aB))) (below_size xbel)); replace aA := aM (Kd.R_elder' (xr aA) (Kd.R_base aE) hb); replace aB := aM (Kd.R_elder' (xr aB) (Kd.R_base aE) hb); replace HB := xbs hb; (try clear hb aE); obtain ⟨gE, gF, gG⟩ := Kd.R_slice aG.out; subst gG) | ((with_reducible refine gC 32 rfl ?_); refine goesLY (some 19) rfl Try.func32 #[.slice gE aO.length gF] ?_; (with_reducible refine (impl_Sha.calls _ _ aO aC _ ?side1 ?side2 A6.out).mono ?_); (case side1 => exact xC aG); (case side2 => exact u5_5); rintro e jP ⟨v235, rfl, aE, hb⟩; refine ⟨_, rfl, ?_⟩; have aN := aM (Kd.R_lower (Kd.R_new' (Kd.R_new' (Kd.R_new' aE (Kd.R_lt (xr aA))) (Kd.R_lt (xr aB))) (Kd.R_lt (xr aG))) (below_size xbel)); replace aA := aM (Kd.R_elder' (xr aA) (Kd.R_base aE) hb); replace aB := aM (Kd.R_elder' (xr aB) (Kd.R_base aE) hb); replace aG := aM (Kd.R_elder' (xr aG) (Kd.R_base aE) hb); replace HB := xbs hb; (try clear hb aE); obtain ⟨gH, gI, gJ⟩ := Kd.R_slice aN.out; subst gJ; obtain ⟨gK, gL, gM⟩ := Kd.R_slice aB.out; subst gM) | ((with_reducible refine gC 33 rfl ?_); refine goesLY (some 22) rfl Try.func33 #[.slice gH aC.length gI, .slice gK aL.length gL] ?_; (with_reducible refine (laws_eqByteS.calls k _ _ aC _ _ aL false _ ?side1 ?side2 ?side3 ?side4 A7.out).mono ?_); (case side1 => exact xC aN); (case side2 => exact (Kd.R_reads' aN.out).2.1); (case side3 => exact xC aB); (case side4 => exact (Kd.R_reads' aB.out).2.1); rintro e w' ⟨rfl, ⟨nd, rfl⟩⟩; refine ⟨_, rfl, ?_⟩))
   go_ret
   exact ⟨xerr, xbel⟩

/-- THE ONE PURE STATEMENT of laws_FnExactSha. -/
def laws_FnExactSha.Pure : Prop := ∀ (l0 : List Int), l0.length ≤ maxLen → l0.length * 1 ≤ 140737488351232 → (∀ x ∈ l0, (Lit.int .u8 x).wf = true) → ∃ k, laws_FnExactSha.f k l0 = some true
theorem laws_FnExactSha.walk (P : laws_FnExactSha.Pure) (A0 : Option Addr) (c0 : Nat) (l0 : List Int) (w : World) (bV : Kd.C (Kd.int .u8) w A0 l0.length l0) (bW : l0.length ≤ c0) (hm0 : l0.length ≤ maxLen) (hz0 : l0.length * 1 ≤ 140737488351232) (iF : ∀ x ∈ l0, (Lit.int .u8 x).wf = true) :
 Calls Try.prog 6 #[.slice A0 l0.length c0] w fun e w' => e = .returned (.bool true) ∧ Below w.heap.size w w' := by
 obtain ⟨k, h⟩ := P l0 hm0 hz0 iF
 refine (laws_FnExactSha.calls k A0 c0 l0 true w bV bW h).mono ?_
 rintro e w' ⟨rfl, hd⟩
 exact ⟨rfl, hd⟩

end Go.Proofs.Ytoojdlobnbakoaa.QFnExactSha
