-- A walk, by a program of this session.
import Derived.Test.YtoojdlobnbakoaaQFnExactHardSavex0
import Derived.Test.YtoojdlobnbakoaaQFnExactHardSavex1
import Derived.Test.YtoojdlobnbakoaaQFnExactHardSavex3
import Derived.Test.YtoojdlobnbakoaaQFnExactHardSavex4
import Derived.Test.YtoojdlobnbakoaaQFnExactHardSavex5
namespace Go.Proofs.Ytoojdlobnbakoaa.QFnExactHardSave
open Go.RowKit Go.Proofs.YtoojdlobnbakoaaW.PrintWords Go.Proofs.YtoojdlobnbakoaaW.PrintLast Go.Proofs.YtoojdlobnbakoaaW.PrintMore
attribute [local go_sem] max2_int min2_int max_two min_two max_three min_three max_four min_four   -- for this text's walks alone
set_option linter.unusedVariables false
set_option linter.unusedSimpArgs false

attribute [local go_sem high] eqA127
theorem u6_0 {p : Prop} (h : p := by first | (go_simp; done) | (go_simp; rfl)) : p := h
theorem u6_1 {p : Prop} (h : p := by first | rfl | (simp; done) | (simp [*]; done)) : p := h
theorem u6_2 {p : Prop} (h : p := by first | omega | exact Nat.le_refl _) : p := h
theorem u6_3 {p : Prop} (h : p := by (with_reducible repeat (first | apply Kd.V_alloc | apply Kd.V_drewN | apply Kd.V_drew)); exact bL.out) : p := h
theorem u6_4 {p : Prop} (h : p := by first | exact Kd.R_nil _ _ _ _ _ | exact Kd.N_nil _ _ _ _ _ | exact Kd.V_nil _ _ _ _ _ | exact Kd.Q_nil _ _ _ _ _ | exact Kd.S_nil _ _ _ _ _) : p := h
/-! ### spec_Seal: function 176 -/
def spec_Seal.f (k : Nat) (l0 : List Int) : Option (List Int × Bool) := if (l0.length : Int) > 3000 then (some ((([] : List Int)), false)) else ((spec_Sum.f k l0).bind fun aN => ((spec_PutNum.f k (l0.length : Int)).bind fun cR => (if cR.length + l0.length < 140737488355328 then ((some (cR ++ l0 : List Int)).bind fun bW => ((some (([(aN) % 256, (aN / 256) % 256, (aN / 65536) % 256, (aN / 16777216) % 256] : List Int) : List Int)).bind fun bQ => (if bW.length + bQ.length < 140737488355328 then (some ((bW ++ bQ), true)) else (none)))) else (none))))
theorem u6_mq0 {p : Prop} (h : p := by repeat' first | (with_reducible first | exact spec_PutNum.mono _ _ | exact spec_Sum.mono _ _ | exact LeO.refl _ | exact LeO.none _ | refine LeO.ite ?_ ?_ | refine LeO.bind ?_ (fun _ => ?_)) | exact spec_PutNum.mono _ _ | exact spec_Sum.mono _ _ | exact LeO.none _ | refine LeO.ite ?_ ?_ | refine LeO.bind ?_ (fun _ => ?_)) : p := h
theorem spec_Seal.mono : ∀ a0 k, LeO (spec_Seal.f k a0) (spec_Seal.f (k + 1) a0) := by
 intro a0 k
 unfold spec_Seal.f
 exact u6_mq0
set_option maxHeartbeats 8000000 in
set_option maxRecDepth 100000 in
theorem spec_Seal.calls (k : Nat) (A0 : Option Addr) (c0 : Nat) (l0 : List Int) (r1 : List Int) (r2 : Bool) (w : World) (lY : Kd.C (Kd.int .u8) w A0 l0.length l0) (lZ : l0.length ≤ c0) (h : spec_Seal.f k l0 = some (r1, r2)) :
 Calls Try.prog 176 #[.slice A0 l0.length c0] w fun e w' => ∃ v0_ : Value, e = .returned (.tuple #[v0_, .bool r2]) ∧ Kd.R (Kd.int .u8) 5 w' w.heap.size (fun _ => True) v0_ r1 ∧ Below w.heap.size w w' := by
 have mA := aM lY
 have wZ := aM lZ
 clear lY lZ
 have HB := aM (Below.refl w.heap.size w)
 have H : (if (l0.length : Int) > 3000 then (some ((([] : List Int)), false)) else ((spec_Sum.f k l0).bind fun aN => ((spec_PutNum.f k (l0.length : Int)).bind fun cR => (if cR.length + l0.length < 140737488355328 then ((some (cR ++ l0 : List Int)).bind fun bW => ((some (([(aN) % 256, (aN / 256) % 256, (aN / 65536) % 256, (aN / 16777216) % 256] : List Int) : List Int)).bind fun bQ => (if bW.length + bQ.length < 140737488355328 then (some ((bW ++ bQ), true)) else (none)))) else (none))))) = some (r1, r2) := h
 clear h
 by_cases c2 : (l0.length : Int) > 3000
 ·rw [if_pos c2] at H; have dV : decide (3000 < (l0.length : Int)) = true := decide_eq_true c2; have dW : decide (3000 < l0.length) = true := decide_eq_true (by omega); clear c2; obtain ⟨vC, dD⟩ : ∃ y_ : List Int, y_ = (([] : List Int)) := ⟨_, rfl⟩; replace H : (some (vC, false)) = some (r1, r2) := by first | (rw [dD]; with_reducible exact H) | (have H2_ := oS H; rw [dD]; with_reducible exact H2_) | (have H2_ := oS H; with_reducible exact H2_) | with_reducible exact H | (rw [dD]; exact H) | exact H
  have jX := aM dD; clear dD; simp only [Option.some.injEq, Prod.mk.injEq] at H; obtain ⟨rfl, rfl⟩ := H; go_enter Try.func176, Try.ntmps176
  go_wp2_with (first | ((with_reducible refine gD 9 rfl ?_); refine Kd.R_lit (Kd.int .u8) _ 5 ?hg (N := 9) ?hd (xs := ([] : List Int)) (inner := []) (ok := fun _ => True) (okp := fun _ => True) ?hr ?hp (fun _ hk => hk) trivial (Below.refl _ _) (Nat.le_refl _) (by simp) ?_; (case hd => rfl); (case hg => rfl); (case hr => exact u6_0); (case hp => exact (Reps.none _ _)); intro zM w3 fG hb hg_ hnew_; clear hg_ hnew_; (first | rw [← jX.out] at fG | (simp only [Int.reduceToNat] at fG; rw [← jX.out] at fG)); have mB := aM (Kd.R_lower fG (below_size xbel)); replace HB := xbs hb; clear hb fG))
  go_ret2
  exact ⟨_, xerr, by (with_reducible repeat (first | apply Kd.R_alloc | apply Kd.R_drewN | apply Kd.R_drew)); exact mB.out, xbel⟩
 ·rw [if_neg c2] at H; have dV : decide (3000 < (l0.length : Int)) = false := decide_eq_false c2; have dW : decide (3000 < l0.length) = false := decide_eq_false (by omega); clear c2; replace H := oB H; obtain ⟨aN, xA, H⟩ := H; (try dsimp only at H); have A5 := aM xA; clear xA; replace H := oB H
  obtain ⟨cR, jY, H⟩ := H; (try dsimp only at H); have A6 := aM jY; clear jY
  by_cases c7 : cR.length + l0.length < 140737488355328
  ·rw [if_pos c7] at H; have LMc7 := aM c7; clear c7; obtain ⟨bW, dE⟩ : ∃ y_ : List Int, y_ = (cR ++ l0) := ⟨_, rfl⟩; replace H : ((some (([(aN) % 256, (aN / 256) % 256, (aN / 65536) % 256, (aN / 16777216) % 256] : List Int) : List Int)).bind fun bQ => (if bW.length + bQ.length < 140737488355328 then (some ((bW ++ bQ), true)) else (none))) = some (r1, r2) := by first | (rw [dE]; with_reducible exact H) | (have H2_ := oS H; rw [dE]; with_reducible exact H2_) | (have H2_ := oS H; with_reducible exact H2_) | with_reducible exact H | (rw [dE]; exact H) | exact H
   have mC := aM dE; clear dE; obtain ⟨bQ, dF⟩ : ∃ y_ : List Int, y_ = (([(aN) % 256, (aN / 256) % 256, (aN / 65536) % 256, (aN / 16777216) % 256] : List Int)) := ⟨_, rfl⟩; replace H : (if bW.length + bQ.length < 140737488355328 then (some ((bW ++ bQ), true)) else (none)) = some (r1, r2) := by first | (rw [dF]; with_reducible exact H) | (have H2_ := oS H; rw [dF]; with_reducible exact H2_) | (have H2_ := oS H; with_reducible exact H2_) | with_reducible exact H | (rw [dF]; exact H) | exact H
   have jZ := aM dF; clear dF; by_cases c8 : bW.length + bQ.length < 140737488355328
   ·rw [if_pos c8] at H; have LMc8 := aM c8; clear c8; obtain ⟨vD, dG⟩ : ∃ y_ : List Int, y_ = (bW ++ bQ) := ⟨_, rfl⟩; replace H : (some (vD, true)) = some (r1, r2) := by first | (rw [dG]; with_reducible exact H) | (have H2_ := oS H; rw [dG]; with_reducible exact H2_) | (have H2_ := oS H; with_reducible exact H2_) | with_reducible exact H | (rw [dG]; exact H) | exact H
    have mD := aM dG; clear dG; simp only [Option.some.injEq, Prod.mk.injEq] at H; obtain ⟨rfl, rfl⟩ := H; go_enter Try.func176, Try.ntmps176
    go_wp2_with (first | ((with_reducible refine gC 173 rfl ?_); refine goesLY (some 11) rfl Try.func173 #[.slice A0 l0.length c0] ?_; (with_reducible refine (spec_Sum.calls k _ _ l0 aN _ ?side1 ?side2 A5.out).mono ?_); (case side1 => repeat (first | exact mA.out | (with_reducible refine Kd.C_alloc ?_ _) | (with_reducible refine Kd.C_drewN ?_ _) | (with_reducible refine Kd.C_drew ?_))); (case side2 => exact wZ.out); rintro e w' ⟨rfl, ⟨nd, rfl⟩⟩; refine ⟨_, rfl, ?_⟩) | ((with_reducible refine gC 180 rfl ?_); refine goesLY (some 14) rfl Try.func180 #[.int .i64 (l0.length : Int)] ?_; (with_reducible refine (spec_PutNum.calls k (l0.length : Int) cR _ A6.out).mono ?_); rintro e w9 ⟨vE, rfl, bO, hb⟩; refine ⟨_, rfl, ?_⟩; have kA := aM (Kd.R_lower bO (below_size xbel)); replace HB := xbs hb; (try clear hb bO)) | ((with_reducible refine gate_builtin (b := .append) (xs := #[.tmp 14, .tmp 15]) rfl ?_); at_builtin; refine Kd.R_append_rows (Kd.int .u8) (w0 := w) w.heap.size rfl (.tmp 14) (.tmp 15) 22 5 (.int .u8 0) 1 rfl Try.underlying22 info5 rfl (by decide) (by omega) vE cR l0 _ _ _ (fun _ => True) (fun _ => False) rfl rfl ?aO ?aR (fun _ _ h => h) (fun _ h => h.elim) ?aF ?aB ?aS ?aL ?_; (case aR => exact xcb mA); (case aB => exact xbel); (case aF => exact (fun _ _ => trivial)); (case aO => exact (xr kA)); (case aS => exact (below_size xbel)); (case aL => have := LMc7.out; omega); intro vF AT ho hb hg hat; rw [← mC.out] at ho; replace HB := aM (hb); have dH := aM (ho); clear kA; clear ho hb hg hat) | ((with_reducible refine gD 29 rfl ?_); refine Kd.R_lit (Kd.int .u8) _ 5 ?hg (N := 29) ?hd (xs := ([(aN) % 256, (aN / 256) % 256, (aN / 65536) % 256, (aN / 16777216) % 256] : List Int)) (inner := [.int .u8 ((aN) % 256), .int .u8 ((aN / 256) % 256), .int .u8 ((aN / 65536) % 256), .int .u8 ((aN / 16777216) % 256)]) (ok := fun _ => True) (okp := fun _ => True) ?hr ?hp (fun _ hk => hk) trivial (Below.refl _ _) (Nat.le_refl _) (by simp) ?_; (case hd => rfl); (case hg => rfl); (case hr => exact u6_0); (case hp => exact (Reps.one (show Kd.M (Kd.int .u8) _ _ _ ((aN) % 256) [.int .u8 ((aN) % 256)] from rfl) (Reps.one (show Kd.M (Kd.int .u8) _ _ _ ((aN / 256) % 256) [.int .u8 ((aN / 256) % 256)] from rfl) (Reps.one (show Kd.M (Kd.int .u8) _ _ _ ((aN / 65536) % 256) [.int .u8 ((aN / 65536) % 256)] from rfl) (Reps.one (show Kd.M (Kd.int .u8) _ _ _ ((aN / 16777216) % 256) [.int .u8 ((aN / 16777216) % 256)] from rfl) (Reps.none _ _)))))); intro zN xD cL hb hg_ hnew_; clear hg_ hnew_; (first | rw [← jZ.out] at cL | (simp only [Int.reduceToNat] at cL; rw [← jZ.out] at cL)); have dI := aM (Kd.R_lower (Kd.R_new' cL (Kd.R_lt (xr dH))) (below_size xbel)); replace dH := aM (Kd.R_elder' (xr dH) (Kd.R_base cL) hb); replace HB := xbs hb; clear hb cL; obtain ⟨kN, kO, kP⟩ := Kd.R_slice dI.out; subst kP) | ((with_reducible refine gate_builtin (b := .append) (xs := #[.tmp 17, .tmp 29]) rfl ?_); at_builtin; refine Kd.R_append_rows (Kd.int .u8) (w0 := w) w.heap.size rfl (.tmp 17) (.tmp 29) 22 5 (.int .u8 0) 1 rfl Try.underlying22 info5 rfl (by decide) (by omega) vF bW bQ _ _ _ (fun k_ => some k_ ≠ (.slice kN bQ.length kO : Value).ownBlock) (fun _ => False) rfl rfl ?aO ?aR (fun _ _ h => h) (fun _ h => h.elim) ?aF ?aB ?aS ?aL ?_; (case aR => repeat (first | exact (Kd.R_reads' dI.out).2.2 | (with_reducible refine Kd.C_alloc ?_ _) | (with_reducible refine Kd.C_drewN ?_ _) | (with_reducible refine Kd.C_drew ?_))); (case aB => exact xbel); (case aF => exact (fun k_ hk => Kd.fresh' (Kd.R_lt (xr dI)) k_ hk)); (case aO => exact (by (with_reducible repeat (first | apply Kd.R_alloc | apply Kd.R_drewN | apply Kd.R_drew)); exact Kd.R_mono dH.out (fun _ hk => hk.2))); (case aS => exact (below_size xbel)); (case aL => have := LMc8.out; omega); intro zO AU ho hb hg hat; rw [← mD.out] at ho; replace dI := aM (Kd.R_after (ok := (fun _ => True)) (xr dI) hg hat); replace HB := aM (hb); have mE := aM (ho); clear dH; clear ho hb hg hat))
    go_ret2
    exact ⟨_, xerr, by (with_reducible repeat (first | apply Kd.R_alloc | apply Kd.R_drewN | apply Kd.R_drew)); exact Kd.R_mono mE.out (fun _ hk => trivial), xbel⟩
   ·rw [if_neg c8] at H; exact absurd H (by simp)
  ·rw [if_neg c7] at H; exact absurd H (by simp)

/-! ### spec_l4Seals: function 140 -/
def spec_l4Seals.l0 : Nat → List ByteArray → List Int → Int → Option (ByteArray × Bool)
 | 0, _, _, _ => none
 | k + 1, x0, x4, x5 => if x5 < (x0.length : Int) then (if 0 ≤ x5 then (if (rdOf ByteArray.empty x0 x5).size ≤ 9223372036854775807 then ((spec_Seal.f k (bytesOf (rdOf ByteArray.empty x0 x5))).bind fun cO => (if cO.2 = true then (if x4.length + cO.1.length < 140737488355328 then (spec_l4Seals.l0 k x0 (x4 ++ cO.1) (wrap64 (x5 + 1))) else (none)) else (some ((⟨#[]⟩ : ByteArray), false)))) else (none)) else (none)) else (some (strOfNums x4, true))
def spec_l4Seals.f (k : Nat) (l0 : List ByteArray) : Option (ByteArray × Bool) := if (l0.length : Int) > 100 then (some ((⟨#[]⟩ : ByteArray), false)) else (spec_l4Seals.l0 k l0 (([] : List Int)) 0)
theorem u6_mq1 {p : Prop} (h : p := by repeat' first | (with_reducible first | exact fH _ _ _ | exact spec_Seal.mono _ _ | exact LeO.refl _ | exact LeO.none _ | refine LeO.ite ?_ ?_ | refine LeO.bind ?_ (fun _ => ?_)) | exact fH _ _ _ | exact spec_Seal.mono _ _ | exact LeO.none _ | refine LeO.ite ?_ ?_ | refine LeO.bind ?_ (fun _ => ?_)) : p := h
set_option maxRecDepth 100000 in
theorem spec_l4Seals.mono_l : ∀ k, (∀ y0 y1 y2, LeO (spec_l4Seals.l0 k y0 y1 y2) (spec_l4Seals.l0 (k + 1) y0 y1 y2))
 | 0 => fun _ _ _ r h => by simp [spec_l4Seals.l0] at h
 | k + 1 => by
  have fH := spec_l4Seals.mono_l k
  ·intro y0 y1 y2; unfold spec_l4Seals.l0; exact u6_mq1
theorem spec_l4Seals.mono : ∀ a0 k, LeO (spec_l4Seals.f k a0) (spec_l4Seals.f (k + 1) a0) := by
 intro a0 k
 have fH := spec_l4Seals.mono_l k
 unfold spec_l4Seals.f
 exact u6_mq1
set_option maxHeartbeats 8000000 in
set_option maxRecDepth 100000 in
theorem spec_l4Seals.calls (k : Nat) (A0 : Option Addr) (c0 : Nat) (l0 : List ByteArray) (r1 : ByteArray) (r2 : Bool) (w : World) (lY : Kd.C Kd.string w A0 l0.length l0) (lZ : l0.length ≤ c0) (h : spec_l4Seals.f k l0 = some (r1, r2)) :
 Calls Try.prog 140 #[.slice A0 l0.length c0] w fun e w' => e = .returned (.tuple #[.string r1, .bool r2]) ∧ Below w.heap.size w w' := by
 have mA := aM lY
 have wZ := aM lZ
 clear lY lZ
 have HB := aM (Below.refl w.heap.size w)
 have H : (if (l0.length : Int) > 100 then (some ((⟨#[]⟩ : ByteArray), false)) else (spec_l4Seals.l0 k l0 (([] : List Int)) 0)) = some (r1, r2) := h
 clear h
 by_cases c2 : (l0.length : Int) > 100
 ·rw [if_pos c2] at H; have dV : decide (100 < (l0.length : Int)) = true := decide_eq_true c2; have dW : decide (100 < l0.length) = true := decide_eq_true (by omega); clear c2; simp only [Option.some.injEq, Prod.mk.injEq] at H; obtain ⟨rfl, rfl⟩ := H; go_enter Try.func140, Try.ntmps140
  go_wp2; go_ret2
  exact ⟨xerr, xbel⟩
 ·rw [if_neg c2] at H; have dV : decide (100 < (l0.length : Int)) = false := decide_eq_false c2; have dW : decide (100 < l0.length) = false := decide_eq_false (by omega); clear c2; obtain ⟨mF, dJ⟩ : ∃ y_ : List Int, y_ = (([] : List Int)) := ⟨_, rfl⟩; replace H : (spec_l4Seals.l0 k l0 mF 0) = some (r1, r2) := by first | (rw [dJ]; with_reducible exact H) | (have H2_ := oS H; rw [dJ]; with_reducible exact H2_) | (have H2_ := oS H; with_reducible exact H2_) | with_reducible exact H | (rw [dJ]; exact H) | exact H
  have kB := aM dJ; clear dJ; have H' := aM H; clear H; go_enter Try.func140, Try.ntmps140
  go_wp2_with (first | ((with_reducible refine gD 11 rfl ?_); refine Kd.R_lit (Kd.int .u8) _ 5 ?hg (N := 11) ?hd (xs := ([] : List Int)) (inner := []) (ok := fun _ => True) (okp := fun _ => True) ?hr ?hp (fun _ hk => hk) trivial (Below.refl _ _) (Nat.le_refl _) (by simp) ?_; (case hd => rfl); (case hg => rfl); (case hr => exact u6_0); (case hp => exact (Reps.none _ _)); intro zP w3 fG hb hg_ hnew_; clear hg_ hnew_; (first | rw [← kB.out] at fG | (simp only [Int.reduceToNat] at fG; rw [← kB.out] at fG)); have mG := aM (Kd.R_lower fG (below_size xbel)); replace HB := xbs hb; clear hb fG))
  go_loopg [4, 5] k (fun kq v4 v5 w' => ∃ (dK : List Int) (bC : Int), v5 = .int .i64 bC ∧ Aside0 (spec_l4Seals.l0 kq l0 dK bC = some (r1, r2)) ∧ Aside0 (kq ≤ k) ∧ Aside0 (Kd.R (Kd.int .u8) 5 w' w.heap.size (fun _ => True) v4 dK) ∧ Aside0 (Below w.heap.size w w'))
  case atStart => exact ⟨(mF), (0), u6_1, H', ⟨Nat.le_refl _⟩, ⟨by (with_reducible repeat (first | apply Kd.R_alloc | apply Kd.R_drewN | apply Kd.R_drew)); exact mG.out⟩, ⟨xbel⟩⟩
  case round =>
   clear H'; try clear c1
   try clear c2
   try clear dV
   try clear dW
   try clear p2
   obtain ⟨dK, bC, rfl, HA, HK1, bR, HB⟩ := hrel; cases gk with
   | zero => exact absurd HA.out (by simp [spec_l4Seals.l0])
   | succ k1 =>
    have H := HA.out; clear HA; simp only [spec_l4Seals.l0] at H; by_cases c5 : bC < (l0.length : Int)
    ·rw [if_pos c5] at H; have kQ : decide (bC < (l0.length : Int)) = true := decide_eq_true c5; clear c5; by_cases c6 : 0 ≤ bC
     ·rw [if_pos c6] at H; have zQ : decide (0 ≤ bC) = true := decide_eq_true c6; clear c6; by_cases c7 : (rdOf ByteArray.empty l0 bC).size ≤ 9223372036854775807
      ·rw [if_pos c7] at H; have zR := eq_true c7; have zS : decide ((rdOf ByteArray.empty l0 bC).size ≤ 9223372036854775807) = true := decide_eq_true c7; try have zT : (9223372036854775807 < (rdOf ByteArray.empty l0 bC).size) = False := eq_false (Nat.not_lt.2 c7)
       clear c7; obtain ⟨fI, dL⟩ : ∃ y_ : List Int, y_ = (bytesOf (rdOf ByteArray.empty l0 bC)) := ⟨_, rfl⟩; replace H : ((spec_Seal.f k1 fI).bind fun cO => (if cO.2 = true then (if dK.length + cO.1.length < 140737488355328 then (spec_l4Seals.l0 k1 l0 (dK ++ cO.1) (wrap64 (bC + 1))) else (none)) else (some ((⟨#[]⟩ : ByteArray), false)))) = some (r1, r2) := by first | (rw [dL]; with_reducible exact H) | (have H2_ := oS H; rw [dL]; with_reducible exact H2_) | (have H2_ := oS H; with_reducible exact H2_) | with_reducible exact H | (rw [dL]; exact H) | exact H
       have dY := aM dL; clear dL; replace H := oB H; obtain ⟨⟨dX, vG⟩, xE, H⟩ := H; (try dsimp only at H); have A8 := aM xE; clear xE
       by_cases c9 : vG = true
       ·subst c9; replace H := iT H; by_cases c10 : dK.length + dX.length < 140737488355328
        ·rw [if_pos c10] at H; have LMc10 := aM c10; clear c10; obtain ⟨mH, dM⟩ : ∃ y_ : List Int, y_ = (dK ++ dX) := ⟨_, rfl⟩; replace H : (spec_l4Seals.l0 k1 l0 mH (wrap64 (bC + 1))) = some (r1, r2) := by first | (rw [dM]; with_reducible exact H) | (have H2_ := oS H; rw [dM]; with_reducible exact H2_) | (have H2_ := oS H; with_reducible exact H2_) | with_reducible exact H | (rw [dM]; exact H) | exact H
         have mI := aM dM; clear dM; have H' := aM H; clear H; have p199 : 0 ≤ (bC : Int) := oda; have q199 : bC < (l0.length : Int) := oda; obtain ⟨mJ, kR, bU⟩ := Kd.at_string mA.out bC p199 q199; cases kR
         replace bU := xce HB bU; replace p199 := eq_true p199; replace q199 := eq_true q199; go_wp2_with (first | ((with_reducible refine gD 23 rfl ?_); refine Kd.V_conv _ 5 rfl (N := 23) rfl 9 22 _ rfl (rdOf ByteArray.empty l0 bC) rfl Try.underlying9 Try.underlying22 Try.underlying5 (oda) (ok := fun k_ => wr.heap.size ≤ k_) (Nat.le_refl _) (Below.refl _ _) (Nat.le_refl _) ?_; intro vH xD cL hb hg_ hnew_; clear hg_ hnew_; (first | rw [← dY.out] at cL | (simp only [Int.reduceToNat] at cL; rw [← dY.out] at cL)); have bL := aM (Kd.V_lower (Kd.V_mono (ok' := fun k_ => some k_ ≠ (u4 : Value).ownBlock) cL (fun k_ hk_ => (Kd.fresh' (Kd.R_lt (xr bR)) k_ hk_))) (below_size xbel)); replace bR := xrb bR hb; replace HB := xbs hb; clear hb cL; obtain ⟨vI, vJ, vK⟩ := Kd.V_slice bL.out; subst vK) | ((with_reducible refine gC 176 rfl ?_); refine goesLY (some 24) rfl Try.func176 #[.slice vI fI.length vJ] ?_; (with_reducible refine (spec_Seal.calls k1 _ _ fI dX true _ ?side1 ?side2 A8.out).mono ?_); (case side1 => repeat (first | exact (Kd.V_reads' bL.out).2.2 | (with_reducible refine Kd.C_alloc ?_ _) | (with_reducible refine Kd.C_drewN ?_ _) | (with_reducible refine Kd.C_drew ?_))); (case side2 => exact (Kd.V_reads' bL.out).2.1); rintro e vL ⟨vM, rfl, bO, hb⟩; refine ⟨_, rfl, ?_⟩; replace bL := aM (Kd.V_elder' u6_3 (Kd.R_base bO) hb); have cT := aM (Kd.R_lower (Kd.R_new' bO (Kd.R_lt (xr bR))) (below_size xbel)); replace bR := aM (Kd.R_elder' (xr bR) (Kd.R_base bO) hb); replace HB := xbs hb; (try clear hb bO); obtain ⟨fJ, fK, kS⟩ := Kd.R_slice cT.out; subst kS) | ((with_reducible refine gate_builtin (b := .append) (xs := #[.tmp 29, .tmp 30]) rfl ?_); at_builtin; refine Kd.R_append_rows (Kd.int .u8) (w0 := w) w.heap.size rfl (.tmp 29) (.tmp 30) 22 5 (.int .u8 0) 1 rfl Try.underlying22 info5 rfl (by decide) (by omega) u4 dK dX _ _ _ (fun k_ => some k_ ≠ (.slice fJ dX.length fK : Value).ownBlock) (fun _ => False) rfl rfl ?aO ?aR (fun _ _ h => h) (fun _ h => h.elim) ?aF ?aB ?aS ?aL ?_; (case aR => repeat (first | exact (Kd.R_reads' cT.out).2.2 | (with_reducible refine Kd.C_alloc ?_ _) | (with_reducible refine Kd.C_drewN ?_ _) | (with_reducible refine Kd.C_drew ?_))); (case aB => exact xbel); (case aF => exact (fun k_ hk => Kd.fresh' (Kd.R_lt (xr cT)) k_ hk)); (case aO => exact (by (with_reducible repeat (first | apply Kd.R_alloc | apply Kd.R_drewN | apply Kd.R_drew)); exact Kd.R_mono bR.out (fun _ hk => hk.2))); (case aS => exact (below_size xbel)); (case aL => have := LMc10.out; omega); intro zU xF ho hb hg hat; rw [← mI.out] at ho; replace bL := aM (Kd.V_afterv (ok := (fun k_ => some k_ ≠ (.slice fJ dX.length fK : Value).ownBlock)) (by (with_reducible repeat (first | apply Kd.V_alloc | apply Kd.V_drewN | apply Kd.V_drew)); exact Kd.V_mono bL.out (fun _ hk => ⟨hk.2, hk.1⟩)) hg hat); replace cT := aM (Kd.R_after (ok := (fun _ => True)) (xr cT) hg hat); replace HB := aM (hb); have mK := aM (ho); clear bR; clear ho hb hg hat))
         go_roundg k1
         case measure => have := HK1.out; omega
         case rel => exact ⟨(mH), (wrap64 (bC + 1)), u6_1, H', ⟨by have := HK1.out; omega⟩, ⟨by (with_reducible repeat (first | apply Kd.R_alloc | apply Kd.R_drewN | apply Kd.R_drew)); exact Kd.R_mono mK.out (fun _ hk => trivial)⟩, ⟨xbel⟩⟩
        ·rw [if_neg c10] at H; exact absurd H (by simp)
       ·replace c9 := Bool.eq_false_iff.mpr c9; subst c9; replace H := iN H; simp only [Option.some.injEq, Prod.mk.injEq] at H; obtain ⟨rfl, rfl⟩ := H; have p199 : 0 ≤ (bC : Int) := oda; have q199 : bC < (l0.length : Int) := oda; obtain ⟨mJ, kR, bU⟩ := Kd.at_string mA.out bC p199 q199; cases kR
        replace bU := xce HB bU; replace p199 := eq_true p199; replace q199 := eq_true q199; go_wp2_with (first | ((with_reducible refine gD 23 rfl ?_); refine Kd.V_conv _ 5 rfl (N := 23) rfl 9 22 _ rfl (rdOf ByteArray.empty l0 bC) rfl Try.underlying9 Try.underlying22 Try.underlying5 (oda) (ok := fun k_ => wr.heap.size ≤ k_) (Nat.le_refl _) (Below.refl _ _) (Nat.le_refl _) ?_; intro vH gH fL hb hg_ hnew_; clear hg_ hnew_; (first | rw [← dY.out] at fL | (simp only [Int.reduceToNat] at fL; rw [← dY.out] at fL)); have bL := aM (Kd.V_lower (Kd.V_mono (ok' := fun k_ => some k_ ≠ (u4 : Value).ownBlock) fL (fun k_ hk_ => (Kd.fresh' (Kd.R_lt (xr bR)) k_ hk_))) (below_size xbel)); replace bR := xrb bR hb; replace HB := xbs hb; clear hb fL; obtain ⟨kT, kU, kV⟩ := Kd.V_slice bL.out; subst kV) | ((with_reducible refine gC 176 rfl ?_); refine goesLY (some 24) rfl Try.func176 #[.slice kT fI.length kU] ?_; (with_reducible refine (spec_Seal.calls k1 _ _ fI dX false _ ?side1 ?side2 A8.out).mono ?_); (case side1 => repeat (first | exact (Kd.V_reads' bL.out).2.2 | (with_reducible refine Kd.C_alloc ?_ _) | (with_reducible refine Kd.C_drewN ?_ _) | (with_reducible refine Kd.C_drew ?_))); (case side2 => exact (Kd.V_reads' bL.out).2.1); rintro e zV ⟨vM, rfl, bO, hb⟩; refine ⟨_, rfl, ?_⟩; replace bL := aM (Kd.V_elder' u6_3 (Kd.R_base bO) hb); have cT := aM (Kd.R_lower (Kd.R_new' bO (Kd.R_lt (xr bR))) (below_size xbel)); replace bR := aM (Kd.R_elder' (xr bR) (Kd.R_base bO) hb); replace HB := xbs hb; (try clear hb bO)))
        go_ret2
        exact ⟨xerr, xbel⟩
      ·rw [if_neg c7] at H; exact absurd H (by simp)
     ·rw [if_neg c6] at H; exact absurd H (by simp)
    ·rw [if_neg c5] at H; have kQ : decide (bC < (l0.length : Int)) = false := decide_eq_false c5; clear c5; simp only [Option.some.injEq, Prod.mk.injEq] at H; obtain ⟨rfl, rfl⟩ := H; have hcv21 := own_string (P := Try.prog) Try.underlying22 Try.underlying5 Try.underlying9 (Kd.own_of_R bR.out); go_wp2; go_ret2
     exact ⟨xerr, xbel⟩

/-! ### spec_DiskAppend: function 141 -/
def spec_DiskAppend.j0 : Nat → Int → ByteArray → Bool → Int → List (S95) → Option (Int × (List (S95)) × Int)
 | 0, _, _, _, _, _ => none
 | k + 1, x1, x2, zW, bP, aU => if zW = true then (some (0, ([] : List (S95)), 1)) else ((spec_l3Size.f k bP aU).bind fun dN => (if (x2.size : Int) > (wrap64 (bP - dN)) then ((spec_l3Copy.f bP aU).bind fun kC => (some (kC.1, kC.2, 3))) else ((spec_l3Find.f k bP aU x1).bind fun aK => (if aK ≥ 0 then (if 0 ≤ aK then (if aK < (aU.length : Int) then (if ((rd_T95 aU aK).f2).size + x2.size ≤ 9223372036854775807 then ((spec_l3Put.f k bP aU ((rd_T95 aU aK).f0) ((rd_T95 aU aK).f1) (((rd_T95 aU aK).f2) ++ x2)).bind fun kE => (some (kE.1, kE.2, 0))) else (none)) else (none)) else (none)) else (if 0 + x2.size ≤ 9223372036854775807 then ((spec_l3Put.f k bP aU x1 (⟨#[]⟩ : ByteArray) ((⟨#[]⟩ : ByteArray) ++ x2)).bind fun kF => (some (kF.1, kF.2, 0))) else (none))))))
def spec_DiskAppend.f (k : Nat) (aA : Int) (aD : List (S95)) (a1 : Int) (a2 : ByteArray) : Option (Int × (List (S95)) × Int) := (spec_DiskOk.f k aA aD).bind fun fM => (if fM = true then ((spec_l3Name.f a1).bind fun fA => (spec_DiskAppend.j0 k a1 a2 (!fA) aA aD)) else (spec_DiskAppend.j0 k a1 a2 true aA aD))
theorem u6_mq2 {p : Prop} (h : p := by repeat' first | (with_reducible first | exact fH _ _ _ _ _ | exact spec_DiskOk.mono _ _ _ | exact spec_l3Find.mono _ _ _ _ | exact spec_l3Put.mono _ _ _ _ _ _ | exact spec_l3Size.mono _ _ _ | exact LeO.refl _ | exact LeO.none _ | refine LeO.ite ?_ ?_ | refine LeO.bind ?_ (fun _ => ?_)) | exact fH _ _ _ _ _ | exact spec_DiskOk.mono _ _ _ | exact spec_l3Find.mono _ _ _ _ | exact spec_l3Put.mono _ _ _ _ _ _ | exact spec_l3Size.mono _ _ _ | exact LeO.none _ | refine LeO.ite ?_ ?_ | refine LeO.bind ?_ (fun _ => ?_)) : p := h
set_option maxRecDepth 100000 in
theorem spec_DiskAppend.mono_l : ∀ k, (∀ y0 y1 y2 y3 y4, LeO (spec_DiskAppend.j0 k y0 y1 y2 y3 y4) (spec_DiskAppend.j0 (k + 1) y0 y1 y2 y3 y4))
 | 0 => fun _ _ _ _ _ r h => by simp [spec_DiskAppend.j0] at h
 | k + 1 => by
  have fH := spec_DiskAppend.mono_l k
  ·intro y0 y1 y2 y3 y4; unfold spec_DiskAppend.j0; exact u6_mq2
theorem spec_DiskAppend.mono : ∀ a0 a1 a2 a3 k, LeO (spec_DiskAppend.f k a0 a1 a2 a3) (spec_DiskAppend.f (k + 1) a0 a1 a2 a3) := by
 intro a0 a1 a2 a3 k
 have fH := spec_DiskAppend.mono_l k
 unfold spec_DiskAppend.f
 exact u6_mq2
def spec_DiskAppend.T3 : Bool × List (List Nat × List Nat) := (true, [([], []), ([0], [0]), ([], []), ([2], [2]), ([], []), ([4], [4]), ([3, 5], [3, 5]), ([1, 6], [1, 6]), ([7, 5], [7])])
def spec_DiskAppend.B3 : List Nat := [0, 1, 0, 4, 0, 16, 60, 127, 255]
theorem spec_DiskAppend.tab3 : rtab .any (opsOf Try.f141 3) = spec_DiskAppend.T3 := by kernel_rfl
theorem spec_DiskAppend.bits3 : waitsOk spec_DiskAppend.T3.2 spec_DiskAppend.B3 = true := by kernel_rfl
set_option maxHeartbeats 8000000 in
set_option maxRecDepth 100000 in
theorem spec_DiskAppend.calls (k : Nat) (aA : Int) (aV : Option Addr) (aT : Nat) (aD : List (S95)) (a1 : Int) (a2 : ByteArray) (r1 : Int) (r2 : List (S95)) (r3 : Int) (w : World) (cJ : Kd.C k95 w aV aD.length aD) (cK : aD.length ≤ aT) (h : spec_DiskAppend.f k aA aD a1 a2 = some (r1, r2, r3)) :
 Calls Try.prog 141 #[.agg #[.int .i64 aA, .slice aV aD.length aT], .int .i64 a1, .string a2] w fun e w' => ∃ v1_ : Value, e = .returned (.tuple #[.agg #[.int .i64 r1, v1_], .int .i64 r3]) ∧ Kd.R k95 95 w' w.heap.size (fun _ => True) v1_ r2 ∧ Below w.heap.size w w' := by
 have mL := Try.underlying26
 have zX := Try.underlying95
 have aY := aM cJ
 have bE := aM cK
 clear cJ cK
 have HB := aM (Below.refl w.heap.size w)
 have H : ((spec_DiskOk.f k aA aD).bind fun fM => (if fM = true then ((spec_l3Name.f a1).bind fun fA => (spec_DiskAppend.j0 k a1 a2 (!fA) aA aD)) else (spec_DiskAppend.j0 k a1 a2 true aA aD))) = some (r1, r2, r3) := h
 clear h
 have vN := aM H
 clear H
 go_enter Try.func141, Try.ntmps141
 go_upto_region 1 with (first | ((with_reducible refine gD 3 rfl ?_); refine boxE (N := 3) rfl (cs := #[.int .i64 aA, .slice aV aD.length aT]) (t := 26) ?_; intro mM hg w5 hbox hb; have aC := aM (hbox); have xG := aM (xge hg); have xH := aM (xge hg); replace HB := xbs hb; clear hb hbox hg) | ((with_reducible refine gD 6 rfl ?_); refine boxE (N := 6) rfl (cs := #[.int .i64 0, .slice none 0 0]) (t := 26) ?_; intro dO hg w6 hbox hb; have xI := aM (xge hg); have xJ := aM (xge hg); replace HB := xbs hb; have bA := nblt aC hg; have bB := nbgt aC hg; replace aC := xbb aC hb; have aE := aM (hbox); clear hb hbox hg))
 (try simp only [Act.put, List.setIfInBounds_toArray, List.set_cons_zero, List.set_cons_succ])
 go_cut [10] (fun zY wc => ∃ (kq : Nat) (dZ : Bool), zY = .bool dZ ∧ Aside0 (spec_DiskAppend.j0 kq a1 a2 dZ aA aD = some (r1, r2, r3)) ∧ Aside0 (kq ≤ k) ∧ Aside0 (wc.heap[mM]? = some (.cells #[.int .i64 aA, (.slice aV aD.length aT)] 26 (0, 0))) ∧ Aside0 (wc.heap[dO]? = some (.cells #[.int .i64 0, (.slice none 0 0)] 26 (0, 0))) ∧ Aside0 (Below w.heap.size w wc))
 case first =>
  have H := vN.out; clear vN; replace H := oB H; obtain ⟨fM, xL, H⟩ := H; (try dsimp only at H); have A7 := aM xL; clear xL
  by_cases c8 : fM = true
  ·subst c8; replace H := iT H; replace H := oB H; obtain ⟨fA, xM, H⟩ := H; (try dsimp only at H); have A9 := aM xM; clear xM
   have H' := aM H; clear H; have mN := bA.out; have mO := bB.out; obtain ⟨eA, eB, eC, eD⟩ := xf2 (w := w6) aC; go_wp2_with (first | ((with_reducible refine gC 132 rfl ?_); refine goesLY (some 12) rfl Try.func132 #[.agg #[.int .i64 aA, .slice aV aD.length aT]] ?_; (with_reducible refine (spec_DiskOk.calls k aA _ _ aD true _ ?side1 ?side2 A7.out).mono ?_); (case side1 => exact xcb aY); (case side2 => exact bE.out); rintro e lW ⟨rfl, hb⟩; refine ⟨_, rfl, ?_⟩; replace aC := xbb aC hb; replace aE := xbb aE hb; replace HB := xbs hb; (try clear hb)) | (go_at_call 133; (with_reducible refine (spec_l3Name.calls a1 fA _ A9.out).mono ?_); rintro e w' ⟨rfl, ⟨nd, rfl⟩⟩))
   go_meet
   case rel => exact ⟨_, (!fA), u6_1, H', ⟨u6_2⟩, ⟨xblk⟩, ⟨xblk⟩, ⟨xbg⟩⟩
  ·replace c8 := Bool.eq_false_iff.mpr c8; subst c8; replace H := iN H; have H' := aM H; clear H; have mP := bA.out; have mQ := bB.out; obtain ⟨gI, gJ, gK, gL⟩ := xf2 (w := w6) aC; go_wp2_with (first | ((with_reducible refine gC 132 rfl ?_); refine goesLY (some 12) rfl Try.func132 #[.agg #[.int .i64 aA, .slice aV aD.length aT]] ?_; (with_reducible refine (spec_DiskOk.calls k aA _ _ aD false _ ?side1 ?side2 A7.out).mono ?_); (case side1 => exact xcb aY); (case side2 => exact bE.out); rintro e xF ⟨rfl, hb⟩; refine ⟨_, rfl, ?_⟩; replace aC := xbb aC hb; replace aE := xbb aE hb; replace HB := xbs hb; (try clear hb)))
   go_meet
   case rel => exact ⟨_, (true), u6_1, H', ⟨u6_2⟩, ⟨xblk⟩, ⟨xblk⟩, ⟨xbg⟩⟩
 case rest =>
  clear vN; try clear c1
  try clear p2
  try clear c8
  try clear c10
  try clear AV
  try clear AW
  try clear eA eB
  try clear gI gJ
  try clear eC eD
  try clear gK gL
  obtain ⟨kq, dZ, rfl, HA, HJ3, aC, aE, HB⟩ := hcut; cases kq with
  | zero => exact absurd HA.out (by simp [spec_DiskAppend.j0])
  | succ kW =>
   have H := HA.out; clear HA; simp only [spec_DiskAppend.j0] at H; by_cases oY : dZ = true
   ·subst oY; replace H := iT H; simp only [Option.some.injEq, Prod.mk.injEq] at H; obtain ⟨rfl, rfl, rfl⟩ := H; have xN := bB.out; have xO := bA.out; obtain ⟨cV, cW, cX, cY⟩ := xf2 (w := wc) aE; go_wp2; refine bodyPost_ret (results_ct rfl _ _ dO 26 #[.int .i64 0, .slice none 0 0] (0, 0) _ rfl xP Try.underlying26 rfl (by kernel_rfl)) rfl ?_; exact ⟨_, xerr, u6_4, xbg⟩
   ·replace oY := Bool.eq_false_iff.mpr oY; subst oY; replace H := iN H; replace H := oB H; obtain ⟨dN, fN, H⟩ := H; (try dsimp only at H); have lX := aM fN; clear fN
    by_cases fE : (a2.size : Int) > (wrap64 (aA - dN))
    ·rw [if_pos fE] at H; have mR : decide ((wrap64 (aA - dN)) < (a2.size : Int)) = true := decide_eq_true fE; clear fE; replace H := oB H; obtain ⟨⟨mS, mT⟩, fO, H⟩ := H; (try dsimp only at H); have vO := aM fO; clear fO
     simp only [Option.some.injEq, Prod.mk.injEq] at H; obtain ⟨rfl, rfl, rfl⟩ := H; try go_wp2
     replace aC := bD aC; replace aE := bD aE; replace HB := lD HB; refine sb2 9 spec_DiskAppend.tab3 spec_DiskAppend.bits3 aC (fun hHeld HT_ HW_ => ?_); generalize wc.drew = AX at aC aE HB hHeld ⊢; refine pv_ 0 21 (h := ?_); refine pv_ 1 22 (h := ?_); refine pv_ 2 23 (h := ?_); refine tk_ 3 24 (h := ?_); refine tk_ 4 25 (h := ?_); refine on_ 5 26 (h := fun K hK => ?_); refine goesY Try.func174 #[.agg #[.int .i64 aA, .slice aV aD.length aT]] ?_; with_reducible refine (spec_l3Size.calls kW aA _ _ aD dN _ ?side1 ?side2 lX.out).mono ?_
     (case side1 => exact xcb aY); (case side2 => exact bE.out); rintro e zZ ⟨rfl, hb⟩; refine ⟨_, rfl, ?_⟩; replace aC := xbb aC hb; replace aE := xbb aE hb; replace HB := xbs hb; (try clear hb); refine hK.out _ _ ⟨xc aC 0 rfl, xc aC 1 rfl⟩ (fun hHeld => ?_); clear hK K; refine nm_ (N := 26) ?_; refine pv_ 6 27 (h := ?_); refine pv_ 7 28 (h := ?_); refine pv_ 8 20 (h := ?_); refine dn_ ?_; have mU := bA.out; have mV := bB.out; obtain ⟨eE, eF, eG, eH⟩ := xf2 (w := zZ) aC; try go_wp2_with (first | ((with_reducible refine gC 135 rfl ?_); refine goesLY (some 30) rfl Try.func135 #[.agg #[.int .i64 aA, .slice aV aD.length aT]] ?_; (with_reducible refine (spec_l3Copy.calls aA _ _ aD mS mT _ ?side1 ?side2 vO.out).mono ?_); (case side1 => exact xcb aY); (case side2 => exact bE.out); rintro e AA ⟨AB, rfl, bO, hb⟩; refine ⟨_, rfl, ?_⟩; have kG := aM (Kd.R_lower bO (below_size xbg)); replace aC := xbb aC hb; replace aE := xbb aE hb; replace HB := xbs hb; (try clear hb bO); obtain ⟨oZ, pA, pB, pC⟩ := xf2 (w := AA) aE; obtain ⟨vP, vQ, vR⟩ := Kd.R_slice kG.out; subst vR))
     refine bodyPost_ret (results_ct rfl _ _ dO 26 #[.int .i64 mS, .slice vP mT.length vQ] (0, 0) _ rfl xP Try.underlying26 rfl (by kernel_rfl)) rfl ?_; exact ⟨_, xerr, xrm kG (fun _ _ => trivial), xbg⟩
    ·rw [if_neg fE] at H; have mR : decide ((wrap64 (aA - dN)) < (a2.size : Int)) = false := decide_eq_false fE; clear fE; replace H := oB H; obtain ⟨aK, mW, H⟩ := H; (try dsimp only at H); have xQ := aM mW; clear mW
     by_cases fF : aK ≥ 0
     ·rw [if_pos fF] at H; have fP : decide (0 ≤ aK) = true := decide_eq_true fF; clear fF; by_cases pD : 0 ≤ aK
      ·rw [if_pos pD] at H; have xR : decide (0 ≤ aK) = true := decide_eq_true pD; clear pD; by_cases pE : aK < (aD.length : Int)
       ·rw [if_pos pE] at H; have xS : decide (aK < (aD.length : Int)) = true := decide_eq_true pE; clear pE; by_cases mX : ((rd_T95 aD aK).f2).size + a2.size ≤ 9223372036854775807
        ·rw [if_pos mX] at H; have xT := eq_true mX; have xU : decide (((rd_T95 aD aK).f2).size + a2.size ≤ 9223372036854775807) = true := decide_eq_true mX; try have xV : (9223372036854775807 < ((rd_T95 aD aK).f2).size + a2.size) = False := eq_false (Nat.not_lt.2 mX)
         replace H := oB H; obtain ⟨⟨mY, mZ⟩, nA, H⟩ := H; (try dsimp only at H); have AC := aM nA; clear nA
         simp only [Option.some.injEq, Prod.mk.injEq] at H; obtain ⟨rfl, rfl, rfl⟩ := H; try go_wp2
         replace aC := bD aC; replace aE := bD aE; replace HB := lD HB; refine sb2 9 spec_DiskAppend.tab3 spec_DiskAppend.bits3 aC (fun hHeld HT_ HW_ => ?_); generalize wc.drew = AY at aC aE HB hHeld ⊢; refine pv_ 0 21 (h := ?_); refine pv_ 1 22 (h := ?_); refine pv_ 2 23 (h := ?_); refine tk_ 3 24 (h := ?_); refine tk_ 4 25 (h := ?_); refine on_ 5 26 (h := fun K hK => ?_); refine goesY Try.func174 #[.agg #[.int .i64 aA, .slice aV aD.length aT]] ?_; with_reducible refine (spec_l3Size.calls kW aA _ _ aD dN _ ?side1 ?side2 lX.out).mono ?_
         (case side1 => exact xcb aY); (case side2 => exact bE.out); rintro e AZ ⟨rfl, hb⟩; refine ⟨_, rfl, ?_⟩; replace aC := xbb aC hb; replace aE := xbb aE hb; replace HB := xbs hb; (try clear hb); refine hK.out _ _ ⟨xc aC 0 rfl, xc aC 1 rfl⟩ (fun hHeld => ?_); clear hK K; refine nm_ (N := 26) ?_; refine pv_ 6 27 (h := ?_); refine pv_ 7 28 (h := ?_); refine pv_ 8 20 (h := ?_); refine dn_ ?_
         try go_wp2_with (first | ((with_reducible refine gD 8 rfl ?_); refine boxE (N := 8) rfl (cs := #[.int .i64 0, .string (⟨#[]⟩ : ByteArray), .string (⟨#[]⟩ : ByteArray)]) (t := 95) ?_; intro bN hg xW hbox hb; have nB := aM (xge hg); have nC := aM (xge hg); replace HB := xbs hb; have bX := nblt aC hg; have bY := nbgt aC hg; have bZ := nblt aE hg; have cA := nbgt aE hg; replace aC := xbb aC hb; replace aE := xbb aE hb; have bM := aM (hbox); clear hb hbox hg; have xX := bY.out; have xY := bX.out; have xZ := cA.out; have yA := bZ.out; obtain ⟨pF, pG, pH, pI, pJ, pK⟩ := xf3 (w := xW) bM; have yB := bA.out; have yC := bB.out; obtain ⟨pL, pM, pN, pO⟩ := xf2 (w := xW) aC) | ((with_reducible refine gC 134 rfl ?_); refine goesLY (some 35) rfl Try.func134 #[.agg #[.int .i64 aA, .slice aV aD.length aT], .int .i64 a1] ?_; (with_reducible refine (spec_l3Find.calls kW aA _ _ aD a1 aK _ ?side1 ?side2 xQ.out).mono ?_); (case side1 => exact Kd.C_below aY.out xbg); (case side2 => exact bE.out); rintro e vS ⟨rfl, hb⟩; refine ⟨_, rfl, ?_⟩; replace aC := xbc aC hb; replace aE := xbc aE hb; replace bM := aM (blk_below (g := bN) (o := .cells #[.int .i64 a1, .string (⟨#[]⟩ : ByteArray), .string (⟨#[]⟩ : ByteArray)] 95 (0, 0)) xP hb); replace HB := xbs hb; (try clear hb); obtain ⟨gM, gN, gO, gP⟩ := xf2 (w := vS) aC; have p221 : 0 ≤ (aK : Int) := oda; have q221 : aK < (aD.length : Int) := oda; obtain ⟨nD, vT, eI, eJ, eK⟩ := at_T95 aY.out aK p221 q221; cases vT; replace eI := xce HB eI; replace eJ := xce HB eJ; replace eK := xce HB eK; replace p221 := eq_true p221; replace q221 := eq_true q221; obtain ⟨gQ, gR, gS, gT, gU, gV⟩ := xf3 (w := vS) bM) | ((with_reducible refine gate_store (t := 9) (p := 47) rfl ?_); refine store_event (t := 9) (p := 47) (v := ?vo_w46) (w1 := ((((vS.setCell ⟨bN, 0, none⟩ (.int .i64 ((rd_T95 aD aK).f0))).setCell ⟨bN, 1, none⟩ (.string ((rd_T95 aD aK).f1))).setCell ⟨bN, 2, none⟩ (.string ((rd_T95 aD aK).f2))).setCell ⟨bN, 2, none⟩ (.string (((rd_T95 aD aK).f2) ++ a2)))) ?hg ?ho ?hn ?hr ?_; (case ho | hg | hn => rfl); (case hr => exact u6_0); intro vU hw; replace aC := xwc hw aC; replace aE := xwc hw aE; replace bM : Aside0 (vU.heap[bN]? = some (.cells #[.int .i64 ((rd_T95 aD aK).f0), .string ((rd_T95 aD aK).f1), .string (((rd_T95 aD aK).f2) ++ a2)] 95 (0, 0))) := xwp hw; replace HB := xbw hw HB; clear hw; obtain ⟨gW, gX, gY, gZ⟩ := xf2 (w := vU) aC; obtain ⟨hJ, hU, hX, hY, hZ, iA⟩ := xf3 (w := vU) bM) | ((with_reducible refine gC 137 rfl ?_); refine goesLY (some 50) rfl Try.func137 #[.agg #[.int .i64 aA, .slice (some nD) aD.length aT], .agg #[.int .i64 ((rd_T95 aD aK).f0), .string ((rd_T95 aD aK).f1), .string (((rd_T95 aD aK).f2) ++ a2)]] ?_; (with_reducible refine (spec_l3Put.calls kW aA _ _ aD ((rd_T95 aD aK).f0) ((rd_T95 aD aK).f1) (((rd_T95 aD aK).f2) ++ a2) mY mZ _ ?side1 ?side2 AC.out).mono ?_); (case side1 => exact xcb aY); (case side2 => exact bE.out); rintro e AD ⟨AE, rfl, bO, hb⟩; refine ⟨_, rfl, ?_⟩; have kH := aM (Kd.R_lower (Kd.R_newB bO (g := bN) (o := .cells #[.int .i64 ((rd_T95 aD aK).f0), .string ((rd_T95 aD aK).f1), .string (((rd_T95 aD aK).f2) ++ a2)] 95 (0, 0)) xblk) (below_size xbg)); replace aC := xbb aC hb; replace aE := xbb aE hb; replace bM := xbb bM hb; replace HB := xbs hb; (try clear hb bO); obtain ⟨iB, iC, iD, iE⟩ := xf2 (w := AD) aE; obtain ⟨vV, vW, vX⟩ := Kd.R_slice kH.out; subst vX))
         refine bodyPost_ret (results_ct rfl _ _ dO 26 #[.int .i64 mY, .slice vV mZ.length vW] (0, 0) _ rfl xP Try.underlying26 rfl (by kernel_rfl)) rfl ?_; exact ⟨_, xerr, xrm kH (fun _ _ => trivial), xbg⟩
        ·rw [if_neg mX] at H; exact absurd H (by simp)
       ·rw [if_neg pE] at H; exact absurd H (by simp)
      ·rw [if_neg pD] at H; exact absurd H (by simp)
     ·rw [if_neg fF] at H; have fP : decide (0 ≤ aK) = false := decide_eq_false fF; clear fF; by_cases nE : 0 + a2.size ≤ 9223372036854775807
      ·rw [if_pos nE] at H; have yD := eq_true nE; have yE : decide (0 + a2.size ≤ 9223372036854775807) = true := decide_eq_true nE; try have yF : (9223372036854775807 < 0 + a2.size) = False := eq_false (Nat.not_lt.2 nE)
       replace H := oB H; obtain ⟨⟨nF, nG⟩, nH, H⟩ := H; (try dsimp only at H); have AF := aM nH; clear nH
       simp only [Option.some.injEq, Prod.mk.injEq] at H; obtain ⟨rfl, rfl, rfl⟩ := H; try go_wp2
       replace aC := bD aC; replace aE := bD aE; replace HB := lD HB; refine sb2 9 spec_DiskAppend.tab3 spec_DiskAppend.bits3 aC (fun hHeld HT_ HW_ => ?_); generalize wc.drew = BA at aC aE HB hHeld ⊢; refine pv_ 0 21 (h := ?_); refine pv_ 1 22 (h := ?_); refine pv_ 2 23 (h := ?_); refine tk_ 3 24 (h := ?_); refine tk_ 4 25 (h := ?_); refine on_ 5 26 (h := fun K hK => ?_); refine goesY Try.func174 #[.agg #[.int .i64 aA, .slice aV aD.length aT]] ?_; with_reducible refine (spec_l3Size.calls kW aA _ _ aD dN _ ?side1 ?side2 lX.out).mono ?_
       (case side1 => exact xcb aY); (case side2 => exact bE.out); rintro e BB ⟨rfl, hb⟩; refine ⟨_, rfl, ?_⟩; replace aC := xbb aC hb; replace aE := xbb aE hb; replace HB := xbs hb; (try clear hb); refine hK.out _ _ ⟨xc aC 0 rfl, xc aC 1 rfl⟩ (fun hHeld => ?_); clear hK K; refine nm_ (N := 26) ?_; refine pv_ 6 27 (h := ?_); refine pv_ 7 28 (h := ?_); refine pv_ 8 20 (h := ?_); refine dn_ ?_; try go_wp2_with (first | ((with_reducible refine gD 8 rfl ?_); refine boxE (N := 8) rfl (cs := #[.int .i64 0, .string (⟨#[]⟩ : ByteArray), .string (⟨#[]⟩ : ByteArray)]) (t := 95) ?_; intro bN hg yG hbox hb; have nB := aM (xge hg); have nC := aM (xge hg); replace HB := xbs hb; have bX := nblt aC hg; have bY := nbgt aC hg; have bZ := nblt aE hg; have cA := nbgt aE hg; replace aC := xbb aC hb; replace aE := xbb aE hb; have bM := aM (hbox); clear hb hbox hg; have yH := bY.out; have yI := bX.out; have yJ := cA.out; have yK := bZ.out; obtain ⟨pP, pQ, pR, pS, pT, pU⟩ := xf3 (w := yG) bM; have yL := bA.out; have yM := bB.out; obtain ⟨pV, pW, pX, pY⟩ := xf2 (w := yG) aC) | ((with_reducible refine gC 134 rfl ?_); refine goesLY (some 35) rfl Try.func134 #[.agg #[.int .i64 aA, .slice aV aD.length aT], .int .i64 a1] ?_; (with_reducible refine (spec_l3Find.calls kW aA _ _ aD a1 aK _ ?side1 ?side2 xQ.out).mono ?_); (case side1 => exact Kd.C_below aY.out xbg); (case side2 => exact bE.out); rintro e yN ⟨rfl, hb⟩; refine ⟨_, rfl, ?_⟩; replace aC := xbc aC hb; replace aE := xbc aE hb; replace bM := aM (blk_below (g := bN) (o := .cells #[.int .i64 a1, .string (⟨#[]⟩ : ByteArray), .string (⟨#[]⟩ : ByteArray)] 95 (0, 0)) xP hb); replace HB := xbs hb; (try clear hb); obtain ⟨pZ, qA, qB, qC, qD, qE⟩ := xf3 (w := yN) bM; obtain ⟨qF, qG, qH, qI⟩ := xf2 (w := yN) aC) | ((with_reducible refine gC 137 rfl ?_); refine goesLY (some 50) rfl Try.func137 #[.agg #[.int .i64 aA, .slice aV aD.length aT], .agg #[.int .i64 a1, .string (⟨#[]⟩ : ByteArray), .string ((⟨#[]⟩ : ByteArray) ++ a2)]] ?_; (with_reducible refine (spec_l3Put.calls kW aA _ _ aD a1 (⟨#[]⟩ : ByteArray) ((⟨#[]⟩ : ByteArray) ++ a2) nF nG _ ?side1 ?side2 AF.out).mono ?_); (case side1 => exact Kd.C_below aY.out xbg); (case side2 => exact bE.out); rintro e AG ⟨AH, rfl, bO, hb⟩; refine ⟨_, rfl, ?_⟩; have kI := aM (Kd.R_lower (Kd.R_newB bO (g := bN) (o := .cells #[.int .i64 a1, .string (⟨#[]⟩ : ByteArray), .string ((⟨#[]⟩ : ByteArray) ++ a2)] 95 (0, 0)) xP) (below_size xbg)); replace aC := xbc aC hb; replace aE := xbc aE hb; replace bM := aM (blk_below (g := bN) (o := .cells #[.int .i64 a1, .string (⟨#[]⟩ : ByteArray), .string ((⟨#[]⟩ : ByteArray) ++ a2)] 95 (0, 0)) xP hb); replace HB := xbs hb; (try clear hb bO); obtain ⟨qJ, qK, qL, qM⟩ := xf2 (w := AG) aE; obtain ⟨vY, vZ, wA⟩ := Kd.R_slice kI.out; subst wA))
       refine bodyPost_ret (results_ct rfl _ _ dO 26 #[.int .i64 nF, .slice vY nG.length vZ] (0, 0) _ rfl xP Try.underlying26 rfl (by kernel_rfl)) rfl ?_; exact ⟨_, xerr, xrm kI (fun _ _ => trivial), xbg⟩
      ·rw [if_neg nE] at H; exact absurd H (by simp)

/-! ### spec_JournalLate: function 76 -/
def spec_JournalLate.f (k : Nat) (aA : Int) (aD : List (S95)) (a1 : Int) (l2 : List ByteArray) : Option (Int × (List (S95)) × Int) := (spec_l4Seals.f k l2).bind fun dP => (if dP.2 = true then ((spec_DiskAppend.f k aA aD a1 dP.1).bind fun cP => (some (cP.1, cP.2.1, cP.2.2))) else (some (0, ([] : List (S95)), 1)))
theorem u6_mq3 {p : Prop} (h : p := by repeat' first | (with_reducible first | exact spec_DiskAppend.mono _ _ _ _ _ | exact spec_l4Seals.mono _ _ | exact LeO.refl _ | exact LeO.none _ | refine LeO.ite ?_ ?_ | refine LeO.bind ?_ (fun _ => ?_)) | exact spec_DiskAppend.mono _ _ _ _ _ | exact spec_l4Seals.mono _ _ | exact LeO.none _ | refine LeO.ite ?_ ?_ | refine LeO.bind ?_ (fun _ => ?_)) : p := h
theorem spec_JournalLate.mono : ∀ a0 a1 a2 a3 k, LeO (spec_JournalLate.f k a0 a1 a2 a3) (spec_JournalLate.f (k + 1) a0 a1 a2 a3) := by
 intro a0 a1 a2 a3 k
 unfold spec_JournalLate.f
 exact u6_mq3
set_option maxHeartbeats 8000000 in
set_option maxRecDepth 100000 in
theorem spec_JournalLate.calls (k : Nat) (aA : Int) (aV : Option Addr) (aT : Nat) (aD : List (S95)) (a1 : Int) (A2 : Option Addr) (c2 : Nat) (l2 : List ByteArray) (r1 : Int) (r2 : List (S95)) (r3 : Int) (w : World) (cJ : Kd.C k95 w aV aD.length aD) (cK : aD.length ≤ aT) (nI : Kd.C Kd.string w A2 l2.length l2) (nJ : l2.length ≤ c2) (h : spec_JournalLate.f k aA aD a1 l2 = some (r1, r2, r3)) :
 Calls Try.prog 76 #[.agg #[.int .i64 aA, .slice aV aD.length aT], .int .i64 a1, .slice A2 l2.length c2] w fun e w' => ∃ v1_ : Value, e = .returned (.tuple #[.agg #[.int .i64 r1, v1_], .int .i64 r3]) ∧ Kd.R k95 95 w' w.heap.size (fun _ => True) v1_ r2 ∧ Below w.heap.size w w' := by
 have mL := Try.underlying26
 have aY := aM cJ
 have bE := aM cK
 clear cJ cK
 have nK := aM nI
 have nL := aM nJ
 clear nI nJ
 have HB := aM (Below.refl w.heap.size w)
 have H : ((spec_l4Seals.f k l2).bind fun dP => (if dP.2 = true then ((spec_DiskAppend.f k aA aD a1 dP.1).bind fun cP => (some (cP.1, cP.2.1, cP.2.2))) else (some (0, ([] : List (S95)), 1)))) = some (r1, r2, r3) := h
 clear h
 replace H := oB H
 obtain ⟨⟨iF, wB⟩, kJ, H⟩ := H
 (try dsimp only at H)
 have A4 := aM kJ
 clear kJ
 by_cases c5 : wB = true
 ·subst c5; replace H := iT H; replace H := oB H; obtain ⟨⟨nM, nN, wC⟩, jY, H⟩ := H; (try dsimp only at H); have A6 := aM jY; clear jY
  simp only [Option.some.injEq, Prod.mk.injEq] at H; obtain ⟨rfl, rfl, rfl⟩ := H; go_enter Try.func76, Try.ntmps76
  go_wp2_with (first | ((with_reducible refine gD 3 rfl ?_); refine boxE (N := 3) rfl (cs := #[.int .i64 aA, .slice aV aD.length aT]) (t := 26) ?_; intro nO hg w7 hbox hb; have aZ := aM (hbox); have nP := aM (xge hg); have nQ := aM (xge hg); replace HB := xbs hb; clear hb hbox hg) | ((with_reducible refine gD 6 rfl ?_); refine boxE (N := 6) rfl (cs := #[.int .i64 0, .slice none 0 0]) (t := 26) ?_; intro fQ hg w8 hbox hb; have nR := aM (xge hg); have nS := aM (xge hg); replace HB := xbs hb; have cB := nblt aZ hg; have cC := nbgt aZ hg; replace aZ := xbb aZ hb; have bV := aM (hbox); clear hb hbox hg) | ((with_reducible refine gC 140 rfl ?_); refine goesLY (some 12) rfl Try.func140 #[.slice A2 l2.length c2] ?_; (with_reducible refine (spec_l4Seals.calls k _ _ l2 iF true _ ?side1 ?side2 A4.out).mono ?_); (case side1 => exact xcb nK); (case side2 => exact nL.out); rintro e w9 ⟨rfl, hb⟩; refine ⟨_, rfl, ?_⟩; replace aZ := xbb aZ hb; replace bV := xbb bV hb; replace HB := xbs hb; (try clear hb); have mN := cB.out; have mO := cC.out; obtain ⟨eA, eB, eC, eD⟩ := xf2 (w := w9) aZ) | ((with_reducible refine gC 141 rfl ?_); refine goesLY (some 21) rfl Try.func141 #[.agg #[.int .i64 aA, .slice aV aD.length aT], .int .i64 a1, .string iF] ?_; (with_reducible refine (spec_DiskAppend.calls k aA _ _ aD a1 iF nM nN wC _ ?side1 ?side2 A6.out).mono ?_); (case side1 => exact xcb aY); (case side2 => exact bE.out); rintro e lW ⟨AJ, rfl, bO, hb⟩; refine ⟨_, rfl, ?_⟩; have kK := aM (Kd.R_lower bO (below_size xbg)); replace aZ := xbb aZ hb; replace bV := xbb bV hb; replace HB := xbs hb; (try clear hb bO); obtain ⟨eL, eM, eN, eO⟩ := xf2 (w := lW) bV; obtain ⟨kN, kO, kP⟩ := Kd.R_slice kK.out; subst kP))
  refine bodyPost_ret (results_ct rfl _ _ fQ 26 #[.int .i64 nM, .slice kN nN.length kO] (0, 0) _ rfl xP Try.underlying26 rfl (by kernel_rfl)) rfl ?_; exact ⟨_, xerr, xrm kK (fun _ _ => trivial), xbg⟩
 ·replace c5 := Bool.eq_false_iff.mpr c5; subst c5; replace H := iN H; simp only [Option.some.injEq, Prod.mk.injEq] at H; obtain ⟨rfl, rfl, rfl⟩ := H; go_enter Try.func76, Try.ntmps76
  go_wp2_with (first | ((with_reducible refine gD 3 rfl ?_); refine boxE (N := 3) rfl (cs := #[.int .i64 aA, .slice aV aD.length aT]) (t := 26) ?_; intro nO hg xF hbox hb; have aZ := aM (hbox); have nP := aM (xge hg); have nQ := aM (xge hg); replace HB := xbs hb; clear hb hbox hg) | ((with_reducible refine gD 6 rfl ?_); refine boxE (N := 6) rfl (cs := #[.int .i64 0, .slice none 0 0]) (t := 26) ?_; intro fQ hg BC hbox hb; have nR := aM (xge hg); have nS := aM (xge hg); replace HB := xbs hb; have cB := nblt aZ hg; have cC := nbgt aZ hg; replace aZ := xbb aZ hb; have bV := aM (hbox); clear hb hbox hg) | ((with_reducible refine gC 140 rfl ?_); refine goesLY (some 12) rfl Try.func140 #[.slice A2 l2.length c2] ?_; (with_reducible refine (spec_l4Seals.calls k _ _ l2 iF false _ ?side1 ?side2 A4.out).mono ?_); (case side1 => exact xcb nK); (case side2 => exact nL.out); rintro e gH ⟨rfl, hb⟩; refine ⟨_, rfl, ?_⟩; replace aZ := xbb aZ hb; replace bV := xbb bV hb; replace HB := xbs hb; (try clear hb); have yO := cC.out; have yP := cB.out; obtain ⟨qN, qO, qP, qQ⟩ := xf2 (w := gH) bV))
  refine bodyPost_ret (results_ct rfl _ _ fQ 26 #[.int .i64 0, .slice none 0 0] (0, 0) _ rfl xP Try.underlying26 rfl (by kernel_rfl)) rfl ?_; exact ⟨_, xerr, u6_4, xbg⟩

/-! ### spec_JournalAdd: function 19 -/
def spec_JournalAdd.f (k : Nat) (aA : Int) (aD : List (S95)) (a1 : Int) (l2 : List ByteArray) : Option (Int × (List (S95)) × Int) := (spec_JournalLate.f k aA aD a1 l2).bind fun bJ => (if bJ.2.2 = 0 then ((spec_DiskSync.f k bJ.1 bJ.2.1 a1).bind fun cQ => (some (cQ.1, cQ.2.1, cQ.2.2))) else (some (bJ.1, bJ.2.1, bJ.2.2)))
theorem u6_mq4 {p : Prop} (h : p := by repeat' first | (with_reducible first | exact spec_DiskSync.mono _ _ _ _ | exact spec_JournalLate.mono _ _ _ _ _ | exact LeO.refl _ | exact LeO.none _ | refine LeO.ite ?_ ?_ | refine LeO.bind ?_ (fun _ => ?_)) | exact spec_DiskSync.mono _ _ _ _ | exact spec_JournalLate.mono _ _ _ _ _ | exact LeO.none _ | refine LeO.ite ?_ ?_ | refine LeO.bind ?_ (fun _ => ?_)) : p := h
theorem spec_JournalAdd.mono : ∀ a0 a1 a2 a3 k, LeO (spec_JournalAdd.f k a0 a1 a2 a3) (spec_JournalAdd.f (k + 1) a0 a1 a2 a3) := by
 intro a0 a1 a2 a3 k
 unfold spec_JournalAdd.f
 exact u6_mq4
set_option maxHeartbeats 8000000 in
set_option maxRecDepth 100000 in
theorem spec_JournalAdd.calls (k : Nat) (aA : Int) (aV : Option Addr) (aT : Nat) (aD : List (S95)) (a1 : Int) (A2 : Option Addr) (c2 : Nat) (l2 : List ByteArray) (r1 : Int) (r2 : List (S95)) (r3 : Int) (w : World) (cJ : Kd.C k95 w aV aD.length aD) (cK : aD.length ≤ aT) (nI : Kd.C Kd.string w A2 l2.length l2) (nJ : l2.length ≤ c2) (h : spec_JournalAdd.f k aA aD a1 l2 = some (r1, r2, r3)) :
 Calls Try.prog 19 #[.agg #[.int .i64 aA, .slice aV aD.length aT], .int .i64 a1, .slice A2 l2.length c2] w fun e w' => ∃ v1_ : Value, e = .returned (.tuple #[.agg #[.int .i64 r1, v1_], .int .i64 r3]) ∧ Kd.R k95 95 w' w.heap.size (fun _ => True) v1_ r2 ∧ Below w.heap.size w w' := by
 have mL := Try.underlying26
 have aY := aM cJ
 have bE := aM cK
 clear cJ cK
 have nK := aM nI
 have nL := aM nJ
 clear nI nJ
 have HB := aM (Below.refl w.heap.size w)
 have H : ((spec_JournalLate.f k aA aD a1 l2).bind fun bJ => (if bJ.2.2 = 0 then ((spec_DiskSync.f k bJ.1 bJ.2.1 a1).bind fun cQ => (some (cQ.1, cQ.2.1, cQ.2.2))) else (some (bJ.1, bJ.2.1, bJ.2.2)))) = some (r1, r2, r3) := h
 clear h
 replace H := oB H
 obtain ⟨⟨cS, cM, kX⟩, kJ, H⟩ := H
 (try dsimp only at H)
 have A4 := aM kJ
 clear kJ
 by_cases c5 : kX = 0
 ·rw [if_pos c5] at H; obtain ⟨kQ, wD⟩ := bT c5; clear c5; replace H := oB H; obtain ⟨⟨nT, nU, wE⟩, jY, H⟩ := H; (try dsimp only at H); have A6 := aM jY; clear jY
  simp only [Option.some.injEq, Prod.mk.injEq] at H; obtain ⟨rfl, rfl, rfl⟩ := H; go_enter Try.func19, Try.ntmps19
  go_wp2_with (first | ((with_reducible refine gD 3 rfl ?_); refine boxE (N := 3) rfl (cs := #[.int .i64 aA, .slice aV aD.length aT]) (t := 26) ?_; intro nV hg w7 hbox hb; have aG := aM (hbox); have nW := aM (xge hg); have nX := aM (xge hg); replace HB := xbs hb; clear hb hbox hg) | ((with_reducible refine gD 6 rfl ?_); refine boxE (N := 6) rfl (cs := #[.int .i64 0, .slice none 0 0]) (t := 26) ?_; intro cU hg w8 hbox hb; have nY := aM (xge hg); have nZ := aM (xge hg); replace HB := xbs hb; have cD := nblt aG hg; have cE := nbgt aG hg; replace aG := xbb aG hb; have aQ := aM (hbox); clear hb hbox hg; have AK := cD.out; have AL := cE.out; obtain ⟨eP, eQ, eR, eS⟩ := xf2 (w := w8) aG) | ((with_reducible refine gC 76 rfl ?_); refine goesLY (some 14) rfl Try.func76 #[.agg #[.int .i64 aA, .slice aV aD.length aT], .int .i64 a1, .slice A2 l2.length c2] ?_; (with_reducible refine (spec_JournalLate.calls k aA _ _ aD a1 _ _ l2 cS cM kX _ ?side1 ?side2 ?side3 ?side4 A4.out).mono ?_); (case side1 => exact xcb aY); (case side2 => exact bE.out); (case side3 => exact xcb nK); (case side4 => exact nL.out); rintro e xD ⟨wF, rfl, bO, hb⟩; refine ⟨_, rfl, ?_⟩; have bG := aM (Kd.R_lower bO (below_size xbg)); replace aG := xbb aG hb; replace aQ := xbb aQ hb; replace HB := xbs hb; (try clear hb bO)) | ((with_reducible refine gD 8 rfl ?_); refine boxE (N := 8) rfl (cs := #[.int .i64 0, .slice none 0 0]) (t := 26) ?_; intro dQ hg lW hbox hb; replace bG := xrb bG hb; have oA := aM (xge hg); have oC := aM (xge hg); replace HB := xbs hb; have cF := nblt aG hg; have cG := nbgt aG hg; have cH := nblt aQ hg; have cI := nbgt aQ hg; replace aG := xbb aG hb; replace aQ := xbb aQ hb; have dR := aM (hbox); clear hb hbox hg; have mP := cG.out; have mQ := cF.out; have yQ := cI.out; have yR := cH.out; obtain ⟨qR, qS, qT, qU⟩ := xf2 (w := lW) dR; obtain ⟨fJ, fK, kS⟩ := Kd.R_slice bG.out; subst kS) | ((with_reducible refine gC 71 rfl ?_); refine goesLY (some 23) rfl Try.func71 #[.agg #[.int .i64 cS, .slice fJ cM.length fK], .int .i64 a1] ?_; (with_reducible refine (spec_DiskSync.calls k cS _ _ cM a1 nT nU wE _ ?side1 ?side2 A6.out).mono ?_); (case side1 => exact (Kd.R_reads' (xrs bG)).2.2); (case side2 => exact (Kd.R_reads' bG.out).2.1); rintro e gH ⟨AM, rfl, bO, hb⟩; refine ⟨_, rfl, ?_⟩; have kL := aM (Kd.R_lower (Kd.R_new' bO (Kd.R_lt (xrs bG))) (below_size xbg)); replace bG := aM (Kd.R_elder' (xrs bG) (Kd.R_base bO) hb); replace aG := xbc aG hb; replace aQ := xbc aQ hb; replace dR := aM (blk_below (g := dQ) (o := .cells #[.int .i64 cS, .slice fJ cM.length fK] 26 (0, 0)) xP hb); replace HB := xbs hb; (try clear hb bO); obtain ⟨cV, cW, cX, cY⟩ := xf2 (w := gH) aQ; obtain ⟨kT, kU, kV⟩ := Kd.R_slice kL.out; subst kV))
  refine bodyPost_ret (results_ct rfl _ _ cU 26 #[.int .i64 nT, .slice kT nU.length kU] (0, 0) _ rfl xP Try.underlying26 rfl (by kernel_rfl)) rfl ?_; exact ⟨_, xerr, xrm kL (fun _ _ => trivial), xbg⟩
 ·rw [if_neg c5] at H; obtain ⟨kQ, wD⟩ := bF c5; simp only [Option.some.injEq, Prod.mk.injEq] at H; obtain ⟨rfl, rfl, rfl⟩ := H; go_enter Try.func19, Try.ntmps19
  go_wp2_with (first | ((with_reducible refine gD 3 rfl ?_); refine boxE (N := 3) rfl (cs := #[.int .i64 aA, .slice aV aD.length aT]) (t := 26) ?_; intro nV hg zV hbox hb; have aG := aM (hbox); have nW := aM (xge hg); have nX := aM (xge hg); replace HB := xbs hb; clear hb hbox hg) | ((with_reducible refine gD 6 rfl ?_); refine boxE (N := 6) rfl (cs := #[.int .i64 0, .slice none 0 0]) (t := 26) ?_; intro cU hg AN hbox hb; have nY := aM (xge hg); have nZ := aM (xge hg); replace HB := xbs hb; have cD := nblt aG hg; have cE := nbgt aG hg; replace aG := xbb aG hb; have aQ := aM (hbox); clear hb hbox hg; have oD := cD.out; have oE := cE.out; obtain ⟨eT, eU, eV, eW⟩ := xf2 (w := AN) aG) | ((with_reducible refine gC 76 rfl ?_); refine goesLY (some 14) rfl Try.func76 #[.agg #[.int .i64 aA, .slice aV aD.length aT], .int .i64 a1, .slice A2 l2.length c2] ?_; (with_reducible refine (spec_JournalLate.calls k aA _ _ aD a1 _ _ l2 cS cM kX _ ?side1 ?side2 ?side3 ?side4 A4.out).mono ?_); (case side1 => exact xcb aY); (case side2 => exact bE.out); (case side3 => exact xcb nK); (case side4 => exact nL.out); rintro e BD ⟨wF, rfl, bO, hb⟩; refine ⟨_, rfl, ?_⟩; have bG := aM (Kd.R_lower bO (below_size xbg)); replace aG := xbb aG hb; replace aQ := xbb aQ hb; replace HB := xbs hb; (try clear hb bO)) | ((with_reducible refine gD 8 rfl ?_); refine boxE (N := 8) rfl (cs := #[.int .i64 0, .slice none 0 0]) (t := 26) ?_; intro dQ hg wG hbox hb; replace bG := xrb bG hb; have oA := aM (xge hg); have oC := aM (xge hg); replace HB := xbs hb; have cF := nblt aG hg; have cG := nbgt aG hg; have cH := nblt aQ hg; have cI := nbgt aQ hg; replace aG := xbb aG hb; replace aQ := xbb aQ hb; have dR := aM (hbox); clear hb hbox hg; have yS := cG.out; have yT := cF.out; have yU := cI.out; have yV := cH.out; obtain ⟨qV, qW, qX, qY⟩ := xf2 (w := wG) dR; obtain ⟨fB, fC, wH⟩ := Kd.R_slice bG.out; subst wH; obtain ⟨qZ, rA, rB, rC⟩ := xf2 (w := wG) aQ) | ((with_reducible refine gate_store (t := 26) (p := 6) rfl ?_); refine store_event (t := 26) (p := 6) (v := ?vo_w31) (w1 := ((((wG.setCell ⟨dQ, 0, none⟩ (.int .i64 cS)).setCell ⟨dQ, 1, none⟩ (.slice fB cM.length fC)).setCell ⟨cU, 0, none⟩ (.int .i64 cS)).setCell ⟨cU, 1, none⟩ (.slice fB cM.length fC))) ?hg ?ho ?hn ?hr ?_; (case ho | hg | hn => rfl); (case hr => exact u6_0); intro wI hw; replace bG : Aside0 (Kd.R k95 95 wI w.heap.size (fun _ => True) (.slice fB cM.length fC) cM) := xwm hw bG (fun _ _ => trivial); replace aG := xwc hw aG; replace aQ : Aside0 (wI.heap[cU]? = some (.cells #[.int .i64 cS, .slice fB cM.length fC] 26 (0, 0))) := xwp hw; replace dR : Aside0 (wI.heap[dQ]? = some (.cells #[.int .i64 cS, .slice fB cM.length fC] 26 (0, 0))) := xwp hw; replace HB := xbw hw HB; clear hw))
  refine bodyPost_ret (results_ct rfl _ _ cU 26 #[.int .i64 cS, .slice fB cM.length fC] (0, 0) _ rfl xblk Try.underlying26 rfl (by kernel_rfl)) rfl ?_; exact ⟨_, xerr, by (with_reducible repeat (first | apply Kd.R_alloc | apply Kd.R_drewN | apply Kd.R_drew)); exact bG.out, xbg⟩

/-! ### spec_l1Whole: function 191 -/
def spec_l1Whole.f (a0 : Int) : Option (Bool) := (spec_l1In.f a0 0 1000000000).bind fun fR => (some fR)
set_option maxHeartbeats 8000000 in
set_option maxRecDepth 100000 in
theorem spec_l1Whole.calls (a0 : Int) (r : Bool) (w : World) (h : spec_l1Whole.f a0 = some r) :
 Calls Try.prog 191 #[.int .i64 a0] w fun e w' => e = .returned (.bool r) ∧ Drawn0 w w' := by
 have H : ((spec_l1In.f a0 0 1000000000).bind fun fR => (some fR)) = some r := h
 clear h
 replace H := oB H
 obtain ⟨fR, oF, H⟩ := H
 (try dsimp only at H)
 have A2 := aM oF
 clear oF
 obtain rfl := Option.some.inj H
 go_enter Try.func191, Try.ntmps191
 go_wp2_with (first | ((with_reducible refine gC 92 rfl ?_); refine goesLY (some 4) rfl Try.func92 #[.int .i64 a0, .int .i64 0, .int .i64 1000000000] ?_; (with_reducible refine (spec_l1In.calls a0 0 1000000000 fR _ A2.out).mono ?_); rintro e w' ⟨rfl, ⟨nd, rfl⟩⟩; refine ⟨_, rfl, ?_⟩))
 go_ret
 exact ⟨u6_1, by repeat (first | exact Drawn0.refl _ | apply Drawn0.step)⟩

/-! ### spec_CmdOk: function 193 -/
def spec_CmdOk.j0 : Nat → Bool → Int → Int → Int → Int → ByteArray → Int → Int → Int → Int → ByteArray → Option (Bool)
 | 0, _, _, _, _, _, _, _, _, _, _, _ => none
 | k + 1, AO, cN, rE, cZ, dA, dB, eX, rF, iG, eY, eZ => if AO = true then (some false) else (if cN = 2 then ((spec_l1In.f dA 0 1000).bind fun kY => (if kY = true then (if (dB.size : Int) = 32 then (some (cZ == 0)) else (some false)) else (some false))) else (if cN = 3 then ((spec_l1In.f cZ 0 4).bind fun kZ => (if kZ = true then (some (cN == eX && (dA == eY && (dB.toList == eZ.toList)))) else (some false))) else (some (cN == eX && (cZ == iG && (dA == eY && (dB.toList == eZ.toList)))))))
def spec_CmdOk.f (k : Nat) (aA : Int) (aX : Int) (aW : Int) (aP : Int) (bH : ByteArray) : Option (Bool) := if aA = 1 then (some (aX == 0 && (aW == 0 && (aP == 0 && (bH.toList == ([] : List UInt8)))))) else ((spec_l1In.f aA 2 5).bind fun fS => (if fS = true then ((spec_l1In.f aX 1 1000).bind fun fD => (spec_CmdOk.j0 k (!fD) aA aX aW aP bH aA 0 0 0 (⟨#[]⟩ : ByteArray))) else (spec_CmdOk.j0 k true aA aX aW aP bH aA 0 0 0 (⟨#[]⟩ : ByteArray))))
theorem u6_mq5 {p : Prop} (h : p := by repeat' first | (with_reducible first | exact fH _ _ _ _ _ _ _ _ _ _ _ | exact LeO.refl _ | exact LeO.none _ | refine LeO.ite ?_ ?_ | refine LeO.bind ?_ (fun _ => ?_)) | exact fH _ _ _ _ _ _ _ _ _ _ _ | exact LeO.none _ | refine LeO.ite ?_ ?_ | refine LeO.bind ?_ (fun _ => ?_)) : p := h
set_option maxRecDepth 100000 in
theorem spec_CmdOk.mono_l : ∀ k, (∀ y0 y1 y2 y3 y4 y5 y6 y7 y8 y9 wJ, LeO (spec_CmdOk.j0 k y0 y1 y2 y3 y4 y5 y6 y7 y8 y9 wJ) (spec_CmdOk.j0 (k + 1) y0 y1 y2 y3 y4 y5 y6 y7 y8 y9 wJ))
 | 0 => fun _ _ _ _ _ _ _ _ _ _ _ r h => by simp [spec_CmdOk.j0] at h
 | k + 1 => by
  have fH := spec_CmdOk.mono_l k
  ·intro y0 y1 y2 y3 y4 y5 y6 y7 y8 y9 wJ; unfold spec_CmdOk.j0; exact u6_mq5
theorem spec_CmdOk.mono : ∀ a0 a1 a2 a3 a4 k, LeO (spec_CmdOk.f k a0 a1 a2 a3 a4) (spec_CmdOk.f (k + 1) a0 a1 a2 a3 a4) := by
 intro a0 a1 a2 a3 a4 k
 have fH := spec_CmdOk.mono_l k
 unfold spec_CmdOk.f
 exact u6_mq5
set_option maxHeartbeats 8000000 in
set_option maxRecDepth 100000 in
theorem spec_CmdOk.calls (k : Nat) (aA : Int) (aX : Int) (aW : Int) (aP : Int) (bH : ByteArray) (r : Bool) (w : World) (h : spec_CmdOk.f k aA aX aW aP bH = some r) :
 Calls Try.prog 193 #[.agg #[.int .i64 aA, .int .i64 aX, .int .i64 aW, .int .i64 aP, .string bH]] w fun e w' => e = .returned (.bool r) ∧ Below w.heap.size w w' := by
 have oG := Try.underlying127
 have HB := aM (Below.refl w.heap.size w)
 have H : (if aA = 1 then (some (aX == 0 && (aW == 0 && (aP == 0 && (bH.toList == ([] : List UInt8)))))) else ((spec_l1In.f aA 2 5).bind fun fS => (if fS = true then ((spec_l1In.f aX 1 1000).bind fun fD => (spec_CmdOk.j0 k (!fD) aA aX aW aP bH aA 0 0 0 (⟨#[]⟩ : ByteArray))) else (spec_CmdOk.j0 k true aA aX aW aP bH aA 0 0 0 (⟨#[]⟩ : ByteArray))))) = some r := h
 clear h
 by_cases c2 : aA = 1
 ·rw [if_pos c2] at H; obtain ⟨dV, dW⟩ := bT c2; clear c2; obtain rfl := Option.some.inj H; go_enter Try.func193, Try.ntmps193
  go_wp2_with (first | ((with_reducible refine gD 1 rfl ?_); (try (refine gate_guard (by rfl) ?_; dsimp only)); refine boxE (N := 1) rfl (cs := #[.int .i64 aA, .int .i64 aX, .int .i64 aW, .int .i64 aP, .string bH]) (t := 127) ?_; intro kM hg w3 hbox hb; have aJ := aM (hbox); have oH := aM (xge hg); have oI := aM (xge hg); replace HB := xbs hb; clear hb hbox hg; obtain ⟨lA, lB, lC, lE, lF, lG, lH, lI, lJ, lK⟩ := xf5 (w := w3) aJ) | ((with_reducible refine gD 3 rfl ?_); (try (refine gate_guard (by rfl) ?_; dsimp only)); refine boxE (N := 3) rfl (cs := #[.int .i64 0, .int .i64 0, .int .i64 0, .int .i64 0, .string (⟨#[]⟩ : ByteArray)]) (t := 127) ?_; intro bI hg w5 hbox hb; have oJ := aM (xge hg); have oK := aM (xge hg); replace HB := xbs hb; have aH := nblt aJ hg; have aI := nbgt aJ hg; replace aJ := xbb aJ hb; have bK := aM (hbox); clear hb hbox hg; have AP := aI.out; have AQ := aH.out; obtain ⟨lL, lM, lN, lO, lP, lQ, lR, lS, lT, lU⟩ := xf5 (w := w5) bK) | ((with_reducible refine gate_store (t := 127) (p := 3) rfl ?_); refine store_event (t := 127) (p := 3) (v := ?vo_w8) (w1 := (((((w5.setCell ⟨bI, 0, none⟩ (.int .i64 aA)).setCell ⟨bI, 1, none⟩ (.int .i64 0)).setCell ⟨bI, 2, none⟩ (.int .i64 0)).setCell ⟨bI, 3, none⟩ (.int .i64 0)).setCell ⟨bI, 4, none⟩ (.string (⟨#[]⟩ : ByteArray)))) ?hg ?ho ?hn ?hr ?_; (case ho | hg | hn => rfl); (case hr => exact u6_0); intro w8 hw; replace aJ := xwc hw aJ; replace bK : Aside0 (w8.heap[bI]? = some (.cells #[.int .i64 aA, .int .i64 0, .int .i64 0, .int .i64 0, .string (⟨#[]⟩ : ByteArray)] 127 (0, 0))) := xwp hw; replace HB := xbw hw HB; clear hw; obtain ⟨fT, fU, fV, fW, fX, fY, fZ, gA, gB, gE⟩ := xf5 (w := w8) aJ; obtain ⟨eP, eQ, iH, iI, iJ, eR, eS, iK, iL, iM⟩ := xf5 (w := w8) bK))
  go_ret
  exact ⟨xerr, xbg⟩
 ·rw [if_neg c2] at H; obtain ⟨dV, dW⟩ := bF c2; have lV := aM H; clear H; go_enter Try.func193, Try.ntmps193
  go_upto_region 4 with (first | ((with_reducible refine gD 1 rfl ?_); (try (refine gate_guard (by rfl) ?_; dsimp only)); refine boxE (N := 1) rfl (cs := #[.int .i64 aA, .int .i64 aX, .int .i64 aW, .int .i64 aP, .string bH]) (t := 127) ?_; intro kM hg lW hbox hb; have aJ := aM (hbox); have oH := aM (xge hg); have oI := aM (xge hg); replace HB := xbs hb; clear hb hbox hg; obtain ⟨eL, eM, iO, iP, iQ, eN, eO, iR, iS, iU⟩ := xf5 (w := lW) aJ) | ((with_reducible refine gD 3 rfl ?_); (try (refine gate_guard (by rfl) ?_; dsimp only)); refine boxE (N := 3) rfl (cs := #[.int .i64 0, .int .i64 0, .int .i64 0, .int .i64 0, .string (⟨#[]⟩ : ByteArray)]) (t := 127) ?_; intro bI hg vL hbox hb; have oJ := aM (xge hg); have oK := aM (xge hg); replace HB := xbs hb; have aH := nblt aJ hg; have aI := nbgt aJ hg; replace aJ := xbb aJ hb; have bK := aM (hbox); clear hb hbox hg; have yW := aI.out; have yX := aH.out; obtain ⟨iV, iW, iX, iY, iZ, jA, jB, jC, jD, jE⟩ := xf5 (w := vL) bK) | ((with_reducible refine gate_store (t := 127) (p := 3) rfl ?_); refine store_event (t := 127) (p := 3) (v := ?vo_w17) (w1 := (((((vL.setCell ⟨bI, 0, none⟩ (.int .i64 aA)).setCell ⟨bI, 1, none⟩ (.int .i64 0)).setCell ⟨bI, 2, none⟩ (.int .i64 0)).setCell ⟨bI, 3, none⟩ (.int .i64 0)).setCell ⟨bI, 4, none⟩ (.string (⟨#[]⟩ : ByteArray)))) ?hg ?ho ?hn ?hr ?_; (case ho | hg | hn => rfl); (case hr => exact u6_0); intro gH hw; replace aJ := xwc hw aJ; replace bK : Aside0 (gH.heap[bI]? = some (.cells #[.int .i64 aA, .int .i64 0, .int .i64 0, .int .i64 0, .string (⟨#[]⟩ : ByteArray)] 127 (0, 0))) := xwp hw; replace HB := xbw hw HB; clear hw; obtain ⟨cV, cW, jF, jG, jH, cX, cY, jI, jJ, jK⟩ := xf5 (w := gH) aJ))
  (try simp only [Act.put, List.setIfInBounds_toArray, List.set_cons_zero, List.set_cons_succ]); go_cut [22] (fun AR wc => ∃ (kq : Nat) (dC : Bool), AR = .bool dC ∧ Aside0 (spec_CmdOk.j0 kq dC aA aX aW aP bH aA 0 0 0 (⟨#[]⟩ : ByteArray) = some r) ∧ Aside0 (kq ≤ k) ∧ Aside0 (wc.heap[kM]? = some (.cells #[.int .i64 aA, .int .i64 aX, .int .i64 aW, .int .i64 aP, .string bH] 127 (0, 0))) ∧ Aside0 (wc.heap[bI]? = some (.cells #[.int .i64 aA, .int .i64 0, .int .i64 0, .int .i64 0, .string (⟨#[]⟩ : ByteArray)] 127 (0, 0))) ∧ Aside0 (Below w.heap.size w wc))
  case first =>
   have H := lV.out; clear lV; replace H := oB H; obtain ⟨fS, fN, H⟩ := H; (try dsimp only at H); have lX := aM fN; clear fN
   by_cases fE : fS = true
   ·subst fE; replace H := iT H; replace H := oB H; obtain ⟨fD, fO, H⟩ := H; (try dsimp only at H); have vO := aM fO; clear fO
    have H' := aM H; clear H; have oD := aH.out; have oE := aI.out; obtain ⟨eT, eU, jL, jM, jN, eV, eW, jO, jP, jQ⟩ := xf5 (w := gH) aJ; go_wp2_with (first | ((with_reducible refine gC 92 rfl ?_); refine goesLY (some 15) rfl Try.func92 #[.int .i64 aA, .int .i64 2, .int .i64 5] ?_; (with_reducible refine (spec_l1In.calls aA 2 5 true _ lX.out).mono ?_); rintro e w' ⟨rfl, ⟨nd, rfl⟩⟩; refine ⟨_, rfl, ?_⟩) | (go_at_call 92; (with_reducible refine (spec_l1In.calls aX 1 1000 fD _ vO.out).mono ?_); rintro e w' ⟨rfl, ⟨nd, rfl⟩⟩))
    go_meet
    case rel => exact ⟨_, (!fD), u6_1, H', ⟨u6_2⟩, ⟨xblk⟩, ⟨xblk⟩, ⟨xbg⟩⟩
   ·replace fE := Bool.eq_false_iff.mpr fE; subst fE; replace H := iN H; have H' := aM H; clear H; have mU := aH.out; have mV := aI.out; obtain ⟨eE, eF, jR, jS, jT, eG, eH, jU, jV, jW⟩ := xf5 (w := gH) aJ; go_wp2_with (first | ((with_reducible refine gC 92 rfl ?_); refine goesLY (some 15) rfl Try.func92 #[.int .i64 aA, .int .i64 2, .int .i64 5] ?_; (with_reducible refine (spec_l1In.calls aA 2 5 false _ lX.out).mono ?_); rintro e w' ⟨rfl, ⟨nd, rfl⟩⟩; refine ⟨_, rfl, ?_⟩))
    go_meet
    case rel => exact ⟨_, (true), u6_1, H', ⟨u6_2⟩, ⟨xblk⟩, ⟨xblk⟩, ⟨xbg⟩⟩
  case rest =>
   clear lV; try clear c1
   try clear c2
   try clear dV
   try clear dW
   try clear p2
   try clear c6
   try clear c9
   try clear BE
   try clear BF
   try clear fE
   try clear BG
   try clear BH
   try clear eP eQ iH iI iJ
   try clear eL eM iO iP iQ
   try clear iV iW iX iY iZ
   try clear cV cW jF jG jH
   try clear eT eU jL jM jN
   try clear eE eF jR jS jT
   try clear lA lB lC lE lF
   try clear lL lM lN lO lP
   try clear fT fU fV fW fX
   try clear eR eS iK iL iM
   try clear eN eO iR iS iU
   try clear jA jB jC jD jE
   try clear cX cY jI jJ jK
   try clear eV eW jO jP jQ
   try clear eG eH jU jV jW
   try clear lG lH lI lJ lK
   try clear lQ lR lS lT lU
   try clear fY fZ gA gB gE
   obtain ⟨kq, dC, rfl, HA, HJ10, aJ, bK, HB⟩ := hcut; cases kq with
   | zero => exact absurd HA.out (by simp [spec_CmdOk.j0])
   | succ AS =>
    have H := HA.out; clear HA; simp only [spec_CmdOk.j0] at H; by_cases rG : dC = true
    ·subst rG; replace H := iT H; obtain rfl := Option.some.inj H; go_wp2; go_ret
     exact ⟨xerr, xbg⟩
    ·replace rG := Bool.eq_false_iff.mpr rG; subst rG; replace H := iN H; by_cases oL : aA = 2
     ·rw [if_pos oL] at H; obtain ⟨oM, oN⟩ := bT oL; clear oL; replace H := oB H; obtain ⟨kY, oO, H⟩ := H; (try dsimp only at H); have wK := aM oO; clear oO
      by_cases rH : kY = true
      ·subst rH; replace H := iT H; by_cases fF : (bH.size : Int) = 32
       ·rw [if_pos fF] at H; obtain ⟨fP, oP⟩ := bT fF; clear fF; obtain rfl := Option.some.inj H; have yY := aH.out; have yZ := aI.out; obtain ⟨rI, rJ, rK, rL, rM, rN, rO, rP, rQ, rR⟩ := xf5 (w := wc) aJ; obtain ⟨rS, rT, rU, rV, rW, rX, rY, rZ, sA, sB⟩ := xf5 (w := wc) bK; go_wp2_with (first | ((with_reducible refine gC 92 rfl ?_); refine goesLY (some 32) rfl Try.func92 #[.int .i64 aP, .int .i64 0, .int .i64 1000] ?_; (with_reducible refine (spec_l1In.calls aP 0 1000 true _ wK.out).mono ?_); rintro e w' ⟨rfl, ⟨nd, rfl⟩⟩; refine ⟨_, rfl, ?_⟩))
        go_ret
        exact ⟨xerr, xbg⟩
       ·rw [if_neg fF] at H; obtain ⟨fP, oP⟩ := bF fF; obtain rfl := Option.some.inj H; have zA := aH.out; have zB := aI.out; obtain ⟨sC, sD, sE, sF, sG, sH, sI, sJ, sK, sL⟩ := xf5 (w := wc) aJ; obtain ⟨sM, sN, sO, sP, sQ, sR, sS, sU, sV, sW⟩ := xf5 (w := wc) bK; go_wp2_with (first | ((with_reducible refine gC 92 rfl ?_); refine goesLY (some 32) rfl Try.func92 #[.int .i64 aP, .int .i64 0, .int .i64 1000] ?_; (with_reducible refine (spec_l1In.calls aP 0 1000 true _ wK.out).mono ?_); rintro e w' ⟨rfl, ⟨nd, rfl⟩⟩; refine ⟨_, rfl, ?_⟩))
        go_ret
        exact ⟨xerr, xbg⟩
      ·replace rH := Bool.eq_false_iff.mpr rH; subst rH; replace H := iN H; obtain rfl := Option.some.inj H; have zC := aH.out; have zD := aI.out; obtain ⟨sX, sY, sZ, tA, tB, tC, tD, tE, tF, tG⟩ := xf5 (w := wc) aJ; obtain ⟨tH, tI, tJ, tK, tL, tM, tN, tO, tP, tQ⟩ := xf5 (w := wc) bK; go_wp2_with (first | ((with_reducible refine gC 92 rfl ?_); refine goesLY (some 32) rfl Try.func92 #[.int .i64 aP, .int .i64 0, .int .i64 1000] ?_; (with_reducible refine (spec_l1In.calls aP 0 1000 false _ wK.out).mono ?_); rintro e w' ⟨rfl, ⟨nd, rfl⟩⟩; refine ⟨_, rfl, ?_⟩))
       go_ret
       exact ⟨xerr, xbg⟩
     ·rw [if_neg oL] at H; obtain ⟨oM, oN⟩ := bF oL; by_cases oQ : aA = 3
      ·rw [if_pos oQ] at H; obtain ⟨oR, oT⟩ := bT oQ; clear oQ; replace H := oB H; obtain ⟨kZ, oU, H⟩ := H; (try dsimp only at H); have zE := aM oU; clear oU
       by_cases tR : kZ = true
       ·subst tR; replace H := iT H; obtain rfl := Option.some.inj H; have zF := aH.out; have zG := aI.out; obtain ⟨gM, gN, tS, tT, tU, gO, gP, tV, tW, tX⟩ := xf5 (w := wc) aJ; obtain ⟨gQ, gR, gS, tY, tZ, gT, gU, gV, uA, uB⟩ := xf5 (w := wc) bK; go_wp2_with (first | ((with_reducible refine gC 92 rfl ?_); refine goesLY (some 51) rfl Try.func92 #[.int .i64 aW, .int .i64 0, .int .i64 4] ?_; (with_reducible refine (spec_l1In.calls aW 0 4 true _ zE.out).mono ?_); rintro e w' ⟨rfl, ⟨nd, rfl⟩⟩; refine ⟨_, rfl, ?_⟩))
        go_ret
        exact ⟨xerr, xbg⟩
       ·replace tR := Bool.eq_false_iff.mpr tR; subst tR; replace H := iN H; obtain rfl := Option.some.inj H; have zH := aH.out; have zI := aI.out; obtain ⟨gW, gX, uC, uD, uE, gY, gZ, uF, uG, uH⟩ := xf5 (w := wc) aJ; obtain ⟨hJ, hU, hX, uI, uJ, hY, hZ, iA, uK, uL⟩ := xf5 (w := wc) bK; go_wp2_with (first | ((with_reducible refine gC 92 rfl ?_); refine goesLY (some 51) rfl Try.func92 #[.int .i64 aW, .int .i64 0, .int .i64 4] ?_; (with_reducible refine (spec_l1In.calls aW 0 4 false _ zE.out).mono ?_); rintro e w' ⟨rfl, ⟨nd, rfl⟩⟩; refine ⟨_, rfl, ?_⟩))
        go_ret
        exact ⟨xerr, xbg⟩
      ·rw [if_neg oQ] at H; obtain ⟨oR, oT⟩ := bF oQ; obtain rfl := Option.some.inj H; have zJ := aH.out; have zK := aI.out; obtain ⟨iB, iC, uM, uN, uO, iD, iE, uP, uQ, uR⟩ := xf5 (w := wc) aJ; obtain ⟨uS, uT, uU, uV, uW, uX, uY, uZ, vA, vB⟩ := xf5 (w := wc) bK; go_wp2; go_ret
       exact ⟨xerr, xbg⟩

/-! ### spec_l6Entry: function 192 -/
def spec_l6Entry.f (k : Nat) (aA : Int) (aX : Int) (aW : Int) (aP : Int) (bH : Int) (dS : ByteArray) : Option (Bool) := (spec_l1In.f aA 1 1000000000).bind fun gF => (if gF = true then ((spec_CmdOk.f k aX aW aP bH dS).bind fun gG => (some gG)) else (some false))
theorem u6_mq6 {p : Prop} (h : p := by repeat' first | (with_reducible first | exact spec_CmdOk.mono _ _ _ _ _ _ | exact LeO.refl _ | exact LeO.none _ | refine LeO.ite ?_ ?_ | refine LeO.bind ?_ (fun _ => ?_)) | exact spec_CmdOk.mono _ _ _ _ _ _ | exact LeO.none _ | refine LeO.ite ?_ ?_ | refine LeO.bind ?_ (fun _ => ?_)) : p := h
theorem spec_l6Entry.mono : ∀ a0 a1 a2 a3 a4 a5 k, LeO (spec_l6Entry.f k a0 a1 a2 a3 a4 a5) (spec_l6Entry.f (k + 1) a0 a1 a2 a3 a4 a5) := by
 intro a0 a1 a2 a3 a4 a5 k
 unfold spec_l6Entry.f
 exact u6_mq6
set_option maxHeartbeats 8000000 in
set_option maxRecDepth 100000 in
theorem spec_l6Entry.calls (k : Nat) (aA : Int) (aX : Int) (aW : Int) (aP : Int) (bH : Int) (dS : ByteArray) (r : Bool) (w : World) (h : spec_l6Entry.f k aA aX aW aP bH dS = some r) :
 Calls Try.prog 192 #[.agg #[.int .i64 aA, .int .i64 aX, .int .i64 aW, .int .i64 aP, .int .i64 bH, .string dS]] w fun e w' => e = .returned (.bool r) ∧ Below w.heap.size w w' := by
 have zL := Try.underlying129
 have oG := Try.underlying127
 have HB := aM (Below.refl w.heap.size w)
 have H : ((spec_l1In.f aA 1 1000000000).bind fun gF => (if gF = true then ((spec_CmdOk.f k aX aW aP bH dS).bind fun gG => (some gG)) else (some false))) = some r := h
 clear h
 replace H := oB H
 obtain ⟨gF, oF, H⟩ := H
 (try dsimp only at H)
 have A2 := aM oF
 clear oF
 by_cases c3 : gF = true
 ·subst c3; replace H := iT H; replace H := oB H; obtain ⟨gG, kJ, H⟩ := H; (try dsimp only at H); have A4 := aM kJ; clear kJ
  obtain rfl := Option.some.inj H; go_enter Try.func192, Try.ntmps192
  go_wp2_with (first | ((with_reducible refine gD 1 rfl ?_); refine boxE (N := 1) rfl (cs := #[.int .i64 aA, .int .i64 aX, .int .i64 aW, .int .i64 aP, .int .i64 bH, .string dS]) (t := 129) ?_; intro oV hg w5 hbox hb; have dU := aM (hbox); have oW := aM (xge hg); have oX := aM (xge hg); replace HB := xbs hb; clear hb hbox hg; obtain ⟨wL, wM, wN, wO, wP, wQ, wR, wS, wT, wU, wV, wW⟩ := xf6 (w := w5) dU) | ((with_reducible refine gC 92 rfl ?_); refine goesLY (some 5) rfl Try.func92 #[.int .i64 aA, .int .i64 1, .int .i64 1000000000] ?_; (with_reducible refine (spec_l1In.calls aA 1 1000000000 true _ A2.out).mono ?_); rintro e w' ⟨rfl, ⟨nd, rfl⟩⟩; refine ⟨_, rfl, ?_⟩) | (go_at_call 193; (with_reducible refine (spec_CmdOk.calls k aX aW aP bH dS gG _ A4.out).mono ?_); rintro e w7 ⟨rfl, hb⟩; replace dU := xbb dU hb; replace HB := xbs hb; (try clear hb)))
  go_ret
  exact ⟨xerr, xbg⟩
 ·replace c3 := Bool.eq_false_iff.mpr c3; subst c3; replace H := iN H; obtain rfl := Option.some.inj H; go_enter Try.func192, Try.ntmps192
  go_wp2_with (first | ((with_reducible refine gD 1 rfl ?_); refine boxE (N := 1) rfl (cs := #[.int .i64 aA, .int .i64 aX, .int .i64 aW, .int .i64 aP, .int .i64 bH, .string dS]) (t := 129) ?_; intro oV hg w8 hbox hb; have dU := aM (hbox); have oW := aM (xge hg); have oX := aM (xge hg); replace HB := xbs hb; clear hb hbox hg; obtain ⟨fT, fU, fV, fW, fX, wX, fY, fZ, gA, gB, gE, wY⟩ := xf6 (w := w8) dU) | ((with_reducible refine gC 92 rfl ?_); refine goesLY (some 5) rfl Try.func92 #[.int .i64 aA, .int .i64 1, .int .i64 1000000000] ?_; (with_reducible refine (spec_l1In.calls aA 1 1000000000 false _ A2.out).mono ?_); rintro e w' ⟨rfl, ⟨nd, rfl⟩⟩; refine ⟨_, rfl, ?_⟩))
  go_ret
  exact ⟨xerr, xbg⟩

end Go.Proofs.Ytoojdlobnbakoaa.QFnExactHardSave
