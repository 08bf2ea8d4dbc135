-- A walk, by a program of this session.
import Derived.Test.YtoojdlobnbakoaaQFnHexx0
import Derived.Test.YtoojdlobnbakoaaQFnHexx1
namespace Go.Proofs.Ytoojdlobnbakoaa.QFnHex
open Go.RowKit Go.Proofs.YtoojdlobnbakoaaW.PrintWords Go.Proofs.YtoojdlobnbakoaaW.PrintLast Go.Proofs.YtoojdlobnbakoaaW.PrintMore
attribute [local go_sem] max2_int min2_int max_two min_two max_three min_three max_four min_four   -- for this text's walks alone
set_option linter.unusedVariables false
set_option linter.unusedSimpArgs false

theorem u2_0 {p : Prop} (h : p := by repeat (first | (with_reducible first | exact HB.out | apply below_alloc | apply pw_below_drewN | apply below_drew1 | refine below_set ?_ (IsS157.ge HI156.out)) | exact HB.out)) : p := h
theorem u2_1 {p : Prop} (h : p := by first | rfl | (simp; done) | (simp [*]; done)) : p := h
theorem u2_2 {p : Prop} (h : p := by first | (rw [hY]; with_reducible exact H) | (have H2_ := oS H; rw [hY]; with_reducible exact H2_) | (have H2_ := oS H; with_reducible exact H2_) | with_reducible exact H | (rw [hY]; exact H) | exact H) : p := h
theorem u2_3 {p : Prop} (h : p := by repeat (first | (with_reducible first | exact HI156.out | apply IsS157.alloc | apply IsS157.drewN | apply IsS157.drew | apply IsS157.set_1 | apply IsS157.set_2) | exact HI156.out)) : p := h
theorem u2_4 {p : Prop} (h : p := by repeat (first | (with_reducible first | exact HBW.out | apply below_alloc | apply pw_below_drewN | apply below_drew1) | exact HBW.out)) : p := h
theorem u2_5 {p : Prop} (h : p := by first | (go_simp; done) | (go_simp; rfl)) : p := h
theorem u2_6 {p : Prop} (h : p := by (with_reducible repeat (first | apply Kd.V_alloc | apply Kd.V_drewN | apply Kd.V_drew)); exact bE.out) : p := h
/-! ### impl_HexOf: function 41 -/
def impl_HexOf.l0 : Nat → List Int → List Int → Int → Int → Option (ByteArray)
 | 0, _, _, _, _ => none
 | k + 1, x3, cZ, iF, cT => if cT < iF then (if 0 ≤ cT then (if cT < (cZ.length : Int) then (if 0 ≤ (IntKind.u8.wrap (Int.tdiv (rd cZ cT) 16)) then (if (IntKind.u8.wrap (Int.tdiv (rd cZ cT) 16)) < 16 then (if 0 ≤ (Int.tmod (rd cZ cT) 16) then (if (Int.tmod (rd cZ cT) 16) < 16 then ((some (([bt (⟨#[48, 49, 50, 51, 52, 53, 54, 55, 56, 57, 97, 98, 99, 100, 101, 102]⟩ : ByteArray) (IntKind.u8.wrap (Int.tdiv (rd cZ cT) 16)), bt (⟨#[48, 49, 50, 51, 52, 53, 54, 55, 56, 57, 97, 98, 99, 100, 101, 102]⟩ : ByteArray) (Int.tmod (rd cZ cT) 16)] : List Int) : List Int)).bind fun aQ => (if x3.length + aQ.length < 140737488355328 then (impl_HexOf.l0 k (x3 ++ aQ) cZ iF (wrap64 (cT + 1))) else (none))) else (none)) else (none)) else (none)) else (none)) else (none)) else (none)) else (some (strOfNums x3))
def impl_HexOf.f (k : Nat) (l0 : List Int) : Option (ByteArray) := if (l0.length : Int) > 4000 then (some (⟨#[]⟩ : ByteArray)) else (impl_HexOf.l0 k (([] : List Int)) l0 (l0.length : Int) 0)
theorem u2_mq0 {p : Prop} (h : p := by repeat' first | (with_reducible first | exact dA _ _ _ _ | exact LeO.refl _ | exact LeO.none _ | refine LeO.ite ?_ ?_ | refine LeO.bind ?_ (fun _ => ?_)) | exact LeO.none _ | refine LeO.ite ?_ ?_ | refine LeO.bind ?_ (fun _ => ?_)) : p := h
set_option maxRecDepth 100000 in
theorem impl_HexOf.mono_l : ∀ k, (∀ y0 y1 y2 y3, LeO (impl_HexOf.l0 k y0 y1 y2 y3) (impl_HexOf.l0 (k + 1) y0 y1 y2 y3))
 | 0 => fun _ _ _ _ r h => by simp [impl_HexOf.l0] at h
 | k + 1 => by
  have dA := impl_HexOf.mono_l k
  ·intro y0 y1 y2 y3; unfold impl_HexOf.l0; exact u2_mq0
theorem impl_HexOf.mono : ∀ a0 k, LeO (impl_HexOf.f k a0) (impl_HexOf.f (k + 1) a0) := by
 intro a0 k
 have dA := impl_HexOf.mono_l k
 unfold impl_HexOf.f
 exact u2_mq0
def impl_HexOf.T7 : Bool × List (List Nat × List Nat) := (true, [([], []), ([], []), ([1], [1]), ([2], [2]), ([], []), ([4], [4]), ([5], [5]), ([3, 6], [3, 6]), ([0, 7], [0, 7]), ([8, 8, 0, 1, 2, 3, 4, 5, 6, 7, 8], [0, 8])])
def impl_HexOf.B7 : List Nat := [0, 0, 2, 6, 0, 16, 48, 126, 255, 511]
set_option maxHeartbeats 8000000 in
set_option maxRecDepth 100000 in
theorem impl_HexOf.calls (k : Nat) (A0 : Option Addr) (c0 : Nat) (l0 : List Int) (r : ByteArray) (w : World) (aG : Kd.C (Kd.int .u8) w A0 l0.length l0) (bV : l0.length ≤ c0) (h : impl_HexOf.f k l0 = some r) :
 Calls Try.prog 41 #[.slice A0 l0.length c0] w fun e w' => e = .returned (.string r) ∧ Below w.heap.size w w' := by
 have cB := aM aG
 have cW := aM bV
 clear aG bV
 have HB := aM (Below.refl w.heap.size w)
 have H : (if (l0.length : Int) > 4000 then (some (⟨#[]⟩ : ByteArray)) else (impl_HexOf.l0 k (([] : List Int)) l0 (l0.length : Int) 0)) = some r := h
 clear h
 by_cases c2 : (l0.length : Int) > 4000
 ·rw [if_pos c2] at H; have bP : decide (4000 < (l0.length : Int)) = true := decide_eq_true c2; have dM : decide (4000 < l0.length) = true := decide_eq_true (by omega); clear c2; obtain rfl := Option.some.inj H; go_enter Try.func41, Try.ntmps41
  go_wp2; go_ret
  exact ⟨xerr, xbel⟩
 ·rw [if_neg c2] at H; have bP : decide (4000 < (l0.length : Int)) = false := decide_eq_false c2; have dM : decide (4000 < l0.length) = false := decide_eq_false (by omega); clear c2; obtain ⟨dU, hY⟩ : ∃ y_ : List Int, y_ = (([] : List Int)) := ⟨_, rfl⟩; replace H : (impl_HexOf.l0 k dU l0 (l0.length : Int) 0) = some r := u2_2; have dB := aM hY; clear hY; have H' := aM H; clear H; go_enter Try.func41, Try.ntmps41
  go_wp2_with (first | ((with_reducible refine gD 9 rfl ?_); refine Kd.R_lit (Kd.int .u8) _ 5 ?hg (N := 9) ?hd (xs := ([] : List Int)) (inner := []) (ok := fun _ => True) (okp := fun _ => True) ?hr ?hp (fun _ hk => hk) trivial (Below.refl _ _) (Nat.le_refl _) (by simp) ?_; (case hd => rfl); (case hg => rfl); (case hr => exact u2_5); (case hp => exact (Reps.none _ _)); intro v102 w3 dV hb hg_ hnew_; clear hg_ hnew_; (first | rw [← dB.out] at dV | (simp only [Int.reduceToNat] at dV; rw [← dB.out] at dV)); have dW := aM (Kd.R_lower dV (below_size xbel)); replace HB := xbs hb; clear hb dV))
  go_loopg [3, 12] k (fun kq v3 v12 w' => ∃ (aD : List Int) (aA : Int), v12 = .int .i64 aA ∧ Aside0 (impl_HexOf.l0 kq aD l0 (l0.length : Int) aA = some r) ∧ Aside0 (kq ≤ k) ∧ Aside0 (Kd.R (Kd.int .u8) 5 w' w.heap.size (fun _ => True) v3 aD) ∧ Aside0 (Below w.heap.size w w'))
  case atStart => exact ⟨(dU), (0), u2_1, H', ⟨Nat.le_refl _⟩, ⟨by (with_reducible repeat (first | apply Kd.R_alloc | apply Kd.R_drewN | apply Kd.R_drew)); exact dW.out⟩, ⟨xbel⟩⟩
  case round =>
   clear H'; try clear c2
   try clear bP
   try clear dM
   try clear p2
   try clear c4
   obtain ⟨aD, aA, rfl, HA, HK1, bG, HB⟩ := hrel; cases gk with
   | zero => exact absurd HA.out (by simp [impl_HexOf.l0])
   | succ k1 =>
    have H := HA.out; clear HA; simp only [impl_HexOf.l0] at H; by_cases c5 : aA < (l0.length : Int)
    ·rw [if_pos c5] at H; have dX : decide (aA < (l0.length : Int)) = true := decide_eq_true c5; clear c5; by_cases c6 : 0 ≤ aA
     ·rw [if_pos c6] at H; have dY : decide (0 ≤ aA) = true := decide_eq_true c6; clear c6; by_cases c7 : aA < (l0.length : Int)
      ·rw [if_pos c7] at H; have dN : decide (aA < (l0.length : Int)) = true := decide_eq_true c7; clear c7; obtain ⟨ji8, hji8⟩ : ∃ j_ : Int, (IntKind.u8.wrap (Int.tdiv (rd l0 aA) 16)) = j_ := ⟨_, rfl⟩; replace H : (if 0 ≤ (ji8) then (if (ji8) < 16 then (if 0 ≤ (Int.tmod (rd l0 aA) 16) then (if (Int.tmod (rd l0 aA) 16) < 16 then ((some (([bt (⟨#[48, 49, 50, 51, 52, 53, 54, 55, 56, 57, 97, 98, 99, 100, 101, 102]⟩ : ByteArray) (ji8), bt (⟨#[48, 49, 50, 51, 52, 53, 54, 55, 56, 57, 97, 98, 99, 100, 101, 102]⟩ : ByteArray) (Int.tmod (rd l0 aA) 16)] : List Int) : List Int)).bind fun aQ => (if aD.length + aQ.length < 140737488355328 then (impl_HexOf.l0 k1 (aD ++ aQ) l0 (l0.length : Int) (wrap64 (aA + 1))) else (none))) else (none)) else (none)) else (none)) else (none)) = some r := by first | (rw [hji8] at H; exact H) | (simp only [hji8] at H ⊢; exact H)
       by_cases c9 : 0 ≤ (ji8)
       ·rw [if_pos c9] at H; have jC : decide (0 ≤ (ji8)) = true := decide_eq_true c9; clear c9; by_cases c10 : (ji8) < 16
        ·rw [if_pos c10] at H; have iG : decide ((ji8) < 16) = true := decide_eq_true c10; clear c10; obtain ⟨ji12, hji12⟩ : ∃ j_ : Int, (Int.tmod (rd l0 aA) 16) = j_ := ⟨_, rfl⟩; replace H : (if 0 ≤ (ji12) then (if (ji12) < 16 then ((some (([bt (⟨#[48, 49, 50, 51, 52, 53, 54, 55, 56, 57, 97, 98, 99, 100, 101, 102]⟩ : ByteArray) (ji8), bt (⟨#[48, 49, 50, 51, 52, 53, 54, 55, 56, 57, 97, 98, 99, 100, 101, 102]⟩ : ByteArray) (ji12)] : List Int) : List Int)).bind fun aQ => (if aD.length + aQ.length < 140737488355328 then (impl_HexOf.l0 k1 (aD ++ aQ) l0 (l0.length : Int) (wrap64 (aA + 1))) else (none))) else (none)) else (none)) = some r := by first | (rw [hji12] at H; exact H) | (simp only [hji12] at H ⊢; exact H)
         by_cases fN : 0 ≤ (ji12)
         ·rw [if_pos fN] at H; have iH : decide (0 ≤ (ji12)) = true := decide_eq_true fN; clear fN; by_cases fO : (ji12) < 16
          ·rw [if_pos fO] at H; have iI : decide ((ji12) < 16) = true := decide_eq_true fO; clear fO; obtain ⟨aQ, hY⟩ : ∃ y_ : List Int, y_ = (([bt (⟨#[48, 49, 50, 51, 52, 53, 54, 55, 56, 57, 97, 98, 99, 100, 101, 102]⟩ : ByteArray) (ji8), bt (⟨#[48, 49, 50, 51, 52, 53, 54, 55, 56, 57, 97, 98, 99, 100, 101, 102]⟩ : ByteArray) (ji12)] : List Int)) := ⟨_, rfl⟩; replace H : (if aD.length + aQ.length < 140737488355328 then (impl_HexOf.l0 k1 (aD ++ aQ) l0 (l0.length : Int) (wrap64 (aA + 1))) else (none)) = some r := u2_2; have dC := aM hY; clear hY; by_cases cU : aD.length + aQ.length < 140737488355328
           ·rw [if_pos cU] at H; have LMc16 := aM cU; clear cU; obtain ⟨dZ, hY⟩ : ∃ y_ : List Int, y_ = (aD ++ aQ) := ⟨_, rfl⟩; replace H : (impl_HexOf.l0 k1 dZ l0 (l0.length : Int) (wrap64 (aA + 1))) = some r := u2_2; have eA := aM hY; clear hY; have H' := aM H; clear H; have p104 : 0 ≤ (aA : Int) := oda; have q104 : aA < (l0.length : Int) := oda; obtain ⟨iJ, fQ, bW⟩ := Kd.at_int cB.out aA p104 q104; cases fQ
            replace bW := xce HB bW; replace p104 := eq_true p104; replace q104 := eq_true q104; try go_wp2
            replace bG := rD bG; replace HB := lD HB; have p11 : 0 ≤ ((ji8) : Int) := oda; have q11 : (ji8) < (16 : Int) := oda; have jD := bt_at (⟨#[48, 49, 50, 51, 52, 53, 54, 55, 56, 57, 97, 98, 99, 100, 101, 102]⟩ : ByteArray) (ji8); replace p11 := eq_true p11; replace q11 := eq_true q11; have p15 : 0 ≤ ((ji12) : Int) := oda; have q15 : (ji12) < (16 : Int) := oda; have jE := bt_at (⟨#[48, 49, 50, 51, 52, 53, 54, 55, 56, 57, 97, 98, 99, 100, 101, 102]⟩ : ByteArray) (ji12); replace p15 := eq_true p15; replace q15 := eq_true q15; refine st_ 10 (fun w' => True) impl_HexOf.T7 impl_HexOf.B7 trivial (fun hHeld HT_ HW_ => ?_); generalize wr.drew = jU at bG HB hHeld ⊢; refine pV 0 16 ?_; refine pV 1 17 ?_; refine pV 2 18 ?_; refine pV 4 20 ?_; refine pV 5 21 ?_; refine take_ (i := 3) (N := some 19) (v := ?_) (a' := ?_) #[true, true, true, true, true, true, false, false, false, false] rfl rfl (take_ofW HT_.out HW_.out (by kernel_rfl)) (fun _ _ _ h => h) (Or.inl ⟨by rfl, ?_⟩) hHeld ?_ ?_; rotate_left
            ·intro w' _; go_simp
             with_reducible rfl
            rotate_left
            ·simp only [Act.put, List.setIfInBounds_toArray, List.set_cons_zero, List.set_cons_succ, i64_w, i32_w]; rfl
            refine take_ (i := 6) (N := some 22) (v := ?_) (a' := ?_) #[true, true, true, true, true, true, true, false, false, false] rfl rfl (take_ofW HT_.out HW_.out (by kernel_rfl)) (fun _ _ _ h => h) (Or.inl ⟨by rfl, ?_⟩) hHeld ?_ ?_; rotate_left
            ·intro w' _; go_simp
             with_reducible rfl
            rotate_left
            ·simp only [Act.put, List.setIfInBounds_toArray, List.set_cons_zero, List.set_cons_succ, i64_w, i32_w]; rfl
            refine oN 7 23 fun K hK => ?_
            refine Kd.R_lit_step (Kd.int .u8) _ 5 ?hg (N := 23) ?hd (xs := ([bt (⟨#[48, 49, 50, 51, 52, 53, 54, 55, 56, 57, 97, 98, 99, 100, 101, 102]⟩ : ByteArray) (ji8), bt (⟨#[48, 49, 50, 51, 52, 53, 54, 55, 56, 57, 97, 98, 99, 100, 101, 102]⟩ : ByteArray) (ji12)] : List Int)) (inner := [.int .u8 (bt (⟨#[48, 49, 50, 51, 52, 53, 54, 55, 56, 57, 97, 98, 99, 100, 101, 102]⟩ : ByteArray) (ji8)), .int .u8 (bt (⟨#[48, 49, 50, 51, 52, 53, 54, 55, 56, 57, 97, 98, 99, 100, 101, 102]⟩ : ByteArray) (ji12))]) (ok := fun _ => True) (okp := fun _ => True) ?hr ?hp (fun _ hk => hk) trivial (Below.refl _ _) (Nat.le_refl _) (by simp) ?_; (case hd => rfl); (case hg => rfl); (case hr => exact u2_5); (case hp => exact (Reps.one (show Kd.M (Kd.int .u8) _ _ _ (bt (⟨#[48, 49, 50, 51, 52, 53, 54, 55, 56, 57, 97, 98, 99, 100, 101, 102]⟩ : ByteArray) (ji8)) [.int .u8 (bt (⟨#[48, 49, 50, 51, 52, 53, 54, 55, 56, 57, 97, 98, 99, 100, 101, 102]⟩ : ByteArray) (ji8))] from rfl) (Reps.one (show Kd.M (Kd.int .u8) _ _ _ (bt (⟨#[48, 49, 50, 51, 52, 53, 54, 55, 56, 57, 97, 98, 99, 100, 101, 102]⟩ : ByteArray) (ji12)) [.int .u8 (bt (⟨#[48, 49, 50, 51, 52, 53, 54, 55, 56, 57, 97, 98, 99, 100, 101, 102]⟩ : ByteArray) (ji12))] from rfl) (Reps.none _ _)))); intro v106 jV cC hb hg_ hnew_; clear hg_ hnew_; (first | rw [← dC.out] at cC | (simp only [Int.reduceToNat] at cC; rw [← dC.out] at cC)); have bI := aM (Kd.R_lower (Kd.R_new' cC (Kd.R_lt (xr bG))) (below_size xbel)); replace bG := aM (Kd.R_elder' (xr bG) (Kd.R_base cC) hb); replace HB := xbs hb; clear hb cC; obtain ⟨fR, fS, eB⟩ := Kd.R_slice bI.out; (first | subst eB | (injection eB with f1_ f2_ f3_; have f4_ := f1_.symm; have f5_ := f3_.symm; clear f1_ f2_ f3_; subst f4_; subst f5_)); refine hK.out _ _ trivial (fun hHeld => ?_); clear hK K; refine nm_ (N := 23) ?_; refine oN 8 24 fun K hK => ?_
            refine Kd.R_append_rows_step (Kd.int .u8) (w0 := w) w.heap.size (by rfl) (.tmp 16) (.tmp 23) 22 5 (.int .u8 0) 1 rfl Try.underlying22 info5 rfl (by decide) (by omega) u3 aD aQ _ _ _ (fun k_ => some k_ ≠ (.slice fR aQ.length fS : Value).ownBlock) (fun _ => False) rfl rfl ?aO ?aR (fun _ _ h => h) (fun _ h => h.elim) ?aF ?aB ?aS ?aL ?_; (case aR => repeat (first | exact (Kd.R_reads' bI.out).2.2 | (with_reducible refine Kd.C_alloc ?_ _) | (with_reducible refine Kd.C_drewN ?_ _) | (with_reducible refine Kd.C_drew ?_))); (case aB => exact xbel); (case aF => exact (fun k_ hk => Kd.fresh' (Kd.R_lt (xr bI)) k_ hk)); (case aO => exact (by (with_reducible repeat (first | apply Kd.R_alloc | apply Kd.R_drewN | apply Kd.R_drew)); exact Kd.R_mono bG.out (fun _ hk => hk.2))); (case aS => exact (below_size xbel)); (case aL => have := LMc16.out; omega); intro v109 jW ho hb hg hat; rw [← eA.out] at ho; replace bI := aM (Kd.R_after (ok := (fun _ => True)) (xr bI) hg hat); replace HB := aM (hb); have eC := aM (ho); clear bG ho hb hg hat; refine hK.out _ _ trivial (fun hHeld => ?_); clear hK K; refine nm_ (N := 24) ?_; refine pV 9 3 ?_; refine dn_ ?_; try go_wp2
            go_roundg k1
            case measure => have := HK1.out; omega
            case rel => exact ⟨(dZ), (wrap64 (aA + 1)), u2_1, H', ⟨by have := HK1.out; omega⟩, ⟨by (with_reducible repeat (first | apply Kd.R_alloc | apply Kd.R_drewN | apply Kd.R_drew)); exact Kd.R_mono eC.out (fun _ hk => trivial)⟩, ⟨xbel⟩⟩
           ·rw [if_neg cU] at H; exact absurd H (by simp)
          ·rw [if_neg fO] at H; exact absurd H (by simp)
         ·rw [if_neg fN] at H; exact absurd H (by simp)
        ·rw [if_neg c10] at H; exact absurd H (by simp)
       ·rw [if_neg c9] at H; exact absurd H (by simp)
      ·rw [if_neg c7] at H; exact absurd H (by simp)
     ·rw [if_neg c6] at H; exact absurd H (by simp)
    ·rw [if_neg c5] at H; have dX : decide (aA < (l0.length : Int)) = false := decide_eq_false c5; clear c5; obtain rfl := Option.some.inj H; have hcv22 := own_string (P := Try.prog) Try.underlying22 Try.underlying5 Try.underlying9 (Kd.own_of_R bG.out); go_wp2; go_ret
     exact ⟨xerr, xbel⟩

/-! ### impl_ShaText: function 24 -/
def impl_ShaText.f (k : Nat) (a0 : ByteArray) : Option (ByteArray) := if a0.size ≤ 9223372036854775807 then ((impl_Sha.f (bytesOf a0)).bind fun bH => ((impl_HexOf.f k bH).bind fun bQ => (some bQ))) else (none)
theorem u2_mq1 {p : Prop} (h : p := by repeat' first | (with_reducible first | exact impl_HexOf.mono _ _ | exact LeO.refl _ | exact LeO.none _ | refine LeO.ite ?_ ?_ | refine LeO.bind ?_ (fun _ => ?_)) | exact LeO.none _ | refine LeO.ite ?_ ?_ | refine LeO.bind ?_ (fun _ => ?_)) : p := h
theorem impl_ShaText.mono : ∀ a0 k, LeO (impl_ShaText.f k a0) (impl_ShaText.f (k + 1) a0) := by
 intro a0 k
 unfold impl_ShaText.f
 exact u2_mq1
set_option maxHeartbeats 8000000 in
set_option maxRecDepth 100000 in
theorem impl_ShaText.calls (k : Nat) (a0 : ByteArray) (r : ByteArray) (w : World) (h : impl_ShaText.f k a0 = some r) :
 Calls Try.prog 24 #[.string a0] w fun e w' => e = .returned (.string r) ∧ Below w.heap.size w w' := by
 have HB := aM (Below.refl w.heap.size w)
 have H : (if a0.size ≤ 9223372036854775807 then ((impl_Sha.f (bytesOf a0)).bind fun bH => ((impl_HexOf.f k bH).bind fun bQ => (some bQ))) else (none)) = some r := h
 clear h
 by_cases c2 : a0.size ≤ 9223372036854775807
 ·rw [if_pos c2] at H; have bP := eq_true c2; have dM : decide (a0.size ≤ 9223372036854775807) = true := decide_eq_true c2; try have jF : (9223372036854775807 < a0.size) = False := eq_false (Nat.not_lt.2 c2)
  clear c2; obtain ⟨dO, hY⟩ : ∃ y_ : List Int, y_ = (bytesOf a0) := ⟨_, rfl⟩; replace H : ((impl_Sha.f dO).bind fun bH => ((impl_HexOf.f k bH).bind fun bQ => (some bQ))) = some r := u2_2; have dE := aM hY; clear hY; replace H := oB H; obtain ⟨bH, cI, H⟩ := H; (try dsimp only at H); have A3 := aM cI; clear cI; replace H := oB H
  obtain ⟨bQ, iK, H⟩ := H; (try dsimp only at H); have A4 := aM iK; clear iK
  obtain rfl := Option.some.inj H; go_enter Try.func24, Try.ntmps24
  go_wp2_with (first | ((with_reducible refine gD 4 rfl ?_); refine Kd.V_conv _ 5 rfl (N := 4) rfl 9 22 _ rfl a0 rfl Try.underlying9 Try.underlying22 Try.underlying5 (oda) (ok := fun k_ => w.heap.size ≤ k_) (Nat.le_refl _) (Below.refl _ _) (Nat.le_refl _) ?_; intro v112 w5 eD hb hg_ hnew_; clear hg_ hnew_; (first | rw [← dE.out] at eD | (simp only [Int.reduceToNat] at eD; rw [← dE.out] at eD)); have bE := aM (Kd.V_lower (Kd.V_mono (ok' := fun k_ => True) eD (fun k_ hk_ => trivial)) (below_size xbel)); replace HB := xbs hb; clear hb eD; obtain ⟨jG, jH, jI⟩ := Kd.V_slice bE.out; subst jI) | ((with_reducible refine gC 32 rfl ?_); refine goesLY (some 5) rfl Try.func32 #[.slice jG dO.length jH] ?_; (with_reducible refine (impl_Sha.calls _ _ dO bH _ ?side1 ?side2 A3.out).mono ?_); (case side1 => repeat (first | exact (Kd.V_reads' bE.out).2.2 | (with_reducible refine Kd.C_alloc ?_ _) | (with_reducible refine Kd.C_drewN ?_ _) | (with_reducible refine Kd.C_drew ?_))); (case side2 => exact (Kd.V_reads' bE.out).2.1); rintro e w8 ⟨v115, rfl, cX, hb⟩; refine ⟨_, rfl, ?_⟩; replace bE := aM (Kd.V_elder' u2_6 (Kd.R_base cX) hb); have bJ := aM (Kd.R_lower cX (below_size xbel)); replace HB := xbs hb; (try clear hb cX); obtain ⟨jJ, jK, jL⟩ := Kd.R_slice bJ.out; subst jL) | ((with_reducible refine gC 41 rfl ?_); refine goesLY (some 6) rfl Try.func41 #[.slice jJ bH.length jK] ?_; (with_reducible refine (impl_HexOf.calls k _ _ bH bQ _ ?side1 ?side2 A4.out).mono ?_); (case side1 => exact xC bJ); (case side2 => exact (Kd.R_reads' bJ.out).2.1); rintro e iL ⟨rfl, hb⟩; refine ⟨_, rfl, ?_⟩; replace bE := aM (Kd.V_below u2_6 hb); replace bJ := xrb bJ hb; replace HB := xbs hb; (try clear hb)))
  go_ret
  exact ⟨xerr, xbel⟩
 ·rw [if_neg c2] at H; exact absurd H (by simp)

/-- A state of type 157 at block g of W; what its slices lead to came in by w0. -/
def IsS157 (w0 W : World) (g : Nat) (f0 : List Int) (f1 : Int) (f2 : Int) : Prop := ∃ A0 c0, W.heap[g]? = some (.cells #[.slice A0 f0.length c0, .int .i64 f1, .int .i64 f2] 157 (0, 0)) ∧ w0.heap.size ≤ g ∧ Kd.C (Kd.int .u8) w0 A0 f0.length f0
theorem IsS157.grown {w0 W : World} {g : Nat} {f0 : List Int} {f1 : Int} {f2 : Int} {W1 : World} {row : Option Nat} (h : IsS157 w0 W g f0 f1 f2) (hw : W.grownBy W1 row) (hne : some g ≠ row) : IsS157 w0 W1 g f0 f1 f2 := by
 obtain ⟨A0, c0, hb, hg, aG⟩ := h
 exact ⟨A0, c0, blk_grown hb hw hne, hg, aG⟩
theorem IsS157.own_neN {w0 W : World} {g : Nat} {f0 : List Int} {f1 : Int} {f2 : Int} {α : Type} {d : Kd α} {e : Nat} {base : Nat} {ok : Nat → Prop} {v : Value} {xs : List α} (h : IsS157 w0 W g f0 f1 f2) (ho : Kd.N d e W base ok v xs) (ht : e ≠ 157) : some g ≠ v.ownBlock := by
 obtain ⟨A0, c0, hb, hg, aG⟩ := h
 exact Kd.N_ne ho hb ht
theorem IsS157.fresh {w0 W : World} {g : Nat} {f0 : List Int} {f1 : Int} {f2 : Int} (h : IsS157 w0 W g f0 f1 f2) : ∀ k, W.heap.size ≤ k → k ≠ g := by
 obtain ⟨A0, c0, hb, hg, aG⟩ := h
 exact Kd.freshB hb
theorem IsS157.kept {w0 W : World} {g : Nat} {f0 : List Int} {f1 : Int} {f2 : Int} {W1 : World} {S : Nat → Prop} (h : IsS157 w0 W g f0 f1 f2) (hk : Kept W W1 S) (hne : ¬ S g) : IsS157 w0 W1 g f0 f1 f2 := by
 obtain ⟨A0, c0, hb, hg, aG⟩ := h
 exact ⟨A0, c0, blk_kept hb hk hne, hg, aG⟩
theorem IsS157.below {w0 W : World} {g : Nat} {f0 : List Int} {f1 : Int} {f2 : Int} {W1 : World} (h : IsS157 w0 W g f0 f1 f2) (hw : Below W.heap.size W W1) : IsS157 w0 W1 g f0 f1 f2 := h.grown (grown_of_below hw none) (by simp)
theorem IsS157.alloc {w0 W : World} {g : Nat} {f0 : List Int} {f1 : Int} {f2 : Int} (h : IsS157 w0 W g f0 f1 f2) (o : Obj) : IsS157 w0 (W.alloc o) g f0 f1 f2 := h.below (below_alloc (Below.refl _ _) o)
theorem IsS157.drewN {w0 W : World} {g : Nat} {f0 : List Int} {f1 : Int} {f2 : Int} (h : IsS157 w0 W g f0 f1 f2) (m : Nat) : IsS157 w0 (W.drewN m) g f0 f1 f2 := h
theorem IsS157.drew {w0 W : World} {g : Nat} {f0 : List Int} {f1 : Int} {f2 : Int} (h : IsS157 w0 W g f0 f1 f2) : IsS157 w0 W.drew g f0 f1 f2 := h
theorem IsS157.at_ {w0 W : World} {g : Nat} {f0 : List Int} {f1 : Int} {f2 : Int} {w' : World} {m : Nat} (hq : W.drewN m = w') (h : IsS157 w0 W g f0 f1 f2) : IsS157 w0 w' g f0 f1 f2 := by subst hq; exact IsS157.drewN h m
theorem IsS157.apart {w0 W : World} {g : Nat} {f0 : List Int} {f1 : Int} {f2 : Int} {α : Type} {d : Kd α} {e : Nat} {base : Nat} {ok : Nat → Prop} {v : Value} {xs : List α} (h : IsS157 w0 W g f0 f1 f2) (ho : d.R e W base ok v xs) (ht : ∀ q, q ∈ e :: d.E → q ≠ 157) : d.R e W base (fun k => ok k ∧ k ≠ g) v xs := by
 obtain ⟨A0, c0, hb, hg, aG⟩ := h
 exact Kd.R_types ho hb ht
theorem IsS157.own_ne {w0 W : World} {g : Nat} {f0 : List Int} {f1 : Int} {f2 : Int} {α : Type} {d : Kd α} {e : Nat} {base : Nat} {ok : Nat → Prop} {v : Value} {xs : List α} (h : IsS157 w0 W g f0 f1 f2) (ho : d.R e W base ok v xs) (ht : e ≠ 157) : some g ≠ v.ownBlock := by
 obtain ⟨A0, c0, hb, hg, aG⟩ := h
 exact Kd.R_ne ho hb ht
theorem IsS157.apartQ {w0 W : World} {g : Nat} {f0 : List Int} {f1 : Int} {f2 : Int} {α : Type} {d : Kd α} {e : Nat} {base : Nat} {ok : Nat → Prop} {v : Value} {xs : List α} (h : IsS157 w0 W g f0 f1 f2) (ho : d.Q e W base ok v xs) (ht : ∀ q, q ∈ e :: d.E → q ≠ 157) : d.Q e W base (fun k => ok k ∧ k ≠ g) v xs := by
 obtain ⟨A0, c0, hb, hg, aG⟩ := h
 exact Kd.Q_types ho hb ht
theorem IsS157.own_neQ {w0 W : World} {g : Nat} {f0 : List Int} {f1 : Int} {f2 : Int} {α : Type} {d : Kd α} {e : Nat} {base : Nat} {ok : Nat → Prop} {v : Value} {xs : List α} (h : IsS157 w0 W g f0 f1 f2) (ho : d.Q e W base ok v xs) (ht : e ≠ 157) : some g ≠ v.ownBlock := by
 obtain ⟨A0, c0, hb, hg, aG⟩ := h
 exact Kd.Q_ne ho hb ht
theorem IsS157.apartS {w0 W : World} {g : Nat} {f0 : List Int} {f1 : Int} {f2 : Int} {α : Type} {d : Kd α} {e : Nat} {base : Nat} {ok : Nat → Prop} {v : Value} {xs : List α} (h : IsS157 w0 W g f0 f1 f2) (ho : d.S e W base ok v xs) (ht : ∀ q, q ∈ e :: d.E → q ≠ 157) : d.S e W base (fun k => ok k ∧ k ≠ g) v xs := by
 obtain ⟨A0, c0, hb, hg, aG⟩ := h
 exact Kd.S_types ho hb ht
theorem IsS157.own_neS {w0 W : World} {g : Nat} {f0 : List Int} {f1 : Int} {f2 : Int} {α : Type} {d : Kd α} {e : Nat} {base : Nat} {ok : Nat → Prop} {v : Value} {xs : List α} (h : IsS157 w0 W g f0 f1 f2) (ho : d.S e W base ok v xs) (ht : e ≠ 157) : some g ≠ v.ownBlock := by
 obtain ⟨A0, c0, hb, hg, aG⟩ := h
 exact Kd.S_ne ho hb ht
theorem IsS157.lt {w0 W : World} {g : Nat} {f0 : List Int} {f1 : Int} {f2 : Int} (h : IsS157 w0 W g f0 f1 f2) : g < W.heap.size := by
 obtain ⟨A0, c0, hb, hg, aG⟩ := h
 exact blk_lt hb
theorem IsS157.ge {w0 W : World} {g : Nat} {f0 : List Int} {f1 : Int} {f2 : Int} (h : IsS157 w0 W g f0 f1 f2) : w0.heap.size ≤ g := by
 obtain ⟨A0, c0, hb, hg, aG⟩ := h
 exact hg
theorem IsS157.ne_blk {w0 W : World} {g : Nat} {f0 : List Int} {f1 : Int} {f2 : Int} {a : Nat} {cs : Array Value} {t : TypeId} {fr : Nat × Nat} (h : IsS157 w0 W g f0 f1 f2) (cV : W.heap[a]? = some (.cells cs t fr)) (ht : t ≠ 157) : g ≠ a := by
 obtain ⟨A0, c0, hb, hg, aG⟩ := h
 rintro rfl
 rw [hb] at cV
 injection cV with cV
 injection cV with _ ht2
 exact ht ht2.symm
theorem IsS157.far {w0 W : World} {g : Nat} {f0 : List Int} {f1 : Int} {f2 : Int} {p : Addr} (h : IsS157 w0 W g f0 f1 f2) (hne : g ≠ p.block) (u : Value) : IsS157 w0 (W.setCell p u) g f0 f1 f2 := by
 obtain ⟨A0, c0, hb, hg, aG⟩ := h
 exact ⟨A0, c0, blk_far hb hne u, hg, aG⟩
theorem cellS157_0 {W : World} {g : Nat} {A0 : Option Addr} {c0 : Nat} {f0 : List Int} {f1 : Int} {f2 : Int} (h : W.heap[g]? = some (.cells #[.slice A0 f0.length c0, .int .i64 f1, .int .i64 f2] 157 (0, 0))) : W.cell? ⟨g, 0, none⟩ = some (.slice A0 f0.length c0) := (blk_cell h 0).trans rfl
theorem cellS157_1 {W : World} {g : Nat} {A0 : Option Addr} {c0 : Nat} {f0 : List Int} {f1 : Int} {f2 : Int} (h : W.heap[g]? = some (.cells #[.slice A0 f0.length c0, .int .i64 f1, .int .i64 f2] 157 (0, 0))) : W.cell? ⟨g, 1, none⟩ = some (.int .i64 f1) := (blk_cell h 1).trans rfl
theorem IsS157.set_1 {w0 W : World} {g : Nat} {f0 : List Int} {f1 : Int} {f2 : Int} (h : IsS157 w0 W g f0 f1 f2) (x : Int) : IsS157 w0 (W.setCell ⟨g, 1, none⟩ (.int .i64 x)) g f0 x f2 := by
 obtain ⟨A0, c0, hb, hg, aG⟩ := h
 exact ⟨A0, c0, by simpa using blk_set hb 1 (.int .i64 x), hg, aG⟩
theorem cellS157_2 {W : World} {g : Nat} {A0 : Option Addr} {c0 : Nat} {f0 : List Int} {f1 : Int} {f2 : Int} (h : W.heap[g]? = some (.cells #[.slice A0 f0.length c0, .int .i64 f1, .int .i64 f2] 157 (0, 0))) : W.cell? ⟨g, 2, none⟩ = some (.int .i64 f2) := (blk_cell h 2).trans rfl
theorem IsS157.set_2 {w0 W : World} {g : Nat} {f0 : List Int} {f1 : Int} {f2 : Int} (h : IsS157 w0 W g f0 f1 f2) (x : Int) : IsS157 w0 (W.setCell ⟨g, 2, none⟩ (.int .i64 x)) g f0 f1 x := by
 obtain ⟨A0, c0, hb, hg, aG⟩ := h
 exact ⟨A0, c0, by simpa using blk_set hb 2 (.int .i64 x), hg, aG⟩
theorem IsS157.new (w0 W : World) (A0 : Option Addr) (c0 : Nat) (f0 : List Int) (f1 : Int) (f2 : Int) (hB : Below w0.heap.size w0 W) (aG : Kd.C (Kd.int .u8) w0 A0 f0.length f0) : IsS157 w0 (W.alloc (.cells #[.slice A0 f0.length c0, .int .i64 f1, .int .i64 f2] 157)) W.heap.size f0 f1 f2 := ⟨A0, c0, by simpa using heap_alloc_new W _, hB.size, aG⟩
theorem IsS157.s {w0 W : World} {g : Nat} {f0 : List Int} {f1 : Int} {f2 : Int} (h : IsS157 w0 W g f0 f1 f2 := by repeat (first | (with_reducible first | exact HI0.out | apply IsS157.alloc | apply IsS157.drewN | apply IsS157.drew | apply IsS157.set_1 | apply IsS157.set_2) | ((with_reducible apply IsS157.far); (case hne => apply Aside0.out; assumption)) | exact HI0.out)) : IsS157 w0 W g f0 f1 f2 := h
theorem IsS157.sw {w0 W0 W w' : World} {g : Nat} {f0 : List Int} {f1 : Int} {f2 : Int} {ef0 : List Int} {ef1 : Int} {ef2 : Int} (hw : w' = W) (h0 : Aside0 (IsS157 w0 W0 g ef0 ef1 ef2)) (h : IsS157 w0 W g f0 f1 f2 := by exact IsS157.s) : Aside0 (IsS157 w0 w' g f0 f1 f2) := ⟨by subst hw; exact h⟩
theorem IsS157.bl {w0 W0 W W1 : World} {g : Nat} {f0 : List Int} {f1 : Int} {f2 : Int} {ef0 : List Int} {ef1 : Int} {ef2 : Int} (h0 : Aside0 (IsS157 w0 W0 g ef0 ef1 ef2)) (hb : Below W.heap.size W W1) (h : IsS157 w0 W g f0 f1 f2 := by exact IsS157.s) : Aside0 (IsS157 w0 W1 g f0 f1 f2) := ⟨h.below hb⟩
theorem IsS157.rk {w0 W0 W W1 : World} {g : Nat} {f0 : List Int} {f1 : Int} {f2 : Int} {ef0 : List Int} {ef1 : Int} {ef2 : Int} {α : Type} {d : Kd α} {e base : Nat} {ok : Nat → Prop} {v : Value} {xs : List α} (h0 : Aside0 (IsS157 w0 W0 g ef0 ef1 ef2)) (hk : KeepBut W W1 g none) (ho : d.R e W base ok v xs) (h : IsS157 w0 W g f0 f1 f2 := by exact IsS157.s) (ht : ∀ q, q ∈ e :: d.E → q ≠ 157 := by decide) : Aside0 (d.R e W1 base ok v xs) := ⟨Kd.R_mono (Kd.R_keep (h.apart ho ht) hk (fun _ h => h.2)) (fun _ h => h.1)⟩
theorem IsS157.dD {w0 W : World} {g : Nat} {f0 : List Int} {f1 : Int} {f2 : Int} (h : Aside0 (IsS157 w0 W g f0 f1 f2)) : Aside0 (IsS157 w0 W.drew g f0 f1 f2) := ⟨h.out⟩
theorem IsS157.B {b : Nat} {w W : World} (h : Below b w W := by repeat (first | (with_reducible first | exact HB.out | apply below_alloc | apply pw_below_drewN | apply below_drew1) | ((with_reducible apply below_set); (case hg => first | with_reducible exact IsS157.ge HI0.out | (apply Aside0.out; assumption))) | exact HB.out)) : Below b w W := h
theorem IsS157.Bw {b : Nat} {w W0 W w' : World} (hw : w' = W) (h0 : Aside0 (Below b w W0)) (h : Below b w W := by exact IsS157.B) : Aside0 (Below b w w') := ⟨by subst hw; exact h⟩
theorem IsS157.Bb {w W0 W W1 : World} (h0 : Aside0 (Below w.heap.size w W0)) (hb : Below W.heap.size W W1) (h : Below w.heap.size w W := by exact IsS157.B) : Aside0 (Below w.heap.size w W1) := ⟨below_step h hb⟩

/-! ### spec_l1New: function 103 -/
def spec_l1New.l0 : Nat → List Int → Int → Int → Option (List Int × Int × Int)
 | 0, _, _, _ => none
 | k + 1, x0, x3, x4 => if x4 < (x0.length : Int) then (if x4 < 4000 then (if 0 ≤ x4 then (spec_l1New.l0 k x0 (Go.bits .and .i64 (wrap64 ((wrap64 ((wrap64 (x3 * 131)) + (wrap64 (rd x0 x4)))) + 7)) 1073741823) (wrap64 (x4 + 1))) else (none)) else (some (x0, 0, x3))) else (some (x0, 0, x3))
def spec_l1New.f (k : Nat) (l0 : List Int) : Option (List Int × Int × Int) := spec_l1New.l0 k l0 (wrap64 (10677 + (l0.length : Int))) 0
theorem u2_mq2 {p : Prop} (h : p := by repeat' first | (with_reducible first | exact dA _ _ _ | exact LeO.refl _ | exact LeO.none _ | refine LeO.ite ?_ ?_ | refine LeO.bind ?_ (fun _ => ?_)) | exact LeO.none _ | refine LeO.ite ?_ ?_ | refine LeO.bind ?_ (fun _ => ?_)) : p := h
set_option maxRecDepth 100000 in
theorem spec_l1New.mono_l : ∀ k, (∀ y0 y1 y2, LeO (spec_l1New.l0 k y0 y1 y2) (spec_l1New.l0 (k + 1) y0 y1 y2))
 | 0 => fun _ _ _ r h => by simp [spec_l1New.l0] at h
 | k + 1 => by
  have dA := spec_l1New.mono_l k
  ·intro y0 y1 y2; unfold spec_l1New.l0; exact u2_mq2
theorem spec_l1New.mono : ∀ a0 k, LeO (spec_l1New.f k a0) (spec_l1New.f (k + 1) a0) := by
 intro a0 k
 have dA := spec_l1New.mono_l k
 unfold spec_l1New.f
 exact u2_mq2
set_option maxHeartbeats 8000000 in
set_option maxRecDepth 100000 in
theorem spec_l1New.calls (k : Nat) (A0 : Option Addr) (c0 : Nat) (l0 : List Int) (r1 : List Int) (r2 : Int) (r3 : Int) (w0 w : World) (hB : Below w0.heap.size w0 w) (aG : Kd.C (Kd.int .u8) w0 A0 l0.length l0) (bV : l0.length ≤ c0) (h : spec_l1New.f k l0 = some (r1, r2, r3)) :
 Calls Try.prog 103 #[.slice A0 l0.length c0] w fun e w' => ∃ g_ : Nat, e = .returned (.pointer (some ⟨g_, 0, none⟩)) ∧ IsS157 w0 w' g_ r1 r2 r3 ∧ Below w0.heap.size w0 w' ∧ Below w.heap.size w w' := by
 have iM := Try.underlying157
 have cB := aM aG
 have cW := aM bV
 clear aG bV
 have HBW := aM (Below.refl w.heap.size w)
 have HW0 := aM hB.size
 have HB := aM hB
 clear hB
 have H : (spec_l1New.l0 k l0 (wrap64 (10677 + (l0.length : Int))) 0) = some (r1, r2, r3) := h
 clear h
 have H' := aM H
 clear H
 go_enter Try.func103, Try.ntmps103
 go_wp2
 go_loopg [3, 4] k (fun kq v3 v4 w' => ∃ (aD : Int) (aN : Int), v3 = .int .i64 aD ∧ v4 = .int .i64 aN ∧ Aside0 (spec_l1New.l0 kq l0 aD aN = some (r1, r2, r3)) ∧ Aside0 (kq ≤ k) ∧ Aside0 (Below w.heap.size w w') ∧ Aside0 (Below w0.heap.size w0 w'))
 case atStart => exact ⟨(wrap64 (10677 + (l0.length : Int))), (0), u2_1, u2_1, H', ⟨Nat.le_refl _⟩, ⟨u2_4⟩, ⟨xbel⟩⟩
 case round =>
  clear H'; try clear c1
  obtain ⟨aD, aN, rfl, rfl, HA, HK1, HBW, HB⟩ := hrel; cases gk with
  | zero => exact absurd HA.out (by simp [spec_l1New.l0])
  | succ k1 =>
   have H := HA.out; clear HA; simp only [spec_l1New.l0] at H; by_cases c2 : aN < (l0.length : Int)
   ·rw [if_pos c2] at H; have bP : decide (aN < (l0.length : Int)) = true := decide_eq_true c2; clear c2; by_cases c3 : aN < 4000
    ·rw [if_pos c3] at H; have cD : decide (aN < 4000) = true := decide_eq_true c3; clear c3; by_cases c4 : 0 ≤ aN
     ·rw [if_pos c4] at H; have cJ : decide (0 ≤ aN) = true := decide_eq_true c4; clear c4; have H' := aM H; clear H; have p118 : 0 ≤ (aN : Int) := oda; have q118 : aN < (l0.length : Int) := oda; obtain ⟨iO, fT, bX⟩ := Kd.at_int cB.out aN p118 q118; cases fT
      replace bX := pw_cell_below HB.out bX; replace p118 := eq_true p118; replace q118 := eq_true q118; go_wp2; go_roundg k1
      case measure => have := HK1.out; omega
      case rel => exact ⟨(Go.bits .and .i64 (wrap64 ((wrap64 ((wrap64 (aD * 131)) + (wrap64 (rd l0 aN)))) + 7)) 1073741823), (wrap64 (aN + 1)), u2_1, u2_1, H', ⟨by have := HK1.out; omega⟩, ⟨u2_4⟩, ⟨xbel⟩⟩
     ·rw [if_neg c4] at H; exact absurd H (by simp)
    ·rw [if_neg c3] at H; have cD : decide (aN < 4000) = false := decide_eq_false c3; clear c3; simp only [Option.some.injEq, Prod.mk.injEq] at H; obtain ⟨rfl, rfl, rfl⟩ := H; go_wp2_with (first | ((with_reducible refine gD 31 rfl ?_); refine boxE (N := 31) rfl (cs := #[.slice A0 l0.length c0, .int .i64 0, .int .i64 aD]) (t := 157) ?_; intro bY hg w5 hbox hb; replace HB := xbs hb; have iP := aM (hbox); have eE := aM ((by rw [hg]; exact (below_size u2_4) : w.heap.size ≤ bY)); have eF := aM ((Nat.le_trans HW0.out (by rw [hg]; exact (below_size u2_4) : w.heap.size ≤ bY) : w0.heap.size ≤ bY)); replace HBW := aM (below_step HBW.out hb); clear hb hbox hg))
     go_ret
     exact ⟨_, rfl, (show IsS157 w0 _ bY l0 0 aD from ⟨_, _, xB, eF.out, cB.out⟩), xbg, by repeat (first | (with_reducible first | exact HBW.out | apply below_alloc | apply pw_below_drewN | apply below_drew1 | refine below_set ?_ eE.out) | exact HBW.out)⟩
   ·rw [if_neg c2] at H; have bP : decide (aN < (l0.length : Int)) = false := decide_eq_false c2; clear c2; simp only [Option.some.injEq, Prod.mk.injEq] at H; obtain ⟨rfl, rfl, rfl⟩ := H; go_wp2_with (first | ((with_reducible refine gD 31 rfl ?_); refine boxE (N := 31) rfl (cs := #[.slice A0 l0.length c0, .int .i64 0, .int .i64 aD]) (t := 157) ?_; intro bZ hg w6 hbox hb; replace HB := xbs hb; have iQ := aM (hbox); have eG := aM ((by rw [hg]; exact (below_size u2_4) : w.heap.size ≤ bZ)); have eH := aM ((Nat.le_trans HW0.out (by rw [hg]; exact (below_size u2_4) : w.heap.size ≤ bZ) : w0.heap.size ≤ bZ)); replace HBW := aM (below_step HBW.out hb); clear hb hbox hg))
    go_ret
    exact ⟨_, rfl, (show IsS157 w0 _ bZ l0 0 aD from ⟨_, _, xB, eH.out, cB.out⟩), xbg, by repeat (first | (with_reducible first | exact HBW.out | apply below_alloc | apply pw_below_drewN | apply below_drew1 | refine below_set ?_ eG.out) | exact HBW.out)⟩

/-! ### spec_l1Byte: function 154 -/
def spec_l1Byte.f (s0_0 : List Int) (s0_1 : Int) (s0_2 : Int) : Option (Int × Int × Int) := if s0_1 < (s0_0.length : Int) then (if 0 ≤ s0_1 then (some (Go.bits .and .i64 (wrap64 ((Go.bits .and .i64 (Go.bits .xor .i64 ((wrap64 ((wrap64 (s0_2 * 6364136223846793005)) + 1442695040888963407)) / 8589934592) ((wrap64 ((wrap64 (s0_2 * 6364136223846793005)) + 1442695040888963407)) / 35184372088832)) 255) + (wrap64 (rd s0_0 s0_1)))) 255, wrap64 (s0_1 + 1), wrap64 ((wrap64 (s0_2 * 6364136223846793005)) + 1442695040888963407))) else (none)) else (some (Go.bits .and .i64 (Go.bits .xor .i64 ((wrap64 ((wrap64 (s0_2 * 6364136223846793005)) + 1442695040888963407)) / 8589934592) ((wrap64 ((wrap64 (s0_2 * 6364136223846793005)) + 1442695040888963407)) / 35184372088832)) 255, s0_1, wrap64 ((wrap64 (s0_2 * 6364136223846793005)) + 1442695040888963407)))
set_option maxHeartbeats 8000000 in
set_option maxRecDepth 100000 in
theorem spec_l1Byte.calls (g : Nat) (s0_0 : List Int) (s0_1 : Int) (s0_2 : Int) (r1 : Int) (r2 : Int) (r3 : Int) (w0 w : World) (hI : IsS157 w0 w g s0_0 s0_1 s0_2) (hB : Below w0.heap.size w0 w) (h : spec_l1Byte.f s0_0 s0_1 s0_2 = some (r1, r2, r3)) :
 Calls Try.prog 154 #[.pointer (some ⟨g, 0, none⟩)] w fun e w' => e = .returned (.int .i64 r1) ∧ IsS157 w0 w' g s0_0 r2 r3 ∧ Below w0.heap.size w0 w' ∧ KeepBut w w' g none := by
 have HI0 := aM hI
 have HK := aM (KeepBut.refl w g none)
 have HL := aM hB.size
 clear hI
 have HW0 := aM hB.size
 have HB := aM hB
 clear hB
 have H : (if s0_1 < (s0_0.length : Int) then (if 0 ≤ s0_1 then (some (Go.bits .and .i64 (wrap64 ((Go.bits .and .i64 (Go.bits .xor .i64 ((wrap64 ((wrap64 (s0_2 * 6364136223846793005)) + 1442695040888963407)) / 8589934592) ((wrap64 ((wrap64 (s0_2 * 6364136223846793005)) + 1442695040888963407)) / 35184372088832)) 255) + (wrap64 (rd s0_0 s0_1)))) 255, wrap64 (s0_1 + 1), wrap64 ((wrap64 (s0_2 * 6364136223846793005)) + 1442695040888963407))) else (none)) else (some (Go.bits .and .i64 (Go.bits .xor .i64 ((wrap64 ((wrap64 (s0_2 * 6364136223846793005)) + 1442695040888963407)) / 8589934592) ((wrap64 ((wrap64 (s0_2 * 6364136223846793005)) + 1442695040888963407)) / 35184372088832)) 255, s0_1, wrap64 ((wrap64 (s0_2 * 6364136223846793005)) + 1442695040888963407)))) = some (r1, r2, r3) := h
 clear h
 by_cases c2 : s0_1 < (s0_0.length : Int)
 ·rw [if_pos c2] at H; have bP : decide (s0_1 < (s0_0.length : Int)) = true := decide_eq_true c2; clear c2; by_cases c3 : 0 ≤ s0_1
  ·rw [if_pos c3] at H; have cD : decide (0 ≤ s0_1) = true := decide_eq_true c3; clear c3; simp only [Option.some.injEq, Prod.mk.injEq] at H; obtain ⟨rfl, rfl, rfl⟩ := H; obtain ⟨ASz4_0, cSz4_0, HGz4, hgz4, HSz4_0⟩ := HI0.out; have fU := cellS157_0 HGz4; have fV := cellS157_1 HGz4; have fW := cellS157_2 HGz4; have fX := blk_frozen HGz4 1; have fY := blk_frozen HGz4 2; clear HGz4 hgz4; have p121 : 0 ≤ (s0_1 : Int) := oda; have q121 : s0_1 < (s0_0.length : Int) := oda; obtain ⟨eI, fZ, aK⟩ := Kd.at_int HSz4_0 s0_1 p121 q121; cases fZ
   have hn121_0 : eI.block ≠ g := Nat.ne_of_lt (Nat.lt_of_lt_of_le (by have := World.block_lt_of_cell? _ _ aK; first | rwa [add_block] at this | exact this) (IsS157.ge HI0.out)); replace aK := pw_cell_below HB.out aK; replace aK := (cell_far (p := ⟨g, 2, none⟩) (by first | (rw [add_block]; exact hn121_0) | (show (Addr.add _ _).block ≠ _; rw [add_block]; exact hn121_0) | exact hn121_0) (.int .i64 (wrap64 ((wrap64 (s0_2 * 6364136223846793005)) + 1442695040888963407)))).trans aK; (try have fP := fun (n_ : Nat) => (show (((w.drewN n_).setCell ⟨g, 2, none⟩ (.int .i64 (wrap64 ((wrap64 (s0_2 * 6364136223846793005)) + 1442695040888963407))))).cell? _ = some _ from aK)); clear hn121_0; replace p121 := eq_true p121; replace q121 := eq_true q121; go_enter Try.func154, Try.ntmps154
   go_wp2
   repeat (go_quiet (fail); try go_wp2)
   go_ret
   exact ⟨xerr, IsS157.s, IsS157.B, xK⟩
  ·rw [if_neg c3] at H; exact absurd H (by simp)
 ·rw [if_neg c2] at H; have bP : decide (s0_1 < (s0_0.length : Int)) = false := decide_eq_false c2; clear c2; simp only [Option.some.injEq, Prod.mk.injEq] at H; obtain ⟨rfl, rfl, rfl⟩ := H; obtain ⟨ASz5_0, cSz5_0, HGz5, hgz5, HSz5_0⟩ := HI0.out; have gA := cellS157_0 HGz5; have gB := cellS157_1 HGz5; have gE := cellS157_2 HGz5; have gF := blk_frozen HGz5 1; have gG := blk_frozen HGz5 2; clear HGz5 hgz5; go_enter Try.func154, Try.ntmps154
  go_wp2
  repeat (go_quiet (fail); try go_wp2)
  go_ret
  exact ⟨xerr, IsS157.s, IsS157.B, xK⟩

/-! ### spec_l1Below: function 108 -/
def spec_l1Below.f (s0_0 : List Int) (s0_1 : Int) (s0_2 : Int) (a1 : Int) : Option (Int × Int × Int) := if a1 ≤ 0 then (some (0, s0_1, s0_2)) else (if a1 ≤ 256 then ((spec_l1Byte.f s0_0 s0_1 s0_2).bind fun aW => (if a1 = 0 then (none) else (some (Int.tmod aW.1 a1, aW.2.1, aW.2.2)))) else ((spec_l1Byte.f s0_0 s0_1 s0_2).bind fun aX => ((spec_l1Byte.f s0_0 aX.2.1 aX.2.2).bind fun aY => ((spec_l1Byte.f s0_0 aY.2.1 aY.2.2).bind fun aZ => ((spec_l1Byte.f s0_0 aZ.2.1 aZ.2.2).bind fun bA => (if a1 = 0 then (none) else (some (Int.tmod (wrap64 ((wrap64 ((wrap64 ((wrap64 (aX.1 * 16777216)) + (wrap64 (aY.1 * 65536)))) + (wrap64 (aZ.1 * 256)))) + bA.1)) a1, bA.2.1, bA.2.2))))))))
set_option maxHeartbeats 8000000 in
set_option maxRecDepth 100000 in
theorem spec_l1Below.calls (g : Nat) (s0_0 : List Int) (s0_1 : Int) (s0_2 : Int) (a1 : Int) (r1 : Int) (r2 : Int) (r3 : Int) (w0 w : World) (hI : IsS157 w0 w g s0_0 s0_1 s0_2) (hB : Below w0.heap.size w0 w) (h : spec_l1Below.f s0_0 s0_1 s0_2 a1 = some (r1, r2, r3)) :
 Calls Try.prog 108 #[.pointer (some ⟨g, 0, none⟩), .int .i64 a1] w fun e w' => e = .returned (.int .i64 r1) ∧ IsS157 w0 w' g s0_0 r2 r3 ∧ Below w0.heap.size w0 w' ∧ KeepBut w w' g none := by
 have HI0 := aM hI
 have HK := aM (KeepBut.refl w g none)
 have HL := aM hB.size
 clear hI
 have HW0 := aM hB.size
 have HB := aM hB
 clear hB
 have H : (if a1 ≤ 0 then (some (0, s0_1, s0_2)) else (if a1 ≤ 256 then ((spec_l1Byte.f s0_0 s0_1 s0_2).bind fun aW => (if a1 = 0 then (none) else (some (Int.tmod aW.1 a1, aW.2.1, aW.2.2)))) else ((spec_l1Byte.f s0_0 s0_1 s0_2).bind fun aX => ((spec_l1Byte.f s0_0 aX.2.1 aX.2.2).bind fun aY => ((spec_l1Byte.f s0_0 aY.2.1 aY.2.2).bind fun aZ => ((spec_l1Byte.f s0_0 aZ.2.1 aZ.2.2).bind fun bA => (if a1 = 0 then (none) else (some (Int.tmod (wrap64 ((wrap64 ((wrap64 ((wrap64 (aX.1 * 16777216)) + (wrap64 (aY.1 * 65536)))) + (wrap64 (aZ.1 * 256)))) + bA.1)) a1, bA.2.1, bA.2.2))))))))) = some (r1, r2, r3) := h
 clear h
 by_cases c3 : a1 ≤ 0
 ·rw [if_pos c3] at H; have cD : decide (a1 ≤ 0) = true := decide_eq_true c3; clear c3; simp only [Option.some.injEq, Prod.mk.injEq] at H; obtain ⟨rfl, rfl, rfl⟩ := H; go_enter Try.func108, Try.ntmps108
  go_wp2; go_ret
  exact ⟨xerr, IsS157.s, IsS157.B, xK⟩
 ·rw [if_neg c3] at H; have cD : decide (a1 ≤ 0) = false := decide_eq_false c3; clear c3; by_cases c4 : a1 ≤ 256
  ·rw [if_pos c4] at H; have cJ : decide (a1 ≤ 256) = true := decide_eq_true c4; clear c4; replace H := oB H; obtain ⟨⟨gH, gI, gJ⟩, eJ, H⟩ := H; (try dsimp only at H); have A5 := aM eJ; clear eJ
   by_cases c6 : a1 = 0
   ·rw [if_pos c6] at H; exact absurd H (by simp)
   ·rw [if_neg c6] at H; obtain ⟨dY, gK⟩ := bF c6; simp only [Option.some.injEq, Prod.mk.injEq] at H; obtain ⟨rfl, rfl, rfl⟩ := H; go_enter Try.func108, Try.ntmps108
    go_wp2_with (first | ((with_reducible refine gC 154 rfl ?_); refine goesLY (some 14) rfl Try.func154 #[.pointer (some ⟨g, 0, none⟩)] ?_; (with_reducible refine (spec_l1Byte.calls g s0_0 s0_1 s0_2 gH gI gJ w0 _ ?side1 ?side2 A5.out).mono ?_); (case side1 => exact IsS157.s); (case side2 => exact IsS157.B); rintro e w7 ⟨rfl, hi, hb, hk⟩; refine ⟨_, rfl, ?_⟩; replace HK := xhk HK hk; replace HB := aM (hb); replace HI0 := aM (hi); (try clear hb hk hi)))
    go_ret
    exact ⟨xerr, IsS157.s, IsS157.B, xK⟩
  ·rw [if_neg c4] at H; have cJ : decide (a1 ≤ 256) = false := decide_eq_false c4; clear c4; replace H := oB H; obtain ⟨⟨gL, eK, eL⟩, eM, H⟩ := H; (try dsimp only at H); have A8 := aM eM; clear eM; replace H := oB H
   obtain ⟨⟨gM, eN, eO⟩, iR, H⟩ := H; (try dsimp only at H); have A9 := aM iR; clear iR; replace H := oB H
   obtain ⟨⟨gN, eP, eQ⟩, eR, H⟩ := H; (try dsimp only at H); have jM := aM eR; clear eR; replace H := oB H
   obtain ⟨⟨gO, gP, gQ⟩, eS, H⟩ := H; (try dsimp only at H); have jN := aM eS; clear eS
   by_cases gR : a1 = 0
   ·rw [if_pos gR] at H; exact absurd H (by simp)
   ·rw [if_neg gR] at H; obtain ⟨iS, iU⟩ := bF gR; simp only [Option.some.injEq, Prod.mk.injEq] at H; obtain ⟨rfl, rfl, rfl⟩ := H; go_enter Try.func108, Try.ntmps108
    go_wp2_with (first | ((with_reducible refine gC 154 rfl ?_); refine goesLY (some 18) rfl Try.func154 #[.pointer (some ⟨g, 0, none⟩)] ?_; (with_reducible refine (spec_l1Byte.calls g s0_0 s0_1 s0_2 gL eK eL w0 _ ?side1 ?side2 A8.out).mono ?_); (case side1 => exact IsS157.s); (case side2 => exact IsS157.B); rintro e jO ⟨rfl, hi, hb, hk⟩; refine ⟨_, rfl, ?_⟩; replace HK := xhk HK hk; replace HB := aM (hb); replace HI0 := aM (hi); (try clear hb hk hi)) | ((with_reducible refine gC 154 rfl ?_); refine goesLY (some 20) rfl Try.func154 #[.pointer (some ⟨g, 0, none⟩)] ?_; (with_reducible refine (spec_l1Byte.calls g s0_0 eK eL gM eN eO w0 _ ?side1 ?side2 A9.out).mono ?_); (case side1 => exact IsS157.s); (case side2 => exact IsS157.B); rintro e jP ⟨rfl, hi, hb, hk⟩; refine ⟨_, rfl, ?_⟩; replace HK := xhk HK hk; replace HB := aM (hb); replace HI0 := aM (hi); (try clear hb hk hi)) | ((with_reducible refine gC 154 rfl ?_); refine goesLY (some 22) rfl Try.func154 #[.pointer (some ⟨g, 0, none⟩)] ?_; (with_reducible refine (spec_l1Byte.calls g s0_0 eN eO gN eP eQ w0 _ ?side1 ?side2 jM.out).mono ?_); (case side1 => exact IsS157.s); (case side2 => exact IsS157.B); rintro e jX ⟨rfl, hi, hb, hk⟩; refine ⟨_, rfl, ?_⟩; replace HK := xhk HK hk; replace HB := aM (hb); replace HI0 := aM (hi); (try clear hb hk hi)) | ((with_reducible refine gC 154 rfl ?_); refine goesLY (some 24) rfl Try.func154 #[.pointer (some ⟨g, 0, none⟩)] ?_; (with_reducible refine (spec_l1Byte.calls g s0_0 eP eQ gO gP gQ w0 _ ?side1 ?side2 jN.out).mono ?_); (case side1 => exact IsS157.s); (case side2 => exact IsS157.B); rintro e jY ⟨rfl, hi, hb, hk⟩; refine ⟨_, rfl, ?_⟩; replace HK := xhk HK hk; replace HB := aM (hb); replace HI0 := aM (hi); (try clear hb hk hi)))
    go_ret
    exact ⟨xerr, IsS157.s, IsS157.B, xK⟩

/-! ### spec_l1DrawBytes: function 104 -/
def spec_l1DrawBytes.l0 : Nat → List Int → Int → Int → List Int → Int → Int → Option (List Int × Int × Int)
 | 0, _, _, _, _, _, _ => none
 | k + 1, x5, x6, x7, dF, dG, dH => if x7 < x6 then ((spec_l1Byte.f dF dG dH).bind fun cK => (if x5.length < 140737488355328 then (spec_l1DrawBytes.l0 k (x5 ++ [(cK.1) % 256]) x6 (wrap64 (x7 + 1)) dF cK.2.1 cK.2.2) else (none))) else (some (x5, dG, dH))
def spec_l1DrawBytes.f (k : Nat) (s0_0 : List Int) (s0_1 : Int) (s0_2 : Int) (a1 : Int) : Option (List Int × Int × Int) := (spec_l1Below.f s0_0 s0_1 s0_2 (wrap64 (a1 + 1))).bind fun aH => (spec_l1DrawBytes.l0 k (([] : List Int)) aH.1 0 s0_0 aH.2.1 aH.2.2)
theorem u2_mq3 {p : Prop} (h : p := by repeat' first | (with_reducible first | exact dA _ _ _ _ _ _ | exact LeO.refl _ | exact LeO.none _ | refine LeO.ite ?_ ?_ | refine LeO.bind ?_ (fun _ => ?_)) | exact LeO.none _ | refine LeO.ite ?_ ?_ | refine LeO.bind ?_ (fun _ => ?_)) : p := h
set_option maxRecDepth 100000 in
theorem spec_l1DrawBytes.mono_l : ∀ k, (∀ y0 y1 y2 y3 y4 y5, LeO (spec_l1DrawBytes.l0 k y0 y1 y2 y3 y4 y5) (spec_l1DrawBytes.l0 (k + 1) y0 y1 y2 y3 y4 y5))
 | 0 => fun _ _ _ _ _ _ r h => by simp [spec_l1DrawBytes.l0] at h
 | k + 1 => by
  have dA := spec_l1DrawBytes.mono_l k
  ·intro y0 y1 y2 y3 y4 y5; unfold spec_l1DrawBytes.l0; exact u2_mq3
theorem spec_l1DrawBytes.mono : ∀ a0 a1 a2 a3 k, LeO (spec_l1DrawBytes.f k a0 a1 a2 a3) (spec_l1DrawBytes.f (k + 1) a0 a1 a2 a3) := by
 intro a0 a1 a2 a3 k
 have dA := spec_l1DrawBytes.mono_l k
 unfold spec_l1DrawBytes.f
 exact u2_mq3
set_option maxHeartbeats 8000000 in
set_option maxRecDepth 100000 in
theorem spec_l1DrawBytes.calls (k : Nat) (g : Nat) (s0_0 : List Int) (s0_1 : Int) (s0_2 : Int) (a1 : Int) (r1 : List Int) (r2 : Int) (r3 : Int) (w0 w : World) (hI : IsS157 w0 w g s0_0 s0_1 s0_2) (hB : Below w0.heap.size w0 w) (h : spec_l1DrawBytes.f k s0_0 s0_1 s0_2 a1 = some (r1, r2, r3)) :
 Calls Try.prog 104 #[.pointer (some ⟨g, 0, none⟩), .int .i64 a1] w fun e w' => ∃ v0_ : Value, e = .returned (v0_) ∧ Kd.R (Kd.int .u8) 5 w' w.heap.size (fun _ => True) v0_ r1 ∧ IsS157 w0 w' g s0_0 r2 r3 ∧ Below w0.heap.size w0 w' ∧ KeepBut w w' g none := by
 have HI0 := aM hI
 have HK := aM (KeepBut.refl w g none)
 have HL := aM hB.size
 clear hI
 have HW0 := aM hB.size
 have HB := aM hB
 clear hB
 have H : ((spec_l1Below.f s0_0 s0_1 s0_2 (wrap64 (a1 + 1))).bind fun aH => (spec_l1DrawBytes.l0 k (([] : List Int)) aH.1 0 s0_0 aH.2.1 aH.2.2)) = some (r1, r2, r3) := h
 clear h
 obtain ⟨eT, hY⟩ : ∃ y_ : List Int, y_ = (([] : List Int)) := ⟨_, rfl⟩
 replace H : ((spec_l1Below.f s0_0 s0_1 s0_2 (wrap64 (a1 + 1))).bind fun aH => (spec_l1DrawBytes.l0 k eT aH.1 0 s0_0 aH.2.1 aH.2.2)) = some (r1, r2, r3) := u2_2
 have dI := aM hY
 clear hY
 replace H := oB H
 obtain ⟨⟨cE, eU, eV⟩, cI, H⟩ := H
 (try dsimp only at H)
 have A3 := aM cI
 clear cI
 have H' := aM H
 clear H
 go_enter Try.func104, Try.ntmps104
 go_wp2_with (first | ((with_reducible refine gD 8 rfl ?_); refine Kd.R_lit (Kd.int .u8) _ 5 ?hg (N := 8) ?hd (xs := ([] : List Int)) (inner := []) (ok := fun _ => True) (okp := fun _ => True) ?hr ?hp (fun _ hk => hk) trivial (Below.refl _ _) (Nat.le_refl _) (by simp) ?_; (case hd => rfl); (case hg => rfl); (case hr => exact u2_5); (case hp => exact (Reps.none _ _)); intro v138 w4 eW hb hg_ hnew_; clear hg_ hnew_; (first | rw [← dI.out] at eW | (simp only [Int.reduceToNat] at eW; rw [← dI.out] at eW)); have cL := aM (Kd.R_lower eW (keep_size (w := w) (g := g) (row := none) xK)); replace HK := xhb HK hb; replace HB := IsS157.Bb HB hb; replace HI0 := IsS157.bl HI0 hb; clear hb eW) | ((with_reducible refine gC 108 rfl ?_); refine goesLY (some 12) rfl Try.func108 #[.pointer (some ⟨g, 0, none⟩), .int .i64 (wrap64 (a1 + 1))] ?_; (with_reducible refine (spec_l1Below.calls g s0_0 s0_1 s0_2 (wrap64 (a1 + 1)) cE eU eV w0 _ ?side1 ?side2 A3.out).mono ?_); (case side1 => exact IsS157.s); (case side2 => exact IsS157.B); rintro e w6 ⟨rfl, hi, hb, hk⟩; refine ⟨_, rfl, ?_⟩; replace cL := IsS157.rk HI0 hk (xr cL); replace HK := xhk HK hk; replace HB := aM (hb); replace HI0 := aM (hi); (try clear hb hk hi)))
 go_loopg [5, 7] k (fun kq v5 v7 w' => ∃ (cF : List Int) (bK : Int) (aU : Int) (aV : Int), v7 = .int .i64 bK ∧ Aside0 (spec_l1DrawBytes.l0 kq cF cE bK s0_0 aU aV = some (r1, r2, r3)) ∧ Aside0 (kq ≤ k) ∧ Aside0 (Kd.R (Kd.int .u8) 5 w' w.heap.size (fun _ => True) v5 cF) ∧ Aside0 (IsS157 w0 w' g s0_0 aU aV) ∧ Aside0 (KeepBut w w' g none) ∧ Aside0 (Below w0.heap.size w0 w'))
 case atStart => exact ⟨(eT), (0), (eU), (eV), u2_1, H', ⟨Nat.le_refl _⟩, ⟨by (with_reducible repeat (first | apply Kd.R_alloc | apply Kd.R_drewN | apply Kd.R_drew)); exact cL.out⟩, ⟨IsS157.s⟩, ⟨xK⟩, ⟨IsS157.B⟩⟩
 case round =>
  clear H'; try clear c1
  try clear p2
  try clear p6
  obtain ⟨cF, bK, aU, aV, rfl, HA, HK1, bR, HI0, HK, HB⟩ := hrel; cases gk with
  | zero => exact absurd HA.out (by simp [spec_l1DrawBytes.l0])
  | succ k1 =>
   have H := HA.out; clear HA; simp only [spec_l1DrawBytes.l0] at H; by_cases c7 : bK < cE
   ·rw [if_pos c7] at H; have dN : decide (bK < cE) = true := decide_eq_true c7; clear c7; replace H := oB H; obtain ⟨⟨cY, dP, dQ⟩, eM, H⟩ := H; (try dsimp only at H); have A8 := aM eM; clear eM
    by_cases c9 : cF.length < 140737488355328
    ·rw [if_pos c9] at H; have LMc9 := aM c9; clear c9; obtain ⟨eX, hY⟩ : ∃ y_ : List Int, y_ = (cF ++ [(cY) % 256]) := ⟨_, rfl⟩; replace H : (spec_l1DrawBytes.l0 k1 eX cE (wrap64 (bK + 1)) s0_0 dP dQ) = some (r1, r2, r3) := u2_2; have eY := aM hY; clear hY; have H' := aM H; clear H; go_wp2_with (first | ((with_reducible refine gC 154 rfl ?_); refine goesLY (some 20) rfl Try.func154 #[.pointer (some ⟨g, 0, none⟩)] ?_; (with_reducible refine (spec_l1Byte.calls g s0_0 aU aV cY dP dQ w0 _ ?side1 ?side2 A8.out).mono ?_); (case side1 => exact IsS157.s); (case side2 => exact IsS157.B); rintro e iL ⟨rfl, hi, hb, hk⟩; refine ⟨_, rfl, ?_⟩; replace bR := IsS157.rk HI0 hk (xr bR); replace HK := xhk HK hk; replace HB := aM (hb); replace HI0 := aM (hi); (try clear hb hk hi)) | ((with_reducible refine gate_builtin (b := .append) (xs := #[.tmp 18, .tmp 22]) rfl ?_); at_builtin; refine Kd.R_append (Kd.int .u8) w.heap.size rfl (.tmp 18) (.tmp 22) 22 5 (.int .u8 0) 1 rfl Try.underlying22 info5 rfl (by decide) (by omega) u5 cF ((cY) % 256) [.int .u8 ((cY) % 256)] (fun _ => True) (fun _ => False) rfl rfl ?aP (fun _ hk => hk.elim) ?aF ?aO (Below.refl _ _) ?aS ?aL ?_; (case aP => exact rfl); (case aF => exact (fun _ _ => trivial)); (case aO => exact (xr bR)); (case aS => exact (keep_size (w := w) (g := g) (row := none) xK)); (case aL => have := LMc9.out; omega); intro v147 jZ ho hb hg hat; rw [← eY.out] at ho; replace HB := aM (below_weaken IsS157.B HL.out hb); replace HI0 := aM (IsS157.grown IsS157.s hg (IsS157.own_ne HI0.out bR.out (by decide))); replace HK := aM (KeepBut.trans xK (KeepBut.of_grown hg g) (Kd.R_base2 bR.out)); have eZ := aM (ho); clear bR; clear ho hb hg hat))
     go_roundg k1
     case measure => have := HK1.out; omega
     case rel => exact ⟨(eX), (wrap64 (bK + 1)), (dP), (dQ), u2_1, H', ⟨by have := HK1.out; omega⟩, ⟨by (with_reducible repeat (first | apply Kd.R_alloc | apply Kd.R_drewN | apply Kd.R_drew)); exact eZ.out⟩, ⟨IsS157.s⟩, ⟨xK⟩, ⟨IsS157.B⟩⟩
    ·rw [if_neg c9] at H; exact absurd H (by simp)
   ·rw [if_neg c7] at H; have dN : decide (bK < cE) = false := decide_eq_false c7; clear c7; simp only [Option.some.injEq, Prod.mk.injEq] at H; obtain ⟨rfl, rfl, rfl⟩ := H; go_wp2; go_ret
    exact ⟨_, xerr, by (with_reducible repeat (first | apply Kd.R_alloc | apply Kd.R_drewN | apply Kd.R_drew)); exact bR.out, IsS157.s, IsS157.B, xK⟩

/-! ### spec_l1Size: function 105 -/
def spec_l1Size.f (l0 : List Int) (a1 : Int) : Option (Int) := if (wrap64 (2 + (wrap64 ((l0.length : Int) / 20)))) > a1 then (some a1) else (some (wrap64 (2 + (wrap64 ((l0.length : Int) / 20)))))
set_option maxHeartbeats 8000000 in
set_option maxRecDepth 100000 in
theorem spec_l1Size.calls (A0 : Option Addr) (c0 : Nat) (l0 : List Int) (a1 : Int) (r : Int) (w : World) (aG : Kd.C (Kd.int .u8) w A0 l0.length l0) (bV : l0.length ≤ c0) (h : spec_l1Size.f l0 a1 = some r) :
 Calls Try.prog 105 #[.slice A0 l0.length c0, .int .i64 a1] w fun e w' => e = .returned (.int .i64 r) ∧ Drawn0 w w' := by
 have cB := aM aG
 have cW := aM bV
 clear aG bV
 have H : (if (wrap64 (2 + (wrap64 ((l0.length : Int) / 20)))) > a1 then (some a1) else (some (wrap64 (2 + (wrap64 ((l0.length : Int) / 20)))))) = some r := h
 clear h
 by_cases c3 : (wrap64 (2 + (wrap64 ((l0.length : Int) / 20)))) > a1
 ·rw [if_pos c3] at H; have cD : decide (a1 < (wrap64 (2 + (wrap64 ((l0.length : Int) / 20))))) = true := decide_eq_true c3; clear c3; obtain rfl := Option.some.inj H; go_enter Try.func105, Try.ntmps105
  go_wp2; go_ret
  exact ⟨u2_1, by repeat (first | exact Drawn0.refl _ | apply Drawn0.step)⟩
 ·rw [if_neg c3] at H; have cD : decide (a1 < (wrap64 (2 + (wrap64 ((l0.length : Int) / 20))))) = false := decide_eq_false c3; clear c3; obtain rfl := Option.some.inj H; go_enter Try.func105, Try.ntmps105
  go_wp2; go_ret
  exact ⟨u2_1, by repeat (first | exact Drawn0.refl _ | apply Drawn0.step)⟩

/-! ### spec_l1PickInt: function 153 -/
def spec_l1PickInt.f (s0_0 : List Int) (s0_1 : Int) (s0_2 : Int) (l1 : List Int) : Option (Int × Int × Int) := (spec_l1Below.f s0_0 s0_1 s0_2 (l1.length : Int)).bind fun aI => (if 0 ≤ aI.1 then (if aI.1 < (l1.length : Int) then (some (rd l1 aI.1, aI.2.1, aI.2.2)) else (none)) else (none))
set_option maxHeartbeats 8000000 in
set_option maxRecDepth 100000 in
theorem spec_l1PickInt.calls (g : Nat) (s0_0 : List Int) (s0_1 : Int) (s0_2 : Int) (A1 : Option Addr) (c1 : Nat) (l1 : List Int) (r1 : Int) (r2 : Int) (r3 : Int) (w0 w : World) (hI : IsS157 w0 w g s0_0 s0_1 s0_2) (hB : Below w0.heap.size w0 w) (iV : Kd.C (Kd.int .i64) w A1 l1.length l1) (iW : l1.length ≤ c1) (gS : ∀ ad, A1 = some ad → 0 < l1.length → ad.block ≠ g) (h : spec_l1PickInt.f s0_0 s0_1 s0_2 l1 = some (r1, r2, r3)) :
 Calls Try.prog 153 #[.pointer (some ⟨g, 0, none⟩), .slice A1 l1.length c1] w fun e w' => e = .returned (.int .i64 r1) ∧ IsS157 w0 w' g s0_0 r2 r3 ∧ Below w0.heap.size w0 w' ∧ KeepBut w w' g none := by
 have jQ := aM iV
 have kA := aM iW
 clear iV iW
 have HI0 := aM hI
 have HK := aM (KeepBut.refl w g none)
 have HL := aM hB.size
 clear hI
 have HW0 := aM hB.size
 have HB := aM hB
 clear hB
 have H : ((spec_l1Below.f s0_0 s0_1 s0_2 (l1.length : Int)).bind fun aI => (if 0 ≤ aI.1 then (if aI.1 < (l1.length : Int) then (some (rd l1 aI.1, aI.2.1, aI.2.2)) else (none)) else (none))) = some (r1, r2, r3) := h
 clear h
 replace H := oB H
 obtain ⟨⟨bL, gT, gU⟩, cI, H⟩ := H
 (try dsimp only at H)
 have A3 := aM cI
 clear cI
 by_cases c4 : 0 ≤ bL
 ·rw [if_pos c4] at H; have cJ : decide (0 ≤ bL) = true := decide_eq_true c4; clear c4; by_cases c5 : bL < (l1.length : Int)
  ·rw [if_pos c5] at H; have dX : decide (bL < (l1.length : Int)) = true := decide_eq_true c5; clear c5; simp only [Option.some.injEq, Prod.mk.injEq] at H; obtain ⟨rfl, rfl, rfl⟩ := H; go_enter Try.func153, Try.ntmps153
   go_wp2_with (first | ((with_reducible refine gC 108 rfl ?_); refine goesLY (some 9) rfl Try.func108 #[.pointer (some ⟨g, 0, none⟩), .int .i64 (l1.length : Int)] ?_; (with_reducible refine (spec_l1Below.calls g s0_0 s0_1 s0_2 (l1.length : Int) bL gT gU w0 _ ?side1 ?side2 A3.out).mono ?_); (case side1 => exact IsS157.s); (case side2 => exact IsS157.B); rintro e w6 ⟨rfl, hi, hb, hk⟩; refine ⟨_, rfl, ?_⟩; replace HK := xhk HK hk; replace HB := aM (hb); replace HI0 := aM (hi); (try clear hb hk hi); have p152 : 0 ≤ (bL : Int) := oda; have q152 : bL < (l1.length : Int) := oda; obtain ⟨fA, gV, cA⟩ := Kd.at_int jQ.out bL p152 q152; cases gV; replace cA := keep_cell HK.out cA (by first | (rw [add_block]; exact gS _ rfl (by omega)) | exact gS _ rfl (by omega) | exact gS fA rfl (by omega)); replace p152 := eq_true p152; replace q152 := eq_true q152))
   go_ret
   exact ⟨xerr, IsS157.s, IsS157.B, xK⟩
  ·rw [if_neg c5] at H; exact absurd H (by simp)
 ·rw [if_neg c4] at H; exact absurd H (by simp)

/-! ### spec_l2DrawBytes: function 101 -/
def spec_l2DrawBytes.f (k : Nat) (l0 : List Int) : Option (List Int) := (spec_l1New.f k l0).bind fun aE => ((spec_l1Below.f aE.1 aE.2.1 aE.2.2 12).bind fun aC => (if aC.1 = 0 then ((spec_l1PickInt.f aE.1 aC.2.1 aC.2.2 (([54, 55, 56, 63, 64, 65, 119, 120] : List Int))).bind fun aJ => (if 0 ≤ aJ.1 then (if (aJ.1 : Int).toNat ≤ 281474976710656 then (some (List.replicate (aJ.1 : Int).toNat 0)) else (none)) else (none))) else (if aC.1 = 1 then ((spec_l1Below.f aE.1 aC.2.1 aC.2.2 2).bind fun bB => (if 0 ≤ (wrap64 (4000 + bB.1)) then (if (wrap64 (4000 + bB.1) : Int).toNat ≤ 281474976710656 then (some (List.replicate (wrap64 (4000 + bB.1) : Int).toNat 0)) else (none)) else (none))) else ((spec_l1Size.f l0 130).bind fun bU => ((spec_l1DrawBytes.f k aE.1 aC.2.1 aC.2.2 bU).bind fun cM => (some cM.1))))))
theorem u2_mq4 {p : Prop} (h : p := by repeat' first | (with_reducible first | exact spec_l1DrawBytes.mono _ _ _ _ _ | exact spec_l1New.mono _ _ | exact LeO.refl _ | exact LeO.none _ | refine LeO.ite ?_ ?_ | refine LeO.bind ?_ (fun _ => ?_)) | exact LeO.none _ | refine LeO.ite ?_ ?_ | refine LeO.bind ?_ (fun _ => ?_)) : p := h
theorem spec_l2DrawBytes.mono : ∀ a0 k, LeO (spec_l2DrawBytes.f k a0) (spec_l2DrawBytes.f (k + 1) a0) := by
 intro a0 k
 unfold spec_l2DrawBytes.f
 exact u2_mq4
set_option maxHeartbeats 8000000 in
set_option maxRecDepth 100000 in
theorem spec_l2DrawBytes.calls (k : Nat) (A0 : Option Addr) (c0 : Nat) (l0 : List Int) (r : List Int) (w : World) (aG : Kd.C (Kd.int .u8) w A0 l0.length l0) (bV : l0.length ≤ c0) (h : spec_l2DrawBytes.f k l0 = some r) :
 Calls Try.prog 101 #[.slice A0 l0.length c0] w fun e w' => ∃ v0_ : Value, e = .returned (v0_) ∧ Kd.R (Kd.int .u8) 5 w' w.heap.size (fun _ => True) v0_ r ∧ Below w.heap.size w w' := by
 have cB := aM aG
 have cW := aM bV
 clear aG bV
 have HB := aM (Below.refl w.heap.size w)
 have H : ((spec_l1New.f k l0).bind fun aE => ((spec_l1Below.f aE.1 aE.2.1 aE.2.2 12).bind fun aC => (if aC.1 = 0 then ((spec_l1PickInt.f aE.1 aC.2.1 aC.2.2 (([54, 55, 56, 63, 64, 65, 119, 120] : List Int))).bind fun aJ => (if 0 ≤ aJ.1 then (if (aJ.1 : Int).toNat ≤ 281474976710656 then (some (List.replicate (aJ.1 : Int).toNat 0)) else (none)) else (none))) else (if aC.1 = 1 then ((spec_l1Below.f aE.1 aC.2.1 aC.2.2 2).bind fun bB => (if 0 ≤ (wrap64 (4000 + bB.1)) then (if (wrap64 (4000 + bB.1) : Int).toNat ≤ 281474976710656 then (some (List.replicate (wrap64 (4000 + bB.1) : Int).toNat 0)) else (none)) else (none))) else ((spec_l1Size.f l0 130).bind fun bU => ((spec_l1DrawBytes.f k aE.1 aC.2.1 aC.2.2 bU).bind fun cM => (some cM.1))))))) = some r := h
 clear h
 replace H := oB H
 obtain ⟨⟨bC, cG, cH⟩, fB, H⟩ := H
 (try dsimp only at H)
 have A2 := aM fB
 clear fB
 replace H := oB H
 obtain ⟨⟨cN, bM, bN⟩, cI, H⟩ := H
 (try dsimp only at H)
 have A3 := aM cI
 clear cI
 by_cases c4 : cN = 0
 ·rw [if_pos c4] at H; obtain ⟨cJ, gW⟩ := bT c4; clear c4; obtain ⟨dR, hY⟩ : ∃ y_ : List Int, y_ = (([54, 55, 56, 63, 64, 65, 119, 120] : List Int)) := ⟨_, rfl⟩; replace H : ((spec_l1PickInt.f bC bM bN dR).bind fun aJ => (if 0 ≤ aJ.1 then (if (aJ.1 : Int).toNat ≤ 281474976710656 then (some (List.replicate (aJ.1 : Int).toNat 0)) else (none)) else (none))) = some r := u2_2; have dJ := aM hY; clear hY; replace H := oB H; obtain ⟨⟨bO, gX, gY⟩, eJ, H⟩ := H; (try dsimp only at H); have A5 := aM eJ; clear eJ
  by_cases c6 : 0 ≤ bO
  ·rw [if_pos c6] at H; have dY := eq_true c6; have gK : decide (0 ≤ bO) = true := decide_eq_true c6; clear c6; by_cases c7 : (bO : Int).toNat ≤ 281474976710656
   ·rw [if_pos c7] at H; have dN := eq_true c7; have jR : decide ((bO : Int).toNat ≤ 281474976710656) = true := decide_eq_true c7; clear c7; obtain ⟨gZ, hY⟩ : ∃ y_ : List Int, y_ = (List.replicate (bO : Int).toNat 0) := ⟨_, rfl⟩; replace H : (some gZ) = some r := u2_2; have dK := aM hY; clear hY; obtain rfl := Option.some.inj H; go_enter Try.func101, Try.ntmps101
    go_wp2_with (first | ((with_reducible refine gC 103 rfl ?_); refine goesLY (some 5) rfl Try.func103 #[.slice A0 l0.length c0] ?_; (with_reducible refine (spec_l1New.calls k _ _ l0 bC cG cH w _ ?side1 ?side2 ?side3 A2.out).mono ?_); (case side1 => exact xbg); (case side2 => exact cB.out); (case side3 => exact cW.out); rintro e w8 ⟨g156, rfl, hi, hb, cV⟩; refine ⟨_, rfl, ?_⟩; replace HB := aM (hb); have HI156 := aM (hi); (try clear hb cV hi)) | ((with_reducible refine gC 108 rfl ?_); refine goesLY (some 7) rfl Try.func108 #[.pointer (some ⟨g156, 0, none⟩), .int .i64 12] ?_; (with_reducible refine (spec_l1Below.calls g156 bC cG cH 12 cN bM bN w _ ?side1 ?side2 A3.out).mono ?_); (case side1 => exact u2_3); (case side2 => exact u2_0); rintro e w9 ⟨rfl, hi, hb, hk⟩; refine ⟨_, rfl, ?_⟩; replace HB := aM (hb); replace HI156 := aM (hi); (try clear hb hk hi)) | ((with_reducible refine gD 11 rfl ?_); refine Kd.R_lit (Kd.int .i64) _ 3 ?hg (N := 11) ?hd (xs := ([54, 55, 56, 63, 64, 65, 119, 120] : List Int)) (inner := [.int .i64 54, .int .i64 55, .int .i64 56, .int .i64 63, .int .i64 64, .int .i64 65, .int .i64 119, .int .i64 120]) (ok := fun _ => True) (okp := fun _ => True) ?hr ?hp (fun _ hk => hk) trivial (Below.refl _ _) (Nat.le_refl _) (by simp) ?_; (case hd => rfl); (case hg => rfl); (case hr => exact u2_5); (case hp => exact (Reps.one (show Kd.M (Kd.int .i64) _ _ _ 54 [.int .i64 54] from rfl) (Reps.one (show Kd.M (Kd.int .i64) _ _ _ 55 [.int .i64 55] from rfl) (Reps.one (show Kd.M (Kd.int .i64) _ _ _ 56 [.int .i64 56] from rfl) (Reps.one (show Kd.M (Kd.int .i64) _ _ _ 63 [.int .i64 63] from rfl) (Reps.one (show Kd.M (Kd.int .i64) _ _ _ 64 [.int .i64 64] from rfl) (Reps.one (show Kd.M (Kd.int .i64) _ _ _ 65 [.int .i64 65] from rfl) (Reps.one (show Kd.M (Kd.int .i64) _ _ _ 119 [.int .i64 119] from rfl) (Reps.one (show Kd.M (Kd.int .i64) _ _ _ 120 [.int .i64 120] from rfl) (Reps.none _ _)))))))))); intro v161 iL cO hb hg_ hnew_; clear hg_ hnew_; (first | rw [← dJ.out] at cO | (simp only [Int.reduceToNat] at cO; rw [← dJ.out] at cO)); have aT := aM (Kd.R_lower cO (below_size u2_0)); replace HB := aM (below_step u2_0 hb); replace HI156 := aM (IsS157.below u2_3 hb); clear hb cO; obtain ⟨hJ, hU, hX⟩ := Kd.R_slice aT.out; subst hX) | ((with_reducible refine gC 153 rfl ?_); refine goesLY (some 12) rfl Try.func153 #[.pointer (some ⟨g156, 0, none⟩), .slice hJ dR.length hU] ?_; (with_reducible refine (spec_l1PickInt.calls g156 bC bM bN _ _ dR bO gX gY w _ ?side1 ?side2 ?side3 ?side4 ?side5 A5.out).mono ?_); (case side1 => exact u2_3); (case side2 => exact u2_0); (case side3 => exact xC aT); (case side4 => exact (Kd.R_reads' aT.out).2.1); (case side5 => exact far_slice (IsS157.own_ne HI156.out aT.out (by decide))); rintro e jO ⟨rfl, hi, hb, hk⟩; refine ⟨_, rfl, ?_⟩; replace aT := aM (Kd.R_mono (Kd.R_keep (IsS157.apart (show IsS157 w _ g156 bC bM bN from by repeat (first | (with_reducible first | exact HI156.out | apply IsS157.alloc | apply IsS157.drewN | apply IsS157.drew | apply IsS157.set_1 | apply IsS157.set_2) | exact HI156.out)) (xr aT) (by decide)) hk (fun _ h => h.2)) (fun _ h => h.1)); replace HB := aM (hb); replace HI156 := aM (hi); (try clear hb hk hi)) | ((with_reducible refine gD 13 rfl ?_); refine Kd.R_make (Kd.int .u8) _ 5 rfl (N := 13) rfl 22 _ _ rfl bO rfl rfl Try.underlying22 (.int .u8 0) 1 info5 rfl (by decide) (by omega) 0 (ok := fun _ => True) (okp := fun _ => True) rfl (fun _ hk => hk) trivial (oda) (Nat.le_trans (Nat.mul_le_mul_right _ (oda : bO.toNat ≤ 281474976710656)) (by omega)) (Below.refl _ _) (Nat.le_refl _) ?_; intro v167 jP cP hb hg_ hnew_; clear hg_ hnew_; (first | rw [← dK.out] at cP | (simp only [Int.reduceToNat] at cP; rw [← dK.out] at cP)); replace aT := xrb aT hb; have fC := aM (Kd.R_lower cP (below_size u2_0)); replace HB := aM (below_step u2_0 hb); replace HI156 := aM (IsS157.below u2_3 hb); clear hb cP))
    go_ret
    exact ⟨_, by first | rfl | (simp [errW_none, errW_some] <;> rfl) | (simp [*, errW_none, errW_some] <;> rfl), by (with_reducible repeat (first | apply Kd.R_alloc | apply Kd.R_drewN | apply Kd.R_drew)); exact fC.out, u2_0⟩
   ·rw [if_neg c7] at H; exact absurd H (by simp)
  ·rw [if_neg c6] at H; exact absurd H (by simp)
 ·rw [if_neg c4] at H; obtain ⟨cJ, gW⟩ := bF c4; by_cases cU : cN = 1
  ·rw [if_pos cU] at H; obtain ⟨fD, fE⟩ := bT cU; clear cU; replace H := oB H; obtain ⟨⟨dS, hZ, iA⟩, fF, H⟩ := H; (try dsimp only at H); have iX := aM fF; clear fF
   obtain ⟨ji18, hji18⟩ : ∃ j_ : Int, (wrap64 (4000 + dS)) = j_ := ⟨_, rfl⟩; replace H : (if 0 ≤ (ji18) then (if (ji18 : Int).toNat ≤ 281474976710656 then (some (List.replicate (ji18 : Int).toNat 0)) else (none)) else (none)) = some r := by first | (rw [hji18] at H; exact H) | (simp only [hji18] at H ⊢; exact H)
   (try rw [hji18] at A2); (try rw [hji18] at A3); (try rw [hji18] at iX); have hji18w : (IntKind.i64.wrap (4000 + dS)) = ji18 := (i64_w _).trans hji18; by_cases fG : 0 ≤ (ji18)
   ·rw [if_pos fG] at H; have iY := eq_true fG; have iZ : decide (0 ≤ (ji18)) = true := decide_eq_true fG; clear fG; by_cases fH : (ji18 : Int).toNat ≤ 281474976710656
    ·rw [if_pos fH] at H; have jA := eq_true fH; have jB : decide ((ji18 : Int).toNat ≤ 281474976710656) = true := decide_eq_true fH; clear fH; obtain ⟨iB, hY⟩ : ∃ y_ : List Int, y_ = (List.replicate (ji18 : Int).toNat 0) := ⟨_, rfl⟩; replace H : (some iB) = some r := u2_2; have dL := aM hY; clear hY; obtain rfl := Option.some.inj H; go_enter Try.func101, Try.ntmps101
     go_wp2_with (first | ((with_reducible refine gC 103 rfl ?_); refine goesLY (some 5) rfl Try.func103 #[.slice A0 l0.length c0] ?_; (with_reducible refine (spec_l1New.calls k _ _ l0 bC cG cH w _ ?side1 ?side2 ?side3 A2.out).mono ?_); (case side1 => exact xbg); (case side2 => exact cB.out); (case side3 => exact cW.out); rintro e kB ⟨g156, rfl, hi, hb, cV⟩; refine ⟨_, rfl, ?_⟩; replace HB := aM (hb); have HI156 := aM (hi); (try clear hb cV hi)) | ((with_reducible refine gC 108 rfl ?_); refine goesLY (some 7) rfl Try.func108 #[.pointer (some ⟨g156, 0, none⟩), .int .i64 12] ?_; (with_reducible refine (spec_l1Below.calls g156 bC cG cH 12 cN bM bN w _ ?side1 ?side2 A3.out).mono ?_); (case side1 => exact u2_3); (case side2 => exact u2_0); rintro e kC ⟨rfl, hi, hb, hk⟩; refine ⟨_, rfl, ?_⟩; replace HB := aM (hb); replace HI156 := aM (hi); (try clear hb hk hi)) | ((with_reducible refine gC 108 rfl ?_); refine goesLY (some 17) rfl Try.func108 #[.pointer (some ⟨g156, 0, none⟩), .int .i64 2] ?_; (with_reducible refine (spec_l1Below.calls g156 bC bM bN 2 dS hZ iA w _ ?side1 ?side2 iX.out).mono ?_); (case side1 => exact u2_3); (case side2 => exact u2_0); rintro e kE ⟨rfl, hi, hb, hk⟩; refine ⟨_, rfl, ?_⟩; replace HB := aM (hb); replace HI156 := aM (hi); (try clear hb hk hi)) | ((with_reducible refine gD 19 rfl ?_); refine Kd.R_make (Kd.int .u8) _ 5 rfl (N := 19) rfl 22 _ _ rfl ji18 rfl rfl Try.underlying22 (.int .u8 0) 1 info5 rfl (by decide) (by omega) 0 (ok := fun _ => True) (okp := fun _ => True) rfl (fun _ hk => hk) trivial (oda) (Nat.le_trans (Nat.mul_le_mul_right _ (oda : ji18.toNat ≤ 281474976710656)) (by omega)) (Below.refl _ _) (Nat.le_refl _) ?_; intro v173 kF cQ hb hg_ hnew_; clear hg_ hnew_; (first | rw [← dL.out] at cQ | (simp only [Int.reduceToNat] at cQ; rw [← dL.out] at cQ)); have fI := aM (Kd.R_lower cQ (below_size u2_0)); replace HB := aM (below_step u2_0 hb); replace HI156 := aM (IsS157.below u2_3 hb); clear hb cQ))
     go_ret
     exact ⟨_, by first | rfl | (simp [errW_none, errW_some] <;> rfl) | (simp only [← hji18]; first | rfl | (simp [errW_none, errW_some] <;> rfl)) | (simp [*, errW_none, errW_some] <;> rfl), by (with_reducible repeat (first | apply Kd.R_alloc | apply Kd.R_drewN | apply Kd.R_drew)); exact fI.out, u2_0⟩
    ·rw [if_neg fH] at H; exact absurd H (by simp)
   ·rw [if_neg fG] at H; exact absurd H (by simp)
  ·rw [if_neg cU] at H; obtain ⟨fD, fE⟩ := bF cU; replace H := oB H; obtain ⟨bU, fJ, H⟩ := H; (try dsimp only at H); have jS := aM fJ; clear fJ; replace H := oB H
   obtain ⟨⟨iC, iD, iE⟩, fK, H⟩ := H; (try dsimp only at H); have jT := aM fK; clear fK
   obtain rfl := Option.some.inj H; go_enter Try.func101, Try.ntmps101
   go_wp2_with (first | ((with_reducible refine gC 103 rfl ?_); refine goesLY (some 5) rfl Try.func103 #[.slice A0 l0.length c0] ?_; (with_reducible refine (spec_l1New.calls k _ _ l0 bC cG cH w _ ?side1 ?side2 ?side3 A2.out).mono ?_); (case side1 => exact xbg); (case side2 => exact cB.out); (case side3 => exact cW.out); rintro e kG ⟨g156, rfl, hi, hb, cV⟩; refine ⟨_, rfl, ?_⟩; replace HB := aM (hb); have HI156 := aM (hi); (try clear hb cV hi)) | ((with_reducible refine gC 108 rfl ?_); refine goesLY (some 7) rfl Try.func108 #[.pointer (some ⟨g156, 0, none⟩), .int .i64 12] ?_; (with_reducible refine (spec_l1Below.calls g156 bC cG cH 12 cN bM bN w _ ?side1 ?side2 A3.out).mono ?_); (case side1 => exact u2_3); (case side2 => exact u2_0); rintro e kH ⟨rfl, hi, hb, hk⟩; refine ⟨_, rfl, ?_⟩; replace HB := aM (hb); replace HI156 := aM (hi); (try clear hb hk hi)) | ((with_reducible refine gC 105 rfl ?_); refine goesLY (some 22) rfl Try.func105 #[.slice A0 l0.length c0, .int .i64 130] ?_; (with_reducible refine (spec_l1Size.calls _ _ l0 130 bU _ ?side1 ?side2 jS.out).mono ?_); (case side1 => exact xcb cB); (case side2 => exact cW.out); rintro e w' ⟨rfl, ⟨nd, rfl⟩⟩; refine ⟨_, rfl, ?_⟩) | ((with_reducible refine gC 104 rfl ?_); refine goesLY (some 23) rfl Try.func104 #[.pointer (some ⟨g156, 0, none⟩), .int .i64 bU] ?_; (with_reducible refine (spec_l1DrawBytes.calls k g156 bC bM bN bU iC iD iE w _ ?side1 ?side2 jT.out).mono ?_); (case side1 => exact u2_3); (case side2 => exact u2_0); rintro e kI ⟨v177, rfl, cX, hi, hb, hk⟩; refine ⟨_, rfl, ?_⟩; have fL := aM (Kd.R_lower cX (below_size u2_0)); replace HB := aM (hb); replace HI156 := aM (hi); (try clear hb hk hi cX)))
   go_ret
   exact ⟨_, by first | rfl | (simp [errW_none, errW_some] <;> rfl) | (simp [*, errW_none, errW_some] <;> rfl), by (with_reducible repeat (first | apply Kd.R_alloc | apply Kd.R_drewN | apply Kd.R_drew)); exact fL.out, u2_0⟩

/-! ### spec_DrawHexOf: function 40 -/
def spec_DrawHexOf.f (k : Nat) (l0 : List Int) : Option (List Int) := (spec_l2DrawBytes.f k l0).bind fun cS => (some cS)
theorem u2_mq5 {p : Prop} (h : p := by repeat' first | (with_reducible first | exact spec_l2DrawBytes.mono _ _ | exact LeO.refl _ | exact LeO.none _ | refine LeO.ite ?_ ?_ | refine LeO.bind ?_ (fun _ => ?_)) | exact LeO.none _ | refine LeO.ite ?_ ?_ | refine LeO.bind ?_ (fun _ => ?_)) : p := h
theorem spec_DrawHexOf.mono : ∀ a0 k, LeO (spec_DrawHexOf.f k a0) (spec_DrawHexOf.f (k + 1) a0) := by
 intro a0 k
 unfold spec_DrawHexOf.f
 exact u2_mq5
set_option maxHeartbeats 8000000 in
set_option maxRecDepth 100000 in
theorem spec_DrawHexOf.calls (k : Nat) (A0 : Option Addr) (c0 : Nat) (l0 : List Int) (r : List Int) (w : World) (aG : Kd.C (Kd.int .u8) w A0 l0.length l0) (bV : l0.length ≤ c0) (h : spec_DrawHexOf.f k l0 = some r) :
 Calls Try.prog 40 #[.slice A0 l0.length c0] w fun e w' => ∃ v0_ : Value, e = .returned (v0_) ∧ Kd.R (Kd.int .u8) 5 w' w.heap.size (fun _ => True) v0_ r ∧ Below w.heap.size w w' := by
 have cB := aM aG
 have cW := aM bV
 clear aG bV
 have HB := aM (Below.refl w.heap.size w)
 have H : ((spec_l2DrawBytes.f k l0).bind fun cS => (some cS)) = some r := h
 clear h
 replace H := oB H
 obtain ⟨cS, fB, H⟩ := H
 (try dsimp only at H)
 have A2 := aM fB
 clear fB
 obtain rfl := Option.some.inj H
 go_enter Try.func40, Try.ntmps40
 go_wp2_with (first | ((with_reducible refine gC 101 rfl ?_); refine goesLY (some 5) rfl Try.func101 #[.slice A0 l0.length c0] ?_; (with_reducible refine (spec_l2DrawBytes.calls k _ _ l0 cS _ ?side1 ?side2 A2.out).mono ?_); (case side1 => repeat (first | exact cB.out | (with_reducible refine Kd.C_alloc ?_ _) | (with_reducible refine Kd.C_drewN ?_ _) | (with_reducible refine Kd.C_drew ?_))); (case side2 => exact cW.out); rintro e w3 ⟨v182, rfl, cX, hb⟩; refine ⟨_, rfl, ?_⟩; have fM := aM (Kd.R_lower cX (below_size xbel)); replace HB := xbs hb; (try clear hb cX)))
 go_ret
 exact ⟨_, xerr, by (with_reducible repeat (first | apply Kd.R_alloc | apply Kd.R_drewN | apply Kd.R_drew)); exact fM.out, xbel⟩

end Go.Proofs.Ytoojdlobnbakoaa.QFnHex
