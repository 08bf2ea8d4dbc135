-- A walk, by a program of this session.
import Derived.Test.YtoojdlobnbakoaaQFnExactShaTextx0
import Derived.Test.YtoojdlobnbakoaaQFnExactShaTextx3
import Derived.Test.YtoojdlobnbakoaaQFnExactShaTextx4
namespace Go.Proofs.Ytoojdlobnbakoaa.QFnExactShaText
open Go.RowKit Go.Proofs.YtoojdlobnbakoaaW.PrintWords Go.Proofs.YtoojdlobnbakoaaW.PrintLast Go.Proofs.YtoojdlobnbakoaaW.PrintMore
attribute [local go_sem] max2_int min2_int max_two min_two max_three min_three max_four min_four   -- for this text's walks alone
set_option linter.unusedVariables false
set_option linter.unusedSimpArgs false

theorem u5_0 {p : Prop} (h : p := by first | (rw [hY]; with_reducible exact H) | (have H2_ := oS H; rw [hY]; with_reducible exact H2_) | (have H2_ := oS H; with_reducible exact H2_) | with_reducible exact H | (rw [hY]; exact H) | exact H) : p := h
theorem u5_1 {p : Prop} (h : p := by (with_reducible repeat (first | apply Kd.V_alloc | apply Kd.V_drewN | apply Kd.V_drew)); exact aE.out) : p := h
/-! ### impl_HexOf: function 41 -/
def impl_HexOf.l0 : Nat → List Int → List Int → Int → Int → Option (ByteArray)
 | 0, _, _, _, _ => none
 | k + 1, x3, aX, bZ, aW => if aW < bZ then (if 0 ≤ aW then (if aW < (aX.length : Int) then (if 0 ≤ (IntKind.u8.wrap (Int.tdiv (rd aX aW) 16)) then (if (IntKind.u8.wrap (Int.tdiv (rd aX aW) 16)) < 16 then (if 0 ≤ (Int.tmod (rd aX aW) 16) then (if (Int.tmod (rd aX aW) 16) < 16 then ((some (([bt (⟨#[48, 49, 50, 51, 52, 53, 54, 55, 56, 57, 97, 98, 99, 100, 101, 102]⟩ : ByteArray) (IntKind.u8.wrap (Int.tdiv (rd aX aW) 16)), bt (⟨#[48, 49, 50, 51, 52, 53, 54, 55, 56, 57, 97, 98, 99, 100, 101, 102]⟩ : ByteArray) (Int.tmod (rd aX aW) 16)] : List Int) : List Int)).bind fun aC => (if x3.length + aC.length < 140737488355328 then (impl_HexOf.l0 k (x3 ++ aC) aX bZ (wrap64 (aW + 1))) else (none))) else (none)) else (none)) else (none)) else (none)) else (none)) else (none)) else (some (strOfNums x3))
def impl_HexOf.f (k : Nat) (l0 : List Int) : Option (ByteArray) := if (l0.length : Int) > 4000 then (some (⟨#[]⟩ : ByteArray)) else (impl_HexOf.l0 k (([] : List Int)) l0 (l0.length : Int) 0)
theorem u5_mq0 {p : Prop} (h : p := by repeat' first | (with_reducible first | exact cA _ _ _ _ | exact LeO.refl _ | exact LeO.none _ | refine LeO.ite ?_ ?_ | refine LeO.bind ?_ (fun _ => ?_)) | exact LeO.none _ | refine LeO.ite ?_ ?_ | refine LeO.bind ?_ (fun _ => ?_)) : p := h
set_option maxRecDepth 100000 in
theorem impl_HexOf.mono_l : ∀ k, (∀ y0 y1 y2 y3, LeO (impl_HexOf.l0 k y0 y1 y2 y3) (impl_HexOf.l0 (k + 1) y0 y1 y2 y3))
 | 0 => fun _ _ _ _ r h => by simp [impl_HexOf.l0] at h
 | k + 1 => by
  have cA := impl_HexOf.mono_l k
  ·intro y0 y1 y2 y3; unfold impl_HexOf.l0; exact u5_mq0
theorem impl_HexOf.mono : ∀ a0 k, LeO (impl_HexOf.f k a0) (impl_HexOf.f (k + 1) a0) := by
 intro a0 k
 have cA := impl_HexOf.mono_l k
 unfold impl_HexOf.f
 exact u5_mq0
def impl_HexOf.T7 : Bool × List (List Nat × List Nat) := (true, [([], []), ([], []), ([1], [1]), ([2], [2]), ([], []), ([4], [4]), ([5], [5]), ([3, 6], [3, 6]), ([0, 7], [0, 7]), ([8, 8, 0, 1, 2, 3, 4, 5, 6, 7, 8], [0, 8])])
def impl_HexOf.B7 : List Nat := [0, 0, 2, 6, 0, 16, 48, 126, 255, 511]
set_option maxHeartbeats 8000000 in
set_option maxRecDepth 100000 in
theorem impl_HexOf.calls (k : Nat) (A0 : Option Addr) (c0 : Nat) (l0 : List Int) (r : ByteArray) (w : World) (cB : Kd.C (Kd.int .u8) w A0 l0.length l0) (cC : l0.length ≤ c0) (h : impl_HexOf.f k l0 = some r) :
 Calls Try.prog 41 #[.slice A0 l0.length c0] w fun e w' => e = .returned (.string r) ∧ Below w.heap.size w w' := by
 have cH := aM cB
 have cV := aM cC
 clear cB cC
 have HB := aM (Below.refl w.heap.size w)
 have H : (if (l0.length : Int) > 4000 then (some (⟨#[]⟩ : ByteArray)) else (impl_HexOf.l0 k (([] : List Int)) l0 (l0.length : Int) 0)) = some r := h
 clear h
 by_cases c2 : (l0.length : Int) > 4000
 ·rw [if_pos c2] at H; have aU : decide (4000 < (l0.length : Int)) = true := decide_eq_true c2; have aV : decide (4000 < l0.length) = true := decide_eq_true (by omega); clear c2; obtain rfl := Option.some.inj H; go_enter Try.func41, Try.ntmps41
  go_wp2; go_ret
  exact ⟨xerr, xbel⟩
 ·rw [if_neg c2] at H; have aU : decide (4000 < (l0.length : Int)) = false := decide_eq_false c2; have aV : decide (4000 < l0.length) = false := decide_eq_false (by omega); clear c2; obtain ⟨bE, hY⟩ : ∃ y_ : List Int, y_ = (([] : List Int)) := ⟨_, rfl⟩; replace H : (impl_HexOf.l0 k bE l0 (l0.length : Int) 0) = some r := u5_0; have aY := aM hY; clear hY; have H' := aM H; clear H; go_enter Try.func41, Try.ntmps41
  go_wp2_with (first | ((with_reducible refine gD 9 rfl ?_); refine Kd.R_lit (Kd.int .u8) _ 5 ?hg (N := 9) ?hd (xs := ([] : List Int)) (inner := []) (ok := fun _ => True) (okp := fun _ => True) ?hr ?hp (fun _ hk => hk) trivial (Below.refl _ _) (Nat.le_refl _) (by simp) ?_; (case hd => rfl); (case hg => rfl); (case hr => first | (go_simp; done) | (go_simp; rfl)); (case hp => exact (Reps.none _ _)); intro v237 w3 bG hb hg_ hnew_; clear hg_ hnew_; (first | rw [← aY.out] at bG | (simp only [Int.reduceToNat] at bG; rw [← aY.out] at bG)); have bH := aM (Kd.R_lower bG (below_size xbel)); replace HB := xbs hb; clear hb bG))
  go_loopg [3, 12] k (fun kq v3 v12 w' => ∃ (aD : List Int) (aA : Int), v12 = .int .i64 aA ∧ Aside0 (impl_HexOf.l0 kq aD l0 (l0.length : Int) aA = some r) ∧ Aside0 (kq ≤ k) ∧ Aside0 (Kd.R (Kd.int .u8) 5 w' w.heap.size (fun _ => True) v3 aD) ∧ Aside0 (Below w.heap.size w w'))
  case atStart => exact ⟨(bE), (0), (by first | rfl | (simp; done) | (simp [*]; done)), H', ⟨Nat.le_refl _⟩, ⟨by (with_reducible repeat (first | apply Kd.R_alloc | apply Kd.R_drewN | apply Kd.R_drew)); exact bH.out⟩, ⟨xbel⟩⟩
  case round =>
   clear H'; try clear c2
   try clear aU
   try clear aV
   try clear p2
   try clear c4
   obtain ⟨aD, aA, rfl, HA, HK1, aG, HB⟩ := hrel; cases gk with
   | zero => exact absurd HA.out (by simp [impl_HexOf.l0])
   | succ k1 =>
    have H := HA.out; clear HA; simp only [impl_HexOf.l0] at H; by_cases c5 : aA < (l0.length : Int)
    ·rw [if_pos c5] at H; have bB : decide (aA < (l0.length : Int)) = true := decide_eq_true c5; clear c5; by_cases c6 : 0 ≤ aA
     ·rw [if_pos c6] at H; have cI : decide (0 ≤ aA) = true := decide_eq_true c6; clear c6; by_cases c7 : aA < (l0.length : Int)
      ·rw [if_pos c7] at H; have cJ : decide (aA < (l0.length : Int)) = true := decide_eq_true c7; clear c7; obtain ⟨ji8, hji8⟩ : ∃ j_ : Int, (IntKind.u8.wrap (Int.tdiv (rd l0 aA) 16)) = j_ := ⟨_, rfl⟩; replace H : (if 0 ≤ (ji8) then (if (ji8) < 16 then (if 0 ≤ (Int.tmod (rd l0 aA) 16) then (if (Int.tmod (rd l0 aA) 16) < 16 then ((some (([bt (⟨#[48, 49, 50, 51, 52, 53, 54, 55, 56, 57, 97, 98, 99, 100, 101, 102]⟩ : ByteArray) (ji8), bt (⟨#[48, 49, 50, 51, 52, 53, 54, 55, 56, 57, 97, 98, 99, 100, 101, 102]⟩ : ByteArray) (Int.tmod (rd l0 aA) 16)] : List Int) : List Int)).bind fun aC => (if aD.length + aC.length < 140737488355328 then (impl_HexOf.l0 k1 (aD ++ aC) l0 (l0.length : Int) (wrap64 (aA + 1))) else (none))) else (none)) else (none)) else (none)) else (none)) = some r := by first | (rw [hji8] at H; exact H) | (simp only [hji8] at H ⊢; exact H)
       by_cases c9 : 0 ≤ (ji8)
       ·rw [if_pos c9] at H; have cK : decide (0 ≤ (ji8)) = true := decide_eq_true c9; clear c9; by_cases c10 : (ji8) < 16
        ·rw [if_pos c10] at H; have cD : decide ((ji8) < 16) = true := decide_eq_true c10; clear c10; obtain ⟨ji12, hji12⟩ : ∃ j_ : Int, (Int.tmod (rd l0 aA) 16) = j_ := ⟨_, rfl⟩; replace H : (if 0 ≤ (ji12) then (if (ji12) < 16 then ((some (([bt (⟨#[48, 49, 50, 51, 52, 53, 54, 55, 56, 57, 97, 98, 99, 100, 101, 102]⟩ : ByteArray) (ji8), bt (⟨#[48, 49, 50, 51, 52, 53, 54, 55, 56, 57, 97, 98, 99, 100, 101, 102]⟩ : ByteArray) (ji12)] : List Int) : List Int)).bind fun aC => (if aD.length + aC.length < 140737488355328 then (impl_HexOf.l0 k1 (aD ++ aC) l0 (l0.length : Int) (wrap64 (aA + 1))) else (none))) else (none)) else (none)) = some r := by first | (rw [hji12] at H; exact H) | (simp only [hji12] at H ⊢; exact H)
         by_cases bP : 0 ≤ (ji12)
         ·rw [if_pos bP] at H; have cE : decide (0 ≤ (ji12)) = true := decide_eq_true bP; clear bP; by_cases bQ : (ji12) < 16
          ·rw [if_pos bQ] at H; have cF : decide ((ji12) < 16) = true := decide_eq_true bQ; clear bQ; obtain ⟨aC, hY⟩ : ∃ y_ : List Int, y_ = (([bt (⟨#[48, 49, 50, 51, 52, 53, 54, 55, 56, 57, 97, 98, 99, 100, 101, 102]⟩ : ByteArray) (ji8), bt (⟨#[48, 49, 50, 51, 52, 53, 54, 55, 56, 57, 97, 98, 99, 100, 101, 102]⟩ : ByteArray) (ji12)] : List Int)) := ⟨_, rfl⟩; replace H : (if aD.length + aC.length < 140737488355328 then (impl_HexOf.l0 k1 (aD ++ aC) l0 (l0.length : Int) (wrap64 (aA + 1))) else (none)) = some r := u5_0; have aZ := aM hY; clear hY; by_cases bR : aD.length + aC.length < 140737488355328
           ·rw [if_pos bR] at H; have LMc16 := aM bR; clear bR; obtain ⟨bI, hY⟩ : ∃ y_ : List Int, y_ = (aD ++ aC) := ⟨_, rfl⟩; replace H : (impl_HexOf.l0 k1 bI l0 (l0.length : Int) (wrap64 (aA + 1))) = some r := u5_0; have bJ := aM hY; clear hY; have H' := aM H; clear H; have p239 : 0 ≤ (aA : Int) := oda; have q239 : aA < (l0.length : Int) := oda; obtain ⟨cG, bU, aQ⟩ := Kd.at_int cH.out aA p239 q239; cases bU
            replace aQ := xce HB aQ; replace p239 := eq_true p239; replace q239 := eq_true q239; try go_wp2
            replace aG := rD aG; replace HB := lD HB; have p11 : 0 ≤ ((ji8) : Int) := oda; have q11 : (ji8) < (16 : Int) := oda; have cL := bt_at (⟨#[48, 49, 50, 51, 52, 53, 54, 55, 56, 57, 97, 98, 99, 100, 101, 102]⟩ : ByteArray) (ji8); replace p11 := eq_true p11; replace q11 := eq_true q11; have p15 : 0 ≤ ((ji12) : Int) := oda; have q15 : (ji12) < (16 : Int) := oda; have cM := bt_at (⟨#[48, 49, 50, 51, 52, 53, 54, 55, 56, 57, 97, 98, 99, 100, 101, 102]⟩ : ByteArray) (ji12); replace p15 := eq_true p15; replace q15 := eq_true q15; refine st_ 10 (fun w' => True) impl_HexOf.T7 impl_HexOf.B7 trivial (fun hHeld HT_ HW_ => ?_); generalize wr.drew = cW at aG HB hHeld ⊢; refine pV 0 16 ?_; refine pV 1 17 ?_; refine pV 2 18 ?_; refine pV 4 20 ?_; refine pV 5 21 ?_; refine take_ (i := 3) (N := some 19) (v := ?_) (a' := ?_) #[true, true, true, true, true, true, false, false, false, false] rfl rfl (take_ofW HT_.out HW_.out (by kernel_rfl)) (fun _ _ _ h => h) (Or.inl ⟨by rfl, ?_⟩) hHeld ?_ ?_; rotate_left
            ·intro w' _; go_simp
             with_reducible rfl
            rotate_left
            ·simp only [Act.put, List.setIfInBounds_toArray, List.set_cons_zero, List.set_cons_succ, i64_w, i32_w]; rfl
            refine take_ (i := 6) (N := some 22) (v := ?_) (a' := ?_) #[true, true, true, true, true, true, true, false, false, false] rfl rfl (take_ofW HT_.out HW_.out (by kernel_rfl)) (fun _ _ _ h => h) (Or.inl ⟨by rfl, ?_⟩) hHeld ?_ ?_; rotate_left
            ·intro w' _; go_simp
             with_reducible rfl
            rotate_left
            ·simp only [Act.put, List.setIfInBounds_toArray, List.set_cons_zero, List.set_cons_succ, i64_w, i32_w]; rfl
            refine oN 7 23 fun K hK => ?_
            refine Kd.R_lit_step (Kd.int .u8) _ 5 ?hg (N := 23) ?hd (xs := ([bt (⟨#[48, 49, 50, 51, 52, 53, 54, 55, 56, 57, 97, 98, 99, 100, 101, 102]⟩ : ByteArray) (ji8), bt (⟨#[48, 49, 50, 51, 52, 53, 54, 55, 56, 57, 97, 98, 99, 100, 101, 102]⟩ : ByteArray) (ji12)] : List Int)) (inner := [.int .u8 (bt (⟨#[48, 49, 50, 51, 52, 53, 54, 55, 56, 57, 97, 98, 99, 100, 101, 102]⟩ : ByteArray) (ji8)), .int .u8 (bt (⟨#[48, 49, 50, 51, 52, 53, 54, 55, 56, 57, 97, 98, 99, 100, 101, 102]⟩ : ByteArray) (ji12))]) (ok := fun _ => True) (okp := fun _ => True) ?hr ?hp (fun _ hk => hk) trivial (Below.refl _ _) (Nat.le_refl _) (by simp) ?_; (case hd => rfl); (case hg => rfl); (case hr => first | (go_simp; done) | (go_simp; rfl)); (case hp => exact (Reps.one (show Kd.M (Kd.int .u8) _ _ _ (bt (⟨#[48, 49, 50, 51, 52, 53, 54, 55, 56, 57, 97, 98, 99, 100, 101, 102]⟩ : ByteArray) (ji8)) [.int .u8 (bt (⟨#[48, 49, 50, 51, 52, 53, 54, 55, 56, 57, 97, 98, 99, 100, 101, 102]⟩ : ByteArray) (ji8))] from rfl) (Reps.one (show Kd.M (Kd.int .u8) _ _ _ (bt (⟨#[48, 49, 50, 51, 52, 53, 54, 55, 56, 57, 97, 98, 99, 100, 101, 102]⟩ : ByteArray) (ji12)) [.int .u8 (bt (⟨#[48, 49, 50, 51, 52, 53, 54, 55, 56, 57, 97, 98, 99, 100, 101, 102]⟩ : ByteArray) (ji12))] from rfl) (Reps.none _ _)))); intro v241 cX aT hb hg_ hnew_; clear hg_ hnew_; (first | rw [← aZ.out] at aT | (simp only [Int.reduceToNat] at aT; rw [← aZ.out] at aT)); have aI := aM (Kd.R_lower (Kd.R_new' aT (Kd.R_lt (xr aG))) (below_size xbel)); replace aG := aM (Kd.R_elder' (xr aG) (Kd.R_base aT) hb); replace HB := xbs hb; clear hb aT; obtain ⟨bV, bW, bK⟩ := Kd.R_slice aI.out; (first | subst bK | (injection bK with f1_ f2_ f3_; have f4_ := f1_.symm; have f5_ := f3_.symm; clear f1_ f2_ f3_; subst f4_; subst f5_)); refine hK.out _ _ trivial (fun hHeld => ?_); clear hK K; refine nm_ (N := 23) ?_; refine oN 8 24 fun K hK => ?_
            refine Kd.R_append_rows_step (Kd.int .u8) (w0 := w) w.heap.size (by rfl) (.tmp 16) (.tmp 23) 22 5 (.int .u8 0) 1 rfl Try.underlying22 info5 rfl (by decide) (by omega) u3 aD aC _ _ _ (fun k_ => some k_ ≠ (.slice bV aC.length bW : Value).ownBlock) (fun _ => False) rfl rfl ?aO ?aR (fun _ _ h => h) (fun _ h => h.elim) ?aF ?aB ?aS ?aL ?_; (case aR => repeat (first | exact (Kd.R_reads' aI.out).2.2 | (with_reducible refine Kd.C_alloc ?_ _) | (with_reducible refine Kd.C_drewN ?_ _) | (with_reducible refine Kd.C_drew ?_))); (case aB => exact xbel); (case aF => exact (fun k_ hk => Kd.fresh' (Kd.R_lt (xr aI)) k_ hk)); (case aO => exact (by (with_reducible repeat (first | apply Kd.R_alloc | apply Kd.R_drewN | apply Kd.R_drew)); exact Kd.R_mono aG.out (fun _ hk => hk.2))); (case aS => exact (below_size xbel)); (case aL => have := LMc16.out; omega); intro v244 cY ho hb hg hat; rw [← bJ.out] at ho; replace aI := aM (Kd.R_after (ok := (fun _ => True)) (xr aI) hg hat); replace HB := aM (hb); have bL := aM (ho); clear aG ho hb hg hat; refine hK.out _ _ trivial (fun hHeld => ?_); clear hK K; refine nm_ (N := 24) ?_; refine pV 9 3 ?_; refine dn_ ?_; try go_wp2
            go_roundg k1
            case measure => have := HK1.out; omega
            case rel => exact ⟨(bI), (wrap64 (aA + 1)), (by first | rfl | (simp; done) | (simp [*]; done)), H', ⟨by have := HK1.out; omega⟩, ⟨by (with_reducible repeat (first | apply Kd.R_alloc | apply Kd.R_drewN | apply Kd.R_drew)); exact Kd.R_mono bL.out (fun _ hk => trivial)⟩, ⟨xbel⟩⟩
           ·rw [if_neg bR] at H; exact absurd H (by simp)
          ·rw [if_neg bQ] at H; exact absurd H (by simp)
         ·rw [if_neg bP] at H; exact absurd H (by simp)
        ·rw [if_neg c10] at H; exact absurd H (by simp)
       ·rw [if_neg c9] at H; exact absurd H (by simp)
      ·rw [if_neg c7] at H; exact absurd H (by simp)
     ·rw [if_neg c6] at H; exact absurd H (by simp)
    ·rw [if_neg c5] at H; have bB : decide (aA < (l0.length : Int)) = false := decide_eq_false c5; clear c5; obtain rfl := Option.some.inj H; have hcv22 := own_string (P := Try.prog) Try.underlying22 Try.underlying5 Try.underlying9 (Kd.own_of_R aG.out); go_wp2; go_ret
     exact ⟨xerr, xbel⟩

/-! ### impl_ShaText: function 24 -/
def impl_ShaText.f (k : Nat) (a0 : ByteArray) : Option (ByteArray) := if a0.size ≤ 9223372036854775807 then ((impl_Sha.f (bytesOf a0)).bind fun aH => ((impl_HexOf.f k aH).bind fun aK => (some aK))) else (none)
theorem u5_mq1 {p : Prop} (h : p := by repeat' first | (with_reducible first | exact impl_HexOf.mono _ _ | exact LeO.refl _ | exact LeO.none _ | refine LeO.ite ?_ ?_ | refine LeO.bind ?_ (fun _ => ?_)) | exact LeO.none _ | refine LeO.ite ?_ ?_ | refine LeO.bind ?_ (fun _ => ?_)) : p := h
theorem impl_ShaText.mono : ∀ a0 k, LeO (impl_ShaText.f k a0) (impl_ShaText.f (k + 1) a0) := by
 intro a0 k
 unfold impl_ShaText.f
 exact u5_mq1
set_option maxHeartbeats 8000000 in
set_option maxRecDepth 100000 in
theorem impl_ShaText.calls (k : Nat) (a0 : ByteArray) (r : ByteArray) (w : World) (h : impl_ShaText.f k a0 = some r) :
 Calls Try.prog 24 #[.string a0] w fun e w' => e = .returned (.string r) ∧ Below w.heap.size w w' := by
 have HB := aM (Below.refl w.heap.size w)
 have H : (if a0.size ≤ 9223372036854775807 then ((impl_Sha.f (bytesOf a0)).bind fun aH => ((impl_HexOf.f k aH).bind fun aK => (some aK))) else (none)) = some r := h
 clear h
 by_cases c2 : a0.size ≤ 9223372036854775807
 ·rw [if_pos c2] at H; have aU := eq_true c2; have aV : decide (a0.size ≤ 9223372036854775807) = true := decide_eq_true c2; try have cN : (9223372036854775807 < a0.size) = False := eq_false (Nat.not_lt.2 c2)
  clear c2; obtain ⟨bC, hY⟩ : ∃ y_ : List Int, y_ = (bytesOf a0) := ⟨_, rfl⟩; replace H : ((impl_Sha.f bC).bind fun aH => ((impl_HexOf.f k aH).bind fun aK => (some aK))) = some r := u5_0; have bA := aM hY; clear hY; replace H := oB H; obtain ⟨aH, bM, H⟩ := H; (try dsimp only at H); have A3 := aM bM; clear bM; replace H := oB H
  obtain ⟨aK, bN, H⟩ := H; (try dsimp only at H); have A4 := aM bN; clear bN
  obtain rfl := Option.some.inj H; go_enter Try.func24, Try.ntmps24
  go_wp2_with (first | ((with_reducible refine gD 4 rfl ?_); refine Kd.V_conv _ 5 rfl (N := 4) rfl 9 22 _ rfl a0 rfl Try.underlying9 Try.underlying22 Try.underlying5 (oda) (ok := fun k_ => w.heap.size ≤ k_) (Nat.le_refl _) (Below.refl _ _) (Nat.le_refl _) ?_; intro v247 w5 bO hb hg_ hnew_; clear hg_ hnew_; (first | rw [← bA.out] at bO | (simp only [Int.reduceToNat] at bO; rw [← bA.out] at bO)); have aE := aM (Kd.V_lower (Kd.V_mono (ok' := fun k_ => True) bO (fun k_ hk_ => trivial)) (below_size xbel)); replace HB := xbs hb; clear hb bO; obtain ⟨cO, cP, cQ⟩ := Kd.V_slice aE.out; subst cQ) | ((with_reducible refine gC 32 rfl ?_); refine goesLY (some 5) rfl Try.func32 #[.slice cO bC.length cP] ?_; (with_reducible refine (impl_Sha.calls _ _ bC aH _ ?side1 ?side2 A3.out).mono ?_); (case side1 => repeat (first | exact (Kd.V_reads' aE.out).2.2 | (with_reducible refine Kd.C_alloc ?_ _) | (with_reducible refine Kd.C_drewN ?_ _) | (with_reducible refine Kd.C_drew ?_))); (case side2 => exact (Kd.V_reads' aE.out).2.1); rintro e w8 ⟨v250, rfl, bX, hb⟩; refine ⟨_, rfl, ?_⟩; replace aE := aM (Kd.V_elder' u5_1 (Kd.R_base bX) hb); have aJ := aM (Kd.R_lower bX (below_size xbel)); replace HB := xbs hb; (try clear hb bX); obtain ⟨cS, cT, cU⟩ := Kd.R_slice aJ.out; subst cU) | ((with_reducible refine gC 41 rfl ?_); refine goesLY (some 6) rfl Try.func41 #[.slice cS aH.length cT] ?_; (with_reducible refine (impl_HexOf.calls k _ _ aH aK _ ?side1 ?side2 A4.out).mono ?_); (case side1 => exact xC aJ); (case side2 => exact (Kd.R_reads' aJ.out).2.1); rintro e cZ ⟨rfl, hb⟩; refine ⟨_, rfl, ?_⟩; replace aE := aM (Kd.V_below u5_1 hb); replace aJ := xrb aJ hb; replace HB := xbs hb; (try clear hb)))
  go_ret
  exact ⟨xerr, xbel⟩
 ·rw [if_neg c2] at H; exact absurd H (by simp)

/-! ### laws_FnExactShaText: function 4 -/
def laws_FnExactShaText.f (k : Nat) (a0 : ByteArray) : Option (Bool) := if (a0.size : Int) > 1048576 then (some true) else ((spec_ShaText.f k a0).bind fun aN => ((impl_ShaText.f k a0).bind fun aP => (if aP.toList = aN.toList then (some true) else (some false))))
theorem u5_mq2 {p : Prop} (h : p := by repeat' first | (with_reducible first | exact impl_ShaText.mono _ _ | exact spec_ShaText.mono _ _ | exact LeO.refl _ | exact LeO.none _ | refine LeO.ite ?_ ?_ | refine LeO.bind ?_ (fun _ => ?_)) | exact LeO.none _ | refine LeO.ite ?_ ?_ | refine LeO.bind ?_ (fun _ => ?_)) : p := h
theorem laws_FnExactShaText.mono : ∀ a0 k, LeO (laws_FnExactShaText.f k a0) (laws_FnExactShaText.f (k + 1) a0) := by
 intro a0 k
 unfold laws_FnExactShaText.f
 exact u5_mq2
set_option maxHeartbeats 8000000 in
set_option maxRecDepth 100000 in
theorem laws_FnExactShaText.calls (k : Nat) (a0 : ByteArray) (r : Bool) (w : World) (h : laws_FnExactShaText.f k a0 = some r) :
 Calls Try.prog 4 #[.string a0] w fun e w' => e = .returned (.bool r) ∧ Below w.heap.size w w' := by
 have HB := aM (Below.refl w.heap.size w)
 have H : (if (a0.size : Int) > 1048576 then (some true) else ((spec_ShaText.f k a0).bind fun aN => ((impl_ShaText.f k a0).bind fun aP => (if aP.toList = aN.toList then (some true) else (some false))))) = some r := h
 clear h
 by_cases c2 : (a0.size : Int) > 1048576
 ·rw [if_pos c2] at H; have aU : decide (1048576 < (a0.size : Int)) = true := decide_eq_true c2; have aV : decide (1048576 < a0.size) = true := decide_eq_true (by omega); clear c2; obtain rfl := Option.some.inj H; go_enter Try.func4, Try.ntmps4
  go_wp2; go_ret
  exact ⟨xerr, xbel⟩
 ·rw [if_neg c2] at H; have aU : decide (1048576 < (a0.size : Int)) = false := decide_eq_false c2; have aV : decide (1048576 < a0.size) = false := decide_eq_false (by omega); clear c2; replace H := oB H; obtain ⟨aN, bM, H⟩ := H; (try dsimp only at H); have A3 := aM bM; clear bM; replace H := oB H
  obtain ⟨aP, bN, H⟩ := H; (try dsimp only at H); have A4 := aM bN; clear bN
  by_cases c5 : aP.toList = aN.toList
  ·rw [if_pos c5] at H; obtain ⟨bB, bY⟩ := bT c5; clear c5; obtain rfl := Option.some.inj H; go_enter Try.func4, Try.ntmps4
   go_wp2_with (first | ((with_reducible refine gC 23 rfl ?_); refine goesLY (some 9) rfl Try.func23 #[.string a0] ?_; (with_reducible refine (spec_ShaText.calls k a0 aN _ A3.out).mono ?_); rintro e w6 ⟨rfl, hb⟩; refine ⟨_, rfl, ?_⟩; replace HB := xbs hb; (try clear hb)) | ((with_reducible refine gC 24 rfl ?_); refine goesLY (some 11) rfl Try.func24 #[.string a0] ?_; (with_reducible refine (impl_ShaText.calls k a0 aP _ A4.out).mono ?_); rintro e w7 ⟨rfl, hb⟩; refine ⟨_, rfl, ?_⟩; replace HB := xbs hb; (try clear hb)))
   go_ret
   exact ⟨xerr, xbel⟩
  ·rw [if_neg c5] at H; obtain ⟨bB, bY⟩ := bF c5; obtain rfl := Option.some.inj H; go_enter Try.func4, Try.ntmps4
   go_wp2_with (first | ((with_reducible refine gC 23 rfl ?_); refine goesLY (some 9) rfl Try.func23 #[.string a0] ?_; (with_reducible refine (spec_ShaText.calls k a0 aN _ A3.out).mono ?_); rintro e w8 ⟨rfl, hb⟩; refine ⟨_, rfl, ?_⟩; replace HB := xbs hb; (try clear hb)) | ((with_reducible refine gC 24 rfl ?_); refine goesLY (some 11) rfl Try.func24 #[.string a0] ?_; (with_reducible refine (impl_ShaText.calls k a0 aP _ A4.out).mono ?_); rintro e w9 ⟨rfl, hb⟩; refine ⟨_, rfl, ?_⟩; replace HB := xbs hb; (try clear hb)))
   go_ret
   exact ⟨xerr, xbel⟩

/-- THE ONE PURE STATEMENT of laws_FnExactShaText. -/
def laws_FnExactShaText.Pure : Prop := ∀ (a0 : ByteArray), a0.size ≤ 140737488351232 → ∃ k, laws_FnExactShaText.f k a0 = some true
theorem laws_FnExactShaText.walk (P : laws_FnExactShaText.Pure) (a0 : ByteArray) (w : World) (w0 : a0.size ≤ 140737488351232) :
 Calls Try.prog 4 #[.string a0] w fun e w' => e = .returned (.bool true) ∧ Below w.heap.size w w' := by
 obtain ⟨k, h⟩ := P a0 w0
 refine (laws_FnExactShaText.calls k a0 true w  h).mono ?_
 rintro e w' ⟨rfl, hd⟩
 exact ⟨rfl, hd⟩

end Go.Proofs.Ytoojdlobnbakoaa.QFnExactShaText
