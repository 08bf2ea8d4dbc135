-- A walk, by a program of this session.
import Derived.Test.YtppfnnpfamkclaaQFnExactRollLacksx0
import Derived.Test.YtppfnnpfamkclaaQFnExactRollLacksx3
import Derived.Test.YtppfnnpfamkclaaQFnExactRollLacksx5
namespace Go.Proofs.Ytppfnnpfamkclaa.QFnExactRollLacks
open Go.RowKit Go.Proofs.YtppfnnpfamkclaaW.PrintWords Go.Proofs.YtppfnnpfamkclaaW.PrintLast Go.Proofs.YtppfnnpfamkclaaW.PrintMore
attribute [local go_sem] max2_int min2_int max_two min_two max_three min_three max_four min_four   -- for this text's walks alone
set_option linter.unusedVariables false
set_option linter.unusedSimpArgs false

theorem u6_0 {p : Prop} (h : p := by first | rfl | (simp; done) | (simp [*]; done)) : p := h
theorem u6_1 {p : Prop} (h : p := by repeat (first | exact Drawn0.refl _ | apply Drawn0.step)) : p := h
theorem u6_2 {p : Prop} (h : p := by (with_reducible repeat (first | apply Kd.R_alloc | apply Kd.R_drewN | apply Kd.R_drew)); exact bW.out) : p := h
theorem u6_3 {p : Prop} (h : p := by first | (go_simp; done) | (go_simp; rfl)) : p := h
theorem u6_4 {p : Prop} (h : p := by first | (rw [hY]; with_reducible exact H) | (have H2_ := oS H; rw [hY]; with_reducible exact H2_) | (have H2_ := oS H; with_reducible exact H2_) | with_reducible exact H | (rw [hY]; exact H) | exact H) : p := h
theorem u6_5 {p : Prop} (h : p := by (with_reducible repeat (first | apply Kd.R_alloc | apply Kd.R_drewN | apply Kd.R_drew)); exact eA.out) : p := h
/-! ### slices_Index_int_int: function 43 -/
def slices_Index_int_int.l0 : Nat → List Int → Int → Int → Int → Option (Int)
 | 0, _, _, _, _ => none
 | k + 1, x0, x1, x7, x8 => if x8 < x7 then (if 0 ≤ x8 then (if x8 < (x0.length : Int) then (if x1 = (rd x0 x8) then (some x8) else (slices_Index_int_int.l0 k x0 x1 x7 (wrap64 (x8 + 1)))) else (none)) else (none)) else (some (-1))
def slices_Index_int_int.f (k : Nat) (l0 : List Int) (a1 : Int) : Option (Int) := slices_Index_int_int.l0 k l0 a1 (l0.length : Int) 0
theorem u6_mq0 {p : Prop} (h : p := by repeat' first | (with_reducible first | exact fA _ _ _ _ | exact LeO.refl _ | exact LeO.none _ | refine LeO.ite ?_ ?_ | refine LeO.bind ?_ (fun _ => ?_)) | exact LeO.none _ | refine LeO.ite ?_ ?_ | refine LeO.bind ?_ (fun _ => ?_)) : p := h
set_option maxRecDepth 100000 in
theorem slices_Index_int_int.mono_l : ∀ k, (∀ y0 y1 y2 y3, LeO (slices_Index_int_int.l0 k y0 y1 y2 y3) (slices_Index_int_int.l0 (k + 1) y0 y1 y2 y3))
 | 0 => fun _ _ _ _ r h => by simp [slices_Index_int_int.l0] at h
 | k + 1 => by
  have fA := slices_Index_int_int.mono_l k
  ·intro y0 y1 y2 y3; unfold slices_Index_int_int.l0; exact u6_mq0
theorem slices_Index_int_int.mono : ∀ a0 a1 k, LeO (slices_Index_int_int.f k a0 a1) (slices_Index_int_int.f (k + 1) a0 a1) := by
 intro a0 a1 k
 have fA := slices_Index_int_int.mono_l k
 unfold slices_Index_int_int.f
 exact u6_mq0
set_option maxHeartbeats 8000000 in
set_option maxRecDepth 100000 in
theorem slices_Index_int_int.calls (k : Nat) (A0 : Option Addr) (c0 : Nat) (l0 : List Int) (a1 : Int) (r : Int) (w : World) (fB : Kd.C (Kd.int .i64) w A0 l0.length l0) (fC : l0.length ≤ c0) (h : slices_Index_int_int.f k l0 a1 = some r) :
 Calls Try.prog 43 #[.slice A0 l0.length c0, .int .i64 a1] w fun e w' => e = .returned (.int .i64 r) ∧ Drawn0 w w' := by
 have fL := aM fB
 have jQ := aM fC
 clear fB fC
 have H : (slices_Index_int_int.l0 k l0 a1 (l0.length : Int) 0) = some r := h
 clear h
 have H' := aM H
 clear H
 go_enter Try.func43, Try.ntmps43
 go_wp2
 go_loopg [8] k (fun kq v8 w' => ∃ (bX : Int), v8 = .int .i64 bX ∧ Aside0 (slices_Index_int_int.l0 kq l0 a1 (l0.length : Int) bX = some r) ∧ Aside0 (kq ≤ k) ∧ Drawn0 w w')
 case atStart => exact ⟨(0), u6_0, H', ⟨Nat.le_refl _⟩, u6_1⟩
 case round =>
  clear H'; try clear p2
  obtain ⟨bX, rfl, HA, HK1, ⟨m1, rfl⟩⟩ := hrel; cases gk with
  | zero => exact absurd HA.out (by simp [slices_Index_int_int.l0])
  | succ k1 =>
   have H := HA.out; clear HA; simp only [slices_Index_int_int.l0] at H; by_cases c3 : bX < (l0.length : Int)
   ·rw [if_pos c3] at H; have dG : decide (bX < (l0.length : Int)) = true := decide_eq_true c3; clear c3; by_cases c4 : 0 ≤ bX
    ·rw [if_pos c4] at H; have eZ : decide (0 ≤ bX) = true := decide_eq_true c4; clear c4; by_cases c5 : bX < (l0.length : Int)
     ·rw [if_pos c5] at H; have fM : decide (bX < (l0.length : Int)) = true := decide_eq_true c5; clear c5; by_cases c6 : a1 = (rd l0 bX)
      ·rw [if_pos c6] at H; obtain ⟨iJ, oC⟩ := bT c6; clear c6; obtain rfl := Option.some.inj H; have p206 : 0 ≤ (bX : Int) := oda; have q206 : bX < (l0.length : Int) := oda; obtain ⟨iV, iK, fN⟩ := Kd.at_int fL.out bX p206 q206; cases iK
       replace p206 := eq_true p206; replace q206 := eq_true q206; go_wp2; go_ret
       exact ⟨u6_0, u6_1⟩
      ·rw [if_neg c6] at H; obtain ⟨iJ, oC⟩ := bF c6; have H' := aM H; clear H; have p206 : 0 ≤ (bX : Int) := oda; have q206 : bX < (l0.length : Int) := oda; obtain ⟨iV, iK, fN⟩ := Kd.at_int fL.out bX p206 q206; cases iK
       replace p206 := eq_true p206; replace q206 := eq_true q206; go_wp2; go_roundg k1
       case measure => have := HK1.out; omega
       case rel => exact ⟨(wrap64 (bX + 1)), u6_0, H', ⟨by have := HK1.out; omega⟩, u6_1⟩
     ·rw [if_neg c5] at H; exact absurd H (by simp)
    ·rw [if_neg c4] at H; exact absurd H (by simp)
   ·rw [if_neg c3] at H; have dG : decide (bX < (l0.length : Int)) = false := decide_eq_false c3; clear c3; obtain rfl := Option.some.inj H; go_wp2; go_ret
    exact ⟨u6_0, u6_1⟩

/-! ### slices_Contains_int_int: function 28 -/
def slices_Contains_int_int.f (k : Nat) (l0 : List Int) (a1 : Int) : Option (Bool) := (slices_Index_int_int.f k l0 a1).bind fun fD => (some (decide (fD ≥ 0)))
theorem u6_mq1 {p : Prop} (h : p := by repeat' first | (with_reducible first | exact slices_Index_int_int.mono _ _ _ | exact LeO.refl _ | exact LeO.none _ | refine LeO.ite ?_ ?_ | refine LeO.bind ?_ (fun _ => ?_)) | exact LeO.none _ | refine LeO.ite ?_ ?_ | refine LeO.bind ?_ (fun _ => ?_)) : p := h
theorem slices_Contains_int_int.mono : ∀ a0 a1 k, LeO (slices_Contains_int_int.f k a0 a1) (slices_Contains_int_int.f (k + 1) a0 a1) := by
 intro a0 a1 k
 unfold slices_Contains_int_int.f
 exact u6_mq1
set_option maxHeartbeats 8000000 in
set_option maxRecDepth 100000 in
theorem slices_Contains_int_int.calls (k : Nat) (A0 : Option Addr) (c0 : Nat) (l0 : List Int) (a1 : Int) (r : Bool) (w : World) (fB : Kd.C (Kd.int .i64) w A0 l0.length l0) (fC : l0.length ≤ c0) (h : slices_Contains_int_int.f k l0 a1 = some r) :
 Calls Try.prog 28 #[.slice A0 l0.length c0, .int .i64 a1] w fun e w' => e = .returned (.bool r) ∧ Drawn0 w w' := by
 have fL := aM fB
 have jQ := aM fC
 clear fB fC
 have H : ((slices_Index_int_int.f k l0 a1).bind fun fD => (some (decide (fD ≥ 0)))) = some r := h
 clear h
 replace H := oB H
 obtain ⟨fD, oQ, H⟩ := H
 (try dsimp only at H)
 have A3 := aM oQ
 clear oQ
 obtain rfl := Option.some.inj H
 go_enter Try.func28, Try.ntmps28
 go_wp2_with (first | ((with_reducible refine gC 43 rfl ?_); refine goesLY (some 7) rfl Try.func43 #[.slice A0 l0.length c0, .int .i64 a1] ?_; (with_reducible refine (slices_Index_int_int.calls k _ _ l0 a1 fD _ ?side1 ?side2 A3.out).mono ?_); (case side1 => repeat (first | exact fL.out | (with_reducible refine Kd.C_alloc ?_ _) | (with_reducible refine Kd.C_drewN ?_ _) | (with_reducible refine Kd.C_drew ?_))); (case side2 => exact jQ.out); rintro e w' ⟨rfl, ⟨nd, rfl⟩⟩; refine ⟨_, rfl, ?_⟩))
 go_ret
 exact ⟨u6_0, u6_1⟩

/-! ### impl_RollLacks: function 8 -/
mutual
def impl_RollLacks.j0 : Nat → Int → List Int → Bool → Int → List (S38) → Int → List Int → Option (List Int)
 | 0, _, _, _, _, _, _, _ => none
 | k + 1, x1, x5, pX, jR, eP, jS, jT => if pX = true then (some x5) else (impl_RollLacks.l0 k x1 x5 eP (eP.length : Int) 0)
def impl_RollLacks.l0 : Nat → Int → List Int → List (S38) → Int → Int → Option (List Int)
 | 0, _, _, _, _, _ => none
 | k + 1, x1, x5, iL, jU, fO => if fO < jU then (if 0 ≤ fO then (if fO < (iL.length : Int) then (if ((rd_T38 iL fO).f4) = 1 then ((slices_Contains_int_int.f k ((rd_T38 iL fO).f3) x1).bind fun iM => (if iM = true then (impl_RollLacks.l0 k x1 x5 iL jU (wrap64 (fO + 1))) else (if x5.length < 17592186044416 then (impl_RollLacks.l0 k x1 (x5 ++ [(rd_T38 iL fO).f0]) iL jU (wrap64 (fO + 1))) else (none)))) else (impl_RollLacks.l0 k x1 x5 iL jU (wrap64 (fO + 1)))) else (none)) else (none)) else (some x5)
end
def impl_RollLacks.f (k : Nat) (aK : Int) (aD : List (S38)) (aN : Int) (aH : List Int) (a1 : Int) : Option (List Int) := (some (([] : List Int) : List Int)).bind fun cW => ((impl_RollOk.f k aK aD aN aH).bind fun eM => (if eM = true then ((impl_within.f a1 0 (wrap64 (aK - 1))).bind fun eB => (impl_RollLacks.j0 k a1 cW (!eB) aK aD aN aH)) else (impl_RollLacks.j0 k a1 cW true aK aD aN aH)))
theorem u6_mq2 {p : Prop} (h : p := by repeat' first | (with_reducible first | exact fA _ _ _ _ _ _ _ | exact oR _ _ _ _ _ | exact impl_RollOk.mono _ _ _ _ _ | exact slices_Contains_int_int.mono _ _ _ | exact LeO.refl _ | exact LeO.none _ | refine LeO.ite ?_ ?_ | refine LeO.bind ?_ (fun _ => ?_)) | exact LeO.none _ | refine LeO.ite ?_ ?_ | refine LeO.bind ?_ (fun _ => ?_)) : p := h
set_option maxRecDepth 100000 in
theorem impl_RollLacks.mono_l : ∀ k, (∀ y0 y1 y2 y3 y4 y5 y6, LeO (impl_RollLacks.j0 k y0 y1 y2 y3 y4 y5 y6) (impl_RollLacks.j0 (k + 1) y0 y1 y2 y3 y4 y5 y6)) ∧ (∀ y0 y1 y2 y3 y4, LeO (impl_RollLacks.l0 k y0 y1 y2 y3 y4) (impl_RollLacks.l0 (k + 1) y0 y1 y2 y3 y4))
 | 0 => ⟨fun _ _ _ _ _ _ _ r h => by simp [impl_RollLacks.j0] at h, fun _ _ _ _ _ r h => by simp [impl_RollLacks.l0] at h⟩
 | k + 1 => by
  obtain ⟨fA, oR⟩ := impl_RollLacks.mono_l k; refine ⟨?_, ?_⟩
  ·intro y0 y1 y2 y3 y4 y5 y6; unfold impl_RollLacks.j0; exact u6_mq2
  ·intro y0 y1 y2 y3 y4; unfold impl_RollLacks.l0; exact u6_mq2
theorem impl_RollLacks.mono : ∀ a0 a1 a2 a3 a4 k, LeO (impl_RollLacks.f k a0 a1 a2 a3 a4) (impl_RollLacks.f (k + 1) a0 a1 a2 a3 a4) := by
 intro a0 a1 a2 a3 a4 k
 obtain ⟨fA, oR⟩ := impl_RollLacks.mono_l k
 unfold impl_RollLacks.f
 exact u6_mq2
set_option maxHeartbeats 8000000 in
set_option maxRecDepth 100000 in
theorem impl_RollLacks.calls (k : Nat) (aK : Int) (eN : Option Addr) (eC : Nat) (aD : List (S38)) (aN : Int) (bM : Option Addr) (bN : Nat) (aH : List Int) (a1 : Int) (r : List Int) (w : World) (iB : Kd.C k38 w eN aD.length aD) (iC : aD.length ≤ eC) (eD : Kd.C (Kd.int .i64) w bM aH.length aH) (eE : aH.length ≤ bN) (h : impl_RollLacks.f k aK aD aN aH a1 = some r) :
 Calls Try.prog 8 #[.agg #[.int .i64 aK, .slice eN aD.length eC, .int .i64 aN, .slice bM aH.length bN], .int .i64 a1] w fun e w' => ∃ v0_ : Value, e = .returned (v0_) ∧ Kd.R (Kd.int .i64) 3 w' w.heap.size (fun _ => True) v0_ r ∧ Below w.heap.size w w' := by
 have pY := Try.underlying30
 have iW := Try.underlying38
 have eF := aM iB
 have iD := aM iC
 clear iB iC
 have dE := aM eD
 have dF := aM eE
 clear eD eE
 have HB := aM (Below.refl w.heap.size w)
 have H : ((some (([] : List Int) : List Int)).bind fun cW => ((impl_RollOk.f k aK aD aN aH).bind fun eM => (if eM = true then ((impl_within.f a1 0 (wrap64 (aK - 1))).bind fun eB => (impl_RollLacks.j0 k a1 cW (!eB) aK aD aN aH)) else (impl_RollLacks.j0 k a1 cW true aK aD aN aH)))) = some r := h
 clear h
 obtain ⟨cW, hY⟩ : ∃ y_ : List Int, y_ = (([] : List Int)) := ⟨_, rfl⟩
 replace H : ((impl_RollOk.f k aK aD aN aH).bind fun eM => (if eM = true then ((impl_within.f a1 0 (wrap64 (aK - 1))).bind fun eB => (impl_RollLacks.j0 k a1 cW (!eB) aK aD aN aH)) else (impl_RollLacks.j0 k a1 cW true aK aD aN aH))) = some r := u6_4
 have iE := aM hY
 clear hY
 have oD := aM H
 clear H
 go_enter Try.func8, Try.ntmps8
 go_upto_region 2 with (first | ((with_reducible refine gD 2 rfl ?_); refine boxE (N := 2) rfl (cs := #[.int .i64 aK, .slice eN aD.length eC, .int .i64 aN, .slice bM aH.length bN]) (t := 30) ?_; intro fE hg w4 hbox hb; have aG := aM (hbox); have oT := aM (xge hg); have oU := aM (xge hg); replace HB := xbs hb; clear hb hbox hg) | ((with_reducible refine gD 8 rfl ?_); refine Kd.R_lit (Kd.int .i64) _ 3 ?hg (N := 8) ?hd (xs := ([] : List Int)) (inner := []) (ok := fun _ => True) (okp := fun _ => True) ?hr ?hp (fun _ hk => hk) trivial (Below.refl _ _) (Nat.le_refl _) (by simp) ?_; (case hd => rfl); (case hg => rfl); (case hr => exact u6_3); (case hp => exact (Reps.none _ _)); intro v210 w5 iX hb hg_ hnew_; clear hg_ hnew_; (first | rw [← iE.out] at iX | (simp only [Int.reduceToNat] at iX; rw [← iE.out] at iX)); have eA := aM (Kd.R_lower iX (below_size xbg)); replace aG := xbb aG hb; replace HB := xbs hb; clear hb iX))
 (try simp only [Act.put, List.setIfInBounds_toArray, List.set_cons_zero, List.set_cons_succ])
 go_cut [19] (fun v19 wc => ∃ (kq : Nat) (eQ : Bool), v19 = .bool eQ ∧ Aside0 (impl_RollLacks.j0 kq a1 cW eQ aK aD aN aH = some r) ∧ Aside0 (kq ≤ k) ∧ Aside0 (Kd.R (Kd.int .i64) 3 wc w.heap.size (fun _ => True) v210 cW) ∧ Aside0 (wc.heap[fE]? = some (.cells #[.int .i64 aK, (.slice eN aD.length eC), .int .i64 aN, (.slice bM aH.length bN)] 30 (0, 0))) ∧ Aside0 (Below w.heap.size w wc))
 case first =>
  have H := oD.out; clear oD; replace H := oB H; obtain ⟨eM, iY, H⟩ := H; (try dsimp only at H); have A7 := aM iY; clear iY
  by_cases c8 : eM = true
  ·subst c8; replace H := iT H; replace H := oB H; obtain ⟨eB, oV, H⟩ := H; (try dsimp only at H); have A9 := aM oV; clear oV
   have H' := aM H; clear H; obtain ⟨eR, eS, eT, eU, eV, eW, eX, eY⟩ := xf4 (w := w5) aG; go_wp2_with (first | ((with_reducible refine gC 26 rfl ?_); refine goesLY (some 10) rfl Try.func26 #[.agg #[.int .i64 aK, .slice eN aD.length eC, .int .i64 aN, .slice bM aH.length bN]] ?_; (with_reducible refine (impl_RollOk.calls k aK _ _ aD aN _ _ aH true _ ?side1 ?side2 ?side3 ?side4 A7.out).mono ?_); (case side1 => exact xcb eF); (case side2 => exact iD.out); (case side3 => exact xcb dE); (case side4 => exact dF.out); rintro e oW ⟨rfl, hb⟩; refine ⟨_, rfl, ?_⟩; replace eA := xrb eA hb; replace aG := xbb aG hb; replace HB := xbs hb; (try clear hb); obtain ⟨dH, dI, dJ, dK, dL, dM, dN, dO⟩ := xf4 (w := oW) aG) | (go_at_call 27; (with_reducible refine (impl_within.calls a1 0 (wrap64 (aK - 1)) eB _ A9.out).mono ?_); rintro e w' ⟨rfl, ⟨nd, rfl⟩⟩))
   go_meet
   case rel => exact ⟨_, (!eB), u6_0, H', ⟨by first | omega | exact Nat.le_refl _⟩, ⟨u6_5⟩, ⟨xblk⟩, ⟨xbg⟩⟩
  ·replace c8 := Bool.eq_false_iff.mpr c8; subst c8; replace H := iN H; have H' := aM H; clear H; obtain ⟨dP, dQ, dR, dS, dU, dV, dW, dX⟩ := xf4 (w := w5) aG; go_wp2_with (first | ((with_reducible refine gC 26 rfl ?_); refine goesLY (some 10) rfl Try.func26 #[.agg #[.int .i64 aK, .slice eN aD.length eC, .int .i64 aN, .slice bM aH.length bN]] ?_; (with_reducible refine (impl_RollOk.calls k aK _ _ aD aN _ _ aH false _ ?side1 ?side2 ?side3 ?side4 A7.out).mono ?_); (case side1 => exact xcb eF); (case side2 => exact iD.out); (case side3 => exact xcb dE); (case side4 => exact dF.out); rintro e pZ ⟨rfl, hb⟩; refine ⟨_, rfl, ?_⟩; replace eA := xrb eA hb; replace aG := xbb aG hb; replace HB := xbs hb; (try clear hb)))
   go_meet
   case rel => exact ⟨_, (true), u6_0, H', ⟨by first | omega | exact Nat.le_refl _⟩, ⟨u6_5⟩, ⟨xblk⟩, ⟨xbg⟩⟩
 case rest =>
  clear oD; try clear c2
  try clear p2
  try clear p6
  try clear c8
  try clear eR eS eT eU
  try clear dH dI dJ dK
  try clear dP dQ dR dS
  try clear eV eW eX eY
  try clear dL dM dN dO
  try clear dU dV dW dX
  obtain ⟨kq, eQ, rfl, HA, HJ2, bW, aG, HB⟩ := hcut; cases kq with
  | zero => exact absurd HA.out (by simp [impl_RollLacks.j0])
  | succ oX =>
   have H := HA.out; clear HA; simp only [impl_RollLacks.j0] at H; by_cases iZ : eQ = true
   ·subst iZ; replace H := iT H; obtain rfl := Option.some.inj H; go_wp2; go_ret
    exact ⟨_, xerr, u6_2, xbg⟩
   ·replace iZ := Bool.eq_false_iff.mpr iZ; subst iZ; replace H := iN H; have H' := aM H; clear H; obtain ⟨fP, fQ, fR, fS, fT, fU, fV, fW⟩ := xf4 (w := wc) aG; go_wp2; go_loopg [5, 24] oX (fun kq v5 v24 w' => ∃ (cX : List Int) (aC : Int), v24 = .int .i64 aC ∧ Aside0 (impl_RollLacks.l0 kq a1 cX aD (aD.length : Int) aC = some r) ∧ Aside0 (kq ≤ oX) ∧ Aside0 (Kd.R (Kd.int .i64) 3 w' w.heap.size (fun _ => True) v5 cX) ∧ Aside0 (w'.heap[fE]? = some (.cells #[.int .i64 aK, (.slice eN aD.length eC), .int .i64 aN, (.slice bM aH.length bN)] 30 (0, 0))) ∧ Aside0 (Below w.heap.size w w'))
    case atStart => exact ⟨(cW), (0), u6_0, H', ⟨Nat.le_refl _⟩, ⟨u6_2⟩, ⟨xblk⟩, ⟨xbg⟩⟩
    case round =>
     clear H'; try clear c1
     try clear c2
     try clear p2
     try clear p6
     try clear c8
     try clear iZ
     try clear eR eS eT eU
     try clear dH dI dJ dK
     try clear dP dQ dR dS
     try clear fP fQ fR fS
     try clear eV eW eX eY
     try clear dL dM dN dO
     try clear dU dV dW dX
     try clear fT fU fV fW
     try clear p2
     try clear p6
     obtain ⟨cX, aC, rfl, HA, HK2, bW, aG, HB⟩ := hrel; cases gk with
     | zero => exact absurd HA.out (by simp [impl_RollLacks.l0])
     | succ k2 =>
      have H := HA.out; clear HA; simp only [impl_RollLacks.l0] at H; by_cases iU : aC < (aD.length : Int)
      ·rw [if_pos iU] at H; have jA : decide (aC < (aD.length : Int)) = true := decide_eq_true iU; clear iU; by_cases jV : 0 ≤ aC
       ·rw [if_pos jV] at H; have oY : decide (0 ≤ aC) = true := decide_eq_true jV; clear jV; by_cases jW : aC < (aD.length : Int)
        ·rw [if_pos jW] at H; have oZ : decide (aC < (aD.length : Int)) = true := decide_eq_true jW; clear jW; by_cases jB : ((rd_T38 aD aC).f4) = 1
         ·rw [if_pos jB] at H; obtain ⟨jC, jD⟩ := bT jB; clear jB; replace H := oB H; obtain ⟨iM, jE, H⟩ := H; (try dsimp only at H); have pA := aM jE; clear jE
          by_cases jX : iM = true
          ·subst jX; replace H := iT H; have H' := aM H; clear H; have p214 : 0 ≤ (aC : Int) := oda; have q214 : aC < (aD.length : Int) := oda; obtain ⟨fF, bU, bV, fG, bG, bH, bI, bJ, bK, bL, hi214_3⟩ := at_T38 eF.out aC p214 q214; cases fG
           replace bG := xce HB bG; replace bH := xce HB bH; replace bI := xce HB bI; replace bJ := xce HB bJ; replace bK := xce HB bK; have cU := aM hi214_3; have cV := aM bL; clear hi214_3 bL; replace p214 := eq_true p214; replace q214 := eq_true q214; go_wp2_with (first | ((with_reducible refine gD 7 rfl ?_); refine boxE (N := 7) rfl (cs := #[.int .i64 0, .int .i64 0, .string (⟨#[]⟩ : ByteArray), .slice none 0 0, .int .i64 0]) (t := 38) ?_; intro aQ hg pB hbox hb; replace bW := xrb bW hb; have iF := aM (xge hg); have iG := aM (xge hg); replace HB := xbs hb; have bO := nblt aG hg; have bP := nbgt aG hg; replace aG := xbb aG hb; have bQ := aM (hbox); clear hb hbox hg; have pC := bP.out; have pD := bO.out; obtain ⟨jY, jZ, kA, kB, kC, kE, kF, kG, kH, kI⟩ := xf5 (w := pB) bQ) | ((with_reducible refine gate_store (t := 38) (p := 7) rfl ?_); refine store_event (t := 38) (p := 7) (v := ?vo_w26) (w1 := (((((pB.setCell ⟨aQ, 0, none⟩ (.int .i64 ((rd_T38 aD aC).f0))).setCell ⟨aQ, 1, none⟩ (.int .i64 ((rd_T38 aD aC).f1))).setCell ⟨aQ, 2, none⟩ (.string ((rd_T38 aD aC).f2))).setCell ⟨aQ, 3, none⟩ (.slice bU ((rd_T38 aD aC).f3).length bV)).setCell ⟨aQ, 4, none⟩ (.int .i64 ((rd_T38 aD aC).f4)))) ?hg ?ho ?hn ?hr ?_; (case ho | hg | hn => rfl); (case hr => exact u6_3); intro oE hw; replace bW : Aside0 (Kd.R (Kd.int .i64) 3 oE w.heap.size (fun _ => True) u5 cX) := xwm hw bW (fun _ _ => trivial); replace aG := xwc hw aG; replace bQ : Aside0 (oE.heap[aQ]? = some (.cells #[.int .i64 ((rd_T38 aD aC).f0), .int .i64 ((rd_T38 aD aC).f1), .string ((rd_T38 aD aC).f2), .slice bU ((rd_T38 aD aC).f3).length bV, .int .i64 ((rd_T38 aD aC).f4)] 38 (0, 0))) := xwp hw; replace HB := xbw hw HB; clear hw; obtain ⟨fX, fY, fZ, gA, gB, gE, gF, gG, gH, gI⟩ := xf5 (w := oE) bQ) | (go_at_call 28; (with_reducible refine (slices_Contains_int_int.calls k2 _ _ ((rd_T38 aD aC).f3) a1 true _ ?side1 ?side2 pA.out).mono ?_); (case side1 => exact xcb cU); (case side2 => exact cV.out); rintro e w' ⟨rfl, ⟨nd, rfl⟩⟩))
           go_roundg k2
           case measure => have := HJ2.out; have := HK2.out; omega
           case rel => exact ⟨(cX), (wrap64 (aC + 1)), u6_0, H', ⟨by have := HJ2.out; have := HK2.out; omega⟩, ⟨u6_2⟩, ⟨xblk⟩, ⟨xbg⟩⟩
          ·replace jX := Bool.eq_false_iff.mpr jX; subst jX; replace H := iN H; by_cases kJ : cX.length < 17592186044416
           ·rw [if_pos kJ] at H; have LMc28 := aM kJ; clear kJ; obtain ⟨jF, hY⟩ : ∃ y_ : List Int, y_ = (cX ++ [(rd_T38 aD aC).f0]) := ⟨_, rfl⟩; replace H : (impl_RollLacks.l0 k2 a1 jF aD (aD.length : Int) (wrap64 (aC + 1))) = some r := u6_4; have jG := aM hY; clear hY; have H' := aM H; clear H; have p214 : 0 ≤ (aC : Int) := oda; have q214 : aC < (aD.length : Int) := oda; obtain ⟨fF, bU, bV, fG, bG, bH, bI, bJ, bK, bL, hi214_3⟩ := at_T38 eF.out aC p214 q214; cases fG
            replace bG := xce HB bG; replace bH := xce HB bH; replace bI := xce HB bI; replace bJ := xce HB bJ; replace bK := xce HB bK; have cU := aM hi214_3; have cV := aM bL; clear hi214_3 bL; replace p214 := eq_true p214; replace q214 := eq_true q214; go_wp2_with (first | ((with_reducible refine gD 7 rfl ?_); refine boxE (N := 7) rfl (cs := #[.int .i64 0, .int .i64 0, .string (⟨#[]⟩ : ByteArray), .slice none 0 0, .int .i64 0]) (t := 38) ?_; intro aQ hg oF hbox hb; replace bW := xrb bW hb; have iF := aM (xge hg); have iG := aM (xge hg); replace HB := xbs hb; have bO := nblt aG hg; have bP := nbgt aG hg; replace aG := xbb aG hb; have bQ := aM (hbox); clear hb hbox hg; have pE := bP.out; have pF := bO.out; obtain ⟨kK, kL, kM, kN, kO, kP, kQ, kR, kS, kT⟩ := xf5 (w := oF) bQ) | ((with_reducible refine gate_store (t := 38) (p := 7) rfl ?_); refine store_event (t := 38) (p := 7) (v := ?vo_w32) (w1 := (((((oF.setCell ⟨aQ, 0, none⟩ (.int .i64 ((rd_T38 aD aC).f0))).setCell ⟨aQ, 1, none⟩ (.int .i64 ((rd_T38 aD aC).f1))).setCell ⟨aQ, 2, none⟩ (.string ((rd_T38 aD aC).f2))).setCell ⟨aQ, 3, none⟩ (.slice bU ((rd_T38 aD aC).f3).length bV)).setCell ⟨aQ, 4, none⟩ (.int .i64 ((rd_T38 aD aC).f4)))) ?hg ?ho ?hn ?hr ?_; (case ho | hg | hn => rfl); (case hr => exact u6_3); intro oG hw; replace bW : Aside0 (Kd.R (Kd.int .i64) 3 oG w.heap.size (fun _ => True) u5 cX) := xwm hw bW (fun _ _ => trivial); replace aG := xwc hw aG; replace bQ : Aside0 (oG.heap[aQ]? = some (.cells #[.int .i64 ((rd_T38 aD aC).f0), .int .i64 ((rd_T38 aD aC).f1), .string ((rd_T38 aD aC).f2), .slice bU ((rd_T38 aD aC).f3).length bV, .int .i64 ((rd_T38 aD aC).f4)] 38 (0, 0))) := xwp hw; replace HB := xbw hw HB; clear hw; obtain ⟨gJ, gK, gL, gM, gN, gO, gP, gQ, gR, gS⟩ := xf5 (w := oG) bQ) | (go_at_call 28; (with_reducible refine (slices_Contains_int_int.calls k2 _ _ ((rd_T38 aD aC).f3) a1 false _ ?side1 ?side2 pA.out).mono ?_); (case side1 => exact xcb cU); (case side2 => exact cV.out); rintro e w' ⟨rfl, ⟨nd, rfl⟩⟩) | ((with_reducible refine gate_builtin (b := .append) (xs := #[.tmp 38, .tmp 41]) rfl ?_); at_builtin; refine Kd.R_append (Kd.int .i64) (w0 := w) w.heap.size rfl (.tmp 38) (.tmp 41) 23 3 (.int .i64 0) 8 rfl Try.underlying23 info3 rfl (by decide) (by omega) u5 cX ((rd_T38 aD aC).f0) [.int .i64 ((rd_T38 aD aC).f0)] (fun _ => True) (fun _ => False) rfl rfl ?aP (fun _ hk => hk.elim) ?aF ?aO ?aB ?aS ?aL ?_; (case aP => exact rfl); (case aB => exact xbg); (case aF => exact (fun _ _ => trivial)); (case aO => exact (xr bW)); (case aS => exact (below_size xbg)); (case aL => have := LMc28.out; omega); intro v218 qA ho hb hg hat; rw [← jG.out] at ho; replace aG := aM (blk_grown (g := fE) (o := .cells #[.int .i64 aK, .slice (some fF) aD.length eC, .int .i64 aN, .slice bM aH.length bN] 30 (0, 0)) xblk hg (Kd.R_ne bW.out aG.out (by decide))); replace bQ := aM (blk_grown (g := aQ) (o := .cells #[.int .i64 ((rd_T38 aD aC).f0), .int .i64 ((rd_T38 aD aC).f1), .string ((rd_T38 aD aC).f2), .slice bU ((rd_T38 aD aC).f3).length bV, .int .i64 ((rd_T38 aD aC).f4)] 38 (0, 0)) xblk hg (Kd.R_ne bW.out bQ.out (by decide))); replace HB := aM (hb); have jH := aM (ho); clear bW; clear ho hb hg hat))
            go_roundg k2
            case measure => have := HJ2.out; have := HK2.out; omega
            case rel => exact ⟨(jF), (wrap64 (aC + 1)), u6_0, H', ⟨by have := HJ2.out; have := HK2.out; omega⟩, ⟨by (with_reducible repeat (first | apply Kd.R_alloc | apply Kd.R_drewN | apply Kd.R_drew)); exact jH.out⟩, ⟨xblk⟩, ⟨xbg⟩⟩
           ·rw [if_neg kJ] at H; exact absurd H (by simp)
         ·rw [if_neg jB] at H; obtain ⟨jC, jD⟩ := bF jB; have H' := aM H; clear H; have p214 : 0 ≤ (aC : Int) := oda; have q214 : aC < (aD.length : Int) := oda; obtain ⟨fF, bU, bV, fG, bG, bH, bI, bJ, bK, bL, hi214_3⟩ := at_T38 eF.out aC p214 q214; cases fG
          replace bG := xce HB bG; replace bH := xce HB bH; replace bI := xce HB bI; replace bJ := xce HB bJ; replace bK := xce HB bK; have cU := aM hi214_3; have cV := aM bL; clear hi214_3 bL; replace p214 := eq_true p214; replace q214 := eq_true q214; go_wp2_with (first | ((with_reducible refine gD 7 rfl ?_); refine boxE (N := 7) rfl (cs := #[.int .i64 0, .int .i64 0, .string (⟨#[]⟩ : ByteArray), .slice none 0 0, .int .i64 0]) (t := 38) ?_; intro aQ hg jI hbox hb; replace bW := xrb bW hb; have iF := aM (xge hg); have iG := aM (xge hg); replace HB := xbs hb; have bO := nblt aG hg; have bP := nbgt aG hg; replace aG := xbb aG hb; have bQ := aM (hbox); clear hb hbox hg; have jJ := bP.out; have jK := bO.out; obtain ⟨gT, gU, gV, gW, gX, gY, gZ, hJ, hU, hX⟩ := xf5 (w := jI) bQ) | ((with_reducible refine gate_store (t := 38) (p := 7) rfl ?_); refine store_event (t := 38) (p := 7) (v := ?vo_w38) (w1 := (((((jI.setCell ⟨aQ, 0, none⟩ (.int .i64 ((rd_T38 aD aC).f0))).setCell ⟨aQ, 1, none⟩ (.int .i64 ((rd_T38 aD aC).f1))).setCell ⟨aQ, 2, none⟩ (.string ((rd_T38 aD aC).f2))).setCell ⟨aQ, 3, none⟩ (.slice bU ((rd_T38 aD aC).f3).length bV)).setCell ⟨aQ, 4, none⟩ (.int .i64 ((rd_T38 aD aC).f4)))) ?hg ?ho ?hn ?hr ?_; (case ho | hg | hn => rfl); (case hr => exact u6_3); intro oH hw; replace bW : Aside0 (Kd.R (Kd.int .i64) 3 oH w.heap.size (fun _ => True) u5 cX) := xwm hw bW (fun _ _ => trivial); replace aG := xwc hw aG; replace bQ : Aside0 (oH.heap[aQ]? = some (.cells #[.int .i64 ((rd_T38 aD aC).f0), .int .i64 ((rd_T38 aD aC).f1), .string ((rd_T38 aD aC).f2), .slice bU ((rd_T38 aD aC).f3).length bV, .int .i64 ((rd_T38 aD aC).f4)] 38 (0, 0))) := xwp hw; replace HB := xbw hw HB; clear hw; obtain ⟨kU, kV, kW, kX, kY, kZ, lA, lB, lC, lE⟩ := xf5 (w := oH) bQ))
          go_roundg k2
          case measure => have := HJ2.out; have := HK2.out; omega
          case rel => exact ⟨(cX), (wrap64 (aC + 1)), u6_0, H', ⟨by have := HJ2.out; have := HK2.out; omega⟩, ⟨u6_2⟩, ⟨xblk⟩, ⟨xbg⟩⟩
        ·rw [if_neg jW] at H; exact absurd H (by simp)
       ·rw [if_neg jV] at H; exact absurd H (by simp)
      ·rw [if_neg iU] at H; have jA : decide (aC < (aD.length : Int)) = false := decide_eq_false iU; clear iU; obtain rfl := Option.some.inj H; go_wp2; go_ret
       exact ⟨_, xerr, u6_2, xbg⟩

/-! ### laws_eqIntS: function 9 -/
def laws_eqIntS.l0 : Nat → List Int → List Int → Int → Option (Bool)
 | 0, _, _, _ => none
 | k + 1, x0, x1, x5 => if x5 < (x0.length : Int) then (if 0 ≤ x5 then (if x5 < (x1.length : Int) then (if (rd x0 x5) = (rd x1 x5) then (laws_eqIntS.l0 k x0 x1 (wrap64 (x5 + 1))) else (some false)) else (none)) else (none)) else (some true)
def laws_eqIntS.f (k : Nat) (l0 : List Int) (l1 : List Int) : Option (Bool) := if (l0.length : Int) = (l1.length : Int) then (laws_eqIntS.l0 k l0 l1 0) else (some false)
theorem u6_mq3 {p : Prop} (h : p := by repeat' first | (with_reducible first | exact fA _ _ _ | exact LeO.refl _ | exact LeO.none _ | refine LeO.ite ?_ ?_ | refine LeO.bind ?_ (fun _ => ?_)) | exact LeO.none _ | refine LeO.ite ?_ ?_ | refine LeO.bind ?_ (fun _ => ?_)) : p := h
set_option maxRecDepth 100000 in
theorem laws_eqIntS.mono_l : ∀ k, (∀ y0 y1 y2, LeO (laws_eqIntS.l0 k y0 y1 y2) (laws_eqIntS.l0 (k + 1) y0 y1 y2))
 | 0 => fun _ _ _ r h => by simp [laws_eqIntS.l0] at h
 | k + 1 => by
  have fA := laws_eqIntS.mono_l k
  ·intro y0 y1 y2; unfold laws_eqIntS.l0; exact u6_mq3
theorem laws_eqIntS.mono : ∀ a0 a1 k, LeO (laws_eqIntS.f k a0 a1) (laws_eqIntS.f (k + 1) a0 a1) := by
 intro a0 a1 k
 have fA := laws_eqIntS.mono_l k
 unfold laws_eqIntS.f
 exact u6_mq3
set_option maxHeartbeats 8000000 in
set_option maxRecDepth 100000 in
theorem laws_eqIntS.calls (k : Nat) (A0 : Option Addr) (c0 : Nat) (l0 : List Int) (A1 : Option Addr) (c1 : Nat) (l1 : List Int) (r : Bool) (w : World) (fB : Kd.C (Kd.int .i64) w A0 l0.length l0) (fC : l0.length ≤ c0) (jL : Kd.C (Kd.int .i64) w A1 l1.length l1) (jM : l1.length ≤ c1) (h : laws_eqIntS.f k l0 l1 = some r) :
 Calls Try.prog 9 #[.slice A0 l0.length c0, .slice A1 l1.length c1] w fun e w' => e = .returned (.bool r) ∧ Drawn0 w w' := by
 have fL := aM fB
 have jQ := aM fC
 clear fB fC
 have jN := aM jL
 have qB := aM jM
 clear jL jM
 have H : (if (l0.length : Int) = (l1.length : Int) then (laws_eqIntS.l0 k l0 l1 0) else (some false)) = some r := h
 clear h
 by_cases c3 : (l0.length : Int) = (l1.length : Int)
 ·rw [if_pos c3] at H; obtain ⟨dG, eO⟩ := bT c3; have fH : (l0.length == l1.length) = true := by first | simpa using c3 | (simp at c3 ⊢; omega)
  clear c3; have H' := aM H; clear H; go_enter Try.func9, Try.ntmps9
  go_wp2
  repeat (go_quiet (fail); try go_wp2)
  go_loopg [5] k (fun kq v5 w' => ∃ (aA : Int), v5 = .int .i64 aA ∧ Aside0 (laws_eqIntS.l0 kq l0 l1 aA = some r) ∧ Aside0 (kq ≤ k) ∧ Drawn0 w w')
  case atStart => exact ⟨(0), u6_0, H', ⟨Nat.le_refl _⟩, u6_1⟩
  case round =>
   clear H'; try clear c1
   try clear p2
   try clear c3
   try clear dG
   try clear eO
   try clear fH
   obtain ⟨aA, rfl, HA, HK1, ⟨m1, rfl⟩⟩ := hrel; cases gk with
   | zero => exact absurd HA.out (by simp [laws_eqIntS.l0])
   | succ k1 =>
    have H := HA.out; clear HA; simp only [laws_eqIntS.l0] at H; by_cases c4 : aA < (l0.length : Int)
    ·rw [if_pos c4] at H; have eZ : decide (aA < (l0.length : Int)) = true := decide_eq_true c4; clear c4; by_cases c5 : 0 ≤ aA
     ·rw [if_pos c5] at H; have fM : decide (0 ≤ aA) = true := decide_eq_true c5; clear c5; by_cases c6 : aA < (l1.length : Int)
      ·rw [if_pos c6] at H; have iJ : decide (aA < (l1.length : Int)) = true := decide_eq_true c6; clear c6; by_cases c7 : (rd l0 aA) = (rd l1 aA)
       ·rw [if_pos c7] at H; obtain ⟨oI, oJ⟩ := bT c7; clear c7; have H' := aM H; clear H; have p220 : 0 ≤ (aA : Int) := oda; have q220 : aA < (l0.length : Int) := oda; obtain ⟨jO, iO, hZ⟩ := Kd.at_int fL.out aA p220 q220; cases iO
        replace p220 := eq_true p220; replace q220 := eq_true q220; have p221 : 0 ≤ (aA : Int) := oda; have q221 : aA < (l1.length : Int) := oda; obtain ⟨jP, iP, iA⟩ := Kd.at_int jN.out aA p221 q221; cases iP
        replace p221 := eq_true p221; replace q221 := eq_true q221; go_wp2
        repeat (go_quiet (fail); try go_wp2)
        go_roundg k1
        case measure => have := HK1.out; omega
        case rel => exact ⟨(wrap64 (aA + 1)), u6_0, H', ⟨by have := HK1.out; omega⟩, u6_1⟩
       ·rw [if_neg c7] at H; obtain ⟨oI, oJ⟩ := bF c7; obtain rfl := Option.some.inj H; have p220 : 0 ≤ (aA : Int) := oda; have q220 : aA < (l0.length : Int) := oda; obtain ⟨jO, iO, hZ⟩ := Kd.at_int fL.out aA p220 q220; cases iO
        replace p220 := eq_true p220; replace q220 := eq_true q220; have p221 : 0 ≤ (aA : Int) := oda; have q221 : aA < (l1.length : Int) := oda; obtain ⟨jP, iP, iA⟩ := Kd.at_int jN.out aA p221 q221; cases iP
        replace p221 := eq_true p221; replace q221 := eq_true q221; go_wp2
        repeat (go_quiet (fail); try go_wp2)
        go_ret
        exact ⟨u6_0, u6_1⟩
      ·rw [if_neg c6] at H; exact absurd H (by simp)
     ·rw [if_neg c5] at H; exact absurd H (by simp)
    ·rw [if_neg c4] at H; have eZ : decide (aA < (l0.length : Int)) = false := decide_eq_false c4; clear c4; obtain rfl := Option.some.inj H; go_wp2
     repeat (go_quiet (fail); try go_wp2)
     go_ret
     exact ⟨u6_0, u6_1⟩
 ·rw [if_neg c3] at H; obtain ⟨dG, eO⟩ := bF c3; have fH : (l0.length == l1.length) = false := by first | simpa using c3 | (simp at c3 ⊢; omega)
  obtain rfl := Option.some.inj H; go_enter Try.func9, Try.ntmps9
  go_wp2
  repeat (go_quiet (fail); try go_wp2)
  go_ret
  exact ⟨u6_0, u6_1⟩

/-! ### laws_eqRel: function 16 -/
def laws_eqRel.f (k : Nat) (aK : Int) (cN : Int) (aN : ByteArray) (aH : List Int) (cO : Int) (cP : Int) (cQ : Int) (cS : ByteArray) (bR : List Int) (cT : Int) : Option (Bool) := if aK = cP then (if cN = cQ then (if aN.toList = cS.toList then ((laws_eqIntS.f k aH bR).bind fun fI => (if fI = true then (if cO = cT then (some true) else (some false)) else (some false))) else (some false)) else (some false)) else (some false)
theorem u6_mq4 {p : Prop} (h : p := by repeat' first | (with_reducible first | exact laws_eqIntS.mono _ _ _ | exact LeO.refl _ | exact LeO.none _ | refine LeO.ite ?_ ?_ | refine LeO.bind ?_ (fun _ => ?_)) | exact LeO.none _ | refine LeO.ite ?_ ?_ | refine LeO.bind ?_ (fun _ => ?_)) : p := h
theorem laws_eqRel.mono : ∀ a0 a1 a2 a3 a4 a5 a6 a7 a8 a9 k, LeO (laws_eqRel.f k a0 a1 a2 a3 a4 a5 a6 a7 a8 a9) (laws_eqRel.f (k + 1) a0 a1 a2 a3 a4 a5 a6 a7 a8 a9) := by
 intro a0 a1 a2 a3 a4 a5 a6 a7 a8 a9 k
 unfold laws_eqRel.f
 exact u6_mq4
set_option maxHeartbeats 8000000 in
set_option maxRecDepth 100000 in
theorem laws_eqRel.calls (k : Nat) (aK : Int) (cN : Int) (aN : ByteArray) (bM : Option Addr) (bN : Nat) (aH : List Int) (cO : Int) (cP : Int) (cQ : Int) (cS : ByteArray) (cY : Option Addr) (cZ : Nat) (bR : List Int) (cT : Int) (r : Bool) (w : World) (eD : Kd.C (Kd.int .i64) w bM aH.length aH) (eE : aH.length ≤ bN) (iH : Kd.C (Kd.int .i64) w cY bR.length bR) (iI : bR.length ≤ cZ) (h : laws_eqRel.f k aK cN aN aH cO cP cQ cS bR cT = some r) :
 Calls Try.prog 16 #[.agg #[.int .i64 aK, .int .i64 cN, .string aN, .slice bM aH.length bN, .int .i64 cO], .agg #[.int .i64 cP, .int .i64 cQ, .string cS, .slice cY bR.length cZ, .int .i64 cT]] w fun e w' => e = .returned (.bool r) ∧ Below w.heap.size w w' := by
 have iW := Try.underlying38
 have dE := aM eD
 have dF := aM eE
 clear eD eE
 have fJ := aM iH
 have fK := aM iI
 clear iH iI
 have HB := aM (Below.refl w.heap.size w)
 have H : (if aK = cP then (if cN = cQ then (if aN.toList = cS.toList then ((laws_eqIntS.f k aH bR).bind fun fI => (if fI = true then (if cO = cT then (some true) else (some false)) else (some false))) else (some false)) else (some false)) else (some false)) = some r := h
 clear h
 by_cases c3 : aK = cP
 ·rw [if_pos c3] at H; obtain ⟨dG, eO⟩ := bT c3; clear c3; by_cases c4 : cN = cQ
  ·rw [if_pos c4] at H; obtain ⟨eZ, oK⟩ := bT c4; clear c4; by_cases c5 : aN.toList = cS.toList
   ·rw [if_pos c5] at H; obtain ⟨fM, oL⟩ := bT c5; clear c5; replace H := oB H; obtain ⟨fI, pG, H⟩ := H; (try dsimp only at H); have A6 := aM pG; clear pG
    by_cases c7 : fI = true
    ·subst c7; replace H := iT H; by_cases c8 : cO = cT
     ·rw [if_pos c8] at H; obtain ⟨oM, oO⟩ := bT c8; clear c8; obtain rfl := Option.some.inj H; go_enter Try.func16, Try.ntmps16
      go_wp2_with (first | ((with_reducible refine gD 2 rfl ?_); refine boxE (N := 2) rfl (cs := #[.int .i64 aK, .int .i64 cN, .string aN, .slice bM aH.length bN, .int .i64 cO]) (t := 38) ?_; intro eG hg w9 hbox hb; have aE := aM (hbox); have eH := aM (xge hg); have eI := aM (xge hg); replace HB := xbs hb; clear hb hbox hg) | ((with_reducible refine gD 3 rfl ?_); refine boxE (N := 3) rfl (cs := #[.int .i64 cP, .int .i64 cQ, .string cS, .slice cY bR.length cZ, .int .i64 cT]) (t := 38) ?_; intro eJ hg oP hbox hb; have eK := aM (xge hg); have eL := aM (xge hg); replace HB := xbs hb; have aI := nblt aE hg; have aJ := nbgt aE hg; replace aE := xbb aE hb; have bY := aM (hbox); clear hb hbox hg; have pH := aI.out; have pI := aJ.out; obtain ⟨dH, dI, dJ, dK, lF, dL, dM, dN, dO, lG⟩ := xf5 (w := oP) aE; obtain ⟨dP, dQ, dR, dS, lH, dU, dV, dW, dX, lI⟩ := xf5 (w := oP) bY) | ((with_reducible refine gC 9 rfl ?_); refine goesLY (some 24) rfl Try.func9 #[.slice bM aH.length bN, .slice cY bR.length cZ] ?_; (with_reducible refine (laws_eqIntS.calls k _ _ aH _ _ bR true _ ?side1 ?side2 ?side3 ?side4 A6.out).mono ?_); (case side1 => exact xcb dE); (case side2 => exact dF.out); (case side3 => exact xcb fJ); (case side4 => exact fK.out); rintro e w' ⟨rfl, ⟨nd, rfl⟩⟩; refine ⟨_, rfl, ?_⟩))
      go_ret
      exact ⟨xerr, xbg⟩
     ·rw [if_neg c8] at H; obtain ⟨oM, oO⟩ := bF c8; obtain rfl := Option.some.inj H; go_enter Try.func16, Try.ntmps16
      go_wp2_with (first | ((with_reducible refine gD 2 rfl ?_); refine boxE (N := 2) rfl (cs := #[.int .i64 aK, .int .i64 cN, .string aN, .slice bM aH.length bN, .int .i64 cO]) (t := 38) ?_; intro eG hg pZ hbox hb; have aE := aM (hbox); have eH := aM (xge hg); have eI := aM (xge hg); replace HB := xbs hb; clear hb hbox hg) | ((with_reducible refine gD 3 rfl ?_); refine boxE (N := 3) rfl (cs := #[.int .i64 cP, .int .i64 cQ, .string cS, .slice cY bR.length cZ, .int .i64 cT]) (t := 38) ?_; intro eJ hg pJ hbox hb; have eK := aM (xge hg); have eL := aM (xge hg); replace HB := xbs hb; have aI := nblt aE hg; have aJ := nbgt aE hg; replace aE := xbb aE hb; have bY := aM (hbox); clear hb hbox hg; have pK := aI.out; have pL := aJ.out; obtain ⟨lJ, lK, lL, lM, lN, lO, lP, lQ, lR, lS⟩ := xf5 (w := pJ) aE; obtain ⟨lT, lU, lV, lW, lX, lY, lZ, mA, mB, mC⟩ := xf5 (w := pJ) bY) | ((with_reducible refine gC 9 rfl ?_); refine goesLY (some 24) rfl Try.func9 #[.slice bM aH.length bN, .slice cY bR.length cZ] ?_; (with_reducible refine (laws_eqIntS.calls k _ _ aH _ _ bR true _ ?side1 ?side2 ?side3 ?side4 A6.out).mono ?_); (case side1 => exact xcb dE); (case side2 => exact dF.out); (case side3 => exact xcb fJ); (case side4 => exact fK.out); rintro e w' ⟨rfl, ⟨nd, rfl⟩⟩; refine ⟨_, rfl, ?_⟩))
      go_ret
      exact ⟨xerr, xbg⟩
    ·replace c7 := Bool.eq_false_iff.mpr c7; subst c7; replace H := iN H; obtain rfl := Option.some.inj H; go_enter Try.func16, Try.ntmps16
     go_wp2_with (first | ((with_reducible refine gD 2 rfl ?_); refine boxE (N := 2) rfl (cs := #[.int .i64 aK, .int .i64 cN, .string aN, .slice bM aH.length bN, .int .i64 cO]) (t := 38) ?_; intro eG hg qC hbox hb; have aE := aM (hbox); have eH := aM (xge hg); have eI := aM (xge hg); replace HB := xbs hb; clear hb hbox hg) | ((with_reducible refine gD 3 rfl ?_); refine boxE (N := 3) rfl (cs := #[.int .i64 cP, .int .i64 cQ, .string cS, .slice cY bR.length cZ, .int .i64 cT]) (t := 38) ?_; intro eJ hg pM hbox hb; have eK := aM (xge hg); have eL := aM (xge hg); replace HB := xbs hb; have aI := nblt aE hg; have aJ := nbgt aE hg; replace aE := xbb aE hb; have bY := aM (hbox); clear hb hbox hg; have pN := aI.out; have pO := aJ.out; obtain ⟨mD, mE, mF, mG, mH, mI, mJ, mK, mL, mM⟩ := xf5 (w := pM) aE; obtain ⟨mN, mO, mP, mQ, mR, mS, mT, mU, mV, mW⟩ := xf5 (w := pM) bY) | ((with_reducible refine gC 9 rfl ?_); refine goesLY (some 24) rfl Try.func9 #[.slice bM aH.length bN, .slice cY bR.length cZ] ?_; (with_reducible refine (laws_eqIntS.calls k _ _ aH _ _ bR false _ ?side1 ?side2 ?side3 ?side4 A6.out).mono ?_); (case side1 => exact xcb dE); (case side2 => exact dF.out); (case side3 => exact xcb fJ); (case side4 => exact fK.out); rintro e w' ⟨rfl, ⟨nd, rfl⟩⟩; refine ⟨_, rfl, ?_⟩))
     go_ret
     exact ⟨xerr, xbg⟩
   ·rw [if_neg c5] at H; obtain ⟨fM, oL⟩ := bF c5; obtain rfl := Option.some.inj H; go_enter Try.func16, Try.ntmps16
    go_wp2_with (first | ((with_reducible refine gD 2 rfl ?_); refine boxE (N := 2) rfl (cs := #[.int .i64 aK, .int .i64 cN, .string aN, .slice bM aH.length bN, .int .i64 cO]) (t := 38) ?_; intro eG hg qD hbox hb; have aE := aM (hbox); have eH := aM (xge hg); have eI := aM (xge hg); replace HB := xbs hb; clear hb hbox hg) | ((with_reducible refine gD 3 rfl ?_); refine boxE (N := 3) rfl (cs := #[.int .i64 cP, .int .i64 cQ, .string cS, .slice cY bR.length cZ, .int .i64 cT]) (t := 38) ?_; intro eJ hg pP hbox hb; have eK := aM (xge hg); have eL := aM (xge hg); replace HB := xbs hb; have aI := nblt aE hg; have aJ := nbgt aE hg; replace aE := xbb aE hb; have bY := aM (hbox); clear hb hbox hg; have pQ := aI.out; have pR := aJ.out; obtain ⟨fX, fY, fZ, gA, gB, gE, gF, gG, gH, gI⟩ := xf5 (w := pP) aE; obtain ⟨mX, mY, mZ, nA, nB, nC, nD, nE, nF, nG⟩ := xf5 (w := pP) bY))
    go_ret
    exact ⟨xerr, xbg⟩
  ·rw [if_neg c4] at H; obtain ⟨eZ, oK⟩ := bF c4; obtain rfl := Option.some.inj H; go_enter Try.func16, Try.ntmps16
   go_wp2_with (first | ((with_reducible refine gD 2 rfl ?_); refine boxE (N := 2) rfl (cs := #[.int .i64 aK, .int .i64 cN, .string aN, .slice bM aH.length bN, .int .i64 cO]) (t := 38) ?_; intro eG hg oF hbox hb; have aE := aM (hbox); have eH := aM (xge hg); have eI := aM (xge hg); replace HB := xbs hb; clear hb hbox hg) | ((with_reducible refine gD 3 rfl ?_); refine boxE (N := 3) rfl (cs := #[.int .i64 cP, .int .i64 cQ, .string cS, .slice cY bR.length cZ, .int .i64 cT]) (t := 38) ?_; intro eJ hg pS hbox hb; have eK := aM (xge hg); have eL := aM (xge hg); replace HB := xbs hb; have aI := nblt aE hg; have aJ := nbgt aE hg; replace aE := xbb aE hb; have bY := aM (hbox); clear hb hbox hg; have pT := aI.out; have pW := aJ.out; obtain ⟨nH, nI, nJ, nK, nL, nM, nN, nO, nP, nQ⟩ := xf5 (w := pS) aE; obtain ⟨gJ, gK, gL, gM, gN, gO, gP, gQ, gR, gS⟩ := xf5 (w := pS) bY))
   go_ret
   exact ⟨xerr, xbg⟩
 ·rw [if_neg c3] at H; obtain ⟨dG, eO⟩ := bF c3; obtain rfl := Option.some.inj H; go_enter Try.func16, Try.ntmps16
  go_wp2_with (first | ((with_reducible refine gD 2 rfl ?_); refine boxE (N := 2) rfl (cs := #[.int .i64 aK, .int .i64 cN, .string aN, .slice bM aH.length bN, .int .i64 cO]) (t := 38) ?_; intro eG hg qA hbox hb; have aE := aM (hbox); have eH := aM (xge hg); have eI := aM (xge hg); replace HB := xbs hb; clear hb hbox hg) | ((with_reducible refine gD 3 rfl ?_); refine boxE (N := 3) rfl (cs := #[.int .i64 cP, .int .i64 cQ, .string cS, .slice cY bR.length cZ, .int .i64 cT]) (t := 38) ?_; intro eJ hg jI hbox hb; have eK := aM (xge hg); have eL := aM (xge hg); replace HB := xbs hb; have aI := nblt aE hg; have aJ := nbgt aE hg; replace aE := xbb aE hb; have bY := aM (hbox); clear hb hbox hg; have jJ := aI.out; have jK := aJ.out; obtain ⟨gT, gU, gV, gW, gX, gY, gZ, hJ, hU, hX⟩ := xf5 (w := jI) aE; obtain ⟨nR, nS, nT, nU, nV, nW, nX, nY, nZ, oA⟩ := xf5 (w := jI) bY))
  go_ret
  exact ⟨xerr, xbg⟩

/-! ### laws_eqRelS: function 29 -/
def laws_eqRelS.l0 : Nat → List (S38) → List (S38) → Int → Option (Bool)
 | 0, _, _, _ => none
 | k + 1, x0, x1, x5 => if x5 < (x0.length : Int) then (if 0 ≤ x5 then (if x5 < (x1.length : Int) then ((laws_eqRel.f k ((rd_T38 x0 x5).f0) ((rd_T38 x0 x5).f1) ((rd_T38 x0 x5).f2) ((rd_T38 x0 x5).f3) ((rd_T38 x0 x5).f4) ((rd_T38 x1 x5).f0) ((rd_T38 x1 x5).f1) ((rd_T38 x1 x5).f2) ((rd_T38 x1 x5).f3) ((rd_T38 x1 x5).f4)).bind fun iQ => (if iQ = true then (laws_eqRelS.l0 k x0 x1 (wrap64 (x5 + 1))) else (some false))) else (none)) else (none)) else (some true)
def laws_eqRelS.f (k : Nat) (l0 : List (S38)) (l1 : List (S38)) : Option (Bool) := if (l0.length : Int) = (l1.length : Int) then (laws_eqRelS.l0 k l0 l1 0) else (some false)
theorem u6_mq5 {p : Prop} (h : p := by repeat' first | (with_reducible first | exact fA _ _ _ | exact laws_eqRel.mono _ _ _ _ _ _ _ _ _ _ _ | exact LeO.refl _ | exact LeO.none _ | refine LeO.ite ?_ ?_ | refine LeO.bind ?_ (fun _ => ?_)) | exact LeO.none _ | refine LeO.ite ?_ ?_ | refine LeO.bind ?_ (fun _ => ?_)) : p := h
set_option maxRecDepth 100000 in
theorem laws_eqRelS.mono_l : ∀ k, (∀ y0 y1 y2, LeO (laws_eqRelS.l0 k y0 y1 y2) (laws_eqRelS.l0 (k + 1) y0 y1 y2))
 | 0 => fun _ _ _ r h => by simp [laws_eqRelS.l0] at h
 | k + 1 => by
  have fA := laws_eqRelS.mono_l k
  ·intro y0 y1 y2; unfold laws_eqRelS.l0; exact u6_mq5
theorem laws_eqRelS.mono : ∀ a0 a1 k, LeO (laws_eqRelS.f k a0 a1) (laws_eqRelS.f (k + 1) a0 a1) := by
 intro a0 a1 k
 have fA := laws_eqRelS.mono_l k
 unfold laws_eqRelS.f
 exact u6_mq5
def laws_eqRelS.T6 : Bool × List (List Nat × List Nat) := (true, [([], []), ([], []), ([0, 1], [0, 1]), ([2], [2]), ([], []), ([], []), ([4, 5], [4, 5]), ([6], [6]), ([3, 7], [3, 7]), ([8], [8])])
def laws_eqRelS.B6 : List Nat := [0, 0, 3, 7, 0, 0, 48, 112, 255, 511]
set_option maxHeartbeats 8000000 in
set_option maxRecDepth 100000 in
theorem laws_eqRelS.calls (k : Nat) (A0 : Option Addr) (c0 : Nat) (l0 : List (S38)) (A1 : Option Addr) (c1 : Nat) (l1 : List (S38)) (r : Bool) (w : World) (fB : Kd.C k38 w A0 l0.length l0) (fC : l0.length ≤ c0) (jL : Kd.C k38 w A1 l1.length l1) (jM : l1.length ≤ c1) (h : laws_eqRelS.f k l0 l1 = some r) :
 Calls Try.prog 29 #[.slice A0 l0.length c0, .slice A1 l1.length c1] w fun e w' => e = .returned (.bool r) ∧ Below w.heap.size w w' := by
 have iW := Try.underlying38
 have fL := aM fB
 have jQ := aM fC
 clear fB fC
 have jN := aM jL
 have qB := aM jM
 clear jL jM
 have HB := aM (Below.refl w.heap.size w)
 have H : (if (l0.length : Int) = (l1.length : Int) then (laws_eqRelS.l0 k l0 l1 0) else (some false)) = some r := h
 clear h
 by_cases c3 : (l0.length : Int) = (l1.length : Int)
 ·rw [if_pos c3] at H; obtain ⟨dG, eO⟩ := bT c3; have fH : (l0.length == l1.length) = true := by first | simpa using c3 | (simp at c3 ⊢; omega)
  clear c3; have H' := aM H; clear H; go_enter Try.func29, Try.ntmps29
  go_wp2; go_loopg [5] k (fun kq v5 w' => ∃ (aA : Int), v5 = .int .i64 aA ∧ Aside0 (laws_eqRelS.l0 kq l0 l1 aA = some r) ∧ Aside0 (kq ≤ k) ∧ Aside0 (Below w.heap.size w w'))
  case atStart => exact ⟨(0), u6_0, H', ⟨Nat.le_refl _⟩, ⟨xbel⟩⟩
  case round =>
   clear H'; try clear c1
   try clear c2
   try clear p2
   try clear c3
   try clear dG
   try clear eO
   try clear fH
   obtain ⟨aA, rfl, HA, HK1, HB⟩ := hrel; cases gk with
   | zero => exact absurd HA.out (by simp [laws_eqRelS.l0])
   | succ k1 =>
    have H := HA.out; clear HA; simp only [laws_eqRelS.l0] at H; by_cases c4 : aA < (l0.length : Int)
    ·rw [if_pos c4] at H; have eZ : decide (aA < (l0.length : Int)) = true := decide_eq_true c4; clear c4; by_cases c5 : 0 ≤ aA
     ·rw [if_pos c5] at H; have fM : decide (0 ≤ aA) = true := decide_eq_true c5; clear c5; by_cases c6 : aA < (l1.length : Int)
      ·rw [if_pos c6] at H; have iJ : decide (aA < (l1.length : Int)) = true := decide_eq_true c6; clear c6; replace H := oB H; obtain ⟨iQ, iY, H⟩ := H; (try dsimp only at H); have A7 := aM iY; clear iY
       by_cases c8 : iQ = true
       ·subst c8; replace H := iT H; have H' := aM H; clear H; try go_wp2
        replace HB := lD HB; have p225 : 0 ≤ (aA : Int) := oda; have q225 : aA < (l0.length : Int) := oda; obtain ⟨aR, dA, dB, iR, aU, aV, aW, aX, aY, bZ, hi225_3⟩ := at_T38 fL.out aA p225 q225; have cA := aY; have cB := aX; have cC := aW; have cD := aV; have cE := aU; cases iR
        replace aU := xce HB aU; replace aV := xce HB aV; replace aW := xce HB aW; replace aX := xce HB aX; replace aY := xce HB aY; have cF := aM hi225_3; have dY := aM bZ; clear hi225_3 bZ; replace p225 := eq_true p225; replace q225 := eq_true q225; have p226 : 0 ≤ (aA : Int) := oda; have q226 : aA < (l1.length : Int) := oda; obtain ⟨aT, dC, dD, iS, aZ, bA, bB, bC, bE, cG, hi226_3⟩ := at_T38 jN.out aA p226 q226; have cH := bE; have cI := bC; have cJ := bB; have cK := bA; have cL := aZ; cases iS
        replace aZ := xce HB aZ; replace bA := xce HB bA; replace bB := xce HB bB; replace bC := xce HB bC; replace bE := xce HB bE; have cM := aM hi226_3; have dZ := aM cG; clear hi226_3 cG; replace p226 := eq_true p226; replace q226 := eq_true q226; refine st_ 10 (fun w' => w'.cell? (aR.add ((aA).toNat * 5)) = some (.int .i64 ((rd_T38 l0 aA).f0)) ∧ w'.cell? ⟨(aR.add ((aA).toNat * 5)).block, (aR.add ((aA).toNat * 5)).off + 1, none⟩ = some (.int .i64 ((rd_T38 l0 aA).f1)) ∧ w'.cell? ⟨(aR.add ((aA).toNat * 5)).block, (aR.add ((aA).toNat * 5)).off + 2, none⟩ = some (.string ((rd_T38 l0 aA).f2)) ∧ w'.cell? ⟨(aR.add ((aA).toNat * 5)).block, (aR.add ((aA).toNat * 5)).off + 3, none⟩ = some (.slice dA ((rd_T38 l0 aA).f3).length dB) ∧ w'.cell? ⟨(aR.add ((aA).toNat * 5)).block, (aR.add ((aA).toNat * 5)).off + 4, none⟩ = some (.int .i64 ((rd_T38 l0 aA).f4)) ∧ w'.cell? (aT.add ((aA).toNat * 5)) = some (.int .i64 ((rd_T38 l1 aA).f0)) ∧ w'.cell? ⟨(aT.add ((aA).toNat * 5)).block, (aT.add ((aA).toNat * 5)).off + 1, none⟩ = some (.int .i64 ((rd_T38 l1 aA).f1)) ∧ w'.cell? ⟨(aT.add ((aA).toNat * 5)).block, (aT.add ((aA).toNat * 5)).off + 2, none⟩ = some (.string ((rd_T38 l1 aA).f2)) ∧ w'.cell? ⟨(aT.add ((aA).toNat * 5)).block, (aT.add ((aA).toNat * 5)).off + 3, none⟩ = some (.slice dC ((rd_T38 l1 aA).f3).length dD) ∧ w'.cell? ⟨(aT.add ((aA).toNat * 5)).block, (aT.add ((aA).toNat * 5)).off + 4, none⟩ = some (.int .i64 ((rd_T38 l1 aA).f4))) laws_eqRelS.T6 laws_eqRelS.B6 ⟨(xce HB cE), (xce HB cD), (xce HB cC), (xce HB cB), (xce HB cA), (xce HB cL), (xce HB cK), (xce HB cJ), (xce HB cI), (xce HB cH)⟩ (fun hHeld HT_ HW_ => ?_); generalize wr.drew = w9 at HB cF cM aU aV aW aX aY aZ bA bB bC bE hHeld ⊢; refine pV 0 17 ?_; refine pV 1 18 ?_; refine pV 2 19 ?_; refine pV 4 21 ?_; refine pV 5 22 ?_; refine pV 6 23 ?_; refine tK 3 20 ?_; refine tK 7 24 ?_; refine oN 8 25 fun K hK => ?_
        refine goesY Try.func16 #[.agg #[.int .i64 ((rd_T38 l0 aA).f0), .int .i64 ((rd_T38 l0 aA).f1), .string ((rd_T38 l0 aA).f2), .slice dA ((rd_T38 l0 aA).f3).length dB, .int .i64 ((rd_T38 l0 aA).f4)], .agg #[.int .i64 ((rd_T38 l1 aA).f0), .int .i64 ((rd_T38 l1 aA).f1), .string ((rd_T38 l1 aA).f2), .slice dC ((rd_T38 l1 aA).f3).length dD, .int .i64 ((rd_T38 l1 aA).f4)]] ?_; with_reducible refine (laws_eqRel.calls k1 ((rd_T38 l0 aA).f0) ((rd_T38 l0 aA).f1) ((rd_T38 l0 aA).f2) _ _ ((rd_T38 l0 aA).f3) ((rd_T38 l0 aA).f4) ((rd_T38 l1 aA).f0) ((rd_T38 l1 aA).f1) ((rd_T38 l1 aA).f2) _ _ ((rd_T38 l1 aA).f3) ((rd_T38 l1 aA).f4) true _ ?side1 ?side2 ?side3 ?side4 A7.out).mono ?_
        (case side1 => exact xcb cF); (case side2 => exact dY.out); (case side3 => exact xcb cM); (case side4 => exact dZ.out); rintro e oP ⟨rfl, hb⟩; refine ⟨_, rfl, ?_⟩; replace HB := xbs hb; (try clear hb); refine hK.out _ _ ⟨(xce HB cE), (xce HB cD), (xce HB cC), (xce HB cB), (xce HB cA), (xce HB cL), (xce HB cK), (xce HB cJ), (xce HB cI), (xce HB cH)⟩ (fun hHeld => ?_); clear hK K; refine nm_ (N := 25) ?_; refine pV 9 26 ?_; refine dn_ ?_; try go_wp2
        go_roundg k1
        case measure => have := HK1.out; omega
        case rel => exact ⟨(wrap64 (aA + 1)), u6_0, H', ⟨by have := HK1.out; omega⟩, ⟨xbel⟩⟩
       ·replace c8 := Bool.eq_false_iff.mpr c8; subst c8; replace H := iN H; obtain rfl := Option.some.inj H; try go_wp2
        replace HB := lD HB; have p225 : 0 ≤ (aA : Int) := oda; have q225 : aA < (l0.length : Int) := oda; obtain ⟨aR, dA, dB, iR, aU, aV, aW, aX, aY, bZ, hi225_3⟩ := at_T38 fL.out aA p225 q225; have cA := aY; have cB := aX; have cC := aW; have cD := aV; have cE := aU; cases iR
        replace aU := xce HB aU; replace aV := xce HB aV; replace aW := xce HB aW; replace aX := xce HB aX; replace aY := xce HB aY; have cF := aM hi225_3; have dY := aM bZ; clear hi225_3 bZ; replace p225 := eq_true p225; replace q225 := eq_true q225; have p226 : 0 ≤ (aA : Int) := oda; have q226 : aA < (l1.length : Int) := oda; obtain ⟨aT, dC, dD, iS, aZ, bA, bB, bC, bE, cG, hi226_3⟩ := at_T38 jN.out aA p226 q226; have cH := bE; have cI := bC; have cJ := bB; have cK := bA; have cL := aZ; cases iS
        replace aZ := xce HB aZ; replace bA := xce HB bA; replace bB := xce HB bB; replace bC := xce HB bC; replace bE := xce HB bE; have cM := aM hi226_3; have dZ := aM cG; clear hi226_3 cG; replace p226 := eq_true p226; replace q226 := eq_true q226; refine st_ 10 (fun w' => w'.cell? (aR.add ((aA).toNat * 5)) = some (.int .i64 ((rd_T38 l0 aA).f0)) ∧ w'.cell? ⟨(aR.add ((aA).toNat * 5)).block, (aR.add ((aA).toNat * 5)).off + 1, none⟩ = some (.int .i64 ((rd_T38 l0 aA).f1)) ∧ w'.cell? ⟨(aR.add ((aA).toNat * 5)).block, (aR.add ((aA).toNat * 5)).off + 2, none⟩ = some (.string ((rd_T38 l0 aA).f2)) ∧ w'.cell? ⟨(aR.add ((aA).toNat * 5)).block, (aR.add ((aA).toNat * 5)).off + 3, none⟩ = some (.slice dA ((rd_T38 l0 aA).f3).length dB) ∧ w'.cell? ⟨(aR.add ((aA).toNat * 5)).block, (aR.add ((aA).toNat * 5)).off + 4, none⟩ = some (.int .i64 ((rd_T38 l0 aA).f4)) ∧ w'.cell? (aT.add ((aA).toNat * 5)) = some (.int .i64 ((rd_T38 l1 aA).f0)) ∧ w'.cell? ⟨(aT.add ((aA).toNat * 5)).block, (aT.add ((aA).toNat * 5)).off + 1, none⟩ = some (.int .i64 ((rd_T38 l1 aA).f1)) ∧ w'.cell? ⟨(aT.add ((aA).toNat * 5)).block, (aT.add ((aA).toNat * 5)).off + 2, none⟩ = some (.string ((rd_T38 l1 aA).f2)) ∧ w'.cell? ⟨(aT.add ((aA).toNat * 5)).block, (aT.add ((aA).toNat * 5)).off + 3, none⟩ = some (.slice dC ((rd_T38 l1 aA).f3).length dD) ∧ w'.cell? ⟨(aT.add ((aA).toNat * 5)).block, (aT.add ((aA).toNat * 5)).off + 4, none⟩ = some (.int .i64 ((rd_T38 l1 aA).f4))) laws_eqRelS.T6 laws_eqRelS.B6 ⟨(xce HB cE), (xce HB cD), (xce HB cC), (xce HB cB), (xce HB cA), (xce HB cL), (xce HB cK), (xce HB cJ), (xce HB cI), (xce HB cH)⟩ (fun hHeld HT_ HW_ => ?_); generalize wr.drew = oW at HB cF cM aU aV aW aX aY aZ bA bB bC bE hHeld ⊢; refine pV 0 17 ?_; refine pV 1 18 ?_; refine pV 2 19 ?_; refine pV 4 21 ?_; refine pV 5 22 ?_; refine pV 6 23 ?_; refine tK 3 20 ?_; refine tK 7 24 ?_; refine oN 8 25 fun K hK => ?_
        refine goesY Try.func16 #[.agg #[.int .i64 ((rd_T38 l0 aA).f0), .int .i64 ((rd_T38 l0 aA).f1), .string ((rd_T38 l0 aA).f2), .slice dA ((rd_T38 l0 aA).f3).length dB, .int .i64 ((rd_T38 l0 aA).f4)], .agg #[.int .i64 ((rd_T38 l1 aA).f0), .int .i64 ((rd_T38 l1 aA).f1), .string ((rd_T38 l1 aA).f2), .slice dC ((rd_T38 l1 aA).f3).length dD, .int .i64 ((rd_T38 l1 aA).f4)]] ?_; with_reducible refine (laws_eqRel.calls k1 ((rd_T38 l0 aA).f0) ((rd_T38 l0 aA).f1) ((rd_T38 l0 aA).f2) _ _ ((rd_T38 l0 aA).f3) ((rd_T38 l0 aA).f4) ((rd_T38 l1 aA).f0) ((rd_T38 l1 aA).f1) ((rd_T38 l1 aA).f2) _ _ ((rd_T38 l1 aA).f3) ((rd_T38 l1 aA).f4) false _ ?side1 ?side2 ?side3 ?side4 A7.out).mono ?_
        (case side1 => exact xcb cF); (case side2 => exact dY.out); (case side3 => exact xcb cM); (case side4 => exact dZ.out); rintro e qE ⟨rfl, hb⟩; refine ⟨_, rfl, ?_⟩; replace HB := xbs hb; (try clear hb); refine hK.out _ _ ⟨(xce HB cE), (xce HB cD), (xce HB cC), (xce HB cB), (xce HB cA), (xce HB cL), (xce HB cK), (xce HB cJ), (xce HB cI), (xce HB cH)⟩ (fun hHeld => ?_); clear hK K; refine nm_ (N := 25) ?_; refine pV 9 26 ?_; refine dn_ ?_; try go_wp2
        go_ret
        exact ⟨xerr, xbel⟩
      ·rw [if_neg c6] at H; exact absurd H (by simp)
     ·rw [if_neg c5] at H; exact absurd H (by simp)
    ·rw [if_neg c4] at H; have eZ : decide (aA < (l0.length : Int)) = false := decide_eq_false c4; clear c4; obtain rfl := Option.some.inj H; go_wp2; go_ret
     exact ⟨xerr, xbel⟩
 ·rw [if_neg c3] at H; obtain ⟨dG, eO⟩ := bF c3; have fH : (l0.length == l1.length) = false := by first | simpa using c3 | (simp at c3 ⊢; omega)
  obtain rfl := Option.some.inj H; go_enter Try.func29, Try.ntmps29
  go_wp2; go_ret
  exact ⟨xerr, xbel⟩

end Go.Proofs.Ytppfnnpfamkclaa.QFnExactRollLacks
