-- A walk, by a program of this session.
import Derived.Test.YtppfnnpfamkclaaQFnExactRollLacksx0
import Derived.Test.YtppfnnpfamkclaaQFnExactRollLacksx1
import Derived.Test.YtppfnnpfamkclaaQFnExactRollLacksx2
namespace Go.Proofs.Ytppfnnpfamkclaa.QFnExactRollLacks
open Go.RowKit Go.Proofs.YtppfnnpfamkclaaW.PrintWords Go.Proofs.YtppfnnpfamkclaaW.PrintLast Go.Proofs.YtppfnnpfamkclaaW.PrintMore
attribute [local go_sem] max2_int min2_int max_two min_two max_three min_three max_four min_four   -- for this text's walks alone
set_option linter.unusedVariables false
set_option linter.unusedSimpArgs false

theorem u3_0 {p : Prop} (h : p := by first | rfl | (simp; done) | (simp [*]; done)) : p := h
theorem u3_1 {p : Prop} (h : p := by repeat (first | exact Drawn0.refl _ | apply Drawn0.step)) : p := h
theorem u3_2 {p : Prop} (h : p := by first | (rw [hY]; with_reducible exact H) | (have H2_ := oS H; rw [hY]; with_reducible exact H2_) | (have H2_ := oS H; with_reducible exact H2_) | with_reducible exact H | (rw [hY]; exact H) | exact H) : p := h
theorem u3_3 {p : Prop} (h : p := by first | (go_simp; done) | (go_simp; rfl)) : p := h
theorem u3_4 {p : Prop} (h : p := by (with_reducible repeat (first | apply Kd.R_alloc | apply Kd.R_drewN | apply Kd.R_drew)); exact gA.out) : p := h
theorem u3_5 {p : Prop} (h : p := by (with_reducible repeat (first | apply Kd.S_alloc | apply Kd.S_drewN | apply Kd.S_drew)); exact bA.out) : p := h
theorem u3_6 {p : Prop} (h : p := by (with_reducible repeat (first | apply Kd.R_alloc | apply Kd.R_drewN | apply Kd.R_drew)); exact dO.out) : p := h
theorem u3_7 {p : Prop} (h : p := by (with_reducible repeat (first | apply Kd.R_alloc | apply Kd.R_drewN | apply Kd.R_drew)); exact bA.out) : p := h
/-! ### spec_l7Has: function 23 -/
def spec_l7Has.l0 : Nat → List Int → Int → Int → Option (Bool)
 | 0, _, _, _ => none
 | k + 1, x0, x1, x5 => if x5 < (x0.length : Int) then (if 0 ≤ x5 then (if (rd x0 x5) = x1 then (some true) else (spec_l7Has.l0 k x0 x1 (wrap64 (x5 + 1)))) else (none)) else (some false)
def spec_l7Has.f (k : Nat) (l0 : List Int) (a1 : Int) : Option (Bool) := spec_l7Has.l0 k l0 a1 0
theorem u3_mq0 {p : Prop} (h : p := by repeat' first | (with_reducible first | exact fF _ _ _ | exact LeO.refl _ | exact LeO.none _ | refine LeO.ite ?_ ?_ | refine LeO.bind ?_ (fun _ => ?_)) | exact LeO.none _ | refine LeO.ite ?_ ?_ | refine LeO.bind ?_ (fun _ => ?_)) : p := h
set_option maxRecDepth 100000 in
theorem spec_l7Has.mono_l : ∀ k, (∀ y0 y1 y2, LeO (spec_l7Has.l0 k y0 y1 y2) (spec_l7Has.l0 (k + 1) y0 y1 y2))
 | 0 => fun _ _ _ r h => by simp [spec_l7Has.l0] at h
 | k + 1 => by
  have fF := spec_l7Has.mono_l k
  ·intro y0 y1 y2; unfold spec_l7Has.l0; exact u3_mq0
theorem spec_l7Has.mono : ∀ a0 a1 k, LeO (spec_l7Has.f k a0 a1) (spec_l7Has.f (k + 1) a0 a1) := by
 intro a0 a1 k
 have fF := spec_l7Has.mono_l k
 unfold spec_l7Has.f
 exact u3_mq0
set_option maxHeartbeats 8000000 in
set_option maxRecDepth 100000 in
theorem spec_l7Has.calls (k : Nat) (A0 : Option Addr) (c0 : Nat) (l0 : List Int) (a1 : Int) (r : Bool) (w : World) (gB : Kd.C (Kd.int .i64) w A0 l0.length l0) (gE : l0.length ≤ c0) (h : spec_l7Has.f k l0 a1 = some r) :
 Calls Try.prog 23 #[.slice A0 l0.length c0, .int .i64 a1] w fun e w' => e = .returned (.bool r) ∧ Drawn0 w w' := by
 have fG := aM gB
 have nO := aM gE
 clear gB gE
 have H : (spec_l7Has.l0 k l0 a1 0) = some r := h
 clear h
 have H' := aM H
 clear H
 go_enter Try.func23, Try.ntmps23
 go_wp2
 go_loopg [5] k (fun kq v5 w' => ∃ (bH : Int), v5 = .int .i64 bH ∧ Aside0 (spec_l7Has.l0 kq l0 a1 bH = some r) ∧ Aside0 (kq ≤ k) ∧ Drawn0 w w')
 case atStart => exact ⟨(0), u3_0, H', ⟨Nat.le_refl _⟩, u3_1⟩
 case round =>
  clear H'; try clear c2
  try clear p2
  obtain ⟨bH, rfl, HA, HK1, ⟨m1, rfl⟩⟩ := hrel; cases gk with
  | zero => exact absurd HA.out (by simp [spec_l7Has.l0])
  | succ k1 =>
   have H := HA.out; clear HA; simp only [spec_l7Has.l0] at H; by_cases c3 : bH < (l0.length : Int)
   ·rw [if_pos c3] at H; have dZ : decide (bH < (l0.length : Int)) = true := decide_eq_true c3; clear c3; by_cases c4 : 0 ≤ bH
    ·rw [if_pos c4] at H; have iK : decide (0 ≤ bH) = true := decide_eq_true c4; clear c4; by_cases c5 : (rd l0 bH) = a1
     ·rw [if_pos c5] at H; obtain ⟨jR, nP⟩ := bT c5; clear c5; obtain rfl := Option.some.inj H; have p133 : 0 ≤ (bH : Int) := oda; have q133 : bH < (l0.length : Int) := oda; obtain ⟨jS, iL, gP⟩ := Kd.at_int fG.out bH p133 q133; cases iL
      replace p133 := eq_true p133; replace q133 := eq_true q133; go_wp2; go_ret
      exact ⟨u3_0, u3_1⟩
     ·rw [if_neg c5] at H; obtain ⟨jR, nP⟩ := bF c5; have H' := aM H; clear H; have p133 : 0 ≤ (bH : Int) := oda; have q133 : bH < (l0.length : Int) := oda; obtain ⟨jS, iL, gP⟩ := Kd.at_int fG.out bH p133 q133; cases iL
      replace p133 := eq_true p133; replace q133 := eq_true q133; go_wp2; go_roundg k1
      case measure => have := HK1.out; omega
      case rel => exact ⟨(wrap64 (bH + 1)), u3_0, H', ⟨by have := HK1.out; omega⟩, u3_1⟩
    ·rw [if_neg c4] at H; exact absurd H (by simp)
   ·rw [if_neg c3] at H; have dZ : decide (bH < (l0.length : Int)) = false := decide_eq_false c3; clear c3; obtain rfl := Option.some.inj H; go_wp2; go_ret
    exact ⟨u3_0, u3_1⟩

/-! ### spec_RollLacks: function 6 -/
mutual
def spec_RollLacks.j0 : Nat → Int → List Int → Bool → Int → List (S38) → Int → List Int → Option (List Int)
 | 0, _, _, _, _, _, _, _ => none
 | k + 1, x1, x5, rA, bL, aR, bM, bN => if rA = true then (some x5) else (spec_RollLacks.l0 k x1 x5 0 bL aR bM bN)
def spec_RollLacks.l0 : Nat → Int → List Int → Int → Int → List (S38) → Int → List Int → Option (List Int)
 | 0, _, _, _, _, _, _, _ => none
 | k + 1, x1, x5, x6, bL, aR, bM, bN => if x6 < (aR.length : Int) then (if 0 ≤ x6 then (if ((rd_T38 aR x6).f4) = 1 then ((spec_l7Has.f k ((rd_T38 aR x6).f3) x1).bind fun iM => (if iM = true then (spec_RollLacks.l0 k x1 x5 (wrap64 (x6 + 1)) bL aR bM bN) else (if x5.length < 17592186044416 then (spec_RollLacks.l0 k x1 (x5 ++ [(rd_T38 aR x6).f0]) (wrap64 (x6 + 1)) bL aR bM bN) else (none)))) else (spec_RollLacks.l0 k x1 x5 (wrap64 (x6 + 1)) bL aR bM bN)) else (none)) else (some x5)
end
def spec_RollLacks.f (k : Nat) (aC : Int) (aD : List (S38)) (aG : Int) (aE : List Int) (a1 : Int) : Option (List Int) := (some (([] : List Int) : List Int)).bind fun cE => ((spec_RollOk.f k aC aD aG aE).bind fun eA => (if eA = true then ((spec_l1In.f a1 0 (wrap64 (aC - 1))).bind fun dP => (spec_RollLacks.j0 k a1 cE (!dP) aC aD aG aE)) else (spec_RollLacks.j0 k a1 cE true aC aD aG aE)))
theorem u3_mq1 {p : Prop} (h : p := by repeat' first | (with_reducible first | exact fF _ _ _ _ _ _ _ | exact pO _ _ _ _ _ _ _ | exact spec_RollOk.mono _ _ _ _ _ | exact spec_l7Has.mono _ _ _ | exact LeO.refl _ | exact LeO.none _ | refine LeO.ite ?_ ?_ | refine LeO.bind ?_ (fun _ => ?_)) | exact LeO.none _ | refine LeO.ite ?_ ?_ | refine LeO.bind ?_ (fun _ => ?_)) : p := h
set_option maxRecDepth 100000 in
theorem spec_RollLacks.mono_l : ∀ k, (∀ y0 y1 y2 y3 y4 y5 y6, LeO (spec_RollLacks.j0 k y0 y1 y2 y3 y4 y5 y6) (spec_RollLacks.j0 (k + 1) y0 y1 y2 y3 y4 y5 y6)) ∧ (∀ y0 y1 y2 y3 y4 y5 y6, LeO (spec_RollLacks.l0 k y0 y1 y2 y3 y4 y5 y6) (spec_RollLacks.l0 (k + 1) y0 y1 y2 y3 y4 y5 y6))
 | 0 => ⟨fun _ _ _ _ _ _ _ r h => by simp [spec_RollLacks.j0] at h, fun _ _ _ _ _ _ _ r h => by simp [spec_RollLacks.l0] at h⟩
 | k + 1 => by
  obtain ⟨fF, pO⟩ := spec_RollLacks.mono_l k; refine ⟨?_, ?_⟩
  ·intro y0 y1 y2 y3 y4 y5 y6; unfold spec_RollLacks.j0; exact u3_mq1
  ·intro y0 y1 y2 y3 y4 y5 y6; unfold spec_RollLacks.l0; exact u3_mq1
theorem spec_RollLacks.mono : ∀ a0 a1 a2 a3 a4 k, LeO (spec_RollLacks.f k a0 a1 a2 a3 a4) (spec_RollLacks.f (k + 1) a0 a1 a2 a3 a4) := by
 intro a0 a1 a2 a3 a4 k
 obtain ⟨fF, pO⟩ := spec_RollLacks.mono_l k
 unfold spec_RollLacks.f
 exact u3_mq1
set_option maxHeartbeats 8000000 in
set_option maxRecDepth 100000 in
theorem spec_RollLacks.calls (k : Nat) (aC : Int) (cB : Option Addr) (bW : Nat) (aD : List (S38)) (aG : Int) (bC : Option Addr) (bE : Nat) (aE : List Int) (a1 : Int) (r : List Int) (w : World) (dQ : Kd.C k38 w cB aD.length aD) (dR : aD.length ≤ bW) (bX : Kd.C (Kd.int .i64) w bC aE.length aE) (bY : aE.length ≤ bE) (h : spec_RollLacks.f k aC aD aG aE a1 = some r) :
 Calls Try.prog 6 #[.agg #[.int .i64 aC, .slice cB aD.length bW, .int .i64 aG, .slice bC aE.length bE], .int .i64 a1] w fun e w' => ∃ v0_ : Value, e = .returned (v0_) ∧ Kd.R (Kd.int .i64) 3 w' w.heap.size (fun _ => True) v0_ r ∧ Below w.heap.size w w' := by
 have nQ := Try.underlying30
 have bI := aM dQ
 have eC := aM dR
 clear dQ dR
 have cJ := aM bX
 have cK := aM bY
 clear bX bY
 have HB := aM (Below.refl w.heap.size w)
 have H : ((some (([] : List Int) : List Int)).bind fun cE => ((spec_RollOk.f k aC aD aG aE).bind fun eA => (if eA = true then ((spec_l1In.f a1 0 (wrap64 (aC - 1))).bind fun dP => (spec_RollLacks.j0 k a1 cE (!dP) aC aD aG aE)) else (spec_RollLacks.j0 k a1 cE true aC aD aG aE)))) = some r := h
 clear h
 obtain ⟨cE, hY⟩ : ∃ y_ : List Int, y_ = (([] : List Int)) := ⟨_, rfl⟩
 replace H : ((spec_RollOk.f k aC aD aG aE).bind fun eA => (if eA = true then ((spec_l1In.f a1 0 (wrap64 (aC - 1))).bind fun dP => (spec_RollLacks.j0 k a1 cE (!dP) aC aD aG aE)) else (spec_RollLacks.j0 k a1 cE true aC aD aG aE))) = some r := u3_2
 have iH := aM hY
 clear hY
 have nR := aM H
 clear H
 go_enter Try.func6, Try.ntmps6
 go_upto_region 2 with (first | ((with_reducible refine gD 2 rfl ?_); refine boxE (N := 2) rfl (cs := #[.int .i64 aC, .slice cB aD.length bW, .int .i64 aG, .slice bC aE.length bE]) (t := 30) ?_; intro gF hg w4 hbox hb; have aK := aM (hbox); have pP := aM (xge hg); have pQ := aM (xge hg); replace HB := xbs hb; clear hb hbox hg) | ((with_reducible refine gD 7 rfl ?_); refine Kd.R_lit (Kd.int .i64) _ 3 ?hg (N := 7) ?hd (xs := ([] : List Int)) (inner := []) (ok := fun _ => True) (okp := fun _ => True) ?hr ?hp (fun _ hk => hk) trivial (Below.refl _ _) (Nat.le_refl _) (by simp) ?_; (case hd => rfl); (case hg => rfl); (case hr => exact u3_3); (case hp => exact (Reps.none _ _)); intro v136 w5 jT hb hg_ hnew_; clear hg_ hnew_; (first | rw [← iH.out] at jT | (simp only [Int.reduceToNat] at jT; rw [← iH.out] at jT)); have dO := aM (Kd.R_lower jT (below_size xbg)); replace aK := xbb aK hb; replace HB := xbs hb; clear hb jT))
 (try simp only [Act.put, List.setIfInBounds_toArray, List.set_cons_zero, List.set_cons_succ])
 go_cut [18] (fun v18 wc => ∃ (kq : Nat) (eD : Bool), v18 = .bool eD ∧ Aside0 (spec_RollLacks.j0 kq a1 cE eD aC aD aG aE = some r) ∧ Aside0 (kq ≤ k) ∧ Aside0 (Kd.R (Kd.int .i64) 3 wc w.heap.size (fun _ => True) v136 cE) ∧ Aside0 (wc.heap[gF]? = some (.cells #[.int .i64 aC, (.slice cB aD.length bW), .int .i64 aG, (.slice bC aE.length bE)] 30 (0, 0))) ∧ Aside0 (Below w.heap.size w wc))
 case first =>
  have H := nR.out; clear nR; replace H := oB H; obtain ⟨eA, pR, H⟩ := H; (try dsimp only at H); have A7 := aM pR; clear pR
  by_cases c8 : eA = true
  ·subst c8; replace H := iT H; replace H := oB H; obtain ⟨dP, pS, H⟩ := H; (try dsimp only at H); have A9 := aM pS; clear pS
   have H' := aM H; clear H; obtain ⟨cS, cT, cU, cV, cW, cX, cY, cZ⟩ := xf4 (w := w5) aK; go_wp2_with (first | ((with_reducible refine gC 21 rfl ?_); refine goesLY (some 9) rfl Try.func21 #[.agg #[.int .i64 aC, .slice cB aD.length bW, .int .i64 aG, .slice bC aE.length bE]] ?_; (with_reducible refine (spec_RollOk.calls k aC _ _ aD aG _ _ aE true _ ?side1 ?side2 ?side3 ?side4 A7.out).mono ?_); (case side1 => exact xcb bI); (case side2 => exact eC.out); (case side3 => exact xcb cJ); (case side4 => exact cK.out); rintro e cD ⟨rfl, hb⟩; refine ⟨_, rfl, ?_⟩; replace dO := xrb dO hb; replace aK := xbb aK hb; replace HB := xbs hb; (try clear hb); obtain ⟨eE, eF, eG, eH, eI, eJ, eK, eL⟩ := xf4 (w := cD) aK) | (go_at_call 22; (with_reducible refine (spec_l1In.calls a1 0 (wrap64 (aC - 1)) dP _ A9.out).mono ?_); rintro e w' ⟨rfl, ⟨nd, rfl⟩⟩))
   go_meet
   case rel => exact ⟨_, (!dP), u3_0, H', ⟨by first | omega | exact Nat.le_refl _⟩, ⟨u3_6⟩, ⟨xblk⟩, ⟨xbg⟩⟩
  ·replace c8 := Bool.eq_false_iff.mpr c8; subst c8; replace H := iN H; have H' := aM H; clear H; obtain ⟨dA, dB, dC, dD, dE, dF, dG, dH⟩ := xf4 (w := w5) aK; go_wp2_with (first | ((with_reducible refine gC 21 rfl ?_); refine goesLY (some 9) rfl Try.func21 #[.agg #[.int .i64 aC, .slice cB aD.length bW, .int .i64 aG, .slice bC aE.length bE]] ?_; (with_reducible refine (spec_RollOk.calls k aC _ _ aD aG _ _ aE false _ ?side1 ?side2 ?side3 ?side4 A7.out).mono ?_); (case side1 => exact xcb bI); (case side2 => exact eC.out); (case side3 => exact xcb cJ); (case side4 => exact cK.out); rintro e rL ⟨rfl, hb⟩; refine ⟨_, rfl, ?_⟩; replace dO := xrb dO hb; replace aK := xbb aK hb; replace HB := xbs hb; (try clear hb)))
   go_meet
   case rel => exact ⟨_, (true), u3_0, H', ⟨by first | omega | exact Nat.le_refl _⟩, ⟨u3_6⟩, ⟨xblk⟩, ⟨xbg⟩⟩
 case rest =>
  clear nR; try clear c2
  try clear p2
  try clear c6
  try clear p6
  try clear c8
  try clear cS cT cU cV
  try clear eE eF eG eH
  try clear dA dB dC dD
  try clear cW cX cY cZ
  try clear eI eJ eK eL
  try clear dE dF dG dH
  obtain ⟨kq, eD, rfl, HA, HJ2, gA, aK, HB⟩ := hcut; cases kq with
  | zero => exact absurd HA.out (by simp [spec_RollLacks.j0])
  | succ pT =>
   have H := HA.out; clear HA; simp only [spec_RollLacks.j0] at H; by_cases jU : eD = true
   ·subst jU; replace H := iT H; obtain rfl := Option.some.inj H; go_wp2; go_ret
    exact ⟨_, xerr, u3_4, xbg⟩
   ·replace jU := Bool.eq_false_iff.mpr jU; subst jU; replace H := iN H; have H' := aM H; clear H; go_wp2; go_loopg [5, 6] pT (fun kq v5 v6 w' => ∃ (dS : List Int) (aI : Int), v6 = .int .i64 aI ∧ Aside0 (spec_RollLacks.l0 kq a1 dS aI aC aD aG aE = some r) ∧ Aside0 (kq ≤ pT) ∧ Aside0 (Kd.R (Kd.int .i64) 3 w' w.heap.size (fun _ => True) v5 dS) ∧ Aside0 (w'.heap[gF]? = some (.cells #[.int .i64 aC, (.slice cB aD.length bW), .int .i64 aG, (.slice bC aE.length bE)] 30 (0, 0))) ∧ Aside0 (Below w.heap.size w w'))
    case atStart => exact ⟨(cE), (0), u3_0, H', ⟨Nat.le_refl _⟩, ⟨u3_4⟩, ⟨xblk⟩, ⟨xbg⟩⟩
    case round =>
     clear H'; try clear c1
     try clear c2
     try clear p2
     try clear c6
     try clear p6
     try clear c8
     try clear jU
     try clear cS cT cU cV
     try clear eE eF eG eH
     try clear dA dB dC dD
     try clear cW cX cY cZ
     try clear eI eJ eK eL
     try clear dE dF dG dH
     try clear p2
     try clear p6
     obtain ⟨dS, aI, rfl, HA, HK2, gA, aK, HB⟩ := hrel; cases gk with
     | zero => exact absurd HA.out (by simp [spec_RollLacks.l0])
     | succ k2 =>
      have H := HA.out; clear HA; simp only [spec_RollLacks.l0] at H; by_cases jP : aI < (aD.length : Int)
      ·rw [if_pos jP] at H; have jV : decide (aI < (aD.length : Int)) = true := decide_eq_true jP; clear jP; by_cases kU : 0 ≤ aI
       ·rw [if_pos kU] at H; have pW : decide (0 ≤ aI) = true := decide_eq_true kU; clear kU; by_cases jW : ((rd_T38 aD aI).f4) = 1
        ·rw [if_pos jW] at H; obtain ⟨jX, jY⟩ := bT jW; clear jW; replace H := oB H; obtain ⟨iM, jZ, H⟩ := H; (try dsimp only at H); have pX := aM jZ; clear jZ
         by_cases kV : iM = true
         ·subst kV; replace H := iT H; have H' := aM H; clear H; obtain ⟨kW, kX, kY, kZ, lA, lB, lC, lE⟩ := xf4 (w := wr) aK; have p140 : 0 ≤ (aI : Int) := oda; have q140 : aI < (aD.length : Int) := oda; obtain ⟨cL, gG, gH, gI, aT, aU, aV, aJ, aW, aX, hi140_3⟩ := at_T38 bI.out aI p140 q140; cases gI
          replace aT := xce HB aT; replace aU := xce HB aU; replace aV := xce HB aV; replace aJ := xce HB aJ; replace aW := xce HB aW; have eM := aM hi140_3; have eN := aM aX; clear hi140_3 aX; replace p140 := eq_true p140; replace q140 := eq_true q140; have p141 : 0 ≤ (aI : Int) := oda; have q141 : aI < (aD.length : Int) := oda; obtain ⟨gJ, iO, iP, iQ, bO, bP, bQ, bB, bR, bU, hi141_3⟩ := at_T38 bI.out aI p141 q141; obtain rfl : cL = gJ := (by injection iQ); replace bO := xce HB bO; replace bP := xce HB bP; replace bQ := xce HB bQ; replace bB := xce HB bB; replace bR := xce HB bR; have dI := aM hi141_3; have dJ := aM bU; clear hi141_3 bU; replace p141 := eq_true p141; replace q141 := eq_true q141; have ea_ := Option.some.inj (aJ.symm.trans bB); injection ea_ with ea_ en_ ec_
          subst ea_; subst ec_; clear en_; go_wp2_with (first | (go_at_call 23; (with_reducible refine (spec_l7Has.calls k2 _ _ ((rd_T38 aD aI).f3) a1 true _ ?side1 ?side2 pX.out).mono ?_); (case side1 => exact xcb dI); (case side2 => exact dJ.out); rintro e w' ⟨rfl, ⟨nd, rfl⟩⟩))
          go_roundg k2
          case measure => have := HJ2.out; have := HK2.out; omega
          case rel => exact ⟨(dS), (wrap64 (aI + 1)), u3_0, H', ⟨by have := HJ2.out; have := HK2.out; omega⟩, ⟨u3_4⟩, ⟨xblk⟩, ⟨xbg⟩⟩
         ·replace kV := Bool.eq_false_iff.mpr kV; subst kV; replace H := iN H; by_cases lF : dS.length < 17592186044416
          ·rw [if_pos lF] at H; have LMc22 := aM lF; clear lF; obtain ⟨kA, hY⟩ : ∃ y_ : List Int, y_ = (dS ++ [(rd_T38 aD aI).f0]) := ⟨_, rfl⟩; replace H : (spec_RollLacks.l0 k2 a1 kA (wrap64 (aI + 1)) aC aD aG aE) = some r := u3_2; have kB := aM hY; clear hY; have H' := aM H; clear H; obtain ⟨lG, lH, lI, lJ, lK, lL, lM, lN⟩ := xf4 (w := wr) aK; have p140 : 0 ≤ (aI : Int) := oda; have q140 : aI < (aD.length : Int) := oda; obtain ⟨cL, gG, gH, gI, aT, aU, aV, aJ, aW, aX, hi140_3⟩ := at_T38 bI.out aI p140 q140; cases gI
           replace aT := xce HB aT; replace aU := xce HB aU; replace aV := xce HB aV; replace aJ := xce HB aJ; replace aW := xce HB aW; have eM := aM hi140_3; have eN := aM aX; clear hi140_3 aX; replace p140 := eq_true p140; replace q140 := eq_true q140; have p141 : 0 ≤ (aI : Int) := oda; have q141 : aI < (aD.length : Int) := oda; obtain ⟨gJ, iO, iP, iQ, bO, bP, bQ, bB, bR, bU, hi141_3⟩ := at_T38 bI.out aI p141 q141; obtain rfl : cL = gJ := (by injection iQ); replace bO := xce HB bO; replace bP := xce HB bP; replace bQ := xce HB bQ; replace bB := xce HB bB; replace bR := xce HB bR; have dI := aM hi141_3; have dJ := aM bU; clear hi141_3 bU; replace p141 := eq_true p141; replace q141 := eq_true q141; have ea_ := Option.some.inj (aJ.symm.trans bB); injection ea_ with ea_ en_ ec_
           subst ea_; subst ec_; clear en_; go_wp2_with (first | (go_at_call 23; (with_reducible refine (spec_l7Has.calls k2 _ _ ((rd_T38 aD aI).f3) a1 false _ ?side1 ?side2 pX.out).mono ?_); (case side1 => exact xcb dI); (case side2 => exact dJ.out); rintro e w' ⟨rfl, ⟨nd, rfl⟩⟩; have p143 : 0 ≤ (aI : Int) := oda; have q143 : aI < (aD.length : Int) := oda; obtain ⟨kC, nS, nT, nU, eO, eP, eQ, dK, eR, eS, hi143_3⟩ := at_T38 bI.out aI p143 q143; obtain rfl : cL = kC := (by injection nU); replace eO := xce HB eO; replace eP := xce HB eP; replace eQ := xce HB eQ; replace dK := xce HB dK; replace eR := xce HB eR; have lO := aM hi143_3; have lP := aM eS; clear hi143_3 eS; replace p143 := eq_true p143; replace q143 := eq_true q143; have ea_ := Option.some.inj (aJ.symm.trans dK); injection ea_ with ea_ en_ ec_; subst ea_; subst ec_; clear en_) | ((with_reducible refine gate_builtin (b := .append) (xs := #[.tmp 45, .tmp 52]) rfl ?_); at_builtin; refine Kd.R_append (Kd.int .i64) (w0 := w) w.heap.size rfl (.tmp 45) (.tmp 52) 23 3 (.int .i64 0) 8 rfl Try.underlying23 info3 rfl (by decide) (by omega) u5 dS ((rd_T38 aD aI).f0) [.int .i64 ((rd_T38 aD aI).f0)] (fun _ => True) (fun _ => False) rfl rfl ?aP (fun _ hk => hk.elim) ?aF ?aO ?aB ?aS ?aL ?_; (case aP => exact rfl); (case aB => exact xbg); (case aF => exact (fun _ _ => trivial)); (case aO => exact (xr gA)); (case aS => exact (below_size xbg)); (case aL => have := LMc22.out; omega); intro v145 rM ho hb hg hat; rw [← kB.out] at ho; replace aK := aM (blk_grown (g := gF) (o := .cells #[.int .i64 aC, .slice (some cL) aD.length bW, .int .i64 aG, .slice bC aE.length bE] 30 (0, 0)) xblk hg (Kd.R_ne gA.out aK.out (by decide))); replace HB := aM (hb); have kE := aM (ho); clear gA; clear ho hb hg hat))
           go_roundg k2
           case measure => have := HJ2.out; have := HK2.out; omega
           case rel => exact ⟨(kA), (wrap64 (aI + 1)), u3_0, H', ⟨by have := HJ2.out; have := HK2.out; omega⟩, ⟨by (with_reducible repeat (first | apply Kd.R_alloc | apply Kd.R_drewN | apply Kd.R_drew)); exact kE.out⟩, ⟨xblk⟩, ⟨xbg⟩⟩
          ·rw [if_neg lF] at H; exact absurd H (by simp)
        ·rw [if_neg jW] at H; obtain ⟨jX, jY⟩ := bF jW; have H' := aM H; clear H; obtain ⟨lQ, lR, lS, lT, lU, lV, lW, lX⟩ := xf4 (w := wr) aK; have p140 : 0 ≤ (aI : Int) := oda; have q140 : aI < (aD.length : Int) := oda; obtain ⟨cL, gG, gH, gI, aT, aU, aV, aJ, aW, aX, hi140_3⟩ := at_T38 bI.out aI p140 q140; cases gI
         replace aT := xce HB aT; replace aU := xce HB aU; replace aV := xce HB aV; replace aJ := xce HB aJ; replace aW := xce HB aW; have eM := aM hi140_3; have eN := aM aX; clear hi140_3 aX; replace p140 := eq_true p140; replace q140 := eq_true q140; go_wp2; go_roundg k2
         case measure => have := HJ2.out; have := HK2.out; omega
         case rel => exact ⟨(dS), (wrap64 (aI + 1)), u3_0, H', ⟨by have := HJ2.out; have := HK2.out; omega⟩, ⟨u3_4⟩, ⟨xblk⟩, ⟨xbg⟩⟩
       ·rw [if_neg kU] at H; exact absurd H (by simp)
      ·rw [if_neg jP] at H; have jV : decide (aI < (aD.length : Int)) = false := decide_eq_false jP; clear jP; obtain rfl := Option.some.inj H; obtain ⟨lY, lZ, mA, mB, mC, mD, mE, mF⟩ := xf4 (w := wr) aK; go_wp2; go_ret
       exact ⟨_, xerr, u3_4, xbg⟩

/-! ### laws_toIntS: function 25 -/
def laws_toIntS.l0 : Nat → List Int → List Int → Int → Option (List Int)
 | 0, _, _, _ => none
 | k + 1, x0, x3, x4 => if x4 < (x0.length : Int) then (if 0 ≤ x4 then (if x4 < (x3.length : Int) then (laws_toIntS.l0 k x0 (x3.set (x4 : Int).toNat (rd x0 x4)) (wrap64 (x4 + 1))) else (none)) else (none)) else (some x3)
def laws_toIntS.f (k : Nat) (l0 : List Int) : Option (List Int) := if 0 ≤ (l0.length : Int) then (if ((l0.length : Int) : Int).toNat ≤ 35184372088832 then (laws_toIntS.l0 k l0 (List.replicate ((l0.length : Int) : Int).toNat 0) 0) else (none)) else (none)
set_option maxRecDepth 100000 in
theorem laws_toIntS.mono_l : ∀ k, (∀ y0 y1 y2, LeO (laws_toIntS.l0 k y0 y1 y2) (laws_toIntS.l0 (k + 1) y0 y1 y2))
 | 0 => fun _ _ _ r h => by simp [laws_toIntS.l0] at h
 | k + 1 => by
  have fF := laws_toIntS.mono_l k
  ·intro y0 y1 y2; unfold laws_toIntS.l0; exact u3_mq0
theorem laws_toIntS.mono : ∀ a0 k, LeO (laws_toIntS.f k a0) (laws_toIntS.f (k + 1) a0) := by
 intro a0 k
 have fF := laws_toIntS.mono_l k
 unfold laws_toIntS.f
 exact u3_mq0
set_option maxHeartbeats 8000000 in
set_option maxRecDepth 100000 in
theorem laws_toIntS.calls (k : Nat) (A0 : Option Addr) (c0 : Nat) (l0 : List Int) (r : List Int) (w : World) (gB : Kd.C (Kd.int .i64) w A0 l0.length l0) (gE : l0.length ≤ c0) (h : laws_toIntS.f k l0 = some r) :
 Calls Try.prog 25 #[.slice A0 l0.length c0] w fun e w' => ∃ v0_ : Value, e = .returned (v0_) ∧ Kd.R (Kd.int .i64) 3 w' w.heap.size (fun _ => True) v0_ r ∧ Below w.heap.size w w' := by
 have fG := aM gB
 have nO := aM gE
 clear gB gE
 have HB := aM (Below.refl w.heap.size w)
 have H : (if 0 ≤ (l0.length : Int) then (if ((l0.length : Int) : Int).toNat ≤ 35184372088832 then (laws_toIntS.l0 k l0 (List.replicate ((l0.length : Int) : Int).toNat 0) 0) else (none)) else (none)) = some r := h
 clear h
 by_cases c2 : 0 ≤ (l0.length : Int)
 ·rw [if_pos c2] at H; have iR := eq_true c2; have iS : decide (0 ≤ (l0.length : Int)) = true := decide_eq_true c2; clear c2; by_cases c3 : ((l0.length : Int) : Int).toNat ≤ 35184372088832
  ·rw [if_pos c3] at H; have dZ := eq_true c3; have iU : decide (((l0.length : Int) : Int).toNat ≤ 35184372088832) = true := decide_eq_true c3; clear c3; obtain ⟨kF, hY⟩ : ∃ y_ : List Int, y_ = (List.replicate ((l0.length : Int) : Int).toNat 0) := ⟨_, rfl⟩; replace H : (laws_toIntS.l0 k l0 kF 0) = some r := u3_2; have iI := aM hY; clear hY; have H' := aM H; clear H; go_enter Try.func25, Try.ntmps25
   go_wp2_with (first | ((with_reducible refine gD 7 rfl ?_); refine Kd.R_make (Kd.int .i64) _ 3 rfl (N := 7) rfl 23 _ _ rfl (l0.length : Int) rfl rfl Try.underlying23 (.int .i64 0) 8 info3 rfl (by decide) (by omega) 0 (ok := fun _ => True) (okp := fun _ => True) rfl (fun _ hk => hk) trivial (oda) (Nat.le_trans (Nat.mul_le_mul_right _ (oda : (l0.length : Int).toNat ≤ 35184372088832)) (by omega)) (Below.refl _ _) (Nat.le_refl _) ?_; intro v148 w4 gK hb hg_ hnew_; clear hg_ hnew_; (first | rw [← iI.out] at gK | (simp only [Int.reduceToNat] at gK; rw [← iI.out] at gK)); have kG := aM (Kd.R_lower gK (below_size xbel)); replace HB := xbs hb; clear hb gK))
   go_loopg [4] k (fun kq v4 w' => ∃ (aN : List Int) (aA : Int), v4 = .int .i64 aA ∧ Aside0 (laws_toIntS.l0 kq l0 aN aA = some r) ∧ Aside0 (kq ≤ k) ∧ Aside0 (Kd.R (Kd.int .i64) 3 w' w.heap.size (fun _ => True) v148 aN) ∧ Aside0 (Below w.heap.size w w'))
   case atStart => exact ⟨(kF), (0), u3_0, H', ⟨Nat.le_refl _⟩, ⟨by (with_reducible repeat (first | apply Kd.R_alloc | apply Kd.R_drewN | apply Kd.R_drew)); exact kG.out⟩, ⟨xbel⟩⟩
   case round =>
    clear H'; try clear c2
    try clear iR
    try clear iS
    try clear p2
    try clear c3
    try clear dZ
    try clear iU
    obtain ⟨aN, aA, rfl, HA, HK1, bA, HB⟩ := hrel; cases gk with
    | zero => exact absurd HA.out (by simp [laws_toIntS.l0])
    | succ k1 =>
     have H := HA.out; clear HA; simp only [laws_toIntS.l0] at H; by_cases c6 : aA < (l0.length : Int)
     ·rw [if_pos c6] at H; have iV : decide (aA < (l0.length : Int)) = true := decide_eq_true c6; clear c6; by_cases c7 : 0 ≤ aA
      ·rw [if_pos c7] at H; have nV : decide (0 ≤ aA) = true := decide_eq_true c7; clear c7; by_cases c8 : aA < (aN.length : Int)
       ·rw [if_pos c8] at H; have kH : decide (aA < (aN.length : Int)) = true := decide_eq_true c8; clear c8; obtain ⟨iW, hY⟩ : ∃ y_ : List Int, y_ = (aN.set (aA : Int).toNat (rd l0 aA)) := ⟨_, rfl⟩; replace H : (laws_toIntS.l0 k1 l0 iW (wrap64 (aA + 1))) = some r := u3_2; have kI := aM hY; clear hY; have H' := aM H; clear H; have p150 : 0 ≤ (aA : Int) := oda; have q150 : aA < (l0.length : Int) := oda; obtain ⟨pY, nW, eT⟩ := Kd.at_int fG.out aA p150 q150; cases nW
        replace eT := xce HB eT; replace p150 := eq_true p150; replace q150 := eq_true q150; have p9 : 0 ≤ (aA : Int) := oda; have q9 : (aA : Int) < ((aN.length : Int) : Int) := oda; obtain ⟨nX, rB, pZ, qA, gl9, cl9, HG9⟩ := Kd.R_form bA.out (by omega); (first | cases pZ | (injection pZ with ea_ en_ ec_; (first | subst ea_ | (injection ea_ with ea_; subst ea_)); subst ec_; clear en_)); have GB9 := aM qA; have GG9 := aM HG9; clear qA gl9 HG9; obtain ⟨qB, qC⟩ := Kd.R_celln 0 bA.out (aA : Int) p9 q9; replace p9 := eq_true p9; replace q9 := eq_true q9; have iX := Kd.R_putg bA.out (aA : Int) (rd l0 aA); go_wp2_with (first | ((with_reducible refine gate_store (t := 3) (p := 20) rfl ?_); refine store_event (t := 3) (p := 20) (v := ?vo_w11) (w1 := (wr.setCell ⟨nX, (aA : Int).toNat, none⟩ (.int .i64 (rd l0 aA)))) ?hg ?ho ?hn ?hr ?_; (case ho | hg | hn => rfl); (case hr => exact u3_3); intro cD hw; have hg : wr.grownBy cD (some nX) := (by rw [hw]; exact iX.2); have hp_ : Kd.R (Kd.int .i64) 3 cD w.heap.size (fun _ => True) (.slice (some ⟨nX, 0, none⟩) aN.length rB) iW := (by rw [hw, kI.out]; exact iX.1); clear iX; replace bA := aM (hp_); replace HB := aM ((by rw [hw]; exact below_set (HB.out) GB9.out : Below w.heap.size w cD)); clear hg hw hp_))
        go_roundg k1
        case measure => have := HK1.out; omega
        case rel => exact ⟨(iW), (wrap64 (aA + 1)), u3_0, H', ⟨by have := HK1.out; omega⟩, ⟨u3_7⟩, ⟨xbel⟩⟩
       ·rw [if_neg c8] at H; exact absurd H (by simp)
      ·rw [if_neg c7] at H; exact absurd H (by simp)
     ·rw [if_neg c6] at H; have iV : decide (aA < (l0.length : Int)) = false := decide_eq_false c6; clear c6; obtain rfl := Option.some.inj H; go_wp2; go_ret
      exact ⟨_, xerr, u3_7, xbel⟩
  ·rw [if_neg c3] at H; exact absurd H (by simp)
 ·rw [if_neg c2] at H; exact absurd H (by simp)

/-! ### laws_toRel: function 37 -/
def laws_toRel.f (k : Nat) (aC : Int) (cF : Int) (aG : ByteArray) (aE : List Int) (cG : Int) : Option (Int × Int × ByteArray × List Int × Int) := (laws_toIntS.f k aE).bind fun cC => (some (aC, cF, aG, cC, cG))
theorem u3_mq2 {p : Prop} (h : p := by repeat' first | (with_reducible first | exact laws_toIntS.mono _ _ | exact LeO.refl _ | exact LeO.none _ | refine LeO.ite ?_ ?_ | refine LeO.bind ?_ (fun _ => ?_)) | exact LeO.none _ | refine LeO.ite ?_ ?_ | refine LeO.bind ?_ (fun _ => ?_)) : p := h
theorem laws_toRel.mono : ∀ a0 a1 a2 a3 a4 k, LeO (laws_toRel.f k a0 a1 a2 a3 a4) (laws_toRel.f (k + 1) a0 a1 a2 a3 a4) := by
 intro a0 a1 a2 a3 a4 k
 unfold laws_toRel.f
 exact u3_mq2
set_option maxHeartbeats 8000000 in
set_option maxRecDepth 100000 in
theorem laws_toRel.calls (k : Nat) (aC : Int) (cF : Int) (aG : ByteArray) (bC : Option Addr) (bE : Nat) (aE : List Int) (cG : Int) (r1 : Int) (r2 : Int) (r3 : ByteArray) (r4 : List Int) (r5 : Int) (w : World) (bX : Kd.C (Kd.int .i64) w bC aE.length aE) (bY : aE.length ≤ bE) (h : laws_toRel.f k aC cF aG aE cG = some (r1, r2, r3, r4, r5)) :
 Calls Try.prog 37 #[.agg #[.int .i64 aC, .int .i64 cF, .string aG, .slice bC aE.length bE, .int .i64 cG]] w fun e w' => ∃ v3_ : Value, e = .returned (.agg #[.int .i64 r1, .int .i64 r2, .string r3, v3_, .int .i64 r5]) ∧ Kd.R (Kd.int .i64) 3 w' w.heap.size (fun _ => True) v3_ r4 ∧ Below w.heap.size w w' := by
 have nY := Try.underlying53
 have nZ := Try.underlying38
 have cJ := aM bX
 have cK := aM bY
 clear bX bY
 have HB := aM (Below.refl w.heap.size w)
 have H : ((laws_toIntS.f k aE).bind fun cC => (some (aC, cF, aG, cC, cG))) = some (r1, r2, r3, r4, r5) := h
 clear h
 replace H := oB H
 obtain ⟨cC, gL, H⟩ := H
 (try dsimp only at H)
 have A2 := aM gL
 clear gL
 simp only [Option.some.injEq, Prod.mk.injEq] at H
 obtain ⟨rfl, rfl, rfl, rfl, rfl⟩ := H
 go_enter Try.func37, Try.ntmps37
 go_wp2_with (first | ((with_reducible refine gD 1 rfl ?_); refine boxE (N := 1) rfl (cs := #[.int .i64 aC, .int .i64 cF, .string aG, .slice bC aE.length bE, .int .i64 cG]) (t := 53) ?_; intro qD hg w3 hbox hb; have aY := aM (hbox); have qE := aM (xge hg); have qF := aM (xge hg); replace HB := xbs hb; clear hb hbox hg) | ((with_reducible refine gD 2 rfl ?_); refine boxE (N := 2) rfl (cs := #[.int .i64 0, .int .i64 0, .string (⟨#[]⟩ : ByteArray), .slice none 0 0, .int .i64 0]) (t := 38) ?_; intro cH hg w4 hbox hb; have qG := aM (xge hg); have qH := aM (xge hg); replace HB := xbs hb; have fH := nblt aY hg; have fI := nbgt aY hg; replace aY := xbb aY hb; have bZ := aM (hbox); clear hb hbox hg) | ((with_reducible refine gD 3 rfl ?_); refine boxE (N := 3) rfl (cs := #[.int .i64 0, .int .i64 0, .string (⟨#[]⟩ : ByteArray), .slice none 0 0, .int .i64 0]) (t := 38) ?_; intro eU hg w5 hbox hb; have qI := aM (xge hg); have qJ := aM (xge hg); replace HB := xbs hb; have fJ := nblt aY hg; have fK := nbgt aY hg; have fL := nblt bZ hg; have fM := nbgt bZ hg; replace aY := xbb aY hb; replace bZ := xbb bZ hb; have eV := aM (hbox); clear hb hbox hg; have rC := fH.out; have rE := fI.out; have oA := fJ.out; have oC := fK.out; obtain ⟨oD, oE, oF, oG, oH, oI, oJ, oK, oL, oM⟩ := xf5 (w := w5) aY; have rF := fM.out; have rG := fL.out; obtain ⟨cS, cT, cU, cV, mG, cW, cX, cY, cZ, mH⟩ := xf5 (w := w5) eV) | ((with_reducible refine gC 25 rfl ?_); refine goesLY (some 15) rfl Try.func25 #[.slice bC aE.length bE] ?_; (with_reducible refine (laws_toIntS.calls k _ _ aE cC _ ?side1 ?side2 A2.out).mono ?_); (case side1 => exact Kd.C_below cJ.out xbg); (case side2 => exact cK.out); rintro e cD ⟨v156, rfl, fN, hb⟩; refine ⟨_, rfl, ?_⟩; have eW := aM (Kd.R_lower fN (below_size xbg)); replace aY := xbc aY hb; replace bZ := xbc bZ hb; replace eV := aM (blk_below (g := eU) (o := .cells #[.int .i64 aC, .int .i64 cF, .string aG, .slice none 0 0, .int .i64 0] 38 (0, 0)) xP hb); replace HB := xbs hb; (try clear hb fN); obtain ⟨fO, fP, oO⟩ := Kd.R_slice eW.out; subst oO; obtain ⟨dA, dB, dC, dD, mI, dE, dF, dG, dH, mJ⟩ := xf5 (w := cD) eV; obtain ⟨gQ, gR, gS, gT, mK, gU, gV, gW, gX, mL⟩ := xf5 (w := cD) aY; obtain ⟨gY, gZ, hJ, hU, mM, hX, hZ, iA, iB, mN⟩ := xf5 (w := cD) bZ) | ((with_reducible refine gate_store (t := 38) (p := 2) rfl ?_); refine store_event (t := 38) (p := 2) (v := ?vo_w16) (w1 := (((((((cD.setCell ⟨eU, 3, none⟩ (.slice fO cC.length fP)).setCell ⟨eU, 4, none⟩ (.int .i64 cG)).setCell ⟨cH, 0, none⟩ (.int .i64 aC)).setCell ⟨cH, 1, none⟩ (.int .i64 cF)).setCell ⟨cH, 2, none⟩ (.string aG)).setCell ⟨cH, 3, none⟩ (.slice fO cC.length fP)).setCell ⟨cH, 4, none⟩ (.int .i64 cG))) ?hg ?ho ?hn ?hr ?_; (case ho | hg | hn => rfl); (case hr => exact u3_3); intro iY hw; replace eW : Aside0 (Kd.R (Kd.int .i64) 3 iY w.heap.size (fun _ => True) (.slice fO cC.length fP) cC) := xwm hw eW (fun _ _ => trivial); replace aY := xwc hw aY; replace bZ : Aside0 (iY.heap[cH]? = some (.cells #[.int .i64 aC, .int .i64 cF, .string aG, .slice fO cC.length fP, .int .i64 cG] 38 (0, 0))) := xwp hw; replace eV : Aside0 (iY.heap[eU]? = some (.cells #[.int .i64 aC, .int .i64 cF, .string aG, .slice fO cC.length fP, .int .i64 cG] 38 (0, 0))) := xwp hw; replace HB := xbw hw HB; clear hw))
 refine bodyPost_ret (results_cell_row rfl _ _ cH 38 #[.int .i64 aC, .int .i64 cF, .string aG, .slice fO cC.length fP, .int .i64 cG] (0, 0) _ rfl xblk Try.underlying38 rfl (by kernel_rfl)) rfl ?_
 exact ⟨_, xerr, by (with_reducible repeat (first | apply Kd.R_alloc | apply Kd.R_drewN | apply Kd.R_drew)); exact eW.out, xbg⟩

/-! ### laws_toRelS: function 24 -/
def laws_toRelS.l0 : Nat → List (S53) → List (S38) → Int → Option ((List (S38)))
 | 0, _, _, _ => none
 | k + 1, x0, x3, x4 => if x4 < (x0.length : Int) then (if 0 ≤ x4 then ((laws_toRel.f k ((rd_T53 x0 x4).f0) ((rd_T53 x0 x4).f1) ((rd_T53 x0 x4).f2) ((rd_T53 x0 x4).f3) ((rd_T53 x0 x4).f4)).bind fun dU => (if x4 < (x3.length : Int) then (laws_toRelS.l0 k x0 (x3.set (x4 : Int).toNat (⟨dU.1, dU.2.1, dU.2.2.1, dU.2.2.2.1, dU.2.2.2.2⟩ : S38)) (wrap64 (x4 + 1))) else (none))) else (none)) else (some x3)
def laws_toRelS.f (k : Nat) (l0 : List (S53)) : Option ((List (S38))) := if 0 ≤ (l0.length : Int) then (if ((l0.length : Int) : Int).toNat ≤ 4398046511104 then (laws_toRelS.l0 k l0 (List.replicate ((l0.length : Int) : Int).toNat z38) 0) else (none)) else (none)
theorem u3_mq3 {p : Prop} (h : p := by repeat' first | (with_reducible first | exact fF _ _ _ | exact laws_toRel.mono _ _ _ _ _ _ | exact LeO.refl _ | exact LeO.none _ | refine LeO.ite ?_ ?_ | refine LeO.bind ?_ (fun _ => ?_)) | exact LeO.none _ | refine LeO.ite ?_ ?_ | refine LeO.bind ?_ (fun _ => ?_)) : p := h
set_option maxRecDepth 100000 in
theorem laws_toRelS.mono_l : ∀ k, (∀ y0 y1 y2, LeO (laws_toRelS.l0 k y0 y1 y2) (laws_toRelS.l0 (k + 1) y0 y1 y2))
 | 0 => fun _ _ _ r h => by simp [laws_toRelS.l0] at h
 | k + 1 => by
  have fF := laws_toRelS.mono_l k
  ·intro y0 y1 y2; unfold laws_toRelS.l0; exact u3_mq3
theorem laws_toRelS.mono : ∀ a0 k, LeO (laws_toRelS.f k a0) (laws_toRelS.f (k + 1) a0) := by
 intro a0 k
 have fF := laws_toRelS.mono_l k
 unfold laws_toRelS.f
 exact u3_mq3
set_option maxHeartbeats 8000000 in
set_option maxRecDepth 100000 in
theorem laws_toRelS.calls (k : Nat) (A0 : Option Addr) (c0 : Nat) (l0 : List (S53)) (r : List (S38)) (w : World) (gB : Kd.C k53 w A0 l0.length l0) (gE : l0.length ≤ c0) (h : laws_toRelS.f k l0 = some r) :
 Calls Try.prog 24 #[.slice A0 l0.length c0] w fun e w' => ∃ v0_ : Value, e = .returned (v0_) ∧ Kd.S k38 38 w' w.heap.size (fun _ => True) v0_ r ∧ Below w.heap.size w w' := by
 have nY := Try.underlying53
 have nZ := Try.underlying38
 have fG := aM gB
 have nO := aM gE
 clear gB gE
 have HB := aM (Below.refl w.heap.size w)
 have H : (if 0 ≤ (l0.length : Int) then (if ((l0.length : Int) : Int).toNat ≤ 4398046511104 then (laws_toRelS.l0 k l0 (List.replicate ((l0.length : Int) : Int).toNat z38) 0) else (none)) else (none)) = some r := h
 clear h
 by_cases c2 : 0 ≤ (l0.length : Int)
 ·rw [if_pos c2] at H; have iR := eq_true c2; have iS : decide (0 ≤ (l0.length : Int)) = true := decide_eq_true c2; clear c2; by_cases c3 : ((l0.length : Int) : Int).toNat ≤ 4398046511104
  ·rw [if_pos c3] at H; have dZ := eq_true c3; have iU : decide (((l0.length : Int) : Int).toNat ≤ 4398046511104) = true := decide_eq_true c3; clear c3; obtain ⟨kJ, hY⟩ : ∃ y_ : List (S38), y_ = (List.replicate ((l0.length : Int) : Int).toNat z38) := ⟨_, rfl⟩; replace H : (laws_toRelS.l0 k l0 kJ 0) = some r := u3_2; have iJ := aM hY; clear hY; have H' := aM H; clear H; go_enter Try.func24, Try.ntmps24
   go_wp2_with (first | ((with_reducible refine gD 7 rfl ?_); refine Kd.S_make k38 _ 38 rfl (N := 7) rfl 28 _ _ rfl (l0.length : Int) rfl rfl Try.underlying28 (.agg #[(.int .i64 0), (.int .i64 0), (.string ⟨#[]⟩), (.slice none 0 0), (.int .i64 0)]) 64 info38 rfl (by decide) (by omega) z38 (ok := fun _ => True) (okp := fun _ => True) (k38_mkM _ _ _ z38 (Kd.R_nil _ _ _ _ _)) (fun _ hk => hk) trivial (oda) (Nat.le_trans (Nat.mul_le_mul_right _ (oda : (l0.length : Int).toNat ≤ 4398046511104)) (by omega)) (Below.refl _ _) (Nat.le_refl _) ?_; intro v159 w4 gK hb hg_ hnew_; clear hg_ hnew_; (first | rw [← iJ.out] at gK | (simp only [Int.reduceToNat] at gK; rw [← iJ.out] at gK)); have kK := aM (Kd.S_lower gK (below_size xbel)); replace HB := xbs hb; clear hb gK))
   go_loopg [4] k (fun kq v4 w' => ∃ (aN : List (S38)) (aA : Int), v4 = .int .i64 aA ∧ Aside0 (laws_toRelS.l0 kq l0 aN aA = some r) ∧ Aside0 (kq ≤ k) ∧ Aside0 (Kd.S k38 38 w' w.heap.size (fun _ => True) v159 aN) ∧ Aside0 (Below w.heap.size w w'))
   case atStart => exact ⟨(kJ), (0), u3_0, H', ⟨Nat.le_refl _⟩, ⟨by (with_reducible repeat (first | apply Kd.S_alloc | apply Kd.S_drewN | apply Kd.S_drew)); exact kK.out⟩, ⟨xbel⟩⟩
   case round =>
    clear H'; try clear c2
    try clear iR
    try clear iS
    try clear p2
    try clear c3
    try clear dZ
    try clear iU
    obtain ⟨aN, aA, rfl, HA, HK1, bA, HB⟩ := hrel; cases gk with
    | zero => exact absurd HA.out (by simp [laws_toRelS.l0])
    | succ k1 =>
     have H := HA.out; clear HA; simp only [laws_toRelS.l0] at H; by_cases c6 : aA < (l0.length : Int)
     ·rw [if_pos c6] at H; have iV : decide (aA < (l0.length : Int)) = true := decide_eq_true c6; clear c6; by_cases c7 : 0 ≤ aA
      ·rw [if_pos c7] at H; have nV : decide (0 ≤ aA) = true := decide_eq_true c7; clear c7; replace H := oB H; obtain ⟨⟨fQ, fR, fS, dV, fT⟩, qK, H⟩ := H; (try dsimp only at H); have A8 := aM qK; clear qK
       by_cases c9 : aA < (aN.length : Int)
       ·rw [if_pos c9] at H; have rH : decide (aA < (aN.length : Int)) = true := decide_eq_true c9; clear c9; obtain ⟨iZ, hY⟩ : ∃ y_ : List (S38), y_ = (aN.set (aA : Int).toNat (⟨fQ, fR, fS, dV, fT⟩ : S38)) := ⟨_, rfl⟩; replace H : (laws_toRelS.l0 k1 l0 iZ (wrap64 (aA + 1))) = some r := u3_2; have kL := aM hY; clear hY; have H' := aM H; clear H; have p161 : 0 ≤ (aA : Int) := oda; have q161 : aA < (l0.length : Int) := oda; obtain ⟨qL, jA, jB, oP, eX, eY, eZ, fA, fB, fC, hi161_3⟩ := at_T53 fG.out aA p161 q161; cases oP
        replace eX := xce HB eX; replace eY := xce HB eY; replace eZ := xce HB eZ; replace fA := xce HB fA; replace fB := xce HB fB; have iC := aM hi161_3; have iD := aM fC; clear hi161_3 fC; replace p161 := eq_true p161; replace q161 := eq_true q161
        go_wp2_with (first | ((with_reducible refine gC 37 rfl ?_); refine goesLY (some 20) rfl Try.func37 #[.agg #[.int .i64 ((rd_T53 l0 aA).f0), .int .i64 ((rd_T53 l0 aA).f1), .string ((rd_T53 l0 aA).f2), .slice jA ((rd_T53 l0 aA).f3).length jB, .int .i64 ((rd_T53 l0 aA).f4)]] ?_; (with_reducible refine (laws_toRel.calls k1 ((rd_T53 l0 aA).f0) ((rd_T53 l0 aA).f1) ((rd_T53 l0 aA).f2) _ _ ((rd_T53 l0 aA).f3) ((rd_T53 l0 aA).f4) fQ fR fS dV fT _ ?side1 ?side2 A8.out).mono ?_); (case side1 => exact xcb iC); (case side2 => exact iD.out); rintro e cD ⟨v166, rfl, fN, hb⟩; refine ⟨_, rfl, ?_⟩; replace bA := aM (Kd.S_elder' u3_5 (Kd.R_base fN) hb); have fD := aM (Kd.R_lower fN (below_size xbel)); replace HB := xbs hb; (try clear hb fN); have p10 : 0 ≤ (aA : Int) := oda; have q10 : (aA : Int) < ((aN.length : Int) : Int) := oda; obtain ⟨aZ, kM, kN, kO, gl10, cl10, HG10⟩ := Kd.S_form bA.out (by omega); (first | cases kN | (injection kN with ea_ en_ ec_; (first | subst ea_ | (injection ea_ with ea_; subst ea_)); subst ec_; clear en_)); have GB10 := aM kO; have GG10 := aM HG10; clear kO gl10 HG10; obtain ⟨_, ce10, kP, kQ, cM, cN, _, _⟩ := Kd.S_elem bA.out z38 (aA : Int) p10 q10; obtain ⟨ve10_3, rfl, ge10_3⟩ := k38_openM kQ; have oQ : cD.cell? ⟨aZ, (aA : Int).toNat * 5, none⟩ = some (.int .i64 ((rd_T38 aN aA).f0)) := cM 0 _ rfl; have oR : cD.cell? ⟨aZ, (aA : Int).toNat * 5 + 1, none⟩ = some (.int .i64 ((rd_T38 aN aA).f1)) := cM 1 _ rfl; have oT : cD.cell? ⟨aZ, (aA : Int).toNat * 5 + 2, none⟩ = some (.string ((rd_T38 aN aA).f2)) := cM 2 _ rfl; have oU : cD.cell? ⟨aZ, (aA : Int).toNat * 5 + 3, none⟩ = some (ve10_3) := cM 3 _ rfl; have oV : cD.cell? ⟨aZ, (aA : Int).toNat * 5 + 4, none⟩ = some (.int .i64 ((rd_T38 aN aA).f4)) := cM 4 _ rfl; have oW : cD.frozen? ⟨aZ, (aA : Int).toNat * 5, none⟩ = false := cN 0; have oX : cD.frozen? ⟨aZ, (aA : Int).toNat * 5 + 1, none⟩ = false := cN 1; have oY : cD.frozen? ⟨aZ, (aA : Int).toNat * 5 + 2, none⟩ = false := cN 2; have oZ : cD.frozen? ⟨aZ, (aA : Int).toNat * 5 + 3, none⟩ = false := cN 3; have pA : cD.frozen? ⟨aZ, (aA : Int).toNat * 5 + 4, none⟩ = false := cN 4; clear kP cM cN kQ; replace p10 := eq_true p10; replace q10 := eq_true q10; obtain ⟨iE, iF, pB⟩ := Kd.R_slice fD.out; subst pB; have n_ := aM (Kd.S_mono (ok' := (fun k_ => some k_ ≠ (.slice iE dV.length iF : Value).ownBlock)) bA.out (fun k_ hk => hk.2)); clear bA; have bA := n_; clear n_; have pC := aM (show Kd.S k38 38 cD w.heap.size (fun k_ => ((fun _ => True)) k_ ∧ ¬ ((fun k_ => some k_ = (.slice iE dV.length iF : Value).ownBlock)) k_) (.slice (some ⟨aZ, 0, none⟩) aN.length kM) aN from (by (with_reducible repeat (first | apply Kd.S_alloc | apply Kd.S_drewN | apply Kd.S_drew)); exact Kd.S_mono bA.out (fun k_ hk => ⟨trivial, fun e_ => hk e_⟩))); obtain ⟨oki12, ce12, kR, kS, cO, cP, hoki12, hH12⟩ := Kd.S_elem pC.out z38 (aA : Int) (oda) (by have h_ : (aA : Int) < ((aN.length : Int) : Int) := oda; first | exact h_ | (have e_ := (Kd.S_reads' bA.out).1; omega) | simpa using h_); obtain ⟨ve12_3, rfl, ge12_3⟩ := k38_openM kS; have jC := Kd.S_seg hH12 (oda) (by have h_ : (aA : Int) < ((aN.length : Int) : Int) := oda; first | exact h_ | (have e_ := (Kd.S_reads' bA.out).1; omega) | simpa using h_) (seg := [.int .i64 fQ, .int .i64 fR, .string fS, .slice iE dV.length iF, .int .i64 fT]) (j := 0) (show 5 ≤ 5 from by decide) (x' := (⟨fQ, fR, fS, dV, fT⟩ : S38)) (k38_mkM _ _ _ (⟨fQ, fR, fS, dV, fT⟩ : S38) (Kd.R_mono (Kd.R_tight rfl (Kd.R_mono (ok' := fun k_ => ((fun _ => True)) k_ ∧ k_ ≠ aZ) (Kd.R_apart' (fD.out) (Kd.S_typed bA.out) (by decide)) (fun k_ hk => ⟨trivial, fun e_ => (hk.2) (by rw [e_]; rfl)⟩))) (fun _ h_ => Or.inr (h_)))) (fun _ hk => hk) (fun k_ hk_ => ((Kd.R_mono (ok' := fun k_ => ((fun _ => True)) k_ ∧ k_ ≠ aZ) (Kd.R_apart' (fD.out) (Kd.S_typed bA.out) (by decide)) (fun k_ hk => ⟨trivial, fun e_ => (hk.2) (by rw [e_]; rfl)⟩))).1 k_ hk_.symm); have jD := cO 0 _ rfl; (try simp only [show (k38).sz = 5 from rfl, Nat.mul_one, Nat.add_zero] at jD); have jE := cP 0; (try simp only [show (k38).sz = 5 from rfl, Nat.mul_one, Nat.add_zero] at jE); have jF := cO 1 _ rfl; (try simp only [show (k38).sz = 5 from rfl, Nat.mul_one, Nat.add_zero] at jF); have jG := cP 1; (try simp only [show (k38).sz = 5 from rfl, Nat.mul_one, Nat.add_zero] at jG); have jH := cO 2 _ rfl; (try simp only [show (k38).sz = 5 from rfl, Nat.mul_one, Nat.add_zero] at jH); have jI := cP 2; (try simp only [show (k38).sz = 5 from rfl, Nat.mul_one, Nat.add_zero] at jI); have jJ := cO 3 _ rfl; (try simp only [show (k38).sz = 5 from rfl, Nat.mul_one, Nat.add_zero] at jJ); have jK := cP 3; (try simp only [show (k38).sz = 5 from rfl, Nat.mul_one, Nat.add_zero] at jK); have jL := cO 4 _ rfl; (try simp only [show (k38).sz = 5 from rfl, Nat.mul_one, Nat.add_zero] at jL); have jM := cP 4; (try simp only [show (k38).sz = 5 from rfl, Nat.mul_one, Nat.add_zero] at jM); clear kR cO cP kS hoki12 hH12) | ((with_reducible refine gate_store (t := 38) (p := 21) rfl ?_); refine store_event (t := 38) (p := 21) (v := ?vo_w13) (w1 := (((((cD.setCell ⟨aZ, (aA : Int).toNat * 5, none⟩ (.int .i64 fQ)).setCell ⟨aZ, (aA : Int).toNat * 5 + 1, none⟩ (.int .i64 fR)).setCell ⟨aZ, (aA : Int).toNat * 5 + 2, none⟩ (.string fS)).setCell ⟨aZ, (aA : Int).toNat * 5 + 3, none⟩ (.slice iE dV.length iF)).setCell ⟨aZ, (aA : Int).toNat * 5 + 4, none⟩ (.int .i64 fT))) ?hg ?ho ?hn ?hr ?_; (case ho | hg | hn => rfl); (case hr => exact u3_3); intro pD hw; have hg : cD.grownBy pD (some aZ) := (by rw [hw]; exact jC.2); have hp_ : Kd.S k38 38 pD w.heap.size (fun _ => True) (.slice (some ⟨aZ, 0, none⟩) aN.length kM) iZ := (by rw [hw, kL.out]; exact jC.1); clear jC; replace bA := aM (hp_); replace HB := aM ((by rw [hw]; exact below_set (below_set (below_set (below_set (below_set (HB.out) GB10.out) GB10.out) GB10.out) GB10.out) GB10.out : Below w.heap.size w pD)); clear fD; clear hg hw hp_))
        go_roundg k1
        case measure => have := HK1.out; omega
        case rel => exact ⟨(iZ), (wrap64 (aA + 1)), u3_0, H', ⟨by have := HK1.out; omega⟩, ⟨u3_5⟩, ⟨xbel⟩⟩
       ·rw [if_neg c9] at H; exact absurd H (by simp)
      ·rw [if_neg c7] at H; exact absurd H (by simp)
     ·rw [if_neg c6] at H; have iV : decide (aA < (l0.length : Int)) = false := decide_eq_false c6; clear c6; obtain rfl := Option.some.inj H; go_wp2; go_ret
      exact ⟨_, xerr, u3_5, xbel⟩
  ·rw [if_neg c3] at H; exact absurd H (by simp)
 ·rw [if_neg c2] at H; exact absurd H (by simp)

/-! ### laws_toRoll: function 7 -/
def laws_toRoll.f (k : Nat) (aC : Int) (aD : List (S53)) (aG : Int) (aE : List Int) : Option (Int × (List (S38)) × Int × List Int) := (laws_toRelS.f k aD).bind fun bV => ((laws_toIntS.f k aE).bind fun bK => (some (aC, bV, aG, bK)))
theorem u3_mq4 {p : Prop} (h : p := by repeat' first | (with_reducible first | exact laws_toIntS.mono _ _ | exact laws_toRelS.mono _ _ | exact LeO.refl _ | exact LeO.none _ | refine LeO.ite ?_ ?_ | refine LeO.bind ?_ (fun _ => ?_)) | exact LeO.none _ | refine LeO.ite ?_ ?_ | refine LeO.bind ?_ (fun _ => ?_)) : p := h
theorem laws_toRoll.mono : ∀ a0 a1 a2 a3 k, LeO (laws_toRoll.f k a0 a1 a2 a3) (laws_toRoll.f (k + 1) a0 a1 a2 a3) := by
 intro a0 a1 a2 a3 k
 unfold laws_toRoll.f
 exact u3_mq4
set_option maxHeartbeats 8000000 in
set_option maxRecDepth 100000 in
theorem laws_toRoll.calls (k : Nat) (aC : Int) (cB : Option Addr) (bW : Nat) (aD : List (S53)) (aG : Int) (bC : Option Addr) (bE : Nat) (aE : List Int) (r1 : Int) (r2 : List (S38)) (r3 : Int) (r4 : List Int) (w : World) (dQ : Kd.C k53 w cB aD.length aD) (dR : aD.length ≤ bW) (bX : Kd.C (Kd.int .i64) w bC aE.length aE) (bY : aE.length ≤ bE) (h : laws_toRoll.f k aC aD aG aE = some (r1, r2, r3, r4)) :
 Calls Try.prog 7 #[.agg #[.int .i64 aC, .slice cB aD.length bW, .int .i64 aG, .slice bC aE.length bE]] w fun e w' => ∃ v1_ v3_ : Value, e = .returned (.agg #[.int .i64 r1, v1_, .int .i64 r3, v3_]) ∧ Kd.S k38 38 w' w.heap.size (fun k_ => some k_ ≠ (v3_ : Value).ownBlock) v1_ r2 ∧ Kd.R (Kd.int .i64) 3 w' w.heap.size (fun _ => True) v3_ r4 ∧ Below w.heap.size w w' := by
 have rI := Try.underlying25
 have nQ := Try.underlying30
 have bI := aM dQ
 have eC := aM dR
 clear dQ dR
 have cJ := aM bX
 have cK := aM bY
 clear bX bY
 have HB := aM (Below.refl w.heap.size w)
 have H : ((laws_toRelS.f k aD).bind fun bV => ((laws_toIntS.f k aE).bind fun bK => (some (aC, bV, aG, bK)))) = some (r1, r2, r3, r4) := h
 clear h
 replace H := oB H
 obtain ⟨bV, gL, H⟩ := H
 (try dsimp only at H)
 have A2 := aM gL
 clear gL
 replace H := oB H
 obtain ⟨bK, qM, H⟩ := H
 (try dsimp only at H)
 have A3 := aM qM
 clear qM
 simp only [Option.some.injEq, Prod.mk.injEq] at H
 obtain ⟨rfl, rfl, rfl, rfl⟩ := H
 go_enter Try.func7, Try.ntmps7
 go_wp2_with (first | ((with_reducible refine gD 1 rfl ?_); refine boxE (N := 1) rfl (cs := #[.int .i64 aC, .slice cB aD.length bW, .int .i64 aG, .slice bC aE.length bE]) (t := 25) ?_; intro qN hg w4 hbox hb; have aQ := aM (hbox); have qO := aM (xge hg); have qP := aM (xge hg); replace HB := xbs hb; clear hb hbox hg) | ((with_reducible refine gD 2 rfl ?_); refine boxE (N := 2) rfl (cs := #[.int .i64 0, .slice none 0 0, .int .i64 0, .slice none 0 0]) (t := 30) ?_; intro bJ hg w5 hbox hb; have qQ := aM (xge hg); have qR := aM (xge hg); replace HB := xbs hb; have fU := nblt aQ hg; have fV := nbgt aQ hg; replace aQ := xbb aQ hb; have bG := aM (hbox); clear hb hbox hg) | ((with_reducible refine gD 3 rfl ?_); refine boxE (N := 3) rfl (cs := #[.int .i64 0, .slice none 0 0, .int .i64 0, .slice none 0 0]) (t := 30) ?_; intro cI hg w6 hbox hb; have qS := aM (xge hg); have qT := aM (xge hg); replace HB := xbs hb; have fW := nblt aQ hg; have fX := nbgt aQ hg; have fY := nblt bG hg; have fZ := nbgt bG hg; replace aQ := xbb aQ hb; replace bG := xbb bG hb; have cA := aM (hbox); clear hb hbox hg; have oA := fU.out; have oC := fV.out; have rJ := fW.out; have rK := fX.out; obtain ⟨pE, pF, pG, pH, pI, pJ, pK, pL⟩ := xf4 (w := w6) aQ; have qU := fZ.out; have qV := fY.out; obtain ⟨mO, mP, mQ, mR, mS, mT, mU, mV⟩ := xf4 (w := w6) cA) | ((with_reducible refine gC 24 rfl ?_); refine goesLY (some 9) rfl Try.func24 #[.slice cB aD.length bW] ?_; (with_reducible refine (laws_toRelS.calls k _ _ aD bV _ ?side1 ?side2 A2.out).mono ?_); (case side1 => exact Kd.C_below bI.out xbg); (case side2 => exact eC.out); rintro e qW ⟨v174, rfl, fN, hb⟩; refine ⟨_, rfl, ?_⟩; have cQ := aM (Kd.S_lower fN (below_size xbg)); replace aQ := xbc aQ hb; replace bG := xbc bG hb; replace cA := aM (blk_below (g := cI) (o := .cells #[.int .i64 aC, .slice none 0 0, .int .i64 0, .slice none 0 0] 30 (0, 0)) xP hb); replace HB := xbs hb; (try clear hb fN); obtain ⟨dW, dX, pM⟩ := Kd.S_slice cQ.out; subst pM; obtain ⟨gQ, gR, gS, gT, gU, gV, gW, gX⟩ := xf4 (w := qW) cA; obtain ⟨gY, gZ, hJ, hU, hX, hZ, iA, iB⟩ := xf4 (w := qW) aQ) | ((with_reducible refine gC 25 rfl ?_); refine goesLY (some 16) rfl Try.func25 #[.slice bC aE.length bE] ?_; (with_reducible refine (laws_toIntS.calls k _ _ aE bK _ ?side1 ?side2 A3.out).mono ?_); (case side1 => exact Kd.C_below cJ.out xbg); (case side2 => exact cK.out); rintro e iY ⟨v177, rfl, fN, hb⟩; refine ⟨_, rfl, ?_⟩; replace cQ := aM (Kd.S_elder' (by (with_reducible repeat (first | apply Kd.S_alloc | apply Kd.S_drewN | apply Kd.S_drew)); exact (Kd.S_mono (Kd.S_far (p := ⟨cI, 2, none⟩) (Kd.S_far (p := ⟨cI, 1, none⟩) (Kd.S_types cQ.out cA.out (by decide)) (fun _ hk => hk.2) (.slice dW bV.length dX)) (fun _ hk => hk.2) (.int .i64 aG)) (fun _ h_ => h_.1))) (Kd.R_base fN) hb); have fE := aM (Kd.R_lower fN (below_size xbg)); replace aQ := xbc aQ hb; replace bG := xbc bG hb; replace cA := aM (blk_below (g := cI) (o := .cells #[.int .i64 aC, .slice dW bV.length dX, .int .i64 aG, .slice none 0 0] 30 (0, 0)) xP hb); replace HB := xbs hb; (try clear hb fN); obtain ⟨dL, dM, pN⟩ := Kd.R_slice fE.out; subst pN; obtain ⟨mW, mX, mY, mZ, nA, nB, nC, nD⟩ := xf4 (w := iY) cA; obtain ⟨nE, nF, nG, nH, nI, nJ, nK, nL⟩ := xf4 (w := iY) bG) | ((with_reducible refine gate_store (t := 30) (p := 2) rfl ?_); refine store_event (t := 30) (p := 2) (v := ?vo_w20) (w1 := (((((iY.setCell ⟨cI, 3, none⟩ (.slice dL bK.length dM)).setCell ⟨bJ, 0, none⟩ (.int .i64 aC)).setCell ⟨bJ, 1, none⟩ (.slice dW bV.length dX)).setCell ⟨bJ, 2, none⟩ (.int .i64 aG)).setCell ⟨bJ, 3, none⟩ (.slice dL bK.length dM))) ?hg ?ho ?hn ?hr ?_; (case ho | hg | hn => rfl); (case hr => exact u3_3); intro nM hw; replace cQ : Aside0 (Kd.S k38 38 nM w.heap.size (fun k_ => some k_ ≠ (.slice dL bK.length dM : Value).ownBlock) (.slice dW bV.length dX) bV) := ⟨(by rw [hw]; exact (by (with_reducible repeat (first | apply Kd.S_alloc | apply Kd.S_drewN | apply Kd.S_drew)); exact Kd.S_mono (Kd.S_far (p := ⟨bJ, 3, none⟩) (Kd.S_far (p := ⟨bJ, 2, none⟩) (Kd.S_far (p := ⟨bJ, 1, none⟩) (Kd.S_far (p := ⟨bJ, 0, none⟩) (Kd.S_far (p := ⟨cI, 3, none⟩) (Kd.S_types (Kd.S_types cQ.out cA.out (by decide)) bG.out (by decide)) (fun _ hk => hk.1.2) (.slice dL bK.length dM)) (fun _ hk => hk.2) (.int .i64 aC)) (fun _ hk => hk.2) (.slice dW bV.length dX)) (fun _ hk => hk.2) (.int .i64 aG)) (fun _ hk => hk.2) (.slice dL bK.length dM)) (fun _ hk => hk.1.1.2)))⟩; replace fE : Aside0 (Kd.R (Kd.int .i64) 3 nM w.heap.size (fun _ => True) (.slice dL bK.length dM) bK) := xwm hw fE (fun _ _ => trivial); replace aQ := xwc hw aQ; replace bG : Aside0 (nM.heap[bJ]? = some (.cells #[.int .i64 aC, .slice dW bV.length dX, .int .i64 aG, .slice dL bK.length dM] 30 (0, 0))) := xwp hw; replace cA : Aside0 (nM.heap[cI]? = some (.cells #[.int .i64 aC, .slice dW bV.length dX, .int .i64 aG, .slice dL bK.length dM] 30 (0, 0))) := xwp hw; replace HB := xbw hw HB; clear hw))
 refine bodyPost_ret (results_cell_row rfl _ _ bJ 30 #[.int .i64 aC, .slice dW bV.length dX, .int .i64 aG, .slice dL bK.length dM] (0, 0) _ rfl xblk Try.underlying30 rfl (by kernel_rfl)) rfl ?_
 exact ⟨_, _, xerr, by (with_reducible repeat (first | apply Kd.S_alloc | apply Kd.S_drewN | apply Kd.S_drew)); exact cQ.out, by (with_reducible repeat (first | apply Kd.R_alloc | apply Kd.R_drewN | apply Kd.R_drew)); exact fE.out, xbg⟩

/-! ### impl_within: function 27 -/
def impl_within.f (a0 : Int) (a1 : Int) (a2 : Int) : Option (Bool) := if a0 ≥ a1 then (some (decide (a0 ≤ a2))) else (some false)
set_option maxHeartbeats 8000000 in
set_option maxRecDepth 100000 in
theorem impl_within.calls (a0 : Int) (a1 : Int) (a2 : Int) (r : Bool) (w : World) (h : impl_within.f a0 a1 a2 = some r) :
 Calls Try.prog 27 #[.int .i64 a0, .int .i64 a1, .int .i64 a2] w fun e w' => e = .returned (.bool r) ∧ Drawn0 w w' := by
 have H : (if a0 ≥ a1 then (some (decide (a0 ≤ a2))) else (some false)) = some r := h
 clear h
 by_cases c4 : a0 ≥ a1
 ·rw [if_pos c4] at H; have iK : decide (a1 ≤ a0) = true := decide_eq_true c4; clear c4; obtain rfl := Option.some.inj H; go_enter Try.func27, Try.ntmps27
  go_wp2; go_ret
  exact ⟨u3_0, u3_1⟩
 ·rw [if_neg c4] at H; have iK : decide (a1 ≤ a0) = false := decide_eq_false c4; clear c4; obtain rfl := Option.some.inj H; go_enter Try.func27, Try.ntmps27
  go_wp2; go_ret
  exact ⟨u3_0, u3_1⟩

/-! ### impl_isRelease: function 38 -/
def impl_isRelease.f (a0 : Int) : Option (Bool) := (impl_within.f a0 1 1000).bind fun gM => (some gM)
set_option maxHeartbeats 8000000 in
set_option maxRecDepth 100000 in
theorem impl_isRelease.calls (a0 : Int) (r : Bool) (w : World) (h : impl_isRelease.f a0 = some r) :
 Calls Try.prog 38 #[.int .i64 a0] w fun e w' => e = .returned (.bool r) ∧ Drawn0 w w' := by
 have H : ((impl_within.f a0 1 1000).bind fun gM => (some gM)) = some r := h
 clear h
 replace H := oB H
 obtain ⟨gM, gL, H⟩ := H
 (try dsimp only at H)
 have A2 := aM gL
 clear gL
 obtain rfl := Option.some.inj H
 go_enter Try.func38, Try.ntmps38
 go_wp2_with (first | ((with_reducible refine gC 27 rfl ?_); refine goesLY (some 4) rfl Try.func27 #[.int .i64 a0, .int .i64 1, .int .i64 1000] ?_; (with_reducible refine (impl_within.calls a0 1 1000 gM _ A2.out).mono ?_); rintro e w' ⟨rfl, ⟨nd, rfl⟩⟩; refine ⟨_, rfl, ?_⟩))
 go_ret
 exact ⟨u3_0, u3_1⟩

/-! ### impl_isSize: function 39 -/
def impl_isSize.f (a0 : Int) : Option (Bool) := (impl_within.f a0 0 1000).bind fun gN => (some gN)
set_option maxHeartbeats 8000000 in
set_option maxRecDepth 100000 in
theorem impl_isSize.calls (a0 : Int) (r : Bool) (w : World) (h : impl_isSize.f a0 = some r) :
 Calls Try.prog 39 #[.int .i64 a0] w fun e w' => e = .returned (.bool r) ∧ Drawn0 w w' := by
 have H : ((impl_within.f a0 0 1000).bind fun gN => (some gN)) = some r := h
 clear h
 replace H := oB H
 obtain ⟨gN, gL, H⟩ := H
 (try dsimp only at H)
 have A2 := aM gL
 clear gL
 obtain rfl := Option.some.inj H
 go_enter Try.func39, Try.ntmps39
 go_wp2_with (first | ((with_reducible refine gC 27 rfl ?_); refine goesLY (some 4) rfl Try.func27 #[.int .i64 a0, .int .i64 0, .int .i64 1000] ?_; (with_reducible refine (impl_within.calls a0 0 1000 gN _ A2.out).mono ?_); rintro e w' ⟨rfl, ⟨nd, rfl⟩⟩; refine ⟨_, rfl, ?_⟩))
 go_ret
 exact ⟨u3_0, u3_1⟩

/-! ### impl_nodesAscend: function 40 -/
def impl_nodesAscend.l0 : Nat → List Int → Int → List Int → Int → Int → Option (Bool)
 | 0, _, _, _, _, _ => none
 | k + 1, x0, x1, x7, x8, x9 => if x9 < x8 then (if 0 ≤ x9 then (if x9 < (x7.length : Int) then ((impl_within.f (rd x7 x9) 0 (wrap64 (x1 - 1))).bind fun jN => (if jN = true then (if x9 > 0 then (if 0 ≤ (wrap64 (x9 - 1)) then (if (wrap64 (x9 - 1)) < (x0.length : Int) then (if (rd x0 (wrap64 (x9 - 1))) ≥ (rd x7 x9) then (some false) else (impl_nodesAscend.l0 k x0 x1 x7 x8 (wrap64 (x9 + 1)))) else (none)) else (none)) else (impl_nodesAscend.l0 k x0 x1 x7 x8 (wrap64 (x9 + 1)))) else (some false))) else (none)) else (none)) else (some true)
def impl_nodesAscend.f (k : Nat) (l0 : List Int) (a1 : Int) : Option (Bool) := impl_nodesAscend.l0 k l0 a1 l0 (l0.length : Int) 0
theorem u3_mq5 {p : Prop} (h : p := by repeat' first | (with_reducible first | exact fF _ _ _ _ _ | exact LeO.refl _ | exact LeO.none _ | refine LeO.ite ?_ ?_ | refine LeO.bind ?_ (fun _ => ?_)) | exact LeO.none _ | refine LeO.ite ?_ ?_ | refine LeO.bind ?_ (fun _ => ?_)) : p := h
set_option maxRecDepth 100000 in
theorem impl_nodesAscend.mono_l : ∀ k, (∀ y0 y1 y2 y3 y4, LeO (impl_nodesAscend.l0 k y0 y1 y2 y3 y4) (impl_nodesAscend.l0 (k + 1) y0 y1 y2 y3 y4))
 | 0 => fun _ _ _ _ _ r h => by simp [impl_nodesAscend.l0] at h
 | k + 1 => by
  have fF := impl_nodesAscend.mono_l k
  ·intro y0 y1 y2 y3 y4; unfold impl_nodesAscend.l0; exact u3_mq5
theorem impl_nodesAscend.mono : ∀ a0 a1 k, LeO (impl_nodesAscend.f k a0 a1) (impl_nodesAscend.f (k + 1) a0 a1) := by
 intro a0 a1 k
 have fF := impl_nodesAscend.mono_l k
 unfold impl_nodesAscend.f
 exact u3_mq5
set_option maxHeartbeats 8000000 in
set_option maxRecDepth 100000 in
theorem impl_nodesAscend.calls (k : Nat) (A0 : Option Addr) (c0 : Nat) (l0 : List Int) (a1 : Int) (r : Bool) (w : World) (gB : Kd.C (Kd.int .i64) w A0 l0.length l0) (gE : l0.length ≤ c0) (h : impl_nodesAscend.f k l0 a1 = some r) :
 Calls Try.prog 40 #[.slice A0 l0.length c0, .int .i64 a1] w fun e w' => e = .returned (.bool r) ∧ Drawn0 w w' := by
 have fG := aM gB
 have nO := aM gE
 clear gB gE
 have H : (impl_nodesAscend.l0 k l0 a1 l0 (l0.length : Int) 0) = some r := h
 clear h
 have H' := aM H
 clear H
 go_enter Try.func40, Try.ntmps40
 go_wp2
 go_loopg [9] k (fun kq v9 w' => ∃ (aH : Int), v9 = .int .i64 aH ∧ Aside0 (impl_nodesAscend.l0 kq l0 a1 l0 (l0.length : Int) aH = some r) ∧ Aside0 (kq ≤ k) ∧ Drawn0 w w')
 case atStart => exact ⟨(0), u3_0, H', ⟨Nat.le_refl _⟩, u3_1⟩
 case round =>
  clear H'; try clear p2
  obtain ⟨aH, rfl, HA, HK1, ⟨m1, rfl⟩⟩ := hrel; cases gk with
  | zero => exact absurd HA.out (by simp [impl_nodesAscend.l0])
  | succ k1 =>
   have H := HA.out; clear HA; simp only [impl_nodesAscend.l0] at H; by_cases c3 : aH < (l0.length : Int)
   ·rw [if_pos c3] at H; have dZ : decide (aH < (l0.length : Int)) = true := decide_eq_true c3; clear c3; by_cases c4 : 0 ≤ aH
    ·rw [if_pos c4] at H; have iK : decide (0 ≤ aH) = true := decide_eq_true c4; clear c4; by_cases c5 : aH < (l0.length : Int)
     ·rw [if_pos c5] at H; have jR : decide (aH < (l0.length : Int)) = true := decide_eq_true c5; clear c5; replace H := oB H; obtain ⟨jN, qX, H⟩ := H; (try dsimp only at H); have A6 := aM qX; clear qX
      by_cases c7 : jN = true
      ·subst c7; replace H := iT H; by_cases c8 : aH > 0
       ·rw [if_pos c8] at H; have kH : decide (0 < aH) = true := decide_eq_true c8; clear c8; obtain ⟨ji9, hji9⟩ : ∃ j_ : Int, (wrap64 (aH - 1)) = j_ := ⟨_, rfl⟩; replace H : (if 0 ≤ (ji9) then (if (ji9) < (l0.length : Int) then (if (rd l0 (ji9)) ≥ (rd l0 aH) then (some false) else (impl_nodesAscend.l0 k1 l0 a1 l0 (l0.length : Int) (wrap64 (aH + 1)))) else (none)) else (none)) = some r := by first | (rw [hji9] at H; exact H) | (simp only [hji9] at H ⊢; exact H)
        (try rw [hji9] at A6); have hji9w : (IntKind.i64.wrap (aH - 1)) = ji9 := (i64_w _).trans hji9; by_cases c10 : 0 ≤ (ji9)
        ·rw [if_pos c10] at H; have qY : decide (0 ≤ (ji9)) = true := decide_eq_true c10; clear c10; by_cases nN : (ji9) < (l0.length : Int)
         ·rw [if_pos nN] at H; have qZ : decide ((ji9) < (l0.length : Int)) = true := decide_eq_true nN; clear nN; by_cases jQ : (rd l0 (ji9)) ≥ (rd l0 aH)
          ·rw [if_pos jQ] at H; have kT : decide ((rd l0 aH) ≤ (rd l0 (ji9))) = true := decide_eq_true jQ; clear jQ; obtain rfl := Option.some.inj H; have p181 : 0 ≤ (aH : Int) := oda; have q181 : aH < (l0.length : Int) := oda; obtain ⟨dY, eB, dN⟩ := Kd.at_int fG.out aH p181 q181; cases eB
           replace p181 := eq_true p181; replace q181 := eq_true q181; go_wp2_with (first | ((with_reducible refine gC 27 rfl ?_); refine goesLY (some 17) rfl Try.func27 #[.int .i64 (rd l0 aH), .int .i64 0, .int .i64 (wrap64 (a1 - 1))] ?_; (with_reducible refine (impl_within.calls (rd l0 aH) 0 (wrap64 (a1 - 1)) true _ A6.out).mono ?_); rintro e w' ⟨rfl, ⟨nd, rfl⟩⟩; refine ⟨_, rfl, ?_⟩; have p183 : 0 ≤ ((ji9) : Int) := oda; have q183 : (ji9) < (l0.length : Int) := oda; obtain ⟨gO, jO, iG⟩ := Kd.at_int fG.out (ji9) p183 q183; obtain rfl : dY = gO := (by injection jO); replace p183 := eq_true p183; replace q183 := eq_true q183))
           go_ret
           exact ⟨by first | rfl | (simp; done) | (simp only [← hji9] <;> (first | rfl | simp)) | (simp [*]; done), u3_1⟩
          ·rw [if_neg jQ] at H; have kT : decide ((rd l0 aH) ≤ (rd l0 (ji9))) = false := decide_eq_false jQ; clear jQ; have H' := aM H; clear H; have p181 : 0 ≤ (aH : Int) := oda; have q181 : aH < (l0.length : Int) := oda; obtain ⟨dY, eB, dN⟩ := Kd.at_int fG.out aH p181 q181; cases eB
           replace p181 := eq_true p181; replace q181 := eq_true q181; go_wp2_with (first | ((with_reducible refine gC 27 rfl ?_); refine goesLY (some 17) rfl Try.func27 #[.int .i64 (rd l0 aH), .int .i64 0, .int .i64 (wrap64 (a1 - 1))] ?_; (with_reducible refine (impl_within.calls (rd l0 aH) 0 (wrap64 (a1 - 1)) true _ A6.out).mono ?_); rintro e w' ⟨rfl, ⟨nd, rfl⟩⟩; refine ⟨_, rfl, ?_⟩; have p183 : 0 ≤ ((ji9) : Int) := oda; have q183 : (ji9) < (l0.length : Int) := oda; obtain ⟨gO, jO, iG⟩ := Kd.at_int fG.out (ji9) p183 q183; obtain rfl : dY = gO := (by injection jO); replace p183 := eq_true p183; replace q183 := eq_true q183))
           go_roundg k1
           case measure => have := HK1.out; omega
           case rel => exact ⟨(wrap64 (aH + 1)), u3_0, H', ⟨by have := HK1.out; omega⟩, u3_1⟩
         ·rw [if_neg nN] at H; exact absurd H (by simp)
        ·rw [if_neg c10] at H; exact absurd H (by simp)
       ·rw [if_neg c8] at H; have kH : decide (0 < aH) = false := decide_eq_false c8; clear c8; have H' := aM H; clear H; have p181 : 0 ≤ (aH : Int) := oda; have q181 : aH < (l0.length : Int) := oda; obtain ⟨dY, eB, dN⟩ := Kd.at_int fG.out aH p181 q181; cases eB
        replace p181 := eq_true p181; replace q181 := eq_true q181; go_wp2_with (first | ((with_reducible refine gC 27 rfl ?_); refine goesLY (some 17) rfl Try.func27 #[.int .i64 (rd l0 aH), .int .i64 0, .int .i64 (wrap64 (a1 - 1))] ?_; (with_reducible refine (impl_within.calls (rd l0 aH) 0 (wrap64 (a1 - 1)) true _ A6.out).mono ?_); rintro e w' ⟨rfl, ⟨nd, rfl⟩⟩; refine ⟨_, rfl, ?_⟩))
        go_roundg k1
        case measure => have := HK1.out; omega
        case rel => exact ⟨(wrap64 (aH + 1)), u3_0, H', ⟨by have := HK1.out; omega⟩, u3_1⟩
      ·replace c7 := Bool.eq_false_iff.mpr c7; subst c7; replace H := iN H; obtain rfl := Option.some.inj H; have p181 : 0 ≤ (aH : Int) := oda; have q181 : aH < (l0.length : Int) := oda; obtain ⟨dY, eB, dN⟩ := Kd.at_int fG.out aH p181 q181; cases eB
       replace p181 := eq_true p181; replace q181 := eq_true q181; go_wp2_with (first | ((with_reducible refine gC 27 rfl ?_); refine goesLY (some 17) rfl Try.func27 #[.int .i64 (rd l0 aH), .int .i64 0, .int .i64 (wrap64 (a1 - 1))] ?_; (with_reducible refine (impl_within.calls (rd l0 aH) 0 (wrap64 (a1 - 1)) false _ A6.out).mono ?_); rintro e w' ⟨rfl, ⟨nd, rfl⟩⟩; refine ⟨_, rfl, ?_⟩))
       go_ret
       exact ⟨u3_0, u3_1⟩
     ·rw [if_neg c5] at H; exact absurd H (by simp)
    ·rw [if_neg c4] at H; exact absurd H (by simp)
   ·rw [if_neg c3] at H; have dZ : decide (aH < (l0.length : Int)) = false := decide_eq_false c3; clear c3; obtain rfl := Option.some.inj H; go_wp2; go_ret
    exact ⟨u3_0, u3_1⟩

end Go.Proofs.Ytppfnnpfamkclaa.QFnExactRollLacks
