-- A walk, by a program of this session.
import Derived.Test.YtppfnnpfamkclaaQFnExactRollFindx0
namespace Go.Proofs.Ytppfnnpfamkclaa.QFnExactRollFind
open Go.RowKit Go.Proofs.YtppfnnpfamkclaaW.PrintWords Go.Proofs.YtppfnnpfamkclaaW.PrintLast Go.Proofs.YtppfnnpfamkclaaW.PrintMore
attribute [local go_sem] max2_int min2_int max_two min_two max_three min_three max_four min_four   -- for this text's walks alone
set_option linter.unusedVariables false
set_option linter.unusedSimpArgs false

theorem u1_0 {p : Prop} (h : p := by first | rfl | (simp; done) | (simp [*]; done)) : p := h
theorem u1_1 {p : Prop} (h : p := by repeat (first | exact Drawn0.refl _ | apply Drawn0.step)) : p := h
theorem u1_2 {p : Prop} (h : p := by first | (rw [hY]; with_reducible exact H) | (have H2_ := oS H; rw [hY]; with_reducible exact H2_) | (have H2_ := oS H; with_reducible exact H2_) | with_reducible exact H | (rw [hY]; exact H) | exact H) : p := h
theorem u1_3 {p : Prop} (h : p := by first | (go_simp; done) | (go_simp; rfl)) : p := h
theorem u1_4 {p : Prop} (h : p := by (with_reducible repeat (first | apply Kd.S_alloc | apply Kd.S_drewN | apply Kd.S_drew)); exact aY.out) : p := h
theorem u1_5 {p : Prop} (h : p := by (with_reducible repeat (first | apply Kd.R_alloc | apply Kd.R_drewN | apply Kd.R_drew)); exact aY.out) : p := h
/-! ### laws_szIntS: function 20 -/
def laws_szIntS.f (l0 : List Int) (a1 : Int) : Option (Int) := if (wrap64 (a1 - (l0.length : Int))) < 0 then (some (-1)) else (some (wrap64 (a1 - (l0.length : Int))))
set_option maxHeartbeats 8000000 in
set_option maxRecDepth 100000 in
theorem laws_szIntS.calls (A0 : Option Addr) (c0 : Nat) (l0 : List Int) (a1 : Int) (r : Int) (w : World) (dM : Kd.C (Kd.int .i64) w A0 l0.length l0) (dN : l0.length ≤ c0) (h : laws_szIntS.f l0 a1 = some r) :
 Calls Try.prog 20 #[.slice A0 l0.length c0, .int .i64 a1] w fun e w' => e = .returned (.int .i64 r) ∧ Drawn0 w w' := by
 have fW := aM dM
 have kW := aM dN
 clear dM dN
 have H : (if (wrap64 (a1 - (l0.length : Int))) < 0 then (some (-1)) else (some (wrap64 (a1 - (l0.length : Int))))) = some r := h
 clear h
 by_cases c3 : (wrap64 (a1 - (l0.length : Int))) < 0
 ·rw [if_pos c3] at H; have bE : decide ((wrap64 (a1 - (l0.length : Int))) < 0) = true := decide_eq_true c3; clear c3; obtain rfl := Option.some.inj H; go_enter Try.func20, Try.ntmps20
  go_wp2; go_ret
  exact ⟨u1_0, u1_1⟩
 ·rw [if_neg c3] at H; have bE : decide ((wrap64 (a1 - (l0.length : Int))) < 0) = false := decide_eq_false c3; clear c3; obtain rfl := Option.some.inj H; go_enter Try.func20, Try.ntmps20
  go_wp2; go_ret
  exact ⟨u1_0, u1_1⟩

/-! ### laws_szRel: function 34 -/
def laws_szRel.f (aF : Int) (aK : Int) (aC : ByteArray) (aA : List Int) (aL : Int) (a1 : Int) : Option (Int) := if (wrap64 (a1 - (aC.size : Int))) < 0 then (some (-1)) else ((laws_szIntS.f aA (wrap64 (a1 - (aC.size : Int)))).bind fun bZ => (if bZ < 0 then (some (-1)) else (some bZ)))
set_option maxHeartbeats 8000000 in
set_option maxRecDepth 100000 in
theorem laws_szRel.calls (aF : Int) (aK : Int) (aC : ByteArray) (aI : Option Addr) (aJ : Nat) (aA : List Int) (aL : Int) (a1 : Int) (r : Int) (w : World) (aQ : Kd.C (Kd.int .i64) w aI aA.length aA) (aR : aA.length ≤ aJ) (h : laws_szRel.f aF aK aC aA aL a1 = some r) :
 Calls Try.prog 34 #[.agg #[.int .i64 aF, .int .i64 aK, .string aC, .slice aI aA.length aJ, .int .i64 aL], .int .i64 a1] w fun e w' => e = .returned (.int .i64 r) ∧ Below w.heap.size w w' := by
 have iQ := Try.underlying53
 have aT := aM aQ
 have aU := aM aR
 clear aQ aR
 have HB := aM (Below.refl w.heap.size w)
 have H : (if (wrap64 (a1 - (aC.size : Int))) < 0 then (some (-1)) else ((laws_szIntS.f aA (wrap64 (a1 - (aC.size : Int)))).bind fun bZ => (if bZ < 0 then (some (-1)) else (some bZ)))) = some r := h
 clear h
 by_cases c3 : (wrap64 (a1 - (aC.size : Int))) < 0
 ·rw [if_pos c3] at H; have bE : decide ((wrap64 (a1 - (aC.size : Int))) < 0) = true := decide_eq_true c3; clear c3; obtain rfl := Option.some.inj H; go_enter Try.func34, Try.ntmps34
  go_wp2_with (first | ((with_reducible refine gD 2 rfl ?_); refine boxE (N := 2) rfl (cs := #[.int .i64 aF, .int .i64 aK, .string aC, .slice aI aA.length aJ, .int .i64 aL]) (t := 53) ?_; intro iE hg w4 hbox hb; have cQ := aM (hbox); have iF := aM (xge hg); have iG := aM (xge hg); replace HB := xbs hb; clear hb hbox hg; obtain ⟨pQ, pR, pS, pT, pW, pX, pY, pZ, qA, qB⟩ := xf5 (w := w4) cQ))
  go_ret
  exact ⟨xerr, xbg⟩
 ·rw [if_neg c3] at H; have bE : decide ((wrap64 (a1 - (aC.size : Int))) < 0) = false := decide_eq_false c3; clear c3; replace H := oB H; obtain ⟨bZ, iH, H⟩ := H; (try dsimp only at H); have A6 := aM iH; clear iH
  by_cases c7 : bZ < 0
  ·rw [if_pos c7] at H; have dH : decide (bZ < 0) = true := decide_eq_true c7; clear c7; obtain rfl := Option.some.inj H; go_enter Try.func34, Try.ntmps34
   go_wp2_with (first | ((with_reducible refine gD 2 rfl ?_); refine boxE (N := 2) rfl (cs := #[.int .i64 aF, .int .i64 aK, .string aC, .slice aI aA.length aJ, .int .i64 aL]) (t := 53) ?_; intro iE hg w8 hbox hb; have cQ := aM (hbox); have iF := aM (xge hg); have iG := aM (xge hg); replace HB := xbs hb; clear hb hbox hg; obtain ⟨iR, iS, iU, iV, qC, iW, iX, iY, iZ, qD⟩ := xf5 (w := w8) cQ) | ((with_reducible refine gC 20 rfl ?_); refine goesLY (some 15) rfl Try.func20 #[.slice aI aA.length aJ, .int .i64 (wrap64 (a1 - (aC.size : Int)))] ?_; (with_reducible refine (laws_szIntS.calls _ _ aA (wrap64 (a1 - (aC.size : Int))) bZ _ ?side1 ?side2 A6.out).mono ?_); (case side1 => exact xcb aT); (case side2 => exact aU.out); rintro e w' ⟨rfl, ⟨nd, rfl⟩⟩; refine ⟨_, rfl, ?_⟩))
   go_ret
   exact ⟨xerr, xbg⟩
  ·rw [if_neg c7] at H; have dH : decide (bZ < 0) = false := decide_eq_false c7; clear c7; obtain rfl := Option.some.inj H; go_enter Try.func34, Try.ntmps34
   go_wp2_with (first | ((with_reducible refine gD 2 rfl ?_); refine boxE (N := 2) rfl (cs := #[.int .i64 aF, .int .i64 aK, .string aC, .slice aI aA.length aJ, .int .i64 aL]) (t := 53) ?_; intro iE hg jX hbox hb; have cQ := aM (hbox); have iF := aM (xge hg); have iG := aM (xge hg); replace HB := xbs hb; clear hb hbox hg; obtain ⟨dO, dP, dQ, dR, kX, dS, dU, dV, dW, kY⟩ := xf5 (w := jX) cQ) | ((with_reducible refine gC 20 rfl ?_); refine goesLY (some 15) rfl Try.func20 #[.slice aI aA.length aJ, .int .i64 (wrap64 (a1 - (aC.size : Int)))] ?_; (with_reducible refine (laws_szIntS.calls _ _ aA (wrap64 (a1 - (aC.size : Int))) bZ _ ?side1 ?side2 A6.out).mono ?_); (case side1 => exact xcb aT); (case side2 => exact aU.out); rintro e w' ⟨rfl, ⟨nd, rfl⟩⟩; refine ⟨_, rfl, ?_⟩))
   go_ret
   exact ⟨xerr, xbg⟩

/-! ### laws_szRelS: function 19 -/
def laws_szRelS.l0 : Nat → List (S53) → Int → Int → Option (Int)
 | 0, _, _, _ => none
 | k + 1, x0, x1, x5 => if x5 < (x0.length : Int) then (if 0 ≤ x5 then ((laws_szRel.f ((rd_T53 x0 x5).f0) ((rd_T53 x0 x5).f1) ((rd_T53 x0 x5).f2) ((rd_T53 x0 x5).f3) ((rd_T53 x0 x5).f4) x1).bind fun cL => (if cL < 0 then (some (-1)) else (laws_szRelS.l0 k x0 cL (wrap64 (x5 + 1))))) else (none)) else (some x1)
def laws_szRelS.f (k : Nat) (l0 : List (S53)) (a1 : Int) : Option (Int) := if (wrap64 (a1 - (l0.length : Int))) < 0 then (some (-1)) else (laws_szRelS.l0 k l0 (wrap64 (a1 - (l0.length : Int))) 0)
theorem u1_mq0 {p : Prop} (h : p := by repeat' first | (with_reducible first | exact fX _ _ _ | exact LeO.refl _ | exact LeO.none _ | refine LeO.ite ?_ ?_ | refine LeO.bind ?_ (fun _ => ?_)) | exact LeO.none _ | refine LeO.ite ?_ ?_ | refine LeO.bind ?_ (fun _ => ?_)) : p := h
set_option maxRecDepth 100000 in
theorem laws_szRelS.mono_l : ∀ k, (∀ y0 y1 y2, LeO (laws_szRelS.l0 k y0 y1 y2) (laws_szRelS.l0 (k + 1) y0 y1 y2))
 | 0 => fun _ _ _ r h => by simp [laws_szRelS.l0] at h
 | k + 1 => by
  have fX := laws_szRelS.mono_l k
  ·intro y0 y1 y2; unfold laws_szRelS.l0; exact u1_mq0
theorem laws_szRelS.mono : ∀ a0 a1 k, LeO (laws_szRelS.f k a0 a1) (laws_szRelS.f (k + 1) a0 a1) := by
 intro a0 a1 k
 have fX := laws_szRelS.mono_l k
 unfold laws_szRelS.f
 exact u1_mq0
set_option maxHeartbeats 8000000 in
set_option maxRecDepth 100000 in
theorem laws_szRelS.calls (k : Nat) (A0 : Option Addr) (c0 : Nat) (l0 : List (S53)) (a1 : Int) (r : Int) (w : World) (dM : Kd.C k53 w A0 l0.length l0) (dN : l0.length ≤ c0) (h : laws_szRelS.f k l0 a1 = some r) :
 Calls Try.prog 19 #[.slice A0 l0.length c0, .int .i64 a1] w fun e w' => e = .returned (.int .i64 r) ∧ Below w.heap.size w w' := by
 have iQ := Try.underlying53
 have fW := aM dM
 have kW := aM dN
 clear dM dN
 have HB := aM (Below.refl w.heap.size w)
 have H : (if (wrap64 (a1 - (l0.length : Int))) < 0 then (some (-1)) else (laws_szRelS.l0 k l0 (wrap64 (a1 - (l0.length : Int))) 0)) = some r := h
 clear h
 by_cases c3 : (wrap64 (a1 - (l0.length : Int))) < 0
 ·rw [if_pos c3] at H; have bE : decide ((wrap64 (a1 - (l0.length : Int))) < 0) = true := decide_eq_true c3; clear c3; obtain rfl := Option.some.inj H; go_enter Try.func19, Try.ntmps19
  go_wp2; go_ret
  exact ⟨xerr, xbel⟩
 ·rw [if_neg c3] at H; have bE : decide ((wrap64 (a1 - (l0.length : Int))) < 0) = false := decide_eq_false c3; clear c3; have H' := aM H; clear H; go_enter Try.func19, Try.ntmps19
  go_wp2; go_loopg [1, 5] k (fun kq v1 v5 w' => ∃ (dI : Int) (aD : Int), v1 = .int .i64 dI ∧ v5 = .int .i64 aD ∧ Aside0 (laws_szRelS.l0 kq l0 dI aD = some r) ∧ Aside0 (kq ≤ k) ∧ Aside0 (Below w.heap.size w w'))
  case atStart => exact ⟨(wrap64 (a1 - (l0.length : Int))), (0), u1_0, u1_0, H', ⟨Nat.le_refl _⟩, ⟨xbel⟩⟩
  case round =>
   clear H'; try clear c1
   try clear p2
   try clear c3
   try clear bE
   obtain ⟨dI, aD, rfl, rfl, HA, HK1, HB⟩ := hrel; cases gk with
   | zero => exact absurd HA.out (by simp [laws_szRelS.l0])
   | succ k1 =>
    have H := HA.out; clear HA; simp only [laws_szRelS.l0] at H; by_cases c4 : aD < (l0.length : Int)
    ·rw [if_pos c4] at H; have dJ : decide (aD < (l0.length : Int)) = true := decide_eq_true c4; clear c4; by_cases c5 : 0 ≤ aD
     ·rw [if_pos c5] at H; have jA : decide (0 ≤ aD) = true := decide_eq_true c5; clear c5; replace H := oB H; obtain ⟨cL, iH, H⟩ := H; (try dsimp only at H); have A6 := aM iH; clear iH
      by_cases c7 : cL < 0
      ·rw [if_pos c7] at H; have dH : decide (cL < 0) = true := decide_eq_true c7; clear c7; obtain rfl := Option.some.inj H; have p103 : 0 ≤ (aD : Int) := oda; have q103 : aD < (l0.length : Int) := oda; obtain ⟨jY, dK, dL, jB, bH, bI, bJ, bK, bL, bM, hi103_3⟩ := at_T53 fW.out aD p103 q103; cases jB
       replace bH := xce HB bH; replace bI := xce HB bI; replace bJ := xce HB bJ; replace bK := xce HB bK; replace bL := xce HB bL; have cM := aM hi103_3; have cN := aM bM; clear hi103_3 bM; replace p103 := eq_true p103; replace q103 := eq_true q103; go_wp2_with (first | ((with_reducible refine gC 34 rfl ?_); refine goesLY (some 23) rfl Try.func34 #[.agg #[.int .i64 ((rd_T53 l0 aD).f0), .int .i64 ((rd_T53 l0 aD).f1), .string ((rd_T53 l0 aD).f2), .slice dK ((rd_T53 l0 aD).f3).length dL, .int .i64 ((rd_T53 l0 aD).f4)], .int .i64 dI] ?_; (with_reducible refine (laws_szRel.calls ((rd_T53 l0 aD).f0) ((rd_T53 l0 aD).f1) ((rd_T53 l0 aD).f2) _ _ ((rd_T53 l0 aD).f3) ((rd_T53 l0 aD).f4) dI cL _ ?side1 ?side2 A6.out).mono ?_); (case side1 => exact xcb cM); (case side2 => exact cN.out); rintro e w8 ⟨rfl, hb⟩; refine ⟨_, rfl, ?_⟩; replace HB := xbs hb; (try clear hb)))
       go_ret
       exact ⟨xerr, xbel⟩
      ·rw [if_neg c7] at H; have dH : decide (cL < 0) = false := decide_eq_false c7; clear c7; have H' := aM H; clear H; have p103 : 0 ≤ (aD : Int) := oda; have q103 : aD < (l0.length : Int) := oda; obtain ⟨jY, dK, dL, jB, bH, bI, bJ, bK, bL, bM, hi103_3⟩ := at_T53 fW.out aD p103 q103; cases jB
       replace bH := xce HB bH; replace bI := xce HB bI; replace bJ := xce HB bJ; replace bK := xce HB bK; replace bL := xce HB bL; have cM := aM hi103_3; have cN := aM bM; clear hi103_3 bM; replace p103 := eq_true p103; replace q103 := eq_true q103; go_wp2_with (first | ((with_reducible refine gC 34 rfl ?_); refine goesLY (some 23) rfl Try.func34 #[.agg #[.int .i64 ((rd_T53 l0 aD).f0), .int .i64 ((rd_T53 l0 aD).f1), .string ((rd_T53 l0 aD).f2), .slice dK ((rd_T53 l0 aD).f3).length dL, .int .i64 ((rd_T53 l0 aD).f4)], .int .i64 dI] ?_; (with_reducible refine (laws_szRel.calls ((rd_T53 l0 aD).f0) ((rd_T53 l0 aD).f1) ((rd_T53 l0 aD).f2) _ _ ((rd_T53 l0 aD).f3) ((rd_T53 l0 aD).f4) dI cL _ ?side1 ?side2 A6.out).mono ?_); (case side1 => exact xcb cM); (case side2 => exact cN.out); rintro e w9 ⟨rfl, hb⟩; refine ⟨_, rfl, ?_⟩; replace HB := xbs hb; (try clear hb)))
       go_roundg k1
       case measure => have := HK1.out; omega
       case rel => exact ⟨(cL), (wrap64 (aD + 1)), u1_0, u1_0, H', ⟨by have := HK1.out; omega⟩, ⟨xbel⟩⟩
     ·rw [if_neg c5] at H; exact absurd H (by simp)
    ·rw [if_neg c4] at H; have dJ : decide (aD < (l0.length : Int)) = false := decide_eq_false c4; clear c4; obtain rfl := Option.some.inj H; go_wp2; go_ret
     exact ⟨xerr, xbel⟩

/-! ### laws_szRoll: function 5 -/
def laws_szRoll.f (k : Nat) (aF : Int) (aN : List (S53)) (aC : Int) (aA : List Int) (a1 : Int) : Option (Int) := (laws_szRelS.f k aN a1).bind fun bB => (if bB < 0 then (some (-1)) else ((laws_szIntS.f aA bB).bind fun cA => (if cA < 0 then (some (-1)) else (some cA))))
theorem u1_mq1 {p : Prop} (h : p := by repeat' first | (with_reducible first | exact laws_szRelS.mono _ _ _ | exact LeO.refl _ | exact LeO.none _ | refine LeO.ite ?_ ?_ | refine LeO.bind ?_ (fun _ => ?_)) | exact LeO.none _ | refine LeO.ite ?_ ?_ | refine LeO.bind ?_ (fun _ => ?_)) : p := h
theorem laws_szRoll.mono : ∀ a0 a1 a2 a3 a4 k, LeO (laws_szRoll.f k a0 a1 a2 a3 a4) (laws_szRoll.f (k + 1) a0 a1 a2 a3 a4) := by
 intro a0 a1 a2 a3 a4 k
 unfold laws_szRoll.f
 exact u1_mq1
set_option maxHeartbeats 8000000 in
set_option maxRecDepth 100000 in
theorem laws_szRoll.calls (k : Nat) (aF : Int) (bO : Option Addr) (bP : Nat) (aN : List (S53)) (aC : Int) (aI : Option Addr) (aJ : Nat) (aA : List Int) (a1 : Int) (r : Int) (w : World) (cS : Kd.C k53 w bO aN.length aN) (cT : aN.length ≤ bP) (aQ : Kd.C (Kd.int .i64) w aI aA.length aA) (aR : aA.length ≤ aJ) (h : laws_szRoll.f k aF aN aC aA a1 = some r) :
 Calls Try.prog 5 #[.agg #[.int .i64 aF, .slice bO aN.length bP, .int .i64 aC, .slice aI aA.length aJ], .int .i64 a1] w fun e w' => e = .returned (.int .i64 r) ∧ Below w.heap.size w w' := by
 have qE := Try.underlying25
 have cU := aM cS
 have cV := aM cT
 clear cS cT
 have aT := aM aQ
 have aU := aM aR
 clear aQ aR
 have HB := aM (Below.refl w.heap.size w)
 have H : ((laws_szRelS.f k aN a1).bind fun bB => (if bB < 0 then (some (-1)) else ((laws_szIntS.f aA bB).bind fun cA => (if cA < 0 then (some (-1)) else (some cA))))) = some r := h
 clear h
 replace H := oB H
 obtain ⟨bB, jZ, H⟩ := H
 (try dsimp only at H)
 have A3 := aM jZ
 clear jZ
 by_cases c4 : bB < 0
 ·rw [if_pos c4] at H; have dJ : decide (bB < 0) = true := decide_eq_true c4; clear c4; obtain rfl := Option.some.inj H; go_enter Try.func5, Try.ntmps5
  go_wp2_with (first | ((with_reducible refine gD 2 rfl ?_); refine boxE (N := 2) rfl (cs := #[.int .i64 aF, .slice bO aN.length bP, .int .i64 aC, .slice aI aA.length aJ]) (t := 25) ?_; intro iI hg w5 hbox hb; have aV := aM (hbox); have iJ := aM (xge hg); have iK := aM (xge hg); replace HB := xbs hb; clear hb hbox hg; obtain ⟨qF, qG, qH, qI, qJ, qK, qL, qM⟩ := xf4 (w := w5) aV) | ((with_reducible refine gC 19 rfl ?_); refine goesLY (some 8) rfl Try.func19 #[.slice bO aN.length bP, .int .i64 a1] ?_; (with_reducible refine (laws_szRelS.calls k _ _ aN a1 bB _ ?side1 ?side2 A3.out).mono ?_); (case side1 => exact xcb cU); (case side2 => exact cV.out); rintro e w7 ⟨rfl, hb⟩; refine ⟨_, rfl, ?_⟩; replace aV := xbb aV hb; replace HB := xbs hb; (try clear hb)))
  go_ret
  exact ⟨xerr, xbg⟩
 ·rw [if_neg c4] at H; have dJ : decide (bB < 0) = false := decide_eq_false c4; clear c4; replace H := oB H; obtain ⟨cA, kA, H⟩ := H; (try dsimp only at H); have A8 := aM kA; clear kA
  by_cases c9 : cA < 0
  ·rw [if_pos c9] at H; have kB : decide (cA < 0) = true := decide_eq_true c9; clear c9; obtain rfl := Option.some.inj H; go_enter Try.func5, Try.ntmps5
   go_wp2_with (first | ((with_reducible refine gD 2 rfl ?_); refine boxE (N := 2) rfl (cs := #[.int .i64 aF, .slice bO aN.length bP, .int .i64 aC, .slice aI aA.length aJ]) (t := 25) ?_; intro iI hg jX hbox hb; have aV := aM (hbox); have iJ := aM (xge hg); have iK := aM (xge hg); replace HB := xbs hb; clear hb hbox hg; obtain ⟨dO, dP, dQ, dR, dS, dU, dV, dW⟩ := xf4 (w := jX) aV) | ((with_reducible refine gC 19 rfl ?_); refine goesLY (some 8) rfl Try.func19 #[.slice bO aN.length bP, .int .i64 a1] ?_; (with_reducible refine (laws_szRelS.calls k _ _ aN a1 bB _ ?side1 ?side2 A3.out).mono ?_); (case side1 => exact xcb cU); (case side2 => exact cV.out); rintro e kZ ⟨rfl, hb⟩; refine ⟨_, rfl, ?_⟩; replace aV := xbb aV hb; replace HB := xbs hb; (try clear hb); obtain ⟨dX, dY, dZ, eA, eB, eC, eD, eE⟩ := xf4 (w := kZ) aV) | ((with_reducible refine gC 20 rfl ?_); refine goesLY (some 14) rfl Try.func20 #[.slice aI aA.length aJ, .int .i64 bB] ?_; (with_reducible refine (laws_szIntS.calls _ _ aA bB cA _ ?side1 ?side2 A8.out).mono ?_); (case side1 => exact xcb aT); (case side2 => exact aU.out); rintro e w' ⟨rfl, ⟨nd, rfl⟩⟩; refine ⟨_, rfl, ?_⟩))
   go_ret
   exact ⟨xerr, xbg⟩
  ·rw [if_neg c9] at H; have kB : decide (cA < 0) = false := decide_eq_false c9; clear c9; obtain rfl := Option.some.inj H; go_enter Try.func5, Try.ntmps5
   go_wp2_with (first | ((with_reducible refine gD 2 rfl ?_); refine boxE (N := 2) rfl (cs := #[.int .i64 aF, .slice bO aN.length bP, .int .i64 aC, .slice aI aA.length aJ]) (t := 25) ?_; intro iI hg rX hbox hb; have aV := aM (hbox); have iJ := aM (xge hg); have iK := aM (xge hg); replace HB := xbs hb; clear hb hbox hg; obtain ⟨eF, eG, eH, eI, eJ, eK, eL, eM⟩ := xf4 (w := rX) aV) | ((with_reducible refine gC 19 rfl ?_); refine goesLY (some 8) rfl Try.func19 #[.slice bO aN.length bP, .int .i64 a1] ?_; (with_reducible refine (laws_szRelS.calls k _ _ aN a1 bB _ ?side1 ?side2 A3.out).mono ?_); (case side1 => exact xcb cU); (case side2 => exact cV.out); rintro e fY ⟨rfl, hb⟩; refine ⟨_, rfl, ?_⟩; replace aV := xbb aV hb; replace HB := xbs hb; (try clear hb); obtain ⟨fZ, gA, gB, gE, gF, gG, gH, gI⟩ := xf4 (w := fY) aV) | ((with_reducible refine gC 20 rfl ?_); refine goesLY (some 14) rfl Try.func20 #[.slice aI aA.length aJ, .int .i64 bB] ?_; (with_reducible refine (laws_szIntS.calls _ _ aA bB cA _ ?side1 ?side2 A8.out).mono ?_); (case side1 => exact xcb aT); (case side2 => exact aU.out); rintro e w' ⟨rfl, ⟨nd, rfl⟩⟩; refine ⟨_, rfl, ?_⟩))
   go_ret
   exact ⟨xerr, xbg⟩

/-! ### laws_toIntS: function 25 -/
def laws_toIntS.l0 : Nat → List Int → List Int → Int → Option (List Int)
 | 0, _, _, _ => none
 | k + 1, x0, x3, x4 => if x4 < (x0.length : Int) then (if 0 ≤ x4 then (if x4 < (x3.length : Int) then (laws_toIntS.l0 k x0 (x3.set (x4 : Int).toNat (rd x0 x4)) (wrap64 (x4 + 1))) else (none)) else (none)) else (some x3)
def laws_toIntS.f (k : Nat) (l0 : List Int) : Option (List Int) := if 0 ≤ (l0.length : Int) then (if ((l0.length : Int) : Int).toNat ≤ 35184372088832 then (laws_toIntS.l0 k l0 (List.replicate ((l0.length : Int) : Int).toNat 0) 0) else (none)) else (none)
set_option maxRecDepth 100000 in
theorem laws_toIntS.mono_l : ∀ k, (∀ y0 y1 y2, LeO (laws_toIntS.l0 k y0 y1 y2) (laws_toIntS.l0 (k + 1) y0 y1 y2))
 | 0 => fun _ _ _ r h => by simp [laws_toIntS.l0] at h
 | k + 1 => by
  have fX := laws_toIntS.mono_l k
  ·intro y0 y1 y2; unfold laws_toIntS.l0; exact u1_mq0
theorem laws_toIntS.mono : ∀ a0 k, LeO (laws_toIntS.f k a0) (laws_toIntS.f (k + 1) a0) := by
 intro a0 k
 have fX := laws_toIntS.mono_l k
 unfold laws_toIntS.f
 exact u1_mq0
set_option maxHeartbeats 8000000 in
set_option maxRecDepth 100000 in
theorem laws_toIntS.calls (k : Nat) (A0 : Option Addr) (c0 : Nat) (l0 : List Int) (r : List Int) (w : World) (dM : Kd.C (Kd.int .i64) w A0 l0.length l0) (dN : l0.length ≤ c0) (h : laws_toIntS.f k l0 = some r) :
 Calls Try.prog 25 #[.slice A0 l0.length c0] w fun e w' => ∃ v0_ : Value, e = .returned (v0_) ∧ Kd.R (Kd.int .i64) 3 w' w.heap.size (fun _ => True) v0_ r ∧ Below w.heap.size w w' := by
 have fW := aM dM
 have kW := aM dN
 clear dM dN
 have HB := aM (Below.refl w.heap.size w)
 have H : (if 0 ≤ (l0.length : Int) then (if ((l0.length : Int) : Int).toNat ≤ 35184372088832 then (laws_toIntS.l0 k l0 (List.replicate ((l0.length : Int) : Int).toNat 0) 0) else (none)) else (none)) = some r := h
 clear h
 by_cases c2 : 0 ≤ (l0.length : Int)
 ·rw [if_pos c2] at H; have jC := eq_true c2; have jD : decide (0 ≤ (l0.length : Int)) = true := decide_eq_true c2; clear c2; by_cases c3 : ((l0.length : Int) : Int).toNat ≤ 35184372088832
  ·rw [if_pos c3] at H; have bE := eq_true c3; have cW : decide (((l0.length : Int) : Int).toNat ≤ 35184372088832) = true := decide_eq_true c3; clear c3; obtain ⟨kC, hY⟩ : ∃ y_ : List Int, y_ = (List.replicate ((l0.length : Int) : Int).toNat 0) := ⟨_, rfl⟩; replace H : (laws_toIntS.l0 k l0 kC 0) = some r := u1_2; have iL := aM hY; clear hY; have H' := aM H; clear H; go_enter Try.func25, Try.ntmps25
   go_wp2_with (first | ((with_reducible refine gD 7 rfl ?_); refine Kd.R_make (Kd.int .i64) _ 3 rfl (N := 7) rfl 23 _ _ rfl (l0.length : Int) rfl rfl Try.underlying23 (.int .i64 0) 8 info3 rfl (by decide) (by omega) 0 (ok := fun _ => True) (okp := fun _ => True) rfl (fun _ hk => hk) trivial (oda) (Nat.le_trans (Nat.mul_le_mul_right _ (oda : (l0.length : Int).toNat ≤ 35184372088832)) (by omega)) (Below.refl _ _) (Nat.le_refl _) ?_; intro v109 w4 fS hb hg_ hnew_; clear hg_ hnew_; (first | rw [← iL.out] at fS | (simp only [Int.reduceToNat] at fS; rw [← iL.out] at fS)); have kE := aM (Kd.R_lower fS (below_size xbel)); replace HB := xbs hb; clear hb fS))
   go_loopg [4] k (fun kq v4 w' => ∃ (aO : List Int) (aB : Int), v4 = .int .i64 aB ∧ Aside0 (laws_toIntS.l0 kq l0 aO aB = some r) ∧ Aside0 (kq ≤ k) ∧ Aside0 (Kd.R (Kd.int .i64) 3 w' w.heap.size (fun _ => True) v109 aO) ∧ Aside0 (Below w.heap.size w w'))
   case atStart => exact ⟨(kC), (0), u1_0, H', ⟨Nat.le_refl _⟩, ⟨by (with_reducible repeat (first | apply Kd.R_alloc | apply Kd.R_drewN | apply Kd.R_drew)); exact kE.out⟩, ⟨xbel⟩⟩
   case round =>
    clear H'; try clear c2
    try clear jC
    try clear jD
    try clear p2
    try clear c3
    try clear bE
    try clear cW
    obtain ⟨aO, aB, rfl, HA, HK1, aY, HB⟩ := hrel; cases gk with
    | zero => exact absurd HA.out (by simp [laws_toIntS.l0])
    | succ k1 =>
     have H := HA.out; clear HA; simp only [laws_toIntS.l0] at H; by_cases c6 : aB < (l0.length : Int)
     ·rw [if_pos c6] at H; have gJ : decide (aB < (l0.length : Int)) = true := decide_eq_true c6; clear c6; by_cases c7 : 0 ≤ aB
      ·rw [if_pos c7] at H; have dH : decide (0 ≤ aB) = true := decide_eq_true c7; clear c7; by_cases c8 : aB < (aO.length : Int)
       ·rw [if_pos c8] at H; have kF : decide (aB < (aO.length : Int)) = true := decide_eq_true c8; clear c8; obtain ⟨jE, hY⟩ : ∃ y_ : List Int, y_ = (aO.set (aB : Int).toNat (rd l0 aB)) := ⟨_, rfl⟩; replace H : (laws_toIntS.l0 k1 l0 jE (wrap64 (aB + 1))) = some r := u1_2; have kG := aM hY; clear hY; have H' := aM H; clear H; have p111 : 0 ≤ (aB : Int) := oda; have q111 : aB < (l0.length : Int) := oda; obtain ⟨rY, qN, eN⟩ := Kd.at_int fW.out aB p111 q111; cases qN
        replace eN := xce HB eN; replace p111 := eq_true p111; replace q111 := eq_true q111; have p9 : 0 ≤ (aB : Int) := oda; have q9 : (aB : Int) < ((aO.length : Int) : Int) := oda; obtain ⟨qO, tP, rZ, sA, gl9, cl9, HG9⟩ := Kd.R_form aY.out (by omega); (first | cases rZ | (injection rZ with ea_ en_ ec_; (first | subst ea_ | (injection ea_ with ea_; subst ea_)); subst ec_; clear en_)); have GB9 := aM sA; have GG9 := aM HG9; clear sA gl9 HG9; obtain ⟨sB, sC⟩ := Kd.R_celln 0 aY.out (aB : Int) p9 q9; replace p9 := eq_true p9; replace q9 := eq_true q9; have jF := Kd.R_putg aY.out (aB : Int) (rd l0 aB); go_wp2_with (first | ((with_reducible refine gate_store (t := 3) (p := 20) rfl ?_); refine store_event (t := 3) (p := 20) (v := ?vo_w11) (w1 := (wr.setCell ⟨qO, (aB : Int).toNat, none⟩ (.int .i64 (rd l0 aB)))) ?hg ?ho ?hn ?hr ?_; (case ho | hg | hn => rfl); (case hr => exact u1_3); intro cF hw; have hg : wr.grownBy cF (some qO) := (by rw [hw]; exact jF.2); have hp_ : Kd.R (Kd.int .i64) 3 cF w.heap.size (fun _ => True) (.slice (some ⟨qO, 0, none⟩) aO.length tP) jE := (by rw [hw, kG.out]; exact jF.1); clear jF; replace aY := aM (hp_); replace HB := aM ((by rw [hw]; exact below_set (HB.out) GB9.out : Below w.heap.size w cF)); clear hg hw hp_))
        go_roundg k1
        case measure => have := HK1.out; omega
        case rel => exact ⟨(jE), (wrap64 (aB + 1)), u1_0, H', ⟨by have := HK1.out; omega⟩, ⟨u1_5⟩, ⟨xbel⟩⟩
       ·rw [if_neg c8] at H; exact absurd H (by simp)
      ·rw [if_neg c7] at H; exact absurd H (by simp)
     ·rw [if_neg c6] at H; have gJ : decide (aB < (l0.length : Int)) = false := decide_eq_false c6; clear c6; obtain rfl := Option.some.inj H; go_wp2; go_ret
      exact ⟨_, xerr, u1_5, xbel⟩
  ·rw [if_neg c3] at H; exact absurd H (by simp)
 ·rw [if_neg c2] at H; exact absurd H (by simp)

/-! ### laws_toRel: function 37 -/
def laws_toRel.f (k : Nat) (aF : Int) (aK : Int) (aC : ByteArray) (aA : List Int) (aL : Int) : Option (Int × Int × ByteArray × List Int × Int) := (laws_toIntS.f k aA).bind fun bU => (some (aF, aK, aC, bU, aL))
theorem u1_mq2 {p : Prop} (h : p := by repeat' first | (with_reducible first | exact laws_toIntS.mono _ _ | exact LeO.refl _ | exact LeO.none _ | refine LeO.ite ?_ ?_ | refine LeO.bind ?_ (fun _ => ?_)) | exact LeO.none _ | refine LeO.ite ?_ ?_ | refine LeO.bind ?_ (fun _ => ?_)) : p := h
theorem laws_toRel.mono : ∀ a0 a1 a2 a3 a4 k, LeO (laws_toRel.f k a0 a1 a2 a3 a4) (laws_toRel.f (k + 1) a0 a1 a2 a3 a4) := by
 intro a0 a1 a2 a3 a4 k
 unfold laws_toRel.f
 exact u1_mq2
set_option maxHeartbeats 8000000 in
set_option maxRecDepth 100000 in
theorem laws_toRel.calls (k : Nat) (aF : Int) (aK : Int) (aC : ByteArray) (aI : Option Addr) (aJ : Nat) (aA : List Int) (aL : Int) (r1 : Int) (r2 : Int) (r3 : ByteArray) (r4 : List Int) (r5 : Int) (w : World) (aQ : Kd.C (Kd.int .i64) w aI aA.length aA) (aR : aA.length ≤ aJ) (h : laws_toRel.f k aF aK aC aA aL = some (r1, r2, r3, r4, r5)) :
 Calls Try.prog 37 #[.agg #[.int .i64 aF, .int .i64 aK, .string aC, .slice aI aA.length aJ, .int .i64 aL]] w fun e w' => ∃ v3_ : Value, e = .returned (.agg #[.int .i64 r1, .int .i64 r2, .string r3, v3_, .int .i64 r5]) ∧ Kd.R (Kd.int .i64) 3 w' w.heap.size (fun _ => True) v3_ r4 ∧ Below w.heap.size w w' := by
 have iQ := Try.underlying53
 have kH := Try.underlying38
 have aT := aM aQ
 have aU := aM aR
 clear aQ aR
 have HB := aM (Below.refl w.heap.size w)
 have H : ((laws_toIntS.f k aA).bind fun bU => (some (aF, aK, aC, bU, aL))) = some (r1, r2, r3, r4, r5) := h
 clear h
 replace H := oB H
 obtain ⟨bU, kI, H⟩ := H
 (try dsimp only at H)
 have A2 := aM kI
 clear kI
 simp only [Option.some.injEq, Prod.mk.injEq] at H
 obtain ⟨rfl, rfl, rfl, rfl, rfl⟩ := H
 go_enter Try.func37, Try.ntmps37
 go_wp2_with (first | ((with_reducible refine gD 1 rfl ?_); refine boxE (N := 1) rfl (cs := #[.int .i64 aF, .int .i64 aK, .string aC, .slice aI aA.length aJ, .int .i64 aL]) (t := 53) ?_; intro sD hg w3 hbox hb; have aS := aM (hbox); have sE := aM (xge hg); have sF := aM (xge hg); replace HB := xbs hb; clear hb hbox hg) | ((with_reducible refine gD 2 rfl ?_); refine boxE (N := 2) rfl (cs := #[.int .i64 0, .int .i64 0, .string (⟨#[]⟩ : ByteArray), .slice none 0 0, .int .i64 0]) (t := 38) ?_; intro cB hg w4 hbox hb; have sG := aM (xge hg); have sH := aM (xge hg); replace HB := xbs hb; have eZ := nblt aS hg; have fA := nbgt aS hg; replace aS := xbb aS hb; have bQ := aM (hbox); clear hb hbox hg) | ((with_reducible refine gD 3 rfl ?_); refine boxE (N := 3) rfl (cs := #[.int .i64 0, .int .i64 0, .string (⟨#[]⟩ : ByteArray), .slice none 0 0, .int .i64 0]) (t := 38) ?_; intro eO hg w5 hbox hb; have sI := aM (xge hg); have sJ := aM (xge hg); replace HB := xbs hb; have fB := nblt aS hg; have fC := nbgt aS hg; have fD := nblt bQ hg; have fE := nbgt bQ hg; replace aS := xbb aS hb; replace bQ := xbb bQ hb; have eP := aM (hbox); clear hb hbox hg; have tQ := eZ.out; have tR := fA.out; have qP := fB.out; have qQ := fC.out; obtain ⟨qR, qS, qT, qU, qV, qW, qX, qY, qZ, rA⟩ := xf5 (w := w5) aS; have tS := fE.out; have tT := fD.out; obtain ⟨lA, lB, lC, lE, lF, lG, lH, lI, lJ, lK⟩ := xf5 (w := w5) eP) | ((with_reducible refine gC 25 rfl ?_); refine goesLY (some 15) rfl Try.func25 #[.slice aI aA.length aJ] ?_; (with_reducible refine (laws_toIntS.calls k _ _ aA bU _ ?side1 ?side2 A2.out).mono ?_); (case side1 => exact Kd.C_below aT.out xbg); (case side2 => exact aU.out); rintro e cF ⟨v117, rfl, fF, hb⟩; refine ⟨_, rfl, ?_⟩; have eQ := aM (Kd.R_lower fF (below_size xbg)); replace aS := xbc aS hb; replace bQ := xbc bQ hb; replace eP := aM (blk_below (g := eO) (o := .cells #[.int .i64 aF, .int .i64 aK, .string aC, .slice none 0 0, .int .i64 0] 38 (0, 0)) xP hb); replace HB := xbs hb; (try clear hb fF); obtain ⟨fG, fH, rB⟩ := Kd.R_slice eQ.out; subst rB; obtain ⟨dX, dY, dZ, eA, gK, eB, eC, eD, eE, gL⟩ := xf5 (w := cF) eP; obtain ⟨gM, gN, gO, gP, lL, gQ, gR, gS, gT, lM⟩ := xf5 (w := cF) aS; obtain ⟨eF, eG, eH, eI, lN, eJ, eK, eL, eM, lO⟩ := xf5 (w := cF) bQ) | ((with_reducible refine gate_store (t := 38) (p := 2) rfl ?_); refine store_event (t := 38) (p := 2) (v := ?vo_w16) (w1 := (((((((cF.setCell ⟨eO, 3, none⟩ (.slice fG bU.length fH)).setCell ⟨eO, 4, none⟩ (.int .i64 aL)).setCell ⟨cB, 0, none⟩ (.int .i64 aF)).setCell ⟨cB, 1, none⟩ (.int .i64 aK)).setCell ⟨cB, 2, none⟩ (.string aC)).setCell ⟨cB, 3, none⟩ (.slice fG bU.length fH)).setCell ⟨cB, 4, none⟩ (.int .i64 aL))) ?hg ?ho ?hn ?hr ?_; (case ho | hg | hn => rfl); (case hr => exact u1_3); intro fY hw; replace eQ : Aside0 (Kd.R (Kd.int .i64) 3 fY w.heap.size (fun _ => True) (.slice fG bU.length fH) bU) := xwm hw eQ (fun _ _ => trivial); replace aS := xwc hw aS; replace bQ : Aside0 (fY.heap[cB]? = some (.cells #[.int .i64 aF, .int .i64 aK, .string aC, .slice fG bU.length fH, .int .i64 aL] 38 (0, 0))) := xwp hw; replace eP : Aside0 (fY.heap[eO]? = some (.cells #[.int .i64 aF, .int .i64 aK, .string aC, .slice fG bU.length fH, .int .i64 aL] 38 (0, 0))) := xwp hw; replace HB := xbw hw HB; clear hw))
 refine bodyPost_ret (results_cell_row rfl _ _ cB 38 #[.int .i64 aF, .int .i64 aK, .string aC, .slice fG bU.length fH, .int .i64 aL] (0, 0) _ rfl xblk Try.underlying38 rfl (by kernel_rfl)) rfl ?_
 exact ⟨_, xerr, by (with_reducible repeat (first | apply Kd.R_alloc | apply Kd.R_drewN | apply Kd.R_drew)); exact eQ.out, xbg⟩

/-! ### laws_toRelS: function 24 -/
def laws_toRelS.l0 : Nat → List (S53) → List (S38) → Int → Option ((List (S38)))
 | 0, _, _, _ => none
 | k + 1, x0, x3, x4 => if x4 < (x0.length : Int) then (if 0 ≤ x4 then ((laws_toRel.f k ((rd_T53 x0 x4).f0) ((rd_T53 x0 x4).f1) ((rd_T53 x0 x4).f2) ((rd_T53 x0 x4).f3) ((rd_T53 x0 x4).f4)).bind fun cX => (if x4 < (x3.length : Int) then (laws_toRelS.l0 k x0 (x3.set (x4 : Int).toNat (⟨cX.1, cX.2.1, cX.2.2.1, cX.2.2.2.1, cX.2.2.2.2⟩ : S38)) (wrap64 (x4 + 1))) else (none))) else (none)) else (some x3)
def laws_toRelS.f (k : Nat) (l0 : List (S53)) : Option ((List (S38))) := if 0 ≤ (l0.length : Int) then (if ((l0.length : Int) : Int).toNat ≤ 4398046511104 then (laws_toRelS.l0 k l0 (List.replicate ((l0.length : Int) : Int).toNat z38) 0) else (none)) else (none)
theorem u1_mq3 {p : Prop} (h : p := by repeat' first | (with_reducible first | exact fX _ _ _ | exact laws_toRel.mono _ _ _ _ _ _ | exact LeO.refl _ | exact LeO.none _ | refine LeO.ite ?_ ?_ | refine LeO.bind ?_ (fun _ => ?_)) | exact LeO.none _ | refine LeO.ite ?_ ?_ | refine LeO.bind ?_ (fun _ => ?_)) : p := h
set_option maxRecDepth 100000 in
theorem laws_toRelS.mono_l : ∀ k, (∀ y0 y1 y2, LeO (laws_toRelS.l0 k y0 y1 y2) (laws_toRelS.l0 (k + 1) y0 y1 y2))
 | 0 => fun _ _ _ r h => by simp [laws_toRelS.l0] at h
 | k + 1 => by
  have fX := laws_toRelS.mono_l k
  ·intro y0 y1 y2; unfold laws_toRelS.l0; exact u1_mq3
theorem laws_toRelS.mono : ∀ a0 k, LeO (laws_toRelS.f k a0) (laws_toRelS.f (k + 1) a0) := by
 intro a0 k
 have fX := laws_toRelS.mono_l k
 unfold laws_toRelS.f
 exact u1_mq3
set_option maxHeartbeats 8000000 in
set_option maxRecDepth 100000 in
theorem laws_toRelS.calls (k : Nat) (A0 : Option Addr) (c0 : Nat) (l0 : List (S53)) (r : List (S38)) (w : World) (dM : Kd.C k53 w A0 l0.length l0) (dN : l0.length ≤ c0) (h : laws_toRelS.f k l0 = some r) :
 Calls Try.prog 24 #[.slice A0 l0.length c0] w fun e w' => ∃ v0_ : Value, e = .returned (v0_) ∧ Kd.S k38 38 w' w.heap.size (fun _ => True) v0_ r ∧ Below w.heap.size w w' := by
 have iQ := Try.underlying53
 have kH := Try.underlying38
 have fW := aM dM
 have kW := aM dN
 clear dM dN
 have HB := aM (Below.refl w.heap.size w)
 have H : (if 0 ≤ (l0.length : Int) then (if ((l0.length : Int) : Int).toNat ≤ 4398046511104 then (laws_toRelS.l0 k l0 (List.replicate ((l0.length : Int) : Int).toNat z38) 0) else (none)) else (none)) = some r := h
 clear h
 by_cases c2 : 0 ≤ (l0.length : Int)
 ·rw [if_pos c2] at H; have jC := eq_true c2; have jD : decide (0 ≤ (l0.length : Int)) = true := decide_eq_true c2; clear c2; by_cases c3 : ((l0.length : Int) : Int).toNat ≤ 4398046511104
  ·rw [if_pos c3] at H; have bE := eq_true c3; have cW : decide (((l0.length : Int) : Int).toNat ≤ 4398046511104) = true := decide_eq_true c3; clear c3; obtain ⟨kJ, hY⟩ : ∃ y_ : List (S38), y_ = (List.replicate ((l0.length : Int) : Int).toNat z38) := ⟨_, rfl⟩; replace H : (laws_toRelS.l0 k l0 kJ 0) = some r := u1_2; have iM := aM hY; clear hY; have H' := aM H; clear H; go_enter Try.func24, Try.ntmps24
   go_wp2_with (first | ((with_reducible refine gD 7 rfl ?_); refine Kd.S_make k38 _ 38 rfl (N := 7) rfl 28 _ _ rfl (l0.length : Int) rfl rfl Try.underlying28 (.agg #[(.int .i64 0), (.int .i64 0), (.string ⟨#[]⟩), (.slice none 0 0), (.int .i64 0)]) 64 info38 rfl (by decide) (by omega) z38 (ok := fun _ => True) (okp := fun _ => True) (k38_mkM _ _ _ z38 (Kd.R_nil _ _ _ _ _)) (fun _ hk => hk) trivial (oda) (Nat.le_trans (Nat.mul_le_mul_right _ (oda : (l0.length : Int).toNat ≤ 4398046511104)) (by omega)) (Below.refl _ _) (Nat.le_refl _) ?_; intro v120 w4 fS hb hg_ hnew_; clear hg_ hnew_; (first | rw [← iM.out] at fS | (simp only [Int.reduceToNat] at fS; rw [← iM.out] at fS)); have kK := aM (Kd.S_lower fS (below_size xbel)); replace HB := xbs hb; clear hb fS))
   go_loopg [4] k (fun kq v4 w' => ∃ (aO : List (S38)) (aB : Int), v4 = .int .i64 aB ∧ Aside0 (laws_toRelS.l0 kq l0 aO aB = some r) ∧ Aside0 (kq ≤ k) ∧ Aside0 (Kd.S k38 38 w' w.heap.size (fun _ => True) v120 aO) ∧ Aside0 (Below w.heap.size w w'))
   case atStart => exact ⟨(kJ), (0), u1_0, H', ⟨Nat.le_refl _⟩, ⟨by (with_reducible repeat (first | apply Kd.S_alloc | apply Kd.S_drewN | apply Kd.S_drew)); exact kK.out⟩, ⟨xbel⟩⟩
   case round =>
    clear H'; try clear c2
    try clear jC
    try clear jD
    try clear p2
    try clear c3
    try clear bE
    try clear cW
    obtain ⟨aO, aB, rfl, HA, HK1, aY, HB⟩ := hrel; cases gk with
    | zero => exact absurd HA.out (by simp [laws_toRelS.l0])
    | succ k1 =>
     have H := HA.out; clear HA; simp only [laws_toRelS.l0] at H; by_cases c6 : aB < (l0.length : Int)
     ·rw [if_pos c6] at H; have gJ : decide (aB < (l0.length : Int)) = true := decide_eq_true c6; clear c6; by_cases c7 : 0 ≤ aB
      ·rw [if_pos c7] at H; have dH : decide (0 ≤ aB) = true := decide_eq_true c7; clear c7; replace H := oB H; obtain ⟨⟨fI, fJ, fK, cY, fL⟩, kA, H⟩ := H; (try dsimp only at H); have A8 := aM kA; clear kA
       by_cases c9 : aB < (aO.length : Int)
       ·rw [if_pos c9] at H; have kB : decide (aB < (aO.length : Int)) = true := decide_eq_true c9; clear c9; obtain ⟨jG, hY⟩ : ∃ y_ : List (S38), y_ = (aO.set (aB : Int).toNat (⟨fI, fJ, fK, cY, fL⟩ : S38)) := ⟨_, rfl⟩; replace H : (laws_toRelS.l0 k1 l0 jG (wrap64 (aB + 1))) = some r := u1_2; have kL := aM hY; clear hY; have H' := aM H; clear H; have p122 : 0 ≤ (aB : Int) := oda; have q122 : aB < (l0.length : Int) := oda; obtain ⟨sK, jH, jI, rC, eR, eS, eT, eU, eV, eW, hi122_3⟩ := at_T53 fW.out aB p122 q122; cases rC
        replace eR := xce HB eR; replace eS := xce HB eS; replace eT := xce HB eT; replace eU := xce HB eU; replace eV := xce HB eV; have gU := aM hi122_3; have gV := aM eW; clear hi122_3 eW; replace p122 := eq_true p122; replace q122 := eq_true q122
        go_wp2_with (first | ((with_reducible refine gC 37 rfl ?_); refine goesLY (some 20) rfl Try.func37 #[.agg #[.int .i64 ((rd_T53 l0 aB).f0), .int .i64 ((rd_T53 l0 aB).f1), .string ((rd_T53 l0 aB).f2), .slice jH ((rd_T53 l0 aB).f3).length jI, .int .i64 ((rd_T53 l0 aB).f4)]] ?_; (with_reducible refine (laws_toRel.calls k1 ((rd_T53 l0 aB).f0) ((rd_T53 l0 aB).f1) ((rd_T53 l0 aB).f2) _ _ ((rd_T53 l0 aB).f3) ((rd_T53 l0 aB).f4) fI fJ fK cY fL _ ?side1 ?side2 A8.out).mono ?_); (case side1 => exact xcb gU); (case side2 => exact gV.out); rintro e cF ⟨v127, rfl, fF, hb⟩; refine ⟨_, rfl, ?_⟩; replace aY := aM (Kd.S_elder' u1_4 (Kd.R_base fF) hb); have eX := aM (Kd.R_lower fF (below_size xbel)); replace HB := xbs hb; (try clear hb fF); have p10 : 0 ≤ (aB : Int) := oda; have q10 : (aB : Int) < ((aO.length : Int) : Int) := oda; obtain ⟨aW, kM, kN, kO, gl10, cl10, HG10⟩ := Kd.S_form aY.out (by omega); (first | cases kN | (injection kN with ea_ en_ ec_; (first | subst ea_ | (injection ea_ with ea_; subst ea_)); subst ec_; clear en_)); have GB10 := aM kO; have GG10 := aM HG10; clear kO gl10 HG10; obtain ⟨_, ce10, kP, kQ, cG, cH, _, _⟩ := Kd.S_elem aY.out z38 (aB : Int) p10 q10; obtain ⟨ve10_3, rfl, ge10_3⟩ := k38_openM kQ; have rE : cF.cell? ⟨aW, (aB : Int).toNat * 5, none⟩ = some (.int .i64 ((rd_T38 aO aB).f0)) := cG 0 _ rfl; have rF : cF.cell? ⟨aW, (aB : Int).toNat * 5 + 1, none⟩ = some (.int .i64 ((rd_T38 aO aB).f1)) := cG 1 _ rfl; have rG : cF.cell? ⟨aW, (aB : Int).toNat * 5 + 2, none⟩ = some (.string ((rd_T38 aO aB).f2)) := cG 2 _ rfl; have rH : cF.cell? ⟨aW, (aB : Int).toNat * 5 + 3, none⟩ = some (ve10_3) := cG 3 _ rfl; have rI : cF.cell? ⟨aW, (aB : Int).toNat * 5 + 4, none⟩ = some (.int .i64 ((rd_T38 aO aB).f4)) := cG 4 _ rfl; have rJ : cF.frozen? ⟨aW, (aB : Int).toNat * 5, none⟩ = false := cH 0; have rK : cF.frozen? ⟨aW, (aB : Int).toNat * 5 + 1, none⟩ = false := cH 1; have rL : cF.frozen? ⟨aW, (aB : Int).toNat * 5 + 2, none⟩ = false := cH 2; have rM : cF.frozen? ⟨aW, (aB : Int).toNat * 5 + 3, none⟩ = false := cH 3; have rN : cF.frozen? ⟨aW, (aB : Int).toNat * 5 + 4, none⟩ = false := cH 4; clear kP cG cH kQ; replace p10 := eq_true p10; replace q10 := eq_true q10; obtain ⟨gW, gX, rO⟩ := Kd.R_slice eX.out; subst rO; have n_ := aM (Kd.S_mono (ok' := (fun k_ => some k_ ≠ (.slice gW cY.length gX : Value).ownBlock)) aY.out (fun k_ hk => hk.2)); clear aY; have aY := n_; clear n_; have rP := aM (show Kd.S k38 38 cF w.heap.size (fun k_ => ((fun _ => True)) k_ ∧ ¬ ((fun k_ => some k_ = (.slice gW cY.length gX : Value).ownBlock)) k_) (.slice (some ⟨aW, 0, none⟩) aO.length kM) aO from (by (with_reducible repeat (first | apply Kd.S_alloc | apply Kd.S_drewN | apply Kd.S_drew)); exact Kd.S_mono aY.out (fun k_ hk => ⟨trivial, fun e_ => hk e_⟩))); obtain ⟨oki12, ce12, kR, kS, cI, cJ, hoki12, hH12⟩ := Kd.S_elem rP.out z38 (aB : Int) (oda) (by have h_ : (aB : Int) < ((aO.length : Int) : Int) := oda; first | exact h_ | (have e_ := (Kd.S_reads' aY.out).1; omega) | simpa using h_); obtain ⟨ve12_3, rfl, ge12_3⟩ := k38_openM kS; have jJ := Kd.S_seg hH12 (oda) (by have h_ : (aB : Int) < ((aO.length : Int) : Int) := oda; first | exact h_ | (have e_ := (Kd.S_reads' aY.out).1; omega) | simpa using h_) (seg := [.int .i64 fI, .int .i64 fJ, .string fK, .slice gW cY.length gX, .int .i64 fL]) (j := 0) (show 5 ≤ 5 from by decide) (x' := (⟨fI, fJ, fK, cY, fL⟩ : S38)) (k38_mkM _ _ _ (⟨fI, fJ, fK, cY, fL⟩ : S38) (Kd.R_mono (Kd.R_tight rfl (Kd.R_mono (ok' := fun k_ => ((fun _ => True)) k_ ∧ k_ ≠ aW) (Kd.R_apart' (eX.out) (Kd.S_typed aY.out) (by decide)) (fun k_ hk => ⟨trivial, fun e_ => (hk.2) (by rw [e_]; rfl)⟩))) (fun _ h_ => Or.inr (h_)))) (fun _ hk => hk) (fun k_ hk_ => ((Kd.R_mono (ok' := fun k_ => ((fun _ => True)) k_ ∧ k_ ≠ aW) (Kd.R_apart' (eX.out) (Kd.S_typed aY.out) (by decide)) (fun k_ hk => ⟨trivial, fun e_ => (hk.2) (by rw [e_]; rfl)⟩))).1 k_ hk_.symm); have jK := cI 0 _ rfl; (try simp only [show (k38).sz = 5 from rfl, Nat.mul_one, Nat.add_zero] at jK); have jL := cJ 0; (try simp only [show (k38).sz = 5 from rfl, Nat.mul_one, Nat.add_zero] at jL); have jM := cI 1 _ rfl; (try simp only [show (k38).sz = 5 from rfl, Nat.mul_one, Nat.add_zero] at jM); have jN := cJ 1; (try simp only [show (k38).sz = 5 from rfl, Nat.mul_one, Nat.add_zero] at jN); have jO := cI 2 _ rfl; (try simp only [show (k38).sz = 5 from rfl, Nat.mul_one, Nat.add_zero] at jO); have jP := cJ 2; (try simp only [show (k38).sz = 5 from rfl, Nat.mul_one, Nat.add_zero] at jP); have jQ := cI 3 _ rfl; (try simp only [show (k38).sz = 5 from rfl, Nat.mul_one, Nat.add_zero] at jQ); have jR := cJ 3; (try simp only [show (k38).sz = 5 from rfl, Nat.mul_one, Nat.add_zero] at jR); have jS := cI 4 _ rfl; (try simp only [show (k38).sz = 5 from rfl, Nat.mul_one, Nat.add_zero] at jS); have jT := cJ 4; (try simp only [show (k38).sz = 5 from rfl, Nat.mul_one, Nat.add_zero] at jT); clear kR cI cJ kS hoki12 hH12) | ((with_reducible refine gate_store (t := 38) (p := 21) rfl ?_); refine store_event (t := 38) (p := 21) (v := ?vo_w13) (w1 := (((((cF.setCell ⟨aW, (aB : Int).toNat * 5, none⟩ (.int .i64 fI)).setCell ⟨aW, (aB : Int).toNat * 5 + 1, none⟩ (.int .i64 fJ)).setCell ⟨aW, (aB : Int).toNat * 5 + 2, none⟩ (.string fK)).setCell ⟨aW, (aB : Int).toNat * 5 + 3, none⟩ (.slice gW cY.length gX)).setCell ⟨aW, (aB : Int).toNat * 5 + 4, none⟩ (.int .i64 fL))) ?hg ?ho ?hn ?hr ?_; (case ho | hg | hn => rfl); (case hr => exact u1_3); intro rQ hw; have hg : cF.grownBy rQ (some aW) := (by rw [hw]; exact jJ.2); have hp_ : Kd.S k38 38 rQ w.heap.size (fun _ => True) (.slice (some ⟨aW, 0, none⟩) aO.length kM) jG := (by rw [hw, kL.out]; exact jJ.1); clear jJ; replace aY := aM (hp_); replace HB := aM ((by rw [hw]; exact below_set (below_set (below_set (below_set (below_set (HB.out) GB10.out) GB10.out) GB10.out) GB10.out) GB10.out : Below w.heap.size w rQ)); clear eX; clear hg hw hp_))
        go_roundg k1
        case measure => have := HK1.out; omega
        case rel => exact ⟨(jG), (wrap64 (aB + 1)), u1_0, H', ⟨by have := HK1.out; omega⟩, ⟨u1_4⟩, ⟨xbel⟩⟩
       ·rw [if_neg c9] at H; exact absurd H (by simp)
      ·rw [if_neg c7] at H; exact absurd H (by simp)
     ·rw [if_neg c6] at H; have gJ : decide (aB < (l0.length : Int)) = false := decide_eq_false c6; clear c6; obtain rfl := Option.some.inj H; go_wp2; go_ret
      exact ⟨_, xerr, u1_4, xbel⟩
  ·rw [if_neg c3] at H; exact absurd H (by simp)
 ·rw [if_neg c2] at H; exact absurd H (by simp)

/-! ### laws_toRoll: function 7 -/
def laws_toRoll.f (k : Nat) (aF : Int) (aN : List (S53)) (aC : Int) (aA : List Int) : Option (Int × (List (S38)) × Int × List Int) := (laws_toRelS.f k aN).bind fun bN => ((laws_toIntS.f k aA).bind fun bG => (some (aF, bN, aC, bG)))
theorem u1_mq4 {p : Prop} (h : p := by repeat' first | (with_reducible first | exact laws_toIntS.mono _ _ | exact laws_toRelS.mono _ _ | exact LeO.refl _ | exact LeO.none _ | refine LeO.ite ?_ ?_ | refine LeO.bind ?_ (fun _ => ?_)) | exact LeO.none _ | refine LeO.ite ?_ ?_ | refine LeO.bind ?_ (fun _ => ?_)) : p := h
theorem laws_toRoll.mono : ∀ a0 a1 a2 a3 k, LeO (laws_toRoll.f k a0 a1 a2 a3) (laws_toRoll.f (k + 1) a0 a1 a2 a3) := by
 intro a0 a1 a2 a3 k
 unfold laws_toRoll.f
 exact u1_mq4
set_option maxHeartbeats 8000000 in
set_option maxRecDepth 100000 in
theorem laws_toRoll.calls (k : Nat) (aF : Int) (bO : Option Addr) (bP : Nat) (aN : List (S53)) (aC : Int) (aI : Option Addr) (aJ : Nat) (aA : List Int) (r1 : Int) (r2 : List (S38)) (r3 : Int) (r4 : List Int) (w : World) (cS : Kd.C k53 w bO aN.length aN) (cT : aN.length ≤ bP) (aQ : Kd.C (Kd.int .i64) w aI aA.length aA) (aR : aA.length ≤ aJ) (h : laws_toRoll.f k aF aN aC aA = some (r1, r2, r3, r4)) :
 Calls Try.prog 7 #[.agg #[.int .i64 aF, .slice bO aN.length bP, .int .i64 aC, .slice aI aA.length aJ]] w fun e w' => ∃ v1_ v3_ : Value, e = .returned (.agg #[.int .i64 r1, v1_, .int .i64 r3, v3_]) ∧ Kd.S k38 38 w' w.heap.size (fun k_ => some k_ ≠ (v3_ : Value).ownBlock) v1_ r2 ∧ Kd.R (Kd.int .i64) 3 w' w.heap.size (fun _ => True) v3_ r4 ∧ Below w.heap.size w w' := by
 have qE := Try.underlying25
 have tU := Try.underlying30
 have cU := aM cS
 have cV := aM cT
 clear cS cT
 have aT := aM aQ
 have aU := aM aR
 clear aQ aR
 have HB := aM (Below.refl w.heap.size w)
 have H : ((laws_toRelS.f k aN).bind fun bN => ((laws_toIntS.f k aA).bind fun bG => (some (aF, bN, aC, bG)))) = some (r1, r2, r3, r4) := h
 clear h
 replace H := oB H
 obtain ⟨bN, kI, H⟩ := H
 (try dsimp only at H)
 have A2 := aM kI
 clear kI
 replace H := oB H
 obtain ⟨bG, jZ, H⟩ := H
 (try dsimp only at H)
 have A3 := aM jZ
 clear jZ
 simp only [Option.some.injEq, Prod.mk.injEq] at H
 obtain ⟨rfl, rfl, rfl, rfl⟩ := H
 go_enter Try.func7, Try.ntmps7
 go_wp2_with (first | ((with_reducible refine gD 1 rfl ?_); refine boxE (N := 1) rfl (cs := #[.int .i64 aF, .slice bO aN.length bP, .int .i64 aC, .slice aI aA.length aJ]) (t := 25) ?_; intro sL hg w4 hbox hb; have aP := aM (hbox); have sM := aM (xge hg); have sN := aM (xge hg); replace HB := xbs hb; clear hb hbox hg) | ((with_reducible refine gD 2 rfl ?_); refine boxE (N := 2) rfl (cs := #[.int .i64 0, .slice none 0 0, .int .i64 0, .slice none 0 0]) (t := 30) ?_; intro bC hg w5 hbox hb; have sO := aM (xge hg); have sP := aM (xge hg); replace HB := xbs hb; have fM := nblt aP hg; have fN := nbgt aP hg; replace aP := xbb aP hb; have aZ := aM (hbox); clear hb hbox hg) | ((with_reducible refine gD 3 rfl ?_); refine boxE (N := 3) rfl (cs := #[.int .i64 0, .slice none 0 0, .int .i64 0, .slice none 0 0]) (t := 30) ?_; intro cC hg w6 hbox hb; have sQ := aM (xge hg); have sR := aM (xge hg); replace HB := xbs hb; have fO := nblt aP hg; have fP := nbgt aP hg; have fQ := nblt aZ hg; have fR := nbgt aZ hg; replace aP := xbb aP hb; replace aZ := xbb aZ hb; have bR := aM (hbox); clear hb hbox hg; have qP := fM.out; have qQ := fN.out; have tV := fO.out; have tW := fP.out; obtain ⟨iR, iS, iU, iV, iW, iX, iY, iZ⟩ := xf4 (w := w6) aP; have sS := fR.out; have sU := fQ.out; obtain ⟨dO, dP, dQ, dR, dS, dU, dV, dW⟩ := xf4 (w := w6) bR) | ((with_reducible refine gC 24 rfl ?_); refine goesLY (some 9) rfl Try.func24 #[.slice bO aN.length bP] ?_; (with_reducible refine (laws_toRelS.calls k _ _ aN bN _ ?side1 ?side2 A2.out).mono ?_); (case side1 => exact Kd.C_below cU.out xbg); (case side2 => exact cV.out); rintro e kZ ⟨v135, rfl, fF, hb⟩; refine ⟨_, rfl, ?_⟩; have cK := aM (Kd.S_lower fF (below_size xbg)); replace aP := xbc aP hb; replace aZ := xbc aZ hb; replace bR := aM (blk_below (g := cC) (o := .cells #[.int .i64 aF, .slice none 0 0, .int .i64 0, .slice none 0 0] 30 (0, 0)) xP hb); replace HB := xbs hb; (try clear hb fF); obtain ⟨cZ, dA, rR⟩ := Kd.S_slice cK.out; subst rR; obtain ⟨gM, gN, gO, gP, gQ, gR, gS, gT⟩ := xf4 (w := kZ) bR; obtain ⟨eF, eG, eH, eI, eJ, eK, eL, eM⟩ := xf4 (w := kZ) aP) | ((with_reducible refine gC 25 rfl ?_); refine goesLY (some 16) rfl Try.func25 #[.slice aI aA.length aJ] ?_; (with_reducible refine (laws_toIntS.calls k _ _ aA bG _ ?side1 ?side2 A3.out).mono ?_); (case side1 => exact Kd.C_below aT.out xbg); (case side2 => exact aU.out); rintro e fY ⟨v138, rfl, fF, hb⟩; refine ⟨_, rfl, ?_⟩; replace cK := aM (Kd.S_elder' (by (with_reducible repeat (first | apply Kd.S_alloc | apply Kd.S_drewN | apply Kd.S_drew)); exact (Kd.S_mono (Kd.S_far (p := ⟨cC, 2, none⟩) (Kd.S_far (p := ⟨cC, 1, none⟩) (Kd.S_types cK.out bR.out (by decide)) (fun _ hk => hk.2) (.slice cZ bN.length dA)) (fun _ hk => hk.2) (.int .i64 aC)) (fun _ h_ => h_.1))) (Kd.R_base fF) hb); have eY := aM (Kd.R_lower fF (below_size xbg)); replace aP := xbc aP hb; replace aZ := xbc aZ hb; replace bR := aM (blk_below (g := cC) (o := .cells #[.int .i64 aF, .slice cZ bN.length dA, .int .i64 aC, .slice none 0 0] 30 (0, 0)) xP hb); replace HB := xbs hb; (try clear hb fF); obtain ⟨cO, cP, rS⟩ := Kd.R_slice eY.out; subst rS; obtain ⟨gY, gZ, hJ, hU, hX, hZ, iA, iB⟩ := xf4 (w := fY) bR; obtain ⟨lP, lQ, lR, lS, lT, lU, lV, lW⟩ := xf4 (w := fY) aZ) | ((with_reducible refine gate_store (t := 30) (p := 2) rfl ?_); refine store_event (t := 30) (p := 2) (v := ?vo_w20) (w1 := (((((fY.setCell ⟨cC, 3, none⟩ (.slice cO bG.length cP)).setCell ⟨bC, 0, none⟩ (.int .i64 aF)).setCell ⟨bC, 1, none⟩ (.slice cZ bN.length dA)).setCell ⟨bC, 2, none⟩ (.int .i64 aC)).setCell ⟨bC, 3, none⟩ (.slice cO bG.length cP))) ?hg ?ho ?hn ?hr ?_; (case ho | hg | hn => rfl); (case hr => exact u1_3); intro jU hw; replace cK : Aside0 (Kd.S k38 38 jU w.heap.size (fun k_ => some k_ ≠ (.slice cO bG.length cP : Value).ownBlock) (.slice cZ bN.length dA) bN) := ⟨(by rw [hw]; exact (by (with_reducible repeat (first | apply Kd.S_alloc | apply Kd.S_drewN | apply Kd.S_drew)); exact Kd.S_mono (Kd.S_far (p := ⟨bC, 3, none⟩) (Kd.S_far (p := ⟨bC, 2, none⟩) (Kd.S_far (p := ⟨bC, 1, none⟩) (Kd.S_far (p := ⟨bC, 0, none⟩) (Kd.S_far (p := ⟨cC, 3, none⟩) (Kd.S_types (Kd.S_types cK.out bR.out (by decide)) aZ.out (by decide)) (fun _ hk => hk.1.2) (.slice cO bG.length cP)) (fun _ hk => hk.2) (.int .i64 aF)) (fun _ hk => hk.2) (.slice cZ bN.length dA)) (fun _ hk => hk.2) (.int .i64 aC)) (fun _ hk => hk.2) (.slice cO bG.length cP)) (fun _ hk => hk.1.1.2)))⟩; replace eY : Aside0 (Kd.R (Kd.int .i64) 3 jU w.heap.size (fun _ => True) (.slice cO bG.length cP) bG) := xwm hw eY (fun _ _ => trivial); replace aP := xwc hw aP; replace aZ : Aside0 (jU.heap[bC]? = some (.cells #[.int .i64 aF, .slice cZ bN.length dA, .int .i64 aC, .slice cO bG.length cP] 30 (0, 0))) := xwp hw; replace bR : Aside0 (jU.heap[cC]? = some (.cells #[.int .i64 aF, .slice cZ bN.length dA, .int .i64 aC, .slice cO bG.length cP] 30 (0, 0))) := xwp hw; replace HB := xbw hw HB; clear hw))
 refine bodyPost_ret (results_cell_row rfl _ _ bC 30 #[.int .i64 aF, .slice cZ bN.length dA, .int .i64 aC, .slice cO bG.length cP] (0, 0) _ rfl xblk Try.underlying30 rfl (by kernel_rfl)) rfl ?_
 exact ⟨_, _, xerr, by (with_reducible repeat (first | apply Kd.S_alloc | apply Kd.S_drewN | apply Kd.S_drew)); exact cK.out, by (with_reducible repeat (first | apply Kd.R_alloc | apply Kd.R_drewN | apply Kd.R_drew)); exact eY.out, xbg⟩

/-! ### laws_eqIntS: function 9 -/
def laws_eqIntS.l0 : Nat → List Int → List Int → Int → Option (Bool)
 | 0, _, _, _ => none
 | k + 1, x0, x1, x5 => if x5 < (x0.length : Int) then (if 0 ≤ x5 then (if x5 < (x1.length : Int) then (if (rd x0 x5) = (rd x1 x5) then (laws_eqIntS.l0 k x0 x1 (wrap64 (x5 + 1))) else (some false)) else (none)) else (none)) else (some true)
def laws_eqIntS.f (k : Nat) (l0 : List Int) (l1 : List Int) : Option (Bool) := if (l0.length : Int) = (l1.length : Int) then (laws_eqIntS.l0 k l0 l1 0) else (some false)
set_option maxRecDepth 100000 in
theorem laws_eqIntS.mono_l : ∀ k, (∀ y0 y1 y2, LeO (laws_eqIntS.l0 k y0 y1 y2) (laws_eqIntS.l0 (k + 1) y0 y1 y2))
 | 0 => fun _ _ _ r h => by simp [laws_eqIntS.l0] at h
 | k + 1 => by
  have fX := laws_eqIntS.mono_l k
  ·intro y0 y1 y2; unfold laws_eqIntS.l0; exact u1_mq0
theorem laws_eqIntS.mono : ∀ a0 a1 k, LeO (laws_eqIntS.f k a0 a1) (laws_eqIntS.f (k + 1) a0 a1) := by
 intro a0 a1 k
 have fX := laws_eqIntS.mono_l k
 unfold laws_eqIntS.f
 exact u1_mq0
set_option maxHeartbeats 8000000 in
set_option maxRecDepth 100000 in
theorem laws_eqIntS.calls (k : Nat) (A0 : Option Addr) (c0 : Nat) (l0 : List Int) (A1 : Option Addr) (c1 : Nat) (l1 : List Int) (r : Bool) (w : World) (dM : Kd.C (Kd.int .i64) w A0 l0.length l0) (dN : l0.length ≤ c0) (sV : Kd.C (Kd.int .i64) w A1 l1.length l1) (sW : l1.length ≤ c1) (h : laws_eqIntS.f k l0 l1 = some r) :
 Calls Try.prog 9 #[.slice A0 l0.length c0, .slice A1 l1.length c1] w fun e w' => e = .returned (.bool r) ∧ Drawn0 w w' := by
 have fW := aM dM
 have kW := aM dN
 clear dM dN
 have sX := aM sV
 have tX := aM sW
 clear sV sW
 have H : (if (l0.length : Int) = (l1.length : Int) then (laws_eqIntS.l0 k l0 l1 0) else (some false)) = some r := h
 clear h
 by_cases c3 : (l0.length : Int) = (l1.length : Int)
 ·rw [if_pos c3] at H; obtain ⟨bE, cW⟩ := bT c3; have kT : (l0.length == l1.length) = true := by first | simpa using c3 | (simp at c3 ⊢; omega)
  clear c3; have H' := aM H; clear H; go_enter Try.func9, Try.ntmps9
  go_wp2
  repeat (go_quiet (fail); try go_wp2)
  go_loopg [5] k (fun kq v5 w' => ∃ (aD : Int), v5 = .int .i64 aD ∧ Aside0 (laws_eqIntS.l0 kq l0 l1 aD = some r) ∧ Aside0 (kq ≤ k) ∧ Drawn0 w w')
  case atStart => exact ⟨(0), u1_0, H', ⟨Nat.le_refl _⟩, u1_1⟩
  case round =>
   clear H'; try clear c1
   try clear p2
   try clear c3
   try clear bE
   try clear cW
   try clear kT
   obtain ⟨aD, rfl, HA, HK1, ⟨m1, rfl⟩⟩ := hrel; cases gk with
   | zero => exact absurd HA.out (by simp [laws_eqIntS.l0])
   | succ k1 =>
    have H := HA.out; clear HA; simp only [laws_eqIntS.l0] at H; by_cases c4 : aD < (l0.length : Int)
    ·rw [if_pos c4] at H; have dJ : decide (aD < (l0.length : Int)) = true := decide_eq_true c4; clear c4; by_cases c5 : 0 ≤ aD
     ·rw [if_pos c5] at H; have jA : decide (0 ≤ aD) = true := decide_eq_true c5; clear c5; by_cases c6 : aD < (l1.length : Int)
      ·rw [if_pos c6] at H; have gJ : decide (aD < (l1.length : Int)) = true := decide_eq_true c6; clear c6; by_cases c7 : (rd l0 aD) = (rd l1 aD)
       ·rw [if_pos c7] at H; obtain ⟨dH, rT⟩ := bT c7; clear c7; have H' := aM H; clear H; have p140 : 0 ≤ (aD : Int) := oda; have q140 : aD < (l0.length : Int) := oda; obtain ⟨kU, jV, iC⟩ := Kd.at_int fW.out aD p140 q140; cases jV
        replace p140 := eq_true p140; replace q140 := eq_true q140; have p141 : 0 ≤ (aD : Int) := oda; have q141 : aD < (l1.length : Int) := oda; obtain ⟨kV, jW, iD⟩ := Kd.at_int sX.out aD p141 q141; cases jW
        replace p141 := eq_true p141; replace q141 := eq_true q141; go_wp2
        repeat (go_quiet (fail); try go_wp2)
        go_roundg k1
        case measure => have := HK1.out; omega
        case rel => exact ⟨(wrap64 (aD + 1)), u1_0, H', ⟨by have := HK1.out; omega⟩, u1_1⟩
       ·rw [if_neg c7] at H; obtain ⟨dH, rT⟩ := bF c7; obtain rfl := Option.some.inj H; have p140 : 0 ≤ (aD : Int) := oda; have q140 : aD < (l0.length : Int) := oda; obtain ⟨kU, jV, iC⟩ := Kd.at_int fW.out aD p140 q140; cases jV
        replace p140 := eq_true p140; replace q140 := eq_true q140; have p141 : 0 ≤ (aD : Int) := oda; have q141 : aD < (l1.length : Int) := oda; obtain ⟨kV, jW, iD⟩ := Kd.at_int sX.out aD p141 q141; cases jW
        replace p141 := eq_true p141; replace q141 := eq_true q141; go_wp2
        repeat (go_quiet (fail); try go_wp2)
        go_ret
        exact ⟨u1_0, u1_1⟩
      ·rw [if_neg c6] at H; exact absurd H (by simp)
     ·rw [if_neg c5] at H; exact absurd H (by simp)
    ·rw [if_neg c4] at H; have dJ : decide (aD < (l0.length : Int)) = false := decide_eq_false c4; clear c4; obtain rfl := Option.some.inj H; go_wp2
     repeat (go_quiet (fail); try go_wp2)
     go_ret
     exact ⟨u1_0, u1_1⟩
 ·rw [if_neg c3] at H; obtain ⟨bE, cW⟩ := bF c3; have kT : (l0.length == l1.length) = false := by first | simpa using c3 | (simp at c3 ⊢; omega)
  obtain rfl := Option.some.inj H; go_enter Try.func9, Try.ntmps9
  go_wp2
  repeat (go_quiet (fail); try go_wp2)
  go_ret
  exact ⟨u1_0, u1_1⟩

/-! ### laws_eqRel: function 16 -/
def laws_eqRel.f (k : Nat) (aF : Int) (aK : Int) (aC : ByteArray) (aA : List Int) (aL : Int) (bV : Int) (bW : Int) (bX : ByteArray) (aX : List Int) (bY : Int) : Option (Bool) := if aF = bV then (if aK = bW then (if aC.toList = bX.toList then ((laws_eqIntS.f k aA aX).bind fun fT => (if fT = true then (if aL = bY then (some true) else (some false)) else (some false))) else (some false)) else (some false)) else (some false)
theorem u1_mq5 {p : Prop} (h : p := by repeat' first | (with_reducible first | exact laws_eqIntS.mono _ _ _ | exact LeO.refl _ | exact LeO.none _ | refine LeO.ite ?_ ?_ | refine LeO.bind ?_ (fun _ => ?_)) | exact LeO.none _ | refine LeO.ite ?_ ?_ | refine LeO.bind ?_ (fun _ => ?_)) : p := h
theorem laws_eqRel.mono : ∀ a0 a1 a2 a3 a4 a5 a6 a7 a8 a9 k, LeO (laws_eqRel.f k a0 a1 a2 a3 a4 a5 a6 a7 a8 a9) (laws_eqRel.f (k + 1) a0 a1 a2 a3 a4 a5 a6 a7 a8 a9) := by
 intro a0 a1 a2 a3 a4 a5 a6 a7 a8 a9 k
 unfold laws_eqRel.f
 exact u1_mq5
set_option maxHeartbeats 8000000 in
set_option maxRecDepth 100000 in
theorem laws_eqRel.calls (k : Nat) (aF : Int) (aK : Int) (aC : ByteArray) (aI : Option Addr) (aJ : Nat) (aA : List Int) (aL : Int) (bV : Int) (bW : Int) (bX : ByteArray) (cD : Option Addr) (cE : Nat) (aX : List Int) (bY : Int) (r : Bool) (w : World) (aQ : Kd.C (Kd.int .i64) w aI aA.length aA) (aR : aA.length ≤ aJ) (iO : Kd.C (Kd.int .i64) w cD aX.length aX) (iP : aX.length ≤ cE) (h : laws_eqRel.f k aF aK aC aA aL bV bW bX aX bY = some r) :
 Calls Try.prog 16 #[.agg #[.int .i64 aF, .int .i64 aK, .string aC, .slice aI aA.length aJ, .int .i64 aL], .agg #[.int .i64 bV, .int .i64 bW, .string bX, .slice cD aX.length cE, .int .i64 bY]] w fun e w' => e = .returned (.bool r) ∧ Below w.heap.size w w' := by
 have kH := Try.underlying38
 have aT := aM aQ
 have aU := aM aR
 clear aQ aR
 have fU := aM iO
 have fV := aM iP
 clear iO iP
 have HB := aM (Below.refl w.heap.size w)
 have H : (if aF = bV then (if aK = bW then (if aC.toList = bX.toList then ((laws_eqIntS.f k aA aX).bind fun fT => (if fT = true then (if aL = bY then (some true) else (some false)) else (some false))) else (some false)) else (some false)) else (some false)) = some r := h
 clear h
 by_cases c3 : aF = bV
 ·rw [if_pos c3] at H; obtain ⟨bE, cW⟩ := bT c3; clear c3; by_cases c4 : aK = bW
  ·rw [if_pos c4] at H; obtain ⟨dJ, rU⟩ := bT c4; clear c4; by_cases c5 : aC.toList = bX.toList
   ·rw [if_pos c5] at H; obtain ⟨jA, rV⟩ := bT c5; clear c5; replace H := oB H; obtain ⟨fT, iH, H⟩ := H; (try dsimp only at H); have A6 := aM iH; clear iH
    by_cases c7 : fT = true
    ·subst c7; replace H := iT H; by_cases c8 : aL = bY
     ·rw [if_pos c8] at H; obtain ⟨kF, rW⟩ := bT c8; clear c8; obtain rfl := Option.some.inj H; go_enter Try.func16, Try.ntmps16
      go_wp2_with (first | ((with_reducible refine gD 2 rfl ?_); refine boxE (N := 2) rfl (cs := #[.int .i64 aF, .int .i64 aK, .string aC, .slice aI aA.length aJ, .int .i64 aL]) (t := 38) ?_; intro dB hg w9 hbox hb; have aE := aM (hbox); have dC := aM (xge hg); have dD := aM (xge hg); replace HB := xbs hb; clear hb hbox hg) | ((with_reducible refine gD 3 rfl ?_); refine boxE (N := 3) rfl (cs := #[.int .i64 bV, .int .i64 bW, .string bX, .slice cD aX.length cE, .int .i64 bY]) (t := 38) ?_; intro dE hg jX hbox hb; have dF := aM (xge hg); have dG := aM (xge hg); replace HB := xbs hb; have aG := nblt aE hg; have aH := nbgt aE hg; replace aE := xbb aE hb; have bA := aM (hbox); clear hb hbox hg; have sY := aG.out; have sZ := aH.out; obtain ⟨lX, lY, lZ, mA, mB, mC, mD, mE, mF, mG⟩ := xf5 (w := jX) aE; obtain ⟨dX, dY, dZ, eA, gK, eB, eC, eD, eE, gL⟩ := xf5 (w := jX) bA) | ((with_reducible refine gC 9 rfl ?_); refine goesLY (some 24) rfl Try.func9 #[.slice aI aA.length aJ, .slice cD aX.length cE] ?_; (with_reducible refine (laws_eqIntS.calls k _ _ aA _ _ aX true _ ?side1 ?side2 ?side3 ?side4 A6.out).mono ?_); (case side1 => exact xcb aT); (case side2 => exact aU.out); (case side3 => exact xcb fU); (case side4 => exact fV.out); rintro e w' ⟨rfl, ⟨nd, rfl⟩⟩; refine ⟨_, rfl, ?_⟩))
      go_ret
      exact ⟨xerr, xbg⟩
     ·rw [if_neg c8] at H; obtain ⟨kF, rW⟩ := bF c8; obtain rfl := Option.some.inj H; go_enter Try.func16, Try.ntmps16
      go_wp2_with (first | ((with_reducible refine gD 2 rfl ?_); refine boxE (N := 2) rfl (cs := #[.int .i64 aF, .int .i64 aK, .string aC, .slice aI aA.length aJ, .int .i64 aL]) (t := 38) ?_; intro dB hg rX hbox hb; have aE := aM (hbox); have dC := aM (xge hg); have dD := aM (xge hg); replace HB := xbs hb; clear hb hbox hg) | ((with_reducible refine gD 3 rfl ?_); refine boxE (N := 3) rfl (cs := #[.int .i64 bV, .int .i64 bW, .string bX, .slice cD aX.length cE, .int .i64 bY]) (t := 38) ?_; intro dE hg tA hbox hb; have dF := aM (xge hg); have dG := aM (xge hg); replace HB := xbs hb; have aG := nblt aE hg; have aH := nbgt aE hg; replace aE := xbb aE hb; have bA := aM (hbox); clear hb hbox hg; have tB := aG.out; have tC := aH.out; obtain ⟨fZ, gA, gB, gE, mH, gF, gG, gH, gI, mI⟩ := xf5 (w := tA) aE; obtain ⟨gY, gZ, hJ, hU, mJ, hX, hZ, iA, iB, mK⟩ := xf5 (w := tA) bA) | ((with_reducible refine gC 9 rfl ?_); refine goesLY (some 24) rfl Try.func9 #[.slice aI aA.length aJ, .slice cD aX.length cE] ?_; (with_reducible refine (laws_eqIntS.calls k _ _ aA _ _ aX true _ ?side1 ?side2 ?side3 ?side4 A6.out).mono ?_); (case side1 => exact xcb aT); (case side2 => exact aU.out); (case side3 => exact xcb fU); (case side4 => exact fV.out); rintro e w' ⟨rfl, ⟨nd, rfl⟩⟩; refine ⟨_, rfl, ?_⟩))
      go_ret
      exact ⟨xerr, xbg⟩
    ·replace c7 := Bool.eq_false_iff.mpr c7; subst c7; replace H := iN H; obtain rfl := Option.some.inj H; go_enter Try.func16, Try.ntmps16
     go_wp2_with (first | ((with_reducible refine gD 2 rfl ?_); refine boxE (N := 2) rfl (cs := #[.int .i64 aF, .int .i64 aK, .string aC, .slice aI aA.length aJ, .int .i64 aL]) (t := 38) ?_; intro dB hg tY hbox hb; have aE := aM (hbox); have dC := aM (xge hg); have dD := aM (xge hg); replace HB := xbs hb; clear hb hbox hg) | ((with_reducible refine gD 3 rfl ?_); refine boxE (N := 3) rfl (cs := #[.int .i64 bV, .int .i64 bW, .string bX, .slice cD aX.length cE, .int .i64 bY]) (t := 38) ?_; intro dE hg jU hbox hb; have dF := aM (xge hg); have dG := aM (xge hg); replace HB := xbs hb; have aG := nblt aE hg; have aH := nbgt aE hg; replace aE := xbb aE hb; have bA := aM (hbox); clear hb hbox hg; have tD := aG.out; have tE := aH.out; obtain ⟨mL, mM, mN, mO, mP, mQ, mR, mS, mT, mU⟩ := xf5 (w := jU) aE; obtain ⟨mV, mW, mX, mY, mZ, nA, nB, nC, nD, nE⟩ := xf5 (w := jU) bA) | ((with_reducible refine gC 9 rfl ?_); refine goesLY (some 24) rfl Try.func9 #[.slice aI aA.length aJ, .slice cD aX.length cE] ?_; (with_reducible refine (laws_eqIntS.calls k _ _ aA _ _ aX false _ ?side1 ?side2 ?side3 ?side4 A6.out).mono ?_); (case side1 => exact xcb aT); (case side2 => exact aU.out); (case side3 => exact xcb fU); (case side4 => exact fV.out); rintro e w' ⟨rfl, ⟨nd, rfl⟩⟩; refine ⟨_, rfl, ?_⟩))
     go_ret
     exact ⟨xerr, xbg⟩
   ·rw [if_neg c5] at H; obtain ⟨jA, rV⟩ := bF c5; obtain rfl := Option.some.inj H; go_enter Try.func16, Try.ntmps16
    go_wp2_with (first | ((with_reducible refine gD 2 rfl ?_); refine boxE (N := 2) rfl (cs := #[.int .i64 aF, .int .i64 aK, .string aC, .slice aI aA.length aJ, .int .i64 aL]) (t := 38) ?_; intro dB hg tZ hbox hb; have aE := aM (hbox); have dC := aM (xge hg); have dD := aM (xge hg); replace HB := xbs hb; clear hb hbox hg) | ((with_reducible refine gD 3 rfl ?_); refine boxE (N := 3) rfl (cs := #[.int .i64 bV, .int .i64 bW, .string bX, .slice cD aX.length cE, .int .i64 bY]) (t := 38) ?_; intro dE hg tF hbox hb; have dF := aM (xge hg); have dG := aM (xge hg); replace HB := xbs hb; have aG := nblt aE hg; have aH := nbgt aE hg; replace aE := xbb aE hb; have bA := aM (hbox); clear hb hbox hg; have tG := aG.out; have tH := aH.out; obtain ⟨nF, nG, nH, nI, nJ, nK, nL, nM, nN, nO⟩ := xf5 (w := tF) aE; obtain ⟨nP, nQ, nR, nS, nT, nU, nV, nW, nX, nY⟩ := xf5 (w := tF) bA))
    go_ret
    exact ⟨xerr, xbg⟩
  ·rw [if_neg c4] at H; obtain ⟨dJ, rU⟩ := bF c4; obtain rfl := Option.some.inj H; go_enter Try.func16, Try.ntmps16
   go_wp2_with (first | ((with_reducible refine gD 2 rfl ?_); refine boxE (N := 2) rfl (cs := #[.int .i64 aF, .int .i64 aK, .string aC, .slice aI aA.length aJ, .int .i64 aL]) (t := 38) ?_; intro dB hg uA hbox hb; have aE := aM (hbox); have dC := aM (xge hg); have dD := aM (xge hg); replace HB := xbs hb; clear hb hbox hg) | ((with_reducible refine gD 3 rfl ?_); refine boxE (N := 3) rfl (cs := #[.int .i64 bV, .int .i64 bW, .string bX, .slice cD aX.length cE, .int .i64 bY]) (t := 38) ?_; intro dE hg tI hbox hb; have dF := aM (xge hg); have dG := aM (xge hg); replace HB := xbs hb; have aG := nblt aE hg; have aH := nbgt aE hg; replace aE := xbb aE hb; have bA := aM (hbox); clear hb hbox hg; have tJ := aG.out; have tL := aH.out; obtain ⟨nZ, oA, oC, oD, oE, oF, oG, oH, oI, oJ⟩ := xf5 (w := tI) aE; obtain ⟨oK, oL, oM, oO, oP, oQ, oR, oT, oU, oV⟩ := xf5 (w := tI) bA))
   go_ret
   exact ⟨xerr, xbg⟩
 ·rw [if_neg c3] at H; obtain ⟨bE, cW⟩ := bF c3; obtain rfl := Option.some.inj H; go_enter Try.func16, Try.ntmps16
  go_wp2_with (first | ((with_reducible refine gD 2 rfl ?_); refine boxE (N := 2) rfl (cs := #[.int .i64 aF, .int .i64 aK, .string aC, .slice aI aA.length aJ, .int .i64 aL]) (t := 38) ?_; intro dB hg uB hbox hb; have aE := aM (hbox); have dC := aM (xge hg); have dD := aM (xge hg); replace HB := xbs hb; clear hb hbox hg) | ((with_reducible refine gD 3 rfl ?_); refine boxE (N := 3) rfl (cs := #[.int .i64 bV, .int .i64 bW, .string bX, .slice cD aX.length cE, .int .i64 bY]) (t := 38) ?_; intro dE hg tM hbox hb; have dF := aM (xge hg); have dG := aM (xge hg); replace HB := xbs hb; have aG := nblt aE hg; have aH := nbgt aE hg; replace aE := xbb aE hb; have bA := aM (hbox); clear hb hbox hg; have tN := aG.out; have tO := aH.out; obtain ⟨oW, oX, oY, oZ, pA, pB, pC, pD, pE, pF⟩ := xf5 (w := tM) aE; obtain ⟨pG, pH, pI, pJ, pK, pL, pM, pN, pO, pP⟩ := xf5 (w := tM) bA))
  go_ret
  exact ⟨xerr, xbg⟩

end Go.Proofs.Ytppfnnpfamkclaa.QFnExactRollFind
