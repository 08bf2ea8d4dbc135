-- A walk, by a program of this session.
import Derived.Test.YtppfnnpfamkclaaQFnExactRollFindx0
import Derived.Test.YtppfnnpfamkclaaQFnExactRollFindx4
namespace Go.Proofs.Ytppfnnpfamkclaa.QFnExactRollFind
open Go.RowKit Go.Proofs.YtppfnnpfamkclaaW.PrintWords Go.Proofs.YtppfnnpfamkclaaW.PrintLast Go.Proofs.YtppfnnpfamkclaaW.PrintMore
attribute [local go_sem] max2_int min2_int max_two min_two max_three min_three max_four min_four   -- for this text's walks alone
set_option linter.unusedVariables false
set_option linter.unusedSimpArgs false

theorem u5_0 {p : Prop} (h : p := by first | rfl | (simp; done) | (simp [*]; done)) : p := h
theorem u5_1 {p : Prop} (h : p := by repeat (first | exact Drawn0.refl _ | apply Drawn0.step)) : p := h
theorem u5_2 {p : Prop} (h : p := by first | (go_simp; done) | (go_simp; rfl)) : p := h
theorem u5_3 {p : Prop} (h : p := by first | exact Kd.R_nil _ _ _ _ _ | exact Kd.N_nil _ _ _ _ _ | exact Kd.V_nil _ _ _ _ _ | exact Kd.Q_nil _ _ _ _ _ | exact Kd.S_nil _ _ _ _ _) : p := h
theorem u5_4 {p : Prop} (h : p := by first | (rw [hY]; with_reducible exact H) | (have H2_ := oS H; rw [hY]; with_reducible exact H2_) | (have H2_ := oS H; with_reducible exact H2_) | with_reducible exact H | (rw [hY]; exact H) | exact H) : p := h
/-! ### spec_l7Find: function 31 -/
def spec_l7Find.l0 : Nat → Int → Int → Int → List (S38) → Int → List Int → Option (Int)
 | 0, _, _, _, _, _, _ => none
 | k + 1, x1, x5, cY, bN, cZ, dA => if x5 < (bN.length : Int) then (if 0 ≤ x5 then (if ((rd_T38 bN x5).f0) = x1 then (some x5) else (spec_l7Find.l0 k x1 (wrap64 (x5 + 1)) cY bN cZ dA)) else (none)) else (some (-1))
def spec_l7Find.f (k : Nat) (aK : Int) (aA : List (S38)) (aN : Int) (aJ : List Int) (a1 : Int) : Option (Int) := spec_l7Find.l0 k a1 0 aK aA aN aJ
theorem u5_mq0 {p : Prop} (h : p := by repeat' first | (with_reducible first | exact dJ _ _ _ _ _ _ | exact LeO.refl _ | exact LeO.none _ | refine LeO.ite ?_ ?_ | refine LeO.bind ?_ (fun _ => ?_)) | exact LeO.none _ | refine LeO.ite ?_ ?_ | refine LeO.bind ?_ (fun _ => ?_)) : p := h
set_option maxRecDepth 100000 in
theorem spec_l7Find.mono_l : ∀ k, (∀ y0 y1 y2 y3 y4 y5, LeO (spec_l7Find.l0 k y0 y1 y2 y3 y4 y5) (spec_l7Find.l0 (k + 1) y0 y1 y2 y3 y4 y5))
 | 0 => fun _ _ _ _ _ _ r h => by simp [spec_l7Find.l0] at h
 | k + 1 => by
  have dJ := spec_l7Find.mono_l k
  ·intro y0 y1 y2 y3 y4 y5; unfold spec_l7Find.l0; exact u5_mq0
theorem spec_l7Find.mono : ∀ a0 a1 a2 a3 a4 k, LeO (spec_l7Find.f k a0 a1 a2 a3 a4) (spec_l7Find.f (k + 1) a0 a1 a2 a3 a4) := by
 intro a0 a1 a2 a3 a4 k
 have dJ := spec_l7Find.mono_l k
 unfold spec_l7Find.f
 exact u5_mq0
set_option maxHeartbeats 8000000 in
set_option maxRecDepth 100000 in
theorem spec_l7Find.calls (k : Nat) (aK : Int) (bI : Option Addr) (aU : Nat) (aA : List (S38)) (aN : Int) (aV : Option Addr) (aW : Nat) (aJ : List Int) (a1 : Int) (r : Int) (w : World) (bP : Kd.C k38 w bI aA.length aA) (bQ : aA.length ≤ aU) (bR : Kd.C (Kd.int .i64) w aV aJ.length aJ) (bU : aJ.length ≤ aW) (h : spec_l7Find.f k aK aA aN aJ a1 = some r) :
 Calls Try.prog 31 #[.agg #[.int .i64 aK, .slice bI aA.length aU, .int .i64 aN, .slice aV aJ.length aW], .int .i64 a1] w fun e w' => e = .returned (.int .i64 r) ∧ Below w.heap.size w w' := by
 have jY := Try.underlying30
 have aX := aM bP
 have bK := aM bQ
 clear bP bQ
 have bL := aM bR
 have bM := aM bU
 clear bR bU
 have HB := aM (Below.refl w.heap.size w)
 have H : (spec_l7Find.l0 k a1 0 aK aA aN aJ) = some r := h
 clear h
 have H' := aM H
 clear H
 go_enter Try.func31, Try.ntmps31
 go_wp2_with (first | ((with_reducible refine gD 2 rfl ?_); refine boxE (N := 2) rfl (cs := #[.int .i64 aK, .slice bI aA.length aU, .int .i64 aN, .slice aV aJ.length aW]) (t := 30) ?_; intro eI hg w3 hbox hb; have cC := aM (hbox); have kY := aM (xge hg); have kZ := aM (xge hg); replace HB := xbs hb; clear hb hbox hg))
 go_loopg [5] k (fun kq v5 w' => ∃ (aT : Int), v5 = .int .i64 aT ∧ Aside0 (spec_l7Find.l0 kq a1 aT aK aA aN aJ = some r) ∧ Aside0 (kq ≤ k) ∧ Aside0 (w'.heap[eI]? = some (.cells #[.int .i64 aK, (.slice bI aA.length aU), .int .i64 aN, (.slice aV aJ.length aW)] 30 (0, 0))) ∧ Aside0 (Below w.heap.size w w'))
 case atStart => exact ⟨(0), u5_0, H', ⟨Nat.le_refl _⟩, ⟨xblk⟩, ⟨xbg⟩⟩
 case round =>
  clear H'; try clear p2
  try clear c3
  obtain ⟨aT, rfl, HA, HK1, cC, HB⟩ := hrel; cases gk with
  | zero => exact absurd HA.out (by simp [spec_l7Find.l0])
  | succ k1 =>
   have H := HA.out; clear HA; simp only [spec_l7Find.l0] at H; by_cases c4 : aT < (aA.length : Int)
   ·rw [if_pos c4] at H; have bV : decide (aT < (aA.length : Int)) = true := decide_eq_true c4; clear c4; by_cases c5 : 0 ≤ aT
    ·rw [if_pos c5] at H; have eJ : decide (0 ≤ aT) = true := decide_eq_true c5; clear c5; by_cases c6 : ((rd_T38 aA aT).f0) = a1
     ·rw [if_pos c6] at H; obtain ⟨eK, jZ⟩ := bT c6; clear c6; obtain rfl := Option.some.inj H; obtain ⟨kA, kB, kC, kE, kF, kG, kH, kI⟩ := xf4 (w := wr) cC; have p182 : 0 ≤ (aT : Int) := oda; have q182 : aT < (aA.length : Int) := oda; obtain ⟨eL, dP, dQ, dR, aY, aZ, bA, bB, bC, bE, hi182_3⟩ := at_T38 aX.out aT p182 q182; cases dR
      replace aY := xce HB aY; replace aZ := xce HB aZ; replace bA := xce HB bA; replace bB := xce HB bB; replace bC := xce HB bC; have dB := aM hi182_3; have dC := aM bE; clear hi182_3 bE; replace p182 := eq_true p182; replace q182 := eq_true q182; go_wp2; go_ret
      exact ⟨xerr, xbg⟩
     ·rw [if_neg c6] at H; obtain ⟨eK, jZ⟩ := bF c6; have H' := aM H; clear H; obtain ⟨dS, dU, dV, dW, dX, dY, dZ, eA⟩ := xf4 (w := wr) cC; have p182 : 0 ≤ (aT : Int) := oda; have q182 : aT < (aA.length : Int) := oda; obtain ⟨eL, dP, dQ, dR, aY, aZ, bA, bB, bC, bE, hi182_3⟩ := at_T38 aX.out aT p182 q182; cases dR
      replace aY := xce HB aY; replace aZ := xce HB aZ; replace bA := xce HB bA; replace bB := xce HB bB; replace bC := xce HB bC; have dB := aM hi182_3; have dC := aM bE; clear hi182_3 bE; replace p182 := eq_true p182; replace q182 := eq_true q182; go_wp2; go_roundg k1
      case measure => have := HK1.out; omega
      case rel => exact ⟨(wrap64 (aT + 1)), u5_0, H', ⟨by have := HK1.out; omega⟩, ⟨xblk⟩, ⟨xbg⟩⟩
    ·rw [if_neg c5] at H; exact absurd H (by simp)
   ·rw [if_neg c4] at H; have bV : decide (aT < (aA.length : Int)) = false := decide_eq_false c4; clear c4; obtain rfl := Option.some.inj H; obtain ⟨kJ, kK, kL, kM, kN, kO, kP, kQ⟩ := xf4 (w := wr) cC; go_wp2; go_ret
    exact ⟨xerr, xbg⟩

/-! ### spec_RollFind: function 14 -/
def spec_RollFind.f (k : Nat) (aK : Int) (aA : List (S38)) (aN : Int) (aJ : List Int) (a1 : Int) : Option (Int × Int × ByteArray × List Int × Int × Bool) := (spec_l7Find.f k aK aA aN aJ a1).bind fun aC => (if aC < 0 then (some (0, 0, (⟨#[]⟩ : ByteArray), ([] : List Int), 0, false)) else ((spec_RollOk.f k aK aA aN aJ).bind fun cS => (if cS = true then (if 0 ≤ aC then (if aC < (aA.length : Int) then ((some (([] : List Int) : List Int)).bind fun bJ => (if bJ.length + ((rd_T38 aA aC).f3).length < 17592186044416 then (some ((rd_T38 aA aC).f0, (rd_T38 aA aC).f1, (rd_T38 aA aC).f2, (bJ ++ ((rd_T38 aA aC).f3)), (rd_T38 aA aC).f4, true)) else (none))) else (none)) else (none)) else (some (0, 0, (⟨#[]⟩ : ByteArray), ([] : List Int), 0, false)))))
theorem u5_mq1 {p : Prop} (h : p := by repeat' first | (with_reducible first | exact spec_RollOk.mono _ _ _ _ _ | exact spec_l7Find.mono _ _ _ _ _ _ | exact LeO.refl _ | exact LeO.none _ | refine LeO.ite ?_ ?_ | refine LeO.bind ?_ (fun _ => ?_)) | exact LeO.none _ | refine LeO.ite ?_ ?_ | refine LeO.bind ?_ (fun _ => ?_)) : p := h
theorem spec_RollFind.mono : ∀ a0 a1 a2 a3 a4 k, LeO (spec_RollFind.f k a0 a1 a2 a3 a4) (spec_RollFind.f (k + 1) a0 a1 a2 a3 a4) := by
 intro a0 a1 a2 a3 a4 k
 unfold spec_RollFind.f
 exact u5_mq1
set_option maxHeartbeats 8000000 in
set_option maxRecDepth 100000 in
theorem spec_RollFind.calls (k : Nat) (aK : Int) (bI : Option Addr) (aU : Nat) (aA : List (S38)) (aN : Int) (aV : Option Addr) (aW : Nat) (aJ : List Int) (a1 : Int) (r1 : Int) (r2 : Int) (r3 : ByteArray) (r4 : List Int) (r5 : Int) (r6 : Bool) (w : World) (bP : Kd.C k38 w bI aA.length aA) (bQ : aA.length ≤ aU) (bR : Kd.C (Kd.int .i64) w aV aJ.length aJ) (bU : aJ.length ≤ aW) (h : spec_RollFind.f k aK aA aN aJ a1 = some (r1, r2, r3, r4, r5, r6)) :
 Calls Try.prog 14 #[.agg #[.int .i64 aK, .slice bI aA.length aU, .int .i64 aN, .slice aV aJ.length aW], .int .i64 a1] w fun e w' => ∃ v3_ : Value, e = .returned (.tuple #[.agg #[.int .i64 r1, .int .i64 r2, .string r3, v3_, .int .i64 r5], .bool r6]) ∧ Kd.R (Kd.int .i64) 3 w' w.heap.size (fun _ => True) v3_ r4 ∧ Below w.heap.size w w' := by
 have jY := Try.underlying30
 have lY := Try.underlying38
 have aX := aM bP
 have bK := aM bQ
 clear bP bQ
 have bL := aM bR
 have bM := aM bU
 clear bR bU
 have HB := aM (Below.refl w.heap.size w)
 have H : ((spec_l7Find.f k aK aA aN aJ a1).bind fun aC => (if aC < 0 then (some (0, 0, (⟨#[]⟩ : ByteArray), ([] : List Int), 0, false)) else ((spec_RollOk.f k aK aA aN aJ).bind fun cS => (if cS = true then (if 0 ≤ aC then (if aC < (aA.length : Int) then ((some (([] : List Int) : List Int)).bind fun bJ => (if bJ.length + ((rd_T38 aA aC).f3).length < 17592186044416 then (some ((rd_T38 aA aC).f0, (rd_T38 aA aC).f1, (rd_T38 aA aC).f2, (bJ ++ ((rd_T38 aA aC).f3)), (rd_T38 aA aC).f4, true)) else (none))) else (none)) else (none)) else (some (0, 0, (⟨#[]⟩ : ByteArray), ([] : List Int), 0, false)))))) = some (r1, r2, r3, r4, r5, r6) := h
 clear h
 replace H := oB H
 obtain ⟨aC, lA, H⟩ := H
 (try dsimp only at H)
 have A3 := aM lA
 clear lA
 by_cases c4 : aC < 0
 ·rw [if_pos c4] at H; have bV : decide (aC < 0) = true := decide_eq_true c4; clear c4; simp only [Option.some.injEq, Prod.mk.injEq] at H; obtain ⟨rfl, rfl, rfl, rfl, rfl, rfl⟩ := H; go_enter Try.func14, Try.ntmps14
  go_wp2_with (first | ((with_reducible refine gD 2 rfl ?_); refine boxE (N := 2) rfl (cs := #[.int .i64 aK, .slice bI aA.length aU, .int .i64 aN, .slice aV aJ.length aW]) (t := 30) ?_; intro cT hg w5 hbox hb; have aD := aM (hbox); have dK := aM (xge hg); have dL := aM (xge hg); replace HB := xbs hb; clear hb hbox hg) | ((with_reducible refine gD 4 rfl ?_); refine boxE (N := 4) rfl (cs := #[.int .i64 0, .int .i64 0, .string (⟨#[]⟩ : ByteArray), .slice none 0 0, .int .i64 0]) (t := 38) ?_; intro aI hg w6 hbox hb; have dM := aM (xge hg); have dN := aM (xge hg); replace HB := xbs hb; have aP := nblt aD hg; have aQ := nbgt aD hg; replace aD := xbb aD hb; have aE := aM (hbox); clear hb hbox hg; have lZ := aP.out; have mA := aQ.out; obtain ⟨dS, dU, dV, dW, dX, dY, dZ, eA⟩ := xf4 (w := w6) aD) | ((with_reducible refine gC 31 rfl ?_); refine goesLY (some 10) rfl Try.func31 #[.agg #[.int .i64 aK, .slice bI aA.length aU, .int .i64 aN, .slice aV aJ.length aW], .int .i64 a1] ?_; (with_reducible refine (spec_l7Find.calls k aK _ _ aA aN _ _ aJ a1 aC _ ?side1 ?side2 ?side3 ?side4 A3.out).mono ?_); (case side1 => exact xcb aX); (case side2 => exact bK.out); (case side3 => exact xcb bL); (case side4 => exact bM.out); rintro e w9 ⟨rfl, hb⟩; refine ⟨_, rfl, ?_⟩; replace aD := xbb aD hb; replace aE := xbb aE hb; replace HB := xbs hb; (try clear hb); obtain ⟨eW, eX, eY, eZ, fA, fB, fC, fD, fE, fF⟩ := xf5 (w := w9) aE) | ((with_reducible refine gate_store (t := 38) (p := 4) rfl ?_); refine store_event (t := 38) (p := 4) (v := ?vo_w11) (w1 := (((((w9.setCell ⟨aI, 0, none⟩ (.int .i64 0)).setCell ⟨aI, 1, none⟩ (.int .i64 0)).setCell ⟨aI, 2, none⟩ (.string (⟨#[]⟩ : ByteArray))).setCell ⟨aI, 3, none⟩ (.slice none 0 0)).setCell ⟨aI, 4, none⟩ (.int .i64 0))) ?hg ?ho ?hn ?hr ?_; (case ho | hg | hn => rfl); (case hr => exact u5_2); intro mB hw; replace aD := xwc hw aD; replace aE : Aside0 (mB.heap[aI]? = some (.cells #[.int .i64 0, .int .i64 0, .string (⟨#[]⟩ : ByteArray), .slice none 0 0, .int .i64 0] 38 (0, 0))) := xwp hw; replace HB := xbw hw HB; clear hw))
  refine bodyPost_ret (results_ct rfl _ _ aI 38 #[.int .i64 0, .int .i64 0, .string (⟨#[]⟩ : ByteArray), .slice none 0 0, .int .i64 0] (0, 0) _ rfl xblk Try.underlying38 rfl (by kernel_rfl)) rfl ?_; exact ⟨_, xerr, u5_3, xbg⟩
 ·rw [if_neg c4] at H; have bV : decide (aC < 0) = false := decide_eq_false c4; clear c4; replace H := oB H; obtain ⟨cS, eM, H⟩ := H; (try dsimp only at H); have lB := aM eM; clear eM
  by_cases fG : cS = true
  ·subst fG; replace H := iT H; by_cases fH : 0 ≤ aC
   ·rw [if_pos fH] at H; have lC : decide (0 ≤ aC) = true := decide_eq_true fH; clear fH; by_cases fI : aC < (aA.length : Int)
    ·rw [if_pos fI] at H; have lE : decide (aC < (aA.length : Int)) = true := decide_eq_true fI; clear fI; obtain ⟨bJ, hY⟩ : ∃ y_ : List Int, y_ = (([] : List Int)) := ⟨_, rfl⟩; replace H : (if bJ.length + ((rd_T38 aA aC).f3).length < 17592186044416 then (some ((rd_T38 aA aC).f0, (rd_T38 aA aC).f1, (rd_T38 aA aC).f2, (bJ ++ ((rd_T38 aA aC).f3)), (rd_T38 aA aC).f4, true)) else (none)) = some (r1, r2, r3, r4, r5, r6) := u5_4; have dO := aM hY; clear hY; by_cases fJ : bJ.length + ((rd_T38 aA aC).f3).length < 17592186044416
     ·rw [if_pos fJ] at H; have LMc16 := aM fJ; clear fJ; obtain ⟨bW, hY⟩ : ∃ y_ : List Int, y_ = (bJ ++ ((rd_T38 aA aC).f3)) := ⟨_, rfl⟩; replace H : (some ((rd_T38 aA aC).f0, (rd_T38 aA aC).f1, (rd_T38 aA aC).f2, bW, (rd_T38 aA aC).f4, true)) = some (r1, r2, r3, r4, r5, r6) := u5_4; have eN := aM hY; clear hY; simp only [Option.some.injEq, Prod.mk.injEq] at H; obtain ⟨rfl, rfl, rfl, rfl, rfl, rfl⟩ := H; go_enter Try.func14, Try.ntmps14
      go_wp2_with (first | ((with_reducible refine gD 2 rfl ?_); refine boxE (N := 2) rfl (cs := #[.int .i64 aK, .slice bI aA.length aU, .int .i64 aN, .slice aV aJ.length aW]) (t := 30) ?_; intro cT hg mM hbox hb; have aD := aM (hbox); have dK := aM (xge hg); have dL := aM (xge hg); replace HB := xbs hb; clear hb hbox hg) | ((with_reducible refine gD 4 rfl ?_); refine boxE (N := 4) rfl (cs := #[.int .i64 0, .int .i64 0, .string (⟨#[]⟩ : ByteArray), .slice none 0 0, .int .i64 0]) (t := 38) ?_; intro aI hg mC hbox hb; have dM := aM (xge hg); have dN := aM (xge hg); replace HB := xbs hb; have aP := nblt aD hg; have aQ := nbgt aD hg; replace aD := xbb aD hb; have aE := aM (hbox); clear hb hbox hg; have lF := aP.out; have lG := aQ.out; obtain ⟨fK, fL, fM, fN, fO, fP, fQ, fR⟩ := xf4 (w := mC) aD) | ((with_reducible refine gC 31 rfl ?_); refine goesLY (some 10) rfl Try.func31 #[.agg #[.int .i64 aK, .slice bI aA.length aU, .int .i64 aN, .slice aV aJ.length aW], .int .i64 a1] ?_; (with_reducible refine (spec_l7Find.calls k aK _ _ aA aN _ _ aJ a1 aC _ ?side1 ?side2 ?side3 ?side4 A3.out).mono ?_); (case side1 => exact xcb aX); (case side2 => exact bK.out); (case side3 => exact xcb bL); (case side4 => exact bM.out); rintro e mD ⟨rfl, hb⟩; refine ⟨_, rfl, ?_⟩; replace aD := xbb aD hb; replace aE := xbb aE hb; replace HB := xbs hb; (try clear hb); obtain ⟨fS, fT, fU, fV, fW, fX, fY, fZ⟩ := xf4 (w := mD) aD) | (go_at_call 21; (with_reducible refine (spec_RollOk.calls k aK _ _ aA aN _ _ aJ true _ ?side1 ?side2 ?side3 ?side4 lB.out).mono ?_); (case side1 => exact xcb aX); (case side2 => exact bK.out); (case side3 => exact xcb bL); (case side4 => exact bM.out); rintro e mE ⟨rfl, hb⟩; replace aD := xbb aD hb; replace aE := xbb aE hb; replace HB := xbs hb; (try clear hb); obtain ⟨gA, gB, gE, gF, gG, gH, gI, gJ⟩ := xf4 (w := mE) aD; have p187 : 0 ≤ (aC : Int) := oda; have q187 : aC < (aA.length : Int) := oda; obtain ⟨eO, bZ, cA, kR, cD, cE, cF, cG, cH, cI, hi187_3⟩ := at_T38 aX.out aC p187 q187; cases kR; replace cD := xce HB cD; replace cE := xce HB cE; replace cF := xce HB cF; replace cG := xce HB cG; replace cH := xce HB cH; have dD := aM hi187_3; have gK := aM cI; clear hi187_3 cI; replace p187 := eq_true p187; replace q187 := eq_true q187) | ((with_reducible refine gD 7 rfl ?_); refine boxE (N := 7) rfl (cs := #[.int .i64 0, .int .i64 0, .string (⟨#[]⟩ : ByteArray), .slice none 0 0, .int .i64 0]) (t := 38) ?_; intro bG hg lH hbox hb; have lI := aM (xge hg); have lJ := aM (xge hg); replace HB := xbs hb; have cK := nblt aD hg; have cL := nbgt aD hg; have cM := nblt aE hg; have cN := nbgt aE hg; replace aD := xbb aD hb; replace aE := xbb aE hb; have bH := aM (hbox); clear hb hbox hg; have lK := cL.out; have lL := cK.out; have lM := cN.out; have lN := cM.out; obtain ⟨gL, gM, gN, gO, gP, gQ, gR, gS, gT, gU⟩ := xf5 (w := lH) bH) | ((with_reducible refine gate_store (t := 38) (p := 7) rfl ?_); refine store_event (t := 38) (p := 7) (v := ?vo_w29) (w1 := (((((lH.setCell ⟨bG, 0, none⟩ (.int .i64 ((rd_T38 aA aC).f0))).setCell ⟨bG, 1, none⟩ (.int .i64 ((rd_T38 aA aC).f1))).setCell ⟨bG, 2, none⟩ (.string ((rd_T38 aA aC).f2))).setCell ⟨bG, 3, none⟩ (.slice bZ ((rd_T38 aA aC).f3).length cA)).setCell ⟨bG, 4, none⟩ (.int .i64 ((rd_T38 aA aC).f4)))) ?hg ?ho ?hn ?hr ?_; (case ho | hg | hn => rfl); (case hr => exact u5_2); intro mF hw; replace aD := xwc hw aD; replace aE := xwc hw aE; replace bH : Aside0 (mF.heap[bG]? = some (.cells #[.int .i64 ((rd_T38 aA aC).f0), .int .i64 ((rd_T38 aA aC).f1), .string ((rd_T38 aA aC).f2), .slice bZ ((rd_T38 aA aC).f3).length cA, .int .i64 ((rd_T38 aA aC).f4)] 38 (0, 0))) := xwp hw; replace HB := xbw hw HB; clear hw) | ((with_reducible refine gD 24 rfl ?_); refine Kd.R_lit (Kd.int .i64) _ 3 ?hg (N := 24) ?hd (xs := ([] : List Int)) (inner := []) (ok := fun _ => True) (okp := fun _ => True) ?hr ?hp (fun _ hk => hk) trivial (Below.refl _ _) (Nat.le_refl _) (by simp) ?_; (case hd => rfl); (case hg => rfl); (case hr => exact u5_2); (case hp => exact (Reps.none _ _)); intro v190 mG cU hb hg_ hnew_; clear hg_ hnew_; (first | rw [← dO.out] at cU | (simp only [Int.reduceToNat] at cU; rw [← dO.out] at cU)); have bX := aM (Kd.R_lower cU (below_size xbg)); replace aD := xbb aD hb; replace aE := xbb aE hb; replace bH := xbb bH hb; replace HB := xbs hb; clear hb cU; obtain ⟨gV, gW, gX, gY, gZ, hJ, hU, hX, hZ, iA⟩ := xf5 (w := mG) bH) | ((with_reducible refine gate_builtin (b := .append) (xs := #[.tmp 24, .tmp 26]) rfl ?_); at_builtin; refine Kd.R_append_rows (Kd.int .i64) (w0 := w) w.heap.size rfl (.tmp 24) (.tmp 26) 23 3 (.int .i64 0) 8 rfl Try.underlying23 info3 rfl (by decide) (by omega) v190 bJ ((rd_T38 aA aC).f3) _ _ _ (fun _ => True) (fun _ => False) rfl rfl ?aO ?aR (fun _ _ h => h) (fun _ h => h.elim) ?aF ?aB ?aS ?aL ?_; (case aR => exact xcb dD); (case aB => exact xbg); (case aF => exact (fun _ _ => trivial)); (case aO => exact (xr bX)); (case aS => exact (below_size xbg)); (case aL => have := LMc16.out; omega); intro v193 kS ho hb hg hat; rw [← eN.out] at ho; replace aD := aM (blk_grown (g := cT) (o := .cells #[.int .i64 aK, .slice (some eO) aA.length aU, .int .i64 aN, .slice aV aJ.length aW] 30 (0, 0)) xblk hg (Kd.R_ne bX.out aD.out (by decide))); replace aE := aM (blk_grown (g := aI) (o := .cells #[.int .i64 0, .int .i64 0, .string (⟨#[]⟩ : ByteArray), .slice none 0 0, .int .i64 0] 38 (0, 0)) xblk hg (Kd.R_ne bX.out aE.out (by decide))); replace bH := aM (blk_grown (g := bG) (o := .cells #[.int .i64 ((rd_T38 aA aC).f0), .int .i64 ((rd_T38 aA aC).f1), .string ((rd_T38 aA aC).f2), .slice bZ ((rd_T38 aA aC).f3).length cA, .int .i64 ((rd_T38 aA aC).f4)] 38 (0, 0)) xblk hg (Kd.R_ne bX.out bH.out (by decide))); replace HB := aM (hb); have cJ := aM (ho); clear bX; clear ho hb hg hat; obtain ⟨cO, cP, kT⟩ := Kd.R_slice cJ.out; subst kT; obtain ⟨iB, iC, iD, iE, iF, iG, iH, iI, iJ, iK⟩ := xf5 (w := kS) bH; obtain ⟨iL, iM, iO, iP, iQ, iR, iS, iU, iV, iW⟩ := xf5 (w := kS) aE) | ((with_reducible refine gate_store (t := 38) (p := 4) rfl ?_); refine store_event (t := 38) (p := 4) (v := ?vo_w37) (w1 := ((((((kS.setCell ⟨bG, 3, none⟩ (.slice cO bW.length cP)).setCell ⟨aI, 0, none⟩ (.int .i64 ((rd_T38 aA aC).f0))).setCell ⟨aI, 1, none⟩ (.int .i64 ((rd_T38 aA aC).f1))).setCell ⟨aI, 2, none⟩ (.string ((rd_T38 aA aC).f2))).setCell ⟨aI, 3, none⟩ (.slice cO bW.length cP)).setCell ⟨aI, 4, none⟩ (.int .i64 ((rd_T38 aA aC).f4)))) ?hg ?ho ?hn ?hr ?_; (case ho | hg | hn => rfl); (case hr => exact u5_2); intro kU hw; replace cJ : Aside0 (Kd.R (Kd.int .i64) 3 kU w.heap.size (fun _ => True) (.slice cO bW.length cP) bW) := xwm hw cJ (fun _ _ => trivial); replace aD := xwc hw aD; replace aE : Aside0 (kU.heap[aI]? = some (.cells #[.int .i64 ((rd_T38 aA aC).f0), .int .i64 ((rd_T38 aA aC).f1), .string ((rd_T38 aA aC).f2), .slice cO bW.length cP, .int .i64 ((rd_T38 aA aC).f4)] 38 (0, 0))) := xwp hw; replace bH : Aside0 (kU.heap[bG]? = some (.cells #[.int .i64 ((rd_T38 aA aC).f0), .int .i64 ((rd_T38 aA aC).f1), .string ((rd_T38 aA aC).f2), .slice cO bW.length cP, .int .i64 ((rd_T38 aA aC).f4)] 38 (0, 0))) := xwp hw; replace HB := xbw hw HB; clear hw))
      refine bodyPost_ret (results_ct rfl _ _ aI 38 #[.int .i64 ((rd_T38 aA aC).f0), .int .i64 ((rd_T38 aA aC).f1), .string ((rd_T38 aA aC).f2), .slice cO bW.length cP, .int .i64 ((rd_T38 aA aC).f4)] (0, 0) _ rfl xblk Try.underlying38 rfl (by kernel_rfl)) rfl ?_; exact ⟨_, xerr, by (with_reducible repeat (first | apply Kd.R_alloc | apply Kd.R_drewN | apply Kd.R_drew)); exact cJ.out, xbg⟩
     ·rw [if_neg fJ] at H; exact absurd H (by simp)
    ·rw [if_neg fI] at H; exact absurd H (by simp)
   ·rw [if_neg fH] at H; exact absurd H (by simp)
  ·replace fG := Bool.eq_false_iff.mpr fG; subst fG; replace H := iN H; simp only [Option.some.injEq, Prod.mk.injEq] at H; obtain ⟨rfl, rfl, rfl, rfl, rfl, rfl⟩ := H; go_enter Try.func14, Try.ntmps14
   go_wp2_with (first | ((with_reducible refine gD 2 rfl ?_); refine boxE (N := 2) rfl (cs := #[.int .i64 aK, .slice bI aA.length aU, .int .i64 aN, .slice aV aJ.length aW]) (t := 30) ?_; intro cT hg mN hbox hb; have aD := aM (hbox); have dK := aM (xge hg); have dL := aM (xge hg); replace HB := xbs hb; clear hb hbox hg) | ((with_reducible refine gD 4 rfl ?_); refine boxE (N := 4) rfl (cs := #[.int .i64 0, .int .i64 0, .string (⟨#[]⟩ : ByteArray), .slice none 0 0, .int .i64 0]) (t := 38) ?_; intro aI hg mH hbox hb; have dM := aM (xge hg); have dN := aM (xge hg); replace HB := xbs hb; have aP := nblt aD hg; have aQ := nbgt aD hg; replace aD := xbb aD hb; have aE := aM (hbox); clear hb hbox hg; have lO := aP.out; have lP := aQ.out; obtain ⟨iX, iY, iZ, jA, jB, jC, jD, jE⟩ := xf4 (w := mH) aD) | ((with_reducible refine gC 31 rfl ?_); refine goesLY (some 10) rfl Try.func31 #[.agg #[.int .i64 aK, .slice bI aA.length aU, .int .i64 aN, .slice aV aJ.length aW], .int .i64 a1] ?_; (with_reducible refine (spec_l7Find.calls k aK _ _ aA aN _ _ aJ a1 aC _ ?side1 ?side2 ?side3 ?side4 A3.out).mono ?_); (case side1 => exact xcb aX); (case side2 => exact bK.out); (case side3 => exact xcb bL); (case side4 => exact bM.out); rintro e mI ⟨rfl, hb⟩; refine ⟨_, rfl, ?_⟩; replace aD := xbb aD hb; replace aE := xbb aE hb; replace HB := xbs hb; (try clear hb); obtain ⟨jF, jG, jH, jI, jJ, jK, jL, jM⟩ := xf4 (w := mI) aD) | (go_at_call 21; (with_reducible refine (spec_RollOk.calls k aK _ _ aA aN _ _ aJ false _ ?side1 ?side2 ?side3 ?side4 lB.out).mono ?_); (case side1 => exact xcb aX); (case side2 => exact bK.out); (case side3 => exact xcb bL); (case side4 => exact bM.out); rintro e lQ ⟨rfl, hb⟩; replace aD := xbb aD hb; replace aE := xbb aE hb; replace HB := xbs hb; (try clear hb); obtain ⟨jN, jO, jP, jQ, jR, jS, jT, jU, jV, jW⟩ := xf5 (w := lQ) aE) | ((with_reducible refine gate_store (t := 38) (p := 4) rfl ?_); refine store_event (t := 38) (p := 4) (v := ?vo_w46) (w1 := (((((lQ.setCell ⟨aI, 0, none⟩ (.int .i64 0)).setCell ⟨aI, 1, none⟩ (.int .i64 0)).setCell ⟨aI, 2, none⟩ (.string (⟨#[]⟩ : ByteArray))).setCell ⟨aI, 3, none⟩ (.slice none 0 0)).setCell ⟨aI, 4, none⟩ (.int .i64 0))) ?hg ?ho ?hn ?hr ?_; (case ho | hg | hn => rfl); (case hr => exact u5_2); intro mJ hw; replace aD := xwc hw aD; replace aE : Aside0 (mJ.heap[aI]? = some (.cells #[.int .i64 0, .int .i64 0, .string (⟨#[]⟩ : ByteArray), .slice none 0 0, .int .i64 0] 38 (0, 0))) := xwp hw; replace HB := xbw hw HB; clear hw))
   refine bodyPost_ret (results_ct rfl _ _ aI 38 #[.int .i64 0, .int .i64 0, .string (⟨#[]⟩ : ByteArray), .slice none 0 0, .int .i64 0] (0, 0) _ rfl xblk Try.underlying38 rfl (by kernel_rfl)) rfl ?_; exact ⟨_, xerr, u5_3, xbg⟩

/-! ### impl_within: function 27 -/
def impl_within.f (a0 : Int) (a1 : Int) (a2 : Int) : Option (Bool) := if a0 ≥ a1 then (some (decide (a0 ≤ a2))) else (some false)
set_option maxHeartbeats 8000000 in
set_option maxRecDepth 100000 in
theorem impl_within.calls (a0 : Int) (a1 : Int) (a2 : Int) (r : Bool) (w : World) (h : impl_within.f a0 a1 a2 = some r) :
 Calls Try.prog 27 #[.int .i64 a0, .int .i64 a1, .int .i64 a2] w fun e w' => e = .returned (.bool r) ∧ Drawn0 w w' := by
 have H : (if a0 ≥ a1 then (some (decide (a0 ≤ a2))) else (some false)) = some r := h
 clear h
 by_cases c4 : a0 ≥ a1
 ·rw [if_pos c4] at H; have bV : decide (a1 ≤ a0) = true := decide_eq_true c4; clear c4; obtain rfl := Option.some.inj H; go_enter Try.func27, Try.ntmps27
  go_wp2; go_ret
  exact ⟨u5_0, u5_1⟩
 ·rw [if_neg c4] at H; have bV : decide (a1 ≤ a0) = false := decide_eq_false c4; clear c4; obtain rfl := Option.some.inj H; go_enter Try.func27, Try.ntmps27
  go_wp2; go_ret
  exact ⟨u5_0, u5_1⟩

/-! ### impl_isRelease: function 38 -/
def impl_isRelease.f (a0 : Int) : Option (Bool) := (impl_within.f a0 1 1000).bind fun cV => (some cV)
set_option maxHeartbeats 8000000 in
set_option maxRecDepth 100000 in
theorem impl_isRelease.calls (a0 : Int) (r : Bool) (w : World) (h : impl_isRelease.f a0 = some r) :
 Calls Try.prog 38 #[.int .i64 a0] w fun e w' => e = .returned (.bool r) ∧ Drawn0 w w' := by
 have H : ((impl_within.f a0 1 1000).bind fun cV => (some cV)) = some r := h
 clear h
 replace H := oB H
 obtain ⟨cV, eP, H⟩ := H
 (try dsimp only at H)
 have A2 := aM eP
 clear eP
 obtain rfl := Option.some.inj H
 go_enter Try.func38, Try.ntmps38
 go_wp2_with (first | ((with_reducible refine gC 27 rfl ?_); refine goesLY (some 4) rfl Try.func27 #[.int .i64 a0, .int .i64 1, .int .i64 1000] ?_; (with_reducible refine (impl_within.calls a0 1 1000 cV _ A2.out).mono ?_); rintro e w' ⟨rfl, ⟨nd, rfl⟩⟩; refine ⟨_, rfl, ?_⟩))
 go_ret
 exact ⟨u5_0, u5_1⟩

/-! ### impl_isSize: function 39 -/
def impl_isSize.f (a0 : Int) : Option (Bool) := (impl_within.f a0 0 1000).bind fun cW => (some cW)
set_option maxHeartbeats 8000000 in
set_option maxRecDepth 100000 in
theorem impl_isSize.calls (a0 : Int) (r : Bool) (w : World) (h : impl_isSize.f a0 = some r) :
 Calls Try.prog 39 #[.int .i64 a0] w fun e w' => e = .returned (.bool r) ∧ Drawn0 w w' := by
 have H : ((impl_within.f a0 0 1000).bind fun cW => (some cW)) = some r := h
 clear h
 replace H := oB H
 obtain ⟨cW, eP, H⟩ := H
 (try dsimp only at H)
 have A2 := aM eP
 clear eP
 obtain rfl := Option.some.inj H
 go_enter Try.func39, Try.ntmps39
 go_wp2_with (first | ((with_reducible refine gC 27 rfl ?_); refine goesLY (some 4) rfl Try.func27 #[.int .i64 a0, .int .i64 0, .int .i64 1000] ?_; (with_reducible refine (impl_within.calls a0 0 1000 cW _ A2.out).mono ?_); rintro e w' ⟨rfl, ⟨nd, rfl⟩⟩; refine ⟨_, rfl, ?_⟩))
 go_ret
 exact ⟨u5_0, u5_1⟩

/-! ### impl_nodesAscend: function 40 -/
def impl_nodesAscend.l0 : Nat → List Int → Int → List Int → Int → Int → Option (Bool)
 | 0, _, _, _, _, _ => none
 | k + 1, x0, x1, x7, x8, x9 => if x9 < x8 then (if 0 ≤ x9 then (if x9 < (x7.length : Int) then ((impl_within.f (rd x7 x9) 0 (wrap64 (x1 - 1))).bind fun eB => (if eB = true then (if x9 > 0 then (if 0 ≤ (wrap64 (x9 - 1)) then (if (wrap64 (x9 - 1)) < (x0.length : Int) then (if (rd x0 (wrap64 (x9 - 1))) ≥ (rd x7 x9) then (some false) else (impl_nodesAscend.l0 k x0 x1 x7 x8 (wrap64 (x9 + 1)))) else (none)) else (none)) else (impl_nodesAscend.l0 k x0 x1 x7 x8 (wrap64 (x9 + 1)))) else (some false))) else (none)) else (none)) else (some true)
def impl_nodesAscend.f (k : Nat) (l0 : List Int) (a1 : Int) : Option (Bool) := impl_nodesAscend.l0 k l0 a1 l0 (l0.length : Int) 0
theorem u5_mq2 {p : Prop} (h : p := by repeat' first | (with_reducible first | exact dJ _ _ _ _ _ | exact LeO.refl _ | exact LeO.none _ | refine LeO.ite ?_ ?_ | refine LeO.bind ?_ (fun _ => ?_)) | exact LeO.none _ | refine LeO.ite ?_ ?_ | refine LeO.bind ?_ (fun _ => ?_)) : p := h
set_option maxRecDepth 100000 in
theorem impl_nodesAscend.mono_l : ∀ k, (∀ y0 y1 y2 y3 y4, LeO (impl_nodesAscend.l0 k y0 y1 y2 y3 y4) (impl_nodesAscend.l0 (k + 1) y0 y1 y2 y3 y4))
 | 0 => fun _ _ _ _ _ r h => by simp [impl_nodesAscend.l0] at h
 | k + 1 => by
  have dJ := impl_nodesAscend.mono_l k
  ·intro y0 y1 y2 y3 y4; unfold impl_nodesAscend.l0; exact u5_mq2
theorem impl_nodesAscend.mono : ∀ a0 a1 k, LeO (impl_nodesAscend.f k a0 a1) (impl_nodesAscend.f (k + 1) a0 a1) := by
 intro a0 a1 k
 have dJ := impl_nodesAscend.mono_l k
 unfold impl_nodesAscend.f
 exact u5_mq2
set_option maxHeartbeats 8000000 in
set_option maxRecDepth 100000 in
theorem impl_nodesAscend.calls (k : Nat) (A0 : Option Addr) (c0 : Nat) (l0 : List Int) (a1 : Int) (r : Bool) (w : World) (eQ : Kd.C (Kd.int .i64) w A0 l0.length l0) (eR : l0.length ≤ c0) (h : impl_nodesAscend.f k l0 a1 = some r) :
 Calls Try.prog 40 #[.slice A0 l0.length c0, .int .i64 a1] w fun e w' => e = .returned (.bool r) ∧ Drawn0 w w' := by
 have dE := aM eQ
 have mK := aM eR
 clear eQ eR
 have H : (impl_nodesAscend.l0 k l0 a1 l0 (l0.length : Int) 0) = some r := h
 clear h
 have H' := aM H
 clear H
 go_enter Try.func40, Try.ntmps40
 go_wp2
 go_loopg [9] k (fun kq v9 w' => ∃ (aG : Int), v9 = .int .i64 aG ∧ Aside0 (impl_nodesAscend.l0 kq l0 a1 l0 (l0.length : Int) aG = some r) ∧ Aside0 (kq ≤ k) ∧ Drawn0 w w')
 case atStart => exact ⟨(0), u5_0, H', ⟨Nat.le_refl _⟩, u5_1⟩
 case round =>
  clear H'; try clear p2
  obtain ⟨aG, rfl, HA, HK1, ⟨m1, rfl⟩⟩ := hrel; cases gk with
  | zero => exact absurd HA.out (by simp [impl_nodesAscend.l0])
  | succ k1 =>
   have H := HA.out; clear HA; simp only [impl_nodesAscend.l0] at H; by_cases c3 : aG < (l0.length : Int)
   ·rw [if_pos c3] at H; have cQ : decide (aG < (l0.length : Int)) = true := decide_eq_true c3; clear c3; by_cases c4 : 0 ≤ aG
    ·rw [if_pos c4] at H; have bV : decide (0 ≤ aG) = true := decide_eq_true c4; clear c4; by_cases c5 : aG < (l0.length : Int)
     ·rw [if_pos c5] at H; have eJ : decide (aG < (l0.length : Int)) = true := decide_eq_true c5; clear c5; replace H := oB H; obtain ⟨eB, lR, H⟩ := H; (try dsimp only at H); have A6 := aM lR; clear lR
      by_cases c7 : eB = true
      ·subst c7; replace H := iT H; by_cases c8 : aG > 0
       ·rw [if_pos c8] at H; have eC : decide (0 < aG) = true := decide_eq_true c8; clear c8; obtain ⟨ji9, hji9⟩ : ∃ j_ : Int, (wrap64 (aG - 1)) = j_ := ⟨_, rfl⟩; replace H : (if 0 ≤ (ji9) then (if (ji9) < (l0.length : Int) then (if (rd l0 (ji9)) ≥ (rd l0 aG) then (some false) else (impl_nodesAscend.l0 k1 l0 a1 l0 (l0.length : Int) (wrap64 (aG + 1)))) else (none)) else (none)) = some r := by first | (rw [hji9] at H; exact H) | (simp only [hji9] at H ⊢; exact H)
        (try rw [hji9] at A6); have hji9w : (IntKind.i64.wrap (aG - 1)) = ji9 := (i64_w _).trans hji9; by_cases c10 : 0 ≤ (ji9)
        ·rw [if_pos c10] at H; have lS : decide (0 ≤ (ji9)) = true := decide_eq_true c10; clear c10; by_cases jX : (ji9) < (l0.length : Int)
         ·rw [if_pos jX] at H; have lT : decide ((ji9) < (l0.length : Int)) = true := decide_eq_true jX; clear jX; by_cases eH : (rd l0 (ji9)) ≥ (rd l0 aG)
          ·rw [if_pos eH] at H; have eS : decide ((rd l0 aG) ≤ (rd l0 (ji9))) = true := decide_eq_true eH; clear eH; obtain rfl := Option.some.inj H; have p197 : 0 ≤ (aG : Int) := oda; have q197 : aG < (l0.length : Int) := oda; obtain ⟨bY, cB, bO⟩ := Kd.at_int dE.out aG p197 q197; cases cB
           replace p197 := eq_true p197; replace q197 := eq_true q197; go_wp2_with (first | ((with_reducible refine gC 27 rfl ?_); refine goesLY (some 17) rfl Try.func27 #[.int .i64 (rd l0 aG), .int .i64 0, .int .i64 (wrap64 (a1 - 1))] ?_; (with_reducible refine (impl_within.calls (rd l0 aG) 0 (wrap64 (a1 - 1)) true _ A6.out).mono ?_); rintro e w' ⟨rfl, ⟨nd, rfl⟩⟩; refine ⟨_, rfl, ?_⟩; have p199 : 0 ≤ ((ji9) : Int) := oda; have q199 : (ji9) < (l0.length : Int) := oda; obtain ⟨cX, eD, dF⟩ := Kd.at_int dE.out (ji9) p199 q199; obtain rfl : bY = cX := (by injection eD); replace p199 := eq_true p199; replace q199 := eq_true q199))
           go_ret
           exact ⟨by first | rfl | (simp; done) | (simp only [← hji9] <;> (first | rfl | simp)) | (simp [*]; done), u5_1⟩
          ·rw [if_neg eH] at H; have eS : decide ((rd l0 aG) ≤ (rd l0 (ji9))) = false := decide_eq_false eH; clear eH; have H' := aM H; clear H; have p197 : 0 ≤ (aG : Int) := oda; have q197 : aG < (l0.length : Int) := oda; obtain ⟨bY, cB, bO⟩ := Kd.at_int dE.out aG p197 q197; cases cB
           replace p197 := eq_true p197; replace q197 := eq_true q197; go_wp2_with (first | ((with_reducible refine gC 27 rfl ?_); refine goesLY (some 17) rfl Try.func27 #[.int .i64 (rd l0 aG), .int .i64 0, .int .i64 (wrap64 (a1 - 1))] ?_; (with_reducible refine (impl_within.calls (rd l0 aG) 0 (wrap64 (a1 - 1)) true _ A6.out).mono ?_); rintro e w' ⟨rfl, ⟨nd, rfl⟩⟩; refine ⟨_, rfl, ?_⟩; have p199 : 0 ≤ ((ji9) : Int) := oda; have q199 : (ji9) < (l0.length : Int) := oda; obtain ⟨cX, eD, dF⟩ := Kd.at_int dE.out (ji9) p199 q199; obtain rfl : bY = cX := (by injection eD); replace p199 := eq_true p199; replace q199 := eq_true q199))
           go_roundg k1
           case measure => have := HK1.out; omega
           case rel => exact ⟨(wrap64 (aG + 1)), u5_0, H', ⟨by have := HK1.out; omega⟩, u5_1⟩
         ·rw [if_neg jX] at H; exact absurd H (by simp)
        ·rw [if_neg c10] at H; exact absurd H (by simp)
       ·rw [if_neg c8] at H; have eC : decide (0 < aG) = false := decide_eq_false c8; clear c8; have H' := aM H; clear H; have p197 : 0 ≤ (aG : Int) := oda; have q197 : aG < (l0.length : Int) := oda; obtain ⟨bY, cB, bO⟩ := Kd.at_int dE.out aG p197 q197; cases cB
        replace p197 := eq_true p197; replace q197 := eq_true q197; go_wp2_with (first | ((with_reducible refine gC 27 rfl ?_); refine goesLY (some 17) rfl Try.func27 #[.int .i64 (rd l0 aG), .int .i64 0, .int .i64 (wrap64 (a1 - 1))] ?_; (with_reducible refine (impl_within.calls (rd l0 aG) 0 (wrap64 (a1 - 1)) true _ A6.out).mono ?_); rintro e w' ⟨rfl, ⟨nd, rfl⟩⟩; refine ⟨_, rfl, ?_⟩))
        go_roundg k1
        case measure => have := HK1.out; omega
        case rel => exact ⟨(wrap64 (aG + 1)), u5_0, H', ⟨by have := HK1.out; omega⟩, u5_1⟩
      ·replace c7 := Bool.eq_false_iff.mpr c7; subst c7; replace H := iN H; obtain rfl := Option.some.inj H; have p197 : 0 ≤ (aG : Int) := oda; have q197 : aG < (l0.length : Int) := oda; obtain ⟨bY, cB, bO⟩ := Kd.at_int dE.out aG p197 q197; cases cB
       replace p197 := eq_true p197; replace q197 := eq_true q197; go_wp2_with (first | ((with_reducible refine gC 27 rfl ?_); refine goesLY (some 17) rfl Try.func27 #[.int .i64 (rd l0 aG), .int .i64 0, .int .i64 (wrap64 (a1 - 1))] ?_; (with_reducible refine (impl_within.calls (rd l0 aG) 0 (wrap64 (a1 - 1)) false _ A6.out).mono ?_); rintro e w' ⟨rfl, ⟨nd, rfl⟩⟩; refine ⟨_, rfl, ?_⟩))
       go_ret
       exact ⟨u5_0, u5_1⟩
     ·rw [if_neg c5] at H; exact absurd H (by simp)
    ·rw [if_neg c4] at H; exact absurd H (by simp)
   ·rw [if_neg c3] at H; have cQ : decide (aG < (l0.length : Int)) = false := decide_eq_false c3; clear c3; obtain rfl := Option.some.inj H; go_wp2; go_ret
    exact ⟨u5_0, u5_1⟩

/-! ### impl_isOf: function 41 -/
def impl_isOf.f (a0 : Int) : Option (Bool) := if a0 = 1 then (some true) else (if a0 = 3 then (some true) else (some (a0 == 5)))
set_option maxHeartbeats 8000000 in
set_option maxRecDepth 100000 in
theorem impl_isOf.calls (a0 : Int) (r : Bool) (w : World) (h : impl_isOf.f a0 = some r) :
 Calls Try.prog 41 #[.int .i64 a0] w fun e w' => e = .returned (.bool r) ∧ Drawn0 w w' := by
 have H : (if a0 = 1 then (some true) else (if a0 = 3 then (some true) else (some (a0 == 5)))) = some r := h
 clear h
 by_cases c2 : a0 = 1
 ·rw [if_pos c2] at H; obtain ⟨kV, kW⟩ := bT c2; clear c2; obtain rfl := Option.some.inj H; go_enter Try.func41, Try.ntmps41
  go_wp2; go_ret
  exact ⟨u5_0, u5_1⟩
 ·rw [if_neg c2] at H; obtain ⟨kV, kW⟩ := bF c2; by_cases c3 : a0 = 3
  ·rw [if_pos c3] at H; obtain ⟨cQ, dG⟩ := bT c3; clear c3; obtain rfl := Option.some.inj H; go_enter Try.func41, Try.ntmps41
   go_wp2; go_ret
   exact ⟨u5_0, u5_1⟩
  ·rw [if_neg c3] at H; obtain ⟨cQ, dG⟩ := bF c3; obtain rfl := Option.some.inj H; go_enter Try.func41, Try.ntmps41
   go_wp2; go_ret
   exact ⟨u5_0, u5_1⟩

/-! ### slices_Equal_int_int: function 42 -/
def slices_Equal_int_int.l0 : Nat → List Int → List Int → Int → Int → Option (Bool)
 | 0, _, _, _, _ => none
 | k + 1, x0, x1, lU, eE => if eE < lU then (if 0 ≤ eE then (if eE < (x0.length : Int) then (if eE < (x1.length : Int) then (if (rd x0 eE) = (rd x1 eE) then (slices_Equal_int_int.l0 k x0 x1 lU (wrap64 (eE + 1))) else (some false)) else (none)) else (none)) else (none)) else (some true)
def slices_Equal_int_int.f (k : Nat) (l0 : List Int) (l1 : List Int) : Option (Bool) := if (l0.length : Int) = (l1.length : Int) then (slices_Equal_int_int.l0 k l0 l1 (l0.length : Int) 0) else (some false)
theorem u5_mq3 {p : Prop} (h : p := by repeat' first | (with_reducible first | exact dJ _ _ _ _ | exact LeO.refl _ | exact LeO.none _ | refine LeO.ite ?_ ?_ | refine LeO.bind ?_ (fun _ => ?_)) | exact LeO.none _ | refine LeO.ite ?_ ?_ | refine LeO.bind ?_ (fun _ => ?_)) : p := h
set_option maxRecDepth 100000 in
theorem slices_Equal_int_int.mono_l : ∀ k, (∀ y0 y1 y2 y3, LeO (slices_Equal_int_int.l0 k y0 y1 y2 y3) (slices_Equal_int_int.l0 (k + 1) y0 y1 y2 y3))
 | 0 => fun _ _ _ _ r h => by simp [slices_Equal_int_int.l0] at h
 | k + 1 => by
  have dJ := slices_Equal_int_int.mono_l k
  ·intro y0 y1 y2 y3; unfold slices_Equal_int_int.l0; exact u5_mq3
theorem slices_Equal_int_int.mono : ∀ a0 a1 k, LeO (slices_Equal_int_int.f k a0 a1) (slices_Equal_int_int.f (k + 1) a0 a1) := by
 intro a0 a1 k
 have dJ := slices_Equal_int_int.mono_l k
 unfold slices_Equal_int_int.f
 exact u5_mq3
set_option maxHeartbeats 8000000 in
set_option maxRecDepth 100000 in
theorem slices_Equal_int_int.calls (k : Nat) (A0 : Option Addr) (c0 : Nat) (l0 : List Int) (A1 : Option Addr) (c1 : Nat) (l1 : List Int) (r : Bool) (w : World) (eQ : Kd.C (Kd.int .i64) w A0 l0.length l0) (eR : l0.length ≤ c0) (lV : Kd.C (Kd.int .i64) w A1 l1.length l1) (lW : l1.length ≤ c1) (h : slices_Equal_int_int.f k l0 l1 = some r) :
 Calls Try.prog 42 #[.slice A0 l0.length c0, .slice A1 l1.length c1] w fun e w' => e = .returned (.bool r) ∧ Drawn0 w w' := by
 have dE := aM eQ
 have mK := aM eR
 clear eQ eR
 have lX := aM lV
 have mO := aM lW
 clear lV lW
 have H : (if (l0.length : Int) = (l1.length : Int) then (slices_Equal_int_int.l0 k l0 l1 (l0.length : Int) 0) else (some false)) = some r := h
 clear h
 by_cases c3 : (l0.length : Int) = (l1.length : Int)
 ·rw [if_pos c3] at H; obtain ⟨cQ, dG⟩ := bT c3; have eT : (l0.length == l1.length) = true := by first | simpa using c3 | (simp at c3 ⊢; omega)
  clear c3; have H' := aM H; clear H; go_enter Try.func42, Try.ntmps42
  go_wp2
  repeat (go_quiet (fail); try go_wp2)
  go_loopg [13] k (fun kq v13 w' => ∃ (aH : Int), v13 = .int .i64 aH ∧ Aside0 (slices_Equal_int_int.l0 kq l0 l1 (l0.length : Int) aH = some r) ∧ Aside0 (kq ≤ k) ∧ Drawn0 w w')
  case atStart => exact ⟨(0), u5_0, H', ⟨Nat.le_refl _⟩, u5_1⟩
  case round =>
   clear H'; try clear c1
   try clear p2
   try clear c3
   try clear cQ
   try clear dG
   try clear eT
   obtain ⟨aH, rfl, HA, HK1, ⟨m1, rfl⟩⟩ := hrel; cases gk with
   | zero => exact absurd HA.out (by simp [slices_Equal_int_int.l0])
   | succ k1 =>
    have H := HA.out; clear HA; simp only [slices_Equal_int_int.l0] at H; by_cases c4 : aH < (l0.length : Int)
    ·rw [if_pos c4] at H; have bV : decide (aH < (l0.length : Int)) = true := decide_eq_true c4; clear c4; by_cases c5 : 0 ≤ aH
     ·rw [if_pos c5] at H; have eJ : decide (0 ≤ aH) = true := decide_eq_true c5; clear c5; by_cases c6 : aH < (l0.length : Int)
      ·rw [if_pos c6] at H; have eK : decide (aH < (l0.length : Int)) = true := decide_eq_true c6; clear c6; by_cases c7 : aH < (l1.length : Int)
       ·rw [if_pos c7] at H; have mL : decide (aH < (l1.length : Int)) = true := decide_eq_true c7; clear c7; by_cases c8 : (rd l0 aH) = (rd l1 aH)
        ·rw [if_pos c8] at H; obtain ⟨eC, kX⟩ := bT c8; clear c8; have H' := aM H; clear H; have p200 : 0 ≤ (aH : Int) := oda; have q200 : aH < (l0.length : Int) := oda; obtain ⟨eU, eF, dH⟩ := Kd.at_int dE.out aH p200 q200; cases eF
         replace p200 := eq_true p200; replace q200 := eq_true q200; have p201 : 0 ≤ (aH : Int) := oda; have q201 : aH < (l1.length : Int) := oda; obtain ⟨eV, eG, dI⟩ := Kd.at_int lX.out aH p201 q201; cases eG
         replace p201 := eq_true p201; replace q201 := eq_true q201; go_wp2
         repeat (go_quiet (fail); try go_wp2)
         go_roundg k1
         case measure => have := HK1.out; omega
         case rel => exact ⟨(wrap64 (aH + 1)), u5_0, H', ⟨by have := HK1.out; omega⟩, u5_1⟩
        ·rw [if_neg c8] at H; obtain ⟨eC, kX⟩ := bF c8; obtain rfl := Option.some.inj H; have p200 : 0 ≤ (aH : Int) := oda; have q200 : aH < (l0.length : Int) := oda; obtain ⟨eU, eF, dH⟩ := Kd.at_int dE.out aH p200 q200; cases eF
         replace p200 := eq_true p200; replace q200 := eq_true q200; have p201 : 0 ≤ (aH : Int) := oda; have q201 : aH < (l1.length : Int) := oda; obtain ⟨eV, eG, dI⟩ := Kd.at_int lX.out aH p201 q201; cases eG
         replace p201 := eq_true p201; replace q201 := eq_true q201; go_wp2
         repeat (go_quiet (fail); try go_wp2)
         go_ret
         exact ⟨u5_0, u5_1⟩
       ·rw [if_neg c7] at H; exact absurd H (by simp)
      ·rw [if_neg c6] at H; exact absurd H (by simp)
     ·rw [if_neg c5] at H; exact absurd H (by simp)
    ·rw [if_neg c4] at H; have bV : decide (aH < (l0.length : Int)) = false := decide_eq_false c4; clear c4; obtain rfl := Option.some.inj H; go_wp2
     repeat (go_quiet (fail); try go_wp2)
     go_ret
     exact ⟨u5_0, u5_1⟩
 ·rw [if_neg c3] at H; obtain ⟨cQ, dG⟩ := bF c3; have eT : (l0.length == l1.length) = false := by first | simpa using c3 | (simp at c3 ⊢; omega)
  obtain rfl := Option.some.inj H; go_enter Try.func42, Try.ntmps42
  go_wp2
  repeat (go_quiet (fail); try go_wp2)
  go_ret
  exact ⟨u5_0, u5_1⟩

end Go.Proofs.Ytppfnnpfamkclaa.QFnExactRollFind
