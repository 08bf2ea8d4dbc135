-- A walk, by a program of this session.
import Derived.Test.YtoojdlobnbakoaaQFnExactHardSavex0
namespace Go.Proofs.Ytoojdlobnbakoaa.QFnExactHardSave
open Go.RowKit Go.Proofs.YtoojdlobnbakoaaW.PrintWords Go.Proofs.YtoojdlobnbakoaaW.PrintLast Go.Proofs.YtoojdlobnbakoaaW.PrintMore
attribute [local go_sem] max2_int min2_int max_two min_two max_three min_three max_four min_four   -- for this text's walks alone
set_option linter.unusedVariables false
set_option linter.unusedSimpArgs false

theorem u3_0 {p : Prop} (h : p := by first | rfl | (simp; done) | (simp [*]; done)) : p := h
theorem u3_1 {p : Prop} (h : p := by repeat (first | exact Drawn0.refl _ | apply Drawn0.step)) : p := h
/-! ### laws_szFile: function 159 -/
def laws_szFile.f (aC : Int) (aB : ByteArray) (aD : ByteArray) (a1 : Int) : Option (Int) := if (wrap64 (a1 - (aB.size : Int))) < 0 then (some (-1)) else (if (wrap64 ((wrap64 (a1 - (aB.size : Int))) - (aD.size : Int))) < 0 then (some (-1)) else (some (wrap64 ((wrap64 (a1 - (aB.size : Int))) - (aD.size : Int)))))
set_option maxHeartbeats 8000000 in
set_option maxRecDepth 100000 in
theorem laws_szFile.calls (aC : Int) (aB : ByteArray) (aD : ByteArray) (a1 : Int) (r : Int) (w : World) (h : laws_szFile.f aC aB aD a1 = some r) :
 Calls Try.prog 159 #[.agg #[.int .i64 aC, .string aB, .string aD], .int .i64 a1] w fun e w' => e = .returned (.int .i64 r) ∧ Below w.heap.size w w' := by
 have dZ := Try.underlying161
 have HB := aM (Below.refl w.heap.size w)
 have H : (if (wrap64 (a1 - (aB.size : Int))) < 0 then (some (-1)) else (if (wrap64 ((wrap64 (a1 - (aB.size : Int))) - (aD.size : Int))) < 0 then (some (-1)) else (some (wrap64 ((wrap64 (a1 - (aB.size : Int))) - (aD.size : Int)))))) = some r := h
 clear h
 by_cases c3 : (wrap64 (a1 - (aB.size : Int))) < 0
 ·rw [if_pos c3] at H; have bC : decide ((wrap64 (a1 - (aB.size : Int))) < 0) = true := decide_eq_true c3; clear c3; obtain rfl := Option.some.inj H; go_enter Try.func159, Try.ntmps159
  go_wp2_with (first | ((with_reducible refine gD 2 rfl ?_); refine boxE (N := 2) rfl (cs := #[.int .i64 aC, .string aB, .string aD]) (t := 161) ?_; intro cX hg w4 hbox hb; have bR := aM (hbox); have cY := aM (xge hg); have cZ := aM (xge hg); replace HB := xbs hb; clear hb hbox hg; obtain ⟨cI, cJ, dD, cK, cL, dE⟩ := xf3 (w := w4) bR))
  go_ret
  exact ⟨xerr, xbg⟩
 ·rw [if_neg c3] at H; have bC : decide ((wrap64 (a1 - (aB.size : Int))) < 0) = false := decide_eq_false c3; clear c3; by_cases c6 : (wrap64 ((wrap64 (a1 - (aB.size : Int))) - (aD.size : Int))) < 0
  ·rw [if_pos c6] at H; have fD : decide ((wrap64 ((wrap64 (a1 - (aB.size : Int))) - (aD.size : Int))) < 0) = true := decide_eq_true c6; clear c6; obtain rfl := Option.some.inj H; go_enter Try.func159, Try.ntmps159
   go_wp2_with (first | ((with_reducible refine gD 2 rfl ?_); refine boxE (N := 2) rfl (cs := #[.int .i64 aC, .string aB, .string aD]) (t := 161) ?_; intro cX hg w7 hbox hb; have bR := aM (hbox); have cY := aM (xge hg); have cZ := aM (xge hg); replace HB := xbs hb; clear hb hbox hg; obtain ⟨fE, fF, fG, fH, fI, fJ⟩ := xf3 (w := w7) bR))
   go_ret
   exact ⟨xerr, xbg⟩
  ·rw [if_neg c6] at H; have fD : decide ((wrap64 ((wrap64 (a1 - (aB.size : Int))) - (aD.size : Int))) < 0) = false := decide_eq_false c6; clear c6; obtain rfl := Option.some.inj H; go_enter Try.func159, Try.ntmps159
   go_wp2_with (first | ((with_reducible refine gD 2 rfl ?_); refine boxE (N := 2) rfl (cs := #[.int .i64 aC, .string aB, .string aD]) (t := 161) ?_; intro cX hg w9 hbox hb; have bR := aM (hbox); have cY := aM (xge hg); have cZ := aM (xge hg); replace HB := xbs hb; clear hb hbox hg; obtain ⟨eX, eY, eZ, fA, fB, fC⟩ := xf3 (w := w9) bR))
   go_ret
   exact ⟨xerr, xbg⟩

/-! ### laws_szFileS: function 115 -/
def laws_szFileS.l0 : Nat → List (S161) → Int → Int → Option (Int)
 | 0, _, _, _ => none
 | k + 1, x0, x1, x5 => if x5 < (x0.length : Int) then (if 0 ≤ x5 then ((laws_szFile.f ((rd_T161 x0 x5).f0) ((rd_T161 x0 x5).f1) ((rd_T161 x0 x5).f2) x1).bind fun bP => (if bP < 0 then (some (-1)) else (laws_szFileS.l0 k x0 bP (wrap64 (x5 + 1))))) else (none)) else (some x1)
def laws_szFileS.f (k : Nat) (l0 : List (S161)) (a1 : Int) : Option (Int) := if (wrap64 (a1 - (l0.length : Int))) < 0 then (some (-1)) else (laws_szFileS.l0 k l0 (wrap64 (a1 - (l0.length : Int))) 0)
theorem u3_mq0 {p : Prop} (h : p := by repeat' first | (with_reducible first | exact cU _ _ _ | exact LeO.refl _ | exact LeO.none _ | refine LeO.ite ?_ ?_ | refine LeO.bind ?_ (fun _ => ?_)) | exact cU _ _ _ | exact LeO.none _ | refine LeO.ite ?_ ?_ | refine LeO.bind ?_ (fun _ => ?_)) : p := h
set_option maxRecDepth 100000 in
theorem laws_szFileS.mono_l : ∀ k, (∀ y0 y1 y2, LeO (laws_szFileS.l0 k y0 y1 y2) (laws_szFileS.l0 (k + 1) y0 y1 y2))
 | 0 => fun _ _ _ r h => by simp [laws_szFileS.l0] at h
 | k + 1 => by
  have cU := laws_szFileS.mono_l k
  ·intro y0 y1 y2; unfold laws_szFileS.l0; exact u3_mq0
theorem laws_szFileS.mono : ∀ a0 a1 k, LeO (laws_szFileS.f k a0 a1) (laws_szFileS.f (k + 1) a0 a1) := by
 intro a0 a1 k
 have cU := laws_szFileS.mono_l k
 unfold laws_szFileS.f
 exact u3_mq0
set_option maxHeartbeats 8000000 in
set_option maxRecDepth 100000 in
theorem laws_szFileS.calls (k : Nat) (A0 : Option Addr) (c0 : Nat) (l0 : List (S161)) (a1 : Int) (r : Int) (w : World) (eA : Kd.C k161 w A0 l0.length l0) (eB : l0.length ≤ c0) (h : laws_szFileS.f k l0 a1 = some r) :
 Calls Try.prog 115 #[.slice A0 l0.length c0, .int .i64 a1] w fun e w' => e = .returned (.int .i64 r) ∧ Below w.heap.size w w' := by
 have dZ := Try.underlying161
 have eC := aM eA
 have gV := aM eB
 clear eA eB
 have HB := aM (Below.refl w.heap.size w)
 have H : (if (wrap64 (a1 - (l0.length : Int))) < 0 then (some (-1)) else (laws_szFileS.l0 k l0 (wrap64 (a1 - (l0.length : Int))) 0)) = some r := h
 clear h
 by_cases c3 : (wrap64 (a1 - (l0.length : Int))) < 0
 ·rw [if_pos c3] at H; have bC : decide ((wrap64 (a1 - (l0.length : Int))) < 0) = true := decide_eq_true c3; clear c3; obtain rfl := Option.some.inj H; go_enter Try.func115, Try.ntmps115
  go_wp2; go_ret
  exact ⟨xerr, xbel⟩
 ·rw [if_neg c3] at H; have bC : decide ((wrap64 (a1 - (l0.length : Int))) < 0) = false := decide_eq_false c3; clear c3; have H' := aM H; clear H; go_enter Try.func115, Try.ntmps115
  go_wp2; go_loopg [1, 5] k (fun kq v1 v5 w' => ∃ (aJ : Int) (aA : Int), v1 = .int .i64 aJ ∧ v5 = .int .i64 aA ∧ Aside0 (laws_szFileS.l0 kq l0 aJ aA = some r) ∧ Aside0 (kq ≤ k) ∧ Aside0 (Below w.heap.size w w'))
  case atStart => exact ⟨(wrap64 (a1 - (l0.length : Int))), (0), u3_0, u3_0, H', ⟨Nat.le_refl _⟩, ⟨xbel⟩⟩
  case round =>
   clear H'; try clear c1
   try clear p2
   try clear c3
   try clear bC
   obtain ⟨aJ, aA, rfl, rfl, HA, HK1, HB⟩ := hrel; cases gk with
   | zero => exact absurd HA.out (by simp [laws_szFileS.l0])
   | succ k1 =>
    have H := HA.out; clear HA; simp only [laws_szFileS.l0] at H; by_cases c4 : aA < (l0.length : Int)
    ·rw [if_pos c4] at H; have bA : decide (aA < (l0.length : Int)) = true := decide_eq_true c4; clear c4; by_cases c5 : 0 ≤ aA
     ·rw [if_pos c5] at H; have fK : decide (0 ≤ aA) = true := decide_eq_true c5; clear c5; replace H := oB H; obtain ⟨bP, eD, H⟩ := H; (try dsimp only at H); have A6 := aM eD; clear eD
      by_cases c7 : bP < 0
      ·rw [if_pos c7] at H; have dF : decide (bP < 0) = true := decide_eq_true c7; clear c7; obtain rfl := Option.some.inj H; have p102 : 0 ≤ (aA : Int) := oda; have q102 : aA < (l0.length : Int) := oda; obtain ⟨eE, dG, aK, aL, aN⟩ := at_T161 eC.out aA p102 q102; cases dG
       replace aK := xce HB aK; replace aL := xce HB aL; replace aN := xce HB aN; replace p102 := eq_true p102; replace q102 := eq_true q102; go_wp2_with (first | ((with_reducible refine gC 159 rfl ?_); refine goesLY (some 23) rfl Try.func159 #[.agg #[.int .i64 ((rd_T161 l0 aA).f0), .string ((rd_T161 l0 aA).f1), .string ((rd_T161 l0 aA).f2)], .int .i64 aJ] ?_; (with_reducible refine (laws_szFile.calls ((rd_T161 l0 aA).f0) ((rd_T161 l0 aA).f1) ((rd_T161 l0 aA).f2) aJ bP _ A6.out).mono ?_); rintro e w8 ⟨rfl, hb⟩; refine ⟨_, rfl, ?_⟩; replace HB := xbs hb; (try clear hb)))
       go_ret
       exact ⟨xerr, xbel⟩
      ·rw [if_neg c7] at H; have dF : decide (bP < 0) = false := decide_eq_false c7; clear c7; have H' := aM H; clear H; have p102 : 0 ≤ (aA : Int) := oda; have q102 : aA < (l0.length : Int) := oda; obtain ⟨eE, dG, aK, aL, aN⟩ := at_T161 eC.out aA p102 q102; cases dG
       replace aK := xce HB aK; replace aL := xce HB aL; replace aN := xce HB aN; replace p102 := eq_true p102; replace q102 := eq_true q102; go_wp2_with (first | ((with_reducible refine gC 159 rfl ?_); refine goesLY (some 23) rfl Try.func159 #[.agg #[.int .i64 ((rd_T161 l0 aA).f0), .string ((rd_T161 l0 aA).f1), .string ((rd_T161 l0 aA).f2)], .int .i64 aJ] ?_; (with_reducible refine (laws_szFile.calls ((rd_T161 l0 aA).f0) ((rd_T161 l0 aA).f1) ((rd_T161 l0 aA).f2) aJ bP _ A6.out).mono ?_); rintro e w9 ⟨rfl, hb⟩; refine ⟨_, rfl, ?_⟩; replace HB := xbs hb; (try clear hb)))
       go_roundg k1
       case measure => have := HK1.out; omega
       case rel => exact ⟨(bP), (wrap64 (aA + 1)), u3_0, u3_0, H', ⟨by have := HK1.out; omega⟩, ⟨xbel⟩⟩
     ·rw [if_neg c5] at H; exact absurd H (by simp)
    ·rw [if_neg c4] at H; have bA : decide (aA < (l0.length : Int)) = false := decide_eq_false c4; clear c4; obtain rfl := Option.some.inj H; go_wp2; go_ret
     exact ⟨xerr, xbel⟩

/-! ### laws_szDisk: function 55 -/
def laws_szDisk.f (k : Nat) (aC : Int) (aF : List (S161)) (a1 : Int) : Option (Int) := (laws_szFileS.f k aF a1).bind fun bE => (if bE < 0 then (some (-1)) else (some bE))
theorem u3_mq1 {p : Prop} (h : p := by repeat' first | (with_reducible first | exact laws_szFileS.mono _ _ _ | exact LeO.refl _ | exact LeO.none _ | refine LeO.ite ?_ ?_ | refine LeO.bind ?_ (fun _ => ?_)) | exact laws_szFileS.mono _ _ _ | exact LeO.none _ | refine LeO.ite ?_ ?_ | refine LeO.bind ?_ (fun _ => ?_)) : p := h
theorem laws_szDisk.mono : ∀ a0 a1 a2 k, LeO (laws_szDisk.f k a0 a1 a2) (laws_szDisk.f (k + 1) a0 a1 a2) := by
 intro a0 a1 a2 k
 unfold laws_szDisk.f
 exact u3_mq1
set_option maxHeartbeats 8000000 in
set_option maxRecDepth 100000 in
theorem laws_szDisk.calls (k : Nat) (aC : Int) (aY : Option Addr) (aZ : Nat) (aF : List (S161)) (a1 : Int) (r : Int) (w : World) (bU : Kd.C k161 w aY aF.length aF) (bV : aF.length ≤ aZ) (h : laws_szDisk.f k aC aF a1 = some r) :
 Calls Try.prog 55 #[.agg #[.int .i64 aC, .slice aY aF.length aZ], .int .i64 a1] w fun e w' => e = .returned (.int .i64 r) ∧ Below w.heap.size w w' := by
 have gW := Try.underlying72
 have bW := aM bU
 have cM := aM bV
 clear bU bV
 have HB := aM (Below.refl w.heap.size w)
 have H : ((laws_szFileS.f k aF a1).bind fun bE => (if bE < 0 then (some (-1)) else (some bE))) = some r := h
 clear h
 replace H := oB H
 obtain ⟨bE, dA, H⟩ := H
 (try dsimp only at H)
 have A3 := aM dA
 clear dA
 by_cases c4 : bE < 0
 ·rw [if_pos c4] at H; have bA : decide (bE < 0) = true := decide_eq_true c4; clear c4; obtain rfl := Option.some.inj H; go_enter Try.func55, Try.ntmps55
  go_wp2_with (first | ((with_reducible refine gD 2 rfl ?_); refine boxE (N := 2) rfl (cs := #[.int .i64 aC, .slice aY aF.length aZ]) (t := 72) ?_; intro eF hg w5 hbox hb; have bG := aM (hbox); have eG := aM (xge hg); have eH := aM (xge hg); replace HB := xbs hb; clear hb hbox hg; obtain ⟨bY, bZ, cA, cB⟩ := xf2 (w := w5) bG) | ((with_reducible refine gC 115 rfl ?_); refine goesLY (some 8) rfl Try.func115 #[.slice aY aF.length aZ, .int .i64 a1] ?_; (with_reducible refine (laws_szFileS.calls k _ _ aF a1 bE _ ?side1 ?side2 A3.out).mono ?_); (case side1 => exact xcb bW); (case side2 => exact cM.out); rintro e w7 ⟨rfl, hb⟩; refine ⟨_, rfl, ?_⟩; replace bG := xbb bG hb; replace HB := xbs hb; (try clear hb)))
  go_ret
  exact ⟨xerr, xbg⟩
 ·rw [if_neg c4] at H; have bA : decide (bE < 0) = false := decide_eq_false c4; clear c4; obtain rfl := Option.some.inj H; go_enter Try.func55, Try.ntmps55
  go_wp2_with (first | ((with_reducible refine gD 2 rfl ?_); refine boxE (N := 2) rfl (cs := #[.int .i64 aC, .slice aY aF.length aZ]) (t := 72) ?_; intro eF hg w8 hbox hb; have bG := aM (hbox); have eG := aM (xge hg); have eH := aM (xge hg); replace HB := xbs hb; clear hb hbox hg; obtain ⟨cN, cO, cP, cQ⟩ := xf2 (w := w8) bG) | ((with_reducible refine gC 115 rfl ?_); refine goesLY (some 8) rfl Try.func115 #[.slice aY aF.length aZ, .int .i64 a1] ?_; (with_reducible refine (laws_szFileS.calls k _ _ aF a1 bE _ ?side1 ?side2 A3.out).mono ?_); (case side1 => exact xcb bW); (case side2 => exact cM.out); rintro e gT ⟨rfl, hb⟩; refine ⟨_, rfl, ?_⟩; replace bG := xbb bG hb; replace HB := xbs hb; (try clear hb)))
  go_ret
  exact ⟨xerr, xbg⟩

/-! ### laws_szCmd: function 178 -/
def laws_szCmd.f (aC : Int) (aB : Int) (aD : Int) (aG : Int) (aE : ByteArray) (a1 : Int) : Option (Int) := if (wrap64 (a1 - (aE.size : Int))) < 0 then (some (-1)) else (some (wrap64 (a1 - (aE.size : Int))))
set_option maxHeartbeats 8000000 in
set_option maxRecDepth 100000 in
theorem laws_szCmd.calls (aC : Int) (aB : Int) (aD : Int) (aG : Int) (aE : ByteArray) (a1 : Int) (r : Int) (w : World) (h : laws_szCmd.f aC aB aD aG aE a1 = some r) :
 Calls Try.prog 178 #[.agg #[.int .i64 aC, .int .i64 aB, .int .i64 aD, .int .i64 aG, .string aE], .int .i64 a1] w fun e w' => e = .returned (.int .i64 r) ∧ Below w.heap.size w w' := by
 have eI := Try.underlying119
 have HB := aM (Below.refl w.heap.size w)
 have H : (if (wrap64 (a1 - (aE.size : Int))) < 0 then (some (-1)) else (some (wrap64 (a1 - (aE.size : Int))))) = some r := h
 clear h
 by_cases c3 : (wrap64 (a1 - (aE.size : Int))) < 0
 ·rw [if_pos c3] at H; have bC : decide ((wrap64 (a1 - (aE.size : Int))) < 0) = true := decide_eq_true c3; clear c3; obtain rfl := Option.some.inj H; go_enter Try.func178, Try.ntmps178
  go_wp2_with (first | ((with_reducible refine gD 2 rfl ?_); refine boxE (N := 2) rfl (cs := #[.int .i64 aC, .int .i64 aB, .int .i64 aD, .int .i64 aG, .string aE]) (t := 119) ?_; intro eJ hg w4 hbox hb; have cR := aM (hbox); have eK := aM (xge hg); have eL := aM (xge hg); replace HB := xbs hb; clear hb hbox hg; obtain ⟨cI, cJ, dD, fL, fM, cK, cL, dE, fN, fO⟩ := xf5 (w := w4) cR))
  go_ret
  exact ⟨xerr, xbg⟩
 ·rw [if_neg c3] at H; have bC : decide ((wrap64 (a1 - (aE.size : Int))) < 0) = false := decide_eq_false c3; clear c3; obtain rfl := Option.some.inj H; go_enter Try.func178, Try.ntmps178
  go_wp2_with (first | ((with_reducible refine gD 2 rfl ?_); refine boxE (N := 2) rfl (cs := #[.int .i64 aC, .int .i64 aB, .int .i64 aD, .int .i64 aG, .string aE]) (t := 119) ?_; intro eJ hg w6 hbox hb; have cR := aM (hbox); have eK := aM (xge hg); have eL := aM (xge hg); replace HB := xbs hb; clear hb hbox hg; obtain ⟨fP, fQ, fR, fS, fT, fU, fV, fW, fX, fY⟩ := xf5 (w := w6) cR))
  go_ret
  exact ⟨xerr, xbg⟩

/-! ### laws_szEntry: function 160 -/
def laws_szEntry.f (aC : Int) (aB : Int) (aD : Int) (aG : Int) (aE : Int) (aH : ByteArray) (a1 : Int) : Option (Int) := (laws_szCmd.f aB aD aG aE aH a1).bind fun bH => (if bH < 0 then (some (-1)) else (some bH))
set_option maxHeartbeats 8000000 in
set_option maxRecDepth 100000 in
theorem laws_szEntry.calls (aC : Int) (aB : Int) (aD : Int) (aG : Int) (aE : Int) (aH : ByteArray) (a1 : Int) (r : Int) (w : World) (h : laws_szEntry.f aC aB aD aG aE aH a1 = some r) :
 Calls Try.prog 160 #[.agg #[.int .i64 aC, .int .i64 aB, .int .i64 aD, .int .i64 aG, .int .i64 aE, .string aH], .int .i64 a1] w fun e w' => e = .returned (.int .i64 r) ∧ Below w.heap.size w w' := by
 have eM := Try.underlying121
 have eI := Try.underlying119
 have HB := aM (Below.refl w.heap.size w)
 have H : ((laws_szCmd.f aB aD aG aE aH a1).bind fun bH => (if bH < 0 then (some (-1)) else (some bH))) = some r := h
 clear h
 replace H := oB H
 obtain ⟨bH, dA, H⟩ := H
 (try dsimp only at H)
 have A3 := aM dA
 clear dA
 by_cases c4 : bH < 0
 ·rw [if_pos c4] at H; have bA : decide (bH < 0) = true := decide_eq_true c4; clear c4; obtain rfl := Option.some.inj H; go_enter Try.func160, Try.ntmps160
  go_wp2_with (first | ((with_reducible refine gD 2 rfl ?_); refine boxE (N := 2) rfl (cs := #[.int .i64 aC, .int .i64 aB, .int .i64 aD, .int .i64 aG, .int .i64 aE, .string aH]) (t := 121) ?_; intro eN hg w5 hbox hb; have bI := aM (hbox); have eO := aM (xge hg); have eP := aM (xge hg); replace HB := xbs hb; clear hb hbox hg; obtain ⟨bY, bZ, dH, dI, dJ, dK, cA, cB, dL, dM, dN, dO⟩ := xf6 (w := w5) bI) | ((with_reducible refine gC 178 rfl ?_); refine goesLY (some 8) rfl Try.func178 #[.agg #[.int .i64 aB, .int .i64 aD, .int .i64 aG, .int .i64 aE, .string aH], .int .i64 a1] ?_; (with_reducible refine (laws_szCmd.calls aB aD aG aE aH a1 bH _ A3.out).mono ?_); rintro e w7 ⟨rfl, hb⟩; refine ⟨_, rfl, ?_⟩; replace bI := xbb bI hb; replace HB := xbs hb; (try clear hb)))
  go_ret
  exact ⟨xerr, xbg⟩
 ·rw [if_neg c4] at H; have bA : decide (bH < 0) = false := decide_eq_false c4; clear c4; obtain rfl := Option.some.inj H; go_enter Try.func160, Try.ntmps160
  go_wp2_with (first | ((with_reducible refine gD 2 rfl ?_); refine boxE (N := 2) rfl (cs := #[.int .i64 aC, .int .i64 aB, .int .i64 aD, .int .i64 aG, .int .i64 aE, .string aH]) (t := 121) ?_; intro eN hg w8 hbox hb; have bI := aM (hbox); have eO := aM (xge hg); have eP := aM (xge hg); replace HB := xbs hb; clear hb hbox hg; obtain ⟨cN, cO, dP, dQ, dR, dS, cP, cQ, dU, dV, dW, dX⟩ := xf6 (w := w8) bI) | ((with_reducible refine gC 178 rfl ?_); refine goesLY (some 8) rfl Try.func178 #[.agg #[.int .i64 aB, .int .i64 aD, .int .i64 aG, .int .i64 aE, .string aH], .int .i64 a1] ?_; (with_reducible refine (laws_szCmd.calls aB aD aG aE aH a1 bH _ A3.out).mono ?_); rintro e gT ⟨rfl, hb⟩; refine ⟨_, rfl, ?_⟩; replace bI := xbb bI hb; replace HB := xbs hb; (try clear hb)))
  go_ret
  exact ⟨xerr, xbg⟩

/-! ### laws_szRec: function 116 -/
def laws_szRec.f (aC : Int) (aB : Int) (aD : Int) (aG : Int) (aE : Int) (aH : Int) (bJ : Int) (bK : Int) (bL : Int) (bM : ByteArray) (a1 : Int) : Option (Int) := (laws_szEntry.f aE aH bJ bK bL bM a1).bind fun bN => (if bN < 0 then (some (-1)) else (some bN))
set_option maxHeartbeats 8000000 in
set_option maxRecDepth 100000 in
theorem laws_szRec.calls (aC : Int) (aB : Int) (aD : Int) (aG : Int) (aE : Int) (aH : Int) (bJ : Int) (bK : Int) (bL : Int) (bM : ByteArray) (a1 : Int) (r : Int) (w : World) (h : laws_szRec.f aC aB aD aG aE aH bJ bK bL bM a1 = some r) :
 Calls Try.prog 116 #[.agg #[.int .i64 aC, .int .i64 aB, .int .i64 aD, .int .i64 aG, .int .i64 aE, .int .i64 aH, .int .i64 bJ, .int .i64 bK, .int .i64 bL, .string bM], .int .i64 a1] w fun e w' => e = .returned (.int .i64 r) ∧ Below w.heap.size w w' := by
 have eQ := Try.underlying123
 have eM := Try.underlying121
 have HB := aM (Below.refl w.heap.size w)
 have H : ((laws_szEntry.f aE aH bJ bK bL bM a1).bind fun bN => (if bN < 0 then (some (-1)) else (some bN))) = some r := h
 clear h
 replace H := oB H
 obtain ⟨bN, dA, H⟩ := H
 (try dsimp only at H)
 have A3 := aM dA
 clear dA
 by_cases c4 : bN < 0
 ·rw [if_pos c4] at H; have bA : decide (bN < 0) = true := decide_eq_true c4; clear c4; obtain rfl := Option.some.inj H; go_enter Try.func116, Try.ntmps116
  go_wp2_with (first | ((with_reducible refine gD 2 rfl ?_); refine boxE (N := 2) rfl (cs := #[.int .i64 aC, .int .i64 aB, .int .i64 aD, .int .i64 aG, .int .i64 aE, .int .i64 aH, .int .i64 bJ, .int .i64 bK, .int .i64 bL, .string bM]) (t := 123) ?_; intro eR hg w5 hbox hb; have bO := aM (hbox); have eS := aM (xge hg); have eT := aM (xge hg); replace HB := xbs hb; clear hb hbox hg; obtain ⟨bY, bZ, dH, dI, dJ, dK, fZ, gA, gB, gE, cA, cB, dL, dM, dN, dO, gF, gG, gH, gI⟩ := xf10 (w := w5) bO) | ((with_reducible refine gC 160 rfl ?_); refine goesLY (some 8) rfl Try.func160 #[.agg #[.int .i64 aE, .int .i64 aH, .int .i64 bJ, .int .i64 bK, .int .i64 bL, .string bM], .int .i64 a1] ?_; (with_reducible refine (laws_szEntry.calls aE aH bJ bK bL bM a1 bN _ A3.out).mono ?_); rintro e w7 ⟨rfl, hb⟩; refine ⟨_, rfl, ?_⟩; replace bO := xbb bO hb; replace HB := xbs hb; (try clear hb)))
  go_ret
  exact ⟨xerr, xbg⟩
 ·rw [if_neg c4] at H; have bA : decide (bN < 0) = false := decide_eq_false c4; clear c4; obtain rfl := Option.some.inj H; go_enter Try.func116, Try.ntmps116
  go_wp2_with (first | ((with_reducible refine gD 2 rfl ?_); refine boxE (N := 2) rfl (cs := #[.int .i64 aC, .int .i64 aB, .int .i64 aD, .int .i64 aG, .int .i64 aE, .int .i64 aH, .int .i64 bJ, .int .i64 bK, .int .i64 bL, .string bM]) (t := 123) ?_; intro eR hg w8 hbox hb; have bO := aM (hbox); have eS := aM (xge hg); have eT := aM (xge hg); replace HB := xbs hb; clear hb hbox hg; obtain ⟨cN, cO, dP, dQ, dR, dS, gJ, gK, gL, gM, cP, cQ, dU, dV, dW, dX, gN, gO, gP, gQ⟩ := xf10 (w := w8) bO) | ((with_reducible refine gC 160 rfl ?_); refine goesLY (some 8) rfl Try.func160 #[.agg #[.int .i64 aE, .int .i64 aH, .int .i64 bJ, .int .i64 bK, .int .i64 bL, .string bM], .int .i64 a1] ?_; (with_reducible refine (laws_szEntry.calls aE aH bJ bK bL bM a1 bN _ A3.out).mono ?_); rintro e gT ⟨rfl, hb⟩; refine ⟨_, rfl, ?_⟩; replace bO := xbb bO hb; replace HB := xbs hb; (try clear hb)))
  go_ret
  exact ⟨xerr, xbg⟩

/-! ### laws_szRecS: function 56 -/
def laws_szRecS.l0 : Nat → List (S123) → Int → Int → Option (Int)
 | 0, _, _, _ => none
 | k + 1, x0, x1, x5 => if x5 < (x0.length : Int) then (if 0 ≤ x5 then ((laws_szRec.f ((rd_T123 x0 x5).f0) ((rd_T123 x0 x5).f1) ((rd_T123 x0 x5).f2) ((rd_T123 x0 x5).f3) ((rd_T123 x0 x5).f4.f0) ((rd_T123 x0 x5).f4.f1.f0) ((rd_T123 x0 x5).f4.f1.f1) ((rd_T123 x0 x5).f4.f1.f2) ((rd_T123 x0 x5).f4.f1.f3) ((rd_T123 x0 x5).f4.f1.f4) x1).bind fun bQ => (if bQ < 0 then (some (-1)) else (laws_szRecS.l0 k x0 bQ (wrap64 (x5 + 1))))) else (none)) else (some x1)
def laws_szRecS.f (k : Nat) (l0 : List (S123)) (a1 : Int) : Option (Int) := if (wrap64 (a1 - (l0.length : Int))) < 0 then (some (-1)) else (laws_szRecS.l0 k l0 (wrap64 (a1 - (l0.length : Int))) 0)
set_option maxRecDepth 100000 in
theorem laws_szRecS.mono_l : ∀ k, (∀ y0 y1 y2, LeO (laws_szRecS.l0 k y0 y1 y2) (laws_szRecS.l0 (k + 1) y0 y1 y2))
 | 0 => fun _ _ _ r h => by simp [laws_szRecS.l0] at h
 | k + 1 => by
  have cU := laws_szRecS.mono_l k
  ·intro y0 y1 y2; unfold laws_szRecS.l0; exact u3_mq0
theorem laws_szRecS.mono : ∀ a0 a1 k, LeO (laws_szRecS.f k a0 a1) (laws_szRecS.f (k + 1) a0 a1) := by
 intro a0 a1 k
 have cU := laws_szRecS.mono_l k
 unfold laws_szRecS.f
 exact u3_mq0
set_option maxHeartbeats 8000000 in
set_option maxRecDepth 100000 in
theorem laws_szRecS.calls (k : Nat) (A0 : Option Addr) (c0 : Nat) (l0 : List (S123)) (a1 : Int) (r : Int) (w : World) (eA : Kd.C k123 w A0 l0.length l0) (eB : l0.length ≤ c0) (h : laws_szRecS.f k l0 a1 = some r) :
 Calls Try.prog 56 #[.slice A0 l0.length c0, .int .i64 a1] w fun e w' => e = .returned (.int .i64 r) ∧ Below w.heap.size w w' := by
 have eQ := Try.underlying123
 have eC := aM eA
 have gV := aM eB
 clear eA eB
 have HB := aM (Below.refl w.heap.size w)
 have H : (if (wrap64 (a1 - (l0.length : Int))) < 0 then (some (-1)) else (laws_szRecS.l0 k l0 (wrap64 (a1 - (l0.length : Int))) 0)) = some r := h
 clear h
 by_cases c3 : (wrap64 (a1 - (l0.length : Int))) < 0
 ·rw [if_pos c3] at H; have bC : decide ((wrap64 (a1 - (l0.length : Int))) < 0) = true := decide_eq_true c3; clear c3; obtain rfl := Option.some.inj H; go_enter Try.func56, Try.ntmps56
  go_wp2; go_ret
  exact ⟨xerr, xbel⟩
 ·rw [if_neg c3] at H; have bC : decide ((wrap64 (a1 - (l0.length : Int))) < 0) = false := decide_eq_false c3; clear c3; have H' := aM H; clear H; go_enter Try.func56, Try.ntmps56
  go_wp2; go_loopg [1, 5] k (fun kq v1 v5 w' => ∃ (aJ : Int) (aA : Int), v1 = .int .i64 aJ ∧ v5 = .int .i64 aA ∧ Aside0 (laws_szRecS.l0 kq l0 aJ aA = some r) ∧ Aside0 (kq ≤ k) ∧ Aside0 (Below w.heap.size w w'))
  case atStart => exact ⟨(wrap64 (a1 - (l0.length : Int))), (0), u3_0, u3_0, H', ⟨Nat.le_refl _⟩, ⟨xbel⟩⟩
  case round =>
   clear H'; try clear p2
   try clear c3
   try clear bC
   obtain ⟨aJ, aA, rfl, rfl, HA, HK1, HB⟩ := hrel; cases gk with
   | zero => exact absurd HA.out (by simp [laws_szRecS.l0])
   | succ k1 =>
    have H := HA.out; clear HA; simp only [laws_szRecS.l0] at H; by_cases c4 : aA < (l0.length : Int)
    ·rw [if_pos c4] at H; have bA : decide (aA < (l0.length : Int)) = true := decide_eq_true c4; clear c4; by_cases c5 : 0 ≤ aA
     ·rw [if_pos c5] at H; have fK : decide (0 ≤ aA) = true := decide_eq_true c5; clear c5; replace H := oB H; obtain ⟨bQ, eD, H⟩ := H; (try dsimp only at H); have A6 := aM eD; clear eD
      by_cases c7 : bQ < 0
      ·rw [if_pos c7] at H; have dF : decide (bQ < 0) = true := decide_eq_true c7; clear c7; obtain rfl := Option.some.inj H; have p111 : 0 ≤ (aA : Int) := oda; have q111 : aA < (l0.length : Int) := oda; obtain ⟨eU, dY, aO, aP, aQ, aR, aS, aT, aU, aV, aW, aX⟩ := at_T123 eC.out aA p111 q111; cases dY
       replace aO := xce HB aO; replace aP := xce HB aP; replace aQ := xce HB aQ; replace aR := xce HB aR; replace aS := xce HB aS; replace aT := xce HB aT; replace aU := xce HB aU; replace aV := xce HB aV; replace aW := xce HB aW; replace aX := xce HB aX; replace p111 := eq_true p111; replace q111 := eq_true q111; go_wp2_with (first | ((with_reducible refine gC 116 rfl ?_); refine goesLY (some 23) rfl Try.func116 #[.agg #[.int .i64 ((rd_T123 l0 aA).f0), .int .i64 ((rd_T123 l0 aA).f1), .int .i64 ((rd_T123 l0 aA).f2), .int .i64 ((rd_T123 l0 aA).f3), .int .i64 ((rd_T123 l0 aA).f4.f0), .int .i64 ((rd_T123 l0 aA).f4.f1.f0), .int .i64 ((rd_T123 l0 aA).f4.f1.f1), .int .i64 ((rd_T123 l0 aA).f4.f1.f2), .int .i64 ((rd_T123 l0 aA).f4.f1.f3), .string ((rd_T123 l0 aA).f4.f1.f4)], .int .i64 aJ] ?_; (with_reducible refine (laws_szRec.calls ((rd_T123 l0 aA).f0) ((rd_T123 l0 aA).f1) ((rd_T123 l0 aA).f2) ((rd_T123 l0 aA).f3) ((rd_T123 l0 aA).f4.f0) ((rd_T123 l0 aA).f4.f1.f0) ((rd_T123 l0 aA).f4.f1.f1) ((rd_T123 l0 aA).f4.f1.f2) ((rd_T123 l0 aA).f4.f1.f3) ((rd_T123 l0 aA).f4.f1.f4) aJ bQ _ A6.out).mono ?_); rintro e w8 ⟨rfl, hb⟩; refine ⟨_, rfl, ?_⟩; replace HB := xbs hb; (try clear hb)))
       go_ret
       exact ⟨xerr, xbel⟩
      ·rw [if_neg c7] at H; have dF : decide (bQ < 0) = false := decide_eq_false c7; clear c7; have H' := aM H; clear H; have p111 : 0 ≤ (aA : Int) := oda; have q111 : aA < (l0.length : Int) := oda; obtain ⟨eU, dY, aO, aP, aQ, aR, aS, aT, aU, aV, aW, aX⟩ := at_T123 eC.out aA p111 q111; cases dY
       replace aO := xce HB aO; replace aP := xce HB aP; replace aQ := xce HB aQ; replace aR := xce HB aR; replace aS := xce HB aS; replace aT := xce HB aT; replace aU := xce HB aU; replace aV := xce HB aV; replace aW := xce HB aW; replace aX := xce HB aX; replace p111 := eq_true p111; replace q111 := eq_true q111; go_wp2_with (first | ((with_reducible refine gC 116 rfl ?_); refine goesLY (some 23) rfl Try.func116 #[.agg #[.int .i64 ((rd_T123 l0 aA).f0), .int .i64 ((rd_T123 l0 aA).f1), .int .i64 ((rd_T123 l0 aA).f2), .int .i64 ((rd_T123 l0 aA).f3), .int .i64 ((rd_T123 l0 aA).f4.f0), .int .i64 ((rd_T123 l0 aA).f4.f1.f0), .int .i64 ((rd_T123 l0 aA).f4.f1.f1), .int .i64 ((rd_T123 l0 aA).f4.f1.f2), .int .i64 ((rd_T123 l0 aA).f4.f1.f3), .string ((rd_T123 l0 aA).f4.f1.f4)], .int .i64 aJ] ?_; (with_reducible refine (laws_szRec.calls ((rd_T123 l0 aA).f0) ((rd_T123 l0 aA).f1) ((rd_T123 l0 aA).f2) ((rd_T123 l0 aA).f3) ((rd_T123 l0 aA).f4.f0) ((rd_T123 l0 aA).f4.f1.f0) ((rd_T123 l0 aA).f4.f1.f1) ((rd_T123 l0 aA).f4.f1.f2) ((rd_T123 l0 aA).f4.f1.f3) ((rd_T123 l0 aA).f4.f1.f4) aJ bQ _ A6.out).mono ?_); rintro e w9 ⟨rfl, hb⟩; refine ⟨_, rfl, ?_⟩; replace HB := xbs hb; (try clear hb)))
       go_roundg k1
       case measure => have := HK1.out; omega
       case rel => exact ⟨(bQ), (wrap64 (aA + 1)), u3_0, u3_0, H', ⟨by have := HK1.out; omega⟩, ⟨xbel⟩⟩
     ·rw [if_neg c5] at H; exact absurd H (by simp)
    ·rw [if_neg c4] at H; have bA : decide (aA < (l0.length : Int)) = false := decide_eq_false c4; clear c4; obtain rfl := Option.some.inj H; go_wp2; go_ret
     exact ⟨xerr, xbel⟩

/-! ### spec_l1In: function 92 -/
def spec_l1In.f (a0 : Int) (a1 : Int) (a2 : Int) : Option (Bool) := if a0 ≥ a1 then (some (decide (a0 ≤ a2))) else (some false)
set_option maxHeartbeats 8000000 in
set_option maxRecDepth 100000 in
theorem spec_l1In.calls (a0 : Int) (a1 : Int) (a2 : Int) (r : Bool) (w : World) (h : spec_l1In.f a0 a1 a2 = some r) :
 Calls Try.prog 92 #[.int .i64 a0, .int .i64 a1, .int .i64 a2] w fun e w' => e = .returned (.bool r) ∧ Drawn0 w w' := by
 have H : (if a0 ≥ a1 then (some (decide (a0 ≤ a2))) else (some false)) = some r := h
 clear h
 by_cases c4 : a0 ≥ a1
 ·rw [if_pos c4] at H; have bA : decide (a1 ≤ a0) = true := decide_eq_true c4; clear c4; obtain rfl := Option.some.inj H; go_enter Try.func92, Try.ntmps92
  go_wp2; go_ret
  exact ⟨u3_0, u3_1⟩
 ·rw [if_neg c4] at H; have bA : decide (a1 ≤ a0) = false := decide_eq_false c4; clear c4; obtain rfl := Option.some.inj H; go_enter Try.func92, Try.ntmps92
  go_wp2; go_ret
  exact ⟨u3_0, u3_1⟩

/-! ### spec_l3Name: function 133 -/
def spec_l3Name.f (a0 : Int) : Option (Bool) := (spec_l1In.f a0 0 7).bind fun cS => (some cS)
set_option maxHeartbeats 8000000 in
set_option maxRecDepth 100000 in
theorem spec_l3Name.calls (a0 : Int) (r : Bool) (w : World) (h : spec_l3Name.f a0 = some r) :
 Calls Try.prog 133 #[.int .i64 a0] w fun e w' => e = .returned (.bool r) ∧ Drawn0 w w' := by
 have H : ((spec_l1In.f a0 0 7).bind fun cS => (some cS)) = some r := h
 clear h
 replace H := oB H
 obtain ⟨cS, gU, H⟩ := H
 (try dsimp only at H)
 have A2 := aM gU
 clear gU
 obtain rfl := Option.some.inj H
 go_enter Try.func133, Try.ntmps133
 go_wp2_with (first | ((with_reducible refine gC 92 rfl ?_); refine goesLY (some 4) rfl Try.func92 #[.int .i64 a0, .int .i64 0, .int .i64 7] ?_; (with_reducible refine (spec_l1In.calls a0 0 7 cS _ A2.out).mono ?_); rintro e w' ⟨rfl, ⟨nd, rfl⟩⟩; refine ⟨_, rfl, ?_⟩))
 go_ret
 exact ⟨u3_0, u3_1⟩

/-! ### spec_l3Size: function 174 -/
def spec_l3Size.l0 : Nat → Int → Int → Int → List (S95) → Option (Int)
 | 0, _, _, _, _ => none
 | k + 1, x3, x4, cV, bB => if x4 < (bB.length : Int) then (if 0 ≤ x4 then (spec_l3Size.l0 k (wrap64 ((wrap64 (x3 + (((rd_T95 bB x4).f1).size : Int))) + (((rd_T95 bB x4).f2).size : Int))) (wrap64 (x4 + 1)) cV bB) else (none)) else (some x3)
def spec_l3Size.f (k : Nat) (aC : Int) (aF : List (S95)) : Option (Int) := spec_l3Size.l0 k 0 0 aC aF
theorem u3_mq2 {p : Prop} (h : p := by repeat' first | (with_reducible first | exact cU _ _ _ _ | exact LeO.refl _ | exact LeO.none _ | refine LeO.ite ?_ ?_ | refine LeO.bind ?_ (fun _ => ?_)) | exact cU _ _ _ _ | exact LeO.none _ | refine LeO.ite ?_ ?_ | refine LeO.bind ?_ (fun _ => ?_)) : p := h
set_option maxRecDepth 100000 in
theorem spec_l3Size.mono_l : ∀ k, (∀ y0 y1 y2 y3, LeO (spec_l3Size.l0 k y0 y1 y2 y3) (spec_l3Size.l0 (k + 1) y0 y1 y2 y3))
 | 0 => fun _ _ _ _ r h => by simp [spec_l3Size.l0] at h
 | k + 1 => by
  have cU := spec_l3Size.mono_l k
  ·intro y0 y1 y2 y3; unfold spec_l3Size.l0; exact u3_mq2
theorem spec_l3Size.mono : ∀ a0 a1 k, LeO (spec_l3Size.f k a0 a1) (spec_l3Size.f (k + 1) a0 a1) := by
 intro a0 a1 k
 have cU := spec_l3Size.mono_l k
 unfold spec_l3Size.f
 exact u3_mq2
set_option maxHeartbeats 8000000 in
set_option maxRecDepth 100000 in
theorem spec_l3Size.calls (k : Nat) (aC : Int) (aY : Option Addr) (aZ : Nat) (aF : List (S95)) (r : Int) (w : World) (bU : Kd.C k95 w aY aF.length aF) (bV : aF.length ≤ aZ) (h : spec_l3Size.f k aC aF = some r) :
 Calls Try.prog 174 #[.agg #[.int .i64 aC, .slice aY aF.length aZ]] w fun e w' => e = .returned (.int .i64 r) ∧ Below w.heap.size w w' := by
 have gX := Try.underlying26
 have bW := aM bU
 have cM := aM bV
 clear bU bV
 have HB := aM (Below.refl w.heap.size w)
 have H : (spec_l3Size.l0 k 0 0 aC aF) = some r := h
 clear h
 have H' := aM H
 clear H
 go_enter Try.func174, Try.ntmps174
 go_wp2_with (first | ((with_reducible refine gD 1 rfl ?_); refine boxE (N := 1) rfl (cs := #[.int .i64 aC, .slice aY aF.length aZ]) (t := 26) ?_; intro cT hg w2 hbox hb; have bX := aM (hbox); have dB := aM (xge hg); have dC := aM (xge hg); replace HB := xbs hb; clear hb hbox hg))
 repeat (go_quiet (first | ((with_reducible refine gD 1 rfl ?_); refine boxE (N := 1) rfl (cs := #[.int .i64 aC, .slice aY aF.length aZ]) (t := 26) ?_; intro cT hg w2 hbox hb; have bX := aM (hbox); have dB := aM (xge hg); have dC := aM (xge hg); replace HB := xbs hb; clear hb hbox hg)); try go_wp2_with (first | ((with_reducible refine gD 1 rfl ?_); refine boxE (N := 1) rfl (cs := #[.int .i64 aC, .slice aY aF.length aZ]) (t := 26) ?_; intro cT hg w2 hbox hb; have bX := aM (hbox); have dB := aM (xge hg); have dC := aM (xge hg); replace HB := xbs hb; clear hb hbox hg)))
 go_loopg [3, 4] k (fun kq v3 v4 w' => ∃ (cW : Int) (aI : Int), v3 = .int .i64 cW ∧ v4 = .int .i64 aI ∧ Aside0 (spec_l3Size.l0 kq cW aI aC aF = some r) ∧ Aside0 (kq ≤ k) ∧ Aside0 (w'.heap[cT]? = some (.cells #[.int .i64 aC, (.slice aY aF.length aZ)] 26 (0, 0))) ∧ Aside0 (Below w.heap.size w w'))
 case atStart => exact ⟨(0), (0), u3_0, u3_0, H', ⟨Nat.le_refl _⟩, ⟨xblk⟩, ⟨xbg⟩⟩
 case round =>
  clear H'; try clear c1
  try clear p2
  obtain ⟨cW, aI, rfl, rfl, HA, HK1, bX, HB⟩ := hrel; cases gk with
  | zero => exact absurd HA.out (by simp [spec_l3Size.l0])
  | succ k1 =>
   have H := HA.out; clear HA; simp only [spec_l3Size.l0] at H; by_cases c3 : aI < (aF.length : Int)
   ·rw [if_pos c3] at H; have bC : decide (aI < (aF.length : Int)) = true := decide_eq_true c3; clear c3; by_cases c4 : 0 ≤ aI
    ·rw [if_pos c4] at H; have bA : decide (0 ≤ aI) = true := decide_eq_true c4; clear c4; have H' := aM H; clear H; obtain ⟨cI, cJ, cK, cL⟩ := xf2 (w := wr) bX; have p115 : 0 ≤ (aI : Int) := oda; have q115 : aI < (aF.length : Int) := oda; obtain ⟨eV, gR, cC, cD, cE⟩ := at_T95 bW.out aI p115 q115; cases gR
     replace cC := xce HB cC; replace cD := xce HB cD; replace cE := xce HB cE; replace p115 := eq_true p115; replace q115 := eq_true q115; have p116 : 0 ≤ (aI : Int) := oda; have q116 : aI < (aF.length : Int) := oda; obtain ⟨eW, gS, cF, cG, cH⟩ := at_T95 bW.out aI p116 q116; obtain rfl : eV = eW := (by injection gS); replace cF := xce HB cF; replace cG := xce HB cG; replace cH := xce HB cH; replace p116 := eq_true p116; replace q116 := eq_true q116; go_wp2
     repeat (go_quiet (fail); try go_wp2)
     go_roundg k1
     case measure => have := HK1.out; omega
     case rel => exact ⟨(wrap64 ((wrap64 (cW + (((rd_T95 aF aI).f1).size : Int))) + (((rd_T95 aF aI).f2).size : Int))), (wrap64 (aI + 1)), u3_0, u3_0, H', ⟨by have := HK1.out; omega⟩, ⟨xblk⟩, ⟨xbg⟩⟩
    ·rw [if_neg c4] at H; exact absurd H (by simp)
   ·rw [if_neg c3] at H; have bC : decide (aI < (aF.length : Int)) = false := decide_eq_false c3; clear c3; obtain rfl := Option.some.inj H; obtain ⟨bY, bZ, cA, cB⟩ := xf2 (w := wr) bX; go_wp2
    repeat (go_quiet (fail); try go_wp2)
    go_ret
    exact ⟨xerr, xbg⟩

end Go.Proofs.Ytoojdlobnbakoaa.QFnExactHardSave
