-- A walk, by a program of this session.
import Derived.Test.YtppfnnpfamkclaaQFnExactRollLacksx0
namespace Go.Proofs.Ytppfnnpfamkclaa.QFnExactRollLacks
open Go.RowKit Go.Proofs.YtppfnnpfamkclaaW.PrintWords Go.Proofs.YtppfnnpfamkclaaW.PrintLast Go.Proofs.YtppfnnpfamkclaaW.PrintMore
attribute [local go_sem] max2_int min2_int max_two min_two max_three min_three max_four min_four   -- for this text's walks alone
set_option linter.unusedVariables false
set_option linter.unusedSimpArgs false

theorem u1_0 {p : Prop} (h : p := by first | rfl | (simp; done) | (simp [*]; done)) : p := h
theorem u1_1 {p : Prop} (h : p := by repeat (first | exact Drawn0.refl _ | apply Drawn0.step)) : p := h
/-! ### laws_szIntS: function 20 -/
def laws_szIntS.f (l0 : List Int) (a1 : Int) : Option (Int) := if (wrap64 (a1 - (l0.length : Int))) < 0 then (some (-1)) else (some (wrap64 (a1 - (l0.length : Int))))
set_option maxHeartbeats 8000000 in
set_option maxRecDepth 100000 in
theorem laws_szIntS.calls (A0 : Option Addr) (c0 : Nat) (l0 : List Int) (a1 : Int) (r : Int) (w : World) (cG : Kd.C (Kd.int .i64) w A0 l0.length l0) (cH : l0.length ≤ c0) (h : laws_szIntS.f l0 a1 = some r) :
 Calls Try.prog 20 #[.slice A0 l0.length c0, .int .i64 a1] w fun e w' => e = .returned (.int .i64 r) ∧ Drawn0 w w' := by
 have bO := aM cG
 have fJ := aM cH
 clear cG cH
 have H : (if (wrap64 (a1 - (l0.length : Int))) < 0 then (some (-1)) else (some (wrap64 (a1 - (l0.length : Int))))) = some r := h
 clear h
 by_cases c3 : (wrap64 (a1 - (l0.length : Int))) < 0
 ·rw [if_pos c3] at H; have aT : decide ((wrap64 (a1 - (l0.length : Int))) < 0) = true := decide_eq_true c3; clear c3; obtain rfl := Option.some.inj H; go_enter Try.func20, Try.ntmps20
  go_wp2; go_ret
  exact ⟨u1_0, u1_1⟩
 ·rw [if_neg c3] at H; have aT : decide ((wrap64 (a1 - (l0.length : Int))) < 0) = false := decide_eq_false c3; clear c3; obtain rfl := Option.some.inj H; go_enter Try.func20, Try.ntmps20
  go_wp2; go_ret
  exact ⟨u1_0, u1_1⟩

/-! ### laws_szRel: function 34 -/
def laws_szRel.f (aP : Int) (bL : Int) (aC : ByteArray) (aB : List Int) (bM : Int) (a1 : Int) : Option (Int) := if (wrap64 (a1 - (aC.size : Int))) < 0 then (some (-1)) else ((laws_szIntS.f aB (wrap64 (a1 - (aC.size : Int)))).bind fun aQ => (if aQ < 0 then (some (-1)) else (some aQ)))
set_option maxHeartbeats 8000000 in
set_option maxRecDepth 100000 in
theorem laws_szRel.calls (aP : Int) (bL : Int) (aC : ByteArray) (aG : Option Addr) (aH : Nat) (aB : List Int) (bM : Int) (a1 : Int) (r : Int) (w : World) (aY : Kd.C (Kd.int .i64) w aG aB.length aB) (aZ : aB.length ≤ aH) (h : laws_szRel.f aP bL aC aB bM a1 = some r) :
 Calls Try.prog 34 #[.agg #[.int .i64 aP, .int .i64 bL, .string aC, .slice aG aB.length aH, .int .i64 bM], .int .i64 a1] w fun e w' => e = .returned (.int .i64 r) ∧ Below w.heap.size w w' := by
 have eC := Try.underlying53
 have bA := aM aY
 have bB := aM aZ
 clear aY aZ
 have HB := aM (Below.refl w.heap.size w)
 have H : (if (wrap64 (a1 - (aC.size : Int))) < 0 then (some (-1)) else ((laws_szIntS.f aB (wrap64 (a1 - (aC.size : Int)))).bind fun aQ => (if aQ < 0 then (some (-1)) else (some aQ)))) = some r := h
 clear h
 by_cases c3 : (wrap64 (a1 - (aC.size : Int))) < 0
 ·rw [if_pos c3] at H; have aT : decide ((wrap64 (a1 - (aC.size : Int))) < 0) = true := decide_eq_true c3; clear c3; obtain rfl := Option.some.inj H; go_enter Try.func34, Try.ntmps34
  go_wp2_with (first | ((with_reducible refine gD 2 rfl ?_); refine boxE (N := 2) rfl (cs := #[.int .i64 aP, .int .i64 bL, .string aC, .slice aG aB.length aH, .int .i64 bM]) (t := 53) ?_; intro cI hg w4 hbox hb; have bC := aM (hbox); have cJ := aM (xge hg); have cK := aM (xge hg); replace HB := xbs hb; clear hb hbox hg; obtain ⟨eD, eE, eF, eG, eH, eI, eJ, eK, eL, eM⟩ := xf5 (w := w4) bC))
  go_ret
  exact ⟨xerr, xbg⟩
 ·rw [if_neg c3] at H; have aT : decide ((wrap64 (a1 - (aC.size : Int))) < 0) = false := decide_eq_false c3; clear c3; replace H := oB H; obtain ⟨aQ, cW, H⟩ := H; (try dsimp only at H); have A6 := aM cW; clear cW
  by_cases c7 : aQ < 0
  ·rw [if_pos c7] at H; have bP : decide (aQ < 0) = true := decide_eq_true c7; clear c7; obtain rfl := Option.some.inj H; go_enter Try.func34, Try.ntmps34
   go_wp2_with (first | ((with_reducible refine gD 2 rfl ?_); refine boxE (N := 2) rfl (cs := #[.int .i64 aP, .int .i64 bL, .string aC, .slice aG aB.length aH, .int .i64 bM]) (t := 53) ?_; intro cI hg w8 hbox hb; have bC := aM (hbox); have cJ := aM (xge hg); have cK := aM (xge hg); replace HB := xbs hb; clear hb hbox hg; obtain ⟨eN, eO, eP, eQ, eR, eS, eT, eU, eV, eW⟩ := xf5 (w := w8) bC) | ((with_reducible refine gC 20 rfl ?_); refine goesLY (some 15) rfl Try.func20 #[.slice aG aB.length aH, .int .i64 (wrap64 (a1 - (aC.size : Int)))] ?_; (with_reducible refine (laws_szIntS.calls _ _ aB (wrap64 (a1 - (aC.size : Int))) aQ _ ?side1 ?side2 A6.out).mono ?_); (case side1 => exact xcb bA); (case side2 => exact bB.out); rintro e w' ⟨rfl, ⟨nd, rfl⟩⟩; refine ⟨_, rfl, ?_⟩))
   go_ret
   exact ⟨xerr, xbg⟩
  ·rw [if_neg c7] at H; have bP : decide (aQ < 0) = false := decide_eq_false c7; clear c7; obtain rfl := Option.some.inj H; go_enter Try.func34, Try.ntmps34
   go_wp2_with (first | ((with_reducible refine gD 2 rfl ?_); refine boxE (N := 2) rfl (cs := #[.int .i64 aP, .int .i64 bL, .string aC, .slice aG aB.length aH, .int .i64 bM]) (t := 53) ?_; intro cI hg eX hbox hb; have bC := aM (hbox); have cJ := aM (xge hg); have cK := aM (xge hg); replace HB := xbs hb; clear hb hbox hg; obtain ⟨bW, bX, bY, bZ, dA, cA, cB, cC, cD, dB⟩ := xf5 (w := eX) bC) | ((with_reducible refine gC 20 rfl ?_); refine goesLY (some 15) rfl Try.func20 #[.slice aG aB.length aH, .int .i64 (wrap64 (a1 - (aC.size : Int)))] ?_; (with_reducible refine (laws_szIntS.calls _ _ aB (wrap64 (a1 - (aC.size : Int))) aQ _ ?side1 ?side2 A6.out).mono ?_); (case side1 => exact xcb bA); (case side2 => exact bB.out); rintro e w' ⟨rfl, ⟨nd, rfl⟩⟩; refine ⟨_, rfl, ?_⟩))
   go_ret
   exact ⟨xerr, xbg⟩

/-! ### laws_szRelS: function 19 -/
def laws_szRelS.l0 : Nat → List (S53) → Int → Int → Option (Int)
 | 0, _, _, _ => none
 | k + 1, x0, x1, x5 => if x5 < (x0.length : Int) then (if 0 ≤ x5 then ((laws_szRel.f ((rd_T53 x0 x5).f0) ((rd_T53 x0 x5).f1) ((rd_T53 x0 x5).f2) ((rd_T53 x0 x5).f3) ((rd_T53 x0 x5).f4) x1).bind fun aU => (if aU < 0 then (some (-1)) else (laws_szRelS.l0 k x0 aU (wrap64 (x5 + 1))))) else (none)) else (some x1)
def laws_szRelS.f (k : Nat) (l0 : List (S53)) (a1 : Int) : Option (Int) := if (wrap64 (a1 - (l0.length : Int))) < 0 then (some (-1)) else (laws_szRelS.l0 k l0 (wrap64 (a1 - (l0.length : Int))) 0)
theorem u1_mq0 {p : Prop} (h : p := by repeat' first | (with_reducible first | exact dC _ _ _ | exact LeO.refl _ | exact LeO.none _ | refine LeO.ite ?_ ?_ | refine LeO.bind ?_ (fun _ => ?_)) | exact LeO.none _ | refine LeO.ite ?_ ?_ | refine LeO.bind ?_ (fun _ => ?_)) : p := h
set_option maxRecDepth 100000 in
theorem laws_szRelS.mono_l : ∀ k, (∀ y0 y1 y2, LeO (laws_szRelS.l0 k y0 y1 y2) (laws_szRelS.l0 (k + 1) y0 y1 y2))
 | 0 => fun _ _ _ r h => by simp [laws_szRelS.l0] at h
 | k + 1 => by
  have dC := laws_szRelS.mono_l k
  ·intro y0 y1 y2; unfold laws_szRelS.l0; exact u1_mq0
theorem laws_szRelS.mono : ∀ a0 a1 k, LeO (laws_szRelS.f k a0 a1) (laws_szRelS.f (k + 1) a0 a1) := by
 intro a0 a1 k
 have dC := laws_szRelS.mono_l k
 unfold laws_szRelS.f
 exact u1_mq0
set_option maxHeartbeats 8000000 in
set_option maxRecDepth 100000 in
theorem laws_szRelS.calls (k : Nat) (A0 : Option Addr) (c0 : Nat) (l0 : List (S53)) (a1 : Int) (r : Int) (w : World) (cG : Kd.C k53 w A0 l0.length l0) (cH : l0.length ≤ c0) (h : laws_szRelS.f k l0 a1 = some r) :
 Calls Try.prog 19 #[.slice A0 l0.length c0, .int .i64 a1] w fun e w' => e = .returned (.int .i64 r) ∧ Below w.heap.size w w' := by
 have eC := Try.underlying53
 have bO := aM cG
 have fJ := aM cH
 clear cG cH
 have HB := aM (Below.refl w.heap.size w)
 have H : (if (wrap64 (a1 - (l0.length : Int))) < 0 then (some (-1)) else (laws_szRelS.l0 k l0 (wrap64 (a1 - (l0.length : Int))) 0)) = some r := h
 clear h
 by_cases c3 : (wrap64 (a1 - (l0.length : Int))) < 0
 ·rw [if_pos c3] at H; have aT : decide ((wrap64 (a1 - (l0.length : Int))) < 0) = true := decide_eq_true c3; clear c3; obtain rfl := Option.some.inj H; go_enter Try.func19, Try.ntmps19
  go_wp2; go_ret
  exact ⟨xerr, xbel⟩
 ·rw [if_neg c3] at H; have aT : decide ((wrap64 (a1 - (l0.length : Int))) < 0) = false := decide_eq_false c3; clear c3; have H' := aM H; clear H; go_enter Try.func19, Try.ntmps19
  go_wp2; go_loopg [1, 5] k (fun kq v1 v5 w' => ∃ (bH : Int) (aA : Int), v1 = .int .i64 bH ∧ v5 = .int .i64 aA ∧ Aside0 (laws_szRelS.l0 kq l0 bH aA = some r) ∧ Aside0 (kq ≤ k) ∧ Aside0 (Below w.heap.size w w'))
  case atStart => exact ⟨(wrap64 (a1 - (l0.length : Int))), (0), u1_0, u1_0, H', ⟨Nat.le_refl _⟩, ⟨xbel⟩⟩
  case round =>
   clear H'; try clear c1
   try clear p2
   try clear c3
   try clear aT
   obtain ⟨bH, aA, rfl, rfl, HA, HK1, HB⟩ := hrel; cases gk with
   | zero => exact absurd HA.out (by simp [laws_szRelS.l0])
   | succ k1 =>
    have H := HA.out; clear HA; simp only [laws_szRelS.l0] at H; by_cases c4 : aA < (l0.length : Int)
    ·rw [if_pos c4] at H; have bN : decide (aA < (l0.length : Int)) = true := decide_eq_true c4; clear c4; by_cases c5 : 0 ≤ aA
     ·rw [if_pos c5] at H; have fO : decide (0 ≤ aA) = true := decide_eq_true c5; clear c5; replace H := oB H; obtain ⟨aU, cW, H⟩ := H; (try dsimp only at H); have A6 := aM cW; clear cW
      by_cases c7 : aU < 0
      ·rw [if_pos c7] at H; have bP : decide (aU < 0) = true := decide_eq_true c7; clear c7; obtain rfl := Option.some.inj H; have p103 : 0 ≤ (aA : Int) := oda; have q103 : aA < (l0.length : Int) := oda; obtain ⟨cX, bI, bJ, cQ, aI, aJ, aK, aL, aN, aO, hi103_3⟩ := at_T53 bO.out aA p103 q103; cases cQ
       replace aI := xce HB aI; replace aJ := xce HB aJ; replace aK := xce HB aK; replace aL := xce HB aL; replace aN := xce HB aN; have aV := aM hi103_3; have aW := aM aO; clear hi103_3 aO; replace p103 := eq_true p103; replace q103 := eq_true q103; go_wp2_with (first | ((with_reducible refine gC 34 rfl ?_); refine goesLY (some 23) rfl Try.func34 #[.agg #[.int .i64 ((rd_T53 l0 aA).f0), .int .i64 ((rd_T53 l0 aA).f1), .string ((rd_T53 l0 aA).f2), .slice bI ((rd_T53 l0 aA).f3).length bJ, .int .i64 ((rd_T53 l0 aA).f4)], .int .i64 bH] ?_; (with_reducible refine (laws_szRel.calls ((rd_T53 l0 aA).f0) ((rd_T53 l0 aA).f1) ((rd_T53 l0 aA).f2) _ _ ((rd_T53 l0 aA).f3) ((rd_T53 l0 aA).f4) bH aU _ ?side1 ?side2 A6.out).mono ?_); (case side1 => exact xcb aV); (case side2 => exact aW.out); rintro e w8 ⟨rfl, hb⟩; refine ⟨_, rfl, ?_⟩; replace HB := xbs hb; (try clear hb)))
       go_ret
       exact ⟨xerr, xbel⟩
      ·rw [if_neg c7] at H; have bP : decide (aU < 0) = false := decide_eq_false c7; clear c7; have H' := aM H; clear H; have p103 : 0 ≤ (aA : Int) := oda; have q103 : aA < (l0.length : Int) := oda; obtain ⟨cX, bI, bJ, cQ, aI, aJ, aK, aL, aN, aO, hi103_3⟩ := at_T53 bO.out aA p103 q103; cases cQ
       replace aI := xce HB aI; replace aJ := xce HB aJ; replace aK := xce HB aK; replace aL := xce HB aL; replace aN := xce HB aN; have aV := aM hi103_3; have aW := aM aO; clear hi103_3 aO; replace p103 := eq_true p103; replace q103 := eq_true q103; go_wp2_with (first | ((with_reducible refine gC 34 rfl ?_); refine goesLY (some 23) rfl Try.func34 #[.agg #[.int .i64 ((rd_T53 l0 aA).f0), .int .i64 ((rd_T53 l0 aA).f1), .string ((rd_T53 l0 aA).f2), .slice bI ((rd_T53 l0 aA).f3).length bJ, .int .i64 ((rd_T53 l0 aA).f4)], .int .i64 bH] ?_; (with_reducible refine (laws_szRel.calls ((rd_T53 l0 aA).f0) ((rd_T53 l0 aA).f1) ((rd_T53 l0 aA).f2) _ _ ((rd_T53 l0 aA).f3) ((rd_T53 l0 aA).f4) bH aU _ ?side1 ?side2 A6.out).mono ?_); (case side1 => exact xcb aV); (case side2 => exact aW.out); rintro e w9 ⟨rfl, hb⟩; refine ⟨_, rfl, ?_⟩; replace HB := xbs hb; (try clear hb)))
       go_roundg k1
       case measure => have := HK1.out; omega
       case rel => exact ⟨(aU), (wrap64 (aA + 1)), u1_0, u1_0, H', ⟨by have := HK1.out; omega⟩, ⟨xbel⟩⟩
     ·rw [if_neg c5] at H; exact absurd H (by simp)
    ·rw [if_neg c4] at H; have bN : decide (aA < (l0.length : Int)) = false := decide_eq_false c4; clear c4; obtain rfl := Option.some.inj H; go_wp2; go_ret
     exact ⟨xerr, xbel⟩

/-! ### laws_szRoll: function 5 -/
def laws_szRoll.f (k : Nat) (aP : Int) (aE : List (S53)) (aC : Int) (aB : List Int) (a1 : Int) : Option (Int) := (laws_szRelS.f k aE a1).bind fun aF => (if aF < 0 then (some (-1)) else ((laws_szIntS.f aB aF).bind fun aR => (if aR < 0 then (some (-1)) else (some aR))))
theorem u1_mq1 {p : Prop} (h : p := by repeat' first | (with_reducible first | exact laws_szRelS.mono _ _ _ | exact LeO.refl _ | exact LeO.none _ | refine LeO.ite ?_ ?_ | refine LeO.bind ?_ (fun _ => ?_)) | exact LeO.none _ | refine LeO.ite ?_ ?_ | refine LeO.bind ?_ (fun _ => ?_)) : p := h
theorem laws_szRoll.mono : ∀ a0 a1 a2 a3 a4 k, LeO (laws_szRoll.f k a0 a1 a2 a3 a4) (laws_szRoll.f (k + 1) a0 a1 a2 a3 a4) := by
 intro a0 a1 a2 a3 a4 k
 unfold laws_szRoll.f
 exact u1_mq1
set_option maxHeartbeats 8000000 in
set_option maxRecDepth 100000 in
theorem laws_szRoll.calls (k : Nat) (aP : Int) (bE : Option Addr) (bG : Nat) (aE : List (S53)) (aC : Int) (aG : Option Addr) (aH : Nat) (aB : List Int) (a1 : Int) (r : Int) (w : World) (cL : Kd.C k53 w bE aE.length aE) (cM : aE.length ≤ bG) (aY : Kd.C (Kd.int .i64) w aG aB.length aB) (aZ : aB.length ≤ aH) (h : laws_szRoll.f k aP aE aC aB a1 = some r) :
 Calls Try.prog 5 #[.agg #[.int .i64 aP, .slice bE aE.length bG, .int .i64 aC, .slice aG aB.length aH], .int .i64 a1] w fun e w' => e = .returned (.int .i64 r) ∧ Below w.heap.size w w' := by
 have fP := Try.underlying25
 have bQ := aM cL
 have bR := aM cM
 clear cL cM
 have bA := aM aY
 have bB := aM aZ
 clear aY aZ
 have HB := aM (Below.refl w.heap.size w)
 have H : ((laws_szRelS.f k aE a1).bind fun aF => (if aF < 0 then (some (-1)) else ((laws_szIntS.f aB aF).bind fun aR => (if aR < 0 then (some (-1)) else (some aR))))) = some r := h
 clear h
 replace H := oB H
 obtain ⟨aF, fK, H⟩ := H
 (try dsimp only at H)
 have A3 := aM fK
 clear fK
 by_cases c4 : aF < 0
 ·rw [if_pos c4] at H; have bN : decide (aF < 0) = true := decide_eq_true c4; clear c4; obtain rfl := Option.some.inj H; go_enter Try.func5, Try.ntmps5
  go_wp2_with (first | ((with_reducible refine gD 2 rfl ?_); refine boxE (N := 2) rfl (cs := #[.int .i64 aP, .slice bE aE.length bG, .int .i64 aC, .slice aG aB.length aH]) (t := 25) ?_; intro cN hg w5 hbox hb; have aD := aM (hbox); have cO := aM (xge hg); have cP := aM (xge hg); replace HB := xbs hb; clear hb hbox hg; obtain ⟨eY, eZ, fA, fB, fC, fD, fE, fF⟩ := xf4 (w := w5) aD) | ((with_reducible refine gC 19 rfl ?_); refine goesLY (some 8) rfl Try.func19 #[.slice bE aE.length bG, .int .i64 a1] ?_; (with_reducible refine (laws_szRelS.calls k _ _ aE a1 aF _ ?side1 ?side2 A3.out).mono ?_); (case side1 => exact xcb bQ); (case side2 => exact bR.out); rintro e w7 ⟨rfl, hb⟩; refine ⟨_, rfl, ?_⟩; replace aD := xbb aD hb; replace HB := xbs hb; (try clear hb)))
  go_ret
  exact ⟨xerr, xbg⟩
 ·rw [if_neg c4] at H; have bN : decide (aF < 0) = false := decide_eq_false c4; clear c4; replace H := oB H; obtain ⟨aR, fL, H⟩ := H; (try dsimp only at H); have A8 := aM fL; clear fL
  by_cases c9 : aR < 0
  ·rw [if_pos c9] at H; have cY : decide (aR < 0) = true := decide_eq_true c9; clear c9; obtain rfl := Option.some.inj H; go_enter Try.func5, Try.ntmps5
   go_wp2_with (first | ((with_reducible refine gD 2 rfl ?_); refine boxE (N := 2) rfl (cs := #[.int .i64 aP, .slice bE aE.length bG, .int .i64 aC, .slice aG aB.length aH]) (t := 25) ?_; intro cN hg eX hbox hb; have aD := aM (hbox); have cO := aM (xge hg); have cP := aM (xge hg); replace HB := xbs hb; clear hb hbox hg; obtain ⟨bW, bX, bY, bZ, cA, cB, cC, cD⟩ := xf4 (w := eX) aD) | ((with_reducible refine gC 19 rfl ?_); refine goesLY (some 8) rfl Try.func19 #[.slice bE aE.length bG, .int .i64 a1] ?_; (with_reducible refine (laws_szRelS.calls k _ _ aE a1 aF _ ?side1 ?side2 A3.out).mono ?_); (case side1 => exact xcb bQ); (case side2 => exact bR.out); rintro e fQ ⟨rfl, hb⟩; refine ⟨_, rfl, ?_⟩; replace aD := xbb aD hb; replace HB := xbs hb; (try clear hb); obtain ⟨dD, dE, dF, dG, dH, dI, dJ, dK⟩ := xf4 (w := fQ) aD) | ((with_reducible refine gC 20 rfl ?_); refine goesLY (some 14) rfl Try.func20 #[.slice aG aB.length aH, .int .i64 aF] ?_; (with_reducible refine (laws_szIntS.calls _ _ aB aF aR _ ?side1 ?side2 A8.out).mono ?_); (case side1 => exact xcb bA); (case side2 => exact bB.out); rintro e w' ⟨rfl, ⟨nd, rfl⟩⟩; refine ⟨_, rfl, ?_⟩))
   go_ret
   exact ⟨xerr, xbg⟩
  ·rw [if_neg c9] at H; have cY : decide (aR < 0) = false := decide_eq_false c9; clear c9; obtain rfl := Option.some.inj H; go_enter Try.func5, Try.ntmps5
   go_wp2_with (first | ((with_reducible refine gD 2 rfl ?_); refine boxE (N := 2) rfl (cs := #[.int .i64 aP, .slice bE aE.length bG, .int .i64 aC, .slice aG aB.length aH]) (t := 25) ?_; intro cN hg fR hbox hb; have aD := aM (hbox); have cO := aM (xge hg); have cP := aM (xge hg); replace HB := xbs hb; clear hb hbox hg; obtain ⟨dL, dM, dN, dO, dP, dQ, dR, dS⟩ := xf4 (w := fR) aD) | ((with_reducible refine gC 19 rfl ?_); refine goesLY (some 8) rfl Try.func19 #[.slice bE aE.length bG, .int .i64 a1] ?_; (with_reducible refine (laws_szRelS.calls k _ _ aE a1 aF _ ?side1 ?side2 A3.out).mono ?_); (case side1 => exact xcb bQ); (case side2 => exact bR.out); rintro e fS ⟨rfl, hb⟩; refine ⟨_, rfl, ?_⟩; replace aD := xbb aD hb; replace HB := xbs hb; (try clear hb); obtain ⟨dU, dV, dW, dX, dY, dZ, eA, eB⟩ := xf4 (w := fS) aD) | ((with_reducible refine gC 20 rfl ?_); refine goesLY (some 14) rfl Try.func20 #[.slice aG aB.length aH, .int .i64 aF] ?_; (with_reducible refine (laws_szIntS.calls _ _ aB aF aR _ ?side1 ?side2 A8.out).mono ?_); (case side1 => exact xcb bA); (case side2 => exact bB.out); rintro e w' ⟨rfl, ⟨nd, rfl⟩⟩; refine ⟨_, rfl, ?_⟩))
   go_ret
   exact ⟨xerr, xbg⟩

/-! ### spec_l1In: function 22 -/
def spec_l1In.f (a0 : Int) (a1 : Int) (a2 : Int) : Option (Bool) := if a0 ≥ a1 then (some (decide (a0 ≤ a2))) else (some false)
set_option maxHeartbeats 8000000 in
set_option maxRecDepth 100000 in
theorem spec_l1In.calls (a0 : Int) (a1 : Int) (a2 : Int) (r : Bool) (w : World) (h : spec_l1In.f a0 a1 a2 = some r) :
 Calls Try.prog 22 #[.int .i64 a0, .int .i64 a1, .int .i64 a2] w fun e w' => e = .returned (.bool r) ∧ Drawn0 w w' := by
 have H : (if a0 ≥ a1 then (some (decide (a0 ≤ a2))) else (some false)) = some r := h
 clear h
 by_cases c4 : a0 ≥ a1
 ·rw [if_pos c4] at H; have bN : decide (a1 ≤ a0) = true := decide_eq_true c4; clear c4; obtain rfl := Option.some.inj H; go_enter Try.func22, Try.ntmps22
  go_wp2; go_ret
  exact ⟨u1_0, u1_1⟩
 ·rw [if_neg c4] at H; have bN : decide (a1 ≤ a0) = false := decide_eq_false c4; clear c4; obtain rfl := Option.some.inj H; go_enter Try.func22, Try.ntmps22
  go_wp2; go_ret
  exact ⟨u1_0, u1_1⟩

/-! ### spec_l7Of: function 35 -/
def spec_l7Of.f (a0 : Int) : Option (Bool) := if a0 = 1 then (some true) else (if a0 = 3 then (some true) else (some (a0 == 5)))
set_option maxHeartbeats 8000000 in
set_option maxRecDepth 100000 in
theorem spec_l7Of.calls (a0 : Int) (r : Bool) (w : World) (h : spec_l7Of.f a0 = some r) :
 Calls Try.prog 35 #[.int .i64 a0] w fun e w' => e = .returned (.bool r) ∧ Drawn0 w w' := by
 have H : (if a0 = 1 then (some true) else (if a0 = 3 then (some true) else (some (a0 == 5)))) = some r := h
 clear h
 by_cases c2 : a0 = 1
 ·rw [if_pos c2] at H; obtain ⟨fG, fH⟩ := bT c2; clear c2; obtain rfl := Option.some.inj H; go_enter Try.func35, Try.ntmps35
  go_wp2; go_ret
  exact ⟨u1_0, u1_1⟩
 ·rw [if_neg c2] at H; obtain ⟨fG, fH⟩ := bF c2; by_cases c3 : a0 = 3
  ·rw [if_pos c3] at H; obtain ⟨aT, fI⟩ := bT c3; clear c3; obtain rfl := Option.some.inj H; go_enter Try.func35, Try.ntmps35
   go_wp2; go_ret
   exact ⟨u1_0, u1_1⟩
  ·rw [if_neg c3] at H; obtain ⟨aT, fI⟩ := bF c3; obtain rfl := Option.some.inj H; go_enter Try.func35, Try.ntmps35
   go_wp2; go_ret
   exact ⟨u1_0, u1_1⟩

/-! ### spec_l7Nodes: function 36 -/
def spec_l7Nodes.l0 : Nat → List Int → Int → Int → Option (Bool)
 | 0, _, _, _ => none
 | k + 1, x0, x1, x5 => if x5 < (x0.length : Int) then (if 0 ≤ x5 then ((spec_l1In.f (rd x0 x5) 0 (wrap64 (x1 - 1))).bind fun cS => (if cS = true then (if x5 > 0 then (if 0 ≤ (wrap64 (x5 - 1)) then (if (wrap64 (x5 - 1)) < (x0.length : Int) then (if (rd x0 (wrap64 (x5 - 1))) ≥ (rd x0 x5) then (some false) else (spec_l7Nodes.l0 k x0 x1 (wrap64 (x5 + 1)))) else (none)) else (none)) else (spec_l7Nodes.l0 k x0 x1 (wrap64 (x5 + 1)))) else (some false))) else (none)) else (some true)
def spec_l7Nodes.f (k : Nat) (l0 : List Int) (a1 : Int) : Option (Bool) := spec_l7Nodes.l0 k l0 a1 0
set_option maxRecDepth 100000 in
theorem spec_l7Nodes.mono_l : ∀ k, (∀ y0 y1 y2, LeO (spec_l7Nodes.l0 k y0 y1 y2) (spec_l7Nodes.l0 (k + 1) y0 y1 y2))
 | 0 => fun _ _ _ r h => by simp [spec_l7Nodes.l0] at h
 | k + 1 => by
  have dC := spec_l7Nodes.mono_l k
  ·intro y0 y1 y2; unfold spec_l7Nodes.l0; exact u1_mq0
theorem spec_l7Nodes.mono : ∀ a0 a1 k, LeO (spec_l7Nodes.f k a0 a1) (spec_l7Nodes.f (k + 1) a0 a1) := by
 intro a0 a1 k
 have dC := spec_l7Nodes.mono_l k
 unfold spec_l7Nodes.f
 exact u1_mq0
set_option maxHeartbeats 8000000 in
set_option maxRecDepth 100000 in
theorem spec_l7Nodes.calls (k : Nat) (A0 : Option Addr) (c0 : Nat) (l0 : List Int) (a1 : Int) (r : Bool) (w : World) (cG : Kd.C (Kd.int .i64) w A0 l0.length l0) (cH : l0.length ≤ c0) (h : spec_l7Nodes.f k l0 a1 = some r) :
 Calls Try.prog 36 #[.slice A0 l0.length c0, .int .i64 a1] w fun e w' => e = .returned (.bool r) ∧ Drawn0 w w' := by
 have bO := aM cG
 have fJ := aM cH
 clear cG cH
 have H : (spec_l7Nodes.l0 k l0 a1 0) = some r := h
 clear h
 have H' := aM H
 clear H
 go_enter Try.func36, Try.ntmps36
 go_wp2
 repeat (go_quiet (fail); try go_wp2)
 go_loopg [5] k (fun kq v5 w' => ∃ (aA : Int), v5 = .int .i64 aA ∧ Aside0 (spec_l7Nodes.l0 kq l0 a1 aA = some r) ∧ Aside0 (kq ≤ k) ∧ Drawn0 w w')
 case atStart => exact ⟨(0), u1_0, H', ⟨Nat.le_refl _⟩, u1_1⟩
 case round =>
  clear H'; try clear p2
  obtain ⟨aA, rfl, HA, HK1, ⟨m1, rfl⟩⟩ := hrel; cases gk with
  | zero => exact absurd HA.out (by simp [spec_l7Nodes.l0])
  | succ k1 =>
   have H := HA.out; clear HA; simp only [spec_l7Nodes.l0] at H; by_cases c3 : aA < (l0.length : Int)
   ·rw [if_pos c3] at H; have aT : decide (aA < (l0.length : Int)) = true := decide_eq_true c3; clear c3; by_cases c4 : 0 ≤ aA
    ·rw [if_pos c4] at H; have bN : decide (0 ≤ aA) = true := decide_eq_true c4; clear c4; replace H := oB H; obtain ⟨cS, fM, H⟩ := H; (try dsimp only at H); have A5 := aM fM; clear fM
     by_cases c6 : cS = true
     ·subst c6; replace H := iT H; by_cases c7 : aA > 0
      ·rw [if_pos c7] at H; have bP : decide (0 < aA) = true := decide_eq_true c7; clear c7; obtain ⟨ji8, hji8⟩ : ∃ j_ : Int, (wrap64 (aA - 1)) = j_ := ⟨_, rfl⟩; replace H : (if 0 ≤ (ji8) then (if (ji8) < (l0.length : Int) then (if (rd l0 (ji8)) ≥ (rd l0 aA) then (some false) else (spec_l7Nodes.l0 k1 l0 a1 (wrap64 (aA + 1)))) else (none)) else (none)) = some r := by first | (rw [hji8] at H; exact H) | (simp only [hji8] at H ⊢; exact H)
       (try rw [hji8] at A5); have hji8w : (IntKind.i64.wrap (aA - 1)) = ji8 := (i64_w _).trans hji8; by_cases c9 : 0 ≤ (ji8)
       ·rw [if_pos c9] at H; have cY : decide (0 ≤ (ji8)) = true := decide_eq_true c9; clear c9; by_cases c10 : (ji8) < (l0.length : Int)
        ·rw [if_pos c10] at H; have fN : decide ((ji8) < (l0.length : Int)) = true := decide_eq_true c10; clear c10; by_cases cV : (rd l0 (ji8)) ≥ (rd l0 aA)
         ·rw [if_pos cV] at H; have cZ : decide ((rd l0 aA) ≤ (rd l0 (ji8))) = true := decide_eq_true cV; clear cV; obtain rfl := Option.some.inj H; have p108 : 0 ≤ (aA : Int) := oda; have q108 : aA < (l0.length : Int) := oda; obtain ⟨aS, bK, aX⟩ := Kd.at_int bO.out aA p108 q108; cases bK
          replace p108 := eq_true p108; replace q108 := eq_true q108; have p110 : 0 ≤ ((ji8) : Int) := oda; have q110 : (ji8) < (l0.length : Int) := oda; obtain ⟨bU, cT, cE⟩ := Kd.at_int bO.out (ji8) p110 q110; obtain rfl : aS = bU := (by injection cT); replace p110 := eq_true p110; replace q110 := eq_true q110; have p111 : 0 ≤ (aA : Int) := oda; have q111 : aA < (l0.length : Int) := oda; obtain ⟨bV, cU, cF⟩ := Kd.at_int bO.out aA p111 q111; obtain rfl : aS = bV := (by injection cU); replace p111 := eq_true p111; replace q111 := eq_true q111
          iterate 6 ((try go_quiet (first | (go_at_call 22; (with_reducible refine (spec_l1In.calls (rd l0 aA) 0 (wrap64 (a1 - 1)) true _ A5.out).mono ?_); rintro e w' ⟨rfl, ⟨nd, rfl⟩⟩; (try first | exact ⟨rfl, _, World.drewN_drewN _ _ _⟩ | exact ⟨rfl, _, Eq.trans (World.drewN_drewN _ _ _) (congrArg (World.drewN _) (Nat.add_assoc _ _ _))⟩)))); (try go_wp2_with (first | (go_at_call 22; (with_reducible refine (spec_l1In.calls (rd l0 aA) 0 (wrap64 (a1 - 1)) true _ A5.out).mono ?_); rintro e w' ⟨rfl, ⟨nd, rfl⟩⟩; (try first | exact ⟨rfl, _, World.drewN_drewN _ _ _⟩ | exact ⟨rfl, _, Eq.trans (World.drewN_drewN _ _ _) (congrArg (World.drewN _) (Nat.add_assoc _ _ _))⟩)))))
          go_ret
          exact ⟨by first | rfl | (simp; done) | (simp only [← hji8] <;> (first | rfl | simp)) | (simp [*]; done), u1_1⟩
         ·rw [if_neg cV] at H; have cZ : decide ((rd l0 aA) ≤ (rd l0 (ji8))) = false := decide_eq_false cV; clear cV; have H' := aM H; clear H; have p108 : 0 ≤ (aA : Int) := oda; have q108 : aA < (l0.length : Int) := oda; obtain ⟨aS, bK, aX⟩ := Kd.at_int bO.out aA p108 q108; cases bK
          replace p108 := eq_true p108; replace q108 := eq_true q108; have p110 : 0 ≤ ((ji8) : Int) := oda; have q110 : (ji8) < (l0.length : Int) := oda; obtain ⟨bU, cT, cE⟩ := Kd.at_int bO.out (ji8) p110 q110; obtain rfl : aS = bU := (by injection cT); replace p110 := eq_true p110; replace q110 := eq_true q110; have p111 : 0 ≤ (aA : Int) := oda; have q111 : aA < (l0.length : Int) := oda; obtain ⟨bV, cU, cF⟩ := Kd.at_int bO.out aA p111 q111; obtain rfl : aS = bV := (by injection cU); replace p111 := eq_true p111; replace q111 := eq_true q111
          iterate 6 ((try go_quiet (first | (go_at_call 22; (with_reducible refine (spec_l1In.calls (rd l0 aA) 0 (wrap64 (a1 - 1)) true _ A5.out).mono ?_); rintro e w' ⟨rfl, ⟨nd, rfl⟩⟩; (try first | exact ⟨rfl, _, World.drewN_drewN _ _ _⟩ | exact ⟨rfl, _, Eq.trans (World.drewN_drewN _ _ _) (congrArg (World.drewN _) (Nat.add_assoc _ _ _))⟩)))); (try go_wp2_with (first | (go_at_call 22; (with_reducible refine (spec_l1In.calls (rd l0 aA) 0 (wrap64 (a1 - 1)) true _ A5.out).mono ?_); rintro e w' ⟨rfl, ⟨nd, rfl⟩⟩; (try first | exact ⟨rfl, _, World.drewN_drewN _ _ _⟩ | exact ⟨rfl, _, Eq.trans (World.drewN_drewN _ _ _) (congrArg (World.drewN _) (Nat.add_assoc _ _ _))⟩)))))
          go_roundg k1
          case measure => have := HK1.out; omega
          case rel => exact ⟨(wrap64 (aA + 1)), u1_0, H', ⟨by have := HK1.out; omega⟩, u1_1⟩
        ·rw [if_neg c10] at H; exact absurd H (by simp)
       ·rw [if_neg c9] at H; exact absurd H (by simp)
      ·rw [if_neg c7] at H; have bP : decide (0 < aA) = false := decide_eq_false c7; clear c7; have H' := aM H; clear H; have p108 : 0 ≤ (aA : Int) := oda; have q108 : aA < (l0.length : Int) := oda; obtain ⟨aS, bK, aX⟩ := Kd.at_int bO.out aA p108 q108; cases bK
       replace p108 := eq_true p108; replace q108 := eq_true q108
       iterate 6 ((try go_quiet (first | (go_at_call 22; (with_reducible refine (spec_l1In.calls (rd l0 aA) 0 (wrap64 (a1 - 1)) true _ A5.out).mono ?_); rintro e w' ⟨rfl, ⟨nd, rfl⟩⟩; (try first | exact ⟨rfl, _, World.drewN_drewN _ _ _⟩ | exact ⟨rfl, _, Eq.trans (World.drewN_drewN _ _ _) (congrArg (World.drewN _) (Nat.add_assoc _ _ _))⟩)))); (try go_wp2_with (first | (go_at_call 22; (with_reducible refine (spec_l1In.calls (rd l0 aA) 0 (wrap64 (a1 - 1)) true _ A5.out).mono ?_); rintro e w' ⟨rfl, ⟨nd, rfl⟩⟩; (try first | exact ⟨rfl, _, World.drewN_drewN _ _ _⟩ | exact ⟨rfl, _, Eq.trans (World.drewN_drewN _ _ _) (congrArg (World.drewN _) (Nat.add_assoc _ _ _))⟩)))))
       go_roundg k1
       case measure => have := HK1.out; omega
       case rel => exact ⟨(wrap64 (aA + 1)), u1_0, H', ⟨by have := HK1.out; omega⟩, u1_1⟩
     ·replace c6 := Bool.eq_false_iff.mpr c6; subst c6; replace H := iN H; obtain rfl := Option.some.inj H; have p108 : 0 ≤ (aA : Int) := oda; have q108 : aA < (l0.length : Int) := oda; obtain ⟨aS, bK, aX⟩ := Kd.at_int bO.out aA p108 q108; cases bK
      replace p108 := eq_true p108; replace q108 := eq_true q108
      iterate 6 ((try go_quiet (first | (go_at_call 22; (with_reducible refine (spec_l1In.calls (rd l0 aA) 0 (wrap64 (a1 - 1)) false _ A5.out).mono ?_); rintro e w' ⟨rfl, ⟨nd, rfl⟩⟩; (try first | exact ⟨rfl, _, World.drewN_drewN _ _ _⟩ | exact ⟨rfl, _, Eq.trans (World.drewN_drewN _ _ _) (congrArg (World.drewN _) (Nat.add_assoc _ _ _))⟩)))); (try go_wp2_with (first | (go_at_call 22; (with_reducible refine (spec_l1In.calls (rd l0 aA) 0 (wrap64 (a1 - 1)) false _ A5.out).mono ?_); rintro e w' ⟨rfl, ⟨nd, rfl⟩⟩; (try first | exact ⟨rfl, _, World.drewN_drewN _ _ _⟩ | exact ⟨rfl, _, Eq.trans (World.drewN_drewN _ _ _) (congrArg (World.drewN _) (Nat.add_assoc _ _ _))⟩)))))
      go_ret
      exact ⟨u1_0, u1_1⟩
    ·rw [if_neg c4] at H; exact absurd H (by simp)
   ·rw [if_neg c3] at H; have aT : decide (aA < (l0.length : Int)) = false := decide_eq_false c3; clear c3; obtain rfl := Option.some.inj H; go_wp2
    repeat (go_quiet (fail); try go_wp2)
    go_ret
    exact ⟨u1_0, u1_1⟩

end Go.Proofs.Ytppfnnpfamkclaa.QFnExactRollLacks
