-- A walk, by a program of this session.
import Derived.Test.YtocpomkfilpflaaQFnExactHardLoadx0
import Derived.Test.YtocpomkfilpflaaQFnExactHardLoadx1
namespace Go.Proofs.Ytocpomkfilpflaa.QFnExactHardLoad
open Go.RowKit Go.Proofs.YtocpomkfilpflaaW.PrintWords Go.Proofs.YtocpomkfilpflaaW.PrintLast Go.Proofs.YtocpomkfilpflaaW.PrintMore
attribute [local go_sem] max2_int min2_int max_two min_two max_three min_three max_four min_four   -- for this text's walks alone
set_option linter.unusedVariables false
set_option linter.unusedSimpArgs false

attribute [local go_sem high] eqA34
theorem u3_0 {p : Prop} (h : p := by first | rfl | (simp; done) | (simp [*]; done)) : p := h
theorem u3_1 {p : Prop} (h : p := by first | rfl | (simp [Array.getD]; done) | (clear fA cM cA; simp [*]; done) | (clear fA cM cA; simp [*]; assumption) | (clear fA cM cA; simp [*]; rename_i h_; simpa using h_)) : p := h
theorem u3_2 {p : Prop} (h : p := by repeat (first | apply pw_below_drewN | apply below_alloc | exact Below.refl _ w)) : p := h
theorem u3_3 {p : Prop} (h : p := by repeat (first | exact Drawn0.refl _ | apply Drawn0.step)) : p := h
/-! ### laws_szFile: function 80 -/
def laws_szFile.f (aA : Int) (aB : ByteArray) (aC : ByteArray) (a1 : Int) : Option (Int) := if (wrap64 (a1 - (aB.size : Int))) < 0 then (some (-1)) else (if (wrap64 ((wrap64 (a1 - (aB.size : Int))) - (aC.size : Int))) < 0 then (some (-1)) else (some (wrap64 ((wrap64 (a1 - (aB.size : Int))) - (aC.size : Int)))))
set_option maxHeartbeats 8000000 in
set_option maxRecDepth 100000 in
theorem laws_szFile.calls (aA : Int) (aB : ByteArray) (aC : ByteArray) (a1 : Int) (r : Int) (w : World) (h : laws_szFile.f aA aB aC a1 = some r) :
 Calls Try.prog 80 #[.agg #[.int .i64 aA, .string aB, .string aC], .int .i64 a1] w fun e w' => e = .returned (.int .i64 r) ∧ Below w.heap.size w w' := by
 have gG := Try.underlying108
 have HB := aM (Below.refl w.heap.size w)
 have H : (if (wrap64 (a1 - (aB.size : Int))) < 0 then (some (-1)) else (if (wrap64 ((wrap64 (a1 - (aB.size : Int))) - (aC.size : Int))) < 0 then (some (-1)) else (some (wrap64 ((wrap64 (a1 - (aB.size : Int))) - (aC.size : Int)))))) = some r := h
 clear h
 by_cases c3 : (wrap64 (a1 - (aB.size : Int))) < 0
 ·rw [if_pos c3] at H; have cN : decide ((wrap64 (a1 - (aB.size : Int))) < 0) = true := decide_eq_true c3; clear c3; obtain rfl := Option.some.inj H; go_enter Try.func80, Try.ntmps80
  go_wp2_with (first | ((with_reducible refine gD 2 rfl ?_); refine boxE (N := 2) rfl (cs := #[.int .i64 aA, .string aB, .string aC]) (t := 108) ?_; intro eS hg w4 hbox hb; have aZ := aM (hbox); have eT := aM (xge hg); have eU := aM (xge hg); replace HB := xbs hb; clear hb hbox hg; obtain ⟨nE, nF, nG, nH, nI, nJ⟩ := xf3 (w := w4) aZ))
  go_ret
  exact ⟨xerr, xbg⟩
 ·rw [if_neg c3] at H; have cN : decide ((wrap64 (a1 - (aB.size : Int))) < 0) = false := decide_eq_false c3; clear c3; by_cases c6 : (wrap64 ((wrap64 (a1 - (aB.size : Int))) - (aC.size : Int))) < 0
  ·rw [if_pos c6] at H; have nK : decide ((wrap64 ((wrap64 (a1 - (aB.size : Int))) - (aC.size : Int))) < 0) = true := decide_eq_true c6; clear c6; obtain rfl := Option.some.inj H; go_enter Try.func80, Try.ntmps80
   go_wp2_with (first | ((with_reducible refine gD 2 rfl ?_); refine boxE (N := 2) rfl (cs := #[.int .i64 aA, .string aB, .string aC]) (t := 108) ?_; intro eS hg w7 hbox hb; have aZ := aM (hbox); have eT := aM (xge hg); have eU := aM (xge hg); replace HB := xbs hb; clear hb hbox hg; obtain ⟨nL, nM, nN, nO, nP, nQ⟩ := xf3 (w := w7) aZ))
   go_ret
   exact ⟨xerr, xbg⟩
  ·rw [if_neg c6] at H; have nK : decide ((wrap64 ((wrap64 (a1 - (aB.size : Int))) - (aC.size : Int))) < 0) = false := decide_eq_false c6; clear c6; obtain rfl := Option.some.inj H; go_enter Try.func80, Try.ntmps80
   go_wp2_with (first | ((with_reducible refine gD 2 rfl ?_); refine boxE (N := 2) rfl (cs := #[.int .i64 aA, .string aB, .string aC]) (t := 108) ?_; intro eS hg w9 hbox hb; have aZ := aM (hbox); have eT := aM (xge hg); have eU := aM (xge hg); replace HB := xbs hb; clear hb hbox hg; obtain ⟨bI, bJ, bK, bL, bM, bN⟩ := xf3 (w := w9) aZ))
   go_ret
   exact ⟨xerr, xbg⟩

/-! ### laws_szFileS: function 55 -/
def laws_szFileS.l0 : Nat → List (S108) → Int → Int → Option (Int)
 | 0, _, _, _ => none
 | k + 1, x0, x1, x5 => if x5 < (x0.length : Int) then (if 0 ≤ x5 then ((laws_szFile.f ((rd_T108 x0 x5).f0) ((rd_T108 x0 x5).f1) ((rd_T108 x0 x5).f2) x1).bind fun aU => (if aU < 0 then (some (-1)) else (laws_szFileS.l0 k x0 aU (wrap64 (x5 + 1))))) else (none)) else (some x1)
def laws_szFileS.f (k : Nat) (l0 : List (S108)) (a1 : Int) : Option (Int) := if (wrap64 (a1 - (l0.length : Int))) < 0 then (some (-1)) else (laws_szFileS.l0 k l0 (wrap64 (a1 - (l0.length : Int))) 0)
theorem u3_mq0 {p : Prop} (h : p := by repeat' first | (with_reducible first | exact fB _ _ _ | exact LeO.refl _ | exact LeO.none _ | refine LeO.ite ?_ ?_ | refine LeO.bind ?_ (fun _ => ?_)) | exact fB _ _ _ | exact LeO.none _ | refine LeO.ite ?_ ?_ | refine LeO.bind ?_ (fun _ => ?_)) : p := h
set_option maxRecDepth 100000 in
theorem laws_szFileS.mono_l : ∀ k, (∀ y0 y1 y2, LeO (laws_szFileS.l0 k y0 y1 y2) (laws_szFileS.l0 (k + 1) y0 y1 y2))
 | 0 => fun _ _ _ r h => by simp [laws_szFileS.l0] at h
 | k + 1 => by
  have fB := laws_szFileS.mono_l k
  ·intro y0 y1 y2; unfold laws_szFileS.l0; exact u3_mq0
theorem laws_szFileS.mono : ∀ a0 a1 k, LeO (laws_szFileS.f k a0 a1) (laws_szFileS.f (k + 1) a0 a1) := by
 intro a0 a1 k
 have fB := laws_szFileS.mono_l k
 unfold laws_szFileS.f
 exact u3_mq0
set_option maxHeartbeats 8000000 in
set_option maxRecDepth 100000 in
theorem laws_szFileS.calls (k : Nat) (A0 : Option Addr) (c0 : Nat) (l0 : List (S108)) (a1 : Int) (r : Int) (w : World) (oK : Kd.C k108 w A0 l0.length l0) (oL : l0.length ≤ c0) (h : laws_szFileS.f k l0 a1 = some r) :
 Calls Try.prog 55 #[.slice A0 l0.length c0, .int .i64 a1] w fun e w' => e = .returned (.int .i64 r) ∧ Below w.heap.size w w' := by
 have gG := Try.underlying108
 have oM := aM oK
 have pV := aM oL
 clear oK oL
 have HB := aM (Below.refl w.heap.size w)
 have H : (if (wrap64 (a1 - (l0.length : Int))) < 0 then (some (-1)) else (laws_szFileS.l0 k l0 (wrap64 (a1 - (l0.length : Int))) 0)) = some r := h
 clear h
 by_cases c3 : (wrap64 (a1 - (l0.length : Int))) < 0
 ·rw [if_pos c3] at H; have cN : decide ((wrap64 (a1 - (l0.length : Int))) < 0) = true := decide_eq_true c3; clear c3; obtain rfl := Option.some.inj H; go_enter Try.func55, Try.ntmps55
  go_wp2; go_ret
  exact ⟨xerr, xbel⟩
 ·rw [if_neg c3] at H; have cN : decide ((wrap64 (a1 - (l0.length : Int))) < 0) = false := decide_eq_false c3; clear c3; have H' := aM H; clear H; go_enter Try.func55, Try.ntmps55
  go_wp2; go_loopg [1, 5] k (fun kq v1 v5 w' => ∃ (bB : Int) (aI : Int), v1 = .int .i64 bB ∧ v5 = .int .i64 aI ∧ Aside0 (laws_szFileS.l0 kq l0 bB aI = some r) ∧ Aside0 (kq ≤ k) ∧ Aside0 (Below w.heap.size w w'))
  case atStart => exact ⟨(wrap64 (a1 - (l0.length : Int))), (0), u3_0, u3_0, H', ⟨Nat.le_refl _⟩, ⟨xbel⟩⟩
  case round =>
   clear H'; try clear p2
   try clear c3
   try clear cN
   obtain ⟨bB, aI, rfl, rfl, HA, HK1, HB⟩ := hrel; cases gk with
   | zero => exact absurd HA.out (by simp [laws_szFileS.l0])
   | succ k1 =>
    have H := HA.out; clear HA; simp only [laws_szFileS.l0] at H; by_cases c4 : aI < (l0.length : Int)
    ·rw [if_pos c4] at H; have cB : decide (aI < (l0.length : Int)) = true := decide_eq_true c4; clear c4; by_cases c5 : 0 ≤ aI
     ·rw [if_pos c5] at H; have pM : decide (0 ≤ aI) = true := decide_eq_true c5; clear c5; replace H := oB H; obtain ⟨aU, oN, H⟩ := H; (try dsimp only at H); have A6 := aM oN; clear oN
      by_cases c7 : aU < 0
      ·rw [if_pos c7] at H; have nR : decide (aU < 0) = true := decide_eq_true c7; clear c7; obtain rfl := Option.some.inj H; have p102 : 0 ≤ (aI : Int) := oda; have q102 : aI < (l0.length : Int) := oda; obtain ⟨gH, fC, aN, aO, aP⟩ := at_T108 oM.out aI p102 q102; cases fC
       replace aN := xce HB aN; replace aO := xce HB aO; replace aP := xce HB aP; replace p102 := eq_true p102; replace q102 := eq_true q102; go_wp2_with (first | ((with_reducible refine gC 80 rfl ?_); refine goesLY (some 23) rfl Try.func80 #[.agg #[.int .i64 ((rd_T108 l0 aI).f0), .string ((rd_T108 l0 aI).f1), .string ((rd_T108 l0 aI).f2)], .int .i64 bB] ?_; (with_reducible refine (laws_szFile.calls ((rd_T108 l0 aI).f0) ((rd_T108 l0 aI).f1) ((rd_T108 l0 aI).f2) bB aU _ A6.out).mono ?_); rintro e w8 ⟨rfl, hb⟩; refine ⟨_, rfl, ?_⟩; replace HB := xbs hb; (try clear hb)))
       go_ret
       exact ⟨xerr, xbel⟩
      ·rw [if_neg c7] at H; have nR : decide (aU < 0) = false := decide_eq_false c7; clear c7; have H' := aM H; clear H; have p102 : 0 ≤ (aI : Int) := oda; have q102 : aI < (l0.length : Int) := oda; obtain ⟨gH, fC, aN, aO, aP⟩ := at_T108 oM.out aI p102 q102; cases fC
       replace aN := xce HB aN; replace aO := xce HB aO; replace aP := xce HB aP; replace p102 := eq_true p102; replace q102 := eq_true q102; go_wp2_with (first | ((with_reducible refine gC 80 rfl ?_); refine goesLY (some 23) rfl Try.func80 #[.agg #[.int .i64 ((rd_T108 l0 aI).f0), .string ((rd_T108 l0 aI).f1), .string ((rd_T108 l0 aI).f2)], .int .i64 bB] ?_; (with_reducible refine (laws_szFile.calls ((rd_T108 l0 aI).f0) ((rd_T108 l0 aI).f1) ((rd_T108 l0 aI).f2) bB aU _ A6.out).mono ?_); rintro e w9 ⟨rfl, hb⟩; refine ⟨_, rfl, ?_⟩; replace HB := xbs hb; (try clear hb)))
       go_roundg k1
       case measure => have := HK1.out; omega
       case rel => exact ⟨(aU), (wrap64 (aI + 1)), u3_0, u3_0, H', ⟨by have := HK1.out; omega⟩, ⟨xbel⟩⟩
     ·rw [if_neg c5] at H; exact absurd H (by simp)
    ·rw [if_neg c4] at H; have cB : decide (aI < (l0.length : Int)) = false := decide_eq_false c4; clear c4; obtain rfl := Option.some.inj H; go_wp2; go_ret
     exact ⟨xerr, xbel⟩

/-! ### laws_szDisk: function 20 -/
def laws_szDisk.f (k : Nat) (aA : Int) (aQ : List (S108)) (a1 : Int) : Option (Int) := (laws_szFileS.f k aQ a1).bind fun aS => (if aS < 0 then (some (-1)) else (some aS))
theorem u3_mq1 {p : Prop} (h : p := by repeat' first | (with_reducible first | exact laws_szFileS.mono _ _ _ | exact LeO.refl _ | exact LeO.none _ | refine LeO.ite ?_ ?_ | refine LeO.bind ?_ (fun _ => ?_)) | exact laws_szFileS.mono _ _ _ | exact LeO.none _ | refine LeO.ite ?_ ?_ | refine LeO.bind ?_ (fun _ => ?_)) : p := h
theorem laws_szDisk.mono : ∀ a0 a1 a2 k, LeO (laws_szDisk.f k a0 a1 a2) (laws_szDisk.f (k + 1) a0 a1 a2) := by
 intro a0 a1 a2 k
 unfold laws_szDisk.f
 exact u3_mq1
set_option maxHeartbeats 8000000 in
set_option maxRecDepth 100000 in
theorem laws_szDisk.calls (k : Nat) (aA : Int) (bR : Option Addr) (bU : Nat) (aQ : List (S108)) (a1 : Int) (r : Int) (w : World) (eV : Kd.C k108 w bR aQ.length aQ) (eW : aQ.length ≤ bU) (h : laws_szDisk.f k aA aQ a1 = some r) :
 Calls Try.prog 20 #[.agg #[.int .i64 aA, .slice bR aQ.length bU], .int .i64 a1] w fun e w' => e = .returned (.int .i64 r) ∧ Below w.heap.size w w' := by
 have pN := Try.underlying50
 have eX := aM eV
 have eY := aM eW
 clear eV eW
 have HB := aM (Below.refl w.heap.size w)
 have H : ((laws_szFileS.f k aQ a1).bind fun aS => (if aS < 0 then (some (-1)) else (some aS))) = some r := h
 clear h
 replace H := oB H
 obtain ⟨aS, oO, H⟩ := H
 (try dsimp only at H)
 have A3 := aM oO
 clear oO
 by_cases c4 : aS < 0
 ·rw [if_pos c4] at H; have cB : decide (aS < 0) = true := decide_eq_true c4; clear c4; obtain rfl := Option.some.inj H; go_enter Try.func20, Try.ntmps20
  go_wp2_with (first | ((with_reducible refine gD 2 rfl ?_); refine boxE (N := 2) rfl (cs := #[.int .i64 aA, .slice bR aQ.length bU]) (t := 50) ?_; intro gI hg w5 hbox hb; have aT := aM (hbox); have gJ := aM (xge hg); have gK := aM (xge hg); replace HB := xbs hb; clear hb hbox hg; obtain ⟨fD, fE, fF, fG⟩ := xf2 (w := w5) aT) | ((with_reducible refine gC 55 rfl ?_); refine goesLY (some 8) rfl Try.func55 #[.slice bR aQ.length bU, .int .i64 a1] ?_; (with_reducible refine (laws_szFileS.calls k _ _ aQ a1 aS _ ?side1 ?side2 A3.out).mono ?_); (case side1 => exact xcb eX); (case side2 => exact eY.out); rintro e w7 ⟨rfl, hb⟩; refine ⟨_, rfl, ?_⟩; replace aT := xbb aT hb; replace HB := xbs hb; (try clear hb)))
  go_ret
  exact ⟨xerr, xbg⟩
 ·rw [if_neg c4] at H; have cB : decide (aS < 0) = false := decide_eq_false c4; clear c4; obtain rfl := Option.some.inj H; go_enter Try.func20, Try.ntmps20
  go_wp2_with (first | ((with_reducible refine gD 2 rfl ?_); refine boxE (N := 2) rfl (cs := #[.int .i64 aA, .slice bR aQ.length bU]) (t := 50) ?_; intro gI hg w8 hbox hb; have aT := aM (hbox); have gJ := aM (xge hg); have gK := aM (xge hg); replace HB := xbs hb; clear hb hbox hg; obtain ⟨bC, bE, bG, bH⟩ := xf2 (w := w8) aT) | ((with_reducible refine gC 55 rfl ?_); refine goesLY (some 8) rfl Try.func55 #[.slice bR aQ.length bU, .int .i64 a1] ?_; (with_reducible refine (laws_szFileS.calls k _ _ aQ a1 aS _ ?side1 ?side2 A3.out).mono ?_); (case side1 => exact xcb eX); (case side2 => exact eY.out); rintro e pW ⟨rfl, hb⟩; refine ⟨_, rfl, ?_⟩; replace aT := xbb aT hb; replace HB := xbs hb; (try clear hb)))
  go_ret
  exact ⟨xerr, xbg⟩

/-! ### spec_l1In: function 44 -/
def spec_l1In.f (a0 : Int) (a1 : Int) (a2 : Int) : Option (Bool) := if a0 ≥ a1 then (some (decide (a0 ≤ a2))) else (some false)
set_option maxHeartbeats 8000000 in
set_option maxRecDepth 100000 in
theorem spec_l1In.calls (a0 : Int) (a1 : Int) (a2 : Int) (r : Bool) (w : World) (h : spec_l1In.f a0 a1 a2 = some r) :
 Calls Try.prog 44 #[.int .i64 a0, .int .i64 a1, .int .i64 a2] w fun e w' => e = .returned (.bool r) ∧ Drawn0 w w' := by
 have H : (if a0 ≥ a1 then (some (decide (a0 ≤ a2))) else (some false)) = some r := h
 clear h
 by_cases c4 : a0 ≥ a1
 ·rw [if_pos c4] at H; have cB : decide (a1 ≤ a0) = true := decide_eq_true c4; clear c4; obtain rfl := Option.some.inj H; go_enter Try.func44, Try.ntmps44
  go_wp2; go_ret
  exact ⟨u3_0, u3_3⟩
 ·rw [if_neg c4] at H; have cB : decide (a1 ≤ a0) = false := decide_eq_false c4; clear c4; obtain rfl := Option.some.inj H; go_enter Try.func44, Try.ntmps44
  go_wp2; go_ret
  exact ⟨u3_0, u3_3⟩

/-! ### spec_l1Whole: function 43 -/
def spec_l1Whole.f (a0 : Int) : Option (Bool) := (spec_l1In.f a0 0 1000000000).bind fun cC => (some cC)
set_option maxHeartbeats 8000000 in
set_option maxRecDepth 100000 in
theorem spec_l1Whole.calls (a0 : Int) (r : Bool) (w : World) (h : spec_l1Whole.f a0 = some r) :
 Calls Try.prog 43 #[.int .i64 a0] w fun e w' => e = .returned (.bool r) ∧ Drawn0 w w' := by
 have H : ((spec_l1In.f a0 0 1000000000).bind fun cC => (some cC)) = some r := h
 clear h
 replace H := oB H
 obtain ⟨cC, gL, H⟩ := H
 (try dsimp only at H)
 have A2 := aM gL
 clear gL
 obtain rfl := Option.some.inj H
 go_enter Try.func43, Try.ntmps43
 go_wp2_with (first | ((with_reducible refine gC 44 rfl ?_); refine goesLY (some 4) rfl Try.func44 #[.int .i64 a0, .int .i64 0, .int .i64 1000000000] ?_; (with_reducible refine (spec_l1In.calls a0 0 1000000000 cC _ A2.out).mono ?_); rintro e w' ⟨rfl, ⟨nd, rfl⟩⟩; refine ⟨_, rfl, ?_⟩))
 go_ret
 exact ⟨u3_0, u3_3⟩

/-! ### spec_CmdOk: function 74 -/
def spec_CmdOk.j0 : Nat → Bool → Int → Int → Int → Int → ByteArray → Int → Int → Int → Int → ByteArray → Option (Bool)
 | 0, _, _, _, _, _, _, _, _, _, _, _ => none
 | k + 1, pO, aR, iE, aV, aW, aX, bO, iF, cO, bP, bQ => if pO = true then (some false) else (if aR = 2 then ((spec_l1In.f aW 0 1000).bind fun fH => (if fH = true then (if (aX.size : Int) = 32 then (some (aV == 0)) else (some false)) else (some false))) else (if aR = 3 then ((spec_l1In.f aV 0 4).bind fun fI => (if fI = true then (some (aR == bO && (aW == bP && (aX.toList == bQ.toList)))) else (some false))) else (some (aR == bO && (aV == cO && (aW == bP && (aX.toList == bQ.toList)))))))
def spec_CmdOk.f (k : Nat) (aA : Int) (aB : Int) (aC : Int) (aG : Int) (aH : ByteArray) : Option (Bool) := if aA = 1 then (some (aB == 0 && (aC == 0 && (aG == 0 && (aH.toList == ([] : List UInt8)))))) else ((spec_l1In.f aA 2 5).bind fun cD => (if cD = true then ((spec_l1In.f aB 1 1000).bind fun bV => (spec_CmdOk.j0 k (!bV) aA aB aC aG aH aA 0 0 0 (⟨#[]⟩ : ByteArray))) else (spec_CmdOk.j0 k true aA aB aC aG aH aA 0 0 0 (⟨#[]⟩ : ByteArray))))
theorem u3_mq2 {p : Prop} (h : p := by repeat' first | (with_reducible first | exact fB _ _ _ _ _ _ _ _ _ _ _ | exact LeO.refl _ | exact LeO.none _ | refine LeO.ite ?_ ?_ | refine LeO.bind ?_ (fun _ => ?_)) | exact fB _ _ _ _ _ _ _ _ _ _ _ | exact LeO.none _ | refine LeO.ite ?_ ?_ | refine LeO.bind ?_ (fun _ => ?_)) : p := h
set_option maxRecDepth 100000 in
theorem spec_CmdOk.mono_l : ∀ k, (∀ y0 y1 y2 y3 y4 y5 y6 y7 y8 y9 nS, LeO (spec_CmdOk.j0 k y0 y1 y2 y3 y4 y5 y6 y7 y8 y9 nS) (spec_CmdOk.j0 (k + 1) y0 y1 y2 y3 y4 y5 y6 y7 y8 y9 nS))
 | 0 => fun _ _ _ _ _ _ _ _ _ _ _ r h => by simp [spec_CmdOk.j0] at h
 | k + 1 => by
  have fB := spec_CmdOk.mono_l k
  ·intro y0 y1 y2 y3 y4 y5 y6 y7 y8 y9 nS; unfold spec_CmdOk.j0; exact u3_mq2
theorem spec_CmdOk.mono : ∀ a0 a1 a2 a3 a4 k, LeO (spec_CmdOk.f k a0 a1 a2 a3 a4) (spec_CmdOk.f (k + 1) a0 a1 a2 a3 a4) := by
 intro a0 a1 a2 a3 a4 k
 have fB := spec_CmdOk.mono_l k
 unfold spec_CmdOk.f
 exact u3_mq2
set_option maxHeartbeats 8000000 in
set_option maxRecDepth 100000 in
theorem spec_CmdOk.calls (k : Nat) (aA : Int) (aB : Int) (aC : Int) (aG : Int) (aH : ByteArray) (r : Bool) (w : World) (h : spec_CmdOk.f k aA aB aC aG aH = some r) :
 Calls Try.prog 74 #[.agg #[.int .i64 aA, .int .i64 aB, .int .i64 aC, .int .i64 aG, .string aH]] w fun e w' => e = .returned (.bool r) ∧ Below w.heap.size w w' := by
 have cA := Try.underlying34
 have HB := aM (Below.refl w.heap.size w)
 have H : (if aA = 1 then (some (aB == 0 && (aC == 0 && (aG == 0 && (aH.toList == ([] : List UInt8)))))) else ((spec_l1In.f aA 2 5).bind fun cD => (if cD = true then ((spec_l1In.f aB 1 1000).bind fun bV => (spec_CmdOk.j0 k (!bV) aA aB aC aG aH aA 0 0 0 (⟨#[]⟩ : ByteArray))) else (spec_CmdOk.j0 k true aA aB aC aG aH aA 0 0 0 (⟨#[]⟩ : ByteArray))))) = some r := h
 clear h
 by_cases c2 : aA = 1
 ·rw [if_pos c2] at H; obtain ⟨gM, gN⟩ := bT c2; clear c2; obtain rfl := Option.some.inj H; go_enter Try.func74, Try.ntmps74
  go_wp2_with (first | ((with_reducible refine gD 1 rfl ?_); (try (refine gate_guard (by rfl) ?_; dsimp only)); refine boxE (N := 1) rfl (cs := #[.int .i64 aA, .int .i64 aB, .int .i64 aC, .int .i64 aG, .string aH]) (t := 34) ?_; intro eZ hg w3 hbox hb; have aF := aM (hbox); have gO := aM (xge hg); have gP := aM (xge hg); replace HB := xbs hb; clear hb hbox hg; obtain ⟨fJ, fK, fL, fM, fN, fO, fP, fQ, fR, fS⟩ := xf5 (w := w3) aF) | ((with_reducible refine gD 3 rfl ?_); (try (refine gate_guard (by rfl) ?_; dsimp only)); refine boxE (N := 3) rfl (cs := #[.int .i64 0, .int .i64 0, .int .i64 0, .int .i64 0, .string (⟨#[]⟩ : ByteArray)]) (t := 34) ?_; intro aJ hg w5 hbox hb; have gQ := aM (xge hg); have gR := aM (xge hg); replace HB := xbs hb; have aD := nblt aF hg; have aE := nbgt aF hg; replace aF := xbb aF hb; have aK := aM (hbox); clear hb hbox hg; have pP := aE.out; have pQ := aD.out; obtain ⟨fT, fU, fV, fW, fX, fY, fZ, gA, gB, gE⟩ := xf5 (w := w5) aK) | ((with_reducible refine gate_store (t := 34) (p := 3) rfl ?_); refine store_event (t := 34) (p := 3) (v := ?vo_w8) (w1 := (((((w5.setCell ⟨aJ, 0, none⟩ (.int .i64 aA)).setCell ⟨aJ, 1, none⟩ (.int .i64 0)).setCell ⟨aJ, 2, none⟩ (.int .i64 0)).setCell ⟨aJ, 3, none⟩ (.int .i64 0)).setCell ⟨aJ, 4, none⟩ (.string (⟨#[]⟩ : ByteArray)))) ?hg ?ho ?hn ?hr ?_; (case ho | hg | hn => rfl); (case hr => first | (go_simp; done) | (go_simp; rfl)); intro w8 hw; replace aF := xwc hw aF; replace aK : Aside0 (w8.heap[aJ]? = some (.cells #[.int .i64 aA, .int .i64 0, .int .i64 0, .int .i64 0, .string (⟨#[]⟩ : ByteArray)] 34 (0, 0))) := xwp hw; replace HB := xbw hw HB; clear hw; obtain ⟨bC, bE, cE, cF, cG, bG, bH, cH, cI, cJ⟩ := xf5 (w := w8) aF; obtain ⟨bI, bJ, bK, cP, cQ, bL, bM, bN, cR, cS⟩ := xf5 (w := w8) aK))
  go_ret
  exact ⟨xerr, xbg⟩
 ·rw [if_neg c2] at H; obtain ⟨gM, gN⟩ := bF c2; have gF := aM H; clear H; go_enter Try.func74, Try.ntmps74
  go_upto_region 4 with (first | ((with_reducible refine gD 1 rfl ?_); (try (refine gate_guard (by rfl) ?_; dsimp only)); refine boxE (N := 1) rfl (cs := #[.int .i64 aA, .int .i64 aB, .int .i64 aC, .int .i64 aG, .string aH]) (t := 34) ?_; intro eZ hg pR hbox hb; have aF := aM (hbox); have gO := aM (xge hg); have gP := aM (xge hg); replace HB := xbs hb; clear hb hbox hg; obtain ⟨cT, cU, cV, cW, cX, cY, cZ, dA, dB, dC⟩ := xf5 (w := pR) aF) | ((with_reducible refine gD 3 rfl ?_); (try (refine gate_guard (by rfl) ?_; dsimp only)); refine boxE (N := 3) rfl (cs := #[.int .i64 0, .int .i64 0, .int .i64 0, .int .i64 0, .string (⟨#[]⟩ : ByteArray)]) (t := 34) ?_; intro aJ hg oP hbox hb; have gQ := aM (xge hg); have gR := aM (xge hg); replace HB := xbs hb; have aD := nblt aF hg; have aE := nbgt aF hg; replace aF := xbb aF hb; have aK := aM (hbox); clear hb hbox hg; have oQ := aE.out; have oR := aD.out; obtain ⟨dD, dE, dF, dG, dH, dI, dJ, dK, dL, dM⟩ := xf5 (w := oP) aK) | ((with_reducible refine gate_store (t := 34) (p := 3) rfl ?_); refine store_event (t := 34) (p := 3) (v := ?vo_w17) (w1 := (((((oP.setCell ⟨aJ, 0, none⟩ (.int .i64 aA)).setCell ⟨aJ, 1, none⟩ (.int .i64 0)).setCell ⟨aJ, 2, none⟩ (.int .i64 0)).setCell ⟨aJ, 3, none⟩ (.int .i64 0)).setCell ⟨aJ, 4, none⟩ (.string (⟨#[]⟩ : ByteArray)))) ?hg ?ho ?hn ?hr ?_; (case ho | hg | hn => rfl); (case hr => first | (go_simp; done) | (go_simp; rfl)); intro iG hw; replace aF := xwc hw aF; replace aK : Aside0 (iG.heap[aJ]? = some (.cells #[.int .i64 aA, .int .i64 0, .int .i64 0, .int .i64 0, .string (⟨#[]⟩ : ByteArray)] 34 (0, 0))) := xwp hw; replace HB := xbw hw HB; clear hw; obtain ⟨dN, dO, dP, dQ, dR, dS, dU, dV, dW, dX⟩ := xf5 (w := iG) aF))
  (try simp only [Act.put, List.setIfInBounds_toArray, List.set_cons_zero, List.set_cons_succ]); go_cut [22] (fun pS wc => ∃ (kq : Nat) (aY : Bool), pS = .bool aY ∧ Aside0 (spec_CmdOk.j0 kq aY aA aB aC aG aH aA 0 0 0 (⟨#[]⟩ : ByteArray) = some r) ∧ Aside0 (kq ≤ k) ∧ Aside0 (wc.heap[eZ]? = some (.cells #[.int .i64 aA, .int .i64 aB, .int .i64 aC, .int .i64 aG, .string aH] 34 (0, 0))) ∧ Aside0 (wc.heap[aJ]? = some (.cells #[.int .i64 aA, .int .i64 0, .int .i64 0, .int .i64 0, .string (⟨#[]⟩ : ByteArray)] 34 (0, 0))) ∧ Aside0 (Below w.heap.size w wc))
  case first =>
   have H := gF.out; clear gF; replace H := oB H; obtain ⟨cD, gS, H⟩ := H; (try dsimp only at H); have oT := aM gS; clear gS
   by_cases gT : cD = true
   ·subst gT; replace H := iT H; replace H := oB H; obtain ⟨bV, gU, H⟩ := H; (try dsimp only at H); have pT := aM gU; clear gU
    have H' := aM H; clear H; have oU := aD.out; have oV := aE.out; obtain ⟨dY, dZ, eA, eB, eC, eD, eE, eF, eG, eH⟩ := xf5 (w := iG) aF; go_wp2_with (first | ((with_reducible refine gC 44 rfl ?_); refine goesLY (some 15) rfl Try.func44 #[.int .i64 aA, .int .i64 2, .int .i64 5] ?_; (with_reducible refine (spec_l1In.calls aA 2 5 true _ oT.out).mono ?_); rintro e w' ⟨rfl, ⟨nd, rfl⟩⟩; refine ⟨_, rfl, ?_⟩) | (go_at_call 44; (with_reducible refine (spec_l1In.calls aB 1 1000 bV _ pT.out).mono ?_); rintro e w' ⟨rfl, ⟨nd, rfl⟩⟩))
    go_meet
    case rel => exact ⟨_, (!bV), u3_0, H', ⟨by first | omega | exact Nat.le_refl _⟩, ⟨xblk⟩, ⟨xblk⟩, ⟨xbg⟩⟩
   ·replace gT := Bool.eq_false_iff.mpr gT; subst gT; replace H := iN H; have H' := aM H; clear H; have oW := aD.out; have oX := aE.out; obtain ⟨eI, eJ, eK, eL, eM, eN, eO, eP, eQ, eR⟩ := xf5 (w := iG) aF; go_wp2_with (first | ((with_reducible refine gC 44 rfl ?_); refine goesLY (some 15) rfl Try.func44 #[.int .i64 aA, .int .i64 2, .int .i64 5] ?_; (with_reducible refine (spec_l1In.calls aA 2 5 false _ oT.out).mono ?_); rintro e w' ⟨rfl, ⟨nd, rfl⟩⟩; refine ⟨_, rfl, ?_⟩))
    go_meet
    case rel => exact ⟨_, (true), u3_0, H', ⟨by first | omega | exact Nat.le_refl _⟩, ⟨xblk⟩, ⟨xblk⟩, ⟨xbg⟩⟩
  case rest =>
   clear gF; try clear c1
   try clear c2
   try clear gM
   try clear gN
   try clear p2
   try clear c4
   try clear c6
   try clear c7
   try clear pX
   try clear gT
   try clear pY
   try clear pZ
   try clear bI bJ bK cP cQ
   try clear cT cU cV cW cX
   try clear dD dE dF dG dH
   try clear dN dO dP dQ dR
   try clear dY dZ eA eB eC
   try clear eI eJ eK eL eM
   try clear fJ fK fL fM fN
   try clear fT fU fV fW fX
   try clear bC bE cE cF cG
   try clear bL bM bN cR cS
   try clear cY cZ dA dB dC
   try clear dI dJ dK dL dM
   try clear dS dU dV dW dX
   try clear eD eE eF eG eH
   try clear eN eO eP eQ eR
   try clear fO fP fQ fR fS
   try clear fY fZ gA gB gE
   try clear bG bH cH cI cJ
   obtain ⟨kq, aY, rfl, HA, HJ10, aF, aK, HB⟩ := hcut; cases kq with
   | zero => exact absurd HA.out (by simp [spec_CmdOk.j0])
   | succ pU =>
    have H := HA.out; clear HA; simp only [spec_CmdOk.j0] at H; by_cases iH : aY = true
    ·subst iH; replace H := iT H; obtain rfl := Option.some.inj H; go_wp2; go_ret
     exact ⟨xerr, xbg⟩
    ·replace iH := Bool.eq_false_iff.mpr iH; subst iH; replace H := iN H; by_cases gV : aA = 2
     ·rw [if_pos gV] at H; obtain ⟨gW, gX⟩ := bT gV; clear gV; replace H := oB H; obtain ⟨fH, gY, H⟩ := H; (try dsimp only at H); have nT := aM gY; clear gY
      by_cases iI : fH = true
      ·subst iI; replace H := iT H; by_cases gZ : (aH.size : Int) = 32
       ·rw [if_pos gZ] at H; obtain ⟨hJ, hU⟩ := bT gZ; clear gZ; obtain rfl := Option.some.inj H; have oY := aD.out; have oZ := aE.out; obtain ⟨iJ, iK, iL, iM, iO, iP, iQ, iR, iS, iU⟩ := xf5 (w := wc) aF; obtain ⟨iV, iW, iX, iY, iZ, jA, jB, jC, jD, jE⟩ := xf5 (w := wc) aK; go_wp2_with (first | ((with_reducible refine gC 44 rfl ?_); refine goesLY (some 32) rfl Try.func44 #[.int .i64 aG, .int .i64 0, .int .i64 1000] ?_; (with_reducible refine (spec_l1In.calls aG 0 1000 true _ nT.out).mono ?_); rintro e w' ⟨rfl, ⟨nd, rfl⟩⟩; refine ⟨_, rfl, ?_⟩))
        go_ret
        exact ⟨xerr, xbg⟩
       ·rw [if_neg gZ] at H; obtain ⟨hJ, hU⟩ := bF gZ; obtain rfl := Option.some.inj H; have pA := aD.out; have pB := aE.out; obtain ⟨jF, jG, jH, jI, jJ, jK, jL, jM, jN, jO⟩ := xf5 (w := wc) aF; obtain ⟨jP, jQ, jR, jS, jT, jU, jV, jW, jX, jY⟩ := xf5 (w := wc) aK; go_wp2_with (first | ((with_reducible refine gC 44 rfl ?_); refine goesLY (some 32) rfl Try.func44 #[.int .i64 aG, .int .i64 0, .int .i64 1000] ?_; (with_reducible refine (spec_l1In.calls aG 0 1000 true _ nT.out).mono ?_); rintro e w' ⟨rfl, ⟨nd, rfl⟩⟩; refine ⟨_, rfl, ?_⟩))
        go_ret
        exact ⟨xerr, xbg⟩
      ·replace iI := Bool.eq_false_iff.mpr iI; subst iI; replace H := iN H; obtain rfl := Option.some.inj H; have pC := aD.out; have pD := aE.out; obtain ⟨jZ, kA, kB, kC, kE, kF, kG, kH, kI, kJ⟩ := xf5 (w := wc) aF; obtain ⟨kK, kL, kM, kN, kO, kP, kQ, kR, kS, kT⟩ := xf5 (w := wc) aK; go_wp2_with (first | ((with_reducible refine gC 44 rfl ?_); refine goesLY (some 32) rfl Try.func44 #[.int .i64 aG, .int .i64 0, .int .i64 1000] ?_; (with_reducible refine (spec_l1In.calls aG 0 1000 false _ nT.out).mono ?_); rintro e w' ⟨rfl, ⟨nd, rfl⟩⟩; refine ⟨_, rfl, ?_⟩))
       go_ret
       exact ⟨xerr, xbg⟩
     ·rw [if_neg gV] at H; obtain ⟨gW, gX⟩ := bF gV; by_cases hX : aA = 3
      ·rw [if_pos hX] at H; obtain ⟨hY, hZ⟩ := bT hX; clear hX; replace H := oB H; obtain ⟨fI, iA, H⟩ := H; (try dsimp only at H); have pE := aM iA; clear iA
       by_cases kU : fI = true
       ·subst kU; replace H := iT H; obtain rfl := Option.some.inj H; have pF := aD.out; have pG := aE.out; obtain ⟨kV, kW, kX, kY, kZ, lA, lB, lC, lE, lF⟩ := xf5 (w := wc) aF; obtain ⟨lG, lH, lI, lJ, lK, lL, lM, lN, lO, lP⟩ := xf5 (w := wc) aK; go_wp2_with (first | ((with_reducible refine gC 44 rfl ?_); refine goesLY (some 51) rfl Try.func44 #[.int .i64 aC, .int .i64 0, .int .i64 4] ?_; (with_reducible refine (spec_l1In.calls aC 0 4 true _ pE.out).mono ?_); rintro e w' ⟨rfl, ⟨nd, rfl⟩⟩; refine ⟨_, rfl, ?_⟩))
        go_ret
        exact ⟨xerr, xbg⟩
       ·replace kU := Bool.eq_false_iff.mpr kU; subst kU; replace H := iN H; obtain rfl := Option.some.inj H; have pH := aD.out; have pI := aE.out; obtain ⟨lQ, lR, lS, lT, lU, lV, lW, lX, lY, lZ⟩ := xf5 (w := wc) aF; obtain ⟨mA, mB, mC, mD, mE, mF, mG, mH, mI, mJ⟩ := xf5 (w := wc) aK; go_wp2_with (first | ((with_reducible refine gC 44 rfl ?_); refine goesLY (some 51) rfl Try.func44 #[.int .i64 aC, .int .i64 0, .int .i64 4] ?_; (with_reducible refine (spec_l1In.calls aC 0 4 false _ pE.out).mono ?_); rintro e w' ⟨rfl, ⟨nd, rfl⟩⟩; refine ⟨_, rfl, ?_⟩))
        go_ret
        exact ⟨xerr, xbg⟩
      ·rw [if_neg hX] at H; obtain ⟨hY, hZ⟩ := bF hX; obtain rfl := Option.some.inj H; have pJ := aD.out; have pK := aE.out; obtain ⟨mK, mL, mM, mN, mO, mP, mQ, mR, mS, mT⟩ := xf5 (w := wc) aF; obtain ⟨mU, mV, mW, mX, mY, mZ, nA, nB, nC, nD⟩ := xf5 (w := wc) aK; go_wp2; go_ret
       exact ⟨xerr, xbg⟩

/-! ### spec_l6Entry: function 45 -/
def spec_l6Entry.f (k : Nat) (aA : Int) (aB : Int) (aC : Int) (aG : Int) (aH : Int) (aL : ByteArray) : Option (Bool) := (spec_l1In.f aA 1 1000000000).bind fun cK => (if cK = true then ((spec_CmdOk.f k aB aC aG aH aL).bind fun cL => (some cL)) else (some false))
theorem u3_mq3 {p : Prop} (h : p := by repeat' first | (with_reducible first | exact spec_CmdOk.mono _ _ _ _ _ _ | exact LeO.refl _ | exact LeO.none _ | refine LeO.ite ?_ ?_ | refine LeO.bind ?_ (fun _ => ?_)) | exact spec_CmdOk.mono _ _ _ _ _ _ | exact LeO.none _ | refine LeO.ite ?_ ?_ | refine LeO.bind ?_ (fun _ => ?_)) : p := h
theorem spec_l6Entry.mono : ∀ a0 a1 a2 a3 a4 a5 k, LeO (spec_l6Entry.f k a0 a1 a2 a3 a4 a5) (spec_l6Entry.f (k + 1) a0 a1 a2 a3 a4 a5) := by
 intro a0 a1 a2 a3 a4 a5 k
 unfold spec_l6Entry.f
 exact u3_mq3
set_option maxHeartbeats 8000000 in
set_option maxRecDepth 100000 in
theorem spec_l6Entry.calls (k : Nat) (aA : Int) (aB : Int) (aC : Int) (aG : Int) (aH : Int) (aL : ByteArray) (r : Bool) (w : World) (h : spec_l6Entry.f k aA aB aC aG aH aL = some r) :
 Calls Try.prog 45 #[.agg #[.int .i64 aA, .int .i64 aB, .int .i64 aC, .int .i64 aG, .int .i64 aH, .string aL]] w fun e w' => e = .returned (.bool r) ∧ Below w.heap.size w w' := by
 have cM := Try.underlying36
 have cA := Try.underlying34
 have HB := aM (Below.refl w.heap.size w)
 have H : ((spec_l1In.f aA 1 1000000000).bind fun cK => (if cK = true then ((spec_CmdOk.f k aB aC aG aH aL).bind fun cL => (some cL)) else (some false))) = some r := h
 clear h
 replace H := oB H
 obtain ⟨cK, gL, H⟩ := H
 (try dsimp only at H)
 have A2 := aM gL
 clear gL
 by_cases c3 : cK = true
 ·subst c3; replace H := iT H; replace H := oB H; obtain ⟨cL, pL, H⟩ := H; (try dsimp only at H); have A4 := aM pL; clear pL
  obtain rfl := Option.some.inj H; go_enter Try.func45, Try.ntmps45
  go_wp2_with (first | ((with_reducible refine gD 1 rfl ?_); refine boxE (N := 1) rfl (cs := #[.int .i64 aA, .int .i64 aB, .int .i64 aC, .int .i64 aG, .int .i64 aH, .string aL]) (t := 36) ?_; intro iB hg w5 hbox hb; have bA := aM (hbox); have iC := aM (xge hg); have iD := aM (xge hg); replace HB := xbs hb; clear hb hbox hg; obtain ⟨fD, fE, nU, nV, nW, nX, fF, fG, nY, nZ, oA, oC⟩ := xf6 (w := w5) bA) | ((with_reducible refine gC 44 rfl ?_); refine goesLY (some 5) rfl Try.func44 #[.int .i64 aA, .int .i64 1, .int .i64 1000000000] ?_; (with_reducible refine (spec_l1In.calls aA 1 1000000000 true _ A2.out).mono ?_); rintro e w' ⟨rfl, ⟨nd, rfl⟩⟩; refine ⟨_, rfl, ?_⟩) | (go_at_call 74; (with_reducible refine (spec_CmdOk.calls k aB aC aG aH aL cL _ A4.out).mono ?_); rintro e w7 ⟨rfl, hb⟩; replace bA := xbb bA hb; replace HB := xbs hb; (try clear hb)))
  go_ret
  exact ⟨xerr, xbg⟩
 ·replace c3 := Bool.eq_false_iff.mpr c3; subst c3; replace H := iN H; obtain rfl := Option.some.inj H; go_enter Try.func45, Try.ntmps45
  go_wp2_with (first | ((with_reducible refine gD 1 rfl ?_); refine boxE (N := 1) rfl (cs := #[.int .i64 aA, .int .i64 aB, .int .i64 aC, .int .i64 aG, .int .i64 aH, .string aL]) (t := 36) ?_; intro iB hg w8 hbox hb; have bA := aM (hbox); have iC := aM (xge hg); have iD := aM (xge hg); replace HB := xbs hb; clear hb hbox hg; obtain ⟨bC, bE, cE, cF, cG, oD, bG, bH, cH, cI, cJ, oE⟩ := xf6 (w := w8) bA) | ((with_reducible refine gC 44 rfl ?_); refine goesLY (some 5) rfl Try.func44 #[.int .i64 aA, .int .i64 1, .int .i64 1000000000] ?_; (with_reducible refine (spec_l1In.calls aA 1 1000000000 false _ A2.out).mono ?_); rintro e w' ⟨rfl, ⟨nd, rfl⟩⟩; refine ⟨_, rfl, ?_⟩))
  go_ret
  exact ⟨xerr, xbg⟩

/-! ### spec_RecOk: function 15 -/
def spec_RecOk.f (k : Nat) (aA : Int) (aB : Int) (aC : Int) (aG : Int) (aH : Int) (aL : Int) (bW : Int) (bX : Int) (bY : Int) (bZ : ByteArray) : Option (Bool) :=
  if aA = 1 then ((spec_l1Whole.f aB).bind fun oF => (if oF = true then ((spec_l1In.f aC 0 5).bind fun oG => (if oG = true then (some (aG == 0 && ((aH == 0 && ((aL == 0 && (bW == 0 && (bX == 0 && (bY == 0 && (bZ.toList == ([] : List UInt8))))))))))) else (some false))) else (some false)))
  else (if aA = 2 then ((spec_l1In.f aG 1 80).bind fun oH => (if oH = true then ((spec_l6Entry.f k aH aL bW bX bY bZ).bind fun oI => (if oI = true then (some (aB == 0 && (aC == 0))) else (some false))) else (some false)))
  else (if aA = 3 then ((spec_l1In.f aG 0 80).bind fun oJ => (if oJ = true then (some (aB == 0 && (aC == 0 && ((aH == 0 && ((aL == 0 && (bW == 0 && (bX == 0 && (bY == 0 && (bZ.toList == ([] : List UInt8)))))))))))) else (some false))) else (some false)))
theorem spec_RecOk.mono : ∀ a0 a1 a2 a3 a4 a5 a6 a7 a8 a9 k, LeO (spec_RecOk.f k a0 a1 a2 a3 a4 a5 a6 a7 a8 a9) (spec_RecOk.f (k + 1) a0 a1 a2 a3 a4 a5 a6 a7 a8 a9) := by
  intro a0 a1 a2 a3 a4 a5 a6 a7 a8 a9 k; unfold spec_RecOk.f
  repeat' first
  | exact spec_l6Entry.mono _ _ _ _ _ _ _
  | exact LeO.refl _
  | refine LeO.ite ?_ ?_
  | refine LeO.bind ?_ (fun _ => ?_)
theorem bcellR {W w1 : World} (hb : Below W.heap.size W w1) : (∀ b o, b < W.heap.size → w1.cell? ⟨b, o, none⟩ = W.cell? ⟨b, o, none⟩) ∧ (∀ b o, b < W.heap.size → w1.frozen? ⟨b, o, none⟩ = W.frozen? ⟨b, o, none⟩) :=
  ⟨fun b o h => hb.cell (p := ⟨b, o, none⟩) h, fun b o h => hb.frozen (p := ⟨b, o, none⟩) h⟩
set_option maxHeartbeats 8000000 in
set_option maxRecDepth 100000 in
theorem spec_RecOk.calls (k : Nat) (aA : Int) (aB : Int) (aC : Int) (aG : Int) (aH : Int) (aL : Int) (bW : Int) (bX : Int) (bY : Int) (bZ : ByteArray) (r : Bool) (w : World) (h : spec_RecOk.f k aA aB aC aG aH aL bW bX bY bZ = some r) :
    Calls Try.prog 15 #[.agg #[.int .i64 aA, .int .i64 aB, .int .i64 aC, .int .i64 aG, .int .i64 aH, .int .i64 aL, .int .i64 bW, .int .i64 bX, .int .i64 bY, .string bZ]] w fun e w' => e = .returned (.bool r) ∧ Below w.heap.size w w' := by
  have fA := Try.underlying38; have cM := Try.underlying36; have cA := Try.underlying34; unfold spec_RecOk.f at h; by_cases k1 : aA = 1
  · subst k1; rw [if_pos rfl] at h; obtain ⟨b1, A1, g⟩ := Option.bind_eq_some_iff.1 h; replace h := g; clear g; replace A1 := Aside0.mk A1; cases b1
    · simp only [Bool.false_eq_true, ↓reduceIte, Option.some.injEq] at h; subst h; go_enter Try.func15, Try.ntmps15
      go_wp2_with (first | (go_at_call 43; refine (spec_l1Whole.calls _ _ _ A1.out).mono ?_; rintro e w1 ⟨rfl, ⟨n1, rfl⟩⟩) | (go_at_call 44; refine (spec_l1In.calls _ _ _ _ _ A2.out).mono ?_; rintro e w1 ⟨rfl, ⟨n2, rfl⟩⟩))
      all_goals go_ret
      all_goals exact ⟨u3_1, u3_2⟩
    · simp only [↓reduceIte] at h; obtain ⟨b2, A2, g⟩ := Option.bind_eq_some_iff.1 h; replace h := g; clear g; replace A2 := Aside0.mk A2; cases b2
      · simp only [Bool.false_eq_true, ↓reduceIte, Option.some.injEq] at h; subst h; go_enter Try.func15, Try.ntmps15
        go_wp2_with (first | (go_at_call 43; refine (spec_l1Whole.calls _ _ _ A1.out).mono ?_; rintro e w1 ⟨rfl, ⟨n1, rfl⟩⟩) | (go_at_call 44; refine (spec_l1In.calls _ _ _ _ _ A2.out).mono ?_; rintro e w1 ⟨rfl, ⟨n2, rfl⟩⟩))
        all_goals go_ret
        all_goals exact ⟨u3_1, u3_2⟩
      · simp only [↓reduceIte, Option.some.injEq] at h; subst h; go_enter Try.func15, Try.ntmps15
        go_wp2_with (first | (go_at_call 43; refine (spec_l1Whole.calls _ _ _ A1.out).mono ?_; rintro e w1 ⟨rfl, ⟨n1, rfl⟩⟩) | (go_at_call 44; refine (spec_l1In.calls _ _ _ _ _ A2.out).mono ?_; rintro e w1 ⟨rfl, ⟨n2, rfl⟩⟩))
        all_goals go_ret
        all_goals exact ⟨u3_1, u3_2⟩
  · rw [if_neg k1] at h; have n1 : (aA == 1) = false := beq_eq_false_iff_ne.2 k1; by_cases k2 : aA = 2
    · subst k2; rw [if_pos rfl] at h; obtain ⟨b1, A1, g⟩ := Option.bind_eq_some_iff.1 h; replace h := g; clear g; replace A1 := Aside0.mk A1; cases b1
      · simp only [Bool.false_eq_true, ↓reduceIte, Option.some.injEq] at h; subst h; go_enter Try.func15, Try.ntmps15
        go_wp2_with (first | (go_at_call 44; refine (spec_l1In.calls _ _ _ _ _ A1.out).mono ?_; rintro e w1 ⟨rfl, ⟨n1, rfl⟩⟩) | (go_at_call 45; refine (spec_l6Entry.calls k _ _ _ _ _ _ _ _ A2.out).mono ?_; rintro e w1 ⟨rfl, hb⟩; obtain ⟨hc, hf⟩ := bcellR hb; have HB := Aside0.mk hb; clear hb))
        all_goals go_ret
        all_goals exact ⟨u3_1, u3_2⟩
      · simp only [↓reduceIte] at h; obtain ⟨b2, A2, g⟩ := Option.bind_eq_some_iff.1 h; replace h := g; clear g; replace A2 := Aside0.mk A2; cases b2
        · simp only [Bool.false_eq_true, ↓reduceIte, Option.some.injEq] at h; subst h; go_enter Try.func15, Try.ntmps15
          go_wp2_with (first | (go_at_call 44; refine (spec_l1In.calls _ _ _ _ _ A1.out).mono ?_; rintro e w1 ⟨rfl, ⟨n1, rfl⟩⟩) | (go_at_call 45; refine (spec_l6Entry.calls k _ _ _ _ _ _ _ _ A2.out).mono ?_; rintro e w1 ⟨rfl, hb⟩; obtain ⟨hc, hf⟩ := bcellR hb; have HB := Aside0.mk hb; clear hb))
          all_goals go_ret
          all_goals exact ⟨u3_1, below_step u3_2 HB.out⟩
        · simp only [↓reduceIte, Option.some.injEq] at h; subst h; go_enter Try.func15, Try.ntmps15
          go_wp2_with (first | (go_at_call 44; refine (spec_l1In.calls _ _ _ _ _ A1.out).mono ?_; rintro e w1 ⟨rfl, ⟨n1, rfl⟩⟩) | (go_at_call 45; refine (spec_l6Entry.calls k _ _ _ _ _ _ _ _ A2.out).mono ?_; rintro e w1 ⟨rfl, hb⟩; obtain ⟨hc, hf⟩ := bcellR hb; have HB := Aside0.mk hb; clear hb))
          all_goals go_ret
          all_goals exact ⟨u3_1, below_step u3_2 HB.out⟩
    · rw [if_neg k2] at h; have n2 : (aA == 2) = false := beq_eq_false_iff_ne.2 k2; by_cases k3 : aA = 3
      · subst k3; rw [if_pos rfl] at h; obtain ⟨b1, A1, g⟩ := Option.bind_eq_some_iff.1 h; replace h := g; clear g; replace A1 := Aside0.mk A1; cases b1
        · simp only [Bool.false_eq_true, ↓reduceIte, Option.some.injEq] at h; subst h; go_enter Try.func15, Try.ntmps15
          go_wp2_with (first | (go_at_call 44; refine (spec_l1In.calls _ _ _ _ _ A1.out).mono ?_; rintro e w1 ⟨rfl, ⟨n1, rfl⟩⟩))
          all_goals go_ret
          all_goals exact ⟨u3_1, u3_2⟩
        · simp only [↓reduceIte, Option.some.injEq] at h; subst h; go_enter Try.func15, Try.ntmps15
          go_wp2_with (first | (go_at_call 44; refine (spec_l1In.calls _ _ _ _ _ A1.out).mono ?_; rintro e w1 ⟨rfl, ⟨n1, rfl⟩⟩))
          all_goals go_ret
          all_goals exact ⟨u3_1, u3_2⟩
      · rw [if_neg k3] at h; have n3 : (aA == 3) = false := beq_eq_false_iff_ne.2 k3; obtain rfl := Option.some.inj h; go_enter Try.func15, Try.ntmps15
        go_wp2_with (first | (go_at_call 44; refine (spec_l1In.calls _ _ _ _ _ A1.out).mono ?_; rintro e w1 ⟨rfl, ⟨n1, rfl⟩⟩))
        all_goals go_ret
        all_goals exact ⟨u3_1, u3_2⟩


end Go.Proofs.Ytocpomkfilpflaa.QFnExactHardLoad
