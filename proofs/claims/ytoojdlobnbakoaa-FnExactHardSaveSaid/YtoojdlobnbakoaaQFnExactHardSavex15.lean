-- A walk, by a program of this session.
import Derived.Test.YtoojdlobnbakoaaQFnExactHardSavex0
import Derived.Test.YtoojdlobnbakoaaQFnExactHardSavex3
import Derived.Test.YtoojdlobnbakoaaQFnExactHardSavex7
import Derived.Test.YtoojdlobnbakoaaQFnExactHardSavex8
import Derived.Test.YtoojdlobnbakoaaQFnExactHardSavex12
import Derived.Test.YtoojdlobnbakoaaQFnExactHardSavex13
import Derived.Test.YtoojdlobnbakoaaQFnExactHardSavex14
namespace Go.Proofs.Ytoojdlobnbakoaa.QFnExactHardSave
open Go.RowKit Go.Proofs.YtoojdlobnbakoaaW.PrintWords Go.Proofs.YtoojdlobnbakoaaW.PrintLast Go.Proofs.YtoojdlobnbakoaaW.PrintMore
attribute [local go_sem] max2_int min2_int max_two min_two max_three min_three max_four min_four   -- for this text's walks alone
set_option linter.unusedVariables false
set_option linter.unusedSimpArgs false

theorem u15_0 {p : Prop} (h : p := by first | rfl | (simp; done) | (simp [*]; done)) : p := h
theorem u15_1 {p : Prop} (h : p := by exact (Kd.R_reads' aA.out).2.1) : p := h
theorem u15_2 {p : Prop} (h : p := by exact (Kd.R_reads' aC.out).2.1) : p := h
theorem u15_3 {p : Prop} (h : p := by have := HJ20.out; first | omega | exact Nat.le_refl _) : p := h
theorem u15_4 {p : Prop} (h : p := by (with_reducible repeat (first | apply Kd.R_alloc | apply Kd.R_drewN | apply Kd.R_drew)); exact Kd.R_mono aC.out (fun _ hk => ⟨hk.1, hk.2.1⟩)) : p := h
theorem u15_5 {p : Prop} (h : p := by (with_reducible repeat (first | apply Kd.R_alloc | apply Kd.R_drewN | apply Kd.R_drew)); exact Kd.R_mono aB.out (fun _ hk => ⟨hk.1, hk.2.1⟩)) : p := h
theorem u15_6 {p : Prop} (h : p := by (with_reducible repeat (first | apply Kd.R_alloc | apply Kd.R_drewN | apply Kd.R_drew)); exact Kd.R_mono aA.out (fun _ hk => ⟨hk.1, hk.2.1⟩)) : p := h
theorem u15_7 {p : Prop} (h : p := by (try simp only [List.map_toArray, List.map_cons, List.map_nil]); first | done | (rw [show cF.length = aN.length from (Kd.R_reads' aA.out).1.symm] <;> rfl) | rfl | (simp only [List.length_drop, List.length_take]; rfl)) : p := h
theorem u15_8 {p : Prop} (h : p := by rw [show cF.length = aN.length from (Kd.R_reads' aA.out).1.symm]; exact (Kd.R_reads' aA.out).2.1) : p := h
theorem u15_9 {p : Prop} (h : p := by (with_reducible repeat (first | apply Kd.R_alloc | apply Kd.R_drewN | apply Kd.R_drew)); exact Kd.R_mono cH.out (fun _ hk => trivial)) : p := h
theorem u15_10 {p : Prop} (h : p := by (with_reducible repeat (first | apply Kd.R_alloc | apply Kd.R_drewN | apply Kd.R_drew)); exact Kd.R_mono aZ.out (fun _ hk => ⟨hk.1.2, hk.2⟩)) : p := h
theorem u15_11 {p : Prop} (h : p := by (with_reducible repeat (first | apply Kd.R_alloc | apply Kd.R_drewN | apply Kd.R_drew)); exact Kd.R_mono bR.out (fun _ hk => ⟨hk.1.2, hk.2⟩)) : p := h
theorem u15_12 {p : Prop} (h : p := by (with_reducible repeat (first | apply Kd.R_alloc | apply Kd.R_drewN | apply Kd.R_drew)); exact Kd.R_mono cI.out (fun _ hk => ⟨hk.1.2, hk.2⟩)) : p := h
theorem u15_13 {p : Prop} (h : p := by (try simp only [aH]); (with_reducible repeat (first | apply Kd.R_alloc | apply Kd.R_drewN | apply Kd.R_drew)); exact Kd.R_mono aC.out (fun _ hk => ⟨hk.1.1.1, ⟨hk.1.1.2, hk.2⟩⟩)) : p := h
theorem u15_14 {p : Prop} (h : p := by (try simp only [aH]); (with_reducible repeat (first | apply Kd.R_alloc | apply Kd.R_drewN | apply Kd.R_drew)); exact Kd.R_mono aB.out (fun _ hk => ⟨hk.1.1.1, ⟨hk.1.1.2, hk.2⟩⟩)) : p := h
theorem u15_15 {p : Prop} (h : p := by (try simp only [aH]); (with_reducible repeat (first | apply Kd.R_alloc | apply Kd.R_drewN | apply Kd.R_drew)); exact Kd.R_mono aA.out (fun _ hk => ⟨hk.1.1.1, ⟨hk.1.1.2, hk.2⟩⟩)) : p := h
theorem u15_16 {p : Prop} (h : p := by (try simp only [aH]); (with_reducible repeat (first | apply Kd.R_alloc | apply Kd.R_drewN | apply Kd.R_drew)); exact Kd.R_mono cJ.out (fun _ hk => ⟨hk.1.1.1.2, ⟨hk.1.1.2, hk.1.2⟩⟩)) : p := h
/-! ### laws_FnExactHardSave: function 11 -/
mutual
def laws_FnExactHardSave.j0 : Nat → Int → List (S123) → Int → List (S131) → Int → Bool → Int → List (S161) → Int → List (S95) → Int → List (S95) → Int → List (S95) → Option (Bool)
 | 0, _, _, _, _, _, _, _, _, _, _, _, _, _, _ => none
 | k + 1, x1, x2, x9, tT, wU, wV, cN, cO, cP, cQ, gU, gV, bN, cC => if wV = true then (some false) else ((laws_toDisk.f k cN cO).bind fun kO => ((laws_eqDisk.f k gU gV kO.1 kO.2).bind fun lC => (if lC = true then ((laws_toRecS.f k x2).bind fun dP => ((laws_eqRecS.f k tT dP).bind fun lE => (if lE = true then ((laws_markDisk.f k gU gV 1).bind fun mB => ((laws_markRecS.f k tT mB.1).bind fun mC => (if mC.1 < 0 then (laws_FnExactHardSave.j1 k x1 x2 x9 true cN cO cP cQ bN cC) else ((laws_eqDisk.f k bN cC cP cQ).bind fun lF => (if lF = true then (laws_FnExactHardSave.j1 k x1 x2 x9 (wU != x9) cN cO cP cQ bN cC) else (laws_FnExactHardSave.j1 k x1 x2 x9 true cN cO cP cQ bN cC)))))) else (some false)))) else (some false))))
def laws_FnExactHardSave.j1 : Nat → Int → List (S123) → Int → Bool → Int → List (S161) → Int → List (S95) → Int → List (S95) → Option (Bool)
 | 0, _, _, _, _, _, _, _, _, _, _ => none
 | k + 1, x1, x2, x9, wW, cN, cO, cP, cQ, bN, cC => if wW = true then (some false) else ((laws_markDisk.f k bN cC 1).bind fun dO => ((laws_heldDisk.f k bN dO.2 1).bind fun dM => (if dM < 0 then (some false) else (if dM = dO.1 then ((laws_toDisk.f k cN cO).bind fun kP => ((laws_toRecS.f k x2).bind fun iG => ((impl_HardSave.f k kP.1 kP.2 x1 iG).bind fun iH => ((laws_eqDisk.f k iH.1 iH.2.1 cP cQ).bind fun lG => (if lG = true then (laws_FnExactHardSave.j2 k dO.1 (iH.2.2 != x9) bN dO.2) else (laws_FnExactHardSave.j2 k dO.1 true bN dO.2)))))) else (some false)))))
def laws_FnExactHardSave.j2 : Nat → Int → Bool → Int → List (S95) → Option (Bool)
 | 0, _, _, _, _ => none
 | k + 1, wX, oL, bN, cC => if oL = true then (some false) else ((laws_heldDisk.f k bN cC 1).bind fun dN => (if dN < 0 then (some false) else (if dN = wX then (some true) else (some false))))
end
def laws_FnExactHardSave.f (k : Nat) (aO : Int) (aJ : List (S161)) (a1 : Int) (l2 : List (S123)) : Option (Bool) := (laws_szDisk.f k aO aJ 1048576).bind fun cR => (if cR < 0 then (some true) else ((laws_szRecS.f k l2 cR).bind fun dQ => (if dQ < 0 then (some true) else ((laws_toDisk.f k aO aJ).bind fun fT => ((laws_toRecS.f k l2).bind fun gO => ((spec_HardSave.f k fT.1 fT.2 a1 gO).bind fun bO => ((laws_toDisk.f k aO aJ).bind fun cE => ((laws_toRecS.f k l2).bind fun bW => ((impl_HardSave.f k cE.1 cE.2 a1 bW).bind fun bP => ((laws_eqDisk.f k bP.1 bP.2.1 bO.1 bO.2.1).bind fun iI => (if iI = true then (laws_FnExactHardSave.j0 k a1 l2 bO.2.2 bW bP.2.2 (bP.2.2 != bO.2.2) aO aJ bO.1 bO.2.1 cE.1 cE.2 bP.1 bP.2.1) else (laws_FnExactHardSave.j0 k a1 l2 bO.2.2 bW bP.2.2 true aO aJ bO.1 bO.2.1 cE.1 cE.2 bP.1 bP.2.1))))))))))))
theorem u15_mq0 {p : Prop} (h : p := by repeat' first | (with_reducible first | exact oM _ _ _ _ _ _ _ _ _ _ _ _ _ _ | exact oN _ _ _ _ _ _ _ _ _ _ | exact oO _ _ _ _ | exact impl_HardSave.mono _ _ _ _ _ | exact laws_eqDisk.mono _ _ _ _ _ | exact laws_eqRecS.mono _ _ _ | exact laws_heldDisk.mono _ _ _ _ | exact laws_markDisk.mono _ _ _ _ | exact laws_markRecS.mono _ _ _ | exact laws_szDisk.mono _ _ _ _ | exact laws_szRecS.mono _ _ _ | exact laws_toDisk.mono _ _ _ | exact laws_toRecS.mono _ _ | exact spec_HardSave.mono _ _ _ _ _ | exact LeO.refl _ | exact LeO.none _ | refine LeO.ite ?_ ?_ | refine LeO.bind ?_ (fun _ => ?_)) | exact oM _ _ _ _ _ _ _ _ _ _ _ _ _ _ | exact oN _ _ _ _ _ _ _ _ _ _ | exact oO _ _ _ _ | exact impl_HardSave.mono _ _ _ _ _ | exact laws_eqDisk.mono _ _ _ _ _ | exact laws_eqRecS.mono _ _ _ | exact laws_heldDisk.mono _ _ _ _ | exact laws_markDisk.mono _ _ _ _ | exact laws_markRecS.mono _ _ _ | exact laws_szDisk.mono _ _ _ _ | exact laws_szRecS.mono _ _ _ | exact laws_toDisk.mono _ _ _ | exact laws_toRecS.mono _ _ | exact spec_HardSave.mono _ _ _ _ _ | exact LeO.none _ | refine LeO.ite ?_ ?_ | refine LeO.bind ?_ (fun _ => ?_)) : p := h
set_option maxRecDepth 100000 in
theorem laws_FnExactHardSave.mono_l : ∀ k, (∀ y0 y1 y2 y3 y4 y5 y6 y7 y8 y9 oP oQ oR oT, LeO (laws_FnExactHardSave.j0 k y0 y1 y2 y3 y4 y5 y6 y7 y8 y9 oP oQ oR oT) (laws_FnExactHardSave.j0 (k + 1) y0 y1 y2 y3 y4 y5 y6 y7 y8 y9 oP oQ oR oT)) ∧ (∀ y0 y1 y2 y3 y4 y5 y6 y7 y8 y9, LeO (laws_FnExactHardSave.j1 k y0 y1 y2 y3 y4 y5 y6 y7 y8 y9) (laws_FnExactHardSave.j1 (k + 1) y0 y1 y2 y3 y4 y5 y6 y7 y8 y9)) ∧ (∀ y0 y1 y2 y3, LeO (laws_FnExactHardSave.j2 k y0 y1 y2 y3) (laws_FnExactHardSave.j2 (k + 1) y0 y1 y2 y3))
 | 0 => ⟨fun _ _ _ _ _ _ _ _ _ _ _ _ _ _ r h => by simp [laws_FnExactHardSave.j0] at h, fun _ _ _ _ _ _ _ _ _ _ r h => by simp [laws_FnExactHardSave.j1] at h, fun _ _ _ _ r h => by simp [laws_FnExactHardSave.j2] at h⟩
 | k + 1 => by
  obtain ⟨oM, oN, oO⟩ := laws_FnExactHardSave.mono_l k; refine ⟨?_, ?_, ?_⟩
  ·intro y0 y1 y2 y3 y4 y5 y6 y7 y8 y9 oP oQ oR oT; unfold laws_FnExactHardSave.j0; exact u15_mq0
  ·intro y0 y1 y2 y3 y4 y5 y6 y7 y8 y9; unfold laws_FnExactHardSave.j1; exact u15_mq0
  ·intro y0 y1 y2 y3; unfold laws_FnExactHardSave.j2; exact u15_mq0
theorem laws_FnExactHardSave.mono : ∀ a0 a1 a2 a3 k, LeO (laws_FnExactHardSave.f k a0 a1 a2 a3) (laws_FnExactHardSave.f (k + 1) a0 a1 a2 a3) := by
 intro a0 a1 a2 a3 k
 obtain ⟨oM, oN, oO⟩ := laws_FnExactHardSave.mono_l k
 unfold laws_FnExactHardSave.f
 exact u15_mq0
set_option maxHeartbeats 8000000 in
set_option maxRecDepth 100000 in
theorem laws_FnExactHardSave.calls (k : Nat) (aO : Int) (bX : Option Addr) (bY : Nat) (aJ : List (S161)) (a1 : Int) (A2 : Option Addr) (c2 : Nat) (l2 : List (S123)) (r : Bool) (w : World) (gW : Kd.C k161 w bX aJ.length aJ) (gX : aJ.length ≤ bY) (oI : Kd.C k123 w A2 l2.length l2) (oJ : l2.length ≤ c2) (h : laws_FnExactHardSave.f k aO aJ a1 l2 = some r) :
 Calls Try.prog 11 #[.agg #[.int .i64 aO, .slice bX aJ.length bY], .int .i64 a1, .slice A2 l2.length c2] w fun e w' => e = .returned (.bool r) ∧ Below w.heap.size w w' := by
 have wY := Try.underlying72
 have wZ := Try.underlying26
 have cU := aM gW
 have cV := aM gX
 clear gW gX
 have lH := aM oI
 have lI := aM oJ
 clear oI oJ
 have HB := aM (Below.refl w.heap.size w)
 have H : ((laws_szDisk.f k aO aJ 1048576).bind fun cR => (if cR < 0 then (some true) else ((laws_szRecS.f k l2 cR).bind fun dQ => (if dQ < 0 then (some true) else ((laws_toDisk.f k aO aJ).bind fun fT => ((laws_toRecS.f k l2).bind fun gO => ((spec_HardSave.f k fT.1 fT.2 a1 gO).bind fun bO => ((laws_toDisk.f k aO aJ).bind fun cE => ((laws_toRecS.f k l2).bind fun bW => ((impl_HardSave.f k cE.1 cE.2 a1 bW).bind fun bP => ((laws_eqDisk.f k bP.1 bP.2.1 bO.1 bO.2.1).bind fun iI => (if iI = true then (laws_FnExactHardSave.j0 k a1 l2 bO.2.2 bW bP.2.2 (bP.2.2 != bO.2.2) aO aJ bO.1 bO.2.1 cE.1 cE.2 bP.1 bP.2.1) else (laws_FnExactHardSave.j0 k a1 l2 bO.2.2 bW bP.2.2 true aO aJ bO.1 bO.2.1 cE.1 cE.2 bP.1 bP.2.1))))))))))))) = some r := h
 clear h
 replace H := oB H
 obtain ⟨cR, tU, H⟩ := H
 (try dsimp only at H)
 have A4 := aM tU
 clear tU
 by_cases c5 : cR < 0
 ·rw [if_pos c5] at H; have kK : decide (cR < 0) = true := decide_eq_true c5; clear c5; obtain rfl := Option.some.inj H; go_enter Try.func11, Try.ntmps11
  go_wp2_with (first | ((with_reducible refine gD 3 rfl ?_); refine boxE (N := 3) rfl (cs := #[.int .i64 aO, .slice bX aJ.length bY]) (t := 72) ?_; intro cK hg w6 hbox hb; have aD := aM (hbox); have kQ := aM (xge hg); have kR := aM (xge hg); replace HB := xbs hb; clear hb hbox hg; obtain ⟨gP, gQ, gR, gS⟩ := xf2 (w := w6) aD) | ((with_reducible refine gC 55 rfl ?_); refine goesLY (some 21) rfl Try.func55 #[.agg #[.int .i64 aO, .slice bX aJ.length bY], .int .i64 1048576] ?_; (with_reducible refine (laws_szDisk.calls k aO _ _ aJ 1048576 cR _ ?side1 ?side2 A4.out).mono ?_); (case side1 => exact xcb cU); (case side2 => exact cV.out); rintro e w8 ⟨rfl, hb⟩; refine ⟨_, rfl, ?_⟩; replace aD := xbb aD hb; replace HB := xbs hb; (try clear hb)))
  go_ret
  exact ⟨xerr, xbg⟩
 ·rw [if_neg c5] at H; have kK : decide (cR < 0) = false := decide_eq_false c5; clear c5; replace H := oB H; obtain ⟨dQ, tV, H⟩ := H; (try dsimp only at H); have A9 := aM tV; clear tV
  by_cases c10 : dQ < 0
  ·rw [if_pos c10] at H; have gY : decide (dQ < 0) = true := decide_eq_true c10; clear c10; obtain rfl := Option.some.inj H; go_enter Try.func11, Try.ntmps11
   go_wp2_with (first | ((with_reducible refine gD 3 rfl ?_); refine boxE (N := 3) rfl (cs := #[.int .i64 aO, .slice bX aJ.length bY]) (t := 72) ?_; intro cK hg xA hbox hb; have aD := aM (hbox); have kQ := aM (xge hg); have kR := aM (xge hg); replace HB := xbs hb; clear hb hbox hg; obtain ⟨dR, dS, dU, dV⟩ := xf2 (w := xA) aD) | ((with_reducible refine gC 55 rfl ?_); refine goesLY (some 21) rfl Try.func55 #[.agg #[.int .i64 aO, .slice bX aJ.length bY], .int .i64 1048576] ?_; (with_reducible refine (laws_szDisk.calls k aO _ _ aJ 1048576 cR _ ?side1 ?side2 A4.out).mono ?_); (case side1 => exact xcb cU); (case side2 => exact cV.out); rintro e AF ⟨rfl, hb⟩; refine ⟨_, rfl, ?_⟩; replace aD := xbb aD hb; replace HB := xbs hb; (try clear hb)) | ((with_reducible refine gC 56 rfl ?_); refine goesLY (some 26) rfl Try.func56 #[.slice A2 l2.length c2, .int .i64 cR] ?_; (with_reducible refine (laws_szRecS.calls k _ _ l2 cR dQ _ ?side1 ?side2 A9.out).mono ?_); (case side1 => exact xcb lH); (case side2 => exact lI.out); rintro e AG ⟨rfl, hb⟩; refine ⟨_, rfl, ?_⟩; replace aD := xbb aD hb; replace HB := xbs hb; (try clear hb)))
   go_ret
   exact ⟨xerr, xbg⟩
  ·rw [if_neg c10] at H; have gY : decide (dQ < 0) = false := decide_eq_false c10; clear c10; replace H := oB H; obtain ⟨⟨lJ, lK⟩, mD, H⟩ := H; (try dsimp only at H); have xD := aM mD; clear mD; replace H := oB H
   obtain ⟨gO, mE, H⟩ := H; (try dsimp only at H); have xE := aM mE; clear mE; replace H := oB H
   obtain ⟨⟨cL, aY, iA⟩, mF, H⟩ := H; (try dsimp only at H); have xF := aM mF; clear mF; replace H := oB H
   obtain ⟨⟨cG, bB⟩, mG, H⟩ := H; (try dsimp only at H); have xG := aM mG; clear mG; replace H := oB H
   obtain ⟨bW, mH, H⟩ := H; (try dsimp only at H); have xH := aM mH; clear mH; replace H := oB H
   obtain ⟨⟨bC, aN, kL⟩, mI, H⟩ := H; (try dsimp only at H); have xI := aM mI; clear mI; have lL := aM H; clear H
   go_enter Try.func11, Try.ntmps11
   go_upto_region 12 with (first | ((with_reducible refine gD 3 rfl ?_); refine boxE (N := 3) rfl (cs := #[.int .i64 aO, .slice bX aJ.length bY]) (t := 72) ?_; intro cK hg xJ hbox hb; have aD := aM (hbox); have kQ := aM (xge hg); have kR := aM (xge hg); replace HB := xbs hb; clear hb hbox hg; obtain ⟨dW, dX, dY, dZ⟩ := xf2 (w := xJ) aD) | ((with_reducible refine gC 55 rfl ?_); refine goesLY (some 21) rfl Try.func55 #[.agg #[.int .i64 aO, .slice bX aJ.length bY], .int .i64 1048576] ?_; (with_reducible refine (laws_szDisk.calls k aO _ _ aJ 1048576 cR _ ?side1 ?side2 A4.out).mono ?_); (case side1 => exact xcb cU); (case side2 => exact cV.out); rintro e AH ⟨rfl, hb⟩; refine ⟨_, rfl, ?_⟩; replace aD := xbb aD hb; replace HB := xbs hb; (try clear hb)) | ((with_reducible refine gC 56 rfl ?_); refine goesLY (some 26) rfl Try.func56 #[.slice A2 l2.length c2, .int .i64 cR] ?_; (with_reducible refine (laws_szRecS.calls k _ _ l2 cR dQ _ ?side1 ?side2 A9.out).mono ?_); (case side1 => exact xcb lH); (case side2 => exact lI.out); rintro e xL ⟨rfl, hb⟩; refine ⟨_, rfl, ?_⟩; replace aD := xbb aD hb; replace HB := xbs hb; (try clear hb); obtain ⟨eA, eB, eC, eD⟩ := xf2 (w := xL) aD) | ((with_reducible refine gC 58 rfl ?_); refine goesLY (some 31) rfl Try.func58 #[.agg #[.int .i64 aO, .slice bX aJ.length bY]] ?_; (with_reducible refine (laws_toDisk.calls k aO _ _ aJ lJ lK _ ?side1 ?side2 xD.out).mono ?_); (case side1 => exact xcb cU); (case side2 => exact cV.out); rintro e AJ ⟨xM, rfl, bH, hb⟩; refine ⟨_, rfl, ?_⟩; have aX := aM (Kd.R_lower bH (below_size xbg)); replace aD := xbb aD hb; replace HB := xbs hb; (try clear hb bH)) | ((with_reducible refine gC 59 rfl ?_); refine goesLY (some 34) rfl Try.func59 #[.slice A2 l2.length c2] ?_; (with_reducible refine (laws_toRecS.calls k _ _ l2 gO _ ?side1 ?side2 xE.out).mono ?_); (case side1 => exact xcb lH); (case side2 => exact lI.out); rintro e AK ⟨xN, rfl, bH, hb⟩; refine ⟨_, rfl, ?_⟩; replace aX := xrb aX hb; have bA := aM (Kd.R_lower bH (below_size xbg)); replace aD := xbb aD hb; replace HB := xbs hb; (try clear hb bH); obtain ⟨oU, oV, oW⟩ := Kd.R_slice aX.out; subst oW; obtain ⟨oX, oY, oZ⟩ := Kd.R_slice bA.out; subst oZ) | ((with_reducible refine gC 57 rfl ?_); refine goesLY (some 35) rfl Try.func57 #[.agg #[.int .i64 lJ, .slice oU lK.length oV], .int .i64 a1, .slice oX gO.length oY] ?_; (with_reducible refine (spec_HardSave.calls k lJ _ _ lK a1 _ _ gO cL aY iA _ ?side1 ?side2 ?side3 ?side4 xF.out).mono ?_); (case side1 => exact xC aX); (case side2 => exact (Kd.R_reads' aX.out).2.1); (case side3 => exact xC bA); (case side4 => exact (Kd.R_reads' bA.out).2.1); rintro e AL ⟨xO, rfl, bH, hb⟩; refine ⟨_, rfl, ?_⟩; replace bA := xrb bA hb; have aZ := aM (Kd.R_lower (Kd.R_new' bH (Kd.R_lt (xr aX))) (below_size xbg)); replace aX := aM (Kd.R_elder' (xr aX) (Kd.R_base bH) hb); replace aD := xbb aD hb; replace HB := xbs hb; (try clear hb bH)) | ((with_reducible refine gD 8 rfl ?_); refine boxE (N := 8) rfl (cs := #[.int .i64 0, .slice none 0 0]) (t := 26) ?_; intro gZ hg tW hbox hb; replace aX := xrb aX hb; replace bA := xrb bA hb; replace aZ := xrb aZ hb; have tX := aM (xge hg); have tY := aM (xge hg); replace HB := xbs hb; have bJ := nblt aD hg; have bK := nbgt aD hg; replace aD := xbb aD hb; have aF := aM (hbox); clear hb hbox hg; have tZ := bK.out; have uA := bJ.out; obtain ⟨eE, eF, eG, eH⟩ := xf2 (w := tW) aF; obtain ⟨bU, bV, pA⟩ := Kd.R_slice aZ.out; subst pA; obtain ⟨eI, eJ, eK, eL⟩ := xf2 (w := tW) aD) | ((with_reducible refine gC 58 rfl ?_); refine goesLY (some 39) rfl Try.func58 #[.agg #[.int .i64 aO, .slice bX aJ.length bY]] ?_; (with_reducible refine (laws_toDisk.calls k aO _ _ aJ cG bB _ ?side1 ?side2 xG.out).mono ?_); (case side1 => exact Kd.C_below cU.out xbg); (case side2 => exact cV.out); rintro e AM ⟨xQ, rfl, bH, hb⟩; refine ⟨_, rfl, ?_⟩; replace bA := xrB bA hb; have bR := aM (Kd.R_lower (Kd.R_new' (Kd.R_new' bH (Kd.R_lt (xrs aX))) (Kd.R_lt (xrs aZ))) (below_size xbg)); replace aX := aM (Kd.R_elder' (xrs aX) (Kd.R_base bH) hb); replace aZ := aM (Kd.R_elder' (xrs aZ) (Kd.R_base bH) hb); replace aD := xbc aD hb; replace aF := aM (blk_below (g := gZ) (o := .cells #[.int .i64 cL, .slice bU aY.length bV] 26 (0, 0)) xP hb); replace HB := xbs hb; (try clear hb bH)) | ((with_reducible refine gD 10 rfl ?_); refine boxE (N := 10) rfl (cs := #[.int .i64 0, .slice none 0 0]) (t := 26) ?_; intro cS hg xR hbox hb; replace aX := xrb aX hb; replace bA := xrb bA hb; replace aZ := xrb aZ hb; replace bR := xrb bR hb; have uB := aM (xge hg); have uC := aM (xge hg); replace HB := xbs hb; have dA := nblt aD hg; have dB := nbgt aD hg; have bL := nblt aF hg; have bM := nbgt aF hg; replace aD := xbb aD hb; replace aF := xbb aF hb; have aE := aM (hbox); clear hb hbox hg; have uD := dB.out; have uE := dA.out; have uF := bM.out; have uG := bL.out; obtain ⟨eM, eN, eO, eP⟩ := xf2 (w := xR) aE; obtain ⟨bE, bG, pB⟩ := Kd.R_slice bR.out; subst pB) | ((with_reducible refine gC 59 rfl ?_); refine goesLY (some 41) rfl Try.func59 #[.slice A2 l2.length c2] ?_; (with_reducible refine (laws_toRecS.calls k _ _ l2 bW _ ?side1 ?side2 xH.out).mono ?_); (case side1 => exact Kd.C_below lH.out xbg); (case side2 => exact lI.out); rintro e xS ⟨xT, rfl, bH, hb⟩; refine ⟨_, rfl, ?_⟩; replace aX := xrB aX hb; replace aZ := xrB aZ hb; replace bR := xrB bR hb; have cH := aM (Kd.R_lower (Kd.R_new' bH (Kd.R_lt (xrs bA))) (below_size xbg)); replace bA := aM (Kd.R_elder' (xrs bA) (Kd.R_base bH) hb); replace aD := xbc aD hb; replace aF := xbc aF hb; replace aE := aM (blk_below (g := cS) (o := .cells #[.int .i64 cG, .slice bE bB.length bG] 26 (0, 0)) xP hb); replace HB := xbs hb; (try clear hb bH); obtain ⟨eQ, eR, eS, eT⟩ := xf2 (w := xS) aE; obtain ⟨eU, eV, pC⟩ := Kd.R_slice cH.out; subst pC) | ((with_reducible refine gC 60 rfl ?_); refine goesLY (some 46) rfl Try.func60 #[.agg #[.int .i64 cG, .slice bE bB.length bG], .int .i64 a1, .slice eU bW.length eV] ?_; (with_reducible refine (impl_HardSave.calls k cG _ _ bB a1 _ _ bW bC aN kL _ ?side1 ?side2 ?side3 ?side4 xI.out).mono ?_); (case side1 => exact xC bR); (case side2 => exact (Kd.R_reads' bR.out).2.1); (case side3 => exact xC cH); (case side4 => exact (Kd.R_reads' cH.out).2.1); rintro e AN ⟨xU, rfl, bH, hb⟩; refine ⟨_, rfl, ?_⟩; replace bA := xrb bA hb; replace cH := xrb cH hb; have cI := aM (Kd.R_lower (Kd.R_new' (Kd.R_new' (Kd.R_new' bH (Kd.R_lt (xr aX))) (Kd.R_lt (xr aZ))) (Kd.R_lt (xr bR))) (below_size xbg)); replace aX := aM (Kd.R_elder' (xr aX) (Kd.R_base bH) hb); replace aZ := aM (Kd.R_elder' (xr aZ) (Kd.R_base bH) hb); replace bR := aM (Kd.R_elder' (xr bR) (Kd.R_base bH) hb); replace aD := xbb aD hb; replace aF := xbb aF hb; replace aE := xbb aE hb; replace HB := xbs hb; (try clear hb bH)) | ((with_reducible refine gD 12 rfl ?_); refine boxE (N := 12) rfl (cs := #[.int .i64 0, .slice none 0 0]) (t := 26) ?_; intro fU hg mJ hbox hb; replace aX := xrb aX hb; replace bA := xrb bA hb; replace aZ := xrb aZ hb; replace bR := xrb bR hb; replace cH := xrb cH hb; replace cI := xrb cI hb; have uH := aM (xge hg); have uI := aM (xge hg); replace HB := xbs hb; have aV := nblt aD hg; have aW := nbgt aD hg; have aP := nblt aF hg; have aQ := nbgt aF hg; have aR := nblt aE hg; have aS := nbgt aE hg; replace aD := xbb aD hb; replace aF := xbb aF hb; replace aE := xbb aE hb; have aG := aM (hbox); clear hb hbox hg; have uJ := aW.out; have uK := aV.out; have uL := aQ.out; have uM := aP.out; have uN := aS.out; have uO := aR.out; obtain ⟨eW, eX, eY, eZ⟩ := xf2 (w := mJ) aG; obtain ⟨aT, aU, pD⟩ := Kd.R_slice cI.out; subst pD))
   (try simp only [Act.put, List.setIfInBounds_toArray, List.set_cons_zero, List.set_cons_succ]); go_cut [57] (fun xV wc => ∃ (kq : Nat) (fA : Bool), xV = .bool fA ∧ Aside0 (laws_FnExactHardSave.j0 kq a1 l2 iA bW kL fA aO aJ cL aY cG bB bC aN = some r) ∧ Aside0 (kq ≤ k) ∧ Aside0 (Kd.R k131 131 wc w.heap.size (fun _ => True) (.slice eU bW.length eV) bW) ∧ Aside0 (Kd.R k95 95 wc w.heap.size (fun k_ => some k_ ≠ ((.slice bE bB.length bG) : Value).ownBlock ∧ some k_ ≠ ((.slice aT aN.length aU) : Value).ownBlock) (.slice bU aY.length bV) aY) ∧ Aside0 (Kd.R k95 95 wc w.heap.size (fun k_ => some k_ ≠ ((.slice bU aY.length bV) : Value).ownBlock ∧ some k_ ≠ ((.slice aT aN.length aU) : Value).ownBlock) (.slice bE bB.length bG) bB) ∧ Aside0 (Kd.R k95 95 wc w.heap.size (fun k_ => some k_ ≠ ((.slice bU aY.length bV) : Value).ownBlock ∧ some k_ ≠ ((.slice bE bB.length bG) : Value).ownBlock) (.slice aT aN.length aU) aN) ∧ Aside0 (wc.heap[cK]? = some (.cells #[.int .i64 aO, (.slice bX aJ.length bY)] 72 (0, 0))) ∧ Aside0 (wc.heap[gZ]? = some (.cells #[.int .i64 cL, (.slice bU aY.length bV)] 26 (0, 0))) ∧ Aside0 (wc.heap[cS]? = some (.cells #[.int .i64 cG, (.slice bE bB.length bG)] 26 (0, 0))) ∧ Aside0 (wc.heap[fU]? = some (.cells #[.int .i64 bC, (.slice aT aN.length aU)] 26 (0, 0))) ∧ Aside0 (Below w.heap.size w wc))
   case first =>
    have H := lL.out; clear lL; replace H := oB H; obtain ⟨iI, mK, H⟩ := H; (try dsimp only at H); have uP := aM mK; clear mK
    by_cases lM : iI = true
    ·subst lM; replace H := iT H; have H' := aM H; clear H; have uQ := aW.out; have uR := aV.out; have uS := aQ.out; have uT := aP.out; have uU := aS.out; have uV := aR.out; obtain ⟨fB, fC, fD, fE⟩ := xf2 (w := mJ) aG; have uW := bK.out; have uX := bJ.out; have uY := bL.out; have uZ := bM.out; obtain ⟨fF, fG, fH, fI⟩ := xf2 (w := mJ) aF; go_wp2_with (first | ((with_reducible refine gC 61 rfl ?_); refine goesLY (some 51) rfl Try.func61 #[.agg #[.int .i64 bC, .slice aT aN.length aU], .agg #[.int .i64 cL, .slice bU aY.length bV]] ?_; (with_reducible refine (laws_eqDisk.calls k bC _ _ aN cL _ _ aY true _ ?side1 ?side2 ?side3 ?side4 uP.out).mono ?_); (case side1 => exact (Kd.R_reads' (xrs cI)).2.2); (case side2 => exact (Kd.R_reads' cI.out).2.1); (case side3 => exact (Kd.R_reads' (xrs aZ)).2.2); (case side4 => exact (Kd.R_reads' aZ.out).2.1); rintro e AO ⟨rfl, hb⟩; refine ⟨_, rfl, ?_⟩; replace aX := xrB aX hb; replace bA := xrB bA hb; replace aZ := xrB aZ hb; replace bR := xrB bR hb; replace cH := xrB cH hb; replace cI := xrB cI hb; replace aD := xbc aD hb; replace aF := xbc aF hb; replace aE := xbc aE hb; replace aG := aM (blk_below (g := fU) (o := .cells #[.int .i64 bC, .slice aT aN.length aU] 26 (0, 0)) xP hb); replace HB := xbs hb; (try clear hb)))
     go_meet
     case rel => exact ⟨_, ((kL != iA)), u15_0, H', ⟨by first | omega | exact Nat.le_refl _⟩, ⟨u15_9⟩, ⟨u15_10⟩, ⟨u15_11⟩, ⟨u15_12⟩, ⟨xblk⟩, ⟨xblk⟩, ⟨xblk⟩, ⟨xblk⟩, ⟨xbg⟩⟩
    ·replace lM := Bool.eq_false_iff.mpr lM; subst lM; replace H := iN H; have H' := aM H; clear H; have vA := aW.out; have vB := aV.out; have vC := aQ.out; have vD := aP.out; have vE := aS.out; have vF := aR.out; obtain ⟨fJ, fK, fL, fM⟩ := xf2 (w := mJ) aG; have vG := bK.out; have vH := bJ.out; have vI := bL.out; have vJ := bM.out; obtain ⟨fN, fO, fP, fQ⟩ := xf2 (w := mJ) aF; go_wp2_with (first | ((with_reducible refine gC 61 rfl ?_); refine goesLY (some 51) rfl Try.func61 #[.agg #[.int .i64 bC, .slice aT aN.length aU], .agg #[.int .i64 cL, .slice bU aY.length bV]] ?_; (with_reducible refine (laws_eqDisk.calls k bC _ _ aN cL _ _ aY false _ ?side1 ?side2 ?side3 ?side4 uP.out).mono ?_); (case side1 => exact (Kd.R_reads' (xrs cI)).2.2); (case side2 => exact (Kd.R_reads' cI.out).2.1); (case side3 => exact (Kd.R_reads' (xrs aZ)).2.2); (case side4 => exact (Kd.R_reads' aZ.out).2.1); rintro e AP ⟨rfl, hb⟩; refine ⟨_, rfl, ?_⟩; replace aX := xrB aX hb; replace bA := xrB bA hb; replace aZ := xrB aZ hb; replace bR := xrB bR hb; replace cH := xrB cH hb; replace cI := xrB cI hb; replace aD := xbc aD hb; replace aF := xbc aF hb; replace aE := xbc aE hb; replace aG := aM (blk_below (g := fU) (o := .cells #[.int .i64 bC, .slice aT aN.length aU] 26 (0, 0)) xP hb); replace HB := xbs hb; (try clear hb)))
     go_meet
     case rel => exact ⟨_, (true), u15_0, H', ⟨by first | omega | exact Nat.le_refl _⟩, ⟨u15_9⟩, ⟨u15_10⟩, ⟨u15_11⟩, ⟨u15_12⟩, ⟨xblk⟩, ⟨xblk⟩, ⟨xblk⟩, ⟨xblk⟩, ⟨xbg⟩⟩
   case rest =>
    clear lL; try clear c1
    try clear c2
    try clear p2
    try clear c3
    try clear c4
    try clear c5
    try clear kK
    try clear c6
    try clear c10
    try clear gY
    try clear vK
    try clear vL
    try clear vM
    try clear vN
    try clear vO
    try clear vP
    try clear vQ
    try clear lM
    try clear vR
    try clear vS
    try clear vT
    try clear vU
    try clear vV
    try clear vW
    try clear vX
    try clear vY
    try clear vZ
    try clear wA
    try clear wB
    try clear wC
    try clear dR dS
    try clear dW dX
    try clear eA eB
    try clear eE eF
    try clear eI eJ
    try clear eM eN
    try clear eQ eR
    try clear eW eX
    try clear fB fC
    try clear fF fG
    try clear fJ fK
    try clear fN fO
    try clear gP gQ
    try clear dU dV
    try clear dY dZ
    try clear eC eD
    try clear eG eH
    try clear eK eL
    try clear eO eP
    try clear eS eT
    try clear eY eZ
    try clear fD fE
    try clear fH fI
    try clear fL fM
    try clear fP fQ
    try clear gR gS
    obtain ⟨kq, fA, rfl, HA, HJ20, aI, aC, aB, aA, aD, aF, aE, aG, HB⟩ := hcut; cases kq with
    | zero => exact absurd HA.out (by simp [laws_FnExactHardSave.j0])
    | succ cT =>
     have H := HA.out; clear HA; simp only [laws_FnExactHardSave.j0] at H; by_cases lX : fA = true
     ·subst lX; replace H := iT H; obtain rfl := Option.some.inj H; go_wp2; go_ret
      exact ⟨xerr, xbg⟩
     ·replace lX := Bool.eq_false_iff.mpr lX; subst lX; replace H := iN H; replace H := oB H; obtain ⟨⟨fR, cW⟩, mL, H⟩ := H; (try dsimp only at H); have pE := aM mL; clear mL; replace H := oB H
      obtain ⟨lC, mM, H⟩ := H; (try dsimp only at H); have pF := aM mM; clear mM
      by_cases lY : lC = true
      ·subst lY; replace H := iT H; replace H := oB H; obtain ⟨dP, mN, H⟩ := H; (try dsimp only at H); have wD := aM mN; clear mN; replace H := oB H
       obtain ⟨lE, mO, H⟩ := H; (try dsimp only at H); have wE := aM mO; clear mO
       by_cases lZ : lE = true
       ·subst lZ; replace H := iT H; replace H := oB H; obtain ⟨⟨lN, dK⟩, mP, H⟩ := H; (try dsimp only at H); have xW := aM mP; clear mP; replace H := oB H
        obtain ⟨⟨kM, pG⟩, mQ, H⟩ := H; (try dsimp only at H); have xX := aM mQ; clear mQ; have lO := aM H; clear H
        try go_wp2
        replace aI := rD aI; replace aC := rD aC; replace aB := rD aB; replace aA := rD aA; replace aD := bD aD; replace aF := bD aF; replace aE := bD aE; replace aG := bD aG; replace HB := lD HB; refine start_ (n := 5) (S := fun w' => w'.cell? ⟨cS, 0, none⟩ = some (.int .i64 cG) ∧ w'.cell? ⟨cS, 1, none⟩ = some (.slice bE bB.length bG) ∧ w'.cell? ⟨cK, 0, none⟩ = some (.int .i64 aO) ∧ w'.cell? ⟨cK, 1, none⟩ = some (.slice bX aJ.length bY)) (ds := []) #[false, false, false, false, false] (by kernel_rfl) rfl rfl ⟨xc aE 0 rfl, xc aE 1 rfl, xc aD 0 rfl, xc aD 1 rfl⟩ (fun hHeld => ?_); generalize wc.drew = AQ at aI aC aB aA aD aF aE aG HB hHeld ⊢; refine take_ (i := 0) (N := some 58) (v := ?_) (a' := ?_) #[true, false, false, false, false] rfl rfl (by kernel_rfl) (fun _ _ _ h => h) (Or.inl ⟨by rfl, ?_⟩) hHeld ?_ ?_; rotate_left
        ·rintro w' ⟨s0, s1, s2, s3⟩; go_simp
         with_reducible rfl
        rotate_left
        ·simp only [Act.put, List.setIfInBounds_toArray, List.set_cons_zero, List.set_cons_succ, i64_w, i32_w]; rfl
        refine take_ (i := 1) (N := some 59) (v := ?_) (a' := ?_) #[true, true, false, false, false] rfl rfl (by kernel_rfl) (fun _ _ _ h => h) (Or.inl ⟨by rfl, ?_⟩) hHeld ?_ ?_; rotate_left
        ·rintro w' ⟨s0, s1, s2, s3⟩; go_simp
         with_reducible rfl
        rotate_left
        ·simp only [Act.put, List.setIfInBounds_toArray, List.set_cons_zero, List.set_cons_succ, i64_w, i32_w]; rfl
        refine one_ (i := 2) (N := some 60) #[true, true, true, false, false] rfl rfl (by kernel_rfl) (by decide) (fun K hK => ?_); refine goesY Try.func58 #[.agg #[.int .i64 aO, .slice bX aJ.length bY]] ?_; with_reducible refine (laws_toDisk.calls cT aO _ _ aJ fR cW _ ?side1 ?side2 pE.out).mono ?_
        (case side1 => exact xcb cU); (case side2 => exact cV.out); rintro e AR ⟨mR, rfl, bH, hb⟩; refine ⟨_, rfl, ?_⟩; replace aI := xrb aI hb; have aL := aM (Kd.R_lower (Kd.R_new' (Kd.R_new' (Kd.R_new' bH (Kd.R_lt (xr aC))) (Kd.R_lt (xr aB))) (Kd.R_lt (xr aA))) (below_size xbg)); replace aC := aM (Kd.R_elder' (xr aC) (Kd.R_base bH) hb); replace aB := aM (Kd.R_elder' (xr aB) (Kd.R_base bH) hb); replace aA := aM (Kd.R_elder' (xr aA) (Kd.R_base bH) hb); replace aD := xbb aD hb; replace aF := xbb aF hb; replace aE := xbb aE hb; replace aG := xbb aG hb; replace HB := xbs hb; (try clear hb bH); obtain ⟨iB, iC, mS⟩ := Kd.R_slice aL.out; (first | subst mS | (injection mS with f1_ f2_ f3_; have f4_ := f1_.symm; have f5_ := f3_.symm; clear f1_ f2_ f3_; subst f4_; subst f5_)); refine hK.out _ _ ⟨xc aE 0 rfl, xc aE 1 rfl, xc aD 0 rfl, xc aD 1 rfl⟩ (fun hHeld => ?_); clear hK K; refine nm_ (N := 60) ?_; refine one_ (i := 3) (N := some 61) #[true, true, true, true, false] rfl rfl (by kernel_rfl) (by decide) (fun K hK => ?_); refine goesY Try.func61 #[.agg #[.int .i64 cG, .slice bE bB.length bG], .agg #[.int .i64 fR, .slice iB cW.length iC]] ?_; with_reducible refine (laws_eqDisk.calls cT cG _ _ bB fR _ _ cW true _ ?side1 ?side2 ?side3 ?side4 pF.out).mono ?_
        (case side1 => exact xC aB); (case side2 => exact (Kd.R_reads' aB.out).2.1); (case side3 => exact xC aL); (case side4 => exact (Kd.R_reads' aL.out).2.1); rintro e AS ⟨rfl, hb⟩; refine ⟨_, rfl, ?_⟩; replace aI := xrb aI hb; replace aC := xrb aC hb; replace aB := xrb aB hb; replace aA := xrb aA hb; replace aL := xrb aL hb; replace aD := xbb aD hb; replace aF := xbb aF hb; replace aE := xbb aE hb; replace aG := xbb aG hb; replace HB := xbs hb; (try clear hb); refine hK.out _ _ ⟨xc aE 0 rfl, xc aE 1 rfl, xc aD 0 rfl, xc aD 1 rfl⟩ (fun hHeld => ?_); clear hK K; refine nm_ (N := 61) ?_; refine pure_ (i := 4) (N := some 62) (v := ?_) (a' := ?_) #[true, true, true, true, true] rfl rfl (by kernel_rfl) (fun _ _ _ h => h) (Or.inl ⟨by rfl, ?_⟩) ?_ ?_; rotate_left
        ·intro w'; go_simp
         with_reducible rfl
        rotate_left
        ·simp only [Act.put, List.setIfInBounds_toArray, List.set_cons_zero, List.set_cons_succ, i64_w, i32_w]; rfl
        refine done_ (by kernel_rfl) ?_
        go_upto_region 21 with (first | ((with_reducible refine gC 59 rfl ?_); refine goesLY (some 65) rfl Try.func59 #[.slice A2 l2.length c2] ?_; (with_reducible refine (laws_toRecS.calls cT _ _ l2 dP _ ?side1 ?side2 wD.out).mono ?_); (case side1 => exact xcb lH); (case side2 => exact lI.out); rintro e AT ⟨pH, rfl, bH, hb⟩; refine ⟨_, rfl, ?_⟩; replace aC := xrb aC hb; replace aB := xrb aB hb; replace aA := xrb aA hb; replace aL := xrb aL hb; have bI := aM (Kd.R_lower (Kd.R_new' bH (Kd.R_lt (xr aI))) (below_size xbg)); replace aI := aM (Kd.R_elder' (xr aI) (Kd.R_base bH) hb); replace aD := xbb aD hb; replace aF := xbb aF hb; replace aE := xbb aE hb; replace aG := xbb aG hb; replace HB := xbs hb; (try clear hb bH); obtain ⟨mT, mU, pI⟩ := Kd.R_slice bI.out; subst pI) | ((with_reducible refine gC 62 rfl ?_); refine goesLY (some 66) rfl Try.func62 #[.slice eU bW.length eV, .slice mT dP.length mU] ?_; (with_reducible refine (laws_eqRecS.calls cT _ _ bW _ _ dP true _ ?side1 ?side2 ?side3 ?side4 wE.out).mono ?_); (case side1 => exact xC aI); (case side2 => exact (Kd.R_reads' aI.out).2.1); (case side3 => exact xC bI); (case side4 => exact (Kd.R_reads' bI.out).2.1); rintro e xY ⟨rfl, hb⟩; refine ⟨_, rfl, ?_⟩; replace aI := xrb aI hb; replace aC := xrb aC hb; replace aB := xrb aB hb; replace aA := xrb aA hb; replace aL := xrb aL hb; replace bI := xrb bI hb; replace aD := xbb aD hb; replace aF := xbb aF hb; replace aE := xbb aE hb; replace aG := xbb aG hb; replace HB := xbs hb; (try clear hb); have wF := dB.out; have wG := dA.out; have wH := bM.out; have wI := bL.out; have wJ := aR.out; have wK := aS.out; obtain ⟨hJ, hU, hX, hY⟩ := xf2 (w := xY) aE) | ((with_reducible refine gC 63 rfl ?_); refine goesLY (some 70) rfl Try.func63 #[.agg #[.int .i64 cG, .slice bE bB.length bG], .int .i64 1] ?_; (with_reducible refine (laws_markDisk.calls cT cG (fun k_ => some k_ = (.slice bE bB.length bG : Value).ownBlock) (.slice bE bB.length bG) bB 1 lN dK w _ ?side1 ?side2 xW.out).mono ?_); (case side1 => exact xbg); (case side2 => exact Kd.R_tight rfl aB.out); rintro e AU ⟨rfl, hZ, hb, hkp⟩; refine ⟨_, rfl, ?_⟩; have n0_ := aM (Kd.R_mono (ok' := fun k_ => some k_ ≠ (.slice mT dP.length mU : Value).ownBlock) (Kd.R_keptB ((Kd.R_apart' aI.out (Kd.R_typed aB.out) (by decide))) hkp (fun k_ hk_ hs_ => (hk_.2) hs_)) (fun k_ hk_ => hk_.1.1.2)); have n1_ := aM (Kd.R_mono (ok' := fun k_ => some k_ ≠ (.slice bE bB.length bG : Value).ownBlock ∧ some k_ ≠ (.slice aT aN.length aU : Value).ownBlock ∧ some k_ ≠ (.slice iB cW.length iC : Value).ownBlock) (Kd.R_keptB (aC.out) hkp (fun k_ hk_ hs_ => (hk_.1.1) hs_)) (fun k_ hk_ => ⟨hk_.1.1.1, hk_.1.1.2, hk_.1.2⟩)); have n2_ := aM (Kd.R_reok rfl hZ (fun k_ e_ => aB.out.1 k_ e_)); have n3_ := aM (Kd.R_mono (ok' := fun k_ => some k_ ≠ (.slice bU aY.length bV : Value).ownBlock ∧ some k_ ≠ (.slice bE bB.length bG : Value).ownBlock ∧ some k_ ≠ (.slice iB cW.length iC : Value).ownBlock) (Kd.R_keptB (aA.out) hkp (fun k_ hk_ hs_ => (hk_.1.2) hs_)) (fun k_ hk_ => ⟨hk_.1.1.1, hk_.1.1.2, hk_.1.2⟩)); have n4_ := aM (blk_kept xblk hkp (fun hs_ => (fun e_ => (Kd.R_ne aB.out aD.out (by decide)) e_) hs_)); have n5_ := aM (blk_kept xblk hkp (fun hs_ => (fun e_ => (Kd.R_ne aB.out aF.out (by decide)) e_) hs_)); have n6_ := aM (blk_kept xblk hkp (fun hs_ => (fun e_ => (Kd.R_ne aB.out aE.out (by decide)) e_) hs_)); have n7_ := aM (blk_kept xblk hkp (fun hs_ => (fun e_ => (Kd.R_ne aB.out aG.out (by decide)) e_) hs_)); have n8_ := aM (Kd.R_mono (ok' := fun k_ => some k_ ≠ (.slice bU aY.length bV : Value).ownBlock ∧ some k_ ≠ (.slice bE bB.length bG : Value).ownBlock ∧ some k_ ≠ (.slice aT aN.length aU : Value).ownBlock) (Kd.R_keptB (aL.out) hkp (fun k_ hk_ hs_ => (hk_.1.2) hs_)) (fun k_ hk_ => ⟨hk_.1.1.1.2, hk_.1.1.2, hk_.1.2⟩)); have n9_ := aM (Kd.R_mono (ok' := fun k_ => some k_ ≠ (.slice eU bW.length eV : Value).ownBlock) (Kd.R_keptB ((Kd.R_apart' bI.out (Kd.R_typed aB.out) (by decide))) hkp (fun k_ hk_ hs_ => (hk_.2) hs_)) (fun k_ hk_ => hk_.1.1.2)); have n10_ := aM (hb); clear aI; clear aC; clear aB; clear aA; clear aD; clear aF; clear aE; clear aG; clear aL; clear bI; clear HB; have aI := n0_; have aC := n1_; have aB := n2_; have aA := n3_; have aD := n4_; have aF := n5_; have aE := n6_; have aG := n7_; have aL := n8_; have bI := n9_; have HB := n10_; clear n0_ n1_ n2_ n3_ n4_ n5_ n6_ n7_ n8_ n9_ n10_; (try clear hb); (try clear hkp); (try clear hZ)) | ((with_reducible refine gC 64 rfl ?_); refine goesLY (some 73) rfl Try.func64 #[.slice eU bW.length eV, .int .i64 lN] ?_; (with_reducible refine (laws_markRecS.calls cT (fun k_ => some k_ = (.slice eU bW.length eV : Value).ownBlock) (.slice eU bW.length eV) bW lN kM pG w _ ?side1 ?side2 xX.out).mono ?_); (case side1 => exact xbg); (case side2 => exact Kd.R_tight rfl aI.out); rintro e oK ⟨rfl, hZ, hb, hkp⟩; refine ⟨_, rfl, ?_⟩; have n0_ := aM (Kd.R_reok rfl hZ (fun k_ e_ => aI.out.1 k_ e_)); have n1_ := aM (Kd.R_mono (ok' := fun k_ => some k_ ≠ (.slice bE bB.length bG : Value).ownBlock ∧ some k_ ≠ (.slice aT aN.length aU : Value).ownBlock ∧ some k_ ≠ (.slice iB cW.length iC : Value).ownBlock) (Kd.R_keptB ((Kd.R_apart' aC.out (Kd.R_typed aI.out) (by decide))) hkp (fun k_ hk_ hs_ => (hk_.2) hs_)) (fun k_ hk_ => ⟨hk_.1.1.1, hk_.1.1.2.1, hk_.1.1.2.2⟩)); have n2_ := aM (Kd.R_mono (ok' := fun k_ => some k_ ≠ (.slice bU aY.length bV : Value).ownBlock ∧ some k_ ≠ (.slice aT aN.length aU : Value).ownBlock ∧ some k_ ≠ (.slice iB cW.length iC : Value).ownBlock) (Kd.R_keptB ((Kd.R_apart' aB.out (Kd.R_typed aI.out) (by decide))) hkp (fun k_ hk_ hs_ => (hk_.2) hs_)) (fun k_ hk_ => ⟨hk_.1.1.1.1, hk_.1.1.1.2, hk_.1.1.2⟩)); have n3_ := aM (Kd.R_mono (ok' := fun k_ => some k_ ≠ (.slice bU aY.length bV : Value).ownBlock ∧ some k_ ≠ (.slice bE bB.length bG : Value).ownBlock ∧ some k_ ≠ (.slice iB cW.length iC : Value).ownBlock) (Kd.R_keptB ((Kd.R_apart' aA.out (Kd.R_typed aI.out) (by decide))) hkp (fun k_ hk_ hs_ => (hk_.2) hs_)) (fun k_ hk_ => ⟨hk_.1.1.1, hk_.1.1.2.1, hk_.1.1.2.2⟩)); have n4_ := aM (blk_kept xblk hkp (fun hs_ => (fun e_ => (Kd.R_ne aI.out aD.out (by decide)) e_) hs_)); have n5_ := aM (blk_kept xblk hkp (fun hs_ => (fun e_ => (Kd.R_ne aI.out aF.out (by decide)) e_) hs_)); have n6_ := aM (blk_kept xblk hkp (fun hs_ => (fun e_ => (Kd.R_ne aI.out aE.out (by decide)) e_) hs_)); have n7_ := aM (blk_kept xblk hkp (fun hs_ => (fun e_ => (Kd.R_ne aI.out aG.out (by decide)) e_) hs_)); have n8_ := aM (Kd.R_mono (ok' := fun k_ => some k_ ≠ (.slice bU aY.length bV : Value).ownBlock ∧ some k_ ≠ (.slice bE bB.length bG : Value).ownBlock ∧ some k_ ≠ (.slice aT aN.length aU : Value).ownBlock) (Kd.R_keptB ((Kd.R_apart' aL.out (Kd.R_typed aI.out) (by decide))) hkp (fun k_ hk_ hs_ => (hk_.2) hs_)) (fun k_ hk_ => ⟨hk_.1.1.1, hk_.1.1.2.1, hk_.1.1.2.2⟩)); have n9_ := aM (Kd.R_mono (ok' := fun k_ => some k_ ≠ (.slice eU bW.length eV : Value).ownBlock) (Kd.R_keptB (bI.out) hkp (fun k_ hk_ hs_ => (hk_) hs_)) (fun k_ hk_ => hk_.1)); have n10_ := aM (hb); clear aI; clear aC; clear aB; clear aA; clear aD; clear aF; clear aE; clear aG; clear aL; clear bI; clear HB; have aI := n0_; have aC := n1_; have aB := n2_; have aA := n3_; have aD := n4_; have aF := n5_; have aE := n6_; have aG := n7_; have aL := n8_; have bI := n9_; have HB := n10_; clear n0_ n1_ n2_ n3_ n4_ n5_ n6_ n7_ n8_ n9_ n10_; (try clear hb); (try clear hkp); (try clear hZ)))
        (try simp only [Act.put, List.setIfInBounds_toArray, List.set_cons_zero, List.set_cons_succ]); go_cut [86] (fun xZ wc => ∃ (kq : Nat) (fS : Bool), xZ = .bool fS ∧ Aside0 (laws_FnExactHardSave.j1 kq a1 l2 iA fS aO aJ cL aY bC aN = some r) ∧ Aside0 (kq ≤ cT) ∧ Aside0 (Kd.R k95 95 wc w.heap.size (fun k_ => some k_ ≠ ((.slice bE bB.length bG) : Value).ownBlock ∧ some k_ ≠ ((.slice aT aN.length aU) : Value).ownBlock) (.slice bU aY.length bV) aY) ∧ Aside0 (Kd.R k95 95 wc w.heap.size (fun k_ => some k_ ≠ ((.slice bU aY.length bV) : Value).ownBlock ∧ some k_ ≠ ((.slice aT aN.length aU) : Value).ownBlock) (.slice bE bB.length bG) dK) ∧ Aside0 (Kd.R k95 95 wc w.heap.size (fun k_ => some k_ ≠ ((.slice bU aY.length bV) : Value).ownBlock ∧ some k_ ≠ ((.slice bE bB.length bG) : Value).ownBlock) (.slice aT aN.length aU) aN) ∧ Aside0 (wc.heap[cK]? = some (.cells #[.int .i64 aO, (.slice bX aJ.length bY)] 72 (0, 0))) ∧ Aside0 (wc.heap[gZ]? = some (.cells #[.int .i64 cL, (.slice bU aY.length bV)] 26 (0, 0))) ∧ Aside0 (wc.heap[cS]? = some (.cells #[.int .i64 cG, (.slice bE bB.length bG)] 26 (0, 0))) ∧ Aside0 (wc.heap[fU]? = some (.cells #[.int .i64 bC, (.slice aT aN.length aU)] 26 (0, 0))) ∧ Aside0 (Below w.heap.size w wc))
        case first =>
         have H := lO.out; clear lO; by_cases kS : kM < 0
         ·rw [if_pos kS] at H; have dL : decide (kM < 0) = true := decide_eq_true kS; clear kS; (first | rw [dL] | (simp only [i64_w, i32_w]; rw [dL]) | skip); have H' := aM H; clear H; go_wp2; go_meet
          case rel => exact ⟨_, (true), u15_0, H', ⟨u15_3⟩, ⟨u15_4⟩, ⟨u15_5⟩, ⟨u15_6⟩, ⟨xblk⟩, ⟨xblk⟩, ⟨xblk⟩, ⟨xblk⟩, ⟨xbg⟩⟩
         ·rw [if_neg kS] at H; have dL : decide (kM < 0) = false := decide_eq_false kS; clear kS; (first | rw [dL] | (simp only [i64_w, i32_w]; rw [dL]) | skip); replace H := oB H; obtain ⟨lF, mV, H⟩ := H; (try dsimp only at H); have wL := aM mV; clear mV
          by_cases mA : lF = true
          ·subst mA; replace H := iT H; have H' := aM H; clear H; have wM := aW.out; have wN := aV.out; have wO := aQ.out; have wP := aP.out; have wQ := aS.out; have wR := aR.out; obtain ⟨fV, fW, fX, fY⟩ := xf2 (w := oK) aG; have pJ := bK.out; have pK := bJ.out; have pL := bL.out; have pM := bM.out; obtain ⟨fZ, gA, gB, gE⟩ := xf2 (w := oK) aF; go_wp2_with (first | (go_at_call 61; (with_reducible refine (laws_eqDisk.calls cT bC _ _ aN cL _ _ aY true _ ?side1 ?side2 ?side3 ?side4 wL.out).mono ?_); (case side1 => exact xC aA); (case side2 => exact u15_1); (case side3 => exact xC aC); (case side4 => exact u15_2); rintro e yA ⟨rfl, hb⟩; replace aI := xrb aI hb; replace aC := xrb aC hb; replace aB := xrb aB hb; replace aA := xrb aA hb; replace aL := xrb aL hb; replace bI := xrb bI hb; replace aD := xbb aD hb; replace aF := xbb aF hb; replace aE := xbb aE hb; replace aG := xbb aG hb; replace HB := xbs hb; (try clear hb)))
           go_meet
           case rel => exact ⟨_, ((kL != iA)), u15_0, H', ⟨u15_3⟩, ⟨u15_4⟩, ⟨u15_5⟩, ⟨u15_6⟩, ⟨xblk⟩, ⟨xblk⟩, ⟨xblk⟩, ⟨xblk⟩, ⟨xbg⟩⟩
          ·replace mA := Bool.eq_false_iff.mpr mA; subst mA; replace H := iN H; have H' := aM H; clear H; have pN := aW.out; have pO := aV.out; have pP := aQ.out; have pQ := aP.out; have pR := aS.out; have pS := aR.out; obtain ⟨gF, gG, gH, gI⟩ := xf2 (w := oK) aG; have pT := bK.out; have pU := bJ.out; have pV := bL.out; have pW := bM.out; obtain ⟨gJ, gK, gL, gM⟩ := xf2 (w := oK) aF; go_wp2_with (first | (go_at_call 61; (with_reducible refine (laws_eqDisk.calls cT bC _ _ aN cL _ _ aY false _ ?side1 ?side2 ?side3 ?side4 wL.out).mono ?_); (case side1 => exact xC aA); (case side2 => exact u15_1); (case side3 => exact xC aC); (case side4 => exact u15_2); rintro e yB ⟨rfl, hb⟩; replace aI := xrb aI hb; replace aC := xrb aC hb; replace aB := xrb aB hb; replace aA := xrb aA hb; replace aL := xrb aL hb; replace bI := xrb bI hb; replace aD := xbb aD hb; replace aF := xbb aF hb; replace aE := xbb aE hb; replace aG := xbb aG hb; replace HB := xbs hb; (try clear hb)))
           go_meet
           case rel => exact ⟨_, (true), u15_0, H', ⟨u15_3⟩, ⟨u15_4⟩, ⟨u15_5⟩, ⟨u15_6⟩, ⟨xblk⟩, ⟨xblk⟩, ⟨xblk⟩, ⟨xblk⟩, ⟨xbg⟩⟩
        case rest =>
         clear lO; try clear c1
         try clear c2
         try clear p2
         try clear c3
         try clear c4
         try clear c5
         try clear kK
         try clear c6
         try clear c7
         try clear c8
         try clear c9
         try clear c10
         try clear gY
         try clear vK
         try clear vL
         try clear vM
         try clear vN
         try clear vO
         try clear vP
         try clear vQ
         try clear lM
         try clear vR
         try clear vS
         try clear vT
         try clear vU
         try clear vV
         try clear vW
         try clear vX
         try clear yC
         try clear vY
         try clear vZ
         try clear wA
         try clear wB
         try clear wC
         try clear lX
         try clear lY
         try clear lZ
         try clear yD
         try clear yE
         try clear yF
         try clear kS
         try clear dL
         try clear mA
         try clear yG
         try clear yH
         try clear yI
         try clear pX
         try clear pY
         try clear pZ
         try clear qA
         try clear qB
         try clear qC
         try clear qD
         try clear fV fW
         try clear fZ gA
         try clear gF gG
         try clear gJ gK
         try clear dR dS
         try clear dW dX
         try clear eA eB
         try clear eE eF
         try clear eI eJ
         try clear eM eN
         try clear eQ eR
         try clear eW eX
         try clear fB fC
         try clear fF fG
         try clear fJ fK
         try clear fN fO
         try clear gP gQ
         try clear hJ hU
         try clear fX fY
         try clear gB gE
         try clear gH gI
         try clear gL gM
         try clear dU dV
         try clear dY dZ
         try clear eC eD
         try clear eG eH
         try clear eK eL
         try clear eO eP
         try clear eS eT
         try clear eY eZ
         try clear fD fE
         try clear fH fI
         try clear fL fM
         try clear fP fQ
         try clear gR gS
         try clear hX hY
         try clear p2
         obtain ⟨kq, fS, rfl, HA, HJ79, aC, aB, aA, aD, aF, aE, aG, HB⟩ := hcut; have aH := (Kd.R_reads' aB.out).1; rw [aH] at aB; (try simp only [aH]); (try simp only [aH] at aD); (try simp only [aH] at aF); (try simp only [aH] at aE); (try simp only [aH] at aG); (try simp only [aH] at aC); (try simp only [aH] at aA); cases kq with
         | zero => exact absurd HA.out (by simp [laws_FnExactHardSave.j1])
         | succ dJ =>
          have H := HA.out; clear HA; simp only [laws_FnExactHardSave.j1] at H; by_cases iJ : fS = true
          ·subst iJ; replace H := iT H; obtain rfl := Option.some.inj H; go_wp2; go_ret
           exact ⟨xerr, xbg⟩
          ·replace iJ := Bool.eq_false_iff.mpr iJ; subst iJ; replace H := iN H; replace H := oB H; obtain ⟨⟨iD, cF⟩, kT, H⟩ := H; (try dsimp only at H); have lP := aM kT; clear kT; replace H := oB H
           obtain ⟨dM, kU, H⟩ := H; (try dsimp only at H); have lQ := aM kU; clear kU
           by_cases gT : dM < 0
           ·rw [if_pos gT] at H; have iK : decide (dM < 0) = true := decide_eq_true gT; clear gT; obtain rfl := Option.some.inj H; have qE := aW.out; have qF := aV.out; have qG := aQ.out; have qH := aP.out; have qI := aS.out; have qJ := aR.out; obtain ⟨iL, iM, iO, iP⟩ := xf2 (w := wc) aG; go_wp2_with (first | ((with_reducible refine gC 63 rfl ?_); refine goesLY (some 89) rfl Try.func63 #[.agg #[.int .i64 bC, .slice aT aN.length aU], .int .i64 1] ?_; (with_reducible refine (laws_markDisk.calls dJ bC (fun k_ => some k_ = (.slice aT aN.length aU : Value).ownBlock) (.slice aT aN.length aU) aN 1 iD cF w _ ?side1 ?side2 lP.out).mono ?_); (case side1 => exact xbg); (case side2 => exact Kd.R_tight rfl aA.out); rintro e qK ⟨rfl, hZ, hb, hkp⟩; refine ⟨_, rfl, ?_⟩; have n0_ := aM (Kd.R_mono (ok' := fun k_ => some k_ ≠ (.slice bE dK.length bG : Value).ownBlock ∧ some k_ ≠ (.slice aT aN.length aU : Value).ownBlock) (Kd.R_keptB (aC.out) hkp (fun k_ hk_ hs_ => (hk_.2) hs_)) (fun k_ hk_ => ⟨hk_.1.1, hk_.1.2⟩)); have n1_ := aM (Kd.R_mono (ok' := fun k_ => some k_ ≠ (.slice bU aY.length bV : Value).ownBlock ∧ some k_ ≠ (.slice aT aN.length aU : Value).ownBlock) (Kd.R_keptB (aB.out) hkp (fun k_ hk_ hs_ => (hk_.2) hs_)) (fun k_ hk_ => ⟨hk_.1.1, hk_.1.2⟩)); have n2_ := aM (Kd.R_reok rfl hZ (fun k_ e_ => aA.out.1 k_ e_)); have n3_ := aM (blk_kept xblk hkp (fun hs_ => (fun e_ => (Kd.R_ne aA.out aD.out (by decide)) e_) hs_)); have n4_ := aM (blk_kept xblk hkp (fun hs_ => (fun e_ => (Kd.R_ne aA.out aF.out (by decide)) e_) hs_)); have n5_ := aM (blk_kept xblk hkp (fun hs_ => (fun e_ => (Kd.R_ne aA.out aE.out (by decide)) e_) hs_)); have n6_ := aM (blk_kept xblk hkp (fun hs_ => (fun e_ => (Kd.R_ne aA.out aG.out (by decide)) e_) hs_)); have n7_ := aM (hb); clear aC; clear aB; clear aA; clear aD; clear aF; clear aE; clear aG; clear HB; have aC := n0_; have aB := n1_; have aA := n2_; have aD := n3_; have aF := n4_; have aE := n5_; have aG := n6_; have HB := n7_; clear n0_ n1_ n2_ n3_ n4_ n5_ n6_ n7_; (try clear hb); (try clear hkp); (try clear hZ); obtain ⟨iQ, iR, iS, iU⟩ := xf2 (w := qK) aG) | ((with_reducible refine gC 65 rfl ?_); refine goesL_ (some 92) rfl rfl Try.func65 (by kernel_rfl) rfl #[.agg #[.int .i64 bC, .slice aT cF.length aU], .int .i64 1] rfl u15_7 ?_; (with_reducible refine (laws_heldDisk.calls dJ bC _ _ cF 1 dM _ ?side1 ?side2 lQ.out).mono ?_); (case side1 => exact xC aA); (case side2 => exact u15_8); rintro e yJ ⟨rfl, hb⟩; refine ⟨_, rfl, ?_⟩; replace aC := xrb aC hb; replace aB := xrb aB hb; replace aA := xrb aA hb; replace aD := xbb aD hb; replace aF := xbb aF hb; replace aE := xbb aE hb; replace aG := xbb aG hb; replace HB := xbs hb; (try clear hb)))
            go_ret
            exact ⟨xerr, xbg⟩
           ·rw [if_neg gT] at H; have iK : decide (dM < 0) = false := decide_eq_false gT; clear gT; by_cases iE : dM = iD
            ·rw [if_pos iE] at H; obtain ⟨iV, iW⟩ := bT iE; clear iE; replace H := oB H; obtain ⟨⟨lR, lS⟩, kV, H⟩ := H; (try dsimp only at H); have qL := aM kV; clear kV; replace H := oB H
             obtain ⟨iG, kW, H⟩ := H; (try dsimp only at H); have qM := aM kW; clear kW; replace H := oB H
             obtain ⟨⟨gN, dC, mW⟩, kX, H⟩ := H; (try dsimp only at H); have qN := aM kX; clear kX; have iX := aM H; clear H; have qO := aW.out; have qP := aV.out; have qQ := aQ.out; have qR := aP.out; have qS := aS.out; have qT := aR.out; obtain ⟨iY, iZ, jA, jB⟩ := xf2 (w := wc) aG
             go_upto_region 32 with (first | ((with_reducible refine gC 63 rfl ?_); refine goesLY (some 89) rfl Try.func63 #[.agg #[.int .i64 bC, .slice aT aN.length aU], .int .i64 1] ?_; (with_reducible refine (laws_markDisk.calls dJ bC (fun k_ => some k_ = (.slice aT aN.length aU : Value).ownBlock) (.slice aT aN.length aU) aN 1 iD cF w _ ?side1 ?side2 lP.out).mono ?_); (case side1 => exact xbg); (case side2 => exact Kd.R_tight rfl aA.out); rintro e qU ⟨rfl, hZ, hb, hkp⟩; refine ⟨_, rfl, ?_⟩; have n0_ := aM (Kd.R_mono (ok' := fun k_ => some k_ ≠ (.slice bE dK.length bG : Value).ownBlock ∧ some k_ ≠ (.slice aT aN.length aU : Value).ownBlock) (Kd.R_keptB (aC.out) hkp (fun k_ hk_ hs_ => (hk_.2) hs_)) (fun k_ hk_ => ⟨hk_.1.1, hk_.1.2⟩)); have n1_ := aM (Kd.R_mono (ok' := fun k_ => some k_ ≠ (.slice bU aY.length bV : Value).ownBlock ∧ some k_ ≠ (.slice aT aN.length aU : Value).ownBlock) (Kd.R_keptB (aB.out) hkp (fun k_ hk_ hs_ => (hk_.2) hs_)) (fun k_ hk_ => ⟨hk_.1.1, hk_.1.2⟩)); have n2_ := aM (Kd.R_reok rfl hZ (fun k_ e_ => aA.out.1 k_ e_)); have n3_ := aM (blk_kept xblk hkp (fun hs_ => (fun e_ => (Kd.R_ne aA.out aD.out (by decide)) e_) hs_)); have n4_ := aM (blk_kept xblk hkp (fun hs_ => (fun e_ => (Kd.R_ne aA.out aF.out (by decide)) e_) hs_)); have n5_ := aM (blk_kept xblk hkp (fun hs_ => (fun e_ => (Kd.R_ne aA.out aE.out (by decide)) e_) hs_)); have n6_ := aM (blk_kept xblk hkp (fun hs_ => (fun e_ => (Kd.R_ne aA.out aG.out (by decide)) e_) hs_)); have n7_ := aM (hb); clear aC; clear aB; clear aA; clear aD; clear aF; clear aE; clear aG; clear HB; have aC := n0_; have aB := n1_; have aA := n2_; have aD := n3_; have aF := n4_; have aE := n5_; have aG := n6_; have HB := n7_; clear n0_ n1_ n2_ n3_ n4_ n5_ n6_ n7_; (try clear hb); (try clear hkp); (try clear hZ); obtain ⟨jC, jD, jE, jF⟩ := xf2 (w := qU) aG) | ((with_reducible refine gC 65 rfl ?_); refine goesL_ (some 92) rfl rfl Try.func65 (by kernel_rfl) rfl #[.agg #[.int .i64 bC, .slice aT cF.length aU], .int .i64 1] rfl u15_7 ?_; (with_reducible refine (laws_heldDisk.calls dJ bC _ _ cF 1 dM _ ?side1 ?side2 lQ.out).mono ?_); (case side1 => exact xC aA); (case side2 => exact u15_8); rintro e qV ⟨rfl, hb⟩; refine ⟨_, rfl, ?_⟩; replace aC := xrb aC hb; replace aB := xrb aB hb; replace aA := xrb aA hb; replace aD := xbb aD hb; replace aF := xbb aF hb; replace aE := xbb aE hb; replace aG := xbb aG hb; replace HB := xbs hb; (try clear hb); have qW := bJ.out; have qX := bK.out; have qY := dA.out; have qZ := dB.out; obtain ⟨jG, jH, jI, jJ⟩ := xf2 (w := qV) aD) | ((with_reducible refine gC 58 rfl ?_); refine goesLY (some 100) rfl Try.func58 #[.agg #[.int .i64 aO, .slice bX aJ.length bY]] ?_; (with_reducible refine (laws_toDisk.calls dJ aO _ _ aJ lR lS _ ?side1 ?side2 qL.out).mono ?_); (case side1 => exact xcb cU); (case side2 => exact cV.out); rintro e yK ⟨yL, rfl, bH, hb⟩; refine ⟨_, rfl, ?_⟩; have cD := aM (Kd.R_lower (Kd.R_new' (Kd.R_new' (Kd.R_new' bH (Kd.R_lt (xr aC))) (Kd.R_lt (xr aB))) (Kd.R_lt (xr aA))) (below_size xbg)); replace aC := aM (Kd.R_elder' (xr aC) (Kd.R_base bH) hb); replace aB := aM (Kd.R_elder' (xr aB) (Kd.R_base bH) hb); replace aA := aM (Kd.R_elder' (xr aA) (Kd.R_base bH) hb); replace aD := xbb aD hb; replace aF := xbb aF hb; replace aE := xbb aE hb; replace aG := xbb aG hb; replace HB := xbs hb; (try clear hb bH)) | ((with_reducible refine gC 59 rfl ?_); refine goesLY (some 103) rfl Try.func59 #[.slice A2 l2.length c2] ?_; (with_reducible refine (laws_toRecS.calls dJ _ _ l2 iG _ ?side1 ?side2 qM.out).mono ?_); (case side1 => exact xcb lH); (case side2 => exact lI.out); rintro e yM ⟨yN, rfl, bH, hb⟩; refine ⟨_, rfl, ?_⟩; replace aC := xrb aC hb; replace aB := xrb aB hb; replace aA := xrb aA hb; replace cD := xrb cD hb; have cM := aM (Kd.R_lower bH (below_size xbg)); replace aD := xbb aD hb; replace aF := xbb aF hb; replace aE := xbb aE hb; replace aG := xbb aG hb; replace HB := xbs hb; (try clear hb bH); obtain ⟨mX, mY, mZ⟩ := Kd.R_slice cD.out; subst mZ; obtain ⟨nA, nB, nC⟩ := Kd.R_slice cM.out; subst nC) | ((with_reducible refine gC 60 rfl ?_); refine goesLY (some 104) rfl Try.func60 #[.agg #[.int .i64 lR, .slice mX lS.length mY], .int .i64 a1, .slice nA iG.length nB] ?_; (with_reducible refine (impl_HardSave.calls dJ lR _ _ lS a1 _ _ iG gN dC mW _ ?side1 ?side2 ?side3 ?side4 qN.out).mono ?_); (case side1 => exact xC cD); (case side2 => exact (Kd.R_reads' cD.out).2.1); (case side3 => exact xC cM); (case side4 => exact (Kd.R_reads' cM.out).2.1); rintro e yO ⟨yP, rfl, bH, hb⟩; refine ⟨_, rfl, ?_⟩; replace cM := xrb cM hb; have cJ := aM (Kd.R_lower (Kd.R_new' (Kd.R_new' (Kd.R_new' (Kd.R_new' bH (Kd.R_lt (xr aC))) (Kd.R_lt (xr aB))) (Kd.R_lt (xr aA))) (Kd.R_lt (xr cD))) (below_size xbg)); replace aC := aM (Kd.R_elder' (xr aC) (Kd.R_base bH) hb); replace aB := aM (Kd.R_elder' (xr aB) (Kd.R_base bH) hb); replace aA := aM (Kd.R_elder' (xr aA) (Kd.R_base bH) hb); replace cD := aM (Kd.R_elder' (xr cD) (Kd.R_base bH) hb); replace aD := xbb aD hb; replace aF := xbb aF hb; replace aE := xbb aE hb; replace aG := xbb aG hb; replace HB := xbs hb; (try clear hb bH)) | ((with_reducible refine gD 17 rfl ?_); refine boxE (N := 17) rfl (cs := #[.int .i64 0, .slice none 0 0]) (t := 26) ?_; intro jK hg jL hbox hb; replace aC := xrb aC hb; replace aB := xrb aB hb; replace aA := xrb aA hb; replace cD := xrb cD hb; replace cM := xrb cM hb; replace cJ := xrb cJ hb; have wS := aM (xge hg); have wT := aM (xge hg); replace HB := xbs hb; have dD := nblt aD hg; have dE := nbgt aD hg; have dF := nblt aF hg; have dG := nbgt aF hg; have dH := nblt aE hg; have dI := nbgt aE hg; have bZ := nblt aG hg; have cA := nbgt aG hg; replace aD := xbb aD hb; replace aF := xbb aF hb; replace aE := xbb aE hb; replace aG := xbb aG hb; have cB := aM (hbox); clear hb hbox hg; have rA := dE.out; have rB := dD.out; have rC := dG.out; have rE := dF.out; have rF := dI.out; have rG := dH.out; have rH := cA.out; have rI := bZ.out; obtain ⟨jM, jN, jO, jP⟩ := xf2 (w := jL) cB; obtain ⟨cX, cY, nD⟩ := Kd.R_slice cJ.out; subst nD))
             (try simp only [Act.put, List.setIfInBounds_toArray, List.set_cons_zero, List.set_cons_succ]); go_cut [115] (fun rJ wc => ∃ (kq : Nat) (cZ : Bool), rJ = .bool cZ ∧ Aside0 (laws_FnExactHardSave.j2 kq iD cZ bC cF = some r) ∧ Aside0 (kq ≤ dJ) ∧ Aside0 (Kd.R k95 95 wc w.heap.size (fun k_ => some k_ ≠ ((.slice bE dK.length bG) : Value).ownBlock ∧ some k_ ≠ ((.slice aT aN.length aU) : Value).ownBlock ∧ some k_ ≠ ((.slice cX dC.length cY) : Value).ownBlock) (.slice bU aY.length bV) aY) ∧ Aside0 (Kd.R k95 95 wc w.heap.size (fun k_ => some k_ ≠ ((.slice bU aY.length bV) : Value).ownBlock ∧ some k_ ≠ ((.slice aT aN.length aU) : Value).ownBlock ∧ some k_ ≠ ((.slice cX dC.length cY) : Value).ownBlock) (.slice bE dK.length bG) dK) ∧ Aside0 (Kd.R k95 95 wc w.heap.size (fun k_ => some k_ ≠ ((.slice bU aY.length bV) : Value).ownBlock ∧ some k_ ≠ ((.slice bE dK.length bG) : Value).ownBlock ∧ some k_ ≠ ((.slice cX dC.length cY) : Value).ownBlock) (.slice aT aN.length aU) cF) ∧ Aside0 (Kd.R k95 95 wc w.heap.size (fun k_ => some k_ ≠ ((.slice bU aY.length bV) : Value).ownBlock ∧ some k_ ≠ ((.slice bE dK.length bG) : Value).ownBlock ∧ some k_ ≠ ((.slice aT aN.length aU) : Value).ownBlock) (.slice cX dC.length cY) dC) ∧ Aside0 (wc.heap[cK]? = some (.cells #[.int .i64 aO, (.slice bX aJ.length bY)] 72 (0, 0))) ∧ Aside0 (wc.heap[gZ]? = some (.cells #[.int .i64 cL, (.slice bU aY.length bV)] 26 (0, 0))) ∧ Aside0 (wc.heap[cS]? = some (.cells #[.int .i64 cG, (.slice bE dK.length bG)] 26 (0, 0))) ∧ Aside0 (wc.heap[fU]? = some (.cells #[.int .i64 bC, (.slice aT aN.length aU)] 26 (0, 0))) ∧ Aside0 (wc.heap[jK]? = some (.cells #[.int .i64 gN, (.slice cX dC.length cY)] 26 (0, 0))) ∧ Aside0 (Below w.heap.size w wc))
             case first =>
              have H := iX.out; clear iX; replace H := oB H; obtain ⟨lG, kY, H⟩ := H; (try dsimp only at H); have nE := aM kY; clear kY
              by_cases jQ : lG = true
              ·subst jQ; replace H := iT H; have H' := aM H; clear H; have rK := dE.out; have rL := dD.out; have rM := dG.out; have rN := dF.out; have rO := dI.out; have rP := dH.out; have rQ := cA.out; have rR := bZ.out; obtain ⟨jR, jS, jT, jU⟩ := xf2 (w := jL) cB; have rS := bK.out; have rT := bJ.out; have rU := bL.out; have rV := bM.out; have rW := aP.out; have rX := aQ.out; obtain ⟨jV, jW, jX, jY⟩ := xf2 (w := jL) aF; go_wp2_with (first | ((with_reducible refine gC 61 rfl ?_); refine goesLY (some 109) rfl Try.func61 #[.agg #[.int .i64 gN, .slice cX dC.length cY], .agg #[.int .i64 cL, .slice bU aY.length bV]] ?_; (with_reducible refine (laws_eqDisk.calls dJ gN _ _ dC cL _ _ aY true _ ?side1 ?side2 ?side3 ?side4 nE.out).mono ?_); (case side1 => exact (Kd.R_reads' (xrs cJ)).2.2); (case side2 => exact (Kd.R_reads' cJ.out).2.1); (case side3 => exact (Kd.R_reads' (xrs aC)).2.2); (case side4 => exact u15_2); rintro e yQ ⟨rfl, hb⟩; refine ⟨_, rfl, ?_⟩; replace aC := xrB aC hb; replace aB := xrB aB hb; replace aA := xrB aA hb; replace cD := xrB cD hb; replace cM := xrB cM hb; replace cJ := xrB cJ hb; replace aD := xbc aD hb; replace aF := xbc aF hb; replace aE := xbc aE hb; replace aG := xbc aG hb; replace cB := aM (blk_below (g := jK) (o := .cells #[.int .i64 gN, .slice cX dC.length cY] 26 (0, 0)) xP hb); replace HB := xbs hb; (try clear hb)))
               go_meet
               case rel => exact ⟨_, ((mW != iA)), u15_0, H', ⟨by have := HJ20.out; have := HJ79.out; first | omega | exact Nat.le_refl _⟩, ⟨u15_13⟩, ⟨u15_14⟩, ⟨u15_15⟩, ⟨u15_16⟩, ⟨by (try simp only [aH]); refine bS ?_; exact aD.out⟩, ⟨by (try simp only [aH]); refine bS ?_; exact aF.out⟩, ⟨by (try simp only [aH]); refine bS ?_; exact aE.out⟩, ⟨by (try simp only [aH]); refine bS ?_; exact aG.out⟩, ⟨by (try simp only [aH]); refine bS ?_; exact cB.out⟩, ⟨xbg⟩⟩
              ·replace jQ := Bool.eq_false_iff.mpr jQ; subst jQ; replace H := iN H; have H' := aM H; clear H; have rY := dE.out; have rZ := dD.out; have sA := dG.out; have sB := dF.out; have sC := dI.out; have sD := dH.out; have sE := cA.out; have sF := bZ.out; obtain ⟨jZ, kA, kB, kC⟩ := xf2 (w := jL) cB; have sG := bK.out; have sH := bJ.out; have sI := bL.out; have sJ := bM.out; have sK := aP.out; have sL := aQ.out; obtain ⟨kE, kF, kG, kH⟩ := xf2 (w := jL) aF; go_wp2_with (first | ((with_reducible refine gC 61 rfl ?_); refine goesLY (some 109) rfl Try.func61 #[.agg #[.int .i64 gN, .slice cX dC.length cY], .agg #[.int .i64 cL, .slice bU aY.length bV]] ?_; (with_reducible refine (laws_eqDisk.calls dJ gN _ _ dC cL _ _ aY false _ ?side1 ?side2 ?side3 ?side4 nE.out).mono ?_); (case side1 => exact (Kd.R_reads' (xrs cJ)).2.2); (case side2 => exact (Kd.R_reads' cJ.out).2.1); (case side3 => exact (Kd.R_reads' (xrs aC)).2.2); (case side4 => exact u15_2); rintro e yR ⟨rfl, hb⟩; refine ⟨_, rfl, ?_⟩; replace aC := xrB aC hb; replace aB := xrB aB hb; replace aA := xrB aA hb; replace cD := xrB cD hb; replace cM := xrB cM hb; replace cJ := xrB cJ hb; replace aD := xbc aD hb; replace aF := xbc aF hb; replace aE := xbc aE hb; replace aG := xbc aG hb; replace cB := aM (blk_below (g := jK) (o := .cells #[.int .i64 gN, .slice cX dC.length cY] 26 (0, 0)) xP hb); replace HB := xbs hb; (try clear hb)))
               go_meet
               case rel => exact ⟨_, (true), u15_0, H', ⟨by have := HJ20.out; have := HJ79.out; first | omega | exact Nat.le_refl _⟩, ⟨u15_13⟩, ⟨u15_14⟩, ⟨u15_15⟩, ⟨u15_16⟩, ⟨by (try simp only [aH]); refine bS ?_; exact aD.out⟩, ⟨by (try simp only [aH]); refine bS ?_; exact aF.out⟩, ⟨by (try simp only [aH]); refine bS ?_; exact aE.out⟩, ⟨by (try simp only [aH]); refine bS ?_; exact aG.out⟩, ⟨by (try simp only [aH]); refine bS ?_; exact cB.out⟩, ⟨xbg⟩⟩
             case rest =>
              clear iX; try clear c1
              try clear c2
              try clear p2
              try clear c3
              try clear c4
              try clear c5
              try clear kK
              try clear c6
              try clear c7
              try clear c8
              try clear c9
              try clear c10
              try clear gY
              try clear vK
              try clear AV
              try clear AW
              try clear AX
              try clear AY
              try clear AZ
              try clear BA
              try clear vL
              try clear vM
              try clear vN
              try clear vO
              try clear vP
              try clear vQ
              try clear lM
              try clear vR
              try clear vS
              try clear vT
              try clear vU
              try clear vV
              try clear vW
              try clear vX
              try clear yC
              try clear vY
              try clear vZ
              try clear wA
              try clear wB
              try clear wC
              try clear lX
              try clear lY
              try clear lZ
              try clear yD
              try clear yE
              try clear yF
              try clear kS
              try clear dL
              try clear mA
              try clear yG
              try clear yH
              try clear yI
              try clear pX
              try clear pY
              try clear pZ
              try clear qA
              try clear qB
              try clear qC
              try clear qD
              try clear iJ
              try clear gT
              try clear iK
              try clear yS
              try clear yT
              try clear yU
              try clear iE
              try clear iV
              try clear iW
              try clear yV
              try clear yW
              try clear yX
              try clear yY
              try clear yZ
              try clear zA
              try clear zB
              try clear zC
              try clear zD
              try clear jQ
              try clear zE
              try clear zF
              try clear zG
              try clear zH
              try clear zI
              try clear zJ
              try clear zK
              try clear zL
              try clear zM
              try clear zN
              try clear zO
              try clear zP
              try clear zQ
              try clear zR
              try clear fV fW
              try clear fZ gA
              try clear gF gG
              try clear gJ gK
              try clear iL iM
              try clear iQ iR
              try clear dR dS
              try clear iY iZ
              try clear jC jD
              try clear jG jH
              try clear jM jN
              try clear jR jS
              try clear jV jW
              try clear jZ kA
              try clear kE kF
              try clear dW dX
              try clear eA eB
              try clear eE eF
              try clear eI eJ
              try clear eM eN
              try clear eQ eR
              try clear eW eX
              try clear fB fC
              try clear fF fG
              try clear fJ fK
              try clear fN fO
              try clear gP gQ
              try clear hJ hU
              try clear fX fY
              try clear gB gE
              try clear gH gI
              try clear gL gM
              try clear iO iP
              try clear iS iU
              try clear dU dV
              try clear jA jB
              try clear jE jF
              try clear jI jJ
              try clear jO jP
              try clear jT jU
              try clear jX jY
              try clear kB kC
              try clear kG kH
              try clear dY dZ
              try clear eC eD
              try clear eG eH
              try clear eK eL
              try clear eO eP
              try clear eS eT
              try clear eY eZ
              try clear fD fE
              try clear fH fI
              try clear fL fM
              try clear fP fQ
              try clear gR gS
              try clear hX hY
              try clear p2
              obtain ⟨kq, cZ, rfl, HA, HJ127, aC, aB, aA, bQ, aD, aF, aE, aG, cB, HB⟩ := hcut; have aK := (Kd.R_reads' aA.out).1; rw [aK] at aA; (try simp only [aK]); (try simp only [aK] at aD); (try simp only [aK] at aF); (try simp only [aK] at aE); (try simp only [aK] at aG); (try simp only [aK] at cB); (try simp only [aK] at aC); (try simp only [aK] at aB); (try simp only [aK] at bQ); cases kq with
              | zero => exact absurd HA.out (by simp [laws_FnExactHardSave.j2])
              | succ kI =>
               have H := HA.out; clear HA; simp only [laws_FnExactHardSave.j2] at H; by_cases kN : cZ = true
               ·subst kN; replace H := iT H; obtain rfl := Option.some.inj H; go_wp2; go_ret
                exact ⟨xerr, xbg⟩
               ·replace kN := Bool.eq_false_iff.mpr kN; subst kN; replace H := iN H; replace H := oB H; obtain ⟨dN, kZ, H⟩ := H; (try dsimp only at H); have lT := aM kZ; clear kZ
                by_cases iF : dN < 0
                ·rw [if_pos iF] at H; have lU : decide (dN < 0) = true := decide_eq_true iF; clear iF; obtain rfl := Option.some.inj H; have sM := aW.out; have sN := aV.out; have sO := aQ.out; have sP := aP.out; have sQ := aS.out; have sR := aR.out; have sS := bZ.out; have sU := cA.out; obtain ⟨nF, nG, nH, nI⟩ := xf2 (w := wc) aG; go_wp2_with (first | ((with_reducible refine gC 65 rfl ?_); refine goesLY (some 118) rfl Try.func65 #[.agg #[.int .i64 bC, .slice aT cF.length aU], .int .i64 1] ?_; (with_reducible refine (laws_heldDisk.calls kI bC _ _ cF 1 dN _ ?side1 ?side2 lT.out).mono ?_); (case side1 => exact xC aA); (case side2 => exact u15_1); rintro e zS ⟨rfl, hb⟩; refine ⟨_, rfl, ?_⟩; replace aC := xrb aC hb; replace aB := xrb aB hb; replace aA := xrb aA hb; replace bQ := xrb bQ hb; replace aD := xbb aD hb; replace aF := xbb aF hb; replace aE := xbb aE hb; replace aG := xbb aG hb; replace cB := xbb cB hb; replace HB := xbs hb; (try clear hb)))
                 go_ret
                 exact ⟨xerr, xbg⟩
                ·rw [if_neg iF] at H; have lU : decide (dN < 0) = false := decide_eq_false iF; clear iF; by_cases kJ : dN = iD
                 ·rw [if_pos kJ] at H; obtain ⟨lV, lW⟩ := bT kJ; clear kJ; obtain rfl := Option.some.inj H; have sV := aW.out; have sW := aV.out; have sX := aQ.out; have sY := aP.out; have sZ := aS.out; have tA := aR.out; have tB := bZ.out; have tC := cA.out; obtain ⟨nJ, nK, nL, nM⟩ := xf2 (w := wc) aG; go_wp2_with (first | ((with_reducible refine gC 65 rfl ?_); refine goesLY (some 118) rfl Try.func65 #[.agg #[.int .i64 bC, .slice aT cF.length aU], .int .i64 1] ?_; (with_reducible refine (laws_heldDisk.calls kI bC _ _ cF 1 dN _ ?side1 ?side2 lT.out).mono ?_); (case side1 => exact xC aA); (case side2 => exact u15_1); rintro e zT ⟨rfl, hb⟩; refine ⟨_, rfl, ?_⟩; replace aC := xrb aC hb; replace aB := xrb aB hb; replace aA := xrb aA hb; replace bQ := xrb bQ hb; replace aD := xbb aD hb; replace aF := xbb aF hb; replace aE := xbb aE hb; replace aG := xbb aG hb; replace cB := xbb cB hb; replace HB := xbs hb; (try clear hb)))
                  go_ret
                  exact ⟨xerr, xbg⟩
                 ·rw [if_neg kJ] at H; obtain ⟨lV, lW⟩ := bF kJ; obtain rfl := Option.some.inj H; have tD := aW.out; have tE := aV.out; have tF := aQ.out; have tG := aP.out; have tH := aS.out; have tI := aR.out; have tJ := bZ.out; have tK := cA.out; obtain ⟨nN, nO, nP, nQ⟩ := xf2 (w := wc) aG; go_wp2_with (first | ((with_reducible refine gC 65 rfl ?_); refine goesLY (some 118) rfl Try.func65 #[.agg #[.int .i64 bC, .slice aT cF.length aU], .int .i64 1] ?_; (with_reducible refine (laws_heldDisk.calls kI bC _ _ cF 1 dN _ ?side1 ?side2 lT.out).mono ?_); (case side1 => exact xC aA); (case side2 => exact u15_1); rintro e zU ⟨rfl, hb⟩; refine ⟨_, rfl, ?_⟩; replace aC := xrb aC hb; replace aB := xrb aB hb; replace aA := xrb aA hb; replace bQ := xrb bQ hb; replace aD := xbb aD hb; replace aF := xbb aF hb; replace aE := xbb aE hb; replace aG := xbb aG hb; replace cB := xbb cB hb; replace HB := xbs hb; (try clear hb)))
                  go_ret
                  exact ⟨xerr, xbg⟩
            ·rw [if_neg iE] at H; obtain ⟨iV, iW⟩ := bF iE; obtain rfl := Option.some.inj H; have tL := aW.out; have tM := aV.out; have tN := aQ.out; have tO := aP.out; have tP := aS.out; have tQ := aR.out; obtain ⟨nR, nS, nT, nU⟩ := xf2 (w := wc) aG; go_wp2_with (first | ((with_reducible refine gC 63 rfl ?_); refine goesLY (some 89) rfl Try.func63 #[.agg #[.int .i64 bC, .slice aT aN.length aU], .int .i64 1] ?_; (with_reducible refine (laws_markDisk.calls dJ bC (fun k_ => some k_ = (.slice aT aN.length aU : Value).ownBlock) (.slice aT aN.length aU) aN 1 iD cF w _ ?side1 ?side2 lP.out).mono ?_); (case side1 => exact xbg); (case side2 => exact Kd.R_tight rfl aA.out); rintro e tR ⟨rfl, hZ, hb, hkp⟩; refine ⟨_, rfl, ?_⟩; have n0_ := aM (Kd.R_mono (ok' := fun k_ => some k_ ≠ (.slice bE dK.length bG : Value).ownBlock ∧ some k_ ≠ (.slice aT aN.length aU : Value).ownBlock) (Kd.R_keptB (aC.out) hkp (fun k_ hk_ hs_ => (hk_.2) hs_)) (fun k_ hk_ => ⟨hk_.1.1, hk_.1.2⟩)); have n1_ := aM (Kd.R_mono (ok' := fun k_ => some k_ ≠ (.slice bU aY.length bV : Value).ownBlock ∧ some k_ ≠ (.slice aT aN.length aU : Value).ownBlock) (Kd.R_keptB (aB.out) hkp (fun k_ hk_ hs_ => (hk_.2) hs_)) (fun k_ hk_ => ⟨hk_.1.1, hk_.1.2⟩)); have n2_ := aM (Kd.R_reok rfl hZ (fun k_ e_ => aA.out.1 k_ e_)); have n3_ := aM (blk_kept xblk hkp (fun hs_ => (fun e_ => (Kd.R_ne aA.out aD.out (by decide)) e_) hs_)); have n4_ := aM (blk_kept xblk hkp (fun hs_ => (fun e_ => (Kd.R_ne aA.out aF.out (by decide)) e_) hs_)); have n5_ := aM (blk_kept xblk hkp (fun hs_ => (fun e_ => (Kd.R_ne aA.out aE.out (by decide)) e_) hs_)); have n6_ := aM (blk_kept xblk hkp (fun hs_ => (fun e_ => (Kd.R_ne aA.out aG.out (by decide)) e_) hs_)); have n7_ := aM (hb); clear aC; clear aB; clear aA; clear aD; clear aF; clear aE; clear aG; clear HB; have aC := n0_; have aB := n1_; have aA := n2_; have aD := n3_; have aF := n4_; have aE := n5_; have aG := n6_; have HB := n7_; clear n0_ n1_ n2_ n3_ n4_ n5_ n6_ n7_; (try clear hb); (try clear hkp); (try clear hZ); obtain ⟨nV, nW, nX, nY⟩ := xf2 (w := tR) aG) | ((with_reducible refine gC 65 rfl ?_); refine goesL_ (some 92) rfl rfl Try.func65 (by kernel_rfl) rfl #[.agg #[.int .i64 bC, .slice aT cF.length aU], .int .i64 1] rfl u15_7 ?_; (with_reducible refine (laws_heldDisk.calls dJ bC _ _ cF 1 dM _ ?side1 ?side2 lQ.out).mono ?_); (case side1 => exact xC aA); (case side2 => exact u15_8); rintro e zV ⟨rfl, hb⟩; refine ⟨_, rfl, ?_⟩; replace aC := xrb aC hb; replace aB := xrb aB hb; replace aA := xrb aA hb; replace aD := xbb aD hb; replace aF := xbb aF hb; replace aE := xbb aE hb; replace aG := xbb aG hb; replace HB := xbs hb; (try clear hb)))
             go_ret
             exact ⟨xerr, xbg⟩
       ·replace lZ := Bool.eq_false_iff.mpr lZ; subst lZ; replace H := iN H; obtain rfl := Option.some.inj H; try go_wp2
        replace aI := rD aI; replace aC := rD aC; replace aB := rD aB; replace aA := rD aA; replace aD := bD aD; replace aF := bD aF; replace aE := bD aE; replace aG := bD aG; replace HB := lD HB; refine start_ (n := 5) (S := fun w' => w'.cell? ⟨cS, 0, none⟩ = some (.int .i64 cG) ∧ w'.cell? ⟨cS, 1, none⟩ = some (.slice bE bB.length bG) ∧ w'.cell? ⟨cK, 0, none⟩ = some (.int .i64 aO) ∧ w'.cell? ⟨cK, 1, none⟩ = some (.slice bX aJ.length bY)) (ds := []) #[false, false, false, false, false] (by kernel_rfl) rfl rfl ⟨xc aE 0 rfl, xc aE 1 rfl, xc aD 0 rfl, xc aD 1 rfl⟩ (fun hHeld => ?_); generalize wc.drew = zW at aI aC aB aA aD aF aE aG HB hHeld ⊢; refine take_ (i := 0) (N := some 58) (v := ?_) (a' := ?_) #[true, false, false, false, false] rfl rfl (by kernel_rfl) (fun _ _ _ h => h) (Or.inl ⟨by rfl, ?_⟩) hHeld ?_ ?_; rotate_left
        ·rintro w' ⟨s0, s1, s2, s3⟩; go_simp
         with_reducible rfl
        rotate_left
        ·simp only [Act.put, List.setIfInBounds_toArray, List.set_cons_zero, List.set_cons_succ, i64_w, i32_w]; rfl
        refine take_ (i := 1) (N := some 59) (v := ?_) (a' := ?_) #[true, true, false, false, false] rfl rfl (by kernel_rfl) (fun _ _ _ h => h) (Or.inl ⟨by rfl, ?_⟩) hHeld ?_ ?_; rotate_left
        ·rintro w' ⟨s0, s1, s2, s3⟩; go_simp
         with_reducible rfl
        rotate_left
        ·simp only [Act.put, List.setIfInBounds_toArray, List.set_cons_zero, List.set_cons_succ, i64_w, i32_w]; rfl
        refine one_ (i := 2) (N := some 60) #[true, true, true, false, false] rfl rfl (by kernel_rfl) (by decide) (fun K hK => ?_); refine goesY Try.func58 #[.agg #[.int .i64 aO, .slice bX aJ.length bY]] ?_; with_reducible refine (laws_toDisk.calls cT aO _ _ aJ fR cW _ ?side1 ?side2 pE.out).mono ?_
        (case side1 => exact xcb cU); (case side2 => exact cV.out); rintro e zX ⟨mR, rfl, bH, hb⟩; refine ⟨_, rfl, ?_⟩; replace aI := xrb aI hb; have aL := aM (Kd.R_lower (Kd.R_new' (Kd.R_new' (Kd.R_new' bH (Kd.R_lt (xr aC))) (Kd.R_lt (xr aB))) (Kd.R_lt (xr aA))) (below_size xbg)); replace aC := aM (Kd.R_elder' (xr aC) (Kd.R_base bH) hb); replace aB := aM (Kd.R_elder' (xr aB) (Kd.R_base bH) hb); replace aA := aM (Kd.R_elder' (xr aA) (Kd.R_base bH) hb); replace aD := xbb aD hb; replace aF := xbb aF hb; replace aE := xbb aE hb; replace aG := xbb aG hb; replace HB := xbs hb; (try clear hb bH); obtain ⟨nZ, oA, lA⟩ := Kd.R_slice aL.out; (first | subst lA | (injection lA with f1_ f2_ f3_; have f4_ := f1_.symm; have f5_ := f3_.symm; clear f1_ f2_ f3_; subst f4_; subst f5_)); refine hK.out _ _ ⟨xc aE 0 rfl, xc aE 1 rfl, xc aD 0 rfl, xc aD 1 rfl⟩ (fun hHeld => ?_); clear hK K; refine nm_ (N := 60) ?_; refine one_ (i := 3) (N := some 61) #[true, true, true, true, false] rfl rfl (by kernel_rfl) (by decide) (fun K hK => ?_); refine goesY Try.func61 #[.agg #[.int .i64 cG, .slice bE bB.length bG], .agg #[.int .i64 fR, .slice nZ cW.length oA]] ?_; with_reducible refine (laws_eqDisk.calls cT cG _ _ bB fR _ _ cW true _ ?side1 ?side2 ?side3 ?side4 pF.out).mono ?_
        (case side1 => exact xC aB); (case side2 => exact (Kd.R_reads' aB.out).2.1); (case side3 => exact xC aL); (case side4 => exact (Kd.R_reads' aL.out).2.1); rintro e zY ⟨rfl, hb⟩; refine ⟨_, rfl, ?_⟩; replace aI := xrb aI hb; replace aC := xrb aC hb; replace aB := xrb aB hb; replace aA := xrb aA hb; replace aL := xrb aL hb; replace aD := xbb aD hb; replace aF := xbb aF hb; replace aE := xbb aE hb; replace aG := xbb aG hb; replace HB := xbs hb; (try clear hb); refine hK.out _ _ ⟨xc aE 0 rfl, xc aE 1 rfl, xc aD 0 rfl, xc aD 1 rfl⟩ (fun hHeld => ?_); clear hK K; refine nm_ (N := 61) ?_; refine pure_ (i := 4) (N := some 62) (v := ?_) (a' := ?_) #[true, true, true, true, true] rfl rfl (by kernel_rfl) (fun _ _ _ h => h) (Or.inl ⟨by rfl, ?_⟩) ?_ ?_; rotate_left
        ·intro w'; go_simp
         with_reducible rfl
        rotate_left
        ·simp only [Act.put, List.setIfInBounds_toArray, List.set_cons_zero, List.set_cons_succ, i64_w, i32_w]; rfl
        refine done_ (by kernel_rfl) ?_; try go_wp2_with (first | ((with_reducible refine gC 59 rfl ?_); refine goesLY (some 65) rfl Try.func59 #[.slice A2 l2.length c2] ?_; (with_reducible refine (laws_toRecS.calls cT _ _ l2 dP _ ?side1 ?side2 wD.out).mono ?_); (case side1 => exact xcb lH); (case side2 => exact lI.out); rintro e zZ ⟨pH, rfl, bH, hb⟩; refine ⟨_, rfl, ?_⟩; replace aC := xrb aC hb; replace aB := xrb aB hb; replace aA := xrb aA hb; replace aL := xrb aL hb; have bI := aM (Kd.R_lower (Kd.R_new' bH (Kd.R_lt (xr aI))) (below_size xbg)); replace aI := aM (Kd.R_elder' (xr aI) (Kd.R_base bH) hb); replace aD := xbb aD hb; replace aF := xbb aF hb; replace aE := xbb aE hb; replace aG := xbb aG hb; replace HB := xbs hb; (try clear hb bH); obtain ⟨oC, oD, oE⟩ := Kd.R_slice bI.out; subst oE) | ((with_reducible refine gC 62 rfl ?_); refine goesLY (some 66) rfl Try.func62 #[.slice eU bW.length eV, .slice oC dP.length oD] ?_; (with_reducible refine (laws_eqRecS.calls cT _ _ bW _ _ dP false _ ?side1 ?side2 ?side3 ?side4 wE.out).mono ?_); (case side1 => exact xC aI); (case side2 => exact (Kd.R_reads' aI.out).2.1); (case side3 => exact xC bI); (case side4 => exact (Kd.R_reads' bI.out).2.1); rintro e AA ⟨rfl, hb⟩; refine ⟨_, rfl, ?_⟩; replace aI := xrb aI hb; replace aC := xrb aC hb; replace aB := xrb aB hb; replace aA := xrb aA hb; replace aL := xrb aL hb; replace bI := xrb bI hb; replace aD := xbb aD hb; replace aF := xbb aF hb; replace aE := xbb aE hb; replace aG := xbb aG hb; replace HB := xbs hb; (try clear hb)))
        go_ret
        exact ⟨xerr, xbg⟩
      ·replace lY := Bool.eq_false_iff.mpr lY; subst lY; replace H := iN H; obtain rfl := Option.some.inj H; try go_wp2
       replace aI := rD aI; replace aC := rD aC; replace aB := rD aB; replace aA := rD aA; replace aD := bD aD; replace aF := bD aF; replace aE := bD aE; replace aG := bD aG; replace HB := lD HB; refine start_ (n := 5) (S := fun w' => w'.cell? ⟨cS, 0, none⟩ = some (.int .i64 cG) ∧ w'.cell? ⟨cS, 1, none⟩ = some (.slice bE bB.length bG) ∧ w'.cell? ⟨cK, 0, none⟩ = some (.int .i64 aO) ∧ w'.cell? ⟨cK, 1, none⟩ = some (.slice bX aJ.length bY)) (ds := []) #[false, false, false, false, false] (by kernel_rfl) rfl rfl ⟨xc aE 0 rfl, xc aE 1 rfl, xc aD 0 rfl, xc aD 1 rfl⟩ (fun hHeld => ?_); generalize wc.drew = AB at aI aC aB aA aD aF aE aG HB hHeld ⊢; refine take_ (i := 0) (N := some 58) (v := ?_) (a' := ?_) #[true, false, false, false, false] rfl rfl (by kernel_rfl) (fun _ _ _ h => h) (Or.inl ⟨by rfl, ?_⟩) hHeld ?_ ?_; rotate_left
       ·rintro w' ⟨s0, s1, s2, s3⟩; go_simp
        with_reducible rfl
       rotate_left
       ·simp only [Act.put, List.setIfInBounds_toArray, List.set_cons_zero, List.set_cons_succ, i64_w, i32_w]; rfl
       refine take_ (i := 1) (N := some 59) (v := ?_) (a' := ?_) #[true, true, false, false, false] rfl rfl (by kernel_rfl) (fun _ _ _ h => h) (Or.inl ⟨by rfl, ?_⟩) hHeld ?_ ?_; rotate_left
       ·rintro w' ⟨s0, s1, s2, s3⟩; go_simp
        with_reducible rfl
       rotate_left
       ·simp only [Act.put, List.setIfInBounds_toArray, List.set_cons_zero, List.set_cons_succ, i64_w, i32_w]; rfl
       refine one_ (i := 2) (N := some 60) #[true, true, true, false, false] rfl rfl (by kernel_rfl) (by decide) (fun K hK => ?_); refine goesY Try.func58 #[.agg #[.int .i64 aO, .slice bX aJ.length bY]] ?_; with_reducible refine (laws_toDisk.calls cT aO _ _ aJ fR cW _ ?side1 ?side2 pE.out).mono ?_
       (case side1 => exact xcb cU); (case side2 => exact cV.out); rintro e AC ⟨mR, rfl, bH, hb⟩; refine ⟨_, rfl, ?_⟩; replace aI := xrb aI hb; have aL := aM (Kd.R_lower (Kd.R_new' (Kd.R_new' (Kd.R_new' bH (Kd.R_lt (xr aC))) (Kd.R_lt (xr aB))) (Kd.R_lt (xr aA))) (below_size xbg)); replace aC := aM (Kd.R_elder' (xr aC) (Kd.R_base bH) hb); replace aB := aM (Kd.R_elder' (xr aB) (Kd.R_base bH) hb); replace aA := aM (Kd.R_elder' (xr aA) (Kd.R_base bH) hb); replace aD := xbb aD hb; replace aF := xbb aF hb; replace aE := xbb aE hb; replace aG := xbb aG hb; replace HB := xbs hb; (try clear hb bH); obtain ⟨oF, oG, lB⟩ := Kd.R_slice aL.out; (first | subst lB | (injection lB with f1_ f2_ f3_; have f4_ := f1_.symm; have f5_ := f3_.symm; clear f1_ f2_ f3_; subst f4_; subst f5_)); refine hK.out _ _ ⟨xc aE 0 rfl, xc aE 1 rfl, xc aD 0 rfl, xc aD 1 rfl⟩ (fun hHeld => ?_); clear hK K; refine nm_ (N := 60) ?_; refine one_ (i := 3) (N := some 61) #[true, true, true, true, false] rfl rfl (by kernel_rfl) (by decide) (fun K hK => ?_); refine goesY Try.func61 #[.agg #[.int .i64 cG, .slice bE bB.length bG], .agg #[.int .i64 fR, .slice oF cW.length oG]] ?_; with_reducible refine (laws_eqDisk.calls cT cG _ _ bB fR _ _ cW false _ ?side1 ?side2 ?side3 ?side4 pF.out).mono ?_
       (case side1 => exact xC aB); (case side2 => exact (Kd.R_reads' aB.out).2.1); (case side3 => exact xC aL); (case side4 => exact (Kd.R_reads' aL.out).2.1); rintro e AD ⟨rfl, hb⟩; refine ⟨_, rfl, ?_⟩; replace aI := xrb aI hb; replace aC := xrb aC hb; replace aB := xrb aB hb; replace aA := xrb aA hb; replace aL := xrb aL hb; replace aD := xbb aD hb; replace aF := xbb aF hb; replace aE := xbb aE hb; replace aG := xbb aG hb; replace HB := xbs hb; (try clear hb); refine hK.out _ _ ⟨xc aE 0 rfl, xc aE 1 rfl, xc aD 0 rfl, xc aD 1 rfl⟩ (fun hHeld => ?_); clear hK K; refine nm_ (N := 61) ?_; refine pure_ (i := 4) (N := some 62) (v := ?_) (a' := ?_) #[true, true, true, true, true] rfl rfl (by kernel_rfl) (fun _ _ _ h => h) (Or.inl ⟨by rfl, ?_⟩) ?_ ?_; rotate_left
       ·intro w'; go_simp
        with_reducible rfl
       rotate_left
       ·simp only [Act.put, List.setIfInBounds_toArray, List.set_cons_zero, List.set_cons_succ, i64_w, i32_w]; rfl
       refine done_ (by kernel_rfl) ?_; try go_wp2
       go_ret
       exact ⟨xerr, xbg⟩

/-- THE ONE PURE STATEMENT of laws_FnExactHardSave. -/
def Q161 (x : S161) : Prop := (Lit.int .i64 x.f0).wf = true ∧ x.f1.size ≤ 140737488351232 ∧ x.f2.size ≤ 140737488351232
def Q72 (x : S72) : Prop := (Lit.int .i64 x.f0).wf = true ∧ (x.f1.length ≤ maxLen ∧ x.f1.length * 40 ≤ 140737488351232 ∧ ∀ x' ∈ x.f1, Q161 x')
def Q119 (x : S119) : Prop := (Lit.int .i64 x.f0).wf = true ∧ (Lit.int .i64 x.f1).wf = true ∧ (Lit.int .i64 x.f2).wf = true ∧ (Lit.int .i64 x.f3).wf = true ∧ x.f4.size ≤ 140737488351232
def Q121 (x : S121) : Prop := (Lit.int .i64 x.f0).wf = true ∧ Q119 x.f1
def Q123 (x : S123) : Prop := (Lit.int .i64 x.f0).wf = true ∧ (Lit.int .i64 x.f1).wf = true ∧ (Lit.int .i64 x.f2).wf = true ∧ (Lit.int .i64 x.f3).wf = true ∧ Q121 x.f4
def laws_FnExactHardSave.Pure : Prop := ∀ (aO : Int) (aJ : List (S161)) (a1 : Int) (l2 : List (S123)), (Lit.int .i64 aO).wf = true → aJ.length ≤ maxLen → aJ.length * 40 ≤ 140737488351232 → (∀ x ∈ aJ, Q161 x) → (Lit.int .i64 a1).wf = true → l2.length ≤ maxLen → l2.length * 88 ≤ 140737488351232 → (∀ x ∈ l2, Q123 x) → ∃ k, laws_FnExactHardSave.f k aO aJ a1 l2 = some true
theorem laws_FnExactHardSave.walk (P : laws_FnExactHardSave.Pure) (aO : Int) (bX : Option Addr) (bY : Nat) (aJ : List (S161)) (a1 : Int) (A2 : Option Addr) (c2 : Nat) (l2 : List (S123)) (w : World) (tS : (Lit.int .i64 aO).wf = true) (gW : Kd.C k161 w bX aJ.length aJ) (gX : aJ.length ≤ bY) (hm0_1 : aJ.length ≤ maxLen) (hz0_1 : aJ.length * 40 ≤ 140737488351232) (oH : ∀ x ∈ aJ, Q161 x) (w1 : (Lit.int .i64 a1).wf = true) (oI : Kd.C k123 w A2 l2.length l2) (oJ : l2.length ≤ c2) (hm2 : l2.length ≤ maxLen) (hz2 : l2.length * 88 ≤ 140737488351232) (AE : ∀ x ∈ l2, Q123 x) :
 Calls Try.prog 11 #[.agg #[.int .i64 aO, .slice bX aJ.length bY], .int .i64 a1, .slice A2 l2.length c2] w fun e w' => e = .returned (.bool true) ∧ Below w.heap.size w w' := by
 obtain ⟨k, h⟩ := P aO aJ a1 l2 tS hm0_1 hz0_1 oH w1 hm2 hz2 AE
 refine (laws_FnExactHardSave.calls k aO bX bY aJ a1 A2 c2 l2 true w gW gX oI oJ h).mono ?_
 rintro e w' ⟨rfl, hd⟩
 exact ⟨rfl, hd⟩

end Go.Proofs.Ytoojdlobnbakoaa.QFnExactHardSave
