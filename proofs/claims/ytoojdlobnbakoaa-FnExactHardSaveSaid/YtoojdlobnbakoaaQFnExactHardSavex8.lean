-- A walk, by a program of this session.
import Derived.Test.YtoojdlobnbakoaaQFnExactHardSavex0
import Derived.Test.YtoojdlobnbakoaaQFnExactHardSavex7
namespace Go.Proofs.Ytoojdlobnbakoaa.QFnExactHardSave
open Go.RowKit Go.Proofs.YtoojdlobnbakoaaW.PrintWords Go.Proofs.YtoojdlobnbakoaaW.PrintLast Go.Proofs.YtoojdlobnbakoaaW.PrintMore
attribute [local go_sem] max2_int min2_int max_two min_two max_three min_three max_four min_four   -- for this text's walks alone
set_option linter.unusedVariables false
set_option linter.unusedSimpArgs false

theorem u8_0 {p : Prop} (h : p := by first | rfl | (simp; done) | (simp [*]; done)) : p := h
theorem u8_1 {p : Prop} (h : p := by repeat (first | exact Drawn0.refl _ | apply Drawn0.step)) : p := h
theorem u8_2 {p : Prop} (h : p := by first | (go_simp; done) | (go_simp; rfl)) : p := h
theorem u8_3 {p : Prop} (h : p := by first | rfl | (simp [errW_none, errW_some] <;> rfl) | (simp [*, errW_none, errW_some] <;> rfl)) : p := h
theorem u8_4 {p : Prop} (h : p := by (with_reducible repeat (first | apply Kd.R_alloc | apply Kd.R_drewN | apply Kd.R_drew)); exact bV.out) : p := h
/-! ### laws_toRec: function 119 -/
def laws_toRec.f (aG : Int) (bO : Int) (bP : Int) (bQ : Int) (bW : Int) (bX : Int) (bY : Int) (bZ : Int) (cA : Int) (cB : ByteArray) : Option (Int × Int × Int × Int × Int × Int × Int × Int × Int × ByteArray) := (laws_toEntry.f bW bX bY bZ cA cB).bind fun aV => (some (aG, bO, bP, bQ, aV.1, aV.2.1, aV.2.2.1, aV.2.2.2.1, aV.2.2.2.2.1, aV.2.2.2.2.2))
set_option maxHeartbeats 8000000 in
set_option maxRecDepth 100000 in
theorem laws_toRec.calls (aG : Int) (bO : Int) (bP : Int) (bQ : Int) (bW : Int) (bX : Int) (bY : Int) (bZ : Int) (cA : Int) (cB : ByteArray) (r1 : Int) (r2 : Int) (r3 : Int) (r4 : Int) (r5 : Int) (r6 : Int) (r7 : Int) (r8 : Int) (r9 : Int) (mJ : ByteArray) (w : World) (h : laws_toRec.f aG bO bP bQ bW bX bY bZ cA cB = some (r1, r2, r3, r4, r5, r6, r7, r8, r9, mJ)) :
 Calls Try.prog 119 #[.agg #[.int .i64 aG, .int .i64 bO, .int .i64 bP, .int .i64 bQ, .int .i64 bW, .int .i64 bX, .int .i64 bY, .int .i64 bZ, .int .i64 cA, .string cB]] w fun e w' => e = .returned (.agg #[.int .i64 r1, .int .i64 r2, .int .i64 r3, .int .i64 r4, .int .i64 r5, .int .i64 r6, .int .i64 r7, .int .i64 r8, .int .i64 r9, .string mJ]) ∧ Below w.heap.size w w' := by
 have fW := Try.underlying123
 have fX := Try.underlying131
 have oQ := Try.underlying121
 have oR := Try.underlying129
 have HB := aM (Below.refl w.heap.size w)
 have H : ((laws_toEntry.f bW bX bY bZ cA cB).bind fun aV => (some (aG, bO, bP, bQ, aV.1, aV.2.1, aV.2.2.1, aV.2.2.2.1, aV.2.2.2.2.1, aV.2.2.2.2.2))) = some (r1, r2, r3, r4, r5, r6, r7, r8, r9, mJ) := h
 clear h
 replace H := oB H
 obtain ⟨⟨dA, dB, dC, dD, dE, dF⟩, eK, H⟩ := H
 (try dsimp only at H)
 have A2 := aM eK
 clear eK
 simp only [Option.some.injEq, Prod.mk.injEq] at H
 obtain ⟨rfl, rfl, rfl, rfl, rfl, rfl, rfl, rfl, rfl, rfl⟩ := H
 go_enter Try.func119, Try.ntmps119
 go_wp2_with (first | ((with_reducible refine gD 1 rfl ?_); refine boxE (N := 1) rfl (cs := #[.int .i64 aG, .int .i64 bO, .int .i64 bP, .int .i64 bQ, .int .i64 bW, .int .i64 bX, .int .i64 bY, .int .i64 bZ, .int .i64 cA, .string cB]) (t := 123) ?_; intro oT hg w3 hbox hb; have aO := aM (hbox); have oU := aM (xge hg); have oV := aM (xge hg); replace HB := xbs hb; clear hb hbox hg) | ((with_reducible refine gD 2 rfl ?_); refine boxE (N := 2) rfl (cs := #[.int .i64 0, .int .i64 0, .int .i64 0, .int .i64 0, .int .i64 0, .int .i64 0, .int .i64 0, .int .i64 0, .int .i64 0, .string (⟨#[]⟩ : ByteArray)]) (t := 131) ?_; intro aW hg w4 hbox hb; have oW := aM (xge hg); have oX := aM (xge hg); replace HB := xbs hb; have dG := nblt aO hg; have dH := nbgt aO hg; replace aO := xbb aO hb; have aX := aM (hbox); clear hb hbox hg) | ((with_reducible refine gD 3 rfl ?_); refine boxE (N := 3) rfl (cs := #[.int .i64 0, .int .i64 0, .int .i64 0, .int .i64 0, .int .i64 0, .int .i64 0, .int .i64 0, .int .i64 0, .int .i64 0, .string (⟨#[]⟩ : ByteArray)]) (t := 131) ?_; intro aY hg w5 hbox hb; have oY := aM (xge hg); have oZ := aM (xge hg); replace HB := xbs hb; have dI := nblt aO hg; have dJ := nbgt aO hg; have dK := nblt aX hg; have dL := nbgt aX hg; replace aO := xbb aO hb; replace aX := xbb aX hb; have bE := aM (hbox); clear hb hbox hg; have pY := dG.out; have pZ := dH.out; have qA := dI.out; have qB := dJ.out; obtain ⟨mK, mL, mM, mN, mO, mP, mQ, mR, mS, mT, mU, mV, mW, mX, mY, mZ, nA, nB, nC, nD⟩ := xf10 (w := w5) aO; have qC := dL.out; have qD := dK.out; obtain ⟨gX, gY, gZ, hJ, hU, hX, hY, hZ, iA, iB, iC, iD, iE, iF, iG, iH, iI, iJ, iK, iL⟩ := xf10 (w := w5) bE) | ((with_reducible refine gate_store (t := 3) (p := 15) rfl ?_); refine store_event (t := 3) (p := 15) (v := ?vo_w11) (w1 := ((((w5.setCell ⟨aY, 0, none⟩ (.int .i64 aG)).setCell ⟨aY, 1, none⟩ (.int .i64 bO)).setCell ⟨aY, 2, none⟩ (.int .i64 bP)).setCell ⟨aY, 3, none⟩ (.int .i64 bQ))) ?hg ?ho ?hn ?hr ?_; (case ho | hg | hn => rfl); (case hr => exact u8_2); intro fT hw; replace aO := xwc hw aO; replace aX := xwc hw aX; replace bE : Aside0 (fT.heap[aY]? = some (.cells #[.int .i64 aG, .int .i64 bO, .int .i64 bP, .int .i64 bQ, .int .i64 0, .int .i64 0, .int .i64 0, .int .i64 0, .int .i64 0, .string (⟨#[]⟩ : ByteArray)] 131 (0, 0))) := xwp hw; replace HB := xbw hw HB; clear hw; obtain ⟨iM, iO, iP, iQ, iR, iS, iU, iV, iW, iX, iY, iZ, jA, jB, jC, jD, jE, jF, jG, jH⟩ := xf10 (w := fT) aO) | ((with_reducible refine gC 163 rfl ?_); refine goesLY (some 18) rfl Try.func163 #[.agg #[.int .i64 bW, .int .i64 bX, .int .i64 bY, .int .i64 bZ, .int .i64 cA, .string cB]] ?_; (with_reducible refine (laws_toEntry.calls bW bX bY bZ cA cB dA dB dC dD dE dF _ A2.out).mono ?_); rintro e fU ⟨rfl, hb⟩; refine ⟨_, rfl, ?_⟩; replace aO := xbb aO hb; replace aX := xbb aX hb; replace bE := xbb bE hb; replace HB := xbs hb; (try clear hb); obtain ⟨jI, jJ, jK, jL, jM, jN, jO, jP, jQ, jR, jS, jT, jU, jV, jW, jX, jY, jZ, kA, kB⟩ := xf10 (w := fU) bE) | ((with_reducible refine gate_store (t := 129) (p := 19) rfl ?_); refine store_event (t := 129) (p := 19) (v := ?vo_w15) (w1 := ((((((fU.setCell ⟨aY, 4, none⟩ (.int .i64 dA)).setCell ⟨aY, 5, none⟩ (.int .i64 dB)).setCell ⟨aY, 6, none⟩ (.int .i64 dC)).setCell ⟨aY, 7, none⟩ (.int .i64 dD)).setCell ⟨aY, 8, none⟩ (.int .i64 dE)).setCell ⟨aY, 9, none⟩ (.string dF))) ?hg ?ho ?hn ?hr ?_; (case ho | hg | hn => rfl); (case hr => exact u8_2); intro kC hw; replace aO := xwc hw aO; replace aX := xwc hw aX; replace bE : Aside0 (kC.heap[aY]? = some (.cells #[.int .i64 aG, .int .i64 bO, .int .i64 bP, .int .i64 bQ, .int .i64 dA, .int .i64 dB, .int .i64 dC, .int .i64 dD, .int .i64 dE, .string dF] 131 (0, 0))) := xwp hw; replace HB := xbw hw HB; clear hw; obtain ⟨eE, eF, eG, kE, kF, kG, kH, kI, kJ, kK, eH, eI, eJ, kL, kM, kN, kO, kP, kQ, kR⟩ := xf10 (w := kC) bE; obtain ⟨kS, kT, kU, kV, kW, kX, kY, kZ, lA, lB, lC, lE, lF, lG, lH, lI, lJ, lK, lL, lM⟩ := xf10 (w := kC) aX) | ((with_reducible refine gate_store (t := 131) (p := 2) rfl ?_); refine store_event (t := 131) (p := 2) (v := ?vo_w18) (w1 := ((((((((((kC.setCell ⟨aW, 0, none⟩ (.int .i64 aG)).setCell ⟨aW, 1, none⟩ (.int .i64 bO)).setCell ⟨aW, 2, none⟩ (.int .i64 bP)).setCell ⟨aW, 3, none⟩ (.int .i64 bQ)).setCell ⟨aW, 4, none⟩ (.int .i64 dA)).setCell ⟨aW, 5, none⟩ (.int .i64 dB)).setCell ⟨aW, 6, none⟩ (.int .i64 dC)).setCell ⟨aW, 7, none⟩ (.int .i64 dD)).setCell ⟨aW, 8, none⟩ (.int .i64 dE)).setCell ⟨aW, 9, none⟩ (.string dF))) ?hg ?ho ?hn ?hr ?_; (case ho | hg | hn => rfl); (case hr => exact u8_2); intro pA hw; replace aO := xwc hw aO; replace aX : Aside0 (pA.heap[aW]? = some (.cells #[.int .i64 aG, .int .i64 bO, .int .i64 bP, .int .i64 bQ, .int .i64 dA, .int .i64 dB, .int .i64 dC, .int .i64 dD, .int .i64 dE, .string dF] 131 (0, 0))) := xwp hw; replace bE := xwc hw bE; replace HB := xbw hw HB; clear hw))
 refine bodyPost_ret (results_cell_row rfl _ _ aW 131 #[.int .i64 aG, .int .i64 bO, .int .i64 bP, .int .i64 bQ, .int .i64 dA, .int .i64 dB, .int .i64 dC, .int .i64 dD, .int .i64 dE, .string dF] (0, 0) _ rfl xblk Try.underlying131 rfl (by kernel_rfl)) rfl ?_
 exact ⟨xerr, xbg⟩

/-! ### laws_toRecS: function 59 -/
theorem laws_toRecS.e131 {W : World} {base : Nat} {ok : Nat → Prop} {g n cap : Nat} {xs : List S131} (h : Kd.R k131 131 W base ok (.slice (some ⟨g, 0, none⟩) n cap) xs) (i : Int) (p : 0 ≤ i) (q : i < n) : W.cell? ⟨g, i.toNat * 10, none⟩ = some (.int .i64 ((rd_T131 xs i).f0)) ∧ W.cell? ⟨g, i.toNat * 10 + 1, none⟩ = some (.int .i64 ((rd_T131 xs i).f1)) ∧ W.cell? ⟨g, i.toNat * 10 + 2, none⟩ = some (.int .i64 ((rd_T131 xs i).f2)) ∧ W.cell? ⟨g, i.toNat * 10 + 3, none⟩ = some (.int .i64 ((rd_T131 xs i).f3)) ∧ W.cell? ⟨g, i.toNat * 10 + 4, none⟩ = some (.int .i64 ((rd_T131 xs i).f4.f0)) ∧ W.cell? ⟨g, i.toNat * 10 + 5, none⟩ = some (.int .i64 ((rd_T131 xs i).f4.f1.f0)) ∧ W.cell? ⟨g, i.toNat * 10 + 6, none⟩ = some (.int .i64 ((rd_T131 xs i).f4.f1.f1)) ∧ W.cell? ⟨g, i.toNat * 10 + 7, none⟩ = some (.int .i64 ((rd_T131 xs i).f4.f1.f2)) ∧ W.cell? ⟨g, i.toNat * 10 + 8, none⟩ = some (.int .i64 ((rd_T131 xs i).f4.f1.f3)) ∧ W.cell? ⟨g, i.toNat * 10 + 9, none⟩ = some (.string ((rd_T131 xs i).f4.f1.f4)) ∧ W.frozen? ⟨g, i.toNat * 10, none⟩ = false ∧ W.frozen? ⟨g, i.toNat * 10 + 1, none⟩ = false ∧ W.frozen? ⟨g, i.toNat * 10 + 2, none⟩ = false ∧ W.frozen? ⟨g, i.toNat * 10 + 3, none⟩ = false ∧ W.frozen? ⟨g, i.toNat * 10 + 4, none⟩ = false ∧ W.frozen? ⟨g, i.toNat * 10 + 5, none⟩ = false ∧ W.frozen? ⟨g, i.toNat * 10 + 6, none⟩ = false ∧ W.frozen? ⟨g, i.toNat * 10 + 7, none⟩ = false ∧ W.frozen? ⟨g, i.toNat * 10 + 8, none⟩ = false ∧ W.frozen? ⟨g, i.toNat * 10 + 9, none⟩ = false := by
  obtain ⟨c, hcl, hM, hcc, hfr⟩ := Kd.R_elem h z131 i p q; obtain rfl := k131_openM hM; exact ⟨hcc 0 _ rfl, hcc 1 _ rfl, hcc 2 _ rfl, hcc 3 _ rfl, hcc 4 _ rfl, hcc 5 _ rfl, hcc 6 _ rfl, hcc 7 _ rfl, hcc 8 _ rfl, hcc 9 _ rfl, hfr 0, hfr 1, hfr 2, hfr 3, hfr 4, hfr 5, hfr 6, hfr 7, hfr 8, hfr 9⟩
def laws_toRecS.l0 : Nat → List (S123) → List (S131) → Int → Option ((List (S131)))
 | 0, _, _, _ => none
 | k + 1, x0, x3, x4 => if x4 < (x0.length : Int) then (if 0 ≤ x4 then ((laws_toRec.f ((rd_T123 x0 x4).f0) ((rd_T123 x0 x4).f1) ((rd_T123 x0 x4).f2) ((rd_T123 x0 x4).f3) ((rd_T123 x0 x4).f4.f0) ((rd_T123 x0 x4).f4.f1.f0) ((rd_T123 x0 x4).f4.f1.f1) ((rd_T123 x0 x4).f4.f1.f2) ((rd_T123 x0 x4).f4.f1.f3) ((rd_T123 x0 x4).f4.f1.f4)).bind fun bC => (if x4 < (x3.length : Int) then (laws_toRecS.l0 k x0 (x3.set (x4 : Int).toNat (⟨bC.1, bC.2.1, bC.2.2.1, bC.2.2.2.1, (⟨bC.2.2.2.2.1, (⟨bC.2.2.2.2.2.1, bC.2.2.2.2.2.2.1, bC.2.2.2.2.2.2.2.1, bC.2.2.2.2.2.2.2.2.1, bC.2.2.2.2.2.2.2.2.2⟩ : S127)⟩ : S129)⟩ : S131)) (wrap64 (x4 + 1))) else (none))) else (none)) else (some x3)
def laws_toRecS.f (k : Nat) (l0 : List (S123)) : Option ((List (S131))) := if 0 ≤ (l0.length : Int) then (if ((l0.length : Int) : Int).toNat ≤ 3198579280802 then (laws_toRecS.l0 k l0 (List.replicate ((l0.length : Int) : Int).toNat z131) 0) else (none)) else (none)
theorem u8_mq0 {p : Prop} (h : p := by repeat' first | (with_reducible first | exact cH _ _ _ | exact LeO.refl _ | exact LeO.none _ | refine LeO.ite ?_ ?_ | refine LeO.bind ?_ (fun _ => ?_)) | exact cH _ _ _ | exact LeO.none _ | refine LeO.ite ?_ ?_ | refine LeO.bind ?_ (fun _ => ?_)) : p := h
set_option maxRecDepth 100000 in
theorem laws_toRecS.mono_l : ∀ k, (∀ y0 y1 y2, LeO (laws_toRecS.l0 k y0 y1 y2) (laws_toRecS.l0 (k + 1) y0 y1 y2))
 | 0 => fun _ _ _ r h => by simp [laws_toRecS.l0] at h
 | k + 1 => by
  have cH := laws_toRecS.mono_l k
  ·intro y0 y1 y2; unfold laws_toRecS.l0; exact u8_mq0
theorem laws_toRecS.mono : ∀ a0 k, LeO (laws_toRecS.f k a0) (laws_toRecS.f (k + 1) a0) := by
 intro a0 k
 have cH := laws_toRecS.mono_l k
 unfold laws_toRecS.f
 exact u8_mq0
set_option maxHeartbeats 8000000 in
set_option maxRecDepth 100000 in
theorem laws_toRecS.calls (k : Nat) (A0 : Option Addr) (c0 : Nat) (l0 : List (S123)) (r : List (S131)) (w : World) (eL : Kd.C k123 w A0 l0.length l0) (eM : l0.length ≤ c0) (h : laws_toRecS.f k l0 = some r) :
 Calls Try.prog 59 #[.slice A0 l0.length c0] w fun e w' => ∃ v0_ : Value, e = .returned (v0_) ∧ Kd.R k131 131 w' w.heap.size (fun _ => True) v0_ r ∧ Below w.heap.size w w' := by
 have fW := Try.underlying123
 have fX := Try.underlying131
 have fY := aM eL
 have nE := aM eM
 clear eL eM
 have HB := aM (Below.refl w.heap.size w)
 have H : (if 0 ≤ (l0.length : Int) then (if ((l0.length : Int) : Int).toNat ≤ 3198579280802 then (laws_toRecS.l0 k l0 (List.replicate ((l0.length : Int) : Int).toNat z131) 0) else (none)) else (none)) = some r := h
 clear h
 by_cases c2 : 0 ≤ (l0.length : Int)
 ·rw [if_pos c2] at H; have eR := eq_true c2; have nF : decide (0 ≤ (l0.length : Int)) = true := decide_eq_true c2; clear c2; by_cases c3 : ((l0.length : Int) : Int).toNat ≤ 3198579280802
  ·rw [if_pos c3] at H; have fZ := eq_true c3; have nG : decide (((l0.length : Int) : Int).toNat ≤ 3198579280802) = true := decide_eq_true c3; clear c3; obtain ⟨gA, cC⟩ : ∃ y_ : List (S131), y_ = (List.replicate ((l0.length : Int) : Int).toNat z131) := ⟨_, rfl⟩; replace H : (laws_toRecS.l0 k l0 gA 0) = some r := by first | (rw [cC]; with_reducible exact H) | (have H2_ := oS H; rw [cC]; with_reducible exact H2_) | (have H2_ := oS H; with_reducible exact H2_) | with_reducible exact H | (rw [cC]; exact H) | exact H
   have eN := aM cC; clear cC; have H' := aM H; clear H; go_enter Try.func59, Try.ntmps59
   go_wp2_with (first | ((with_reducible refine gD 7 rfl ?_); refine Kd.R_make k131 _ 131 rfl (N := 7) rfl 78 _ _ rfl (l0.length : Int) rfl rfl Try.underlying78 (.agg #[(.int .i64 0), (.int .i64 0), (.int .i64 0), (.int .i64 0), (.int .i64 0), (.int .i64 0), (.int .i64 0), (.int .i64 0), (.int .i64 0), (.string ⟨#[]⟩)]) 88 info131 rfl (by decide) (by omega) z131 (ok := fun _ => True) (okp := fun _ => True) (k131_mkM _ _ _ z131 ) (fun _ hk => hk) trivial (oda) (Nat.le_trans (Nat.mul_le_mul_right _ (oda : (l0.length : Int).toNat ≤ 3198579280802)) (by omega)) (Below.refl _ _) (Nat.le_refl _) ?_; intro nH w4 gB hb hg_ hnew_; clear hg_ hnew_; (first | rw [← eN.out] at gB | (simp only [Int.reduceToNat] at gB; rw [← eN.out] at gB)); have gE := aM (Kd.R_lower gB (below_size xbel)); replace HB := xbs hb; clear hb gB))
   go_loopg [4] k (fun kq v4 w' => ∃ (aU : List (S131)) (aF : Int), v4 = .int .i64 aF ∧ Aside0 (laws_toRecS.l0 kq l0 aU aF = some r) ∧ Aside0 (kq ≤ k) ∧ Aside0 (Kd.R k131 131 w' w.heap.size (fun _ => True) nH aU) ∧ Aside0 (Below w.heap.size w w'))
   case atStart => exact ⟨(gA), (0), u8_0, H', ⟨Nat.le_refl _⟩, ⟨by (with_reducible repeat (first | apply Kd.R_alloc | apply Kd.R_drewN | apply Kd.R_drew)); exact gE.out⟩, ⟨xbel⟩⟩
   case round =>
    clear H'; try clear c2
    try clear eR
    try clear nF
    try clear p2
    try clear c3
    try clear fZ
    try clear nG
    try clear c5
    obtain ⟨aU, aF, rfl, HA, HK1, bV, HB⟩ := hrel; cases gk with
    | zero => exact absurd HA.out (by simp [laws_toRecS.l0])
    | succ k1 =>
     have H := HA.out; clear HA; simp only [laws_toRecS.l0] at H; by_cases c6 : aF < (l0.length : Int)
     ·rw [if_pos c6] at H; have eS : decide (aF < (l0.length : Int)) = true := decide_eq_true c6; clear c6; by_cases c7 : 0 ≤ aF
      ·rw [if_pos c7] at H; have qE : decide (0 ≤ aF) = true := decide_eq_true c7; clear c7; replace H := oB H; obtain ⟨⟨dM, dN, dO, dP, dQ, dR, dS, dU, dV, dW⟩, pB, H⟩ := H; (try dsimp only at H); have A8 := aM pB; clear pB
       by_cases c9 : aF < (aU.length : Int)
       ·rw [if_pos c9] at H; have gF : decide (aF < (aU.length : Int)) = true := decide_eq_true c9; clear c9; obtain ⟨eT, cD⟩ : ∃ y_ : List (S131), y_ = (aU.set (aF : Int).toNat (⟨dM, dN, dO, dP, (⟨dQ, (⟨dR, dS, dU, dV, dW⟩ : S127)⟩ : S129)⟩ : S131)) := ⟨_, rfl⟩; replace H : (laws_toRecS.l0 k1 l0 eT (wrap64 (aF + 1))) = some r := by first | (rw [cD]; with_reducible exact H) | (have H2_ := oS H; rw [cD]; with_reducible exact H2_) | (have H2_ := oS H; with_reducible exact H2_) | with_reducible exact H | (rw [cD]; exact H) | exact H
        have gG := aM cD; clear cD; have H' := aM H; clear H; have p399 : 0 ≤ (aF : Int) := oda; have q399 : aF < (l0.length : Int) := oda; obtain ⟨pC, nI, cN, cO, cP, cQ, cR, cS, cT, cU, cV, cW⟩ := at_T123 fY.out aF p399 q399; cases nI
        replace cN := xce HB cN; replace cO := xce HB cO; replace cP := xce HB cP; replace cQ := xce HB cQ; replace cR := xce HB cR; replace cS := xce HB cS; replace cT := xce HB cT; replace cU := xce HB cU; replace cV := xce HB cV; replace cW := xce HB cW; replace p399 := eq_true p399; replace q399 := eq_true q399
        go_wp2_with (first | ((with_reducible refine gC 119 rfl ?_); refine goesLY (some 20) rfl Try.func119 #[.agg #[.int .i64 ((rd_T123 l0 aF).f0), .int .i64 ((rd_T123 l0 aF).f1), .int .i64 ((rd_T123 l0 aF).f2), .int .i64 ((rd_T123 l0 aF).f3), .int .i64 ((rd_T123 l0 aF).f4.f0), .int .i64 ((rd_T123 l0 aF).f4.f1.f0), .int .i64 ((rd_T123 l0 aF).f4.f1.f1), .int .i64 ((rd_T123 l0 aF).f4.f1.f2), .int .i64 ((rd_T123 l0 aF).f4.f1.f3), .string ((rd_T123 l0 aF).f4.f1.f4)]] ?_; (with_reducible refine (laws_toRec.calls ((rd_T123 l0 aF).f0) ((rd_T123 l0 aF).f1) ((rd_T123 l0 aF).f2) ((rd_T123 l0 aF).f3) ((rd_T123 l0 aF).f4.f0) ((rd_T123 l0 aF).f4.f1.f0) ((rd_T123 l0 aF).f4.f1.f1) ((rd_T123 l0 aF).f4.f1.f2) ((rd_T123 l0 aF).f4.f1.f3) ((rd_T123 l0 aF).f4.f1.f4) dM dN dO dP dQ dR dS dU dV dW _ A8.out).mono ?_); rintro e fT ⟨rfl, hb⟩; refine ⟨_, rfl, ?_⟩; replace bV := xrb bV hb; replace HB := xbs hb; (try clear hb); have p10 : 0 ≤ (aF : Int) := oda; have q10 : (aF : Int) < ((aU.length : Int) : Int) := oda; obtain ⟨bN, gH, gI, gJ, gl10, cl10, HG10⟩ := Kd.R_form bV.out (by omega); (first | cases gI | (injection gI with ea_ en_ ec_; (first | subst ea_ | (injection ea_ with ea_; subst ea_)); subst ec_; clear en_)); have GB10 := aM gJ; have GG10 := aM HG10; clear gJ gl10 HG10; obtain ⟨nJ, nK, nL, nM, nN, nO, nP, nQ, nR, nS, nT, nU, nV, nW, nX, nY, nZ, oA, oC, oD⟩ := laws_toRecS.e131 bV.out (aF : Int) p10 q10; replace p10 := eq_true p10; replace q10 := eq_true q10; have gK := aM (show Kd.R k131 131 fT w.heap.size (fun _ => True) (.slice (some ⟨bN, 0, none⟩) aU.length gH) aU from (xr bV)); obtain ⟨ce12, eO, gL, aZ, bA⟩ := Kd.R_elem gK.out z131 (aF : Int) (oda) (by have h_ : (aF : Int) < ((aU.length : Int) : Int) := oda; first | exact h_ | (have e_ := (Kd.R_reads' bV.out).1; omega) | simpa using h_); obtain rfl := k131_openM gL; have eU := Kd.R_seg gK.out (aF : Int) (oda) (by have h_ : (aF : Int) < ((aU.length : Int) : Int) := oda; first | exact h_ | (have e_ := (Kd.R_reads' bV.out).1; omega) | simpa using h_) (seg := [.int .i64 dM, .int .i64 dN, .int .i64 dO, .int .i64 dP, .int .i64 dQ, .int .i64 dR, .int .i64 dS, .int .i64 dU, .int .i64 dV, .string dW]) (j := 0) eO aZ (show 10 ≤ 10 from by decide) (x' := (⟨dM, dN, dO, dP, (⟨dQ, (⟨dR, dS, dU, dV, dW⟩ : S127)⟩ : S129)⟩ : S131)) (k131_mkM _ _ _ (⟨dM, dN, dO, dP, (⟨dQ, (⟨dR, dS, dU, dV, dW⟩ : S127)⟩ : S129)⟩ : S131) ) (fun _ hk => hk); have eV := aZ 0 _ rfl; (try simp only [show (k131).sz = 10 from rfl, Nat.mul_one, Nat.add_zero] at eV); have eW := bA 0; (try simp only [show (k131).sz = 10 from rfl, Nat.mul_one, Nat.add_zero] at eW); have eX := aZ 1 _ rfl; (try simp only [show (k131).sz = 10 from rfl, Nat.mul_one, Nat.add_zero] at eX); have eY := bA 1; (try simp only [show (k131).sz = 10 from rfl, Nat.mul_one, Nat.add_zero] at eY); have eZ := aZ 2 _ rfl; (try simp only [show (k131).sz = 10 from rfl, Nat.mul_one, Nat.add_zero] at eZ); have fA := bA 2; (try simp only [show (k131).sz = 10 from rfl, Nat.mul_one, Nat.add_zero] at fA); have fB := aZ 3 _ rfl; (try simp only [show (k131).sz = 10 from rfl, Nat.mul_one, Nat.add_zero] at fB); have fC := bA 3; (try simp only [show (k131).sz = 10 from rfl, Nat.mul_one, Nat.add_zero] at fC); have fD := aZ 4 _ rfl; (try simp only [show (k131).sz = 10 from rfl, Nat.mul_one, Nat.add_zero] at fD); have fE := bA 4; (try simp only [show (k131).sz = 10 from rfl, Nat.mul_one, Nat.add_zero] at fE); have fF := aZ 5 _ rfl; (try simp only [show (k131).sz = 10 from rfl, Nat.mul_one, Nat.add_zero] at fF); have fG := bA 5; (try simp only [show (k131).sz = 10 from rfl, Nat.mul_one, Nat.add_zero] at fG); have fH := aZ 6 _ rfl; (try simp only [show (k131).sz = 10 from rfl, Nat.mul_one, Nat.add_zero] at fH); have fI := bA 6; (try simp only [show (k131).sz = 10 from rfl, Nat.mul_one, Nat.add_zero] at fI); have fJ := aZ 7 _ rfl; (try simp only [show (k131).sz = 10 from rfl, Nat.mul_one, Nat.add_zero] at fJ); have fK := bA 7; (try simp only [show (k131).sz = 10 from rfl, Nat.mul_one, Nat.add_zero] at fK); have fL := aZ 8 _ rfl; (try simp only [show (k131).sz = 10 from rfl, Nat.mul_one, Nat.add_zero] at fL); have fM := bA 8; (try simp only [show (k131).sz = 10 from rfl, Nat.mul_one, Nat.add_zero] at fM); have fN := aZ 9 _ rfl; (try simp only [show (k131).sz = 10 from rfl, Nat.mul_one, Nat.add_zero] at fN); have fO := bA 9; (try simp only [show (k131).sz = 10 from rfl, Nat.mul_one, Nat.add_zero] at fO); clear eO aZ bA gL) | ((with_reducible refine gate_store (t := 131) (p := 21) rfl ?_); refine store_event (t := 131) (p := 21) (v := ?vo_w13) (w1 := ((((((((((fT.setCell ⟨bN, (aF : Int).toNat * 10, none⟩ (.int .i64 dM)).setCell ⟨bN, (aF : Int).toNat * 10 + 1, none⟩ (.int .i64 dN)).setCell ⟨bN, (aF : Int).toNat * 10 + 2, none⟩ (.int .i64 dO)).setCell ⟨bN, (aF : Int).toNat * 10 + 3, none⟩ (.int .i64 dP)).setCell ⟨bN, (aF : Int).toNat * 10 + 4, none⟩ (.int .i64 dQ)).setCell ⟨bN, (aF : Int).toNat * 10 + 5, none⟩ (.int .i64 dR)).setCell ⟨bN, (aF : Int).toNat * 10 + 6, none⟩ (.int .i64 dS)).setCell ⟨bN, (aF : Int).toNat * 10 + 7, none⟩ (.int .i64 dU)).setCell ⟨bN, (aF : Int).toNat * 10 + 8, none⟩ (.int .i64 dV)).setCell ⟨bN, (aF : Int).toNat * 10 + 9, none⟩ (.string dW))) ?hg ?ho ?hn ?hr ?_; (case ho | hg | hn => rfl); (case hr => exact u8_2); intro fU hw; have hg : fT.grownBy fU (some bN) := (by rw [hw]; exact eU.2); have hp_ : Kd.R k131 131 fU w.heap.size (fun _ => True) (.slice (some ⟨bN, 0, none⟩) aU.length gH) eT := (by rw [hw, gG.out]; exact eU.1); clear eU; replace bV := aM (hp_); replace HB := aM ((by rw [hw]; exact below_set (below_set (below_set (below_set (below_set (below_set (below_set (below_set (below_set (below_set (HB.out) GB10.out) GB10.out) GB10.out) GB10.out) GB10.out) GB10.out) GB10.out) GB10.out) GB10.out) GB10.out : Below w.heap.size w fU)); clear hg hw hp_))
        go_roundg k1
        case measure => have := HK1.out; omega
        case rel => exact ⟨(eT), (wrap64 (aF + 1)), u8_0, H', ⟨by have := HK1.out; omega⟩, ⟨u8_4⟩, ⟨xbel⟩⟩
       ·rw [if_neg c9] at H; exact absurd H (by simp)
      ·rw [if_neg c7] at H; exact absurd H (by simp)
     ·rw [if_neg c6] at H; have eS : decide (aF < (l0.length : Int)) = false := decide_eq_false c6; clear c6; obtain rfl := Option.some.inj H; go_wp2; go_ret
      exact ⟨_, xerr, u8_4, xbel⟩
  ·rw [if_neg c3] at H; exact absurd H (by simp)
 ·rw [if_neg c2] at H; exact absurd H (by simp)

/-! ### impl_sizeOf: function 73 -/
def impl_sizeOf.l0 : Nat → Int → List (S95) → Int → Int → Option (Int)
 | 0, _, _, _, _ => none
 | k + 1, x3, x7, x8, x9 => if x9 < x8 then (if 0 ≤ x9 then (if x9 < (x7.length : Int) then (impl_sizeOf.l0 k (wrap64 (x3 + (wrap64 ((((rd_T95 x7 x9).f1).size : Int) + (((rd_T95 x7 x9).f2).size : Int))))) x7 x8 (wrap64 (x9 + 1))) else (none)) else (none)) else (some x3)
def impl_sizeOf.f (k : Nat) (aG : Int) (aA : List (S95)) : Option (Int) := impl_sizeOf.l0 k 0 aA (aA.length : Int) 0
theorem u8_mq1 {p : Prop} (h : p := by repeat' first | (with_reducible first | exact cH _ _ _ _ | exact LeO.refl _ | exact LeO.none _ | refine LeO.ite ?_ ?_ | refine LeO.bind ?_ (fun _ => ?_)) | exact cH _ _ _ _ | exact LeO.none _ | refine LeO.ite ?_ ?_ | refine LeO.bind ?_ (fun _ => ?_)) : p := h
set_option maxRecDepth 100000 in
theorem impl_sizeOf.mono_l : ∀ k, (∀ y0 y1 y2 y3, LeO (impl_sizeOf.l0 k y0 y1 y2 y3) (impl_sizeOf.l0 (k + 1) y0 y1 y2 y3))
 | 0 => fun _ _ _ _ r h => by simp [impl_sizeOf.l0] at h
 | k + 1 => by
  have cH := impl_sizeOf.mono_l k
  ·intro y0 y1 y2 y3; unfold impl_sizeOf.l0; exact u8_mq1
theorem impl_sizeOf.mono : ∀ a0 a1 k, LeO (impl_sizeOf.f k a0 a1) (impl_sizeOf.f (k + 1) a0 a1) := by
 intro a0 a1 k
 have cH := impl_sizeOf.mono_l k
 unfold impl_sizeOf.f
 exact u8_mq1
set_option maxHeartbeats 8000000 in
set_option maxRecDepth 100000 in
theorem impl_sizeOf.calls (k : Nat) (aG : Int) (bR : Option Addr) (bB : Nat) (aA : List (S95)) (r : Int) (w : World) (cE : Kd.C k95 w bR aA.length aA) (cF : aA.length ≤ bB) (h : impl_sizeOf.f k aG aA = some r) :
 Calls Try.prog 73 #[.agg #[.int .i64 aG, .slice bR aA.length bB]] w fun e w' => e = .returned (.int .i64 r) ∧ Below w.heap.size w w' := by
 have oE := Try.underlying26
 have oF := Try.underlying95
 have bG := aM cE
 have eP := aM cF
 clear cE cF
 have HB := aM (Below.refl w.heap.size w)
 have H : (impl_sizeOf.l0 k 0 aA (aA.length : Int) 0) = some r := h
 clear h
 have H' := aM H
 clear H
 go_enter Try.func73, Try.ntmps73
 go_wp2_with (first | ((with_reducible refine gD 1 rfl ?_); refine boxE (N := 1) rfl (cs := #[.int .i64 aG, .slice bR aA.length bB]) (t := 26) ?_; intro gM hg w2 hbox hb; have bU := aM (hbox); have pD := aM (xge hg); have pE := aM (xge hg); replace HB := xbs hb; clear hb hbox hg; obtain ⟨cI, cJ, cK, cL⟩ := xf2 (w := w2) bU))
 go_loopg [3, 9] k (fun kq v3 v9 w' => ∃ (aU : Int) (aH : Int), v3 = .int .i64 aU ∧ v9 = .int .i64 aH ∧ Aside0 (impl_sizeOf.l0 kq aU aA (aA.length : Int) aH = some r) ∧ Aside0 (kq ≤ k) ∧ Aside0 (w'.heap[gM]? = some (.cells #[.int .i64 aG, (.slice bR aA.length bB)] 26 (0, 0))) ∧ Aside0 (Below w.heap.size w w'))
 case atStart => exact ⟨(0), (0), u8_0, u8_0, H', ⟨Nat.le_refl _⟩, ⟨xblk⟩, ⟨xbg⟩⟩
 case round =>
  clear H'; try clear p2
  try clear cI cJ cK cL
  obtain ⟨aU, aH, rfl, rfl, HA, HK1, bU, HB⟩ := hrel; cases gk with
  | zero => exact absurd HA.out (by simp [impl_sizeOf.l0])
  | succ k1 =>
   have H := HA.out; clear HA; simp only [impl_sizeOf.l0] at H; by_cases c4 : aH < (aA.length : Int)
   ·rw [if_pos c4] at H; have dX : decide (aH < (aA.length : Int)) = true := decide_eq_true c4; clear c4; by_cases c5 : 0 ≤ aH
    ·rw [if_pos c5] at H; have oG : decide (0 ≤ aH) = true := decide_eq_true c5; clear c5; by_cases c6 : aH < (aA.length : Int)
     ·rw [if_pos c6] at H; have eS : decide (aH < (aA.length : Int)) = true := decide_eq_true c6; clear c6; have H' := aM H; clear H; have p412 : 0 ≤ (aH : Int) := oda; have q412 : aH < (aA.length : Int) := oda; obtain ⟨pF, oH, cX, cY, cZ⟩ := at_T95 bG.out aH p412 q412; cases oH
      replace cX := xce HB cX; replace cY := xce HB cY; replace cZ := xce HB cZ; replace p412 := eq_true p412; replace q412 := eq_true q412; go_wp2_with (first | ((with_reducible refine gD 5 rfl ?_); refine boxE (N := 5) rfl (cs := #[.int .i64 0, .string (⟨#[]⟩ : ByteArray), .string (⟨#[]⟩ : ByteArray)]) (t := 95) ?_; intro pG hg w7 hbox hb; have pH := aM (xge hg); have pI := aM (xge hg); replace HB := xbs hb; have dY := nblt bU hg; have dZ := nbgt bU hg; replace bU := xbb bU hb; have gN := aM (hbox); clear hb hbox hg; have qF := dZ.out; have qG := dY.out; obtain ⟨oI, oJ, oK, oL, oM, oN⟩ := xf3 (w := w7) gN))
      go_roundg k1
      case measure => have := HK1.out; omega
      case rel => exact ⟨(wrap64 (aU + (wrap64 ((((rd_T95 aA aH).f1).size : Int) + (((rd_T95 aA aH).f2).size : Int))))), (wrap64 (aH + 1)), u8_0, u8_0, H', ⟨by have := HK1.out; omega⟩, ⟨xB⟩, ⟨xbg⟩⟩
     ·rw [if_neg c6] at H; exact absurd H (by simp)
    ·rw [if_neg c5] at H; exact absurd H (by simp)
   ·rw [if_neg c4] at H; have dX : decide (aH < (aA.length : Int)) = false := decide_eq_false c4; clear c4; obtain rfl := Option.some.inj H; go_wp2; go_ret
    exact ⟨xerr, xbg⟩

/-! ### impl_within: function 99 -/
def impl_within.f (a0 : Int) (a1 : Int) (a2 : Int) : Option (Bool) := if a0 ≥ a1 then (some (decide (a0 ≤ a2))) else (some false)
set_option maxHeartbeats 8000000 in
set_option maxRecDepth 100000 in
theorem impl_within.calls (a0 : Int) (a1 : Int) (a2 : Int) (r : Bool) (w : World) (h : impl_within.f a0 a1 a2 = some r) :
 Calls Try.prog 99 #[.int .i64 a0, .int .i64 a1, .int .i64 a2] w fun e w' => e = .returned (.bool r) ∧ Drawn0 w w' := by
 have H : (if a0 ≥ a1 then (some (decide (a0 ≤ a2))) else (some false)) = some r := h
 clear h
 by_cases c4 : a0 ≥ a1
 ·rw [if_pos c4] at H; have dX : decide (a1 ≤ a0) = true := decide_eq_true c4; clear c4; obtain rfl := Option.some.inj H; go_enter Try.func99, Try.ntmps99
  go_wp2; go_ret
  exact ⟨u8_0, u8_1⟩
 ·rw [if_neg c4] at H; have dX : decide (a1 ≤ a0) = false := decide_eq_false c4; clear c4; obtain rfl := Option.some.inj H; go_enter Try.func99, Try.ntmps99
  go_wp2; go_ret
  exact ⟨u8_0, u8_1⟩

/-! ### impl_isFile: function 77 -/
def impl_isFile.f (a0 : Int) : Option (Bool) := (impl_within.f a0 0 7).bind fun eA => (some eA)
set_option maxHeartbeats 8000000 in
set_option maxRecDepth 100000 in
theorem impl_isFile.calls (a0 : Int) (r : Bool) (w : World) (h : impl_isFile.f a0 = some r) :
 Calls Try.prog 77 #[.int .i64 a0] w fun e w' => e = .returned (.bool r) ∧ Drawn0 w w' := by
 have H : ((impl_within.f a0 0 7).bind fun eA => (some eA)) = some r := h
 clear h
 replace H := oB H
 obtain ⟨eA, eK, H⟩ := H
 (try dsimp only at H)
 have A2 := aM eK
 clear eK
 obtain rfl := Option.some.inj H
 go_enter Try.func77, Try.ntmps77
 go_wp2_with (first | ((with_reducible refine gC 99 rfl ?_); refine goesLY (some 4) rfl Try.func99 #[.int .i64 a0, .int .i64 0, .int .i64 7] ?_; (with_reducible refine (impl_within.calls a0 0 7 eA _ A2.out).mono ?_); rintro e w' ⟨rfl, ⟨nd, rfl⟩⟩; refine ⟨_, rfl, ?_⟩))
 go_ret
 exact ⟨u8_0, u8_1⟩

/-! ### impl_DiskOk: function 72 -/
def impl_DiskOk.l0 : Nat → List (S95) → Int → Int → Int → List (S95) → Option (Bool)
 | 0, _, _, _, _, _ => none
 | k + 1, x6, x7, x8, bH, bI => if x8 < x7 then (if 0 ≤ x8 then (if x8 < (x6.length : Int) then ((impl_isFile.f ((rd_T95 x6 x8).f0)).bind fun fP => (if fP = true then (if x8 > 0 then (if 0 ≤ (wrap64 (x8 - 1)) then (if (wrap64 (x8 - 1)) < (bI.length : Int) then (if ((rd_T95 bI (wrap64 (x8 - 1))).f0) ≥ ((rd_T95 x6 x8).f0) then (some false) else (impl_DiskOk.l0 k x6 x7 (wrap64 (x8 + 1)) bH bI)) else (none)) else (none)) else (impl_DiskOk.l0 k x6 x7 (wrap64 (x8 + 1)) bH bI)) else (some false))) else (none)) else (none)) else ((impl_within.f bH 0 40000).bind fun fQ => (if fQ = true then ((impl_sizeOf.f k bH bI).bind fun fR => (some (decide (fR ≤ bH)))) else (some false)))
def impl_DiskOk.f (k : Nat) (aG : Int) (aA : List (S95)) : Option (Bool) := impl_DiskOk.l0 k aA (aA.length : Int) 0 aG aA
theorem u8_mq2 {p : Prop} (h : p := by repeat' first | (with_reducible first | exact cH _ _ _ _ _ | exact impl_sizeOf.mono _ _ _ | exact LeO.refl _ | exact LeO.none _ | refine LeO.ite ?_ ?_ | refine LeO.bind ?_ (fun _ => ?_)) | exact cH _ _ _ _ _ | exact impl_sizeOf.mono _ _ _ | exact LeO.none _ | refine LeO.ite ?_ ?_ | refine LeO.bind ?_ (fun _ => ?_)) : p := h
set_option maxRecDepth 100000 in
theorem impl_DiskOk.mono_l : ∀ k, (∀ y0 y1 y2 y3 y4, LeO (impl_DiskOk.l0 k y0 y1 y2 y3 y4) (impl_DiskOk.l0 (k + 1) y0 y1 y2 y3 y4))
 | 0 => fun _ _ _ _ _ r h => by simp [impl_DiskOk.l0] at h
 | k + 1 => by
  have cH := impl_DiskOk.mono_l k
  ·intro y0 y1 y2 y3 y4; unfold impl_DiskOk.l0; exact u8_mq2
theorem impl_DiskOk.mono : ∀ a0 a1 k, LeO (impl_DiskOk.f k a0 a1) (impl_DiskOk.f (k + 1) a0 a1) := by
 intro a0 a1 k
 have cH := impl_DiskOk.mono_l k
 unfold impl_DiskOk.f
 exact u8_mq2
def impl_DiskOk.T4 : Bool × List (List Nat × List Nat) := (true, [([], []), ([0], [0]), ([1], [1]), ([2], [2]), ([3, 2], [3]), ([4], [4]), ([5, 4], [4, 5]), ([6, 4, 4], [4, 6]), ([7], [7]), ([8, 7], [7, 8]), ([7], [7]), ([10, 7], [7, 10]), ([9, 11, 7], [7, 9, 11]), ([12, 7], [7, 12]), ([13, 7], [7, 13]), ([7], [7]), ([15, 7], [7, 15]), ([14, 16, 7], [7, 14, 16]), ([7, 17, 4], [4, 7, 17]), ([4, 18], [4, 18])])
def impl_DiskOk.B4 : List Nat := [0, 1, 3, 7, 15, 31, 63, 127, 255, 511, 255, 1279, 4095, 8191, 16383, 255, 33023, 131071, 262143, 524287]
theorem impl_DiskOk.tab4 : rtab .any (opsOf Try.f72 4) = impl_DiskOk.T4 := by kernel_rfl
theorem impl_DiskOk.bits4 : waitsOk impl_DiskOk.T4.2 impl_DiskOk.B4 = true := by kernel_rfl
def impl_DiskOk.T7 : Bool × List (List Nat × List Nat) := (true, [([], []), ([0], [0]), ([1], [1]), ([2, 2], [2]), ([3], [3]), ([4, 3, 3], [3, 4]), ([3], [3]), ([6, 3], [3, 6]), ([5, 7, 3], [3, 5, 7]), ([3, 8], [3, 8]), ([9, 5, 0, 1, 2, 3, 4, 5, 6, 7, 8, 9], [9])])
def impl_DiskOk.B7 : List Nat := [0, 1, 3, 7, 15, 31, 15, 79, 255, 511, 1023]
theorem impl_DiskOk.tab7 : rtab .any (opsOf Try.f72 7) = impl_DiskOk.T7 := by kernel_rfl
theorem impl_DiskOk.bits7 : waitsOk impl_DiskOk.T7.2 impl_DiskOk.B7 = true := by kernel_rfl
set_option maxHeartbeats 8000000 in
set_option maxRecDepth 100000 in
theorem impl_DiskOk.calls (k : Nat) (aG : Int) (bR : Option Addr) (bB : Nat) (aA : List (S95)) (r : Bool) (w : World) (cE : Kd.C k95 w bR aA.length aA) (cF : aA.length ≤ bB) (h : impl_DiskOk.f k aG aA = some r) :
 Calls Try.prog 72 #[.agg #[.int .i64 aG, .slice bR aA.length bB]] w fun e w' => e = .returned (.bool r) ∧ Below w.heap.size w w' := by
 have oE := Try.underlying26
 have oF := Try.underlying95
 have bG := aM cE
 have eP := aM cF
 clear cE cF
 have HB := aM (Below.refl w.heap.size w)
 have H : (impl_DiskOk.l0 k aA (aA.length : Int) 0 aG aA) = some r := h
 clear h
 have H' := aM H
 clear H
 go_enter Try.func72, Try.ntmps72
 go_wp2_with (first | ((with_reducible refine gD 1 rfl ?_); refine boxE (N := 1) rfl (cs := #[.int .i64 aG, .slice bR aA.length bB]) (t := 26) ?_; intro bJ hg w2 hbox hb; have aD := aM (hbox); have pJ := aM (xge hg); have pK := aM (xge hg); replace HB := xbs hb; clear hb hbox hg; obtain ⟨cI, cJ, cK, cL⟩ := xf2 (w := w2) aD))
 go_loopg [8] k (fun kq v8 w' => ∃ (aB : Int), v8 = .int .i64 aB ∧ Aside0 (impl_DiskOk.l0 kq aA (aA.length : Int) aB aG aA = some r) ∧ Aside0 (kq ≤ k) ∧ Aside0 (w'.heap[bJ]? = some (.cells #[.int .i64 aG, (.slice bR aA.length bB)] 26 (0, 0))) ∧ Aside0 (Below w.heap.size w w'))
 case atStart => exact ⟨(0), u8_0, H', ⟨Nat.le_refl _⟩, ⟨xblk⟩, ⟨xbg⟩⟩
 case round =>
  clear H'; try clear p2
  try clear cI cJ cK cL
  obtain ⟨aB, rfl, HA, HK1, aD, HB⟩ := hrel; cases gk with
  | zero => exact absurd HA.out (by simp [impl_DiskOk.l0])
  | succ k1 =>
   have H := HA.out; clear HA; simp only [impl_DiskOk.l0] at H; by_cases c4 : aB < (aA.length : Int)
   ·rw [if_pos c4] at H; have dX : decide (aB < (aA.length : Int)) = true := decide_eq_true c4; clear c4; by_cases c5 : 0 ≤ aB
    ·rw [if_pos c5] at H; have oG : decide (0 ≤ aB) = true := decide_eq_true c5; clear c5; by_cases c6 : aB < (aA.length : Int)
     ·rw [if_pos c6] at H; have eS : decide (aB < (aA.length : Int)) = true := decide_eq_true c6; clear c6; replace H := oB H; obtain ⟨fP, pL, H⟩ := H; (try dsimp only at H); have A7 := aM pL; clear pL
      by_cases c8 : fP = true
      ·subst c8; replace H := iT H; by_cases c9 : aB > 0
       ·rw [if_pos c9] at H; have gF : decide (0 < aB) = true := decide_eq_true c9; clear c9; obtain ⟨ji10, hji10⟩ : ∃ j_ : Int, (wrap64 (aB - 1)) = j_ := ⟨_, rfl⟩; replace H : (if 0 ≤ (ji10) then (if (ji10) < (aA.length : Int) then (if ((rd_T95 aA (ji10)).f0) ≥ ((rd_T95 aA aB).f0) then (some false) else (impl_DiskOk.l0 k1 aA (aA.length : Int) (wrap64 (aB + 1)) aG aA)) else (none)) else (none)) = some r := by first | (rw [hji10] at H; exact H) | (simp only [hji10] at H ⊢; exact H)
        (try rw [hji10] at A7); have hji10w : (IntKind.i64.wrap (aB - 1)) = ji10 := (i64_w _).trans hji10; by_cases lN : 0 ≤ (ji10)
        ·rw [if_pos lN] at H; have pM : decide (0 ≤ (ji10)) = true := decide_eq_true lN; clear lN; by_cases lO : (ji10) < (aA.length : Int)
         ·rw [if_pos lO] at H; have pN : decide ((ji10) < (aA.length : Int)) = true := decide_eq_true lO; clear lO; by_cases fV : ((rd_T95 aA (ji10)).f0) ≥ ((rd_T95 aA aB).f0)
          ·rw [if_pos fV] at H; have gO : decide (((rd_T95 aA aB).f0) ≤ ((rd_T95 aA (ji10)).f0)) = true := decide_eq_true fV; clear fV; obtain rfl := Option.some.inj H; have p416 : 0 ≤ (aB : Int) := oda; have q416 : aB < (aA.length : Int) := oda; obtain ⟨aI, cM, aK, aL, aN⟩ := at_T95 bG.out aB p416 q416; cases cM
           replace aK := xce HB aK; replace aL := xce HB aL; replace aN := xce HB aN; replace p416 := eq_true p416; replace q416 := eq_true q416; try go_wp2_with (first | ((with_reducible refine gD 4 rfl ?_); refine boxE (N := 4) rfl (cs := #[.int .i64 0, .string (⟨#[]⟩ : ByteArray), .string (⟨#[]⟩ : ByteArray)]) (t := 95) ?_; intro aC hg gP hbox hb; have eB := aM (xge hg); have eC := aM (xge hg); replace HB := xbs hb; have aP := nblt aD hg; have aQ := nbgt aD hg; replace aD := xbb aD hb; have aE := aM (hbox); clear hb hbox hg; have pO := aQ.out; have pP := aP.out; obtain ⟨eE, eF, eG, eH, eI, eJ⟩ := xf3 (w := gP) aE))
           have n0_ : Aside0 ((((gP.setCell ⟨aC, 0, none⟩ (.int .i64 ((rd_T95 aA aB).f0))).setCell ⟨aC, 1, none⟩ (.string ((rd_T95 aA aB).f1))).setCell ⟨aC, 2, none⟩ (.string ((rd_T95 aA aB).f2))).heap[bJ]? = some (.cells #[.int .i64 aG, .slice (some aI) aA.length bB] 26 (0, 0))) := ⟨xB⟩; have n1_ : Aside0 ((((gP.setCell ⟨aC, 0, none⟩ (.int .i64 ((rd_T95 aA aB).f0))).setCell ⟨aC, 1, none⟩ (.string ((rd_T95 aA aB).f1))).setCell ⟨aC, 2, none⟩ (.string ((rd_T95 aA aB).f2))).heap[aC]? = some (.cells #[.int .i64 ((rd_T95 aA aB).f0), .string ((rd_T95 aA aB).f1), .string ((rd_T95 aA aB).f2)] 95 (0, 0))) := ⟨xP⟩; have n2_ : Aside0 (Below w.heap.size w (((gP.setCell ⟨aC, 0, none⟩ (.int .i64 ((rd_T95 aA aB).f0))).setCell ⟨aC, 1, none⟩ (.string ((rd_T95 aA aB).f1))).setCell ⟨aC, 2, none⟩ (.string ((rd_T95 aA aB).f2)))) := ⟨xbg⟩; (try clear aD); (try clear aE); (try clear HB)
           generalize (((gP.setCell ⟨aC, 0, none⟩ (.int .i64 ((rd_T95 aA aB).f0))).setCell ⟨aC, 1, none⟩ (.string ((rd_T95 aA aB).f1))).setCell ⟨aC, 2, none⟩ (.string ((rd_T95 aA aB).f2))) = qH at n0_ n1_ n2_ ⊢; have aD := n0_; have aE := n1_; have HB := n2_; clear n0_ n1_ n2_; replace aD := bD aD; replace aE := bD aE; replace HB := lD HB; have p419 : 0 ≤ ((ji10) : Int) := oda; have q419 : (ji10) < (aA.length : Int) := oda; obtain ⟨eD, fS, aR, aS, aT⟩ := at_T95 bG.out (ji10) p419 q419; have bK := aT; have bL := aS; have bM := aR; obtain rfl : aI = eD := (by injection fS); replace aR := xce HB aR; replace aS := xce HB aS; replace aT := xce HB aT; replace p419 := eq_true p419; replace q419 := eq_true q419; refine st_ 20 (fun w' => w'.cell? ⟨aC, 0, none⟩ = some (.int .i64 ((rd_T95 aA aB).f0)) ∧ w'.cell? ⟨aC, 1, none⟩ = some (.string ((rd_T95 aA aB).f1)) ∧ w'.cell? ⟨aC, 2, none⟩ = some (.string ((rd_T95 aA aB).f2)) ∧ w'.cell? ⟨bJ, 0, none⟩ = some (.int .i64 aG) ∧ w'.cell? ⟨bJ, 1, none⟩ = some (.slice (some aI) aA.length bB) ∧ w'.cell? (aI.add (((ji10)).toNat * 3)) = some (.int .i64 ((rd_T95 aA (ji10)).f0)) ∧ w'.cell? ⟨(aI.add (((ji10)).toNat * 3)).block, (aI.add (((ji10)).toNat * 3)).off + 1, none⟩ = some (.string ((rd_T95 aA (ji10)).f1)) ∧ w'.cell? ⟨(aI.add (((ji10)).toNat * 3)).block, (aI.add (((ji10)).toNat * 3)).off + 2, none⟩ = some (.string ((rd_T95 aA (ji10)).f2))) impl_DiskOk.tab4 impl_DiskOk.bits4 ⟨xc aE 0 rfl, xc aE 1 rfl, xc aE 2 rfl, xc aD 0 rfl, xc aD 1 rfl, (xce HB bM), (xce HB bL), (xce HB bK)⟩ (fun hHeld HT_ HW_ => ?_); generalize qH.drew = pA at aD aE HB aR aS aT hHeld ⊢; refine pv_ 0 13 (h := ?_); refine tk_ 1 14 (h := ?_); refine on_ 2 15 (h := fun K hK => ?_); refine goesY Try.func77 #[.int .i64 ((rd_T95 aA aB).f0)] ?_; with_reducible refine (impl_isFile.calls ((rd_T95 aA aB).f0) true _ A7.out).mono ?_
           rintro e w' ⟨rfl, ⟨nd, rfl⟩⟩; refine ⟨_, rfl, ?_⟩; refine hK.out _ _ ⟨xc aE 0 rfl, xc aE 1 rfl, xc aE 2 rfl, xc aD 0 rfl, xc aD 1 rfl, (xce HB bM), (xce HB bL), (xce HB bK)⟩ (fun hHeld => ?_); clear hK K; refine nm_ (N := 15) ?_; refine pv_ 3 16 (h := ?_); refine pv_ 4 17 (h := ?_); refine pv_ 5 18 (h := ?_); refine pv_ 6 19 (h := ?_); refine pv_ 7 20 (h := ?_); refine pv_ 8 21 (h := ?_); refine pv_ 10 23 (h := ?_); refine pv_ 11 24 (h := ?_); refine pv_ 15 28 (h := ?_); refine tk_ 9 22 (h := ?_); refine pv_ 12 25 (h := ?_); refine pv_ 13 26 (h := ?_); refine tk_ 14 27 (h := ?_); refine tk_ 16 29 (h := ?_); refine pv_ 17 30 (h := ?_); refine pv_ 18 31 (h := ?_); refine pv_ 19 32 (h := ?_); refine dn_ ?_; try go_wp2
           go_ret
           exact ⟨by first | rfl | (simp [errW_none, errW_some] <;> rfl) | (simp only [← hji10]; first | rfl | (simp [errW_none, errW_some] <;> rfl)) | (simp [*, errW_none, errW_some] <;> rfl), xbg⟩
          ·rw [if_neg fV] at H; have gO : decide (((rd_T95 aA aB).f0) ≤ ((rd_T95 aA (ji10)).f0)) = false := decide_eq_false fV; clear fV; have H' := aM H; clear H; have p416 : 0 ≤ (aB : Int) := oda; have q416 : aB < (aA.length : Int) := oda; obtain ⟨aI, cM, aK, aL, aN⟩ := at_T95 bG.out aB p416 q416; cases cM
           replace aK := xce HB aK; replace aL := xce HB aL; replace aN := xce HB aN; replace p416 := eq_true p416; replace q416 := eq_true q416; try go_wp2_with (first | ((with_reducible refine gD 4 rfl ?_); refine boxE (N := 4) rfl (cs := #[.int .i64 0, .string (⟨#[]⟩ : ByteArray), .string (⟨#[]⟩ : ByteArray)]) (t := 95) ?_; intro aC hg gQ hbox hb; have eB := aM (xge hg); have eC := aM (xge hg); replace HB := xbs hb; have aP := nblt aD hg; have aQ := nbgt aD hg; replace aD := xbb aD hb; have aE := aM (hbox); clear hb hbox hg; have pQ := aQ.out; have pR := aP.out; obtain ⟨lP, lQ, lR, lS, lT, lU⟩ := xf3 (w := gQ) aE))
           have n0_ : Aside0 ((((gQ.setCell ⟨aC, 0, none⟩ (.int .i64 ((rd_T95 aA aB).f0))).setCell ⟨aC, 1, none⟩ (.string ((rd_T95 aA aB).f1))).setCell ⟨aC, 2, none⟩ (.string ((rd_T95 aA aB).f2))).heap[bJ]? = some (.cells #[.int .i64 aG, .slice (some aI) aA.length bB] 26 (0, 0))) := ⟨xB⟩; have n1_ : Aside0 ((((gQ.setCell ⟨aC, 0, none⟩ (.int .i64 ((rd_T95 aA aB).f0))).setCell ⟨aC, 1, none⟩ (.string ((rd_T95 aA aB).f1))).setCell ⟨aC, 2, none⟩ (.string ((rd_T95 aA aB).f2))).heap[aC]? = some (.cells #[.int .i64 ((rd_T95 aA aB).f0), .string ((rd_T95 aA aB).f1), .string ((rd_T95 aA aB).f2)] 95 (0, 0))) := ⟨xP⟩; have n2_ : Aside0 (Below w.heap.size w (((gQ.setCell ⟨aC, 0, none⟩ (.int .i64 ((rd_T95 aA aB).f0))).setCell ⟨aC, 1, none⟩ (.string ((rd_T95 aA aB).f1))).setCell ⟨aC, 2, none⟩ (.string ((rd_T95 aA aB).f2)))) := ⟨xbg⟩; (try clear aD); (try clear aE); (try clear HB)
           generalize (((gQ.setCell ⟨aC, 0, none⟩ (.int .i64 ((rd_T95 aA aB).f0))).setCell ⟨aC, 1, none⟩ (.string ((rd_T95 aA aB).f1))).setCell ⟨aC, 2, none⟩ (.string ((rd_T95 aA aB).f2))) = qI at n0_ n1_ n2_ ⊢; have aD := n0_; have aE := n1_; have HB := n2_; clear n0_ n1_ n2_; replace aD := bD aD; replace aE := bD aE; replace HB := lD HB; have p419 : 0 ≤ ((ji10) : Int) := oda; have q419 : (ji10) < (aA.length : Int) := oda; obtain ⟨eD, fS, aR, aS, aT⟩ := at_T95 bG.out (ji10) p419 q419; have bK := aT; have bL := aS; have bM := aR; obtain rfl : aI = eD := (by injection fS); replace aR := xce HB aR; replace aS := xce HB aS; replace aT := xce HB aT; replace p419 := eq_true p419; replace q419 := eq_true q419; refine st_ 20 (fun w' => w'.cell? ⟨aC, 0, none⟩ = some (.int .i64 ((rd_T95 aA aB).f0)) ∧ w'.cell? ⟨aC, 1, none⟩ = some (.string ((rd_T95 aA aB).f1)) ∧ w'.cell? ⟨aC, 2, none⟩ = some (.string ((rd_T95 aA aB).f2)) ∧ w'.cell? ⟨bJ, 0, none⟩ = some (.int .i64 aG) ∧ w'.cell? ⟨bJ, 1, none⟩ = some (.slice (some aI) aA.length bB) ∧ w'.cell? (aI.add (((ji10)).toNat * 3)) = some (.int .i64 ((rd_T95 aA (ji10)).f0)) ∧ w'.cell? ⟨(aI.add (((ji10)).toNat * 3)).block, (aI.add (((ji10)).toNat * 3)).off + 1, none⟩ = some (.string ((rd_T95 aA (ji10)).f1)) ∧ w'.cell? ⟨(aI.add (((ji10)).toNat * 3)).block, (aI.add (((ji10)).toNat * 3)).off + 2, none⟩ = some (.string ((rd_T95 aA (ji10)).f2))) impl_DiskOk.tab4 impl_DiskOk.bits4 ⟨xc aE 0 rfl, xc aE 1 rfl, xc aE 2 rfl, xc aD 0 rfl, xc aD 1 rfl, (xce HB bM), (xce HB bL), (xce HB bK)⟩ (fun hHeld HT_ HW_ => ?_); generalize qI.drew = qN at aD aE HB aR aS aT hHeld ⊢; refine pv_ 0 13 (h := ?_); refine tk_ 1 14 (h := ?_); refine on_ 2 15 (h := fun K hK => ?_); refine goesY Try.func77 #[.int .i64 ((rd_T95 aA aB).f0)] ?_; with_reducible refine (impl_isFile.calls ((rd_T95 aA aB).f0) true _ A7.out).mono ?_
           rintro e w' ⟨rfl, ⟨nd, rfl⟩⟩; refine ⟨_, rfl, ?_⟩; refine hK.out _ _ ⟨xc aE 0 rfl, xc aE 1 rfl, xc aE 2 rfl, xc aD 0 rfl, xc aD 1 rfl, (xce HB bM), (xce HB bL), (xce HB bK)⟩ (fun hHeld => ?_); clear hK K; refine nm_ (N := 15) ?_; refine pv_ 3 16 (h := ?_); refine pv_ 4 17 (h := ?_); refine pv_ 5 18 (h := ?_); refine pv_ 6 19 (h := ?_); refine pv_ 7 20 (h := ?_); refine pv_ 8 21 (h := ?_); refine pv_ 10 23 (h := ?_); refine pv_ 11 24 (h := ?_); refine pv_ 15 28 (h := ?_); refine tk_ 9 22 (h := ?_); refine pv_ 12 25 (h := ?_); refine pv_ 13 26 (h := ?_); refine tk_ 14 27 (h := ?_); refine tk_ 16 29 (h := ?_); refine pv_ 17 30 (h := ?_); refine pv_ 18 31 (h := ?_); refine pv_ 19 32 (h := ?_); refine dn_ ?_; try go_wp2
           go_roundg k1
           case measure => have := HK1.out; omega
           case rel => exact ⟨(wrap64 (aB + 1)), u8_0, H', ⟨by have := HK1.out; omega⟩, ⟨xblk⟩, ⟨xbg⟩⟩
         ·rw [if_neg lO] at H; exact absurd H (by simp)
        ·rw [if_neg lN] at H; exact absurd H (by simp)
       ·rw [if_neg c9] at H; have gF : decide (0 < aB) = false := decide_eq_false c9; clear c9; have H' := aM H; clear H; have p416 : 0 ≤ (aB : Int) := oda; have q416 : aB < (aA.length : Int) := oda; obtain ⟨aI, cM, aK, aL, aN⟩ := at_T95 bG.out aB p416 q416; cases cM
        replace aK := xce HB aK; replace aL := xce HB aL; replace aN := xce HB aN; replace p416 := eq_true p416; replace q416 := eq_true q416; try go_wp2_with (first | ((with_reducible refine gD 4 rfl ?_); refine boxE (N := 4) rfl (cs := #[.int .i64 0, .string (⟨#[]⟩ : ByteArray), .string (⟨#[]⟩ : ByteArray)]) (t := 95) ?_; intro aC hg gR hbox hb; have eB := aM (xge hg); have eC := aM (xge hg); replace HB := xbs hb; have aP := nblt aD hg; have aQ := nbgt aD hg; replace aD := xbb aD hb; have aE := aM (hbox); clear hb hbox hg; have pS := aQ.out; have pT := aP.out; obtain ⟨lV, lW, lX, lY, lZ, mA⟩ := xf3 (w := gR) aE))
        have n0_ : Aside0 ((((gR.setCell ⟨aC, 0, none⟩ (.int .i64 ((rd_T95 aA aB).f0))).setCell ⟨aC, 1, none⟩ (.string ((rd_T95 aA aB).f1))).setCell ⟨aC, 2, none⟩ (.string ((rd_T95 aA aB).f2))).heap[bJ]? = some (.cells #[.int .i64 aG, .slice (some aI) aA.length bB] 26 (0, 0))) := ⟨xB⟩; have n1_ : Aside0 ((((gR.setCell ⟨aC, 0, none⟩ (.int .i64 ((rd_T95 aA aB).f0))).setCell ⟨aC, 1, none⟩ (.string ((rd_T95 aA aB).f1))).setCell ⟨aC, 2, none⟩ (.string ((rd_T95 aA aB).f2))).heap[aC]? = some (.cells #[.int .i64 ((rd_T95 aA aB).f0), .string ((rd_T95 aA aB).f1), .string ((rd_T95 aA aB).f2)] 95 (0, 0))) := ⟨xP⟩; have n2_ : Aside0 (Below w.heap.size w (((gR.setCell ⟨aC, 0, none⟩ (.int .i64 ((rd_T95 aA aB).f0))).setCell ⟨aC, 1, none⟩ (.string ((rd_T95 aA aB).f1))).setCell ⟨aC, 2, none⟩ (.string ((rd_T95 aA aB).f2)))) := ⟨xbg⟩; (try clear aD); (try clear aE); (try clear HB)
        generalize (((gR.setCell ⟨aC, 0, none⟩ (.int .i64 ((rd_T95 aA aB).f0))).setCell ⟨aC, 1, none⟩ (.string ((rd_T95 aA aB).f1))).setCell ⟨aC, 2, none⟩ (.string ((rd_T95 aA aB).f2))) = qJ at n0_ n1_ n2_ ⊢; have aD := n0_; have aE := n1_; have HB := n2_; clear n0_ n1_ n2_; replace aD := bD aD; replace aE := bD aE; replace HB := lD HB; refine st_ 20 (fun w' => w'.cell? ⟨aC, 0, none⟩ = some (.int .i64 ((rd_T95 aA aB).f0)) ∧ w'.cell? ⟨aC, 1, none⟩ = some (.string ((rd_T95 aA aB).f1)) ∧ w'.cell? ⟨aC, 2, none⟩ = some (.string ((rd_T95 aA aB).f2))) impl_DiskOk.tab4 impl_DiskOk.bits4 ⟨xc aE 0 rfl, xc aE 1 rfl, xc aE 2 rfl⟩ (fun hHeld HT_ HW_ => ?_); generalize qJ.drew = qO at aD aE HB hHeld ⊢; refine pv_ 0 13 (h := ?_); refine tk_ 1 14 (h := ?_); refine on_ 2 15 (h := fun K hK => ?_); refine goesY Try.func77 #[.int .i64 ((rd_T95 aA aB).f0)] ?_; with_reducible refine (impl_isFile.calls ((rd_T95 aA aB).f0) true _ A7.out).mono ?_
        rintro e w' ⟨rfl, ⟨nd, rfl⟩⟩; refine ⟨_, rfl, ?_⟩; refine hK.out _ _ ⟨xc aE 0 rfl, xc aE 1 rfl, xc aE 2 rfl⟩ (fun hHeld => ?_); clear hK K; refine nm_ (N := 15) ?_; refine pv_ 3 16 (h := ?_); refine pv_ 4 17 (h := ?_); refine pv_ 5 18 (h := ?_); refine pv_ 6 19 (h := ?_); refine pv_ 7 20 (h := ?_); refine pu_ 8 21 (h := ?_); refine pu_ 9 22 (h := ?_); refine pu_ 10 23 (h := ?_); refine pu_ 11 24 (h := ?_); refine pu_ 12 25 (h := ?_); refine pu_ 13 26 (h := ?_); refine pu_ 14 27 (h := ?_); refine pu_ 15 28 (h := ?_); refine pu_ 16 29 (h := ?_); refine pu_ 17 30 (h := ?_); refine pv_ 18 31 (h := ?_); refine pv_ 19 32 (h := ?_); refine dn_ ?_; try go_wp2
        go_roundg k1
        case measure => have := HK1.out; omega
        case rel => exact ⟨(wrap64 (aB + 1)), u8_0, H', ⟨by have := HK1.out; omega⟩, ⟨xblk⟩, ⟨xbg⟩⟩
      ·replace c8 := Bool.eq_false_iff.mpr c8; subst c8; replace H := iN H; obtain rfl := Option.some.inj H; have p416 : 0 ≤ (aB : Int) := oda; have q416 : aB < (aA.length : Int) := oda; obtain ⟨aI, cM, aK, aL, aN⟩ := at_T95 bG.out aB p416 q416; cases cM
       replace aK := xce HB aK; replace aL := xce HB aL; replace aN := xce HB aN; replace p416 := eq_true p416; replace q416 := eq_true q416; try go_wp2_with (first | ((with_reducible refine gD 4 rfl ?_); refine boxE (N := 4) rfl (cs := #[.int .i64 0, .string (⟨#[]⟩ : ByteArray), .string (⟨#[]⟩ : ByteArray)]) (t := 95) ?_; intro aC hg gS hbox hb; have eB := aM (xge hg); have eC := aM (xge hg); replace HB := xbs hb; have aP := nblt aD hg; have aQ := nbgt aD hg; replace aD := xbb aD hb; have aE := aM (hbox); clear hb hbox hg; have pU := aQ.out; have pV := aP.out; obtain ⟨mB, mC, mD, mE, mF, mG⟩ := xf3 (w := gS) aE))
       have n0_ : Aside0 ((((gS.setCell ⟨aC, 0, none⟩ (.int .i64 ((rd_T95 aA aB).f0))).setCell ⟨aC, 1, none⟩ (.string ((rd_T95 aA aB).f1))).setCell ⟨aC, 2, none⟩ (.string ((rd_T95 aA aB).f2))).heap[bJ]? = some (.cells #[.int .i64 aG, .slice (some aI) aA.length bB] 26 (0, 0))) := ⟨xB⟩; have n1_ : Aside0 ((((gS.setCell ⟨aC, 0, none⟩ (.int .i64 ((rd_T95 aA aB).f0))).setCell ⟨aC, 1, none⟩ (.string ((rd_T95 aA aB).f1))).setCell ⟨aC, 2, none⟩ (.string ((rd_T95 aA aB).f2))).heap[aC]? = some (.cells #[.int .i64 ((rd_T95 aA aB).f0), .string ((rd_T95 aA aB).f1), .string ((rd_T95 aA aB).f2)] 95 (0, 0))) := ⟨xP⟩; have n2_ : Aside0 (Below w.heap.size w (((gS.setCell ⟨aC, 0, none⟩ (.int .i64 ((rd_T95 aA aB).f0))).setCell ⟨aC, 1, none⟩ (.string ((rd_T95 aA aB).f1))).setCell ⟨aC, 2, none⟩ (.string ((rd_T95 aA aB).f2)))) := ⟨xbg⟩; (try clear aD); (try clear aE); (try clear HB)
       generalize (((gS.setCell ⟨aC, 0, none⟩ (.int .i64 ((rd_T95 aA aB).f0))).setCell ⟨aC, 1, none⟩ (.string ((rd_T95 aA aB).f1))).setCell ⟨aC, 2, none⟩ (.string ((rd_T95 aA aB).f2))) = qK at n0_ n1_ n2_ ⊢; have aD := n0_; have aE := n1_; have HB := n2_; clear n0_ n1_ n2_; replace aD := bD aD; replace aE := bD aE; replace HB := lD HB; refine st_ 20 (fun w' => w'.cell? ⟨aC, 0, none⟩ = some (.int .i64 ((rd_T95 aA aB).f0)) ∧ w'.cell? ⟨aC, 1, none⟩ = some (.string ((rd_T95 aA aB).f1)) ∧ w'.cell? ⟨aC, 2, none⟩ = some (.string ((rd_T95 aA aB).f2))) impl_DiskOk.tab4 impl_DiskOk.bits4 ⟨xc aE 0 rfl, xc aE 1 rfl, xc aE 2 rfl⟩ (fun hHeld HT_ HW_ => ?_); generalize qK.drew = qP at aD aE HB hHeld ⊢; refine pv_ 0 13 (h := ?_); refine tk_ 1 14 (h := ?_); refine on_ 2 15 (h := fun K hK => ?_); refine goesY Try.func77 #[.int .i64 ((rd_T95 aA aB).f0)] ?_; with_reducible refine (impl_isFile.calls ((rd_T95 aA aB).f0) false _ A7.out).mono ?_
       rintro e w' ⟨rfl, ⟨nd, rfl⟩⟩; refine ⟨_, rfl, ?_⟩; refine hK.out _ _ ⟨xc aE 0 rfl, xc aE 1 rfl, xc aE 2 rfl⟩ (fun hHeld => ?_); clear hK K; refine nm_ (N := 15) ?_; refine pv_ 3 16 (h := ?_); refine pv_ 4 17 (h := ?_); refine pu_ 5 18 (h := ?_); refine pu_ 6 19 (h := ?_); refine pu_ 7 20 (h := ?_); refine pu_ 8 21 (h := ?_); refine pu_ 9 22 (h := ?_); refine pu_ 10 23 (h := ?_); refine pu_ 11 24 (h := ?_); refine pu_ 12 25 (h := ?_); refine pu_ 13 26 (h := ?_); refine pu_ 14 27 (h := ?_); refine pu_ 15 28 (h := ?_); refine pu_ 16 29 (h := ?_); refine pu_ 17 30 (h := ?_); refine pu_ 18 31 (h := ?_); refine pv_ 19 32 (h := ?_); refine dn_ ?_; try go_wp2
       go_ret
       exact ⟨u8_3, xbg⟩
     ·rw [if_neg c6] at H; exact absurd H (by simp)
    ·rw [if_neg c5] at H; exact absurd H (by simp)
   ·rw [if_neg c4] at H; have dX : decide (aB < (aA.length : Int)) = false := decide_eq_false c4; clear c4; replace H := oB H; obtain ⟨fQ, gT, H⟩ := H; (try dsimp only at H); have pW := aM gT; clear gT
    by_cases mH : fQ = true
    ·subst mH; replace H := iT H; replace H := oB H; obtain ⟨fR, gU, H⟩ := H; (try dsimp only at H); have qL := aM gU; clear gU
     obtain rfl := Option.some.inj H; try go_wp2
     replace aD := bD aD; replace HB := lD HB; refine sb2 11 impl_DiskOk.tab7 impl_DiskOk.bits7 aD (fun hHeld HT_ HW_ => ?_); generalize wr.drew = qQ at aD HB hHeld ⊢; refine pv_ 0 34 (h := ?_); refine tk_ 1 35 (h := ?_); refine on_ 2 36 (h := fun K hK => ?_); refine goesY Try.func99 #[.int .i64 aG, .int .i64 0, .int .i64 40000] ?_; with_reducible refine (impl_within.calls aG 0 40000 true _ pW.out).mono ?_
     rintro e w' ⟨rfl, ⟨nd, rfl⟩⟩; refine ⟨_, rfl, ?_⟩; refine hK.out _ _ ⟨xc aD 0 rfl, xc aD 1 rfl⟩ (fun hHeld => ?_); clear hK K; refine nm_ (N := 36) ?_; refine pv_ 3 37 (h := ?_); refine pv_ 6 40 (h := ?_); refine tk_ 4 38 (h := ?_); refine tk_ 7 41 (h := ?_); refine on_ 5 39 (h := fun K hK => ?_); refine goesY Try.func73 #[.agg #[.int .i64 aG, .slice bR aA.length bB]] ?_; with_reducible refine (impl_sizeOf.calls k1 aG _ _ aA fR _ ?side1 ?side2 qL.out).mono ?_
     (case side1 => repeat (first | exact (Kd.C_below bG.out xbg) | (with_reducible refine Kd.C_alloc ?_ _) | (with_reducible refine Kd.C_drewN ?_ _) | (with_reducible refine Kd.C_drew ?_))); (case side2 => exact eP.out); rintro e qR ⟨rfl, hb⟩; refine ⟨_, rfl, ?_⟩; replace aD := xbb aD hb; replace HB := xbs hb; (try clear hb); refine hK.out _ _ ⟨xc aD 0 rfl, xc aD 1 rfl⟩ (fun hHeld => ?_); clear hK K; refine nm_ (N := 39) ?_; refine pv_ 8 42 (h := ?_); refine pv_ 9 43 (h := ?_); refine pv_ 10 2 (h := ?_); refine dn_ ?_; try go_wp2
     go_ret
     exact ⟨u8_3, xbg⟩
    ·replace mH := Bool.eq_false_iff.mpr mH; subst mH; replace H := iN H; obtain rfl := Option.some.inj H; try go_wp2
     replace aD := bD aD; replace HB := lD HB; refine sb2 11 impl_DiskOk.tab7 impl_DiskOk.bits7 aD (fun hHeld HT_ HW_ => ?_); generalize wr.drew = qS at aD HB hHeld ⊢; refine pv_ 0 34 (h := ?_); refine tk_ 1 35 (h := ?_); refine on_ 2 36 (h := fun K hK => ?_); refine goesY Try.func99 #[.int .i64 aG, .int .i64 0, .int .i64 40000] ?_; with_reducible refine (impl_within.calls aG 0 40000 false _ pW.out).mono ?_
     rintro e w' ⟨rfl, ⟨nd, rfl⟩⟩; refine ⟨_, rfl, ?_⟩; refine hK.out _ _ ⟨xc aD 0 rfl, xc aD 1 rfl⟩ (fun hHeld => ?_); clear hK K; refine nm_ (N := 36) ?_; refine pv_ 3 37 (h := ?_); refine pu_ 4 38 (h := ?_); refine pu_ 5 39 (h := ?_); refine pu_ 6 40 (h := ?_); refine pu_ 7 41 (h := ?_); refine pu_ 8 42 (h := ?_); refine pv_ 9 43 (h := ?_); refine pv_ 10 2 (h := ?_); refine dn_ ?_; try go_wp2
     go_ret
     exact ⟨u8_3, xbg⟩

/-! ### impl_Sum: function 175 -/
def impl_Sum.l0 : Nat → Int → Int → List Int → Int → Int → Option (Int)
 | 0, _, _, _, _, _ => none
 | k + 1, x3, x4, x7, x8, x9 => if x9 < x8 then (if 0 ≤ x9 then (if x9 < (x7.length : Int) then (impl_Sum.l0 k (Int.tmod (wrap64 (x3 + (wrap64 (rd x7 x9)))) 65521) (Int.tmod (wrap64 (x4 + (Int.tmod (wrap64 (x3 + (wrap64 (rd x7 x9)))) 65521))) 65521) x7 x8 (wrap64 (x9 + 1))) else (none)) else (none)) else (some (wrap64 ((wrap64 (65536 * x4)) + x3)))
def impl_Sum.f (k : Nat) (l0 : List Int) : Option (Int) := impl_Sum.l0 k 1 0 l0 (l0.length : Int) 0
theorem u8_mq3 {p : Prop} (h : p := by repeat' first | (with_reducible first | exact cH _ _ _ _ _ | exact LeO.refl _ | exact LeO.none _ | refine LeO.ite ?_ ?_ | refine LeO.bind ?_ (fun _ => ?_)) | exact cH _ _ _ _ _ | exact LeO.none _ | refine LeO.ite ?_ ?_ | refine LeO.bind ?_ (fun _ => ?_)) : p := h
set_option maxRecDepth 100000 in
theorem impl_Sum.mono_l : ∀ k, (∀ y0 y1 y2 y3 y4, LeO (impl_Sum.l0 k y0 y1 y2 y3 y4) (impl_Sum.l0 (k + 1) y0 y1 y2 y3 y4))
 | 0 => fun _ _ _ _ _ r h => by simp [impl_Sum.l0] at h
 | k + 1 => by
  have cH := impl_Sum.mono_l k
  ·intro y0 y1 y2 y3 y4; unfold impl_Sum.l0; exact u8_mq3
theorem impl_Sum.mono : ∀ a0 k, LeO (impl_Sum.f k a0) (impl_Sum.f (k + 1) a0) := by
 intro a0 k
 have cH := impl_Sum.mono_l k
 unfold impl_Sum.f
 exact u8_mq3
set_option maxHeartbeats 8000000 in
set_option maxRecDepth 100000 in
theorem impl_Sum.calls (k : Nat) (A0 : Option Addr) (c0 : Nat) (l0 : List Int) (r : Int) (w : World) (eL : Kd.C (Kd.int .u8) w A0 l0.length l0) (eM : l0.length ≤ c0) (h : impl_Sum.f k l0 = some r) :
 Calls Try.prog 175 #[.slice A0 l0.length c0] w fun e w' => e = .returned (.int .i64 r) ∧ Drawn0 w w' := by
 have fY := aM eL
 have nE := aM eM
 clear eL eM
 have H : (impl_Sum.l0 k 1 0 l0 (l0.length : Int) 0) = some r := h
 clear h
 have H' := aM H
 clear H
 go_enter Try.func175, Try.ntmps175
 go_wp2
 go_loopg [3, 4, 9] k (fun kq v3 v4 v9 w' => ∃ (aU : Int) (aF : Int) (aH : Int), v3 = .int .i64 aU ∧ v4 = .int .i64 aF ∧ v9 = .int .i64 aH ∧ Aside0 (impl_Sum.l0 kq aU aF l0 (l0.length : Int) aH = some r) ∧ Aside0 (kq ≤ k) ∧ Drawn0 w w')
 case atStart => exact ⟨(1), (0), (0), u8_0, u8_0, u8_0, H', ⟨Nat.le_refl _⟩, u8_1⟩
 case round =>
  clear H'; try clear c1
  obtain ⟨aU, aF, aH, rfl, rfl, rfl, HA, HK1, ⟨m1, rfl⟩⟩ := hrel; cases gk with
  | zero => exact absurd HA.out (by simp [impl_Sum.l0])
  | succ k1 =>
   have H := HA.out; clear HA; simp only [impl_Sum.l0] at H; by_cases c2 : aH < (l0.length : Int)
   ·rw [if_pos c2] at H; have eR : decide (aH < (l0.length : Int)) = true := decide_eq_true c2; clear c2; by_cases c3 : 0 ≤ aH
    ·rw [if_pos c3] at H; have fZ : decide (0 ≤ aH) = true := decide_eq_true c3; clear c3; by_cases c4 : aH < (l0.length : Int)
     ·rw [if_pos c4] at H; have dX : decide (aH < (l0.length : Int)) = true := decide_eq_true c4; clear c4; have H' := aM H; clear H; have p422 : 0 ≤ (aH : Int) := oda; have q422 : aH < (l0.length : Int) := oda; obtain ⟨pX, oO, mI⟩ := Kd.at_int fY.out aH p422 q422; cases oO
      replace p422 := eq_true p422; replace q422 := eq_true q422; go_wp2; go_roundg k1
      case measure => have := HK1.out; omega
      case rel => exact ⟨(Int.tmod (wrap64 (aU + (wrap64 (rd l0 aH)))) 65521), (Int.tmod (wrap64 (aF + (Int.tmod (wrap64 (aU + (wrap64 (rd l0 aH)))) 65521))) 65521), (wrap64 (aH + 1)), u8_0, u8_0, u8_0, H', ⟨by have := HK1.out; omega⟩, u8_1⟩
     ·rw [if_neg c4] at H; exact absurd H (by simp)
    ·rw [if_neg c3] at H; exact absurd H (by simp)
   ·rw [if_neg c2] at H; have eR : decide (aH < (l0.length : Int)) = false := decide_eq_false c2; clear c2; obtain rfl := Option.some.inj H; go_wp2; go_ret
    exact ⟨u8_0, u8_1⟩

/-! ### impl_sumBytes: function 139 -/
def impl_sumBytes.f (k : Nat) (l0 : List Int) : Option (List Int) := (impl_Sum.f k l0).bind fun aJ => (some (([(Go.bits .and .i64 aJ 255) % 256, (Go.bits .and .i64 (aJ / 256) 255) % 256, (Go.bits .and .i64 (aJ / 65536) 255) % 256, (Go.bits .and .i64 (aJ / 16777216) 255) % 256] : List Int)))
theorem u8_mq4 {p : Prop} (h : p := by repeat' first | (with_reducible first | exact impl_Sum.mono _ _ | exact LeO.refl _ | exact LeO.none _ | refine LeO.ite ?_ ?_ | refine LeO.bind ?_ (fun _ => ?_)) | exact impl_Sum.mono _ _ | exact LeO.none _ | refine LeO.ite ?_ ?_ | refine LeO.bind ?_ (fun _ => ?_)) : p := h
theorem impl_sumBytes.mono : ∀ a0 k, LeO (impl_sumBytes.f k a0) (impl_sumBytes.f (k + 1) a0) := by
 intro a0 k
 unfold impl_sumBytes.f
 exact u8_mq4
set_option maxHeartbeats 8000000 in
set_option maxRecDepth 100000 in
theorem impl_sumBytes.calls (k : Nat) (A0 : Option Addr) (c0 : Nat) (l0 : List Int) (r : List Int) (w : World) (eL : Kd.C (Kd.int .u8) w A0 l0.length l0) (eM : l0.length ≤ c0) (h : impl_sumBytes.f k l0 = some r) :
 Calls Try.prog 139 #[.slice A0 l0.length c0] w fun e w' => ∃ v0_ : Value, e = .returned (v0_) ∧ Kd.R (Kd.int .u8) 5 w' w.heap.size (fun _ => True) v0_ r ∧ Below w.heap.size w w' := by
 have fY := aM eL
 have nE := aM eM
 clear eL eM
 have HB := aM (Below.refl w.heap.size w)
 have H : ((impl_Sum.f k l0).bind fun aJ => (some (([(Go.bits .and .i64 aJ 255) % 256, (Go.bits .and .i64 (aJ / 256) 255) % 256, (Go.bits .and .i64 (aJ / 65536) 255) % 256, (Go.bits .and .i64 (aJ / 16777216) 255) % 256] : List Int)))) = some r := h
 clear h
 replace H := oB H
 obtain ⟨aJ, eK, H⟩ := H
 (try dsimp only at H)
 have A2 := aM eK
 clear eK
 obtain ⟨oP, cG⟩ : ∃ y_ : List Int, y_ = (([(Go.bits .and .i64 aJ 255) % 256, (Go.bits .and .i64 (aJ / 256) 255) % 256, (Go.bits .and .i64 (aJ / 65536) 255) % 256, (Go.bits .and .i64 (aJ / 16777216) 255) % 256] : List Int)) := ⟨_, rfl⟩
 replace H : (some oP) = some r := by first | (rw [cG]; with_reducible exact H) | (have H2_ := oS H; rw [cG]; with_reducible exact H2_) | (have H2_ := oS H; with_reducible exact H2_) | with_reducible exact H | (rw [cG]; exact H) | exact H
 have eQ := aM cG
 clear cG
 obtain rfl := Option.some.inj H
 go_enter Try.func139, Try.ntmps139
 go_wp2_with (first | ((with_reducible refine gC 175 rfl ?_); refine goesLY (some 5) rfl Try.func175 #[.slice A0 l0.length c0] ?_; (with_reducible refine (impl_Sum.calls k _ _ l0 aJ _ ?side1 ?side2 A2.out).mono ?_); (case side1 => repeat (first | exact fY.out | (with_reducible refine Kd.C_alloc ?_ _) | (with_reducible refine Kd.C_drewN ?_ _) | (with_reducible refine Kd.C_drew ?_))); (case side2 => exact nE.out); rintro e w' ⟨rfl, ⟨nd, rfl⟩⟩; refine ⟨_, rfl, ?_⟩) | ((with_reducible refine gD 21 rfl ?_); refine Kd.R_lit (Kd.int .u8) _ 5 ?hg (N := 21) ?hd (xs := ([(Go.bits .and .i64 aJ 255) % 256, (Go.bits .and .i64 (aJ / 256) 255) % 256, (Go.bits .and .i64 (aJ / 65536) 255) % 256, (Go.bits .and .i64 (aJ / 16777216) 255) % 256] : List Int)) (inner := [.int .u8 ((Go.bits .and .i64 aJ 255) % 256), .int .u8 ((Go.bits .and .i64 (aJ / 256) 255) % 256), .int .u8 ((Go.bits .and .i64 (aJ / 65536) 255) % 256), .int .u8 ((Go.bits .and .i64 (aJ / 16777216) 255) % 256)]) (ok := fun _ => True) (okp := fun _ => True) ?hr ?hp (fun _ hk => hk) trivial (Below.refl _ _) (Nat.le_refl _) (by simp) ?_; (case hd => rfl); (case hg => rfl); (case hr => exact u8_2); (case hp => exact (Reps.one (show Kd.M (Kd.int .u8) _ _ _ ((Go.bits .and .i64 aJ 255) % 256) [.int .u8 ((Go.bits .and .i64 aJ 255) % 256)] from rfl) (Reps.one (show Kd.M (Kd.int .u8) _ _ _ ((Go.bits .and .i64 (aJ / 256) 255) % 256) [.int .u8 ((Go.bits .and .i64 (aJ / 256) 255) % 256)] from rfl) (Reps.one (show Kd.M (Kd.int .u8) _ _ _ ((Go.bits .and .i64 (aJ / 65536) 255) % 256) [.int .u8 ((Go.bits .and .i64 (aJ / 65536) 255) % 256)] from rfl) (Reps.one (show Kd.M (Kd.int .u8) _ _ _ ((Go.bits .and .i64 (aJ / 16777216) 255) % 256) [.int .u8 ((Go.bits .and .i64 (aJ / 16777216) 255) % 256)] from rfl) (Reps.none _ _)))))); intro qM w3 gV hb hg_ hnew_; clear hg_ hnew_; (first | rw [← eQ.out] at gV | (simp only [Int.reduceToNat] at gV; rw [← eQ.out] at gV)); have gW := aM (Kd.R_lower gV (below_size xbel)); replace HB := xbs hb; clear hb gV))
 go_ret
 exact ⟨_, xerr, by (with_reducible repeat (first | apply Kd.R_alloc | apply Kd.R_drewN | apply Kd.R_drew)); exact gW.out, xbel⟩

end Go.Proofs.Ytoojdlobnbakoaa.QFnExactHardSave
