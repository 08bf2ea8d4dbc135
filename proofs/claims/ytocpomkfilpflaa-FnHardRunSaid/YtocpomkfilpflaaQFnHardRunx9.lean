-- A walk, by a program of this session.
import Derived.Test.YtocpomkfilpflaaQFnHardRunx0
import Derived.Test.YtocpomkfilpflaaQFnHardRunx1
import Derived.Test.YtocpomkfilpflaaQFnHardRunx3
import Derived.Test.YtocpomkfilpflaaQFnHardRunx8
namespace Go.Proofs.Ytocpomkfilpflaa.QFnHardRun
open Go.RowKit Go.Proofs.YtocpomkfilpflaaW.PrintWords Go.Proofs.YtocpomkfilpflaaW.PrintLast Go.Proofs.YtocpomkfilpflaaW.PrintMore
attribute [local go_sem] max2_int min2_int max_two min_two max_three min_three max_four min_four   -- for this text's walks alone
set_option linter.unusedVariables false
set_option linter.unusedSimpArgs false

attribute [local go_sem high] eqA34
theorem u9_0 {p : Prop} (h : p := by first | rfl | (simp; done) | (simp [*]; done)) : p := h
theorem u9_1 {p : Prop} (h : p := by repeat (first | (with_reducible first | exact HB.out | apply below_alloc | apply pw_below_drewN | apply below_drew1 | refine below_set ?_ (IsS99.ge HI415.out)) | exact HB.out)) : p := h
theorem u9_2 {p : Prop} (h : p := by repeat (first | exact Drawn0.refl _ | apply Drawn0.step)) : p := h
theorem u9_3 {p : Prop} (h : p := by first | omega | exact Nat.le_refl _) : p := h
theorem u9_4 {p : Prop} (h : p := by repeat (first | (with_reducible first | exact HI415.out | apply IsS99.alloc | apply IsS99.drewN | apply IsS99.drew | apply IsS99.set_1 | apply IsS99.set_2) | exact HI415.out)) : p := h
theorem u9_5 {p : Prop} (h : p := by first | (rw [hY]; with_reducible exact H) | (have H2_ := oS H; rw [hY]; with_reducible exact H2_) | (have H2_ := oS H; with_reducible exact H2_) | with_reducible exact H | (rw [hY]; exact H) | exact H) : p := h
theorem u9_6 {p : Prop} (h : p := by (with_reducible repeat (first | apply Kd.R_alloc | apply Kd.R_drewN | apply Kd.R_drew)); exact bI.out) : p := h
/-! ### spec_DrawHardOf: function 7 -/
def spec_DrawHardOf.l0 : Nat → List (S38) → Int → Option ((List (S38)))
 | 0, _, _ => none
 | k + 1, x4, x5 => if x5 < (x4.length : Int) then (if 0 ≤ x5 then (spec_DrawHardOf.l0 k (x4.set (x5 : Int).toNat (⟨1, 0, 0, 0, (⟨0, (⟨0, 0, 0, 0, (⟨#[]⟩ : ByteArray)⟩ : S34)⟩ : S36)⟩ : S38)) (wrap64 (x5 + 1))) else (none)) else (some x4)
def spec_DrawHardOf.f (k : Nat) (l0 : List Int) : Option ((List (S38))) := (spec_l1New.f k l0).bind fun aL => ((spec_l1Once.f aL.1 aL.2.1 aL.2.2 40).bind fun aN => (if aN.1 = true then ((spec_l1Below.f aL.1 aN.2.1 aN.2.2 2).bind fun bG => (if 0 ≤ (wrap64 (2000 + bG.1)) then (if (wrap64 (2000 + bG.1) : Int).toNat ≤ 3198579280802 then (spec_DrawHardOf.l0 k (List.replicate (wrap64 (2000 + bG.1) : Int).toNat z38) 0) else (none)) else (none))) else ((spec_l6DrawRecs.f k aL.1 aN.2.1 aN.2.2 25).bind fun gE => (some gE.1))))
theorem u9_mq0 {p : Prop} (h : p := by repeat' first | (with_reducible first | exact jA _ _ | exact spec_l1New.mono _ _ | exact spec_l6DrawRecs.mono _ _ _ _ _ | exact LeO.refl _ | exact LeO.none _ | refine LeO.ite ?_ ?_ | refine LeO.bind ?_ (fun _ => ?_)) | exact LeO.none _ | refine LeO.ite ?_ ?_ | refine LeO.bind ?_ (fun _ => ?_)) : p := h
set_option maxRecDepth 100000 in
theorem spec_DrawHardOf.mono_l : ∀ k, (∀ y0 y1, LeO (spec_DrawHardOf.l0 k y0 y1) (spec_DrawHardOf.l0 (k + 1) y0 y1))
 | 0 => fun _ _ r h => by simp [spec_DrawHardOf.l0] at h
 | k + 1 => by
  have jA := spec_DrawHardOf.mono_l k
  ·intro y0 y1; unfold spec_DrawHardOf.l0; exact u9_mq0
theorem spec_DrawHardOf.mono : ∀ a0 k, LeO (spec_DrawHardOf.f k a0) (spec_DrawHardOf.f (k + 1) a0) := by
 intro a0 k
 have jA := spec_DrawHardOf.mono_l k
 unfold spec_DrawHardOf.f
 exact u9_mq0
set_option maxHeartbeats 8000000 in
set_option maxRecDepth 100000 in
theorem spec_DrawHardOf.calls (k : Nat) (A0 : Option Addr) (c0 : Nat) (l0 : List Int) (r : List (S38)) (w : World) (jB : Kd.C (Kd.int .u8) w A0 l0.length l0) (jC : l0.length ≤ c0) (h : spec_DrawHardOf.f k l0 = some r) :
 Calls Try.prog 7 #[.slice A0 l0.length c0] w fun e w' => ∃ v0_ : Value, e = .returned (v0_) ∧ Kd.R k38 38 w' w.heap.size (fun _ => True) v0_ r ∧ Below w.heap.size w w' := by
 have nD := Try.underlying38
 have jU := aM jB
 have kN := aM jC
 clear jB jC
 have HB := aM (Below.refl w.heap.size w)
 have H : ((spec_l1New.f k l0).bind fun aL => ((spec_l1Once.f aL.1 aL.2.1 aL.2.2 40).bind fun aN => (if aN.1 = true then ((spec_l1Below.f aL.1 aN.2.1 aN.2.2 2).bind fun bG => (if 0 ≤ (wrap64 (2000 + bG.1)) then (if (wrap64 (2000 + bG.1) : Int).toNat ≤ 3198579280802 then (spec_DrawHardOf.l0 k (List.replicate (wrap64 (2000 + bG.1) : Int).toNat z38) 0) else (none)) else (none))) else ((spec_l6DrawRecs.f k aL.1 aN.2.1 aN.2.2 25).bind fun gE => (some gE.1))))) = some r := h
 clear h
 replace H := oB H
 obtain ⟨⟨fZ, gP, gQ⟩, dL, H⟩ := H
 (try dsimp only at H)
 have A2 := aM dL
 clear dL
 replace H := oB H
 obtain ⟨⟨kO, gR, gS⟩, mB, H⟩ := H
 (try dsimp only at H)
 have A3 := aM mB
 clear mB
 by_cases c4 : kO = true
 ·subst c4; replace H := iT H; replace H := oB H; obtain ⟨⟨gX, kP, kQ⟩, mC, H⟩ := H; (try dsimp only at H); have A5 := aM mC; clear mC
  obtain ⟨ji6, hji6⟩ : ∃ j_ : Int, (wrap64 (2000 + gX)) = j_ := ⟨_, rfl⟩; replace H : (if 0 ≤ (ji6) then (if (ji6 : Int).toNat ≤ 3198579280802 then (spec_DrawHardOf.l0 k (List.replicate (ji6 : Int).toNat z38) 0) else (none)) else (none)) = some r := by first | (rw [hji6] at H; exact H) | (simp only [hji6] at H ⊢; exact H)
  (try rw [hji6] at A2); (try rw [hji6] at A3); (try rw [hji6] at A5); have hji6w : (IntKind.i64.wrap (2000 + gX)) = ji6 := (i64_w _).trans hji6; by_cases c7 : 0 ≤ (ji6)
  ·rw [if_pos c7] at H; have kR := eq_true c7; have kS : decide (0 ≤ (ji6)) = true := decide_eq_true c7; clear c7; by_cases c8 : (ji6 : Int).toNat ≤ 3198579280802
   ·rw [if_pos c8] at H; have kT := eq_true c8; have kU : decide ((ji6 : Int).toNat ≤ 3198579280802) = true := decide_eq_true c8; clear c8; obtain ⟨jD, hY⟩ : ∃ y_ : List (S38), y_ = (List.replicate (ji6 : Int).toNat z38) := ⟨_, rfl⟩; replace H : (spec_DrawHardOf.l0 k jD 0) = some r := u9_5; have gU := aM hY; clear hY; have H' := aM H; clear H; go_enter Try.func7, Try.ntmps7
    go_wp2_with (first | ((with_reducible refine gC 29 rfl ?_); refine goesLY (some 7) rfl Try.func29 #[.slice A0 l0.length c0] ?_; (with_reducible refine (spec_l1New.calls k _ _ l0 fZ gP gQ w _ ?side1 ?side2 ?side3 A2.out).mono ?_); (case side1 => exact xbg); (case side2 => exact jU.out); (case side3 => exact kN.out); rintro e w9 ⟨g415, rfl, hi, hb, kV⟩; refine ⟨_, rfl, ?_⟩; replace HB := aM (hb); have HI415 := aM (hi); (try clear hb kV hi)) | ((with_reducible refine gC 30 rfl ?_); refine goesLY (some 9) rfl Try.func30 #[.pointer (some ⟨g415, 0, none⟩), .int .i64 40] ?_; (with_reducible refine (spec_l1Once.calls g415 fZ gP gQ 40 true gR gS w _ ?side1 ?side2 A3.out).mono ?_); (case side1 => exact u9_4); (case side2 => exact u9_1); rintro e nV ⟨rfl, hi, hb, hk⟩; refine ⟨_, rfl, ?_⟩; replace HB := aM (hb); replace HI415 := aM (hi); (try clear hb hk hi)) | ((with_reducible refine gC 31 rfl ?_); refine goesLY (some 11) rfl Try.func31 #[.pointer (some ⟨g415, 0, none⟩), .int .i64 2] ?_; (with_reducible refine (spec_l1Below.calls g415 fZ gR gS 2 gX kP kQ w _ ?side1 ?side2 A5.out).mono ?_); (case side1 => exact u9_4); (case side2 => exact u9_1); rintro e nW ⟨rfl, hi, hb, hk⟩; refine ⟨_, rfl, ?_⟩; replace HB := aM (hb); replace HI415 := aM (hi); (try clear hb hk hi)) | ((with_reducible refine gD 13 rfl ?_); refine Kd.R_make k38 _ 38 rfl (N := 13) rfl 24 _ _ rfl ji6 rfl rfl Try.underlying24 (.agg #[(.int .i64 0), (.int .i64 0), (.int .i64 0), (.int .i64 0), (.int .i64 0), (.int .i64 0), (.int .i64 0), (.int .i64 0), (.int .i64 0), (.string ⟨#[]⟩)]) 88 info38 rfl (by decide) (by omega) z38 (ok := fun _ => True) (okp := fun _ => True) (k38_mkM _ _ _ z38 ) (fun _ hk => hk) trivial (oda) (Nat.le_trans (Nat.mul_le_mul_right _ (oda : ji6.toNat ≤ 3198579280802)) (by omega)) (Below.refl _ _) (Nat.le_refl _) ?_; intro v423 nX gF hb hg_ hnew_; clear hg_ hnew_; (first | rw [← gU.out] at gF | (simp only [Int.reduceToNat] at gF; rw [← gU.out] at gF)); have jE := aM (Kd.R_lower gF (below_size u9_1)); replace HB := aM (below_step u9_1 hb); replace HI415 := aM (IsS99.below u9_4 hb); clear hb gF))
    go_loopg [5] k (fun kq v5 w' => ∃ (aI : List (S38)) (aA : Int), v5 = .int .i64 aA ∧ Aside0 (spec_DrawHardOf.l0 kq aI aA = some r) ∧ Aside0 (kq ≤ k) ∧ Aside0 (Kd.R k38 38 w' w.heap.size (fun _ => True) v423 aI) ∧ Aside0 (Below w.heap.size w w'))
    case atStart => exact ⟨(jD), (0), u9_0, H', ⟨Nat.le_refl _⟩, ⟨by (with_reducible repeat (first | apply Kd.R_alloc | apply Kd.R_drewN | apply Kd.R_drew)); exact jE.out⟩, ⟨u9_1⟩⟩
    case round =>
     clear H'; try clear c2
     try clear p2
     try clear c3
     try clear c4
     try clear p6
     try clear c7
     try clear kR
     try clear kS
     try clear c8
     try clear kT
     try clear kU
     obtain ⟨aI, aA, rfl, HA, HK1, bI, HB⟩ := hrel; cases gk with
     | zero => exact absurd HA.out (by simp [spec_DrawHardOf.l0])
     | succ k1 =>
      have H := HA.out; clear HA; simp only [spec_DrawHardOf.l0] at H; by_cases iY : aA < (aI.length : Int)
      ·rw [if_pos iY] at H; have jF : decide (aA < (aI.length : Int)) = true := decide_eq_true iY; clear iY; by_cases gA : 0 ≤ aA
       ·rw [if_pos gA] at H; have dM : decide (0 ≤ aA) = true := decide_eq_true gA; clear gA; obtain ⟨gY, hY⟩ : ∃ y_ : List (S38), y_ = (aI.set (aA : Int).toNat (⟨1, 0, 0, 0, (⟨0, (⟨0, 0, 0, 0, (⟨#[]⟩ : ByteArray)⟩ : S34)⟩ : S36)⟩ : S38)) := ⟨_, rfl⟩; replace H : (spec_DrawHardOf.l0 k1 gY (wrap64 (aA + 1))) = some r := u9_5; have jG := aM hY; clear hY; have H' := aM H; clear H; obtain ⟨nE, jH, kW⟩ := Kd.R_slice bI.out; subst kW; have p16 : 0 ≤ (aA : Int) := oda; have q16 : (aA : Int) < ((aI.length : Int) : Int) := oda; obtain ⟨aD, nF, jI, jJ, gl16, cl16, HG16⟩ := Kd.R_form bI.out (by omega); (first | cases jI | (injection jI with ea_ en_ ec_; (first | subst ea_ | (injection ea_ with ea_; subst ea_)); subst ec_; clear en_)); have GB16 := aM jJ; have GG16 := aM HG16; clear jJ gl16 HG16; obtain ⟨ce16, jK, jL, aO, aP⟩ := Kd.R_elem bI.out z38 (aA : Int) p16 q16; obtain rfl := k38_openM jL; have kX : wr.cell? ⟨aD, (aA : Int).toNat * 10, none⟩ = some (.int .i64 ((rd_T38 aI aA).f0)) := aO 0 _ rfl; have kY : wr.cell? ⟨aD, (aA : Int).toNat * 10 + 1, none⟩ = some (.int .i64 ((rd_T38 aI aA).f1)) := aO 1 _ rfl; have kZ : wr.cell? ⟨aD, (aA : Int).toNat * 10 + 2, none⟩ = some (.int .i64 ((rd_T38 aI aA).f2)) := aO 2 _ rfl; have lA : wr.cell? ⟨aD, (aA : Int).toNat * 10 + 3, none⟩ = some (.int .i64 ((rd_T38 aI aA).f3)) := aO 3 _ rfl; have lB : wr.cell? ⟨aD, (aA : Int).toNat * 10 + 4, none⟩ = some (.int .i64 ((rd_T38 aI aA).f4.f0)) := aO 4 _ rfl; have lC : wr.cell? ⟨aD, (aA : Int).toNat * 10 + 5, none⟩ = some (.int .i64 ((rd_T38 aI aA).f4.f1.f0)) := aO 5 _ rfl; have lE : wr.cell? ⟨aD, (aA : Int).toNat * 10 + 6, none⟩ = some (.int .i64 ((rd_T38 aI aA).f4.f1.f1)) := aO 6 _ rfl; have lF : wr.cell? ⟨aD, (aA : Int).toNat * 10 + 7, none⟩ = some (.int .i64 ((rd_T38 aI aA).f4.f1.f2)) := aO 7 _ rfl; have lG : wr.cell? ⟨aD, (aA : Int).toNat * 10 + 8, none⟩ = some (.int .i64 ((rd_T38 aI aA).f4.f1.f3)) := aO 8 _ rfl; have lH : wr.cell? ⟨aD, (aA : Int).toNat * 10 + 9, none⟩ = some (.string ((rd_T38 aI aA).f4.f1.f4)) := aO 9 _ rfl; have lI : wr.frozen? ⟨aD, (aA : Int).toNat * 10, none⟩ = false := aP 0; have lJ : wr.frozen? ⟨aD, (aA : Int).toNat * 10 + 1, none⟩ = false := aP 1; have lK : wr.frozen? ⟨aD, (aA : Int).toNat * 10 + 2, none⟩ = false := aP 2; have lL : wr.frozen? ⟨aD, (aA : Int).toNat * 10 + 3, none⟩ = false := aP 3; have lM : wr.frozen? ⟨aD, (aA : Int).toNat * 10 + 4, none⟩ = false := aP 4; have lN : wr.frozen? ⟨aD, (aA : Int).toNat * 10 + 5, none⟩ = false := aP 5; have lO : wr.frozen? ⟨aD, (aA : Int).toNat * 10 + 6, none⟩ = false := aP 6; have lP : wr.frozen? ⟨aD, (aA : Int).toNat * 10 + 7, none⟩ = false := aP 7; have lQ : wr.frozen? ⟨aD, (aA : Int).toNat * 10 + 8, none⟩ = false := aP 8; have lR : wr.frozen? ⟨aD, (aA : Int).toNat * 10 + 9, none⟩ = false := aP 9; clear jK aO aP jL; replace p16 := eq_true p16; replace q16 := eq_true q16; have jM := aM (show Kd.R k38 38 wr w.heap.size (fun _ => True) (.slice (some ⟨aD, 0, none⟩) aI.length jH) aI from (xr bI)); obtain ⟨ce18, gV, jN, aK, aQ⟩ := Kd.R_elem jM.out z38 (aA : Int) (oda) (by have h_ : (aA : Int) < ((aI.length : Int) : Int) := oda; first | exact h_ | (have e_ := (Kd.R_reads' bI.out).1; omega) | simpa using h_); obtain rfl := k38_openM jN
        have gZ := Kd.R_seg jM.out (aA : Int) (oda) (by have h_ : (aA : Int) < ((aI.length : Int) : Int) := oda; first | exact h_ | (have e_ := (Kd.R_reads' bI.out).1; omega) | simpa using h_) (seg := [.int .i64 1, .int .i64 0, .int .i64 0, .int .i64 0, .int .i64 0, .int .i64 0, .int .i64 0, .int .i64 0, .int .i64 0, .string (⟨#[]⟩ : ByteArray)]) (j := 0) gV aK (show 10 ≤ 10 from by decide) (x' := (⟨1, 0, 0, 0, (⟨0, (⟨0, 0, 0, 0, (⟨#[]⟩ : ByteArray)⟩ : S34)⟩ : S36)⟩ : S38)) (k38_mkM _ _ _ (⟨1, 0, 0, 0, (⟨0, (⟨0, 0, 0, 0, (⟨#[]⟩ : ByteArray)⟩ : S34)⟩ : S36)⟩ : S38) ) (fun _ hk => hk); have hJ := aK 0 _ rfl; (try simp only [show (k38).sz = 10 from rfl, Nat.mul_one, Nat.add_zero] at hJ); have hU := aQ 0; (try simp only [show (k38).sz = 10 from rfl, Nat.mul_one, Nat.add_zero] at hU); have hX := aK 1 _ rfl; (try simp only [show (k38).sz = 10 from rfl, Nat.mul_one, Nat.add_zero] at hX); have hZ := aQ 1; (try simp only [show (k38).sz = 10 from rfl, Nat.mul_one, Nat.add_zero] at hZ); have iA := aK 2 _ rfl; (try simp only [show (k38).sz = 10 from rfl, Nat.mul_one, Nat.add_zero] at iA); have iB := aQ 2; (try simp only [show (k38).sz = 10 from rfl, Nat.mul_one, Nat.add_zero] at iB); have iC := aK 3 _ rfl; (try simp only [show (k38).sz = 10 from rfl, Nat.mul_one, Nat.add_zero] at iC); have iD := aQ 3; (try simp only [show (k38).sz = 10 from rfl, Nat.mul_one, Nat.add_zero] at iD); have iE := aK 4 _ rfl; (try simp only [show (k38).sz = 10 from rfl, Nat.mul_one, Nat.add_zero] at iE); have iF := aQ 4; (try simp only [show (k38).sz = 10 from rfl, Nat.mul_one, Nat.add_zero] at iF); have iG := aK 5 _ rfl; (try simp only [show (k38).sz = 10 from rfl, Nat.mul_one, Nat.add_zero] at iG); have iH := aQ 5; (try simp only [show (k38).sz = 10 from rfl, Nat.mul_one, Nat.add_zero] at iH); have iI := aK 6 _ rfl; (try simp only [show (k38).sz = 10 from rfl, Nat.mul_one, Nat.add_zero] at iI); have iJ := aQ 6; (try simp only [show (k38).sz = 10 from rfl, Nat.mul_one, Nat.add_zero] at iJ); have iK := aK 7 _ rfl; (try simp only [show (k38).sz = 10 from rfl, Nat.mul_one, Nat.add_zero] at iK); have iL := aQ 7; (try simp only [show (k38).sz = 10 from rfl, Nat.mul_one, Nat.add_zero] at iL); have iM := aK 8 _ rfl; (try simp only [show (k38).sz = 10 from rfl, Nat.mul_one, Nat.add_zero] at iM); have iO := aQ 8; (try simp only [show (k38).sz = 10 from rfl, Nat.mul_one, Nat.add_zero] at iO); have iP := aK 9 _ rfl; (try simp only [show (k38).sz = 10 from rfl, Nat.mul_one, Nat.add_zero] at iP); have iQ := aQ 9; (try simp only [show (k38).sz = 10 from rfl, Nat.mul_one, Nat.add_zero] at iQ); clear gV aK aQ jN
        go_wp2_with (first | ((with_reducible refine gate_store (t := 38) (p := 23) rfl ?_); refine store_event (t := 38) (p := 23) (v := ?vo_w19) (w1 := ((((((((((wr.setCell ⟨aD, (aA : Int).toNat * 10, none⟩ (.int .i64 1)).setCell ⟨aD, (aA : Int).toNat * 10 + 1, none⟩ (.int .i64 0)).setCell ⟨aD, (aA : Int).toNat * 10 + 2, none⟩ (.int .i64 0)).setCell ⟨aD, (aA : Int).toNat * 10 + 3, none⟩ (.int .i64 0)).setCell ⟨aD, (aA : Int).toNat * 10 + 4, none⟩ (.int .i64 0)).setCell ⟨aD, (aA : Int).toNat * 10 + 5, none⟩ (.int .i64 0)).setCell ⟨aD, (aA : Int).toNat * 10 + 6, none⟩ (.int .i64 0)).setCell ⟨aD, (aA : Int).toNat * 10 + 7, none⟩ (.int .i64 0)).setCell ⟨aD, (aA : Int).toNat * 10 + 8, none⟩ (.int .i64 0)).setCell ⟨aD, (aA : Int).toNat * 10 + 9, none⟩ (.string (⟨#[]⟩ : ByteArray)))) ?hg ?ho ?hn ?hr ?_; (case ho | hg | hn => rfl); (case hr => first | (go_simp; done) | (go_simp; rfl)); intro lS hw; have hg : wr.grownBy lS (some aD) := (by rw [hw]; exact gZ.2); have hp_ : Kd.R k38 38 lS w.heap.size (fun _ => True) (.slice (some ⟨aD, 0, none⟩) aI.length jH) gY := (by rw [hw, jG.out]; exact gZ.1); clear gZ; replace bI := aM (hp_); replace HB := aM ((by rw [hw]; exact below_set (below_set (below_set (below_set (below_set (below_set (below_set (below_set (below_set (below_set (HB.out) GB16.out) GB16.out) GB16.out) GB16.out) GB16.out) GB16.out) GB16.out) GB16.out) GB16.out) GB16.out : Below w.heap.size w lS)); clear hg hw hp_))
        go_roundg k1
        case measure => have := HK1.out; omega
        case rel => exact ⟨(gY), (wrap64 (aA + 1)), u9_0, H', ⟨by have := HK1.out; omega⟩, ⟨u9_6⟩, ⟨xbel⟩⟩
       ·rw [if_neg gA] at H; exact absurd H (by simp)
      ·rw [if_neg iY] at H; have jF : decide (aA < (aI.length : Int)) = false := decide_eq_false iY; clear iY; obtain rfl := Option.some.inj H; obtain ⟨nG, nH, lT⟩ := Kd.R_slice bI.out; subst lT; go_wp2; go_ret
       exact ⟨_, by first | rfl | (simp [errW_none, errW_some] <;> rfl) | (simp only [← hji6]; first | rfl | (simp [errW_none, errW_some] <;> rfl)) | (simp [*, errW_none, errW_some] <;> rfl), u9_6, xbel⟩
   ·rw [if_neg c8] at H; exact absurd H (by simp)
  ·rw [if_neg c7] at H; exact absurd H (by simp)
 ·replace c4 := Bool.eq_false_iff.mpr c4; subst c4; replace H := iN H; replace H := oB H; obtain ⟨⟨lU, lV, lW⟩, jO, H⟩ := H; (try dsimp only at H); have nI := aM jO; clear jO
  obtain rfl := Option.some.inj H; go_enter Try.func7, Try.ntmps7
  go_wp2_with (first | ((with_reducible refine gC 29 rfl ?_); refine goesLY (some 7) rfl Try.func29 #[.slice A0 l0.length c0] ?_; (with_reducible refine (spec_l1New.calls k _ _ l0 fZ gP gQ w _ ?side1 ?side2 ?side3 A2.out).mono ?_); (case side1 => exact xbg); (case side2 => exact jU.out); (case side3 => exact kN.out); rintro e nY ⟨g415, rfl, hi, hb, kV⟩; refine ⟨_, rfl, ?_⟩; replace HB := aM (hb); have HI415 := aM (hi); (try clear hb kV hi)) | ((with_reducible refine gC 30 rfl ?_); refine goesLY (some 9) rfl Try.func30 #[.pointer (some ⟨g415, 0, none⟩), .int .i64 40] ?_; (with_reducible refine (spec_l1Once.calls g415 fZ gP gQ 40 false gR gS w _ ?side1 ?side2 A3.out).mono ?_); (case side1 => exact u9_4); (case side2 => exact u9_1); rintro e nZ ⟨rfl, hi, hb, hk⟩; refine ⟨_, rfl, ?_⟩; replace HB := aM (hb); replace HI415 := aM (hi); (try clear hb hk hi)) | ((with_reducible refine gC 32 rfl ?_); refine goesLY (some 26) rfl Try.func32 #[.pointer (some ⟨g415, 0, none⟩), .int .i64 25] ?_; (with_reducible refine (spec_l6DrawRecs.calls k g415 fZ gR gS 25 lU lV lW w _ ?side1 ?side2 nI.out).mono ?_); (case side1 => exact u9_4); (case side2 => exact u9_1); rintro e oA ⟨v427, rfl, mD, hi, hb, hk⟩; refine ⟨_, rfl, ?_⟩; have jP := aM (Kd.R_lower mD (below_size u9_1)); replace HB := aM (hb); replace HI415 := aM (hi); (try clear hb hk hi mD)))
  go_ret
  exact ⟨_, by first | rfl | (simp [errW_none, errW_some] <;> rfl) | (simp [*, errW_none, errW_some] <;> rfl), by (with_reducible repeat (first | apply Kd.R_alloc | apply Kd.R_drewN | apply Kd.R_drew)); exact jP.out, u9_1⟩

/-! ### impl_within: function 35 -/
def impl_within.f (a0 : Int) (a1 : Int) (a2 : Int) : Option (Bool) := if a0 ≥ a1 then (some (decide (a0 ≤ a2))) else (some false)
set_option maxHeartbeats 8000000 in
set_option maxRecDepth 100000 in
theorem impl_within.calls (a0 : Int) (a1 : Int) (a2 : Int) (r : Bool) (w : World) (h : impl_within.f a0 a1 a2 = some r) :
 Calls Try.prog 35 #[.int .i64 a0, .int .i64 a1, .int .i64 a2] w fun e w' => e = .returned (.bool r) ∧ Drawn0 w w' := by
 have H : (if a0 ≥ a1 then (some (decide (a0 ≤ a2))) else (some false)) = some r := h
 clear h
 by_cases c4 : a0 ≥ a1
 ·rw [if_pos c4] at H; have jQ : decide (a1 ≤ a0) = true := decide_eq_true c4; clear c4; obtain rfl := Option.some.inj H; go_enter Try.func35, Try.ntmps35
  go_wp2; go_ret
  exact ⟨u9_0, u9_2⟩
 ·rw [if_neg c4] at H; have jQ : decide (a1 ≤ a0) = false := decide_eq_false c4; clear c4; obtain rfl := Option.some.inj H; go_enter Try.func35, Try.ntmps35
  go_wp2; go_ret
  exact ⟨u9_0, u9_2⟩

/-! ### impl_isRelease: function 68 -/
def impl_isRelease.f (a0 : Int) : Option (Bool) := (impl_within.f a0 1 1000).bind fun gG => (some gG)
set_option maxHeartbeats 8000000 in
set_option maxRecDepth 100000 in
theorem impl_isRelease.calls (a0 : Int) (r : Bool) (w : World) (h : impl_isRelease.f a0 = some r) :
 Calls Try.prog 68 #[.int .i64 a0] w fun e w' => e = .returned (.bool r) ∧ Drawn0 w w' := by
 have H : ((impl_within.f a0 1 1000).bind fun gG => (some gG)) = some r := h
 clear h
 replace H := oB H
 obtain ⟨gG, dL, H⟩ := H
 (try dsimp only at H)
 have A2 := aM dL
 clear dL
 obtain rfl := Option.some.inj H
 go_enter Try.func68, Try.ntmps68
 go_wp2_with (first | ((with_reducible refine gC 35 rfl ?_); refine goesLY (some 4) rfl Try.func35 #[.int .i64 a0, .int .i64 1, .int .i64 1000] ?_; (with_reducible refine (impl_within.calls a0 1 1000 gG _ A2.out).mono ?_); rintro e w' ⟨rfl, ⟨nd, rfl⟩⟩; refine ⟨_, rfl, ?_⟩))
 go_ret
 exact ⟨u9_0, u9_2⟩

/-! ### impl_isSize: function 69 -/
def impl_isSize.f (a0 : Int) : Option (Bool) := (impl_within.f a0 0 1000).bind fun gH => (some gH)
set_option maxHeartbeats 8000000 in
set_option maxRecDepth 100000 in
theorem impl_isSize.calls (a0 : Int) (r : Bool) (w : World) (h : impl_isSize.f a0 = some r) :
 Calls Try.prog 69 #[.int .i64 a0] w fun e w' => e = .returned (.bool r) ∧ Drawn0 w w' := by
 have H : ((impl_within.f a0 0 1000).bind fun gH => (some gH)) = some r := h
 clear h
 replace H := oB H
 obtain ⟨gH, dL, H⟩ := H
 (try dsimp only at H)
 have A2 := aM dL
 clear dL
 obtain rfl := Option.some.inj H
 go_enter Try.func69, Try.ntmps69
 go_wp2_with (first | ((with_reducible refine gC 35 rfl ?_); refine goesLY (some 4) rfl Try.func35 #[.int .i64 a0, .int .i64 0, .int .i64 1000] ?_; (with_reducible refine (impl_within.calls a0 0 1000 gH _ A2.out).mono ?_); rintro e w' ⟨rfl, ⟨nd, rfl⟩⟩; refine ⟨_, rfl, ?_⟩))
 go_ret
 exact ⟨u9_0, u9_2⟩

/-! ### impl_isNode: function 70 -/
def impl_isNode.f (a0 : Int) : Option (Bool) := (impl_within.f a0 0 4).bind fun gI => (some gI)
set_option maxHeartbeats 8000000 in
set_option maxRecDepth 100000 in
theorem impl_isNode.calls (a0 : Int) (r : Bool) (w : World) (h : impl_isNode.f a0 = some r) :
 Calls Try.prog 70 #[.int .i64 a0] w fun e w' => e = .returned (.bool r) ∧ Drawn0 w w' := by
 have H : ((impl_within.f a0 0 4).bind fun gI => (some gI)) = some r := h
 clear h
 replace H := oB H
 obtain ⟨gI, dL, H⟩ := H
 (try dsimp only at H)
 have A2 := aM dL
 clear dL
 obtain rfl := Option.some.inj H
 go_enter Try.func70, Try.ntmps70
 go_wp2_with (first | ((with_reducible refine gC 35 rfl ?_); refine goesLY (some 4) rfl Try.func35 #[.int .i64 a0, .int .i64 0, .int .i64 4] ?_; (with_reducible refine (impl_within.calls a0 0 4 gI _ A2.out).mono ?_); rintro e w' ⟨rfl, ⟨nd, rfl⟩⟩; refine ⟨_, rfl, ?_⟩))
 go_ret
 exact ⟨u9_0, u9_2⟩

/-! ### impl_CmdOk: function 36 -/
mutual
def impl_CmdOk.j2 : Nat → Bool → Int → Int → Int → Int → ByteArray → Option (Bool)
 | 0, _, _, _, _, _, _ => none
 | k + 1, x4, aU, aV, aW, bC, bE => if x4 = true then (some (aU == 0 && (aV == 0 && (aW == 0 && (bC == 0 && (bE.toList == ([] : List UInt8))))))) else (some false)
def impl_CmdOk.j0 : Nat → Bool → Int → Int → Int → Int → ByteArray → Option (Bool)
 | 0, _, _, _, _, _, _ => none
 | k + 1, x4, aU, aV, aW, bC, bE => impl_CmdOk.j2 k x4 aU aV aW 0 (⟨#[]⟩ : ByteArray)
def impl_CmdOk.j1 : Nat → Bool → Bool → Int → Int → Int → Int → ByteArray → Option (Bool)
 | 0, _, _, _, _, _, _, _ => none
 | k + 1, x4, nJ, aU, aV, aW, bC, bE => if nJ = true then (impl_CmdOk.j2 k x4 aU aV aW bC bE) else (some false)
end
def impl_CmdOk.f (k : Nat) (aH : Int) (aR : Int) (aE : Int) (aB : Int) (aC : ByteArray) : Option (Bool) := (impl_isRelease.f aR).bind fun aT => (if aH = 1 then (impl_CmdOk.j2 k (aR == 0) 0 0 aE aB aC) else (if aH = 2 then (if aT = true then ((impl_isSize.f aB).bind fun gJ => (if gJ = true then (impl_CmdOk.j0 k ((aC.size : Int) == 32) 0 0 aE aB aC) else (impl_CmdOk.j0 k false 0 0 aE aB aC))) else (impl_CmdOk.j0 k false 0 0 aE aB aC)) else (if aH = 3 then (if aT = true then ((impl_isNode.f aE).bind fun gB => (impl_CmdOk.j2 k gB 0 0 0 aB aC)) else (impl_CmdOk.j2 k false 0 0 0 aB aC)) else (if aH = 4 then (impl_CmdOk.j1 k aT (aH == 4) 0 0 aE aB aC) else (impl_CmdOk.j1 k aT (aH == 5) 0 0 aE aB aC)))))
theorem u9_mq1 {p : Prop} (h : p := by repeat' first | (with_reducible first | exact jA _ _ _ _ _ _ | exact mE _ _ _ _ _ _ | exact mF _ _ _ _ _ _ _ | exact LeO.refl _ | exact LeO.none _ | refine LeO.ite ?_ ?_ | refine LeO.bind ?_ (fun _ => ?_)) | exact LeO.none _ | refine LeO.ite ?_ ?_ | refine LeO.bind ?_ (fun _ => ?_)) : p := h
set_option maxRecDepth 100000 in
theorem impl_CmdOk.mono_l : ∀ k, (∀ y0 y1 y2 y3 y4 y5, LeO (impl_CmdOk.j2 k y0 y1 y2 y3 y4 y5) (impl_CmdOk.j2 (k + 1) y0 y1 y2 y3 y4 y5)) ∧ (∀ y0 y1 y2 y3 y4 y5, LeO (impl_CmdOk.j0 k y0 y1 y2 y3 y4 y5) (impl_CmdOk.j0 (k + 1) y0 y1 y2 y3 y4 y5)) ∧ (∀ y0 y1 y2 y3 y4 y5 y6, LeO (impl_CmdOk.j1 k y0 y1 y2 y3 y4 y5 y6) (impl_CmdOk.j1 (k + 1) y0 y1 y2 y3 y4 y5 y6))
 | 0 => ⟨fun _ _ _ _ _ _ r h => by simp [impl_CmdOk.j2] at h, fun _ _ _ _ _ _ r h => by simp [impl_CmdOk.j0] at h, fun _ _ _ _ _ _ _ r h => by simp [impl_CmdOk.j1] at h⟩
 | k + 1 => by
  obtain ⟨jA, mE, mF⟩ := impl_CmdOk.mono_l k; refine ⟨?_, ?_, ?_⟩
  ·intro y0 y1 y2 y3 y4 y5; unfold impl_CmdOk.j2; exact u9_mq1
  ·intro y0 y1 y2 y3 y4 y5; unfold impl_CmdOk.j0; exact u9_mq1
  ·intro y0 y1 y2 y3 y4 y5 y6; unfold impl_CmdOk.j1; exact u9_mq1
theorem impl_CmdOk.mono : ∀ a0 a1 a2 a3 a4 k, LeO (impl_CmdOk.f k a0 a1 a2 a3 a4) (impl_CmdOk.f (k + 1) a0 a1 a2 a3 a4) := by
 intro a0 a1 a2 a3 a4 k
 obtain ⟨jA, mE, mF⟩ := impl_CmdOk.mono_l k
 unfold impl_CmdOk.f
 exact u9_mq1
set_option maxHeartbeats 8000000 in
set_option maxRecDepth 100000 in
theorem impl_CmdOk.calls (k : Nat) (aH : Int) (aR : Int) (aE : Int) (aB : Int) (aC : ByteArray) (r : Bool) (w : World) (h : impl_CmdOk.f k aH aR aE aB aC = some r) :
 Calls Try.prog 36 #[.agg #[.int .i64 aH, .int .i64 aR, .int .i64 aE, .int .i64 aB, .string aC]] w fun e w' => e = .returned (.bool r) ∧ Below w.heap.size w w' := by
 have nK := Try.underlying34
 have HB := aM (Below.refl w.heap.size w)
 have H : ((impl_isRelease.f aR).bind fun aT => (if aH = 1 then (impl_CmdOk.j2 k (aR == 0) 0 0 aE aB aC) else (if aH = 2 then (if aT = true then ((impl_isSize.f aB).bind fun gJ => (if gJ = true then (impl_CmdOk.j0 k ((aC.size : Int) == 32) 0 0 aE aB aC) else (impl_CmdOk.j0 k false 0 0 aE aB aC))) else (impl_CmdOk.j0 k false 0 0 aE aB aC)) else (if aH = 3 then (if aT = true then ((impl_isNode.f aE).bind fun gB => (impl_CmdOk.j2 k gB 0 0 0 aB aC)) else (impl_CmdOk.j2 k false 0 0 0 aB aC)) else (if aH = 4 then (impl_CmdOk.j1 k aT (aH == 4) 0 0 aE aB aC) else (impl_CmdOk.j1 k aT (aH == 5) 0 0 aE aB aC)))))) = some r := h
 clear h
 replace H := oB H
 obtain ⟨aT, dL, H⟩ := H
 (try dsimp only at H)
 have A2 := aM dL
 clear dL
 have lX := aM H
 clear H
 go_enter Try.func36, Try.ntmps36
 go_upto_block 0 with (first | ((with_reducible refine gD 1 rfl ?_); (try (refine gate_guard (by rfl) ?_; dsimp only)); refine boxE (N := 1) rfl (cs := #[.int .i64 aH, .int .i64 aR, .int .i64 aE, .int .i64 aB, .string aC]) (t := 34) ?_; intro gK hg w4 hbox hb; have aJ := aM (hbox); have mG := aM (xge hg); have mH := aM (xge hg); replace HB := xbs hb; clear hb hbox hg; obtain ⟨dN, dO, dP, dQ, dR, dS, dU, dV, dW, dX⟩ := xf5 (w := w4) aJ) | ((with_reducible refine gD 3 rfl ?_); (try (refine gate_guard (by rfl) ?_; dsimp only)); refine boxE (N := 3) rfl (cs := #[.int .i64 0, .int .i64 0, .int .i64 0, .int .i64 0, .string (⟨#[]⟩ : ByteArray)]) (t := 34) ?_; intro aX hg w6 hbox hb; have mI := aM (xge hg); have mJ := aM (xge hg); replace HB := xbs hb; have aF := nblt aJ hg; have aG := nbgt aJ hg; replace aJ := xbb aJ hb; have aS := aM (hbox); clear hb hbox hg; have nL := aG.out; have nM := aF.out; obtain ⟨dY, dZ, eA, eB, eC, eD, eE, eF, eG, eH⟩ := xf5 (w := w6) aS) | ((with_reducible refine gate_store (t := 34) (p := 3) rfl ?_); refine store_event (t := 34) (p := 3) (v := ?vo_w9) (w1 := (((((w6.setCell ⟨aX, 0, none⟩ (.int .i64 aH)).setCell ⟨aX, 1, none⟩ (.int .i64 aR)).setCell ⟨aX, 2, none⟩ (.int .i64 aE)).setCell ⟨aX, 3, none⟩ (.int .i64 aB)).setCell ⟨aX, 4, none⟩ (.string aC))) ?hg ?ho ?hn ?hr ?_; (case ho | hg | hn => rfl); (case hr => first | (go_simp; done) | (go_simp; rfl)); intro w9 hw; replace aJ := xwc hw aJ; replace aS : Aside0 (w9.heap[aX]? = some (.cells #[.int .i64 aH, .int .i64 aR, .int .i64 aE, .int .i64 aB, .string aC] 34 (0, 0))) := xwp hw; replace HB := xbw hw HB; clear hw; obtain ⟨bJ, bK, bL, bM, bN, bO, bP, bQ, bR, bU⟩ := xf5 (w := w9) aS; obtain ⟨bV, bW, bX, bY, bZ, cA, cB, cC, cD, cE⟩ := xf5 (w := w9) aJ) | ((with_reducible refine gC 68 rfl ?_); refine goesLY (some 10) rfl Try.func68 #[.int .i64 aR] ?_; (with_reducible refine (impl_isRelease.calls aR aT _ A2.out).mono ?_); rintro e w' ⟨rfl, ⟨nd, rfl⟩⟩; refine ⟨_, rfl, ?_⟩))
 (try simp only [Act.put, List.setIfInBounds_toArray, List.set_cons_zero, List.set_cons_succ])
 go_cut [4] (fun v4 wc => ∃ (kq : Nat) (gT : Bool) (aY : Int) (aZ : Int) (bA : ByteArray), v4 = .bool gT ∧ Aside0 (impl_CmdOk.j2 kq gT 0 0 aY aZ bA = some r) ∧ Aside0 (kq ≤ k) ∧ Aside0 (wc.heap[gK]? = some (.cells #[.int .i64 aH, .int .i64 aR, .int .i64 aE, .int .i64 aB, .string aC] 34 (0, 0))) ∧ Aside0 (wc.heap[aX]? = some (.cells #[.int .i64 0, .int .i64 0, .int .i64 aY, .int .i64 aZ, .string bA] 34 (0, 0))) ∧ Aside0 (Below w.heap.size w wc))
 case first =>
  have H := lX.out; clear lX; by_cases gW : aH = 1
  ·rw [if_pos gW] at H; obtain ⟨bB, eI⟩ := bT gW; clear gW; (first | rw [bB] | (simp only [i64_w, i32_w]; rw [bB]) | skip); have H' := aM H; clear H; have mK := aF.out; have mL := aG.out; obtain ⟨cF, cG, cH, cI, cJ, cK, cL, cM, cN, cO⟩ := xf5 (w := w9) aJ; go_wp2; go_meet
   case rel => exact ⟨_, ((aR == 0)), (aE), (aB), (aC), u9_0, H', ⟨u9_3⟩, ⟨xB⟩, ⟨xP⟩, ⟨xbg⟩⟩
  ·rw [if_neg gW] at H; obtain ⟨bB, eI⟩ := bF gW; (first | rw [bB] | (simp only [i64_w, i32_w]; rw [bB]) | skip); by_cases gA : aH = 2
   ·rw [if_pos gA] at H; obtain ⟨dM, eJ⟩ := bT gA; clear gA; have iR := aM H; clear H; go_upto_region 9 with (fail)
    go_cut [4] (fun v4 wc => ∃ (kq : Nat) (eK : Bool), v4 = .bool eK ∧ Aside0 (impl_CmdOk.j0 kq eK 0 0 aE aB aC = some r) ∧ Aside0 (kq ≤ k) ∧ Aside0 (wc.heap[gK]? = some (.cells #[.int .i64 aH, .int .i64 aR, .int .i64 aE, .int .i64 aB, .string aC] 34 (0, 0))) ∧ Aside0 (wc.heap[aX]? = some (.cells #[.int .i64 0, .int .i64 0, .int .i64 aE, .int .i64 aB, .string aC] 34 (0, 0))) ∧ Aside0 (Below w.heap.size w wc))
    case first =>
     have H := iR.out; clear iR; by_cases iS : aT = true
     ·subst iS; replace H := iT H; replace H := oB H; obtain ⟨gJ, jR, H⟩ := H; (try dsimp only at H); have mM := aM jR; clear jR
      by_cases iU : gJ = true
      ·subst iU; replace H := iT H; have H' := aM H; clear H; have mN := aF.out; have mO := aG.out; obtain ⟨cP, cQ, cS, cT, cU, cV, cW, cX, cY, cZ⟩ := xf5 (w := w9) aJ; go_wp2_with (first | (go_at_call 69; (with_reducible refine (impl_isSize.calls aB true _ mM.out).mono ?_); rintro e w' ⟨rfl, ⟨nd, rfl⟩⟩))
       go_meet
       case rel => exact ⟨_, (((aC.size : Int) == 32)), u9_0, H', ⟨u9_3⟩, ⟨xB⟩, ⟨xP⟩, ⟨xbg⟩⟩
      ·replace iU := Bool.eq_false_iff.mpr iU; subst iU; replace H := iN H; have H' := aM H; clear H; have mP := aF.out; have mQ := aG.out; obtain ⟨dA, dB, dC, dD, dE, dF, dG, dH, dI, dJ⟩ := xf5 (w := w9) aJ; go_wp2_with (first | (go_at_call 69; (with_reducible refine (impl_isSize.calls aB false _ mM.out).mono ?_); rintro e w' ⟨rfl, ⟨nd, rfl⟩⟩))
       go_meet
       case rel => exact ⟨_, (false), u9_0, H', ⟨u9_3⟩, ⟨xB⟩, ⟨xP⟩, ⟨xbg⟩⟩
     ·replace iS := Bool.eq_false_iff.mpr iS; subst iS; replace H := iN H; have H' := aM H; clear H; go_wp2; go_meet
      case rel => exact ⟨_, (false), u9_0, H', ⟨u9_3⟩, ⟨xB⟩, ⟨xP⟩, ⟨xbg⟩⟩
    case rest =>
     clear iR; try clear c1
     try clear c2
     try clear p2
     try clear c3
     try clear c6
     try clear c7
     try clear gW
     try clear bB
     try clear eI
     try clear mR
     try clear gA
     try clear dM
     try clear eJ
     try clear iS
     try clear iU
     try clear mS
     try clear mT
     try clear bJ bK bL bM bN
     try clear bV bW bX bY bZ
     try clear cF cG cH cI cJ
     try clear cP cQ cS cT cU
     try clear dA dB dC dD dE
     try clear dN dO dP dQ dR
     try clear dY dZ eA eB eC
     try clear bO bP bQ bR bU
     try clear cA cB cC cD cE
     try clear cK cL cM cN cO
     try clear cV cW cX cY cZ
     try clear dF dG dH dI dJ
     try clear dS dU dV dW dX
     try clear eD eE eF eG eH
     obtain ⟨kq, eK, rfl, HA, HJ15, aJ, aS, HB⟩ := hcut; cases kq with
     | zero => exact absurd HA.out (by simp [impl_CmdOk.j0])
     | succ nN =>
      have H := HA.out; clear HA; simp only [impl_CmdOk.j0] at H; have H' := aM H; clear H; have mU := aG.out; have mV := aF.out; obtain ⟨eL, eM, eN, eO, eP, eQ, eR, eS, eT, eU⟩ := xf5 (w := wc) aS; go_wp2; go_meet
      case rel => exact ⟨_, (eK), (aE), (0), ((⟨#[]⟩ : ByteArray)), u9_0, H', ⟨by have := HJ15.out; first | omega | exact Nat.le_refl _⟩, ⟨xB⟩, ⟨xP⟩, ⟨xbg⟩⟩
   ·rw [if_neg gA] at H; obtain ⟨dM, eJ⟩ := bF gA; by_cases iV : aH = 3
    ·rw [if_pos iV] at H; obtain ⟨gL, gM⟩ := bT iV; clear iV; by_cases iZ : aT = true
     ·subst iZ; replace H := iT H; replace H := oB H; obtain ⟨gB, jS, H⟩ := H; (try dsimp only at H); have nO := aM jS; clear jS
      have H' := aM H; clear H; have mW := aF.out; have mX := aG.out; obtain ⟨eV, eW, eX, eY, eZ, fA, fB, fC, fD, fE⟩ := xf5 (w := w9) aJ; go_wp2_with (first | (go_at_call 70; (with_reducible refine (impl_isNode.calls aE gB _ nO.out).mono ?_); rintro e w' ⟨rfl, ⟨nd, rfl⟩⟩; obtain ⟨fF, fG, fH, fI, fJ, fK, fL, fM, fN, fO⟩ := xf5 (w := w9) aS))
      go_meet
      case rel => exact ⟨_, (gB), (0), (aB), (aC), u9_0, H', ⟨u9_3⟩, ⟨xB⟩, ⟨xP⟩, ⟨xbg⟩⟩
     ·replace iZ := Bool.eq_false_iff.mpr iZ; subst iZ; replace H := iN H; have H' := aM H; clear H; have mY := aG.out; have mZ := aF.out; obtain ⟨fP, fQ, fR, fS, fT, fU, fV, fW, fX, fY⟩ := xf5 (w := w9) aS; go_wp2; go_meet
      case rel => exact ⟨_, (false), (0), (aB), (aC), u9_0, H', ⟨u9_3⟩, ⟨xB⟩, ⟨xP⟩, ⟨xbg⟩⟩
    ·rw [if_neg iV] at H; obtain ⟨gL, gM⟩ := bF iV; have iW := aM H; clear H; go_upto_if 43 with (fail)
     go_cut [43] (fun v43 wc => ∃ (kq : Nat) (dK : Bool), v43 = .bool dK ∧ Aside0 (impl_CmdOk.j1 kq aT dK 0 0 aE aB aC = some r) ∧ Aside0 (kq ≤ k) ∧ Aside0 (wc.heap[gK]? = some (.cells #[.int .i64 aH, .int .i64 aR, .int .i64 aE, .int .i64 aB, .string aC] 34 (0, 0))) ∧ Aside0 (wc.heap[aX]? = some (.cells #[.int .i64 0, .int .i64 0, .int .i64 aE, .int .i64 aB, .string aC] 34 (0, 0))) ∧ Aside0 (Below w.heap.size w wc))
     case first =>
      have H := iW.out; clear iW; by_cases iX : aH = 4
      ·rw [if_pos iX] at H; obtain ⟨bH, gN⟩ := bT iX; clear iX; (first | rw [bH] | (simp only [i64_w, i32_w]; rw [bH]) | skip); have H' := aM H; clear H; go_wp2; go_meet
       case rel => exact ⟨_, ((aH == 4)), u9_0, H', ⟨u9_3⟩, ⟨xB⟩, ⟨xP⟩, ⟨xbg⟩⟩
      ·rw [if_neg iX] at H; obtain ⟨bH, gN⟩ := bF iX; (first | rw [bH] | (simp only [i64_w, i32_w]; rw [bH]) | skip); have H' := aM H; clear H; go_wp2; go_meet
       case rel => exact ⟨_, ((aH == 5)), u9_0, H', ⟨u9_3⟩, ⟨xB⟩, ⟨xP⟩, ⟨xbg⟩⟩
     case rest =>
      clear iW; try clear c1
      try clear c2
      try clear p2
      try clear c3
      try clear c6
      try clear c7
      try clear gW
      try clear bB
      try clear eI
      try clear mR
      try clear gA
      try clear dM
      try clear eJ
      try clear iS
      try clear iU
      try clear mS
      try clear mT
      try clear nP
      try clear iV
      try clear gL
      try clear gM
      try clear iZ
      try clear nQ
      try clear nR
      try clear iX
      try clear bH
      try clear gN
      try clear bJ bK bL bM bN
      try clear bV bW bX bY bZ
      try clear cF cG cH cI cJ
      try clear cP cQ cS cT cU
      try clear dA dB dC dD dE
      try clear eL eM eN eO eP
      try clear eV eW eX eY eZ
      try clear fF fG fH fI fJ
      try clear fP fQ fR fS fT
      try clear dN dO dP dQ dR
      try clear dY dZ eA eB eC
      try clear bO bP bQ bR bU
      try clear cA cB cC cD cE
      try clear cK cL cM cN cO
      try clear cV cW cX cY cZ
      try clear dF dG dH dI dJ
      try clear eQ eR eS eT eU
      try clear fA fB fC fD fE
      try clear fK fL fM fN fO
      try clear fU fV fW fX fY
      try clear dS dU dV dW dX
      try clear eD eE eF eG eH
      try clear p2
      obtain ⟨kq, dK, rfl, HA, HJ33, aJ, aS, HB⟩ := hcut; cases kq with
      | zero => exact absurd HA.out (by simp [impl_CmdOk.j1])
      | succ nS =>
       have H := HA.out; clear HA; simp only [impl_CmdOk.j1] at H; by_cases jT : dK = true
       ·subst jT; replace H := iT H; have H' := aM H; clear H; go_wp2; go_meet
        case rel => exact ⟨_, (aT), (aE), (aB), (aC), u9_0, H', ⟨by have := HJ33.out; first | omega | exact Nat.le_refl _⟩, ⟨xblk⟩, ⟨xblk⟩, ⟨xbg⟩⟩
       ·replace jT := Bool.eq_false_iff.mpr jT; subst jT; replace H := iN H; obtain rfl := Option.some.inj H; go_wp2; go_ret
        exact ⟨xerr, xbg⟩
 case rest =>
  clear lX; try clear c1
  try clear c2
  try clear p2
  try clear c3
  try clear c6
  try clear c7
  try clear gW
  try clear bB
  try clear eI
  try clear mR
  try clear gA
  try clear dM
  try clear eJ
  try clear iS
  try clear iU
  try clear mS
  try clear mT
  try clear nP
  try clear iV
  try clear gL
  try clear gM
  try clear iZ
  try clear nQ
  try clear nR
  try clear iX
  try clear bH
  try clear gN
  try clear jT
  try clear bJ bK bL bM bN
  try clear bV bW bX bY bZ
  try clear cF cG cH cI cJ
  try clear cP cQ cS cT cU
  try clear dA dB dC dD dE
  try clear eL eM eN eO eP
  try clear eV eW eX eY eZ
  try clear fF fG fH fI fJ
  try clear fP fQ fR fS fT
  try clear dN dO dP dQ dR
  try clear dY dZ eA eB eC
  try clear bO bP bQ bR bU
  try clear cA cB cC cD cE
  try clear cK cL cM cN cO
  try clear cV cW cX cY cZ
  try clear dF dG dH dI dJ
  try clear eQ eR eS eT eU
  try clear fA fB fC fD fE
  try clear fK fL fM fN fO
  try clear fU fV fW fX fY
  try clear dS dU dV dW dX
  try clear eD eE eF eG eH
  try clear p2
  obtain ⟨kq, gT, aY, aZ, bA, rfl, HA, HJ2, aJ, aS, HB⟩ := hcut; cases kq with
  | zero => exact absurd HA.out (by simp [impl_CmdOk.j2])
  | succ oC =>
   have H := HA.out; clear HA; simp only [impl_CmdOk.j2] at H; by_cases jV : gT = true
   ·subst jV; replace H := iT H; obtain rfl := Option.some.inj H; have nA := aG.out; have nB := aF.out; obtain ⟨jW, jX, jY, jZ, kA, kB, kC, kE, kF, kG⟩ := xf5 (w := wc) aS; go_wp2; go_ret
    exact ⟨xerr, xbg⟩
   ·replace jV := Bool.eq_false_iff.mpr jV; subst jV; replace H := iN H; obtain rfl := Option.some.inj H; go_wp2; go_ret
    exact ⟨xerr, xbg⟩

/-! ### impl_lastTerm: function 37 -/
def impl_lastTerm.f (l0 : List (S36)) : Option (Int) := if (l0.length : Int) = 0 then (some 0) else (if 0 ≤ (wrap64 ((l0.length : Int) - 1)) then (if (wrap64 ((l0.length : Int) - 1)) < (l0.length : Int) then (some ((rd_T36 l0 (wrap64 ((l0.length : Int) - 1))).f0)) else (none)) else (none))
set_option maxHeartbeats 8000000 in
set_option maxRecDepth 100000 in
theorem impl_lastTerm.calls (A0 : Option Addr) (c0 : Nat) (l0 : List (S36)) (r : Int) (w : World) (jB : Kd.C k36 w A0 l0.length l0) (jC : l0.length ≤ c0) (h : impl_lastTerm.f l0 = some r) :
 Calls Try.prog 37 #[.slice A0 l0.length c0] w fun e w' => e = .returned (.int .i64 r) ∧ Drawn0 w w' := by
 have jU := aM jB
 have kN := aM jC
 clear jB jC
 have H : (if (l0.length : Int) = 0 then (some 0) else (if 0 ≤ (wrap64 ((l0.length : Int) - 1)) then (if (wrap64 ((l0.length : Int) - 1)) < (l0.length : Int) then (some ((rd_T36 l0 (wrap64 ((l0.length : Int) - 1))).f0)) else (none)) else (none))) = some r := h
 clear h
 by_cases c2 : (l0.length : Int) = 0
 ·rw [if_pos c2] at H; obtain ⟨lY, lZ⟩ := bT c2; clear c2; obtain rfl := Option.some.inj H; go_enter Try.func37, Try.ntmps37
  go_wp2; go_ret
  exact ⟨u9_0, u9_2⟩
 ·rw [if_neg c2] at H; obtain ⟨lY, lZ⟩ := bF c2; have nT : ¬ (l0 = []) := fun h_ => c2 (by rw [h_]; rfl)
  obtain ⟨ji3, hji3⟩ : ∃ j_ : Int, (wrap64 ((l0.length : Int) - 1)) = j_ := ⟨_, rfl⟩; replace H : (if 0 ≤ (ji3) then (if (ji3) < (l0.length : Int) then (some ((rd_T36 l0 (ji3)).f0)) else (none)) else (none)) = some r := by first | (rw [hji3] at H; exact H) | (simp only [hji3] at H ⊢; exact H)
  have hji3w : (IntKind.i64.wrap ((l0.length : Int) - 1)) = ji3 := (i64_w _).trans hji3; by_cases c4 : 0 ≤ (ji3)
  ·rw [if_pos c4] at H; have jQ : decide (0 ≤ (ji3)) = true := decide_eq_true c4; clear c4; by_cases c5 : (ji3) < (l0.length : Int)
   ·rw [if_pos c5] at H; have nU : decide ((ji3) < (l0.length : Int)) = true := decide_eq_true c5; clear c5; obtain rfl := Option.some.inj H; have p439 : 0 ≤ ((ji3) : Int) := oda; have q439 : (ji3) < (l0.length : Int) := oda; obtain ⟨nC, mA, kH, kI, kJ, kK, kL, kM⟩ := at_T36 jU.out (ji3) p439 q439; cases mA
    replace p439 := eq_true p439; replace q439 := eq_true q439; go_enter Try.func37, Try.ntmps37
    go_wp2; go_ret
    exact ⟨by first | rfl | (simp; done) | (simp only [← hji3] <;> (first | rfl | simp)) | (simp [*]; done), u9_2⟩
   ·rw [if_neg c5] at H; exact absurd H (by simp)
  ·rw [if_neg c4] at H; exact absurd H (by simp)

/-! ### impl_isWhole: function 38 -/
def impl_isWhole.f (a0 : Int) : Option (Bool) := (impl_within.f a0 0 1000000000).bind fun gO => (some gO)
set_option maxHeartbeats 8000000 in
set_option maxRecDepth 100000 in
theorem impl_isWhole.calls (a0 : Int) (r : Bool) (w : World) (h : impl_isWhole.f a0 = some r) :
 Calls Try.prog 38 #[.int .i64 a0] w fun e w' => e = .returned (.bool r) ∧ Drawn0 w w' := by
 have H : ((impl_within.f a0 0 1000000000).bind fun gO => (some gO)) = some r := h
 clear h
 replace H := oB H
 obtain ⟨gO, dL, H⟩ := H
 (try dsimp only at H)
 have A2 := aM dL
 clear dL
 obtain rfl := Option.some.inj H
 go_enter Try.func38, Try.ntmps38
 go_wp2_with (first | ((with_reducible refine gC 35 rfl ?_); refine goesLY (some 4) rfl Try.func35 #[.int .i64 a0, .int .i64 0, .int .i64 1000000000] ?_; (with_reducible refine (impl_within.calls a0 0 1000000000 gO _ A2.out).mono ?_); rintro e w' ⟨rfl, ⟨nd, rfl⟩⟩; refine ⟨_, rfl, ?_⟩))
 go_ret
 exact ⟨u9_0, u9_2⟩

end Go.Proofs.Ytocpomkfilpflaa.QFnHardRun
