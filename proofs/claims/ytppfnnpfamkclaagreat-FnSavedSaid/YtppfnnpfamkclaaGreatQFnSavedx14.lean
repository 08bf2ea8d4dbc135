-- A walk, by a program of this session.
import Derived.Test.YtppfnnpfamkclaaGreatQFnSavedx0
import Derived.Test.YtppfnnpfamkclaaGreatQFnSavedx3
import Derived.Test.YtppfnnpfamkclaaGreatQFnSavedx12
import Derived.Test.YtppfnnpfamkclaaGreatQFnSavedx13
namespace Go.Proofs.YtppfnnpfamkclaaGreat.QFnSaved
open Go.RowKit Go.Proofs.YtppfnnpfamkclaaGreatW.PrintWords Go.Proofs.YtppfnnpfamkclaaGreatW.PrintLast Go.Proofs.YtppfnnpfamkclaaGreatW.PrintMore
attribute [local go_sem] max2_int min2_int max_two min_two max_three min_three max_four min_four   -- for this text's walks alone
set_option maxHeartbeats 8000000
set_option maxRecDepth 100000
set_option linter.unusedVariables false
set_option linter.unusedSimpArgs false
theorem u14_0 {p : Prop} (h : p := by first | rfl | (simp; done) | (simp [*]; done)) : p := h
theorem u14_1 {p : Prop} (h : p := by have := HJ3.out; first | omega | exact Nat.le_refl _) : p := h
theorem u14_2 {p : Prop} (h : p := by first | rfl | (simp [Array.getD]; done) | (clear tA tB eD; simp [*]; done) | (clear tA tB eD; simp [*]; assumption) | (clear tA tB eD; simp [*]; rename_i h_; simpa using h_)) : p := h
theorem u14_3 {p : Prop} (h : p := by repeat (first | apply pw_below_drewN | apply below_alloc | exact Below.refl _ w)) : p := h
theorem u14_4 {p : Prop} (h : p := by first | (rw [hY]; with_reducible exact H) | (have H2_ := oS H; rw [hY]; with_reducible exact H2_) | (have H2_ := oS H; with_reducible exact H2_) | with_reducible exact H | (rw [hY]; exact H) | exact H) : p := h
theorem u14_5 {p : Prop} (h : p := by (with_reducible repeat (first | apply Kd.R_alloc | apply Kd.R_drewN | apply Kd.R_drew)); exact bI.out) : p := h
def spec_l6Copy.f (aG : Int) (aW : Int) (aE : List (S50)) : Option (Int × Int × (List (S50))) := (some (([] : List (S50)) : List (S50))).bind fun cS => (if cS.length + aE.length < 2513169434916 then (some (aG, aW, (cS ++ aE))) else (none))
def spec_l6Copy.T1 : Bool × List (List Nat × List Nat) := (true, [([], []), ([0], [0]), ([], []), ([2], [2]), ([], []), ([], []), ([5], [5]), ([4, 6], [4, 6]), ([1, 3, 7], [1, 3, 7]), ([8, 7, 0, 1, 2, 3, 4, 5, 6, 7, 8], [8])])
def spec_l6Copy.B1 : List Nat := [0, 1, 0, 4, 0, 0, 32, 112, 255, 511]
theorem spec_l6Copy.calls {aG aW : Int} {cG : Option Addr} {cH : Nat} {aE : List (S50)} {r1 r2 : Int} {r3 : List (S50)} {w : World} (h : spec_l6Copy.f aG aW aE = some (r1, r2, r3)) (dD : Kd.C k50 w cG aE.length aE) (dE : aE.length ≤ cH) :
 Calls Tryz.prog 56 #[.agg #[.int .i64 aG, .int .i64 aW, .slice cG aE.length cH]] w fun e w' => ∃ v2_ : Value, e = .returned (.agg #[.int .i64 r1, .int .i64 r2, v2_]) ∧ Kd.R k50 50 w' w.heap.size (fun _ => True) v2_ r3 ∧ Below w.heap.size w w' := by
 have eD := Tryz.underlying34; have cU := aM dD; have dF := aM dE
 clear dD dE
 have HB := aM (Below.refl w.heap.size w); have H := h; unfold spec_l6Copy.f at H
 clear h
 obtain ⟨cS, hY⟩ : ∃ y_ : List (S50), y_ = (([] : List (S50))) := ⟨_, rfl⟩; replace H : (if cS.length + aE.length < 2513169434916 then (some (aG, aW, (cS ++ aE))) else (none)) = some (r1, r2, r3) := u14_4; have sH := aM hY
 clear hY
 by_cases c2 : cS.length + aE.length < 2513169434916
 ·rw [if_pos c2] at H; have LMc2 := aM c2; clear c2; generalize hY : cS ++ aE = tR at H; (try replace H := bS_ H); (try dsimp only at H); have tS := aM hY.symm; clear hY; obtain ⟨rfl, rfl, rfl⟩ := i3_ H; go_enter Tryz.func56, Tryz.ntmps56
  try go_wp2_with (first | (refine bE_ (N := 1) rfl ?_; intro dH hg w3 bL hb; have AE := aM (xge hg); have AF := aM (xge hg); replace HB := xbs hb; clear hb hg) | (refine bE_ (N := 2) rfl ?_; intro bR hg w4 cB hb; have AG := aM (xge hg); have AH := aM (xge hg); replace HB := xbs hb; have aX := nblt bL hg; have cL := nbgt bL hg; replace bL := xbb bL hb; clear hb hg))
  replace bL := bD bL; replace cB := bD cB; replace HB := lD HB; refine st_ 10 (fun w' => w'.cell? ⟨dH, 0, none⟩ = some (.int .i64 aG) ∧ w'.cell? ⟨dH, 1, none⟩ = some (.int .i64 aW) ∧ w'.cell? ⟨dH, 2, none⟩ = some (.slice cG aE.length cH)) spec_l6Copy.T1 spec_l6Copy.B1 ⟨xc bL 0 rfl, xc bL 1 rfl, xc bL 2 rfl⟩ (fun hHeld HT_ HW_ => ?_); generalize w4.drew = w5 at bL cB HB hHeld ⊢; refine pV 0 3 ?_; refine pV 2 5 ?_; refine pV 5 8 ?_; refine tK 1 4 ?_; refine tK 3 6 ?_; refine tK 6 9 ?_; refine oN 4 7 fun K hK => ?_
  refine Kd.R_lit_step k50 _ 50 ?hg (N := 7) ?hd (xs := ([] : List (S50))) (inner := []) (ok := fun _ => True) (okp := fun _ => True) ?hr ?hp (fun _ hk => hk) trivial (Below.refl _ _) (Nat.le_refl _) (by simp) ?_; (case hd => rfl); (case hg => rfl); (case hr => first | (go_simp; done) | (go_simp; rfl)); (case hp => exact (Reps.none _ _)); intro v586 w6 tT hb hg_ hnew_; clear hg_ hnew_; (first | rw [← sH.out] at tT | (simp only [Int.reduceToNat] at tT; rw [← sH.out] at tT)); have dI := aM (Kd.R_lower tT (below_size xbg)); replace bL := xbb bL hb; replace cB := xbb cB hb; replace HB := xbs hb; clear hb tT; refine hK.out _ _ (xe3 bL) (fun hHeld => ?_); clear hK K; refine nm_ (N := 7) ?_; refine oN 7 10 fun K hK => ?_
  refine Kd.R_append_rows_step k50 (w0 := w) w.heap.size (by rfl) (.tmp 7) (.tmp 9) 32 50 (.agg #[(.int .i64 0), (.int .i64 0), (.int .i64 0), (.int .i64 0), (.int .i64 0), (.string ⟨#[]⟩)]) 56 rfl Tryz.underlying32 info50 rfl (by decide) (by omega) v586 cS aE _ _ _ (fun _ => True) (fun _ => False) rfl rfl ?aO ?aR (fun _ _ h => h) (fun _ h => h.elim) ?aF ?aB ?aS ?aL ?_; (case aR => exact xcb cU); (case aB => exact xbg); (case aF => exact (fun _ _ => trivial)); (case aO => exact (xr dI)); (case aS => exact (below_size xbg)); (case aL => have := LMc2.out; omega); intro v589 w8 ho hb hg hat; rw [← tS.out] at ho; replace bL := aM (blk_grown (g := dH) (o := .cells #[.int .i64 aG, .int .i64 aW, .slice cG aE.length cH] 34 (0, 0)) xblk hg (Kd.R_ne dI.out bL.out (by decide))); replace cB := aM (blk_grown (g := bR) (o := .cells #[.int .i64 0, .int .i64 0, .slice none 0 0] 34 (0, 0)) xblk hg (Kd.R_ne dI.out cB.out (by decide))); replace HB := aM (hb); have sI := aM (ho); clear dI ho hb hg hat; obtain ⟨EM, EN, AI⟩ := Kd.R_slice sI.out; (first | subst AI | (injection AI with f1_ f2_ f3_; have f4_ := f1_.symm; have f5_ := f3_.symm; clear f1_ f2_ f3_; subst f4_; subst f5_)); refine hK.out _ _ (xe3 bL) (fun hHeld => ?_); clear hK K; refine nm_ (N := 10) ?_; refine pV 8 11 ?_; refine one_ (i := 9) (N := none) #[true, true, true, true, true, true, true, true, true, true] rfl rfl (one_of HT_.out (by kernel_rfl)) (by decide) (fun K hK => ?_); have hs10 := xf3 (w := w8) cB; have hns10_0 := a2_ aX cL; refine skip_ (w1 := ?_) (by rfl) rfl ?_ ?_; rotate_left
  ·go_simp
   rfl
  refine hK.out _ _ ⟨(xF_ hHeld.1), (xF_ hHeld.2.1), (xF_ hHeld.2.2)⟩ (fun hHeld => ?_); clear hK K; refine dn_ ?_; try go_wp2
  refine bodyPost_ret (results_cell_row rfl _ _ bR 34 #[.int .i64 aG, .int .i64 aW, .slice EM tR.length EN] (0, 0) _ rfl xP Tryz.underlying34 rfl (by kernel_rfl)) rfl ?_; exact ⟨_, xerr, xrm sI (fun _ _ => trivial), xbg⟩
 rw [if_neg c2] at H; cases H
def spec_RecOk.f (k : Nat) (aG : Int) (aW : Int) (dR : Int) (dS : Int) (dT : Int) (dU : Int) (dV : Int) (dW : Int) (dX : Int) (dY : ByteArray) : Option (Bool) :=
  if aG = 1 then ((spec_l1Whole.f aW).bind fun wY => (if wY = true then ((spec_l1In.f dR 0 5).bind fun wZ => (if wZ = true then (some (dS == 0 && ((dT == 0 && ((dU == 0 && (dV == 0 && (dW == 0 && (dX == 0 && (dY.toList == ([] : List UInt8))))))))))) else (some false))) else (some false)))
  else (if aG = 2 then ((spec_l1In.f dS 1 80).bind fun xA => (if xA = true then ((spec_l6Entry.f k dT dU dV dW dX dY).bind fun xD => (if xD = true then (some (aW == 0 && (dR == 0))) else (some false))) else (some false)))
  else (if aG = 3 then ((spec_l1In.f dS 0 80).bind fun xE => (if xE = true then (some (aW == 0 && (dR == 0 && ((dT == 0 && ((dU == 0 && (dV == 0 && (dW == 0 && (dX == 0 && (dY.toList == ([] : List UInt8)))))))))))) else (some false))) else (some false)))
theorem bcellR {W w1 : World} (hb : Below W.heap.size W w1) : (∀ b o, b < W.heap.size → w1.cell? ⟨b, o, none⟩ = W.cell? ⟨b, o, none⟩) ∧ (∀ b o, b < W.heap.size → w1.frozen? ⟨b, o, none⟩ = W.frozen? ⟨b, o, none⟩) :=
  ⟨fun b o h => hb.cell (p := ⟨b, o, none⟩) h, fun b o h => hb.frozen (p := ⟨b, o, none⟩) h⟩
theorem spec_RecOk.calls {k : Nat} {aG aW dR dS dT dU dV dW dX : Int} {dY : ByteArray} {r : Bool} {w : World} (h : spec_RecOk.f k aG aW dR dS dT dU dV dW dX dY = some r) :
    Calls Tryz.prog 57 #[.agg #[.int .i64 aG, .int .i64 aW, .int .i64 dR, .int .i64 dS, .int .i64 dT, .int .i64 dU, .int .i64 dV, .int .i64 dW, .int .i64 dX, .string dY]] w fun e w' => e = .returned (.bool r) ∧ Below w.heap.size w w' := by
  have tA := Tryz.underlying52; have tB := Tryz.underlying50; have eD := Tryz.underlying48; unfold spec_RecOk.f at h; by_cases k1 : aG = 1
  · subst k1; rw [if_pos rfl] at h; obtain ⟨b1, A1, g⟩ := Option.bind_eq_some_iff.1 h; replace h := g; clear g; replace A1 := Aside0.mk A1; cases b1
    · simp only [Bool.false_eq_true, ↓reduceIte, Option.some.injEq] at h; subst h; go_enter Tryz.func57, Tryz.ntmps57
      go_wp2_with (first | (go_at_call 87; refine (spec_l1Whole.calls A1.out).mono ?_; rintro e w1 ⟨rfl, ⟨n1, rfl⟩⟩) | (go_at_call 88; refine (spec_l1In.calls A2.out).mono ?_; rintro e w1 ⟨rfl, ⟨n2, rfl⟩⟩))
      all_goals go_ret
      all_goals exact ⟨u14_2, u14_3⟩
    simp only [↓reduceIte] at h; obtain ⟨b2, A2, g⟩ := Option.bind_eq_some_iff.1 h; replace h := g; clear g; replace A2 := Aside0.mk A2; cases b2
    · simp only [Bool.false_eq_true, ↓reduceIte, Option.some.injEq] at h; subst h; go_enter Tryz.func57, Tryz.ntmps57
      go_wp2_with (first | (go_at_call 87; refine (spec_l1Whole.calls A1.out).mono ?_; rintro e w1 ⟨rfl, ⟨n1, rfl⟩⟩) | (go_at_call 88; refine (spec_l1In.calls A2.out).mono ?_; rintro e w1 ⟨rfl, ⟨n2, rfl⟩⟩))
      all_goals go_ret
      all_goals exact ⟨u14_2, u14_3⟩
    simp only [↓reduceIte, Option.some.injEq] at h; subst h; go_enter Tryz.func57, Tryz.ntmps57
    go_wp2_with (first | (go_at_call 87; refine (spec_l1Whole.calls A1.out).mono ?_; rintro e w1 ⟨rfl, ⟨n1, rfl⟩⟩) | (go_at_call 88; refine (spec_l1In.calls A2.out).mono ?_; rintro e w1 ⟨rfl, ⟨n2, rfl⟩⟩))
    all_goals go_ret
    all_goals exact ⟨u14_2, u14_3⟩
  rw [if_neg k1] at h; have n1 : (aG == 1) = false := beq_eq_false_iff_ne.2 k1; by_cases k2 : aG = 2
  · subst k2; rw [if_pos rfl] at h; obtain ⟨b1, A1, g⟩ := Option.bind_eq_some_iff.1 h; replace h := g; clear g; replace A1 := Aside0.mk A1; cases b1
    · simp only [Bool.false_eq_true, ↓reduceIte, Option.some.injEq] at h; subst h; go_enter Tryz.func57, Tryz.ntmps57
      go_wp2_with (first | (go_at_call 88; refine (spec_l1In.calls A1.out).mono ?_; rintro e w1 ⟨rfl, ⟨n1, rfl⟩⟩) | (go_at_call 89; refine (spec_l6Entry.calls A2.out).mono ?_; rintro e w1 ⟨rfl, hb⟩; obtain ⟨hc, hf⟩ := bcellR hb; have HB := Aside0.mk hb; clear hb))
      all_goals go_ret
      all_goals exact ⟨u14_2, u14_3⟩
    simp only [↓reduceIte] at h; obtain ⟨b2, A2, g⟩ := Option.bind_eq_some_iff.1 h; replace h := g; clear g; replace A2 := Aside0.mk A2; cases b2
    · simp only [Bool.false_eq_true, ↓reduceIte, Option.some.injEq] at h; subst h; go_enter Tryz.func57, Tryz.ntmps57
      go_wp2_with (first | (go_at_call 88; refine (spec_l1In.calls A1.out).mono ?_; rintro e w1 ⟨rfl, ⟨n1, rfl⟩⟩) | (go_at_call 89; refine (spec_l6Entry.calls A2.out).mono ?_; rintro e w1 ⟨rfl, hb⟩; obtain ⟨hc, hf⟩ := bcellR hb; have HB := Aside0.mk hb; clear hb))
      all_goals go_ret
      all_goals exact ⟨u14_2, below_step u14_3 HB.out⟩
    simp only [↓reduceIte, Option.some.injEq] at h; subst h; go_enter Tryz.func57, Tryz.ntmps57
    go_wp2_with (first | (go_at_call 88; refine (spec_l1In.calls A1.out).mono ?_; rintro e w1 ⟨rfl, ⟨n1, rfl⟩⟩) | (go_at_call 89; refine (spec_l6Entry.calls A2.out).mono ?_; rintro e w1 ⟨rfl, hb⟩; obtain ⟨hc, hf⟩ := bcellR hb; have HB := Aside0.mk hb; clear hb))
    all_goals go_ret
    all_goals exact ⟨u14_2, below_step u14_3 HB.out⟩
  rw [if_neg k2] at h; have n2 : (aG == 2) = false := beq_eq_false_iff_ne.2 k2; by_cases k3 : aG = 3
  · subst k3; rw [if_pos rfl] at h; obtain ⟨b1, A1, g⟩ := Option.bind_eq_some_iff.1 h; replace h := g; clear g; replace A1 := Aside0.mk A1; cases b1
    · simp only [Bool.false_eq_true, ↓reduceIte, Option.some.injEq] at h; subst h; go_enter Tryz.func57, Tryz.ntmps57
      go_wp2_with (first | (go_at_call 88; refine (spec_l1In.calls A1.out).mono ?_; rintro e w1 ⟨rfl, ⟨n1, rfl⟩⟩))
      all_goals go_ret
      all_goals exact ⟨u14_2, u14_3⟩
    simp only [↓reduceIte, Option.some.injEq] at h; subst h; go_enter Tryz.func57, Tryz.ntmps57
    go_wp2_with (first | (go_at_call 88; refine (spec_l1In.calls A1.out).mono ?_; rintro e w1 ⟨rfl, ⟨n1, rfl⟩⟩))
    all_goals go_ret
    all_goals exact ⟨u14_2, u14_3⟩
  rw [if_neg k3] at h; have n3 : (aG == 3) = false := beq_eq_false_iff_ne.2 k3; obtain rfl := Option.some.inj h; go_enter Tryz.func57, Tryz.ntmps57
  go_wp2_with (first | (go_at_call 88; refine (spec_l1In.calls A1.out).mono ?_; rintro e w1 ⟨rfl, ⟨n1, rfl⟩⟩))
  all_goals go_ret
  all_goals exact ⟨u14_2, u14_3⟩
mutual
def spec_HardApply.j0 : Nat → Int → Int → List (S50) → Int → Int → Int → Int → Int → Int → Int → Int → Int → ByteArray → Option (Int × Int × (List (S50)) × Bool)
 | 0, _, _, _, _, _, _, _, _, _, _, _, _, _ => none
 | k + 1, bC, bE, aJ, cR, bS, cE, bU, cW, cX, cY, cZ, dA, dB => (spec_l6Copy.f bC bE aJ).bind fun bJ => ((spec_RecOk.f k cR bS cE bU cW cX cY cZ dA dB).bind fun cT => (if cR = 1 then (if cT = true then (if bS > bC then (spec_HardApply.j1 k true bC bE aJ bS cE bJ.2.2) else (if bS = bC then (if bE = 0 then (spec_HardApply.j1 k true bC bE aJ bS cE bJ.2.2) else (spec_HardApply.j1 k (bE == cE) bC bE aJ bS cE bJ.2.2)) else (spec_HardApply.j1 k false bC bE aJ bS cE bJ.2.2))) else (spec_HardApply.j1 k false bC bE aJ bS cE bJ.2.2)) else (if cR = 2 then (if cT = true then (if bJ.2.2.length < 2513169434916 then (spec_HardApply.j1 k (bU == (wrap64 ((aJ.length : Int) + 1))) bC bE aJ bJ.1 bJ.2.1 (bJ.2.2 ++ [(⟨cW, (⟨cX, cY, cZ, dA, dB⟩ : S48)⟩ : S50)])) else (none)) else (if bJ.2.2.length < 2513169434916 then (spec_HardApply.j1 k false bC bE aJ bJ.1 bJ.2.1 (bJ.2.2 ++ [(⟨cW, (⟨cX, cY, cZ, dA, dB⟩ : S48)⟩ : S50)])) else (none))) else (if cR = 3 then (if cT = true then (if bU ≤ (aJ.length : Int) then (if 0 ≤ bU then (if bU ≤ (bJ.2.2.length : Int) then (spec_HardApply.j1 k (decide (bU ≤ (aJ.length : Int))) bC bE aJ bJ.1 bJ.2.1 (bJ.2.2.take (bU : Int).toNat)) else (none)) else (none)) else (spec_HardApply.j1 k (decide (bU ≤ (aJ.length : Int))) bC bE aJ bJ.1 bJ.2.1 bJ.2.2)) else (spec_HardApply.j1 k false bC bE aJ bJ.1 bJ.2.1 bJ.2.2)) else (spec_HardApply.j1 k cT bC bE aJ bJ.1 bJ.2.1 bJ.2.2)))))
def spec_HardApply.j1 : Nat → Bool → Int → Int → List (S50) → Int → Int → List (S50) → Option (Int × Int × (List (S50)) × Bool)
 | 0, _, _, _, _, _, _, _ => none
 | k + 1, x7, bC, bE, aJ, dJ, dK, dL => if x7 = true then ((spec_HardOk.f k dJ dK dL).bind fun tC => (if tC = true then (some (dJ, dK, dL, true)) else ((spec_l6Copy.f bC bE aJ).bind fun eE => (some (eE.1, eE.2.1, eE.2.2, false))))) else ((spec_l6Copy.f bC bE aJ).bind fun eF => (some (eF.1, eF.2.1, eF.2.2, false)))
end
def spec_HardApply.f (k : Nat) (aG : Int) (aW : Int) (aE : List (S50)) (cI : Int) (bQ : Int) (cF : Int) (bM : Int) (bV : Int) (bW : Int) (bX : Int) (bY : Int) (bZ : Int) (cA : ByteArray) : Option (Int × Int × (List (S50)) × Bool) := (spec_HardOk.f k aG aW aE).bind fun dZ => (if dZ = true then (spec_HardApply.j0 k aG aW aE cI bQ cF bM bV bW bX bY bZ cA) else (some (0, 0, ([] : List (S50)), false)))
theorem spec_HardApply.calls {k : Nat} {aG aW : Int} {cG : Option Addr} {cH : Nat} {aE : List (S50)} {cI bQ cF bM bV bW bX bY bZ : Int} {cA : ByteArray} {r1 r2 : Int} {r3 : List (S50)} {r4 : Bool} {w : World} (h : spec_HardApply.f k aG aW aE cI bQ cF bM bV bW bX bY bZ cA = some (r1, r2, r3, r4)) (dD : Kd.C k50 w cG aE.length aE) (dE : aE.length ≤ cH) :
 Calls Tryz.prog 28 #[.agg #[.int .i64 aG, .int .i64 aW, .slice cG aE.length cH], .agg #[.int .i64 cI, .int .i64 bQ, .int .i64 cF, .int .i64 bM, .int .i64 bV, .int .i64 bW, .int .i64 bX, .int .i64 bY, .int .i64 bZ, .string cA]] w fun e w' => ∃ v2_ : Value, e = .returned (.tuple #[.agg #[.int .i64 r1, .int .i64 r2, v2_], .bool r4]) ∧ Kd.R k50 50 w' w.heap.size (fun _ => True) v2_ r3 ∧ Below w.heap.size w w' := by
 have eD := Tryz.underlying34; have EO := Tryz.underlying52; have EP := Tryz.underlying50; have cU := aM dD; have dF := aM dE
 clear dD dE
 have HB := aM (Below.refl w.heap.size w); have H := h; unfold spec_HardApply.f at H
 clear h
 replace H := oB H; obtain ⟨dZ, AL, H⟩ := H; (try dsimp only at H); have A3 := aM AL
 clear AL
 have xL := aM H
 clear H
 go_enter Tryz.func28, Tryz.ntmps28
 go_upto_if 10 with (first | ((with_reducible refine gD 2 rfl ?_); (try (refine gate_guard (by rfl) ?_; dsimp only)); refine bE_ (N := 2) rfl ?_; intro dM hg w5 aC hb; have AM := aM (xge hg); have AN := aM (xge hg); replace HB := xbs hb; clear hb hg) | ((with_reducible refine gD 3 rfl ?_); (try (refine gate_guard (by rfl) ?_; dsimp only)); refine bE_ (N := 3) rfl ?_; intro dN hg w6 aA hb; have AO := aM (xge hg); have AP := aM (xge hg); replace HB := xbs hb; have aK := nblt aC hg; have aN := nbgt aC hg; replace aC := xbb aC hb; clear hb hg) | ((with_reducible refine gD 4 rfl ?_); (try (refine gate_guard (by rfl) ?_; dsimp only)); refine bE_ (N := 4) rfl ?_; intro cO hg w7 bG hb; have AQ := aM (xge hg); have AR := aM (xge hg); replace HB := xbs hb; have aQ := nblt aC hg; have aT := nbgt aC hg; have aH := nblt aA hg; have aI := nbgt aA hg; replace aC := xbb aC hb; replace aA := xbb aA hb; clear hb hg; have EQ := a4_ aK aN aQ aT; have iB := xf3 (w := w7) aC) | (refine gN_ 55 9 rfl rfl ?_; refine c0_ Tryz.func55 (spec_HardOk.calls A3.out (xcb cU) dF.out) ?_; intro EU hb; replace aC := xbb aC hb; replace aA := xbb aA hb; replace bG := xbb bG hb; replace HB := xbs hb; (try clear hb)))
 (try simp only [Act.put, List.setIfInBounds_toArray, List.set_cons_zero, List.set_cons_succ])
 go_cut [] (fun wc => ∃ (kq : Nat) (cC : Int) (cD : Int), Aside0 (spec_HardApply.j0 kq aG aW aE cI bQ cF bM bV bW bX bY bZ cA = some (r1, r2, r3, r4)) ∧ Aside0 (kq ≤ k) ∧ Aside0 (wc.heap[dM]? = some (.cells #[.int .i64 aG, .int .i64 aW, (.slice cG aE.length cH)] 34 (0, 0))) ∧ Aside0 (wc.heap[dN]? = some (.cells #[.int .i64 cI, .int .i64 bQ, .int .i64 cF, .int .i64 bM, .int .i64 bV, .int .i64 bW, .int .i64 bX, .int .i64 bY, .int .i64 bZ, .string cA] 52 (0, 0))) ∧ Aside0 (wc.heap[cO]? = some (.cells #[.int .i64 cC, .int .i64 cD, (.slice none 0 0)] 34 (0, 0))) ∧ Aside0 (Below w.heap.size w wc))
 case first =>
  have H := xL.out; clear xL; cases dZ; rotate_left
  ·replace H := iT H; replace H := aM H; go_wp2; go_meet
   case rel => exact ⟨_, _, _, H, ⟨by first | omega | exact Nat.le_refl _⟩, ⟨xblk⟩, ⟨xblk⟩, ⟨xblk⟩, ⟨xbg⟩⟩
  replace H := iN H; obtain ⟨rfl, rfl, rfl, rfl⟩ := i4_ H; have AS := a4_ aT aQ aI aH; have iH := xf3 (w := EU) bG; go_wp2; refine bodyPost_ret (results_ct rfl _ _ cO 34 #[.int .i64 0, .int .i64 0, .slice none 0 0] (0, 0) _ rfl xP Tryz.underlying34 rfl (by kernel_rfl)) rfl ?_; exact ⟨_, xerr, by first | exact Kd.R_nil _ _ _ _ _ | exact Kd.N_nil _ _ _ _ _ | exact Kd.V_nil _ _ _ _ _ | exact Kd.Q_nil _ _ _ _ _ | exact Kd.S_nil _ _ _ _ _, xbg⟩
 case rest =>
  clear xL
  try clear iB iC iD
  obtain ⟨kq, cC, cD, HA, HJ3, aC, aA, bG, HB⟩ := hcut; cases kq with
  | zero => exact absurd HA.out (by simp [spec_HardApply.j0])
  | succ tU =>
   have H := HA.out; clear HA; simp only [spec_HardApply.j0] at H; replace H := oA_ H; obtain ⟨⟨cM, cN, bK⟩, EV, H⟩ := H; (try dsimp only at H); replace H := oA_ H; obtain ⟨cT, EW, H⟩ := H; (try dsimp only at H); have tD := aM H; clear H; have AW := aK.out; have AX := a3_ aN aQ aT; have iO := xf3 (w := wc) aC; go_upto_block 0 with (first | (refine gN_ 56 13 rfl rfl ?_; refine c1_ Tryz.func56 (spec_l6Copy.calls EV.out (xcb cU) dF.out) ?_; rintro v598 FR ⟨iA, hb⟩; have bI := aM (Kd.R_lower iA (below_size xbg)); replace aC := xbb aC hb; replace aA := xbb aA hb; replace bG := xbb bG hb; replace HB := xbs hb; (try clear hb iA)) | ((with_reducible refine gD 6 rfl ?_); (try (refine gate_guard (by rfl) ?_; dsimp only)); refine bE_ (N := 6) rfl ?_; intro dO hg BA bH hb; replace bI := xrb bI hb; have BB := aM (xge hg); have BC := aM (xge hg); replace HB := xbs hb; have aU := nblt aC hg; have aV := nbgt aC hg; have aY := nblt aA hg; have aZ := nbgt aA hg; have bA := nblt bG hg; have bB := nbgt bG hg; replace aC := xbb aC hb; replace aA := xbb aA hb; replace bG := xbb bG hb; clear hb hg; have BD := a6_ aV aU aZ aY bB bA; have iV := xf3 (w := BA) bH; obtain ⟨cJ, cK, xM⟩ := Kd.R_slice bI.out; subst xM; have BJ := a2_ aH aI; have jB := xf10 (w := BA) aA) | (refine gN_ 57 15 rfl rfl ?_; refine c0_ Tryz.func57 (spec_RecOk.calls EW.out) ?_; intro cP hb; replace bI := xrB bI hb; replace aC := xbc aC hb; replace aA := xbc aA hb; replace bG := xbc bG hb; replace bH := aM (blk_below (g := dO) (o := .cells #[.int .i64 cM, .int .i64 cN, .slice cJ bK.length cK] 34 (0, 0)) xP hb); replace HB := xbs hb; (try clear hb); have jV := xf10 (w := cP) aA))
   (try simp only [Act.put, List.setIfInBounds_toArray, List.set_cons_zero, List.set_cons_succ]); go_cut [7] (fun v7 wc => ∃ (kq : Nat) (dP : Bool) (bN : Int) (bO : Int) (bP : List (S50)) (dC : Value), v7 = .bool dP ∧ Aside0 (spec_HardApply.j1 kq dP aG aW aE bN bO bP = some (r1, r2, r3, r4)) ∧ Aside0 (kq ≤ tU) ∧ Aside0 (Kd.R k50 50 wc w.heap.size (fun _ => True) dC bP) ∧ Aside0 (wc.heap[dM]? = some (.cells #[.int .i64 aG, .int .i64 aW, (.slice cG aE.length cH)] 34 (0, 0))) ∧ Aside0 (wc.heap[dN]? = some (.cells #[.int .i64 cI, .int .i64 bQ, .int .i64 cF, .int .i64 bM, .int .i64 bV, .int .i64 bW, .int .i64 bX, .int .i64 bY, .int .i64 bZ, .string cA] 52 (0, 0))) ∧ Aside0 (wc.heap[cO]? = some (.cells #[.int .i64 cC, .int .i64 cD, (.slice none 0 0)] 34 (0, 0))) ∧ Aside0 (wc.heap[dO]? = some (.cells #[.int .i64 bN, .int .i64 bO, dC] 34 (0, 0))) ∧ Aside0 (Below w.heap.size w wc))
   case first =>
    have H := tD.out; clear tD; replace H := eI_ H; obtain ⟨cV, sJ, H⟩ | ⟨tN, cV, sJ, H⟩ := H
    ·(first | rw [cV] | (simp only [i64_w, i32_w]; rw [cV]) | skip); cases cT; rotate_left
     ·replace H := iT H; replace H := dI_ H; obtain ⟨sK, H⟩ | ⟨sK, H⟩ := H
      ·replace H := aM H; have BL := a6_ aN aK aH aI aY aZ; have kP := xf10 (w := cP) aA; have BR := a4_ aQ aT aU aV; have lK := xf3 (w := cP) aC; have BV := a2_ bB bA; have lQ := xf3 (w := cP) bH; go_wp2; go_meet
       case rel => exact ⟨_, _, _, _, _, _, u14_0, H, ⟨u14_1⟩, ⟨xrm bI (fun _ _ => trivial)⟩, ⟨xB⟩, ⟨xB⟩, ⟨xB⟩, ⟨xP⟩, ⟨xbg⟩⟩
      replace H := eI_ H; obtain ⟨sL, sM, H⟩ | ⟨tO, sL, sM, H⟩ := H
      ·replace H := eI_ H; obtain ⟨sN, sO, H⟩ | ⟨tP, sN, sO, H⟩ := H
       ·replace H := aM H; have BX := a6_ aN aK aH aI aY aZ; have lW := xf10 (w := cP) aA; have CD := a4_ aQ aT aU aV; have mQ := xf3 (w := cP) aC; have CH := a2_ bB bA; have mW := xf3 (w := cP) bH; go_wp2; go_meet
        case rel => exact ⟨_, _, _, _, _, _, u14_0, H, ⟨u14_1⟩, ⟨xrm bI (fun _ _ => trivial)⟩, ⟨xB⟩, ⟨xB⟩, ⟨xB⟩, ⟨xP⟩, ⟨xbg⟩⟩
       replace H := aM H; have CJ := a6_ aN aK aH aI aY aZ; have nC := xf10 (w := cP) aA; have CP := a4_ aQ aT aU aV; have nW := xf3 (w := cP) aC; have CT := a2_ bB bA; have oD := xf3 (w := cP) bH; go_wp2; go_meet
       case rel => exact ⟨_, _, _, _, _, _, u14_0, H, ⟨u14_1⟩, ⟨xrm bI (fun _ _ => trivial)⟩, ⟨xB⟩, ⟨xB⟩, ⟨xB⟩, ⟨xP⟩, ⟨xbg⟩⟩
      replace H := aM H; have CV := a6_ aN aK aH aI aY aZ; have oJ := xf10 (w := cP) aA; have DB := a4_ aQ aT aU aV; have pF := xf3 (w := cP) aC; have DF := a2_ bB bA; have pL := xf3 (w := cP) bH; go_wp2; go_meet
      case rel => exact ⟨_, _, _, _, _, _, u14_0, H, ⟨u14_1⟩, ⟨xrm bI (fun _ _ => trivial)⟩, ⟨xB⟩, ⟨xB⟩, ⟨xB⟩, ⟨xP⟩, ⟨xbg⟩⟩
     replace H := iN H; replace H := aM H; have DH := a6_ aN aK aH aI aY aZ; have pR := xf10 (w := cP) aA; have DN := a4_ aV aU bB bA; have qM := xf3 (w := cP) bH; go_wp2; go_meet
     case rel => exact ⟨_, _, _, _, _, _, u14_0, H, ⟨u14_1⟩, ⟨xrm bI (fun _ _ => trivial)⟩, ⟨xB⟩, ⟨xB⟩, ⟨xB⟩, ⟨xP⟩, ⟨xbg⟩⟩
    (first | rw [cV] | (simp only [i64_w, i32_w]; rw [cV]) | skip); replace H := eI_ H; obtain ⟨sP, sQ, H⟩ | ⟨tQ, sP, sQ, H⟩ := H
    ·cases cT; rotate_left
     ·replace H := iT H; replace H := pN_ H; obtain ⟨tZ, H⟩ := H; have LMc83 := aM tZ; clear tZ; generalize hY : bK ++ [(⟨bV, (⟨bW, bX, bY, bZ, cA⟩ : S48)⟩ : S50)] = tF at H; (try replace H := bS_ H); (try dsimp only at H); have uA := aM hY.symm; clear hY; replace H := aM H; have DR := a6_ aN aK aH aI aY aZ; have qS := xf10 (w := cP) aA; have DX := a4_ aQ aT aU aV; have rM := xf3 (w := cP) aC; have EB := a2_ bB bA; have rS := xf3 (w := cP) bH; go_wp2_with (first | ((with_reducible refine gate_builtin (b := .append) (xs := #[.tmp 66, .tmp 69]) rfl ?_); (try (refine gate_guard (by rfl) ?_; dsimp only)); at_builtin; refine Kd.R_append k50 (w0 := w) w.heap.size rfl (.tmp 66) (.tmp 69) 32 50 (.agg #[(.int .i64 0), (.int .i64 0), (.int .i64 0), (.int .i64 0), (.int .i64 0), (.string ⟨#[]⟩)]) 56 rfl Tryz.underlying32 info50 rfl (by decide) (by omega) (.slice cJ bK.length cK) bK (⟨bV, (⟨bW, bX, bY, bZ, cA⟩ : S48)⟩ : S50) [.int .i64 bV, .int .i64 bW, .int .i64 bX, .int .i64 bY, .int .i64 bZ, .string cA] (fun _ => True) (fun _ => False) rfl rfl ?aP (fun _ hk => hk.elim) ?aF ?aO ?aB ?aS ?aL ?_; (case aP => exact k50_mkM _ _ _ (⟨bV, (⟨bW, bX, bY, bZ, cA⟩ : S48)⟩ : S50)); (case aB => exact xbg); (case aF => exact (fun _ _ => trivial)); (case aO => exact (xr bI)); (case aS => exact (below_size xbg)); (case aL => have := LMc83.out; omega); intro v603 EX ho hb hg hat; rw [← uA.out] at ho; replace aC := aM (blk_grown (g := dM) (o := .cells #[.int .i64 aG, .int .i64 aW, .slice cG aE.length cH] 34 (0, 0)) xblk hg (Kd.R_ne bI.out aC.out (by decide))); replace aA := aM (blk_grown (g := dN) (o := .cells #[.int .i64 cI, .int .i64 bQ, .int .i64 cF, .int .i64 bM, .int .i64 bV, .int .i64 bW, .int .i64 bX, .int .i64 bY, .int .i64 bZ, .string cA] 52 (0, 0)) xblk hg (Kd.R_ne bI.out aA.out (by decide))); replace bG := aM (blk_grown (g := cO) (o := .cells #[.int .i64 cC, .int .i64 cD, .slice none 0 0] 34 (0, 0)) xblk hg (Kd.R_ne bI.out bG.out (by decide))); replace bH := aM (blk_grown (g := dO) (o := .cells #[.int .i64 cM, .int .i64 cN, .slice cJ bK.length cK] 34 (0, 0)) xblk hg (Kd.R_ne bI.out bH.out (by decide))); replace HB := aM (hb); have sR := aM (ho); clear bI; clear ho hb hg hat; obtain ⟨xN, xO, xQ⟩ := Kd.R_slice sR.out; subst xQ; have rY := xf3 (w := EX) bH))
      go_meet
      case rel => exact ⟨_, _, _, _, _, _, u14_0, H, ⟨u14_1⟩, ⟨xrm sR (fun _ _ => trivial)⟩, ⟨xB⟩, ⟨xB⟩, ⟨xB⟩, ⟨xP⟩, ⟨xbg⟩⟩
     replace H := iN H; replace H := pN_ H; obtain ⟨uB, H⟩ := H; have LMc96 := aM uB; clear uB; generalize hY : bK ++ [(⟨bV, (⟨bW, bX, bY, bZ, cA⟩ : S48)⟩ : S50)] = tG at H; (try replace H := bS_ H); (try dsimp only at H); have uC := aM hY.symm; clear hY; replace H := aM H; have ED := a6_ aV aU aZ aY bB bA; have eG := xf3 (w := cP) bH; have xR := a4_ aN aK aH aI; obtain ⟨eM, eN, eO, eP, eQ, eR, eS, eT, eU, eV⟩ := xe10 (w := cP) aA; have eW := blk_frozen aA.out 0; have eX := blk_frozen aA.out 1; have eY := blk_frozen aA.out 2; have eZ := blk_frozen aA.out 3; have fA := blk_frozen aA.out 4; have fB := blk_frozen aA.out 5; have fC := blk_frozen aA.out 6; have fD := blk_frozen aA.out 7; have fE := blk_frozen aA.out 8; have fF := blk_frozen aA.out 9; go_wp2_with (first | ((with_reducible refine gate_builtin (b := .append) (xs := #[.tmp 66, .tmp 69]) rfl ?_); (try (refine gate_guard (by rfl) ?_; dsimp only)); at_builtin; refine Kd.R_append k50 (w0 := w) w.heap.size rfl (.tmp 66) (.tmp 69) 32 50 (.agg #[(.int .i64 0), (.int .i64 0), (.int .i64 0), (.int .i64 0), (.int .i64 0), (.string ⟨#[]⟩)]) 56 rfl Tryz.underlying32 info50 rfl (by decide) (by omega) (.slice cJ bK.length cK) bK (⟨bV, (⟨bW, bX, bY, bZ, cA⟩ : S48)⟩ : S50) [.int .i64 bV, .int .i64 bW, .int .i64 bX, .int .i64 bY, .int .i64 bZ, .string cA] (fun _ => True) (fun _ => False) rfl rfl ?aP (fun _ hk => hk.elim) ?aF ?aO ?aB ?aS ?aL ?_; (case aP => exact k50_mkM _ _ _ (⟨bV, (⟨bW, bX, bY, bZ, cA⟩ : S48)⟩ : S50)); (case aB => exact xbg); (case aF => exact (fun _ _ => trivial)); (case aO => exact (xr bI)); (case aS => exact (below_size xbg)); (case aL => have := LMc96.out; omega); intro v606 xV ho hb hg hat; rw [← uC.out] at ho; replace aC := aM (blk_grown (g := dM) (o := .cells #[.int .i64 aG, .int .i64 aW, .slice cG aE.length cH] 34 (0, 0)) xblk hg (Kd.R_ne bI.out aC.out (by decide))); replace aA := aM (blk_grown (g := dN) (o := .cells #[.int .i64 cI, .int .i64 bQ, .int .i64 cF, .int .i64 bM, .int .i64 bV, .int .i64 bW, .int .i64 bX, .int .i64 bY, .int .i64 bZ, .string cA] 52 (0, 0)) xblk hg (Kd.R_ne bI.out aA.out (by decide))); replace bG := aM (blk_grown (g := cO) (o := .cells #[.int .i64 cC, .int .i64 cD, .slice none 0 0] 34 (0, 0)) xblk hg (Kd.R_ne bI.out bG.out (by decide))); replace bH := aM (blk_grown (g := dO) (o := .cells #[.int .i64 cM, .int .i64 cN, .slice cJ bK.length cK] 34 (0, 0)) xblk hg (Kd.R_ne bI.out bH.out (by decide))); replace HB := aM (hb); have sS := aM (ho); clear bI; clear ho hb hg hat; obtain ⟨uD, uE, uF⟩ := Kd.R_slice sS.out; subst uF; have fG := xf3 (w := xV) bH))
     go_meet
     case rel => exact ⟨_, _, _, _, _, _, u14_0, H, ⟨u14_1⟩, ⟨xrm sS (fun _ _ => trivial)⟩, ⟨xB⟩, ⟨xB⟩, ⟨xB⟩, ⟨xP⟩, ⟨xbg⟩⟩
    replace H := eI_ H; obtain ⟨fM, fN, H⟩ | ⟨eA, fM, fN, H⟩ := H
    ·cases cT; rotate_left
     ·replace H := iT H; replace H := dI_ H; obtain ⟨fP, H⟩ | ⟨fP, H⟩ := H
      ·replace H := pN_ H; obtain ⟨eB, H⟩ := H; have tH := eq_true eB; have tI := decide_eq_true eB; clear eB; replace H := pN_ H; obtain ⟨eC, H⟩ := H; have tJ := eq_true eC; have tL := decide_eq_true eC; clear eC; generalize hY : bK.take (bM : Int).toNat = sE at H; (try replace H := bS_ H); (try dsimp only at H); have sT := aM hY.symm; clear hY; replace H := aM H; have xW := a6_ aN aK aH aI aY aZ; have fQ := xf10 (w := cP) aA; have yC := a4_ aQ aT aU aV; have gM := xf3 (w := cP) aC; have yG := a2_ bB bA; have gS := xf3 (w := cP) bH; have q121 : (bM : Int) ≤ ((bK.length : Int) : Int) := oda; obtain ⟨i0121, hi0121, _, hsz121, _⟩ := info_parts info50; have hcut121 := cut_to (P := Tryz.prog) 32 50 .i64 Tryz.underlying32 hi0121 cJ bK.length cK bM (oda) q121 (Kd.R_reads' bI.out).2.1; have dQ := Kd.R_take (m := (bM : Int).toNat) bI.out (by omega); have hY : sE.length = (bM : Int).toNat := (by rw [sT.out, List.length_take]; omega); rw [← sT.out] at dQ; rw [← hY] at dQ hcut121; clear hY hi0121 hsz121 bI; have uG := aM dQ; clear dQ; replace q121 := eq_true q121; go_wp2; go_meet
       case rel => exact ⟨_, _, _, _, _, _, u14_0, H, ⟨u14_1⟩, ⟨xrm uG (fun _ _ => trivial)⟩, ⟨xB⟩, ⟨xB⟩, ⟨xB⟩, ⟨xP⟩, ⟨xbg⟩⟩
      replace H := aM H; have yI := a6_ aN aK aH aI aY aZ; have gY := xf10 (w := cP) aA; have yO := a4_ aQ aT aU aV; have hT := xf3 (w := cP) aC; go_wp2; go_meet
      case rel => exact ⟨_, _, _, _, _, _, u14_0, H, ⟨u14_1⟩, ⟨u14_5⟩, ⟨xblk⟩, ⟨xblk⟩, ⟨xblk⟩, ⟨xblk⟩, ⟨xbg⟩⟩
     replace H := iN H; replace H := aM H; go_wp2; go_meet
     case rel => exact ⟨_, _, _, _, _, _, u14_0, H, ⟨u14_1⟩, ⟨u14_5⟩, ⟨xblk⟩, ⟨xblk⟩, ⟨xblk⟩, ⟨xblk⟩, ⟨xbg⟩⟩
    replace H := aM H; go_wp2; go_meet
    case rel => exact ⟨_, _, _, _, _, _, u14_0, H, ⟨u14_1⟩, ⟨u14_5⟩, ⟨xblk⟩, ⟨xblk⟩, ⟨xblk⟩, ⟨xblk⟩, ⟨xbg⟩⟩
   case rest =>
    clear tD
    try clear iO iP iQ
    try clear iV iW iX
    try clear jB jC jD jE jF jG jH jI jJ jK
    try clear jV jW jX jY jZ kA kB kC kD kE
    obtain ⟨kq, dP, bN, bO, bP, dC, rfl, HA, HJ17, aD, aC, aA, bG, bH, HB⟩ := hcut; cases kq with
    | zero => exact absurd HA.out (by simp [spec_HardApply.j1])
    | succ uH =>
     have H := HA.out; clear HA; simp only [spec_HardApply.j1] at H; cases dP; rotate_left
     ·replace H := iT H; replace H := oA_ H; obtain ⟨tC, uI, H⟩ := H; (try dsimp only at H)
      cases tC; rotate_left
      ·replace H := iT H; obtain ⟨rfl, rfl, rfl, rfl⟩ := i4_ H; have yS := a6_ aV aU aZ aY bB bA; have uJ := xf3 (w := wc) bH; obtain ⟨uP, uQ, uR⟩ := Kd.R_slice aD.out; subst uR; go_wp2_with (first | (go_at_call 55; (with_reducible refine (spec_HardOk.calls uI.out ?side1 ?side2).mono ?_); (case side1 => exact xC aD); (case side2 => exact (Kd.R_reads' aD.out).2.1); rintro e uS ⟨rfl, hb⟩; replace aD := xrb aD hb; replace aC := xbb aC hb; replace aA := xbb aA hb; replace bG := xbb bG hb; replace bH := xbb bH hb; replace HB := xbs hb; (try clear hb); have uT := xf3 (w := uS) bH; have yY := a4_ aT aQ aI aH; have uZ := xf3 (w := uS) bG))
       refine bodyPost_ret (results_ct rfl _ _ cO 34 #[.int .i64 bN, .int .i64 bO, .slice uP bP.length uQ] (0, 0) _ rfl xP Tryz.underlying34 rfl (by kernel_rfl)) rfl ?_; exact ⟨_, xerr, xrm aD (fun _ _ => trivial), xbg⟩
      replace H := iN H; replace H := oA_ H; obtain ⟨⟨vF, vG, vH⟩, zC, H⟩ := H; (try dsimp only at H); obtain ⟨rfl, rfl, rfl, rfl⟩ := i4_ H; have zD := a6_ aV aU aZ aY bB bA; have vI := xf3 (w := wc) bH; obtain ⟨EJ, EK, vO⟩ := Kd.R_slice aD.out; subst vO; go_wp2_with (first | (go_at_call 55; (with_reducible refine (spec_HardOk.calls uI.out ?side1 ?side2).mono ?_); (case side1 => exact xC aD); (case side2 => exact (Kd.R_reads' aD.out).2.1); rintro e zJ ⟨rfl, hb⟩; replace aD := xrb aD hb; replace aC := xbb aC hb; replace aA := xbb aA hb; replace bG := xbb bG hb; replace bH := xbb bH hb; replace HB := xbs hb; (try clear hb); have zK := a4_ aK aN aQ aT; have vP := xf3 (w := zJ) aC) | (refine gN_ 56 98 rfl rfl ?_; refine c1_ Tryz.func56 (spec_l6Copy.calls zC.out (xcb cU) dF.out) ?_; rintro v615 zO ⟨iA, hb⟩; have sW := aM (Kd.R_lower (Kd.R_new' iA (Kd.R_lt (xr aD))) (below_size xbg)); replace aD := aM (Kd.R_elder' (xr aD) (Kd.R_base iA) hb); replace aC := xbb aC hb; replace aA := xbb aA hb; replace bG := xbb bG hb; replace bH := xbb bH hb; replace HB := xbs hb; (try clear hb iA); have zP := a2_ aI aH; have vV := xf3 (w := zO) bG; obtain ⟨wB, wC, wD⟩ := Kd.R_slice sW.out; subst wD))
      refine bodyPost_ret (results_ct rfl _ _ cO 34 #[.int .i64 vF, .int .i64 vG, .slice wB vH.length wC] (0, 0) _ rfl xP Tryz.underlying34 rfl (by kernel_rfl)) rfl ?_; exact ⟨_, xerr, xrm sW (fun _ _ => trivial), xbg⟩
     replace H := iN H; replace H := oA_ H; obtain ⟨⟨wE, wF, wG⟩, zR, H⟩ := H; (try dsimp only at H); obtain ⟨rfl, rfl, rfl, rfl⟩ := i4_ H; have zS := a6_ aK aN aQ aT aU aV; have wH := xf3 (w := wc) aC; go_wp2_with (first | (refine gN_ 56 98 rfl rfl ?_; refine c1_ Tryz.func56 (spec_l6Copy.calls zR.out (xcb cU) dF.out) ?_; rintro v620 zY ⟨iA, hb⟩; have sY := aM (Kd.R_lower (Kd.R_new' iA (Kd.R_lt (xr aD))) (below_size xbg)); replace aD := aM (Kd.R_elder' (xr aD) (Kd.R_base iA) hb); replace aC := xbb aC hb; replace aA := xbb aA hb; replace bG := xbb bG hb; replace bH := xbb bH hb; replace HB := xbs hb; (try clear hb iA); have zZ := a4_ aI aH bA bB; have wN := xf3 (w := zY) bG; obtain ⟨wT, wU, wV⟩ := Kd.R_slice sY.out; subst wV))
     refine bodyPost_ret (results_ct rfl _ _ cO 34 #[.int .i64 wE, .int .i64 wF, .slice wT wG.length wU] (0, 0) _ rfl xP Tryz.underlying34 rfl (by kernel_rfl)) rfl ?_; exact ⟨_, xerr, xrm sY (fun _ _ => trivial), xbg⟩
end Go.Proofs.YtppfnnpfamkclaaGreat.QFnSaved
