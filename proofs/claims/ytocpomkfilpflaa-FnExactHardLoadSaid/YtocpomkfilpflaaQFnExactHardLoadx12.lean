-- A walk, by a program of this session.
import Derived.Test.YtocpomkfilpflaaQFnExactHardLoadx0
import Derived.Test.YtocpomkfilpflaaQFnExactHardLoadx11
namespace Go.Proofs.Ytocpomkfilpflaa.QFnExactHardLoad
open Go.RowKit Go.Proofs.YtocpomkfilpflaaW.PrintWords Go.Proofs.YtocpomkfilpflaaW.PrintLast Go.Proofs.YtocpomkfilpflaaW.PrintMore
attribute [local go_sem] max2_int min2_int max_two min_two max_three min_three max_four min_four   -- for this text's walks alone
set_option linter.unusedVariables false
set_option linter.unusedSimpArgs false

theorem u12_0 {p : Prop} (h : p := by first | rfl | (simp; done) | (simp [*]; done)) : p := h
theorem u12_1 {p : Prop} (h : p := by repeat (first | exact Drawn0.refl _ | apply Drawn0.step)) : p := h
theorem u12_2 {p : Prop} (h : p := by first | rfl | (simp; done) | (simp only [← hji7, ← hji10, ← hji12] <;> (first | rfl | simp)) | (simp [*]; done)) : p := h
theorem u12_3 {p : Prop} (h : p := by repeat (first | exact HI.out | apply IsRd.set1 | apply IsRd.set2 | apply IsRd.drewN | apply IsRd.drew)) : p := h
theorem u12_4 {p : Prop} (h : p := by repeat (first | exact KeepBut.refl _ _ _ | apply KeepBut.set_ | apply keep_drewN | apply keep_drew)) : p := h
theorem u12_5 {p : Prop} (h : p := by first | exact Kd.R_nil _ _ _ _ _ | exact Kd.N_nil _ _ _ _ _ | exact Kd.V_nil _ _ _ _ _ | exact Kd.Q_nil _ _ _ _ _ | exact Kd.S_nil _ _ _ _ _) : p := h
/-! ### impl_HardOf: function 8 -/
mutual
def impl_HardOf.j0 : Nat → List (S38) → Int → Int → Option (Int × Int × (List (S36)) × Int)
 | 0, _, _, _ => none
 | k + 1, x0, aL, aN => impl_HardOf.l0 k x0 x0 (x0.length : Int) 0 aL aN ([] : List (S36))
def impl_HardOf.l0 : Nat → List (S38) → List (S38) → Int → Int → Int → Int → List (S36) → Option (Int × Int × (List (S36)) × Int)
 | 0, _, _, _, _, _, _, _ => none
 | k + 1, x0, dB, gY, bX, aL, aN, aV => if bX < gY then (impl_HardOf.j2 k x0 dB gY bX aL aN aV) else (some (aL, aN, aV, (x0.length : Int)))
def impl_HardOf.j2 : Nat → List (S38) → List (S38) → Int → Int → Int → Int → List (S36) → Option (Int × Int × (List (S36)) × Int)
 | 0, _, _, _, _, _, _, _ => none
 | k + 1, x0, dB, gY, bX, aL, aN, aV => if 0 ≤ bX then (if bX < (dB.length : Int) then ((impl_HardApply.f k aL aN aV ((rd_T38 dB bX).f0) ((rd_T38 dB bX).f1) ((rd_T38 dB bX).f2) ((rd_T38 dB bX).f3) ((rd_T38 dB bX).f4.f0) ((rd_T38 dB bX).f4.f1.f0) ((rd_T38 dB bX).f4.f1.f1) ((rd_T38 dB bX).f4.f1.f2) ((rd_T38 dB bX).f4.f1.f3) ((rd_T38 dB bX).f4.f1.f4)).bind fun dE => (if dE.2.2.2 = true then (impl_HardOf.j3 k x0 dB gY bX dE.1 dE.2.1 dE.2.2.1) else (some (aL, aN, aV, bX)))) else (none)) else (none)
def impl_HardOf.j3 : Nat → List (S38) → List (S38) → Int → Int → Int → Int → List (S36) → Option (Int × Int × (List (S36)) × Int)
 | 0, _, _, _, _, _, _, _ => none
 | k + 1, x0, dB, gY, bX, eA, eB, eC => impl_HardOf.l0 k x0 dB gY (wrap64 (bX + 1)) eA eB eC
end
def impl_HardOf.f (k : Nat) (l0 : List (S38)) : Option (Int × Int × (List (S36)) × Int) := if (l0.length : Int) > 2000 then (some (0, 0, ([] : List (S36)), 0)) else (impl_HardOf.j0 k l0 0 0)
theorem u12_mq0 {p : Prop} (h : p := by repeat' first | (with_reducible first | exact gT _ _ _ | exact gU _ _ _ _ _ _ _ | exact jB _ _ _ _ _ _ _ | exact jC _ _ _ _ _ _ _ | exact impl_HardApply.mono _ _ _ _ _ _ _ _ _ _ _ _ _ _ | exact LeO.refl _ | exact LeO.none _ | refine LeO.ite ?_ ?_ | refine LeO.bind ?_ (fun _ => ?_)) | exact gT _ _ _ | exact gU _ _ _ _ _ _ _ | exact jB _ _ _ _ _ _ _ | exact jC _ _ _ _ _ _ _ | exact impl_HardApply.mono _ _ _ _ _ _ _ _ _ _ _ _ _ _ | exact LeO.none _ | refine LeO.ite ?_ ?_ | refine LeO.bind ?_ (fun _ => ?_)) : p := h
set_option maxRecDepth 100000 in
theorem impl_HardOf.mono_l : ∀ k, (∀ y0 y1 y2, LeO (impl_HardOf.j0 k y0 y1 y2) (impl_HardOf.j0 (k + 1) y0 y1 y2)) ∧ (∀ y0 y1 y2 y3 y4 y5 y6, LeO (impl_HardOf.l0 k y0 y1 y2 y3 y4 y5 y6) (impl_HardOf.l0 (k + 1) y0 y1 y2 y3 y4 y5 y6)) ∧ (∀ y0 y1 y2 y3 y4 y5 y6, LeO (impl_HardOf.j2 k y0 y1 y2 y3 y4 y5 y6) (impl_HardOf.j2 (k + 1) y0 y1 y2 y3 y4 y5 y6)) ∧ (∀ y0 y1 y2 y3 y4 y5 y6, LeO (impl_HardOf.j3 k y0 y1 y2 y3 y4 y5 y6) (impl_HardOf.j3 (k + 1) y0 y1 y2 y3 y4 y5 y6))
 | 0 => ⟨fun _ _ _ r h => by simp [impl_HardOf.j0] at h, fun _ _ _ _ _ _ _ r h => by simp [impl_HardOf.l0] at h, fun _ _ _ _ _ _ _ r h => by simp [impl_HardOf.j2] at h, fun _ _ _ _ _ _ _ r h => by simp [impl_HardOf.j3] at h⟩
 | k + 1 => by
  obtain ⟨gT, gU, jB, jC⟩ := impl_HardOf.mono_l k; refine ⟨?_, ?_, ?_, ?_⟩
  ·intro y0 y1 y2; unfold impl_HardOf.j0; exact u12_mq0
  ·intro y0 y1 y2 y3 y4 y5 y6; unfold impl_HardOf.l0; exact u12_mq0
  ·intro y0 y1 y2 y3 y4 y5 y6; unfold impl_HardOf.j2; exact u12_mq0
  ·intro y0 y1 y2 y3 y4 y5 y6; unfold impl_HardOf.j3; exact u12_mq0
theorem impl_HardOf.mono : ∀ a0 k, LeO (impl_HardOf.f k a0) (impl_HardOf.f (k + 1) a0) := by
 intro a0 k
 obtain ⟨gT, gU, jB, jC⟩ := impl_HardOf.mono_l k
 unfold impl_HardOf.f
 exact u12_mq0
set_option maxHeartbeats 8000000 in
set_option maxRecDepth 100000 in
theorem impl_HardOf.calls (k : Nat) (A0 : Option Addr) (c0 : Nat) (l0 : List (S38)) (r1 : Int) (r2 : Int) (r3 : List (S36)) (r4 : Int) (w : World) (hJ : Kd.C k38 w A0 l0.length l0) (eD : l0.length ≤ c0) (h : impl_HardOf.f k l0 = some (r1, r2, r3, r4)) :
 Calls Try.prog 8 #[.slice A0 l0.length c0] w fun e w' => ∃ v2_ : Value, e = .returned (.tuple #[.agg #[.int .i64 r1, .int .i64 r2, v2_], .int .i64 r4]) ∧ Kd.R k36 36 w' w.heap.size (fun _ => True) v2_ r3 ∧ Below w.heap.size w w' := by
 have lP := Try.underlying28
 have lQ := Try.underlying38
 have gZ := aM hJ
 have lR := aM eD
 clear hJ eD
 have HB := aM (Below.refl w.heap.size w)
 have H : (if (l0.length : Int) > 2000 then (some (0, 0, ([] : List (S36)), 0)) else (impl_HardOf.j0 k l0 0 0)) = some (r1, r2, r3, r4) := h
 clear h
 have jD := aM H
 clear H
 go_enter Try.func8, Try.ntmps8
 go_upto_if 12 with (first | ((with_reducible refine gD 2 rfl ?_); refine boxE (N := 2) rfl (cs := #[.int .i64 0, .int .i64 0, .slice none 0 0]) (t := 28) ?_; intro aK hg w3 hbox hb; have aF := aM (hbox); have jO := aM (xge hg); have jP := aM (xge hg); replace HB := xbs hb; clear hb hbox hg) | ((with_reducible refine gD 4 rfl ?_); refine boxE (N := 4) rfl (cs := #[.int .i64 0, .int .i64 0, .slice none 0 0]) (t := 28) ?_; intro bJ hg w4 hbox hb; have jQ := aM (xge hg); have jR := aM (xge hg); replace HB := xbs hb; have aI := nblt aF hg; have aJ := nbgt aF hg; replace aF := xbb aF hb; have aG := aM (hbox); clear hb hbox hg; have lS := aJ.out; have lT := aI.out; obtain ⟨bY, bZ, cA, cB, cC, cD⟩ := xf3 (w := w4) aG))
 (try simp only [Act.put, List.setIfInBounds_toArray, List.set_cons_zero, List.set_cons_succ])
 go_cut [] (fun wc => ∃ (kq : Nat) (aY : Int) (aZ : Int), Aside0 (impl_HardOf.j0 kq l0 0 0 = some (r1, r2, r3, r4)) ∧ Aside0 (kq ≤ k) ∧ Aside0 (wc.heap[aK]? = some (.cells #[.int .i64 aY, .int .i64 aZ, (.slice none 0 0)] 28 (0, 0))) ∧ Aside0 (wc.heap[bJ]? = some (.cells #[.int .i64 0, .int .i64 0, (.slice none 0 0)] 28 (0, 0))) ∧ Aside0 (Below w.heap.size w wc))
 case first =>
  have H := jD.out; clear jD; by_cases c7 : (l0.length : Int) > 2000
  ·rw [if_pos c7] at H; have cE : decide (2000 < (l0.length : Int)) = true := decide_eq_true c7; have dY : decide (2000 < l0.length) = true := decide_eq_true (by omega); clear c7; (first | rw [cE] | (simp only [i64_w, i32_w]; rw [cE]) | skip); simp only [Option.some.injEq, Prod.mk.injEq] at H; obtain ⟨rfl, rfl, rfl, rfl⟩ := H; have lU := aJ.out; have lV := aI.out; obtain ⟨cF, cG, cH, cI, cJ, cK⟩ := xf3 (w := w4) aG; obtain ⟨bK, bL, bM, bN, bO, bP⟩ := xf3 (w := w4) aF; go_wp2_with (first | ((with_reducible refine gate_store (t := 28) (p := 2) rfl ?_); refine store_event (t := 28) (p := 2) (v := ?vo_w11) (w1 := ((((((w4.setCell ⟨bJ, 0, none⟩ (.int .i64 0)).setCell ⟨bJ, 1, none⟩ (.int .i64 0)).setCell ⟨bJ, 2, none⟩ (.slice none 0 0)).setCell ⟨aK, 0, none⟩ (.int .i64 0)).setCell ⟨aK, 1, none⟩ (.int .i64 0)).setCell ⟨aK, 2, none⟩ (.slice none 0 0))) ?hg ?ho ?hn ?hr ?_; (case ho | hg | hn => rfl); (case hr => first | (go_simp; done) | (go_simp; rfl)); intro jS hw; replace aF : Aside0 (jS.heap[aK]? = some (.cells #[.int .i64 0, .int .i64 0, .slice none 0 0] 28 (0, 0))) := xwp hw; replace aG : Aside0 (jS.heap[bJ]? = some (.cells #[.int .i64 0, .int .i64 0, .slice none 0 0] 28 (0, 0))) := xwp hw; replace HB := xbw hw HB; clear hw))
   refine bodyPost_ret (results_ct rfl _ _ aK 28 #[.int .i64 0, .int .i64 0, .slice none 0 0] (0, 0) _ rfl xblk Try.underlying28 rfl (by kernel_rfl)) rfl ?_; exact ⟨_, xerr, u12_5, xbg⟩
  ·rw [if_neg c7] at H; have cE : decide (2000 < (l0.length : Int)) = false := decide_eq_false c7; have dY : decide (2000 < l0.length) = false := decide_eq_false (by omega); clear c7; (first | rw [cE] | (simp only [i64_w, i32_w]; rw [cE]) | skip); have H' := aM H; clear H; go_wp2; go_meet
   case rel => exact ⟨_, (0), (0), H', ⟨by first | omega | exact Nat.le_refl _⟩, ⟨xB⟩, ⟨xP⟩, ⟨xbg⟩⟩
 case rest =>
  clear jD; try clear p2
  try clear c5
  try clear c7
  try clear cE
  try clear dY
  try clear c8
  try clear bK bL bM
  try clear bY bZ cA
  try clear cF cG cH
  try clear bN bO bP
  try clear cB cC cD
  try clear cI cJ cK
  obtain ⟨kq, aY, aZ, HA, HJ1, aF, aG, HB⟩ := hcut; cases kq with
  | zero => exact absurd HA.out (by simp [impl_HardOf.j0])
  | succ jT =>
   have H := HA.out; clear HA; simp only [impl_HardOf.j0] at H; have H' := aM H; clear H; go_wp2; go_loopg [16] jT (fun kq lW w' => ∃ (aA : Int) (aQ : Int) (aR : Int) (aD : Int) (aE : Int) (aC : List (S36)) (aS : Value), lW = .int .i64 aA ∧ Aside0 (impl_HardOf.l0 kq l0 l0 (l0.length : Int) aA aD aE aC = some (r1, r2, r3, r4)) ∧ Aside0 (kq ≤ jT) ∧ Aside0 (Kd.R k36 36 w' w.heap.size (fun _ => True) aS aC) ∧ Aside0 (w'.heap[aK]? = some (.cells #[.int .i64 aQ, .int .i64 aR, (.slice none 0 0)] 28 (0, 0))) ∧ Aside0 (w'.heap[bJ]? = some (.cells #[.int .i64 aD, .int .i64 aE, aS] 28 (0, 0))) ∧ Aside0 (Below w.heap.size w w'))
   case atStart => exact ⟨(0), (aY), (aZ), (0), (0), (([] : List (S36))), (.slice none 0 0), u12_0, H', ⟨Nat.le_refl _⟩, ⟨u12_5⟩, ⟨xblk⟩, ⟨xblk⟩, ⟨xbg⟩⟩
   case round =>
    clear H'; try clear p2
    try clear c5
    try clear c7
    try clear cE
    try clear dY
    try clear c8
    try clear bK bL bM
    try clear bY bZ cA
    try clear cF cG cH
    try clear bN bO bP
    try clear cB cC cD
    try clear cI cJ cK
    try clear p2
    obtain ⟨aA, aQ, aR, aD, aE, aC, aS, rfl, HA, HK2, aB, aF, aG, HB⟩ := hrel; cases gk with
    | zero => exact absurd HA.out (by simp [impl_HardOf.l0])
    | succ k2 =>
     have H := HA.out; clear HA; simp only [impl_HardOf.l0] at H; have gV := aM H; clear H; go_upto_if 17 with (fail)
     go_cut [] (fun wc => ∃ (kq : Nat), Aside0 (impl_HardOf.j2 kq l0 l0 (l0.length : Int) aA aD aE aC = some (r1, r2, r3, r4)) ∧ Aside0 (kq ≤ k2) ∧ Aside0 (Kd.R k36 36 wc w.heap.size (fun _ => True) aS aC) ∧ Aside0 (wc.heap[aK]? = some (.cells #[.int .i64 aQ, .int .i64 aR, (.slice none 0 0)] 28 (0, 0))) ∧ Aside0 (wc.heap[bJ]? = some (.cells #[.int .i64 aD, .int .i64 aE, aS] 28 (0, 0))) ∧ Aside0 (Below w.heap.size w wc))
     case first =>
      have H := gV.out; clear gV; by_cases dC : aA < (l0.length : Int)
      ·rw [if_pos dC] at H; have aW : decide (aA < (l0.length : Int)) = true := decide_eq_true dC; clear dC; (first | rw [aW] | (simp only [i64_w, i32_w]; rw [aW]) | skip); have H' := aM H; clear H; go_wp2; go_meet
       case rel => exact ⟨_, H', ⟨by have := HJ1.out; have := HK2.out; first | omega | exact Nat.le_refl _⟩, ⟨by (with_reducible repeat (first | apply Kd.R_alloc | apply Kd.R_drewN | apply Kd.R_drew)); exact aB.out⟩, ⟨xblk⟩, ⟨xblk⟩, ⟨xbg⟩⟩
      ·rw [if_neg dC] at H; have aW : decide (aA < (l0.length : Int)) = false := decide_eq_false dC; clear dC; (first | rw [aW] | (simp only [i64_w, i32_w]; rw [aW]) | skip); simp only [Option.some.injEq, Prod.mk.injEq] at H; obtain ⟨rfl, rfl, rfl, rfl⟩ := H; have jU := aJ.out; have jV := aI.out; obtain ⟨dF, dG, dH, dI, dJ, dK⟩ := xf3 (w := wr) aG; obtain ⟨dL, dM, dN, dO, dP, dQ⟩ := xf3 (w := wr) aF; obtain ⟨jE, jF, jG⟩ := Kd.R_slice aB.out; subst jG; go_wp2; refine bodyPost_ret (results_ct rfl _ _ aK 28 #[.int .i64 aD, .int .i64 aE, .slice jE aC.length jF] (0, 0) _ rfl xP Try.underlying28 rfl (by kernel_rfl)) rfl ?_; exact ⟨_, xerr, xrm aB (fun _ _ => trivial), xbg⟩
     case rest =>
      clear gV; try clear c1
      try clear p2
      try clear c5
      try clear c7
      try clear cE
      try clear dY
      try clear c8
      try clear dC
      try clear aW
      try clear gS
      try clear bK bL bM
      try clear dF dG dH
      try clear dL dM dN
      try clear bY bZ cA
      try clear cF cG cH
      try clear bN bO bP
      try clear dI dJ dK
      try clear dO dP dQ
      try clear cB cC cD
      try clear cI cJ cK
      try clear p2
      obtain ⟨kq, HA, HJ11, aB, aF, aG, HB⟩ := hcut; cases kq with
      | zero => exact absurd HA.out (by simp [impl_HardOf.j2])
      | succ hU =>
       have H := HA.out; clear HA; simp only [impl_HardOf.j2] at H; by_cases hX : 0 ≤ aA
       ·rw [if_pos hX] at H; have hY : decide (0 ≤ aA) = true := decide_eq_true hX; clear hX; by_cases hZ : aA < (l0.length : Int)
        ·rw [if_pos hZ] at H; have iA : decide (aA < (l0.length : Int)) = true := decide_eq_true hZ; clear hZ; replace H := oB H; obtain ⟨⟨dU, dV, bA, iB⟩, iC, H⟩ := H; (try dsimp only at H); have lX := aM iC; clear iC; have gW := aM H; clear H; have p367 : 0 ≤ (aA : Int) := oda; have q367 : aA < (l0.length : Int) := oda
         obtain ⟨jW, jH, cL, cM, cN, cO, cP, cQ, cR, cS, cT, cU⟩ := at_T38 gZ.out aA p367 q367; cases jH
         replace cL := xce HB cL; replace cM := xce HB cM; replace cN := xce HB cN; replace cO := xce HB cO; replace cP := xce HB cP; replace cQ := xce HB cQ; replace cR := xce HB cR; replace cS := xce HB cS; replace cT := xce HB cT; replace cU := xce HB cU; replace p367 := eq_true p367; replace q367 := eq_true q367
         go_upto_if 28 with (first | ((with_reducible refine gD 6 rfl ?_); refine boxE (N := 6) rfl (cs := #[.int .i64 0, .int .i64 0, .int .i64 0, .int .i64 0, .int .i64 0, .int .i64 0, .int .i64 0, .int .i64 0, .int .i64 0, .string (⟨#[]⟩ : ByteArray)]) (t := 38) ?_; intro aO hg jX hbox hb; replace aB := xrb aB hb; have jY := aM (xge hg); have jZ := aM (xge hg); replace HB := xbs hb; have bQ := nblt aF hg; have bR := nbgt aF hg; have bB := nblt aG hg; have bC := nbgt aG hg; replace aF := xbb aF hb; replace aG := xbb aG hb; have aP := aM (hbox); clear hb hbox hg; have kA := bR.out; have kB := bQ.out; have kC := bC.out; have kE := bB.out; obtain ⟨eE, eF, eG, eH, eI, eJ, eK, eL, eM, eN, eO, eP, eQ, eR, eS, eT, eU, eV, eW, eX⟩ := xf10 (w := jX) aP) | ((with_reducible refine gate_store (t := 38) (p := 6) rfl ?_); refine store_event (t := 38) (p := 6) (v := ?vo_w26) (w1 := ((((((((((jX.setCell ⟨aO, 0, none⟩ (.int .i64 ((rd_T38 l0 aA).f0))).setCell ⟨aO, 1, none⟩ (.int .i64 ((rd_T38 l0 aA).f1))).setCell ⟨aO, 2, none⟩ (.int .i64 ((rd_T38 l0 aA).f2))).setCell ⟨aO, 3, none⟩ (.int .i64 ((rd_T38 l0 aA).f3))).setCell ⟨aO, 4, none⟩ (.int .i64 ((rd_T38 l0 aA).f4.f0))).setCell ⟨aO, 5, none⟩ (.int .i64 ((rd_T38 l0 aA).f4.f1.f0))).setCell ⟨aO, 6, none⟩ (.int .i64 ((rd_T38 l0 aA).f4.f1.f1))).setCell ⟨aO, 7, none⟩ (.int .i64 ((rd_T38 l0 aA).f4.f1.f2))).setCell ⟨aO, 8, none⟩ (.int .i64 ((rd_T38 l0 aA).f4.f1.f3))).setCell ⟨aO, 9, none⟩ (.string ((rd_T38 l0 aA).f4.f1.f4)))) ?hg ?ho ?hn ?hr ?_; (case ho | hg | hn => rfl); (case hr => first | (go_simp; done) | (go_simp; rfl)); intro iJ hw; replace aB : Aside0 (Kd.R k36 36 iJ w.heap.size (fun _ => True) aS aC) := xwm hw aB (fun _ _ => trivial); replace aF := xwc hw aF; replace aG := xwc hw aG; replace aP : Aside0 (iJ.heap[aO]? = some (.cells #[.int .i64 ((rd_T38 l0 aA).f0), .int .i64 ((rd_T38 l0 aA).f1), .int .i64 ((rd_T38 l0 aA).f2), .int .i64 ((rd_T38 l0 aA).f3), .int .i64 ((rd_T38 l0 aA).f4.f0), .int .i64 ((rd_T38 l0 aA).f4.f1.f0), .int .i64 ((rd_T38 l0 aA).f4.f1.f1), .int .i64 ((rd_T38 l0 aA).f4.f1.f2), .int .i64 ((rd_T38 l0 aA).f4.f1.f3), .string ((rd_T38 l0 aA).f4.f1.f4)] 38 (0, 0))) := xwp hw; replace HB := xbw hw HB; clear hw; have kF := aJ.out; have kG := aI.out; obtain ⟨eY, eZ, fA, fB, fC, fD⟩ := xf3 (w := iJ) aG; obtain ⟨fE, fF, fG, fH, fI, fJ, fK, fL, fM, fN, fO, fP, fQ, fR, fS, fT, fU, fV, fW, fX⟩ := xf10 (w := iJ) aP; obtain ⟨cV, cW, jI⟩ := Kd.R_slice aB.out; subst jI) | ((with_reducible refine gC 10 rfl ?_); refine goesLY (some 24) rfl Try.func10 #[.agg #[.int .i64 aD, .int .i64 aE, .slice cV aC.length cW], .agg #[.int .i64 ((rd_T38 l0 aA).f0), .int .i64 ((rd_T38 l0 aA).f1), .int .i64 ((rd_T38 l0 aA).f2), .int .i64 ((rd_T38 l0 aA).f3), .int .i64 ((rd_T38 l0 aA).f4.f0), .int .i64 ((rd_T38 l0 aA).f4.f1.f0), .int .i64 ((rd_T38 l0 aA).f4.f1.f1), .int .i64 ((rd_T38 l0 aA).f4.f1.f2), .int .i64 ((rd_T38 l0 aA).f4.f1.f3), .string ((rd_T38 l0 aA).f4.f1.f4)]] ?_; (with_reducible refine (impl_HardApply.calls hU aD aE _ _ aC ((rd_T38 l0 aA).f0) ((rd_T38 l0 aA).f1) ((rd_T38 l0 aA).f2) ((rd_T38 l0 aA).f3) ((rd_T38 l0 aA).f4.f0) ((rd_T38 l0 aA).f4.f1.f0) ((rd_T38 l0 aA).f4.f1.f1) ((rd_T38 l0 aA).f4.f1.f2) ((rd_T38 l0 aA).f4.f1.f3) ((rd_T38 l0 aA).f4.f1.f4) dU dV bA iB _ ?side1 ?side2 lX.out).mono ?_); (case side1 => exact xC aB); (case side2 => exact (Kd.R_reads' aB.out).2.1); rintro e mE ⟨lY, rfl, jJ, hb⟩; refine ⟨_, rfl, ?_⟩; have bU := aM (Kd.R_lower (Kd.R_new' jJ (Kd.R_lt (xr aB))) (below_size xbg)); replace aB := aM (Kd.R_elder' (xr aB) (Kd.R_base jJ) hb); replace aF := xbb aF hb; replace aG := xbb aG hb; replace aP := xbb aP hb; replace HB := xbs hb; (try clear hb jJ)) | ((with_reducible refine gD 7 rfl ?_); refine boxE (N := 7) rfl (cs := #[.int .i64 0, .int .i64 0, .slice none 0 0]) (t := 28) ?_; intro cY hg iK hbox hb; replace aB := xrb aB hb; replace bU := xrb bU hb; have kH := aM (xge hg); have kI := aM (xge hg); replace HB := xbs hb; have bE := nblt aF hg; have bG := nbgt aF hg; have bH := nblt aG hg; have bI := nbgt aG hg; have bV := nblt aP hg; have bW := nbgt aP hg; replace aF := xbb aF hb; replace aG := xbb aG hb; replace aP := xbb aP hb; have dR := aM (hbox); clear hb hbox hg; have kJ := bG.out; have kK := bE.out; have kL := bI.out; have kM := bH.out; have kN := bW.out; have kO := bV.out; obtain ⟨fY, fZ, gA, gB, gE, gF⟩ := xf3 (w := iK) dR; obtain ⟨cZ, dA, jK⟩ := Kd.R_slice bU.out; subst jK))
         (try simp only [Act.put, List.setIfInBounds_toArray, List.set_cons_zero, List.set_cons_succ]); go_cut [] (fun wc => ∃ (kq : Nat) (aT : Int) (aU : Int), Aside0 (impl_HardOf.j3 kq l0 l0 (l0.length : Int) aA dU dV bA = some (r1, r2, r3, r4)) ∧ Aside0 (kq ≤ hU) ∧ Aside0 (Kd.R k36 36 wc w.heap.size (fun k_ => some k_ ≠ ((.slice cZ bA.length dA) : Value).ownBlock) (.slice cV aC.length cW) aC) ∧ Aside0 (Kd.R k36 36 wc w.heap.size (fun k_ => some k_ ≠ ((.slice cV aC.length cW) : Value).ownBlock) (.slice cZ bA.length dA) bA) ∧ Aside0 (wc.heap[aK]? = some (.cells #[.int .i64 aT, .int .i64 aU, (.slice none 0 0)] 28 (0, 0))) ∧ Aside0 (wc.heap[bJ]? = some (.cells #[.int .i64 aD, .int .i64 aE, (.slice cV aC.length cW)] 28 (0, 0))) ∧ Aside0 (wc.heap[aO]? = some (.cells #[.int .i64 ((rd_T38 l0 aA).f0), .int .i64 ((rd_T38 l0 aA).f1), .int .i64 ((rd_T38 l0 aA).f2), .int .i64 ((rd_T38 l0 aA).f3), .int .i64 ((rd_T38 l0 aA).f4.f0), .int .i64 ((rd_T38 l0 aA).f4.f1.f0), .int .i64 ((rd_T38 l0 aA).f4.f1.f1), .int .i64 ((rd_T38 l0 aA).f4.f1.f2), .int .i64 ((rd_T38 l0 aA).f4.f1.f3), .string ((rd_T38 l0 aA).f4.f1.f4)] 38 (0, 0))) ∧ Aside0 (wc.heap[cY]? = some (.cells #[.int .i64 dU, .int .i64 dV, (.slice cZ bA.length dA)] 28 (0, 0))) ∧ Aside0 (Below w.heap.size w wc))
         case first =>
          have H := gW.out; clear gW; by_cases iD : iB = true
          ·subst iD; replace H := iT H; have H' := aM H; clear H; go_wp2; go_meet
           case rel => exact ⟨_, (aQ), (aR), H', ⟨by have := HJ1.out; have := HK2.out; have := HJ11.out; first | omega | exact Nat.le_refl _⟩, ⟨xrm aB (fun _ hk => hk.2)⟩, ⟨xrm bU (fun _ hk => hk.2)⟩, ⟨xB⟩, ⟨xB⟩, ⟨xB⟩, ⟨xP⟩, ⟨xbg⟩⟩
          ·replace iD := Bool.eq_false_iff.mpr iD; subst iD; replace H := iN H; simp only [Option.some.injEq, Prod.mk.injEq] at H; obtain ⟨rfl, rfl, rfl, rfl⟩ := H; have kP := aJ.out; have kQ := aI.out; have kR := bB.out; have kS := bC.out; have kT := bH.out; have kU := bI.out; obtain ⟨gG, gH, gI, gJ, gK, gL⟩ := xf3 (w := iK) aG; have kV := bQ.out; have kW := bR.out; have kX := bE.out; have kY := bG.out; obtain ⟨gM, gN, gO, gP, gQ, gR⟩ := xf3 (w := iK) aF; go_wp2_with (first | ((with_reducible refine gate_store (t := 28) (p := 2) rfl ?_); refine store_event (t := 28) (p := 2) (v := ?vo_w46) (w1 := ((((((iK.setCell ⟨cY, 0, none⟩ (.int .i64 dU)).setCell ⟨cY, 1, none⟩ (.int .i64 dV)).setCell ⟨cY, 2, none⟩ (.slice cZ bA.length dA)).setCell ⟨aK, 0, none⟩ (.int .i64 aD)).setCell ⟨aK, 1, none⟩ (.int .i64 aE)).setCell ⟨aK, 2, none⟩ (.slice cV aC.length cW))) ?hg ?ho ?hn ?hr ?_; (case ho | hg | hn => rfl); (case hr => first | (go_simp; done) | (go_simp; rfl)); intro iL hw; replace aB : Aside0 (Kd.R k36 36 iL w.heap.size (fun k_ => some k_ ≠ (.slice cZ bA.length dA : Value).ownBlock) (.slice cV aC.length cW) aC) := xwm hw aB (fun _ hk => hk.2); replace bU : Aside0 (Kd.R k36 36 iL w.heap.size (fun k_ => some k_ ≠ (.slice cV aC.length cW : Value).ownBlock) (.slice cZ bA.length dA) bA) := xwm hw bU (fun _ hk => hk.2); replace aF : Aside0 (iL.heap[aK]? = some (.cells #[.int .i64 aD, .int .i64 aE, .slice cV aC.length cW] 28 (0, 0))) := xwp hw; replace aG := xwc hw aG; replace aP := xwc hw aP; replace dR : Aside0 (iL.heap[cY]? = some (.cells #[.int .i64 dU, .int .i64 dV, .slice cZ bA.length dA] 28 (0, 0))) := xwp hw; replace HB := xbw hw HB; clear hw))
           refine bodyPost_ret (results_ct rfl _ _ aK 28 #[.int .i64 aD, .int .i64 aE, .slice cV aC.length cW] (0, 0) _ rfl xblk Try.underlying28 rfl (by kernel_rfl)) rfl ?_; exact ⟨_, xerr, by (with_reducible repeat (first | apply Kd.R_alloc | apply Kd.R_drewN | apply Kd.R_drew)); exact Kd.R_mono aB.out (fun _ hk => trivial), xbg⟩
         case rest =>
          clear gW; try clear c1
          try clear c2
          try clear p2
          try clear c3
          try clear p3
          try clear q3
          try clear mF
          try clear c4
          try clear c5
          try clear c7
          try clear cE
          try clear dY
          try clear c8
          try clear c10
          try clear dC
          try clear aW
          try clear gS
          try clear hX
          try clear hY
          try clear hZ
          try clear iA
          try clear mG
          try clear mH
          try clear mI
          try clear mJ
          try clear mK
          try clear mL
          try clear p36
          try clear q36
          try clear lZ
          try clear iD
          try clear mM
          try clear mN
          try clear mO
          try clear mP
          try clear mQ
          try clear bK bL bM
          try clear dF dG dH
          try clear dL dM dN
          try clear eE eF eG eH eI eJ eK eL eM eN
          try clear eY eZ fA
          try clear fE fF fG fH fI fJ fK fL fM fN
          try clear fY fZ gA
          try clear gG gH gI
          try clear gM gN gO
          try clear bY bZ cA
          try clear cF cG cH
          try clear bN bO bP
          try clear dI dJ dK
          try clear dO dP dQ
          try clear eO eP eQ eR eS eT eU eV eW eX
          try clear fB fC fD
          try clear fO fP fQ fR fS fT fU fV fW fX
          try clear gB gE gF
          try clear gJ gK gL
          try clear gP gQ gR
          try clear cB cC cD
          try clear cI cJ cK
          try clear cL
          try clear cM
          try clear cN
          try clear cO
          try clear cP
          try clear cQ
          try clear cR
          try clear cS
          try clear cT
          try clear cU
          try clear p2
          try clear p367
          try clear q367
          obtain ⟨kq, aT, aU, HA, HJ20, aB, dW, aF, aG, aP, dR, HB⟩ := hcut; cases kq with
          | zero => exact absurd HA.out (by simp [impl_HardOf.j3])
          | succ jL =>
           have H := HA.out; clear HA; simp only [impl_HardOf.j3] at H; have H' := aM H; clear H; have kZ := bG.out; have lA := bE.out; have lB := bI.out; have lC := bH.out; have lE := bW.out; have lF := bV.out; obtain ⟨iM, iO, iP, iQ, iR, iS⟩ := xf3 (w := wc) dR; have lG := aJ.out; have lH := aI.out; have lI := bB.out; have lJ := bC.out; obtain ⟨iU, iV, iW, iX, iY, iZ⟩ := xf3 (w := wc) aG; go_wp2; go_roundg jL
           case measure => have := HJ1.out; have := HK2.out; have := HJ11.out; have := HJ20.out; omega
           case rel => exact ⟨(wrap64 (aA + 1)), (aT), (aU), (dU), (dV), (bA), (.slice cZ bA.length dA), u12_0, H', ⟨by have := HJ1.out; have := HK2.out; have := HJ11.out; have := HJ20.out; omega⟩, ⟨xrm dW (fun _ _ => trivial)⟩, ⟨xB⟩, ⟨xP⟩, ⟨xbg⟩⟩
        ·rw [if_neg hZ] at H; exact absurd H (by simp)
       ·rw [if_neg hX] at H; exact absurd H (by simp)

/-! ### impl_GetNum: function 75 -/
mutual
def impl_GetNum.l0 : Nat → List Int → Int → Int → Int → Option (Int × Int × Bool)
 | 0, _, _, _, _ => none
 | k + 1, x0, x1, x7, x8 => if x8 < 9 then (impl_GetNum.j1 k x0 x1 x7 x8 (decide (x8 < (wrap64 ((x0.length : Int) - x1))))) else (impl_GetNum.j1 k x0 x1 x7 x8 false)
def impl_GetNum.j1 : Nat → List Int → Int → Int → Int → Bool → Option (Int × Int × Bool)
 | 0, _, _, _, _, _ => none
 | k + 1, x0, x1, x7, x8, mA => if mA = true then (if 0 ≤ (wrap64 (x1 + x8)) then (if (wrap64 (x1 + x8)) < (x0.length : Int) then (if 0 ≤ (wrap64 (7 * x8)) then (if (wrap64 (rd x0 (wrap64 (x1 + x8)))) > 127 then (impl_GetNum.l0 k x0 x1 (Go.bits .or .i64 x7 (shl .i64 (Go.bits .and .i64 (wrap64 (rd x0 (wrap64 (x1 + x8)))) 127) (wrap64 (7 * x8)))) (wrap64 (x8 + 1))) else (if x8 > 0 then (if (wrap64 (rd x0 (wrap64 (x1 + x8)))) = 0 then (some (0, 0, false)) else (some (Go.bits .or .i64 x7 (shl .i64 (Go.bits .and .i64 (wrap64 (rd x0 (wrap64 (x1 + x8)))) 127) (wrap64 (7 * x8))), wrap64 ((wrap64 (x1 + x8)) + 1), true))) else (some (Go.bits .or .i64 x7 (shl .i64 (Go.bits .and .i64 (wrap64 (rd x0 (wrap64 (x1 + x8)))) 127) (wrap64 (7 * x8))), wrap64 ((wrap64 (x1 + x8)) + 1), true)))) else (none)) else (none)) else (none)) else (some (0, 0, false))
end
def impl_GetNum.f (k : Nat) (l0 : List Int) (a1 : Int) : Option (Int × Int × Bool) := if a1 < 0 then (some (0, 0, false)) else (impl_GetNum.l0 k l0 a1 0 0)
theorem u12_mq1 {p : Prop} (h : p := by repeat' first | (with_reducible first | exact gT _ _ _ _ | exact gU _ _ _ _ _ | exact LeO.refl _ | exact LeO.none _ | refine LeO.ite ?_ ?_ | refine LeO.bind ?_ (fun _ => ?_)) | exact gT _ _ _ _ | exact gU _ _ _ _ _ | exact LeO.none _ | refine LeO.ite ?_ ?_ | refine LeO.bind ?_ (fun _ => ?_)) : p := h
set_option maxRecDepth 100000 in
theorem impl_GetNum.mono_l : ∀ k, (∀ y0 y1 y2 y3, LeO (impl_GetNum.l0 k y0 y1 y2 y3) (impl_GetNum.l0 (k + 1) y0 y1 y2 y3)) ∧ (∀ y0 y1 y2 y3 y4, LeO (impl_GetNum.j1 k y0 y1 y2 y3 y4) (impl_GetNum.j1 (k + 1) y0 y1 y2 y3 y4))
 | 0 => ⟨fun _ _ _ _ r h => by simp [impl_GetNum.l0] at h, fun _ _ _ _ _ r h => by simp [impl_GetNum.j1] at h⟩
 | k + 1 => by
  obtain ⟨gT, gU⟩ := impl_GetNum.mono_l k; refine ⟨?_, ?_⟩
  ·intro y0 y1 y2 y3; unfold impl_GetNum.l0; exact u12_mq1
  ·intro y0 y1 y2 y3 y4; unfold impl_GetNum.j1; exact u12_mq1
theorem impl_GetNum.mono : ∀ a0 a1 k, LeO (impl_GetNum.f k a0 a1) (impl_GetNum.f (k + 1) a0 a1) := by
 intro a0 a1 k
 obtain ⟨gT, gU⟩ := impl_GetNum.mono_l k
 unfold impl_GetNum.f
 exact u12_mq1
set_option maxHeartbeats 8000000 in
set_option maxRecDepth 100000 in
theorem impl_GetNum.calls (k : Nat) (A0 : Option Addr) (c0 : Nat) (l0 : List Int) (a1 : Int) (r1 : Int) (r2 : Int) (r3 : Bool) (w : World) (hJ : Kd.C (Kd.int .u8) w A0 l0.length l0) (eD : l0.length ≤ c0) (h : impl_GetNum.f k l0 a1 = some (r1, r2, r3)) :
 Calls Try.prog 75 #[.slice A0 l0.length c0, .int .i64 a1] w fun e w' => e = .returned (.tuple #[.int .i64 r1, .int .i64 r2, .bool r3]) ∧ Drawn0 w w' := by
 have gZ := aM hJ
 have lR := aM eD
 clear hJ eD
 have H : (if a1 < 0 then (some (0, 0, false)) else (impl_GetNum.l0 k l0 a1 0 0)) = some (r1, r2, r3) := h
 clear h
 by_cases c3 : a1 < 0
 ·rw [if_pos c3] at H; have gX : decide (a1 < 0) = true := decide_eq_true c3; clear c3; simp only [Option.some.injEq, Prod.mk.injEq] at H; obtain ⟨rfl, rfl, rfl⟩ := H; go_enter Try.func75, Try.ntmps75
  go_wp2; go_ret3
  exact ⟨u12_0, u12_1⟩
 ·rw [if_neg c3] at H; have gX : decide (a1 < 0) = false := decide_eq_false c3; clear c3; have H' := aM H; clear H; go_enter Try.func75, Try.ntmps75
  go_wp2; go_loopg [7, 8] k (fun kq v7 v8 w' => ∃ (aX : Int) (aH : Int), v7 = .int .i64 aX ∧ v8 = .int .i64 aH ∧ Aside0 (impl_GetNum.l0 kq l0 a1 aX aH = some (r1, r2, r3)) ∧ Aside0 (kq ≤ k) ∧ Drawn0 w w')
  case atStart => exact ⟨(0), (0), u12_0, u12_0, H', ⟨Nat.le_refl _⟩, u12_1⟩
  case round =>
   clear H'; try clear p2
   try clear c3
   try clear gX
   obtain ⟨aX, aH, rfl, rfl, HA, HK1, ⟨m1, rfl⟩⟩ := hrel; cases gk with
   | zero => exact absurd HA.out (by simp [impl_GetNum.l0])
   | succ k1 =>
    have H := HA.out; clear HA; simp only [impl_GetNum.l0] at H; have jM := aM H; clear H; go_upto_region 5 with (fail)
    go_cut [21] (fun mB wc => ∃ (kq : Nat) (dS : Bool), mB = .bool dS ∧ Aside0 (impl_GetNum.j1 kq l0 a1 aX aH dS = some (r1, r2, r3)) ∧ Aside0 (kq ≤ k1) ∧ Drawn0 w wc)
    case first =>
     have H := jM.out; clear jM; by_cases c5 : aH < 9
     ·rw [if_pos c5] at H; have dX : decide (aH < 9) = true := decide_eq_true c5; clear c5; (first | rw [dX] | (simp only [i64_w, i32_w]; rw [dX]) | skip); have H' := aM H; clear H; go_wp2; go_meet
      case rel => exact ⟨_, (decide (aH < (wrap64 ((l0.length : Int) - a1)))), u12_0, H', ⟨by have := HK1.out; first | omega | exact Nat.le_refl _⟩, u12_1⟩
     ·rw [if_neg c5] at H; have dX : decide (aH < 9) = false := decide_eq_false c5; clear c5; (first | rw [dX] | (simp only [i64_w, i32_w]; rw [dX]) | skip); have H' := aM H; clear H; go_wp2; go_meet
      case rel => exact ⟨_, (false), u12_0, H', ⟨by have := HK1.out; first | omega | exact Nat.le_refl _⟩, u12_1⟩
    case rest =>
     clear jM; try clear p2
     try clear c3
     try clear gX
     try clear c5
     try clear dX
     try clear p2
     obtain ⟨kq, dS, rfl, HA, HJ3, ⟨mc3, rfl⟩⟩ := hcut; cases kq with
     | zero => exact absurd HA.out (by simp [impl_GetNum.j1])
     | succ jA =>
      have H := HA.out; clear HA; simp only [impl_GetNum.j1] at H; by_cases c6 : dS = true
      ·subst c6; replace H := iT H; obtain ⟨ji7, hji7⟩ : ∃ j_ : Int, (wrap64 (a1 + aH)) = j_ := ⟨_, rfl⟩; replace H : (if 0 ≤ (ji7) then (if (ji7) < (l0.length : Int) then (if 0 ≤ (wrap64 (7 * aH)) then (if (wrap64 (rd l0 (ji7))) > 127 then (impl_GetNum.l0 jA l0 a1 (Go.bits .or .i64 aX (shl .i64 (Go.bits .and .i64 (wrap64 (rd l0 (ji7))) 127) (wrap64 (7 * aH)))) (wrap64 (aH + 1))) else (if aH > 0 then (if (wrap64 (rd l0 (ji7))) = 0 then (some (0, 0, false)) else (some (Go.bits .or .i64 aX (shl .i64 (Go.bits .and .i64 (wrap64 (rd l0 (ji7))) 127) (wrap64 (7 * aH))), wrap64 ((ji7) + 1), true))) else (some (Go.bits .or .i64 aX (shl .i64 (Go.bits .and .i64 (wrap64 (rd l0 (ji7))) 127) (wrap64 (7 * aH))), wrap64 ((ji7) + 1), true)))) else (none)) else (none)) else (none)) = some (r1, r2, r3) := by first | (rw [hji7] at H; exact H) | (simp only [hji7] at H ⊢; exact H)
       have hji7w : (IntKind.i64.wrap (a1 + aH)) = ji7 := (i64_w _).trans hji7; by_cases c8 : 0 ≤ (ji7)
       ·rw [if_pos c8] at H; have mC : decide (0 ≤ (ji7)) = true := decide_eq_true c8; clear c8; by_cases c9 : (ji7) < (l0.length : Int)
        ·rw [if_pos c9] at H; have mD : decide ((ji7) < (l0.length : Int)) = true := decide_eq_true c9; clear c9; obtain ⟨ji10, hji10⟩ : ∃ j_ : Int, (wrap64 (7 * aH)) = j_ := ⟨_, rfl⟩; replace H : (if 0 ≤ (ji10) then (if (wrap64 (rd l0 (ji7))) > 127 then (impl_GetNum.l0 jA l0 a1 (Go.bits .or .i64 aX (shl .i64 (Go.bits .and .i64 (wrap64 (rd l0 (ji7))) 127) (ji10))) (wrap64 (aH + 1))) else (if aH > 0 then (if (wrap64 (rd l0 (ji7))) = 0 then (some (0, 0, false)) else (some (Go.bits .or .i64 aX (shl .i64 (Go.bits .and .i64 (wrap64 (rd l0 (ji7))) 127) (ji10)), wrap64 ((ji7) + 1), true))) else (some (Go.bits .or .i64 aX (shl .i64 (Go.bits .and .i64 (wrap64 (rd l0 (ji7))) 127) (ji10)), wrap64 ((ji7) + 1), true)))) else (none)) = some (r1, r2, r3) := by first | (rw [hji10] at H; exact H) | (simp only [hji10] at H ⊢; exact H)
         have hji10w : (IntKind.i64.wrap (7 * aH)) = ji10 := (i64_w _).trans hji10; by_cases iE : 0 ≤ (ji10)
         ·rw [if_pos iE] at H; have lK := eq_true iE; have lL : decide (0 ≤ (ji10)) = true := decide_eq_true iE; clear iE; obtain ⟨ji12, hji12⟩ : ∃ j_ : Int, (shl .i64 (Go.bits .and .i64 (wrap64 (rd l0 (ji7))) 127) (ji10)) = j_ := ⟨_, rfl⟩; replace H : (if (wrap64 (rd l0 (ji7))) > 127 then (impl_GetNum.l0 jA l0 a1 (Go.bits .or .i64 aX (ji12)) (wrap64 (aH + 1))) else (if aH > 0 then (if (wrap64 (rd l0 (ji7))) = 0 then (some (0, 0, false)) else (some (Go.bits .or .i64 aX (ji12), wrap64 ((ji7) + 1), true))) else (some (Go.bits .or .i64 aX (ji12), wrap64 ((ji7) + 1), true)))) = some (r1, r2, r3) := by first | (rw [hji12] at H; exact H) | (simp only [hji12] at H ⊢; exact H)
          have hji12_ : (IntKind.i64.wrap ((Go.bits .and .i64 (wrap64 (rd l0 (ji7))) 127) * 2 ^ min (ji10).toNat 64)) = ji12 := hji12; have hji12z : (ji10) ≤ 64 → (IntKind.i64.wrap ((Go.bits .and .i64 (wrap64 (rd l0 (ji7))) 127) * 2 ^ (ji10).toNat)) = ji12 := shl_small hji12; have hji12y : (wrap64 ((Go.bits .and .i64 (wrap64 (rd l0 (ji7))) 127) * 2 ^ min (ji10).toNat 64)) = ji12 := (i64_w _).symm.trans hji12_; have hji12x : (ji10) ≤ 64 → (wrap64 ((Go.bits .and .i64 (wrap64 (rd l0 (ji7))) 127) * 2 ^ (ji10).toNat)) = ji12 := fun h_ => (i64_w _).symm.trans (hji12z h_)
          by_cases dC : (wrap64 (rd l0 (ji7))) > 127
          ·rw [if_pos dC] at H; have aW : decide (127 < (wrap64 (rd l0 (ji7)))) = true := decide_eq_true dC; clear dC; have H' := aM H; clear H; have p376 : 0 ≤ ((ji7) : Int) := oda; have q376 : (ji7) < (l0.length : Int) := oda; obtain ⟨dZ, dD, cX⟩ := Kd.at_int gZ.out (ji7) p376 q376; cases dD
           replace p376 := eq_true p376; replace q376 := eq_true q376; go_wp2; go_roundg jA
           case measure => have := HK1.out; have := HJ3.out; omega
           case rel => exact ⟨(Go.bits .or .i64 aX (ji12)), (wrap64 (aH + 1)), (by first | rfl | (simp; done) | (simp only [← hji12] <;> (first | rfl | simp)) | (simp [*]; done)), u12_0, H', ⟨by have := HK1.out; have := HJ3.out; omega⟩, u12_1⟩
          ·rw [if_neg dC] at H; have aW : decide (127 < (wrap64 (rd l0 (ji7)))) = false := decide_eq_false dC; clear dC; by_cases gS : aH > 0
           ·rw [if_pos gS] at H; have iF : decide (0 < aH) = true := decide_eq_true gS; clear gS; by_cases iG : (wrap64 (rd l0 (ji7))) = 0
            ·rw [if_pos iG] at H; obtain ⟨iH, iI⟩ := bT iG; clear iG; simp only [Option.some.injEq, Prod.mk.injEq] at H; obtain ⟨rfl, rfl, rfl⟩ := H; have p376 : 0 ≤ ((ji7) : Int) := oda; have q376 : (ji7) < (l0.length : Int) := oda; obtain ⟨dZ, dD, cX⟩ := Kd.at_int gZ.out (ji7) p376 q376; cases dD
             replace p376 := eq_true p376; replace q376 := eq_true q376; go_wp2; go_ret3
             exact ⟨u12_2, u12_1⟩
            ·rw [if_neg iG] at H; obtain ⟨iH, iI⟩ := bF iG; simp only [Option.some.injEq, Prod.mk.injEq] at H; obtain ⟨rfl, rfl, rfl⟩ := H; have p376 : 0 ≤ ((ji7) : Int) := oda; have q376 : (ji7) < (l0.length : Int) := oda; obtain ⟨dZ, dD, cX⟩ := Kd.at_int gZ.out (ji7) p376 q376; cases dD
             replace p376 := eq_true p376; replace q376 := eq_true q376; go_wp2; go_ret3
             exact ⟨u12_2, u12_1⟩
           ·rw [if_neg gS] at H; have iF : decide (0 < aH) = false := decide_eq_false gS; clear gS; simp only [Option.some.injEq, Prod.mk.injEq] at H; obtain ⟨rfl, rfl, rfl⟩ := H; have p376 : 0 ≤ ((ji7) : Int) := oda; have q376 : (ji7) < (l0.length : Int) := oda; obtain ⟨dZ, dD, cX⟩ := Kd.at_int gZ.out (ji7) p376 q376; cases dD
            replace p376 := eq_true p376; replace q376 := eq_true q376; go_wp2; go_ret3
            exact ⟨u12_2, u12_1⟩
         ·rw [if_neg iE] at H; exact absurd H (by simp)
        ·rw [if_neg c9] at H; exact absurd H (by simp)
       ·rw [if_neg c8] at H; exact absurd H (by simp)
      ·replace c6 := Bool.eq_false_iff.mpr c6; subst c6; replace H := iN H; simp only [Option.some.injEq, Prod.mk.injEq] at H; obtain ⟨rfl, rfl, rfl⟩ := H; go_wp2; go_ret3
       exact ⟨u12_0, u12_1⟩

/-! ### impl_reader_num: function 46 -/
structure IsRd (w0 w : World) (g : Nat) (A : Option Addr) (c : Nat) (l : List Int) (at_ : Int) (bad : Bool) : Prop where
  blk : w.heap[g]? = some (.cells #[.slice A l.length c, .int .i64 at_, .bool bad] 80 (0, 0))
  cap : l.length ≤ c
  ge : w0.heap.size ≤ g
  bel : Below w0.heap.size w0 w
  rd : Kd.C (Kd.int .u8) w0 A l.length l
section
variable {w0 w : World} {g : Nat} {A : Option Addr} {c : Nat} {l : List Int} {at_ : Int} {bad : Bool}
theorem IsRd.now (h : IsRd w0 w g A c l at_ bad) : Kd.C (Kd.int .u8) w A l.length l := Kd.C_below h.rd h.bel
theorem IsRd.drewN (h : IsRd w0 w g A c l at_ bad) (n : Nat) : IsRd w0 (w.drewN n) g A c l at_ bad := ⟨blk_drewN h.blk n, h.cap, h.ge, pw_below_drewN h.bel n, h.rd⟩
theorem IsRd.drew (h : IsRd w0 w g A c l at_ bad) : IsRd w0 w.drew g A c l at_ bad := ⟨blk_drew h.blk, h.cap, h.ge, below_drew h.bel, h.rd⟩
theorem IsRd.alloc (h : IsRd w0 w g A c l at_ bad) (o : Obj) : IsRd w0 (w.alloc o) g A c l at_ bad := ⟨blk_alloc h.blk o, h.cap, h.ge, below_alloc h.bel o, h.rd⟩
theorem IsRd.set1 (h : IsRd w0 w g A c l at_ bad) (v : Int) : IsRd w0 (w.setCell ⟨g, 1, none⟩ (.int .i64 v)) g A c l v bad := ⟨(blk_set h.blk 1 _).trans rfl, h.cap, h.ge, below_set h.bel h.ge, h.rd⟩
theorem IsRd.set2 (h : IsRd w0 w g A c l at_ bad) (v : Bool) : IsRd w0 (w.setCell ⟨g, 2, none⟩ (.bool v)) g A c l at_ v := ⟨(blk_set h.blk 2 _).trans rfl, h.cap, h.ge, below_set h.bel h.ge, h.rd⟩
theorem IsRd.far (h : IsRd w0 w g A c l at_ bad) {b i : Nat} {v : Value} (hb : w0.heap.size ≤ b) (hne : g ≠ b) : IsRd w0 (w.setCell ⟨b, i, none⟩ v) g A c l at_ bad := ⟨blk_far h.blk hne v, h.cap, h.ge, below_set h.bel hb, h.rd⟩
theorem IsRd.step (h : IsRd w0 w g A c l at_ bad) {w' : World} (hb : Below w.heap.size w w') : IsRd w0 w' g A c l at_ bad := ⟨blk_below h.blk hb, h.cap, h.ge, below_step h.bel hb, h.rd⟩
theorem IsRd.lt (h : IsRd w0 w g A c l at_ bad) : g < w.heap.size := blk_lt h.blk
end
theorem IsRd.made (w : World) (A : Option Addr) (c : Nat) (l : List Int) (at_ : Int) (hr : Kd.C (Kd.int .u8) w A l.length l) (hc : l.length ≤ c) :
    IsRd w (w.alloc (.cells #[.slice A l.length c, .int .i64 at_, .bool false] 80 (0, 0))) w.heap.size A c l at_ false :=
  ⟨blk_new w _, hc, Nat.le_refl _, below_alloc (Below.refl _ _) _, hr⟩
theorem keep_fr {w W : World} {g b i : Nat} (h : KeepBut w W g none) (hb : w.heap.size ≤ b) (v : Value) : KeepBut w (W.setCell ⟨b, i, none⟩ v) g none :=
  ⟨by have := h.1; simp only [World.setCell, Array.size_modify]; exact this, fun j hj hn hr => (Below.heap_setCell W ⟨b, i, none⟩ v j (by show j ≠ b; omega)).trans (h.2 j hj hn hr)⟩
def rdNum (k : Nat) (l : List Int) (at_ : Int) (bad : Bool) : Option (Int × Int × Bool) :=
  (impl_GetNum.f k l at_).bind fun t => some (if bad = true then (0, at_, true) else if t.2.2 = true then (t.1, t.2.1, false) else (0, at_, true))
set_option maxHeartbeats 4000000 in
set_option maxRecDepth 100000 in
theorem rd_num (k g : Nat) (A : Option Addr) (c : Nat) (l : List Int) (at_ : Int) (bad : Bool) (r at' : Int) (bad' : Bool) (w0 w : World) (hI : IsRd w0 w g A c l at_ bad) (h : rdNum k l at_ bad = some (r, at', bad')) :
    Calls Try.prog 46 #[.pointer (some ⟨g, 0, none⟩)] w fun e w' => e = .returned (.int .i64 r) ∧ IsRd w0 w' g A c l at' bad' ∧ KeepBut w w' g none := by
  have eD : w.cell? ⟨g, 0, none⟩ = some (.slice A l.length c) := (blk_cell hI.blk 0).trans rfl; have jN : w.cell? ⟨g, 1, none⟩ = some (.int .i64 at_) := (blk_cell hI.blk 1).trans rfl; have lM : w.cell? ⟨g, 2, none⟩ = some (.bool bad) := (blk_cell hI.blk 2).trans rfl; have lN := blk_frozen hI.blk 1; have lO := blk_frozen hI.blk 2; have HI := Aside0.mk hI; unfold rdNum at h; obtain ⟨⟨x, nx, ok⟩, hA, h⟩ := Option.bind_eq_some_iff.1 h; have HA := Aside0.mk hA; clear hI hA; cases bad <;> cases ok <;> simp only [Bool.false_eq_true, ↓reduceIte, Option.some.injEq, Prod.mk.injEq] at h <;> obtain ⟨rfl, rfl, rfl⟩ := h
  all_goals
    go_enter Try.func46, Try.ntmps46
    go_wp2; go_quiet (first | (go_at_call 75; refine (impl_GetNum.calls k A c l at_ _ _ _ _ (HI.out.drewN _).now HI.out.cap HA.out).mono ?_; rintro e w' ⟨rfl, ⟨nd, rfl⟩⟩; exact ⟨rfl, _, World.drewN_drewN _ _ _⟩))
    go_wp2; go_ret
    exact ⟨rfl, u12_3, u12_4⟩


/-! ### impl_reader_bytes: function 76 -/
def rdBytes (l : List Int) (at_ : Int) (bad : Bool) (n : Int) : Option (ByteArray × Int × Bool) :=
  if bad = true then some (ByteArray.empty, at_, true) else if n > wrap64 ((l.length : Int) - at_) then some (ByteArray.empty, at_, true)
  else if 0 ≤ at_ ∧ 0 ≤ n ∧ at_ + n ≤ (l.length : Int) then some (strOfNums ((l.take (at_ + n).toNat).drop at_.toNat), at_ + n, false) else none
set_option maxHeartbeats 4000000 in
set_option maxRecDepth 100000 in
theorem rd_bytes (g : Nat) (A : Option Addr) (c : Nat) (l : List Int) (at_ : Int) (bad : Bool) (n : Int) (r : ByteArray) (at' : Int) (bad' : Bool) (w0 w : World) (hI : IsRd w0 w g A c l at_ bad) (h : rdBytes l at_ bad n = some (r, at', bad')) :
    Calls Try.prog 76 #[.pointer (some ⟨g, 0, none⟩), .int .i64 n] w fun e w' => e = .returned (.string r) ∧ IsRd w0 w' g A c l at' bad' ∧ KeepBut w w' g none := by
  have eD : w.cell? ⟨g, 0, none⟩ = some (.slice A l.length c) := (blk_cell hI.blk 0).trans rfl; have jN : w.cell? ⟨g, 1, none⟩ = some (.int .i64 at_) := (blk_cell hI.blk 1).trans rfl; have lM : w.cell? ⟨g, 2, none⟩ = some (.bool bad) := (blk_cell hI.blk 2).trans rfl; have lN := blk_frozen hI.blk 1; have lO := blk_frozen hI.blk 2; have HI := Aside0.mk hI; clear hI; unfold rdBytes at h; cases bad
  · simp only [Bool.false_eq_true, ↓reduceIte] at h; by_cases c1 : n > wrap64 ((l.length : Int) - at_)
    · simp only [c1, ↓reduceIte, Option.some.injEq, Prod.mk.injEq] at h; obtain ⟨rfl, rfl, rfl⟩ := h; have c1b : decide (wrap64 ((l.length : Int) - at_) < n) = true := decide_eq_true c1; clear c1; go_enter Try.func76, Try.ntmps76
      go_wp2; go_quiet (fail)
      go_wp2; go_ret
      exact ⟨rfl, u12_3, u12_4⟩
    · simp only [c1, ↓reduceIte] at h
      split at h
      · rename_i hb
        simp only [Option.some.injEq, Prod.mk.injEq] at h; obtain ⟨rfl, rfl, rfl⟩ := h; obtain ⟨b0, b1, b2⟩ := hb; have hcap := HI.out.cap; have c1b : decide (wrap64 ((l.length : Int) - at_) < n) = false := decide_eq_false c1; clear c1; have hmx := Kd.C_max HI.out.now; have e1 : wrap64 (at_ + n) = at_ + n := by unfold wrap64; omega
        have e2 : wrap64 at_ = at_ := by unfold wrap64; omega
        have e3 : IntKind.i64.wrap at_ = at_ := by rw [IntKind.wrap_i64]; omega
        have HP : Aside0 (0 ≤ at_ ∧ 0 ≤ n ∧ at_ + n ≤ (l.length : Int) ∧ l.length ≤ c) := ⟨⟨b0, b1, b2, hcap⟩⟩; clear b0 b1 b2 hcap hmx; go_enter Try.func76, Try.ntmps76
        go_wp2; go_quiet (fail)
        go_wp2; have HI2 : IsRd w0 ((w.drewN nq).setCell ⟨g, 1, none⟩ (.int .i64 (at_ + n))) g A c l (at_ + n) false := (HI.out.drewN nq).set1 (at_ + n); have HK2 : KeepBut w ((w.drewN nq).setCell ⟨g, 1, none⟩ (.int .i64 (at_ + n))) g none := (keep_drewN (KeepBut.refl _ _ _) nq).set_ 1 _; generalize ((w.drewN nq).setCell ⟨g, 1, none⟩ (.int .i64 (at_ + n))) = W at *; clear eD jN lM lN lO HI; have eD : W.cell? ⟨g, 0, none⟩ = some (.slice A l.length c) := (blk_cell HI2.blk 0).trans rfl; have jN : W.cell? ⟨g, 1, none⟩ = some (.int .i64 (at_ + n)) := (blk_cell HI2.blk 1).trans rfl; have HI := Aside0.mk HI2; have HK := Aside0.mk HK2; clear HI2 HK2; obtain ⟨b0, b1, b2, hcap⟩ := HP.out; obtain ⟨i0, hi0, _, hsz, _⟩ := info_parts info5; obtain ⟨A2, hcut, hA2, hC2⟩ := print_mid_of (P := Try.prog) (Value.int .u8) 0 22 5 .i64 .i64 Try.underlying22 hi0 hsz A c l at_ (at_ + n) b0 (by omega) b2 hcap; have hcv : ∀ m, (convert 22 9 (.slice A2 ((at_ + n).toNat - at_.toNat) (c - at_.toNat))).run Try.prog (W.drewN m) = .ok (.string (strOfNums ((l.take (at_ + n).toNat).drop at_.toNat))) (W.drewN m) := fun m =>
          Kd.C_string Try.underlying22 Try.underlying5 Try.underlying9 (by
            have h_ := Kd.C_of_reads (h1 := fun _ => rfl) (hA2 _ (Kd.reads_of_C ((HI.out.drewN m).now))); rw [show ((l.take (at_ + n).toNat).drop at_.toNat).length = (at_ + n).toNat - at_.toNat from by rw [List.length_drop, List.length_take]; omega] at h_; exact h_)
        rw [show ((l.take (at_ + n).toNat).drop at_.toNat).length = (at_ + n).toNat - at_.toNat from by rw [List.length_drop, List.length_take]; omega] at hcut; clear hA2 hC2 hi0 hsz b0 b1 b2 hcap; go_wp2; go_quiet (fail)
        go_wp2; go_ret
        exact ⟨rfl, HI.out.drewN nq, keep_drewN HK.out nq⟩
      · exact absurd h (by simp)
  · simp only [↓reduceIte, Option.some.injEq, Prod.mk.injEq] at h; obtain ⟨rfl, rfl, rfl⟩ := h; go_enter Try.func76, Try.ntmps76
    go_wp2; go_quiet (fail)
    go_wp2; go_ret
    exact ⟨rfl, u12_3, u12_4⟩


end Go.Proofs.Ytocpomkfilpflaa.QFnExactHardLoad
