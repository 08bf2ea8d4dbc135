-- A walk, by a program of this session.
import Derived.Test.YtppfnnpfamkclaaQFnExactRollFindx0
import Derived.Test.YtppfnnpfamkclaaQFnExactRollFindx5
namespace Go.Proofs.Ytppfnnpfamkclaa.QFnExactRollFind
open Go.RowKit Go.Proofs.YtppfnnpfamkclaaW.PrintWords Go.Proofs.YtppfnnpfamkclaaW.PrintLast Go.Proofs.YtppfnnpfamkclaaW.PrintMore
attribute [local go_sem] max2_int min2_int max_two min_two max_three min_three max_four min_four   -- for this text's walks alone
set_option linter.unusedVariables false
set_option linter.unusedSimpArgs false

theorem u6_0 {p : Prop} (h : p := by first | rfl | (simp; done) | (simp [*]; done)) : p := h
theorem u6_1 {p : Prop} (h : p := by (with_reducible repeat (first | apply Kd.R_alloc | apply Kd.R_drewN | apply Kd.R_drew)); exact aI.out) : p := h
theorem u6_2 {p : Prop} (h : p := by have := HK1.out; first | omega | exact Nat.le_refl _) : p := h
theorem u6_3 {p : Prop} (h : p := by first | rfl | (simp [errW_none, errW_some] <;> rfl) | (simp [*, errW_none, errW_some] <;> rfl)) : p := h
theorem u6_4 {p : Prop} (h : p := by have := HK1.out; have := HJ8.out; first | omega | exact Nat.le_refl _) : p := h
theorem u6_5 {p : Prop} (h : p := by first | rfl | (simp [errW_none, errW_some] <;> rfl) | (simp only [← hji59]; first | rfl | (simp [errW_none, errW_some] <;> rfl)) | (simp [*, errW_none, errW_some] <;> rfl)) : p := h
theorem u6_6 {p : Prop} (h : p := by first | (rw [hY]; with_reducible exact H) | (have H2_ := oS H; rw [hY]; with_reducible exact H2_) | (have H2_ := oS H; with_reducible exact H2_) | with_reducible exact H | (rw [hY]; exact H) | exact H) : p := h
/-! ### impl_RollOk: function 26 -/
mutual
def impl_RollOk.l0 : Nat → List Int → List (S38) → Int → Int → Int → List (S38) → Int → List Int → Option (Bool)
 | 0, _, _, _, _, _, _, _, _ => none
 | k + 1, x3, x9, cJ, bC, aK, aN, aQ, aR => if bC < cJ then (if 0 ≤ bC then (if bC < (x9.length : Int) then ((impl_isRelease.f ((rd_T38 x9 bC).f0)).bind fun gI => (if gI = true then (if bC > 0 then (if 0 ≤ (wrap64 (bC - 1)) then (if (wrap64 (bC - 1)) < (aN.length : Int) then (if ((rd_T38 aN (wrap64 (bC - 1))).f0) ≥ ((rd_T38 x9 bC).f0) then (impl_RollOk.j1 k x3 x9 cJ bC true aK aN aQ aR ((rd_T38 x9 bC).f0) ((rd_T38 x9 bC).f1) ((rd_T38 x9 bC).f2) ((rd_T38 x9 bC).f3) ((rd_T38 x9 bC).f4)) else ((impl_isSize.f ((rd_T38 x9 bC).f1)).bind fun cX => (if cX = true then (impl_RollOk.j1 k x3 x9 cJ bC ((((rd_T38 x9 bC).f2).size : Int) != 32) aK aN aQ aR ((rd_T38 x9 bC).f0) ((rd_T38 x9 bC).f1) ((rd_T38 x9 bC).f2) ((rd_T38 x9 bC).f3) ((rd_T38 x9 bC).f4)) else (impl_RollOk.j1 k x3 x9 cJ bC true aK aN aQ aR ((rd_T38 x9 bC).f0) ((rd_T38 x9 bC).f1) ((rd_T38 x9 bC).f2) ((rd_T38 x9 bC).f3) ((rd_T38 x9 bC).f4))))) else (none)) else (none)) else ((impl_isSize.f ((rd_T38 x9 bC).f1)).bind fun gJ => (if gJ = true then (impl_RollOk.j1 k x3 x9 cJ bC ((((rd_T38 x9 bC).f2).size : Int) != 32) aK aN aQ aR ((rd_T38 x9 bC).f0) ((rd_T38 x9 bC).f1) ((rd_T38 x9 bC).f2) ((rd_T38 x9 bC).f3) ((rd_T38 x9 bC).f4)) else (impl_RollOk.j1 k x3 x9 cJ bC true aK aN aQ aR ((rd_T38 x9 bC).f0) ((rd_T38 x9 bC).f1) ((rd_T38 x9 bC).f2) ((rd_T38 x9 bC).f3) ((rd_T38 x9 bC).f4))))) else (impl_RollOk.j1 k x3 x9 cJ bC true aK aN aQ aR ((rd_T38 x9 bC).f0) ((rd_T38 x9 bC).f1) ((rd_T38 x9 bC).f2) ((rd_T38 x9 bC).f3) ((rd_T38 x9 bC).f4)))) else (none)) else (none)) else (if (x3.length : Int) > 0 then (if 0 ≤ (wrap64 ((x3.length : Int) - 1)) then (if (wrap64 ((x3.length : Int) - 1)) < (x3.length : Int) then ((impl_isOf.f aK).bind fun cY => (if cY = true then (if (aN.length : Int) ≤ 30 then ((slices_Equal_int_int.f k x3 aR).bind fun cZ => (if cZ = true then (some (aQ == (rd x3 (wrap64 ((x3.length : Int) - 1))))) else (some false))) else (some false)) else (some false))) else (none)) else (none)) else ((impl_isOf.f aK).bind fun gK => (if gK = true then (if (aN.length : Int) ≤ 30 then ((slices_Equal_int_int.f k x3 aR).bind fun gL => (if gL = true then (some (aQ == 0)) else (some false))) else (some false)) else (some false))))
def impl_RollOk.j1 : Nat → List Int → List (S38) → Int → Int → Bool → Int → List (S38) → Int → List Int → Int → Int → ByteArray → List Int → Int → Option (Bool)
 | 0, _, _, _, _, _, _, _, _, _, _, _, _, _, _ => none
 | k + 1, x3, x9, cJ, bC, pL, aK, aN, aQ, aR, bR, bU, bV, bQ, bO => if pL = true then (some false) else ((impl_nodesAscend.f k bQ aK).bind fun gM => (if gM = true then ((impl_within.f bO 1 3).bind fun gN => (if gN = true then (if bO = 2 then (impl_RollOk.j2 k x3 x9 cJ bC ((bQ.length : Int) != aK) aK aN aQ aR bR bU bV bQ bO) else (impl_RollOk.j2 k x3 x9 cJ bC false aK aN aQ aR bR bU bV bQ bO)) else (impl_RollOk.j2 k x3 x9 cJ bC true aK aN aQ aR bR bU bV bQ bO))) else (impl_RollOk.j2 k x3 x9 cJ bC true aK aN aQ aR bR bU bV bQ bO)))
def impl_RollOk.j2 : Nat → List Int → List (S38) → Int → Int → Bool → Int → List (S38) → Int → List Int → Int → Int → ByteArray → List Int → Int → Option (Bool)
 | 0, _, _, _, _, _, _, _, _, _, _, _, _, _, _ => none
 | k + 1, x3, x9, cJ, bC, pM, aK, aN, aQ, aR, bR, bU, bV, bQ, bO => if pM = true then (some false) else (if bO = 2 then (if x3.length < 17592186044416 then (impl_RollOk.l0 k (x3 ++ [bR]) x9 cJ (wrap64 (bC + 1)) aK aN aQ aR) else (none)) else (impl_RollOk.l0 k x3 x9 cJ (wrap64 (bC + 1)) aK aN aQ aR))
end
def impl_RollOk.f (k : Nat) (aJ : Int) (aC : List (S38)) (bN : Int) (bB : List Int) : Option (Bool) := impl_RollOk.l0 k (([] : List Int)) aC (aC.length : Int) 0 aJ aC bN bB
theorem u6_mq0 {p : Prop} (h : p := by repeat' first | (with_reducible first | exact oE _ _ _ _ _ _ _ _ | exact oF _ _ _ _ _ _ _ _ _ _ _ _ _ _ | exact oG _ _ _ _ _ _ _ _ _ _ _ _ _ _ | exact impl_nodesAscend.mono _ _ _ | exact slices_Equal_int_int.mono _ _ _ | exact LeO.refl _ | exact LeO.none _ | refine LeO.ite ?_ ?_ | refine LeO.bind ?_ (fun _ => ?_)) | exact LeO.none _ | refine LeO.ite ?_ ?_ | refine LeO.bind ?_ (fun _ => ?_)) : p := h
set_option maxRecDepth 100000 in
theorem impl_RollOk.mono_l : ∀ k, (∀ y0 y1 y2 y3 y4 y5 y6 y7, LeO (impl_RollOk.l0 k y0 y1 y2 y3 y4 y5 y6 y7) (impl_RollOk.l0 (k + 1) y0 y1 y2 y3 y4 y5 y6 y7)) ∧ (∀ y0 y1 y2 y3 y4 y5 y6 y7 y8 y9 gO gP gQ gR, LeO (impl_RollOk.j1 k y0 y1 y2 y3 y4 y5 y6 y7 y8 y9 gO gP gQ gR) (impl_RollOk.j1 (k + 1) y0 y1 y2 y3 y4 y5 y6 y7 y8 y9 gO gP gQ gR)) ∧ (∀ y0 y1 y2 y3 y4 y5 y6 y7 y8 y9 gO gP gQ gR, LeO (impl_RollOk.j2 k y0 y1 y2 y3 y4 y5 y6 y7 y8 y9 gO gP gQ gR) (impl_RollOk.j2 (k + 1) y0 y1 y2 y3 y4 y5 y6 y7 y8 y9 gO gP gQ gR))
 | 0 => ⟨fun _ _ _ _ _ _ _ _ r h => by simp [impl_RollOk.l0] at h, fun _ _ _ _ _ _ _ _ _ _ _ _ _ _ r h => by simp [impl_RollOk.j1] at h, fun _ _ _ _ _ _ _ _ _ _ _ _ _ _ r h => by simp [impl_RollOk.j2] at h⟩
 | k + 1 => by
  obtain ⟨oE, oF, oG⟩ := impl_RollOk.mono_l k; refine ⟨?_, ?_, ?_⟩
  ·intro y0 y1 y2 y3 y4 y5 y6 y7; unfold impl_RollOk.l0; exact u6_mq0
  ·intro y0 y1 y2 y3 y4 y5 y6 y7 y8 y9 gO gP gQ gR; unfold impl_RollOk.j1; exact u6_mq0
  ·intro y0 y1 y2 y3 y4 y5 y6 y7 y8 y9 gO gP gQ gR; unfold impl_RollOk.j2; exact u6_mq0
theorem impl_RollOk.mono : ∀ a0 a1 a2 a3 k, LeO (impl_RollOk.f k a0 a1 a2 a3) (impl_RollOk.f (k + 1) a0 a1 a2 a3) := by
 intro a0 a1 a2 a3 k
 obtain ⟨oE, oF, oG⟩ := impl_RollOk.mono_l k
 unfold impl_RollOk.f
 exact u6_mq0
def impl_RollOk.T5 : Bool × List (List Nat × List Nat) := (true, [([], []), ([0], [0]), ([1], [1]), ([2], [2]), ([3, 2], [3]), ([4], [4]), ([5, 4], [4, 5]), ([6, 4, 4], [4, 6]), ([7], [7]), ([8, 7], [7, 8]), ([7], [7]), ([10, 7], [7, 10]), ([9, 11, 7], [7, 9, 11]), ([12, 7], [7, 12]), ([13, 7], [7, 13]), ([7], [7]), ([15, 7], [7, 15]), ([14, 16, 7], [7, 14, 16]), ([7, 17, 4], [4, 7, 17]), ([4, 18], [4, 18]), ([19, 7], [19]), ([20], [20]), ([21, 20], [20, 21]), ([22, 20, 20], [20, 22]), ([23, 20], [20, 23]), ([20, 24], [20, 24]), ([25, 23], [25]), ([26], [26]), ([27, 26], [26, 27]), ([28, 26], [26, 28]), ([29, 26], [26, 29]), ([26, 30], [26, 30])])
def impl_RollOk.B5 : List Nat := [0, 1, 3, 7, 15, 31, 63, 127, 255, 511, 255, 1279, 4095, 8191, 16383, 255, 33023, 131071, 262143, 524287, 1048575, 2097151, 4194303, 8388607, 16777215, 33554431, 67108863, 134217727, 268435455, 536870911, 1073741823, 2147483647]
set_option maxHeartbeats 8000000 in
set_option maxRecDepth 100000 in
theorem impl_RollOk.calls (k : Nat) (aJ : Int) (dC : Option Addr) (cB : Nat) (aC : List (S38)) (bN : Int) (cC : Option Addr) (cD : Nat) (bB : List Int) (r : Bool) (w : World) (fY : Kd.C k38 w dC aC.length aC) (fZ : aC.length ≤ cB) (gA : Kd.C (Kd.int .i64) w cC bB.length bB) (gB : bB.length ≤ cD) (h : impl_RollOk.f k aJ aC bN bB = some r) :
 Calls Try.prog 26 #[.agg #[.int .i64 aJ, .slice dC aC.length cB, .int .i64 bN, .slice cC bB.length cD]] w fun e w' => e = .returned (.bool r) ∧ Below w.heap.size w w' := by
 have pN := Try.underlying30
 have pO := Try.underlying38
 have cL := aM fY
 have oH := aM fZ
 clear fY fZ
 have cM := aM gA
 have cN := aM gB
 clear gA gB
 have HB := aM (Below.refl w.heap.size w)
 have H : (impl_RollOk.l0 k (([] : List Int)) aC (aC.length : Int) 0 aJ aC bN bB) = some r := h
 clear h
 obtain ⟨iG, hY⟩ : ∃ y_ : List Int, y_ = (([] : List Int)) := ⟨_, rfl⟩
 replace H : (impl_RollOk.l0 k iG aC (aC.length : Int) 0 aJ aC bN bB) = some r := u6_6
 have gE := aM hY
 clear hY
 have H' := aM H
 clear H
 go_enter Try.func26, Try.ntmps26
 go_wp2_with (first | ((with_reducible refine gD 1 rfl ?_); (try (refine gate_guard (by rfl) ?_; dsimp only)); refine boxE (N := 1) rfl (cs := #[.int .i64 aJ, .slice dC aC.length cB, .int .i64 bN, .slice cC bB.length cD]) (t := 30) ?_; intro bM hg w2 hbox hb; have aE := aM (hbox); have oI := aM (xge hg); have oJ := aM (xge hg); replace HB := xbs hb; clear hb hbox hg) | ((with_reducible refine gD 7 rfl ?_); (try (refine gate_guard (by rfl) ?_; dsimp only)); refine Kd.R_lit (Kd.int .i64) _ 3 ?hg (N := 7) ?hd (xs := ([] : List Int)) (inner := []) (ok := fun _ => True) (okp := fun _ => True) ?hr ?hp (fun _ hk => hk) trivial (Below.refl _ _) (Nat.le_refl _) (by simp) ?_; (case hd => rfl); (case hg => rfl); (case hr => first | (go_simp; done) | (go_simp; rfl)); (case hp => exact (Reps.none _ _)); intro v204 w3 iH hb hg_ hnew_; clear hg_ hnew_; (first | rw [← gE.out] at iH | (simp only [Int.reduceToNat] at iH; rw [← gE.out] at iH)); have iI := aM (Kd.R_lower iH (below_size xbg)); replace aE := xbb aE hb; replace HB := xbs hb; clear hb iH; obtain ⟨gS, gT, gU, gV, gW, gX, gY, gZ⟩ := xf4 (w := w3) aE))
 go_loopg [3, 11] k (fun kq v3 v11 w' => ∃ (aY : List Int) (aA : Int), v11 = .int .i64 aA ∧ Aside0 (impl_RollOk.l0 kq aY aC (aC.length : Int) aA aJ aC bN bB = some r) ∧ Aside0 (kq ≤ k) ∧ Aside0 (Kd.R (Kd.int .i64) 3 w' w.heap.size (fun _ => True) v3 aY) ∧ Aside0 (w'.heap[bM]? = some (.cells #[.int .i64 aJ, (.slice dC aC.length cB), .int .i64 bN, (.slice cC bB.length cD)] 30 (0, 0))) ∧ Aside0 (Below w.heap.size w w'))
 case atStart => exact ⟨(iG), (0), u6_0, H', ⟨Nat.le_refl _⟩, ⟨by (with_reducible repeat (first | apply Kd.R_alloc | apply Kd.R_drewN | apply Kd.R_drew)); exact iI.out⟩, ⟨xblk⟩, ⟨xbg⟩⟩
 case round =>
  clear H'; try clear c2
  try clear p2
  try clear gS gT gU gV gW gX gY gZ
  obtain ⟨aY, aA, rfl, HA, HK1, aI, aE, HB⟩ := hrel; cases gk with
  | zero => exact absurd HA.out (by simp [impl_RollOk.l0])
  | succ k1 =>
   have H := HA.out; clear HA; simp only [impl_RollOk.l0] at H; by_cases c6 : aA < (aC.length : Int)
   ·rw [if_pos c6] at H; have nR : decide (aA < (aC.length : Int)) = true := decide_eq_true c6; clear c6; by_cases c7 : 0 ≤ aA
    ·rw [if_pos c7] at H; have pP : decide (0 ≤ aA) = true := decide_eq_true c7; clear c7; by_cases c8 : aA < (aC.length : Int)
     ·rw [if_pos c8] at H; have pQ : decide (aA < (aC.length : Int)) = true := decide_eq_true c8; clear c8; have nS := aM H; clear H; have p206 : 0 ≤ (aA : Int) := oda; have q206 : aA < (aC.length : Int) := oda; obtain ⟨aH, aZ, bA, nT, cO, cP, cQ, cS, cT, cU, hi206_3⟩ := at_T38 cL.out aA p206 q206; cases nT
      replace cO := xce HB cO; replace cP := xce HB cP; replace cQ := xce HB cQ; replace cS := xce HB cS; replace cT := xce HB cT; have bX := aM hi206_3; have bY := aM cU; clear hi206_3 cU; replace p206 := eq_true p206; replace q206 := eq_true q206; go_upto_region 5 with (first | ((with_reducible refine gD 5 rfl ?_); (try (refine gate_guard (by rfl) ?_; dsimp only)); refine boxE (N := 5) rfl (cs := #[.int .i64 0, .int .i64 0, .string (⟨#[]⟩ : ByteArray), .slice none 0 0, .int .i64 0]) (t := 38) ?_; intro aG hg oK hbox hb; replace aI := xrb aI hb; have oL := aM (xge hg); have oM := aM (xge hg); replace HB := xbs hb; have bE := nblt aE hg; have bG := nbgt aE hg; replace aE := xbb aE hb; have aD := aM (hbox); clear hb hbox hg; have oO := bG.out; have oP := bE.out; obtain ⟨jL, jM, jN, jO, jP, jQ, jR, jS, jT, jU⟩ := xf5 (w := oK) aD) | ((with_reducible refine gate_store (t := 38) (p := 5) rfl ?_); refine store_event (t := 38) (p := 5) (v := ?vo_w13) (w1 := (((((oK.setCell ⟨aG, 0, none⟩ (.int .i64 ((rd_T38 aC aA).f0))).setCell ⟨aG, 1, none⟩ (.int .i64 ((rd_T38 aC aA).f1))).setCell ⟨aG, 2, none⟩ (.string ((rd_T38 aC aA).f2))).setCell ⟨aG, 3, none⟩ (.slice aZ ((rd_T38 aC aA).f3).length bA)).setCell ⟨aG, 4, none⟩ (.int .i64 ((rd_T38 aC aA).f4)))) ?hg ?ho ?hn ?hr ?_; (case ho | hg | hn => rfl); (case hr => first | (go_simp; done) | (go_simp; rfl)); intro gF hw; replace aI : Aside0 (Kd.R (Kd.int .i64) 3 gF w.heap.size (fun _ => True) u3 aY) := xwm hw aI (fun _ _ => trivial); replace aE := xwc hw aE; replace aD : Aside0 (gF.heap[aG]? = some (.cells #[.int .i64 ((rd_T38 aC aA).f0), .int .i64 ((rd_T38 aC aA).f1), .string ((rd_T38 aC aA).f2), .slice aZ ((rd_T38 aC aA).f3).length bA, .int .i64 ((rd_T38 aC aA).f4)] 38 (0, 0))) := xwp hw; replace HB := xbw hw HB; clear hw))
      (try simp only [Act.put, List.setIfInBounds_toArray, List.set_cons_zero, List.set_cons_succ]); go_cut [47] (fun v47 wc => ∃ (kq : Nat) (cV : Bool), v47 = .bool cV ∧ Aside0 (impl_RollOk.j1 kq aY aC (aC.length : Int) aA cV aJ aC bN bB ((rd_T38 aC aA).f0) ((rd_T38 aC aA).f1) ((rd_T38 aC aA).f2) ((rd_T38 aC aA).f3) ((rd_T38 aC aA).f4) = some r) ∧ Aside0 (kq ≤ k1) ∧ Aside0 (Kd.R (Kd.int .i64) 3 wc w.heap.size (fun _ => True) u3 aY) ∧ Aside0 (wc.heap[bM]? = some (.cells #[.int .i64 aJ, (.slice (some aH) aC.length cB), .int .i64 bN, (.slice cC bB.length cD)] 30 (0, 0))) ∧ Aside0 (wc.heap[aG]? = some (.cells #[.int .i64 ((rd_T38 aC aA).f0), .int .i64 ((rd_T38 aC aA).f1), .string ((rd_T38 aC aA).f2), (.slice aZ ((rd_T38 aC aA).f3).length bA), .int .i64 ((rd_T38 aC aA).f4)] 38 (0, 0))) ∧ Aside0 (Below w.heap.size w wc))
      case first =>
       have H := nS.out; clear nS; replace H := oB H; obtain ⟨gI, iJ, H⟩ := H; (try dsimp only at H); have hJ := aM iJ; clear iJ; by_cases hZ : gI = true
       ·subst hZ; replace H := iT H; by_cases iA : aA > 0
        ·rw [if_pos iA] at H; have cH : decide (0 < aA) = true := decide_eq_true iA; clear iA; (first | rw [cH] | (simp only [i64_w, i32_w]; rw [cH]) | skip); obtain ⟨ji17, hji17⟩ : ∃ j_ : Int, (wrap64 (aA - 1)) = j_ := ⟨_, rfl⟩; replace H : (if 0 ≤ (ji17) then (if (ji17) < (aC.length : Int) then (if ((rd_T38 aC (ji17)).f0) ≥ ((rd_T38 aC aA).f0) then (impl_RollOk.j1 k1 aY aC (aC.length : Int) aA true aJ aC bN bB ((rd_T38 aC aA).f0) ((rd_T38 aC aA).f1) ((rd_T38 aC aA).f2) ((rd_T38 aC aA).f3) ((rd_T38 aC aA).f4)) else ((impl_isSize.f ((rd_T38 aC aA).f1)).bind fun cX => (if cX = true then (impl_RollOk.j1 k1 aY aC (aC.length : Int) aA ((((rd_T38 aC aA).f2).size : Int) != 32) aJ aC bN bB ((rd_T38 aC aA).f0) ((rd_T38 aC aA).f1) ((rd_T38 aC aA).f2) ((rd_T38 aC aA).f3) ((rd_T38 aC aA).f4)) else (impl_RollOk.j1 k1 aY aC (aC.length : Int) aA true aJ aC bN bB ((rd_T38 aC aA).f0) ((rd_T38 aC aA).f1) ((rd_T38 aC aA).f2) ((rd_T38 aC aA).f3) ((rd_T38 aC aA).f4))))) else (none)) else (none)) = some r := by first | (rw [hji17] at H; exact H) | (simp only [hji17] at H ⊢; exact H)
         (try rw [hji17] at hJ); have hji17w : (IntKind.i64.wrap (aA - 1)) = ji17 := (i64_w _).trans hji17; by_cases jV : 0 ≤ (ji17)
         ·rw [if_pos jV] at H; have oQ : decide (0 ≤ (ji17)) = true := decide_eq_true jV; clear jV; by_cases jW : (ji17) < (aC.length : Int)
          ·rw [if_pos jW] at H; have oR : decide ((ji17) < (aC.length : Int)) = true := decide_eq_true jW; clear jW; by_cases gG : ((rd_T38 aC (ji17)).f0) ≥ ((rd_T38 aC aA).f0)
           ·rw [if_pos gG] at H; have iK : decide (((rd_T38 aC aA).f0) ≤ ((rd_T38 aC (ji17)).f0)) = true := decide_eq_true gG; clear gG; have H' := aM H; clear H; try go_wp2
            replace aI := rD aI; replace aE := bD aE; replace aD := bD aD; replace HB := lD HB; have p209 : 0 ≤ ((ji17) : Int) := oda; have q209 : (ji17) < (aC.length : Int) := oda; obtain ⟨cI, bZ, cA, dA, aT, aU, aV, aW, aX, bP, hi209_3⟩ := at_T38 cL.out (ji17) p209 q209; have bH := aX; have bI := aW; have bJ := aV; have bK := aU; have bL := aT; obtain rfl : aH = cI := (by injection dA); replace aT := xce HB aT; replace aU := xce HB aU; replace aV := xce HB aV; replace aW := xce HB aW; replace aX := xce HB aX; have bW := aM hi209_3; have cW := aM bP; clear hi209_3 bP; replace p209 := eq_true p209; replace q209 := eq_true q209; refine st_ 32 (fun w' => w'.cell? ⟨aG, 0, none⟩ = some (.int .i64 ((rd_T38 aC aA).f0)) ∧ w'.cell? ⟨aG, 1, none⟩ = some (.int .i64 ((rd_T38 aC aA).f1)) ∧ w'.cell? ⟨aG, 2, none⟩ = some (.string ((rd_T38 aC aA).f2)) ∧ w'.cell? ⟨aG, 3, none⟩ = some (.slice aZ ((rd_T38 aC aA).f3).length bA) ∧ w'.cell? ⟨aG, 4, none⟩ = some (.int .i64 ((rd_T38 aC aA).f4)) ∧ w'.cell? ⟨bM, 0, none⟩ = some (.int .i64 aJ) ∧ w'.cell? ⟨bM, 1, none⟩ = some (.slice (some aH) aC.length cB) ∧ w'.cell? ⟨bM, 2, none⟩ = some (.int .i64 bN) ∧ w'.cell? ⟨bM, 3, none⟩ = some (.slice cC bB.length cD) ∧ w'.cell? (aH.add (((ji17)).toNat * 5)) = some (.int .i64 ((rd_T38 aC (ji17)).f0)) ∧ w'.cell? ⟨(aH.add (((ji17)).toNat * 5)).block, (aH.add (((ji17)).toNat * 5)).off + 1, none⟩ = some (.int .i64 ((rd_T38 aC (ji17)).f1)) ∧ w'.cell? ⟨(aH.add (((ji17)).toNat * 5)).block, (aH.add (((ji17)).toNat * 5)).off + 2, none⟩ = some (.string ((rd_T38 aC (ji17)).f2)) ∧ w'.cell? ⟨(aH.add (((ji17)).toNat * 5)).block, (aH.add (((ji17)).toNat * 5)).off + 3, none⟩ = some (.slice bZ ((rd_T38 aC (ji17)).f3).length cA) ∧ w'.cell? ⟨(aH.add (((ji17)).toNat * 5)).block, (aH.add (((ji17)).toNat * 5)).off + 4, none⟩ = some (.int .i64 ((rd_T38 aC (ji17)).f4))) impl_RollOk.T5 impl_RollOk.B5 ⟨xc aD 0 rfl, xc aD 1 rfl, xc aD 2 rfl, xc aD 3 rfl, xc aD 4 rfl, xc aE 0 rfl, xc aE 1 rfl, xc aE 2 rfl, xc aE 3 rfl, (xce HB bL), (xce HB bK), (xce HB bJ), (xce HB bI), (xce HB bH)⟩ (fun hHeld HT_ HW_ => ?_); generalize gF.drew = qJ at aI aE aD HB bW aT aU aV aW aX hHeld ⊢; refine pV 0 16 ?_; refine tK 1 17 ?_; refine oN 2 18 fun K hK => ?_
            refine goesY Try.func38 #[.int .i64 ((rd_T38 aC aA).f0)] ?_; with_reducible refine (impl_isRelease.calls ((rd_T38 aC aA).f0) true _ hJ.out).mono ?_
            rintro e w' ⟨rfl, ⟨nd, rfl⟩⟩; refine ⟨_, rfl, ?_⟩; refine hK.out _ _ ⟨xc aD 0 rfl, xc aD 1 rfl, xc aD 2 rfl, xc aD 3 rfl, xc aD 4 rfl, xc aE 0 rfl, xc aE 1 rfl, xc aE 2 rfl, xc aE 3 rfl, (xce HB bL), (xce HB bK), (xce HB bJ), (xce HB bI), (xce HB bH)⟩ (fun hHeld => ?_); clear hK K; refine nm_ (N := 18) ?_; refine pV 3 19 ?_; refine pV 4 20 ?_; refine pV 5 21 ?_; refine pV 6 22 ?_; refine pV 7 23 ?_; refine pV 8 24 ?_; refine pV 10 26 ?_; refine pV 11 27 ?_; refine pV 15 31 ?_; refine tK 9 25 ?_; refine pV 12 28 ?_; refine pV 13 29 ?_; refine tK 14 30 ?_; refine tK 16 32 ?_; refine pV 17 33 ?_; refine pV 18 34 ?_; refine pV 19 35 ?_; refine pV 20 36 ?_; refine pU 21 37 ?_; refine pU 22 38 ?_; refine pU 23 39 ?_; refine pU 24 40 ?_; refine pV 25 41 ?_; refine pV 26 42 ?_; refine pU 27 43 ?_; refine pU 28 44 ?_; refine pU 29 45 ?_; refine pU 30 46 ?_; refine pV 31 47 ?_; refine dn_ ?_; try go_wp2
            go_meet
            case rel => exact ⟨_, (true), u6_0, H', ⟨u6_2⟩, ⟨u6_1⟩, ⟨xblk⟩, ⟨xblk⟩, ⟨xbg⟩⟩
           ·rw [if_neg gG] at H; have iK : decide (((rd_T38 aC aA).f0) ≤ ((rd_T38 aC (ji17)).f0)) = false := decide_eq_false gG; clear gG; replace H := oB H; obtain ⟨cX, iL, H⟩ := H; (try dsimp only at H); have oT := aM iL; clear iL
            by_cases jX : cX = true
            ·subst jX; replace H := iT H; have H' := aM H; clear H; try go_wp2
             replace aI := rD aI; replace aE := bD aE; replace aD := bD aD; replace HB := lD HB; have p209 : 0 ≤ ((ji17) : Int) := oda; have q209 : (ji17) < (aC.length : Int) := oda; obtain ⟨cI, bZ, cA, dA, aT, aU, aV, aW, aX, bP, hi209_3⟩ := at_T38 cL.out (ji17) p209 q209; have bH := aX; have bI := aW; have bJ := aV; have bK := aU; have bL := aT; obtain rfl : aH = cI := (by injection dA); replace aT := xce HB aT; replace aU := xce HB aU; replace aV := xce HB aV; replace aW := xce HB aW; replace aX := xce HB aX; have bW := aM hi209_3; have cW := aM bP; clear hi209_3 bP; replace p209 := eq_true p209; replace q209 := eq_true q209; refine st_ 32 (fun w' => w'.cell? ⟨aG, 0, none⟩ = some (.int .i64 ((rd_T38 aC aA).f0)) ∧ w'.cell? ⟨aG, 1, none⟩ = some (.int .i64 ((rd_T38 aC aA).f1)) ∧ w'.cell? ⟨aG, 2, none⟩ = some (.string ((rd_T38 aC aA).f2)) ∧ w'.cell? ⟨aG, 3, none⟩ = some (.slice aZ ((rd_T38 aC aA).f3).length bA) ∧ w'.cell? ⟨aG, 4, none⟩ = some (.int .i64 ((rd_T38 aC aA).f4)) ∧ w'.cell? ⟨bM, 0, none⟩ = some (.int .i64 aJ) ∧ w'.cell? ⟨bM, 1, none⟩ = some (.slice (some aH) aC.length cB) ∧ w'.cell? ⟨bM, 2, none⟩ = some (.int .i64 bN) ∧ w'.cell? ⟨bM, 3, none⟩ = some (.slice cC bB.length cD) ∧ w'.cell? (aH.add (((ji17)).toNat * 5)) = some (.int .i64 ((rd_T38 aC (ji17)).f0)) ∧ w'.cell? ⟨(aH.add (((ji17)).toNat * 5)).block, (aH.add (((ji17)).toNat * 5)).off + 1, none⟩ = some (.int .i64 ((rd_T38 aC (ji17)).f1)) ∧ w'.cell? ⟨(aH.add (((ji17)).toNat * 5)).block, (aH.add (((ji17)).toNat * 5)).off + 2, none⟩ = some (.string ((rd_T38 aC (ji17)).f2)) ∧ w'.cell? ⟨(aH.add (((ji17)).toNat * 5)).block, (aH.add (((ji17)).toNat * 5)).off + 3, none⟩ = some (.slice bZ ((rd_T38 aC (ji17)).f3).length cA) ∧ w'.cell? ⟨(aH.add (((ji17)).toNat * 5)).block, (aH.add (((ji17)).toNat * 5)).off + 4, none⟩ = some (.int .i64 ((rd_T38 aC (ji17)).f4))) impl_RollOk.T5 impl_RollOk.B5 ⟨xc aD 0 rfl, xc aD 1 rfl, xc aD 2 rfl, xc aD 3 rfl, xc aD 4 rfl, xc aE 0 rfl, xc aE 1 rfl, xc aE 2 rfl, xc aE 3 rfl, (xce HB bL), (xce HB bK), (xce HB bJ), (xce HB bI), (xce HB bH)⟩ (fun hHeld HT_ HW_ => ?_); generalize gF.drew = qK at aI aE aD HB bW aT aU aV aW aX hHeld ⊢; refine pV 0 16 ?_; refine tK 1 17 ?_; refine oN 2 18 fun K hK => ?_
             refine goesY Try.func38 #[.int .i64 ((rd_T38 aC aA).f0)] ?_; with_reducible refine (impl_isRelease.calls ((rd_T38 aC aA).f0) true _ hJ.out).mono ?_
             rintro e w' ⟨rfl, ⟨nd, rfl⟩⟩; refine ⟨_, rfl, ?_⟩; refine hK.out _ _ ⟨xc aD 0 rfl, xc aD 1 rfl, xc aD 2 rfl, xc aD 3 rfl, xc aD 4 rfl, xc aE 0 rfl, xc aE 1 rfl, xc aE 2 rfl, xc aE 3 rfl, (xce HB bL), (xce HB bK), (xce HB bJ), (xce HB bI), (xce HB bH)⟩ (fun hHeld => ?_); clear hK K; refine nm_ (N := 18) ?_; refine pV 3 19 ?_; refine pV 4 20 ?_; refine pV 5 21 ?_; refine pV 6 22 ?_; refine pV 7 23 ?_; refine pV 8 24 ?_; refine pV 10 26 ?_; refine pV 11 27 ?_; refine pV 15 31 ?_; refine tK 9 25 ?_; refine pV 12 28 ?_; refine pV 13 29 ?_; refine tK 14 30 ?_; refine tK 16 32 ?_; refine pV 17 33 ?_; refine pV 18 34 ?_; refine pV 19 35 ?_; refine pV 20 36 ?_; refine pV 21 37 ?_; refine tK 22 38 ?_; refine oN 23 39 fun K hK => ?_
             refine goesY Try.func39 #[.int .i64 ((rd_T38 aC aA).f1)] ?_; with_reducible refine (impl_isSize.calls ((rd_T38 aC aA).f1) true _ oT.out).mono ?_
             rintro e w' ⟨rfl, ⟨nd, rfl⟩⟩; refine ⟨_, rfl, ?_⟩; refine hK.out _ _ ⟨xc aD 0 rfl, xc aD 1 rfl, xc aD 2 rfl, xc aD 3 rfl, xc aD 4 rfl, xc aE 0 rfl, xc aE 1 rfl, xc aE 2 rfl, xc aE 3 rfl, (xce HB bL), (xce HB bK), (xce HB bJ), (xce HB bI), (xce HB bH)⟩ (fun hHeld => ?_); clear hK K; refine nm_ (N := 39) ?_; refine pV 24 40 ?_; refine pV 25 41 ?_; refine pV 26 42 ?_; refine pV 27 43 ?_; refine tK 28 44 ?_; refine pV 29 45 ?_; refine pV 30 46 ?_; refine pV 31 47 ?_; refine dn_ ?_; try go_wp2
             go_meet
             case rel => exact ⟨_, (((((rd_T38 aC aA).f2).size : Int) != 32)), u6_0, H', ⟨u6_2⟩, ⟨u6_1⟩, ⟨xblk⟩, ⟨xblk⟩, ⟨xbg⟩⟩
            ·replace jX := Bool.eq_false_iff.mpr jX; subst jX; replace H := iN H; have H' := aM H; clear H; try go_wp2
             replace aI := rD aI; replace aE := bD aE; replace aD := bD aD; replace HB := lD HB; have p209 : 0 ≤ ((ji17) : Int) := oda; have q209 : (ji17) < (aC.length : Int) := oda; obtain ⟨cI, bZ, cA, dA, aT, aU, aV, aW, aX, bP, hi209_3⟩ := at_T38 cL.out (ji17) p209 q209; have bH := aX; have bI := aW; have bJ := aV; have bK := aU; have bL := aT; obtain rfl : aH = cI := (by injection dA); replace aT := xce HB aT; replace aU := xce HB aU; replace aV := xce HB aV; replace aW := xce HB aW; replace aX := xce HB aX; have bW := aM hi209_3; have cW := aM bP; clear hi209_3 bP; replace p209 := eq_true p209; replace q209 := eq_true q209; refine st_ 32 (fun w' => w'.cell? ⟨aG, 0, none⟩ = some (.int .i64 ((rd_T38 aC aA).f0)) ∧ w'.cell? ⟨aG, 1, none⟩ = some (.int .i64 ((rd_T38 aC aA).f1)) ∧ w'.cell? ⟨aG, 2, none⟩ = some (.string ((rd_T38 aC aA).f2)) ∧ w'.cell? ⟨aG, 3, none⟩ = some (.slice aZ ((rd_T38 aC aA).f3).length bA) ∧ w'.cell? ⟨aG, 4, none⟩ = some (.int .i64 ((rd_T38 aC aA).f4)) ∧ w'.cell? ⟨bM, 0, none⟩ = some (.int .i64 aJ) ∧ w'.cell? ⟨bM, 1, none⟩ = some (.slice (some aH) aC.length cB) ∧ w'.cell? ⟨bM, 2, none⟩ = some (.int .i64 bN) ∧ w'.cell? ⟨bM, 3, none⟩ = some (.slice cC bB.length cD) ∧ w'.cell? (aH.add (((ji17)).toNat * 5)) = some (.int .i64 ((rd_T38 aC (ji17)).f0)) ∧ w'.cell? ⟨(aH.add (((ji17)).toNat * 5)).block, (aH.add (((ji17)).toNat * 5)).off + 1, none⟩ = some (.int .i64 ((rd_T38 aC (ji17)).f1)) ∧ w'.cell? ⟨(aH.add (((ji17)).toNat * 5)).block, (aH.add (((ji17)).toNat * 5)).off + 2, none⟩ = some (.string ((rd_T38 aC (ji17)).f2)) ∧ w'.cell? ⟨(aH.add (((ji17)).toNat * 5)).block, (aH.add (((ji17)).toNat * 5)).off + 3, none⟩ = some (.slice bZ ((rd_T38 aC (ji17)).f3).length cA) ∧ w'.cell? ⟨(aH.add (((ji17)).toNat * 5)).block, (aH.add (((ji17)).toNat * 5)).off + 4, none⟩ = some (.int .i64 ((rd_T38 aC (ji17)).f4))) impl_RollOk.T5 impl_RollOk.B5 ⟨xc aD 0 rfl, xc aD 1 rfl, xc aD 2 rfl, xc aD 3 rfl, xc aD 4 rfl, xc aE 0 rfl, xc aE 1 rfl, xc aE 2 rfl, xc aE 3 rfl, (xce HB bL), (xce HB bK), (xce HB bJ), (xce HB bI), (xce HB bH)⟩ (fun hHeld HT_ HW_ => ?_); generalize gF.drew = qL at aI aE aD HB bW aT aU aV aW aX hHeld ⊢; refine pV 0 16 ?_; refine tK 1 17 ?_; refine oN 2 18 fun K hK => ?_
             refine goesY Try.func38 #[.int .i64 ((rd_T38 aC aA).f0)] ?_; with_reducible refine (impl_isRelease.calls ((rd_T38 aC aA).f0) true _ hJ.out).mono ?_
             rintro e w' ⟨rfl, ⟨nd, rfl⟩⟩; refine ⟨_, rfl, ?_⟩; refine hK.out _ _ ⟨xc aD 0 rfl, xc aD 1 rfl, xc aD 2 rfl, xc aD 3 rfl, xc aD 4 rfl, xc aE 0 rfl, xc aE 1 rfl, xc aE 2 rfl, xc aE 3 rfl, (xce HB bL), (xce HB bK), (xce HB bJ), (xce HB bI), (xce HB bH)⟩ (fun hHeld => ?_); clear hK K; refine nm_ (N := 18) ?_; refine pV 3 19 ?_; refine pV 4 20 ?_; refine pV 5 21 ?_; refine pV 6 22 ?_; refine pV 7 23 ?_; refine pV 8 24 ?_; refine pV 10 26 ?_; refine pV 11 27 ?_; refine pV 15 31 ?_; refine tK 9 25 ?_; refine pV 12 28 ?_; refine pV 13 29 ?_; refine tK 14 30 ?_; refine tK 16 32 ?_; refine pV 17 33 ?_; refine pV 18 34 ?_; refine pV 19 35 ?_; refine pV 20 36 ?_; refine pV 21 37 ?_; refine tK 22 38 ?_; refine oN 23 39 fun K hK => ?_
             refine goesY Try.func39 #[.int .i64 ((rd_T38 aC aA).f1)] ?_; with_reducible refine (impl_isSize.calls ((rd_T38 aC aA).f1) false _ oT.out).mono ?_
             rintro e w' ⟨rfl, ⟨nd, rfl⟩⟩; refine ⟨_, rfl, ?_⟩; refine hK.out _ _ ⟨xc aD 0 rfl, xc aD 1 rfl, xc aD 2 rfl, xc aD 3 rfl, xc aD 4 rfl, xc aE 0 rfl, xc aE 1 rfl, xc aE 2 rfl, xc aE 3 rfl, (xce HB bL), (xce HB bK), (xce HB bJ), (xce HB bI), (xce HB bH)⟩ (fun hHeld => ?_); clear hK K; refine nm_ (N := 39) ?_; refine pV 24 40 ?_; refine pV 25 41 ?_; refine pV 26 42 ?_; refine pU 27 43 ?_; refine pU 28 44 ?_; refine pU 29 45 ?_; refine pU 30 46 ?_; refine pV 31 47 ?_; refine dn_ ?_; try go_wp2
             go_meet
             case rel => exact ⟨_, (true), u6_0, H', ⟨u6_2⟩, ⟨u6_1⟩, ⟨xblk⟩, ⟨xblk⟩, ⟨xbg⟩⟩
          ·rw [if_neg jW] at H; exact absurd H (by simp)
         ·rw [if_neg jV] at H; exact absurd H (by simp)
        ·rw [if_neg iA] at H; have cH : decide (0 < aA) = false := decide_eq_false iA; clear iA; (first | rw [cH] | (simp only [i64_w, i32_w]; rw [cH]) | skip); replace H := oB H; obtain ⟨gJ, iM, H⟩ := H; (try dsimp only at H); have oU := aM iM; clear iM
         by_cases iB : gJ = true
         ·subst iB; replace H := iT H; have H' := aM H; clear H; try go_wp2
          replace aI := rD aI; replace aE := bD aE; replace aD := bD aD; replace HB := lD HB; refine st_ 32 (fun w' => w'.cell? ⟨aG, 0, none⟩ = some (.int .i64 ((rd_T38 aC aA).f0)) ∧ w'.cell? ⟨aG, 1, none⟩ = some (.int .i64 ((rd_T38 aC aA).f1)) ∧ w'.cell? ⟨aG, 2, none⟩ = some (.string ((rd_T38 aC aA).f2)) ∧ w'.cell? ⟨aG, 3, none⟩ = some (.slice aZ ((rd_T38 aC aA).f3).length bA) ∧ w'.cell? ⟨aG, 4, none⟩ = some (.int .i64 ((rd_T38 aC aA).f4))) impl_RollOk.T5 impl_RollOk.B5 ⟨xc aD 0 rfl, xc aD 1 rfl, xc aD 2 rfl, xc aD 3 rfl, xc aD 4 rfl⟩ (fun hHeld HT_ HW_ => ?_); generalize gF.drew = qM at aI aE aD HB hHeld ⊢; refine pV 0 16 ?_; refine tK 1 17 ?_; refine oN 2 18 fun K hK => ?_
          refine goesY Try.func38 #[.int .i64 ((rd_T38 aC aA).f0)] ?_; with_reducible refine (impl_isRelease.calls ((rd_T38 aC aA).f0) true _ hJ.out).mono ?_
          rintro e w' ⟨rfl, ⟨nd, rfl⟩⟩; refine ⟨_, rfl, ?_⟩; refine hK.out _ _ ⟨xc aD 0 rfl, xc aD 1 rfl, xc aD 2 rfl, xc aD 3 rfl, xc aD 4 rfl⟩ (fun hHeld => ?_); clear hK K; refine nm_ (N := 18) ?_; refine pV 3 19 ?_; refine pV 4 20 ?_; refine pV 5 21 ?_; refine pV 6 22 ?_; refine pV 7 23 ?_; refine pU 8 24 ?_; refine pU 9 25 ?_; refine pU 10 26 ?_; refine pU 11 27 ?_; refine pU 12 28 ?_; refine pU 13 29 ?_; refine pU 14 30 ?_; refine pU 15 31 ?_; refine pU 16 32 ?_; refine pU 17 33 ?_; refine pV 18 34 ?_; refine pV 19 35 ?_; refine pV 20 36 ?_; refine pV 21 37 ?_; refine tK 22 38 ?_; refine oN 23 39 fun K hK => ?_
          refine goesY Try.func39 #[.int .i64 ((rd_T38 aC aA).f1)] ?_; with_reducible refine (impl_isSize.calls ((rd_T38 aC aA).f1) true _ oU.out).mono ?_
          rintro e w' ⟨rfl, ⟨nd, rfl⟩⟩; refine ⟨_, rfl, ?_⟩; refine hK.out _ _ ⟨xc aD 0 rfl, xc aD 1 rfl, xc aD 2 rfl, xc aD 3 rfl, xc aD 4 rfl⟩ (fun hHeld => ?_); clear hK K; refine nm_ (N := 39) ?_; refine pV 24 40 ?_; refine pV 25 41 ?_; refine pV 26 42 ?_; refine pV 27 43 ?_; refine tK 28 44 ?_; refine pV 29 45 ?_; refine pV 30 46 ?_; refine pV 31 47 ?_; refine dn_ ?_; try go_wp2
          go_meet
          case rel => exact ⟨_, (((((rd_T38 aC aA).f2).size : Int) != 32)), u6_0, H', ⟨u6_2⟩, ⟨u6_1⟩, ⟨xblk⟩, ⟨xblk⟩, ⟨xbg⟩⟩
         ·replace iB := Bool.eq_false_iff.mpr iB; subst iB; replace H := iN H; have H' := aM H; clear H; try go_wp2
          replace aI := rD aI; replace aE := bD aE; replace aD := bD aD; replace HB := lD HB; refine st_ 32 (fun w' => w'.cell? ⟨aG, 0, none⟩ = some (.int .i64 ((rd_T38 aC aA).f0)) ∧ w'.cell? ⟨aG, 1, none⟩ = some (.int .i64 ((rd_T38 aC aA).f1)) ∧ w'.cell? ⟨aG, 2, none⟩ = some (.string ((rd_T38 aC aA).f2)) ∧ w'.cell? ⟨aG, 3, none⟩ = some (.slice aZ ((rd_T38 aC aA).f3).length bA) ∧ w'.cell? ⟨aG, 4, none⟩ = some (.int .i64 ((rd_T38 aC aA).f4))) impl_RollOk.T5 impl_RollOk.B5 ⟨xc aD 0 rfl, xc aD 1 rfl, xc aD 2 rfl, xc aD 3 rfl, xc aD 4 rfl⟩ (fun hHeld HT_ HW_ => ?_); generalize gF.drew = qN at aI aE aD HB hHeld ⊢; refine pV 0 16 ?_; refine tK 1 17 ?_; refine oN 2 18 fun K hK => ?_
          refine goesY Try.func38 #[.int .i64 ((rd_T38 aC aA).f0)] ?_; with_reducible refine (impl_isRelease.calls ((rd_T38 aC aA).f0) true _ hJ.out).mono ?_
          rintro e w' ⟨rfl, ⟨nd, rfl⟩⟩; refine ⟨_, rfl, ?_⟩; refine hK.out _ _ ⟨xc aD 0 rfl, xc aD 1 rfl, xc aD 2 rfl, xc aD 3 rfl, xc aD 4 rfl⟩ (fun hHeld => ?_); clear hK K; refine nm_ (N := 18) ?_; refine pV 3 19 ?_; refine pV 4 20 ?_; refine pV 5 21 ?_; refine pV 6 22 ?_; refine pV 7 23 ?_; refine pU 8 24 ?_; refine pU 9 25 ?_; refine pU 10 26 ?_; refine pU 11 27 ?_; refine pU 12 28 ?_; refine pU 13 29 ?_; refine pU 14 30 ?_; refine pU 15 31 ?_; refine pU 16 32 ?_; refine pU 17 33 ?_; refine pV 18 34 ?_; refine pV 19 35 ?_; refine pV 20 36 ?_; refine pV 21 37 ?_; refine tK 22 38 ?_; refine oN 23 39 fun K hK => ?_
          refine goesY Try.func39 #[.int .i64 ((rd_T38 aC aA).f1)] ?_; with_reducible refine (impl_isSize.calls ((rd_T38 aC aA).f1) false _ oU.out).mono ?_
          rintro e w' ⟨rfl, ⟨nd, rfl⟩⟩; refine ⟨_, rfl, ?_⟩; refine hK.out _ _ ⟨xc aD 0 rfl, xc aD 1 rfl, xc aD 2 rfl, xc aD 3 rfl, xc aD 4 rfl⟩ (fun hHeld => ?_); clear hK K; refine nm_ (N := 39) ?_; refine pV 24 40 ?_; refine pV 25 41 ?_; refine pV 26 42 ?_; refine pU 27 43 ?_; refine pU 28 44 ?_; refine pU 29 45 ?_; refine pU 30 46 ?_; refine pV 31 47 ?_; refine dn_ ?_; try go_wp2
          go_meet
          case rel => exact ⟨_, (true), u6_0, H', ⟨u6_2⟩, ⟨u6_1⟩, ⟨xblk⟩, ⟨xblk⟩, ⟨xbg⟩⟩
       ·replace hZ := Bool.eq_false_iff.mpr hZ; subst hZ; replace H := iN H; have H' := aM H; clear H; try go_wp2
        replace aI := rD aI; replace aE := bD aE; replace aD := bD aD; replace HB := lD HB; refine st_ 32 (fun w' => w'.cell? ⟨aG, 0, none⟩ = some (.int .i64 ((rd_T38 aC aA).f0)) ∧ w'.cell? ⟨aG, 1, none⟩ = some (.int .i64 ((rd_T38 aC aA).f1)) ∧ w'.cell? ⟨aG, 2, none⟩ = some (.string ((rd_T38 aC aA).f2)) ∧ w'.cell? ⟨aG, 3, none⟩ = some (.slice aZ ((rd_T38 aC aA).f3).length bA) ∧ w'.cell? ⟨aG, 4, none⟩ = some (.int .i64 ((rd_T38 aC aA).f4))) impl_RollOk.T5 impl_RollOk.B5 ⟨xc aD 0 rfl, xc aD 1 rfl, xc aD 2 rfl, xc aD 3 rfl, xc aD 4 rfl⟩ (fun hHeld HT_ HW_ => ?_); generalize gF.drew = qO at aI aE aD HB hHeld ⊢; refine pV 0 16 ?_; refine tK 1 17 ?_; refine oN 2 18 fun K hK => ?_
        refine goesY Try.func38 #[.int .i64 ((rd_T38 aC aA).f0)] ?_; with_reducible refine (impl_isRelease.calls ((rd_T38 aC aA).f0) false _ hJ.out).mono ?_
        rintro e w' ⟨rfl, ⟨nd, rfl⟩⟩; refine ⟨_, rfl, ?_⟩; refine hK.out _ _ ⟨xc aD 0 rfl, xc aD 1 rfl, xc aD 2 rfl, xc aD 3 rfl, xc aD 4 rfl⟩ (fun hHeld => ?_); clear hK K; refine nm_ (N := 18) ?_; refine pV 3 19 ?_; refine pV 4 20 ?_; refine pU 5 21 ?_; refine pU 6 22 ?_; refine pU 7 23 ?_; refine pU 8 24 ?_; refine pU 9 25 ?_; refine pU 10 26 ?_; refine pU 11 27 ?_; refine pU 12 28 ?_; refine pU 13 29 ?_; refine pU 14 30 ?_; refine pU 15 31 ?_; refine pU 16 32 ?_; refine pU 17 33 ?_; refine pU 18 34 ?_; refine pV 19 35 ?_; refine pV 20 36 ?_; refine pU 21 37 ?_; refine pU 22 38 ?_; refine pU 23 39 ?_; refine pU 24 40 ?_; refine pV 25 41 ?_; refine pV 26 42 ?_; refine pU 27 43 ?_; refine pU 28 44 ?_; refine pU 29 45 ?_; refine pU 30 46 ?_; refine pV 31 47 ?_; refine dn_ ?_; try go_wp2
        go_meet
        case rel => exact ⟨_, (true), u6_0, H', ⟨u6_2⟩, ⟨u6_1⟩, ⟨xblk⟩, ⟨xblk⟩, ⟨xbg⟩⟩
      case rest =>
       clear nS; try clear c1
       try clear c2
       try clear p2
       try clear c3
       try clear hZ
       try clear gG
       try clear iB
       obtain ⟨kq, cV, rfl, HA, HJ8, aI, aE, aD, HB⟩ := hcut; cases kq with
       | zero => exact absurd HA.out (by simp [impl_RollOk.j1])
       | succ iO =>
        have H := HA.out; clear HA; simp only [impl_RollOk.j1] at H; by_cases iP : cV = true
        ·subst iP; replace H := iT H; obtain rfl := Option.some.inj H; go_wp2; go_ret
         exact ⟨u6_3, xbg⟩
        ·replace iP := Bool.eq_false_iff.mpr iP; subst iP; replace H := iN H; have hU := aM H; clear H; go_upto_region 7 with (fail)
         go_cut [72] (fun v72 wc => ∃ (kq : Nat) (cF : Bool), v72 = .bool cF ∧ Aside0 (impl_RollOk.j2 kq aY aC (aC.length : Int) aA cF aJ aC bN bB ((rd_T38 aC aA).f0) ((rd_T38 aC aA).f1) ((rd_T38 aC aA).f2) ((rd_T38 aC aA).f3) ((rd_T38 aC aA).f4) = some r) ∧ Aside0 (kq ≤ iO) ∧ Aside0 (Kd.R (Kd.int .i64) 3 wc w.heap.size (fun _ => True) u3 aY) ∧ Aside0 (wc.heap[bM]? = some (.cells #[.int .i64 aJ, (.slice (some aH) aC.length cB), .int .i64 bN, (.slice cC bB.length cD)] 30 (0, 0))) ∧ Aside0 (wc.heap[aG]? = some (.cells #[.int .i64 ((rd_T38 aC aA).f0), .int .i64 ((rd_T38 aC aA).f1), .string ((rd_T38 aC aA).f2), (.slice aZ ((rd_T38 aC aA).f3).length bA), .int .i64 ((rd_T38 aC aA).f4)] 38 (0, 0))) ∧ Aside0 (Below w.heap.size w wc))
         case first =>
          have H := hU.out; clear hU; replace H := oB H; obtain ⟨gM, iQ, H⟩ := H; (try dsimp only at H); have jY := aM iQ; clear iQ
          by_cases iR : gM = true
          ·subst iR; replace H := iT H; replace H := oB H; obtain ⟨gN, iS, H⟩ := H; (try dsimp only at H); have nU := aM iS; clear iS
           by_cases iU : gN = true
           ·subst iU; replace H := iT H; by_cases iC : ((rd_T38 aC aA).f4) = 2
            ·rw [if_pos iC] at H; obtain ⟨cE, gH⟩ := bT iC; clear iC; (first | rw [cE] | (simp only [i64_w, i32_w]; rw [cE]) | skip); have H' := aM H; clear H; have oV := bG.out; have oW := bE.out; obtain ⟨dD, dE, dF, dG, dH, dI, dJ, dK, dL, dM⟩ := xf5 (w := wc) aD; obtain ⟨dN, dO, dP, dQ, dR, dS, dU, dV⟩ := xf4 (w := wc) aE; go_wp2_with (first | ((with_reducible refine gC 40 rfl ?_); refine goesLY (some 52) rfl Try.func40 #[.slice aZ ((rd_T38 aC aA).f3).length bA, .int .i64 aJ] ?_; (with_reducible refine (impl_nodesAscend.calls iO _ _ ((rd_T38 aC aA).f3) aJ true _ ?side1 ?side2 jY.out).mono ?_); (case side1 => exact xcb bX); (case side2 => exact bY.out); rintro e w' ⟨rfl, ⟨nd, rfl⟩⟩; refine ⟨_, rfl, ?_⟩) | (go_at_call 27; (with_reducible refine (impl_within.calls ((rd_T38 aC aA).f4) 1 3 true _ nU.out).mono ?_); rintro e w' ⟨rfl, ⟨nd, rfl⟩⟩))
             go_meet
             case rel => exact ⟨_, (((((rd_T38 aC aA).f3).length : Int) != aJ)), u6_0, H', ⟨u6_4⟩, ⟨u6_1⟩, ⟨xblk⟩, ⟨xblk⟩, ⟨xbg⟩⟩
            ·rw [if_neg iC] at H; obtain ⟨cE, gH⟩ := bF iC; (first | rw [cE] | (simp only [i64_w, i32_w]; rw [cE]) | skip); have H' := aM H; clear H; have oX := bG.out; have oY := bE.out; obtain ⟨dW, dX, dY, dZ, eA, eB, eC, eD, eE, eF⟩ := xf5 (w := wc) aD; obtain ⟨eG, eH, eI, eJ, eK, eL, eM, eN⟩ := xf4 (w := wc) aE; go_wp2_with (first | ((with_reducible refine gC 40 rfl ?_); refine goesLY (some 52) rfl Try.func40 #[.slice aZ ((rd_T38 aC aA).f3).length bA, .int .i64 aJ] ?_; (with_reducible refine (impl_nodesAscend.calls iO _ _ ((rd_T38 aC aA).f3) aJ true _ ?side1 ?side2 jY.out).mono ?_); (case side1 => exact xcb bX); (case side2 => exact bY.out); rintro e w' ⟨rfl, ⟨nd, rfl⟩⟩; refine ⟨_, rfl, ?_⟩) | (go_at_call 27; (with_reducible refine (impl_within.calls ((rd_T38 aC aA).f4) 1 3 true _ nU.out).mono ?_); rintro e w' ⟨rfl, ⟨nd, rfl⟩⟩))
             go_meet
             case rel => exact ⟨_, (false), u6_0, H', ⟨u6_4⟩, ⟨u6_1⟩, ⟨xblk⟩, ⟨xblk⟩, ⟨xbg⟩⟩
           ·replace iU := Bool.eq_false_iff.mpr iU; subst iU; replace H := iN H; have H' := aM H; clear H; have oZ := bG.out; have pA := bE.out; obtain ⟨eO, eP, eQ, eR, eS, eT, eU, eV, eW, eX⟩ := xf5 (w := wc) aD; obtain ⟨eY, eZ, fA, fB, fC, fD, fE, fF⟩ := xf4 (w := wc) aE; go_wp2_with (first | ((with_reducible refine gC 40 rfl ?_); refine goesLY (some 52) rfl Try.func40 #[.slice aZ ((rd_T38 aC aA).f3).length bA, .int .i64 aJ] ?_; (with_reducible refine (impl_nodesAscend.calls iO _ _ ((rd_T38 aC aA).f3) aJ true _ ?side1 ?side2 jY.out).mono ?_); (case side1 => exact xcb bX); (case side2 => exact bY.out); rintro e w' ⟨rfl, ⟨nd, rfl⟩⟩; refine ⟨_, rfl, ?_⟩) | (go_at_call 27; (with_reducible refine (impl_within.calls ((rd_T38 aC aA).f4) 1 3 false _ nU.out).mono ?_); rintro e w' ⟨rfl, ⟨nd, rfl⟩⟩))
            go_meet
            case rel => exact ⟨_, (true), u6_0, H', ⟨u6_4⟩, ⟨u6_1⟩, ⟨xblk⟩, ⟨xblk⟩, ⟨xbg⟩⟩
          ·replace iR := Bool.eq_false_iff.mpr iR; subst iR; replace H := iN H; have H' := aM H; clear H; have pB := bG.out; have pC := bE.out; obtain ⟨fG, fH, fI, fJ, fK, fL, fM, fN, fO, fP⟩ := xf5 (w := wc) aD; obtain ⟨fQ, fR, fS, fT, fU, fV, fW, fX⟩ := xf4 (w := wc) aE; go_wp2_with (first | ((with_reducible refine gC 40 rfl ?_); refine goesLY (some 52) rfl Try.func40 #[.slice aZ ((rd_T38 aC aA).f3).length bA, .int .i64 aJ] ?_; (with_reducible refine (impl_nodesAscend.calls iO _ _ ((rd_T38 aC aA).f3) aJ false _ ?side1 ?side2 jY.out).mono ?_); (case side1 => exact xcb bX); (case side2 => exact bY.out); rintro e w' ⟨rfl, ⟨nd, rfl⟩⟩; refine ⟨_, rfl, ?_⟩))
           go_meet
           case rel => exact ⟨_, (true), u6_0, H', ⟨u6_4⟩, ⟨u6_1⟩, ⟨xblk⟩, ⟨xblk⟩, ⟨xbg⟩⟩
         case rest =>
          clear hU; try clear c1
          try clear c2
          try clear p2
          try clear c3
          try clear c4
          try clear hZ
          try clear gG
          try clear iB
          try clear iP
          try clear iR
          try clear iU
          try clear iC
          try clear cE
          try clear gH
          try clear qP
          try clear qQ
          try clear qR
          try clear qS
          try clear qT
          try clear qU
          try clear dD dE dF dG dH
          try clear dN dO dP dQ
          try clear dW dX dY dZ eA
          try clear eG eH eI eJ
          try clear eO eP eQ eR eS
          try clear eY eZ fA fB
          try clear fG fH fI fJ fK
          try clear fQ fR fS fT
          try clear dI dJ dK dL dM
          try clear dR dS dU dV
          try clear eB eC eD eE eF
          try clear eK eL eM eN
          try clear eT eU eV eW eX
          try clear fC fD fE fF
          try clear fL fM fN fO fP
          try clear fU fV fW fX
          try clear p2
          obtain ⟨kq, cF, rfl, HA, HJ31, aI, aE, aD, HB⟩ := hcut; cases kq with
          | zero => exact absurd HA.out (by simp [impl_RollOk.j2])
          | succ hX =>
           have H := HA.out; clear HA; simp only [impl_RollOk.j2] at H; by_cases jZ : cF = true
           ·subst jZ; replace H := iT H; obtain rfl := Option.some.inj H; go_wp2; go_ret
            exact ⟨u6_3, xbg⟩
           ·replace jZ := Bool.eq_false_iff.mpr jZ; subst jZ; replace H := iN H; by_cases iV : ((rd_T38 aC aA).f4) = 2
            ·rw [if_pos iV] at H; obtain ⟨iW, iX⟩ := bT iV; clear iV; by_cases kA : aY.length < 17592186044416
             ·rw [if_pos kA] at H; have LMc52 := aM kA; clear kA; obtain ⟨iY, hY⟩ : ∃ y_ : List Int, y_ = (aY ++ [((rd_T38 aC aA).f0)]) := ⟨_, rfl⟩; replace H : (impl_RollOk.l0 hX iY aC (aC.length : Int) (wrap64 (aA + 1)) aJ aC bN bB) = some r := u6_6; have iZ := aM hY; clear hY; have H' := aM H; clear H; have pD := bG.out; have pE := bE.out; obtain ⟨kB, kC, kE, kF, kG, kH, kI, kJ, kK, kL⟩ := xf5 (w := wc) aD; go_wp2_with (first | ((with_reducible refine gate_builtin (b := .append) (xs := #[.tmp 76, .tmp 79]) rfl ?_); (try (refine gate_guard (by rfl) ?_; dsimp only)); at_builtin; refine Kd.R_append (Kd.int .i64) (w0 := w) w.heap.size rfl (.tmp 76) (.tmp 79) 23 3 (.int .i64 0) 8 rfl Try.underlying23 info3 rfl (by decide) (by omega) u3 aY ((rd_T38 aC aA).f0) [.int .i64 ((rd_T38 aC aA).f0)] (fun _ => True) (fun _ => False) rfl rfl ?aP (fun _ hk => hk.elim) ?aF ?aO ?aB ?aS ?aL ?_; (case aP => exact rfl); (case aB => exact xbg); (case aF => exact (fun _ _ => trivial)); (case aO => exact (xr aI)); (case aS => exact (below_size xbg)); (case aL => have := LMc52.out; omega); intro v215 qV ho hb hg hat; rw [← iZ.out] at ho; replace aE := aM (blk_grown (g := bM) (o := .cells #[.int .i64 aJ, .slice (some aH) aC.length cB, .int .i64 bN, .slice cC bB.length cD] 30 (0, 0)) xblk hg (Kd.R_ne aI.out aE.out (by decide))); replace aD := aM (blk_grown (g := aG) (o := .cells #[.int .i64 ((rd_T38 aC aA).f0), .int .i64 ((rd_T38 aC aA).f1), .string ((rd_T38 aC aA).f2), .slice aZ ((rd_T38 aC aA).f3).length bA, .int .i64 ((rd_T38 aC aA).f4)] 38 (0, 0)) xblk hg (Kd.R_ne aI.out aD.out (by decide))); replace HB := aM (hb); have jA := aM (ho); clear aI; clear ho hb hg hat))
              go_roundg hX
              case measure => have := HK1.out; have := HJ8.out; have := HJ31.out; omega
              case rel => exact ⟨(iY), (wrap64 (aA + 1)), u6_0, H', ⟨by have := HK1.out; have := HJ8.out; have := HJ31.out; omega⟩, ⟨by (with_reducible repeat (first | apply Kd.R_alloc | apply Kd.R_drewN | apply Kd.R_drew)); exact jA.out⟩, ⟨xblk⟩, ⟨xbg⟩⟩
             ·rw [if_neg kA] at H; exact absurd H (by simp)
            ·rw [if_neg iV] at H; obtain ⟨iW, iX⟩ := bF iV; have H' := aM H; clear H; have pF := bG.out; have pG := bE.out; obtain ⟨kM, kN, kO, kP, kQ, kR, kS, kT, kU, kV⟩ := xf5 (w := wc) aD; go_wp2; go_roundg hX
             case measure => have := HK1.out; have := HJ8.out; have := HJ31.out; omega
             case rel => exact ⟨(aY), (wrap64 (aA + 1)), u6_0, H', ⟨by have := HK1.out; have := HJ8.out; have := HJ31.out; omega⟩, ⟨u6_1⟩, ⟨xblk⟩, ⟨xbg⟩⟩
     ·rw [if_neg c8] at H; exact absurd H (by simp)
    ·rw [if_neg c7] at H; exact absurd H (by simp)
   ·rw [if_neg c6] at H; have nR : decide (aA < (aC.length : Int)) = false := decide_eq_false c6; clear c6; by_cases iD : (aY.length : Int) > 0
    ·rw [if_pos iD] at H; have jB : decide (0 < (aY.length : Int)) = true := decide_eq_true iD; have jC : decide (0 < aY.length) = true := decide_eq_true (by omega); clear iD; obtain ⟨ji59, hji59⟩ : ∃ j_ : Int, (wrap64 ((aY.length : Int) - 1)) = j_ := ⟨_, rfl⟩; replace H : (if 0 ≤ (ji59) then (if (ji59) < (aY.length : Int) then ((impl_isOf.f aJ).bind fun cY => (if cY = true then (if (aC.length : Int) ≤ 30 then ((slices_Equal_int_int.f k1 aY bB).bind fun cZ => (if cZ = true then (some (bN == (rd aY (ji59)))) else (some false))) else (some false)) else (some false))) else (none)) else (none)) = some r := by first | (rw [hji59] at H; exact H) | (simp only [hji59] at H ⊢; exact H)
     have hji59w : (IntKind.i64.wrap ((aY.length : Int) - 1)) = ji59 := (i64_w _).trans hji59; by_cases kW : 0 ≤ (ji59)
     ·rw [if_pos kW] at H; have pH : decide (0 ≤ (ji59)) = true := decide_eq_true kW; clear kW; by_cases kX : (ji59) < (aY.length : Int)
      ·rw [if_pos kX] at H; have pI : decide ((ji59) < (aY.length : Int)) = true := decide_eq_true kX; clear kX; replace H := oB H; obtain ⟨cY, jD, H⟩ := H; (try dsimp only at H); have kY := aM jD; clear jD
       by_cases kZ : cY = true
       ·subst kZ; replace H := iT H; by_cases iE : (aC.length : Int) ≤ 30
        ·rw [if_pos iE] at H; have jE : decide ((aC.length : Int) ≤ 30) = true := decide_eq_true iE; have jF : decide (aC.length ≤ 30) = true := decide_eq_true (by omega); clear iE; replace H := oB H; obtain ⟨cZ, jG, H⟩ := H; (try dsimp only at H); have pJ := aM jG; clear jG
         by_cases lA : cZ = true
         ·subst lA; replace H := iT H; obtain rfl := Option.some.inj H; obtain ⟨pR, pS, nV⟩ := Kd.R_slice aI.out; subst nV; have p217 : 0 ≤ ((ji59) : Int) := oda; have q217 : (ji59) < (aY.length : Int) := oda; obtain ⟨dB, cK, cG⟩ := Kd.at_int (Kd.R_reads' aI.out).2.2 (ji59) p217 q217; cases cK
          replace p217 := eq_true p217; replace q217 := eq_true q217; obtain ⟨lB, lC, lE, lF, lG, lH, lI, lJ⟩ := xf4 (w := wr) aE; go_wp2_with (first | ((with_reducible refine gC 41 rfl ?_); refine goesLY (some 93) rfl Try.func41 #[.int .i64 aJ] ?_; (with_reducible refine (impl_isOf.calls aJ true _ kY.out).mono ?_); rintro e w' ⟨rfl, ⟨nd, rfl⟩⟩; refine ⟨_, rfl, ?_⟩) | (go_at_call 42; (with_reducible refine (slices_Equal_int_int.calls k1 _ _ aY _ _ bB true _ ?side1 ?side2 ?side3 ?side4 pJ.out).mono ?_); (case side1 => exact xC aI); (case side2 => exact (Kd.R_reads' aI.out).2.1); (case side3 => repeat (first | exact (Kd.C_below cM.out xbg) | (with_reducible refine Kd.C_alloc ?_ _) | (with_reducible refine Kd.C_drewN ?_ _) | (with_reducible refine Kd.C_drew ?_))); (case side4 => exact cN.out); rintro e w' ⟨rfl, ⟨nd, rfl⟩⟩))
          go_ret
          exact ⟨u6_5, xbg⟩
         ·replace lA := Bool.eq_false_iff.mpr lA; subst lA; replace H := iN H; obtain rfl := Option.some.inj H; obtain ⟨pT, pW, nW⟩ := Kd.R_slice aI.out; subst nW; have p217 : 0 ≤ ((ji59) : Int) := oda; have q217 : (ji59) < (aY.length : Int) := oda; obtain ⟨dB, cK, cG⟩ := Kd.at_int (Kd.R_reads' aI.out).2.2 (ji59) p217 q217; cases cK
          replace p217 := eq_true p217; replace q217 := eq_true q217; obtain ⟨lK, lL, lM, lN, lO, lP, lQ, lR⟩ := xf4 (w := wr) aE; go_wp2_with (first | ((with_reducible refine gC 41 rfl ?_); refine goesLY (some 93) rfl Try.func41 #[.int .i64 aJ] ?_; (with_reducible refine (impl_isOf.calls aJ true _ kY.out).mono ?_); rintro e w' ⟨rfl, ⟨nd, rfl⟩⟩; refine ⟨_, rfl, ?_⟩) | (go_at_call 42; (with_reducible refine (slices_Equal_int_int.calls k1 _ _ aY _ _ bB false _ ?side1 ?side2 ?side3 ?side4 pJ.out).mono ?_); (case side1 => exact xC aI); (case side2 => exact (Kd.R_reads' aI.out).2.1); (case side3 => repeat (first | exact (Kd.C_below cM.out xbg) | (with_reducible refine Kd.C_alloc ?_ _) | (with_reducible refine Kd.C_drewN ?_ _) | (with_reducible refine Kd.C_drew ?_))); (case side4 => exact cN.out); rintro e w' ⟨rfl, ⟨nd, rfl⟩⟩))
          go_ret
          exact ⟨u6_5, xbg⟩
        ·rw [if_neg iE] at H; have jE : decide ((aC.length : Int) ≤ 30) = false := decide_eq_false iE; have jF : decide (aC.length ≤ 30) = false := decide_eq_false (by omega); clear iE; obtain rfl := Option.some.inj H; obtain ⟨pX, pY, nX⟩ := Kd.R_slice aI.out; subst nX; have p217 : 0 ≤ ((ji59) : Int) := oda; have q217 : (ji59) < (aY.length : Int) := oda; obtain ⟨dB, cK, cG⟩ := Kd.at_int (Kd.R_reads' aI.out).2.2 (ji59) p217 q217; cases cK
         replace p217 := eq_true p217; replace q217 := eq_true q217; obtain ⟨lS, lT, lU, lV, lW, lX, lY, lZ⟩ := xf4 (w := wr) aE; go_wp2_with (first | ((with_reducible refine gC 41 rfl ?_); refine goesLY (some 93) rfl Try.func41 #[.int .i64 aJ] ?_; (with_reducible refine (impl_isOf.calls aJ true _ kY.out).mono ?_); rintro e w' ⟨rfl, ⟨nd, rfl⟩⟩; refine ⟨_, rfl, ?_⟩))
         go_ret
         exact ⟨u6_5, xbg⟩
       ·replace kZ := Bool.eq_false_iff.mpr kZ; subst kZ; replace H := iN H; obtain rfl := Option.some.inj H; obtain ⟨pZ, qA, nY⟩ := Kd.R_slice aI.out; subst nY; have p217 : 0 ≤ ((ji59) : Int) := oda; have q217 : (ji59) < (aY.length : Int) := oda; obtain ⟨dB, cK, cG⟩ := Kd.at_int (Kd.R_reads' aI.out).2.2 (ji59) p217 q217; cases cK
        replace p217 := eq_true p217; replace q217 := eq_true q217; obtain ⟨mA, mB, mC, mD, mE, mF, mG, mH⟩ := xf4 (w := wr) aE; go_wp2_with (first | ((with_reducible refine gC 41 rfl ?_); refine goesLY (some 93) rfl Try.func41 #[.int .i64 aJ] ?_; (with_reducible refine (impl_isOf.calls aJ false _ kY.out).mono ?_); rintro e w' ⟨rfl, ⟨nd, rfl⟩⟩; refine ⟨_, rfl, ?_⟩))
        go_ret
        exact ⟨u6_5, xbg⟩
      ·rw [if_neg kX] at H; exact absurd H (by simp)
     ·rw [if_neg kW] at H; exact absurd H (by simp)
    ·rw [if_neg iD] at H; have jB : decide (0 < (aY.length : Int)) = false := decide_eq_false iD; have jC : decide (0 < aY.length) = false := decide_eq_false (by omega); clear iD; replace H := oB H; obtain ⟨gK, jH, H⟩ := H; (try dsimp only at H); have mI := aM jH; clear jH
     by_cases mJ : gK = true
     ·subst mJ; replace H := iT H; by_cases iF : (aC.length : Int) ≤ 30
      ·rw [if_pos iF] at H; have jI : decide ((aC.length : Int) ≤ 30) = true := decide_eq_true iF; have jJ : decide (aC.length ≤ 30) = true := decide_eq_true (by omega); clear iF; replace H := oB H; obtain ⟨gL, jK, H⟩ := H; (try dsimp only at H); have pK := aM jK; clear jK
       by_cases mK : gL = true
       ·subst mK; replace H := iT H; obtain rfl := Option.some.inj H; obtain ⟨qB, qC, nZ⟩ := Kd.R_slice aI.out; subst nZ; obtain ⟨mL, mM, mN, mO, mP, mQ, mR, mS⟩ := xf4 (w := wr) aE; go_wp2_with (first | ((with_reducible refine gC 41 rfl ?_); refine goesLY (some 93) rfl Try.func41 #[.int .i64 aJ] ?_; (with_reducible refine (impl_isOf.calls aJ true _ mI.out).mono ?_); rintro e w' ⟨rfl, ⟨nd, rfl⟩⟩; refine ⟨_, rfl, ?_⟩) | (go_at_call 42; (with_reducible refine (slices_Equal_int_int.calls k1 _ _ aY _ _ bB true _ ?side1 ?side2 ?side3 ?side4 pK.out).mono ?_); (case side1 => exact xC aI); (case side2 => exact (Kd.R_reads' aI.out).2.1); (case side3 => repeat (first | exact (Kd.C_below cM.out xbg) | (with_reducible refine Kd.C_alloc ?_ _) | (with_reducible refine Kd.C_drewN ?_ _) | (with_reducible refine Kd.C_drew ?_))); (case side4 => exact cN.out); rintro e w' ⟨rfl, ⟨nd, rfl⟩⟩))
        go_ret
        exact ⟨u6_3, xbg⟩
       ·replace mK := Bool.eq_false_iff.mpr mK; subst mK; replace H := iN H; obtain rfl := Option.some.inj H; obtain ⟨qD, qE, oA⟩ := Kd.R_slice aI.out; subst oA; obtain ⟨mT, mU, mV, mW, mX, mY, mZ, nA⟩ := xf4 (w := wr) aE; go_wp2_with (first | ((with_reducible refine gC 41 rfl ?_); refine goesLY (some 93) rfl Try.func41 #[.int .i64 aJ] ?_; (with_reducible refine (impl_isOf.calls aJ true _ mI.out).mono ?_); rintro e w' ⟨rfl, ⟨nd, rfl⟩⟩; refine ⟨_, rfl, ?_⟩) | (go_at_call 42; (with_reducible refine (slices_Equal_int_int.calls k1 _ _ aY _ _ bB false _ ?side1 ?side2 ?side3 ?side4 pK.out).mono ?_); (case side1 => exact xC aI); (case side2 => exact (Kd.R_reads' aI.out).2.1); (case side3 => repeat (first | exact (Kd.C_below cM.out xbg) | (with_reducible refine Kd.C_alloc ?_ _) | (with_reducible refine Kd.C_drewN ?_ _) | (with_reducible refine Kd.C_drew ?_))); (case side4 => exact cN.out); rintro e w' ⟨rfl, ⟨nd, rfl⟩⟩))
        go_ret
        exact ⟨u6_3, xbg⟩
      ·rw [if_neg iF] at H; have jI : decide ((aC.length : Int) ≤ 30) = false := decide_eq_false iF; have jJ : decide (aC.length ≤ 30) = false := decide_eq_false (by omega); clear iF; obtain rfl := Option.some.inj H; obtain ⟨qF, qG, oC⟩ := Kd.R_slice aI.out; subst oC; obtain ⟨nB, nC, nD, nE, nF, nG, nH, nI⟩ := xf4 (w := wr) aE; go_wp2_with (first | ((with_reducible refine gC 41 rfl ?_); refine goesLY (some 93) rfl Try.func41 #[.int .i64 aJ] ?_; (with_reducible refine (impl_isOf.calls aJ true _ mI.out).mono ?_); rintro e w' ⟨rfl, ⟨nd, rfl⟩⟩; refine ⟨_, rfl, ?_⟩))
       go_ret
       exact ⟨u6_3, xbg⟩
     ·replace mJ := Bool.eq_false_iff.mpr mJ; subst mJ; replace H := iN H; obtain rfl := Option.some.inj H; obtain ⟨qH, qI, oD⟩ := Kd.R_slice aI.out; subst oD; obtain ⟨nJ, nK, nL, nM, nN, nO, nP, nQ⟩ := xf4 (w := wr) aE; go_wp2_with (first | ((with_reducible refine gC 41 rfl ?_); refine goesLY (some 93) rfl Try.func41 #[.int .i64 aJ] ?_; (with_reducible refine (impl_isOf.calls aJ false _ mI.out).mono ?_); rintro e w' ⟨rfl, ⟨nd, rfl⟩⟩; refine ⟨_, rfl, ?_⟩))
      go_ret
      exact ⟨u6_3, xbg⟩

-- NOT PRINTED: function 45 (impl_Rel)

end Go.Proofs.Ytppfnnpfamkclaa.QFnExactRollFind
