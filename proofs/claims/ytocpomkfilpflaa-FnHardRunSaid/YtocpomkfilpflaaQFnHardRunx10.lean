-- A walk, by a program of this session.
import Derived.Test.YtocpomkfilpflaaQFnHardRunx0
import Derived.Test.YtocpomkfilpflaaQFnHardRunx2
import Derived.Test.YtocpomkfilpflaaQFnHardRunx9
namespace Go.Proofs.Ytocpomkfilpflaa.QFnHardRun
open Go.RowKit Go.Proofs.YtocpomkfilpflaaW.PrintWords Go.Proofs.YtocpomkfilpflaaW.PrintLast Go.Proofs.YtocpomkfilpflaaW.PrintMore
attribute [local go_sem] max2_int min2_int max_two min_two max_three min_three max_four min_four   -- for this text's walks alone
set_option linter.unusedVariables false
set_option linter.unusedSimpArgs false

attribute [local go_sem high] eqA36
theorem u10_0 {p : Prop} (h : p := by first | (go_simp; done) | (go_simp; rfl)) : p := h
theorem u10_1 {p : Prop} (h : p := by first | rfl | (simp [errW_none, errW_some] <;> rfl) | (simp [*, errW_none, errW_some] <;> rfl)) : p := h
theorem u10_2 {p : Prop} (h : p := by first | (rw [hY]; with_reducible exact H) | (have H2_ := oS H; rw [hY]; with_reducible exact H2_) | (have H2_ := oS H; with_reducible exact H2_) | with_reducible exact H | (rw [hY]; exact H) | exact H) : p := h
theorem u10_3 {p : Prop} (h : p := by (try simp only [List.map_toArray, List.map_cons, List.map_nil]); first | done | (simp only [hji12]; rfl) | rfl | (simp only [List.length_drop, List.length_take]; rfl)) : p := h
/-! ### impl_HardOk: function 11 -/
def impl_HardOk.l0 : Nat → List (S36) → Int → Int → Int → Int → List (S36) → Option (Bool)
 | 0, _, _, _, _, _, _ => none
 | k + 1, x6, x7, x8, bU, cD, bO => if x8 < x7 then (if 0 ≤ x8 then (if x8 < (x6.length : Int) then ((impl_CmdOk.f k ((rd_T36 x6 x8).f1.f0) ((rd_T36 x6 x8).f1.f1) ((rd_T36 x6 x8).f1.f2) ((rd_T36 x6 x8).f1.f3) ((rd_T36 x6 x8).f1.f4)).bind fun eA => (if eA = true then (if x8 ≤ (bO.length : Int) then ((impl_lastTerm.f (bO.take (x8 : Int).toNat)).bind fun bV => ((impl_within.f ((rd_T36 x6 x8).f0) (mx 1 bV) bU).bind fun cC => (if cC = true then (impl_HardOk.l0 k x6 x7 (wrap64 (x8 + 1)) bU cD bO) else (some false)))) else (none)) else (some false))) else (none)) else (none)) else ((impl_isWhole.f bU).bind fun eB => (if eB = true then ((impl_within.f cD 0 5).bind fun eC => (if eC = true then (some (decide ((bO.length : Int) ≤ 80))) else (some false))) else (some false)))
def impl_HardOk.f (k : Nat) (aG : Int) (aH : Int) (aA : List (S36)) : Option (Bool) := impl_HardOk.l0 k aA (aA.length : Int) 0 aG aH aA
theorem u10_mq0 {p : Prop} (h : p := by repeat' first | (with_reducible first | exact uN _ _ _ _ _ _ | exact impl_CmdOk.mono _ _ _ _ _ _ | exact LeO.refl _ | exact LeO.none _ | refine LeO.ite ?_ ?_ | refine LeO.bind ?_ (fun _ => ?_)) | exact LeO.none _ | refine LeO.ite ?_ ?_ | refine LeO.bind ?_ (fun _ => ?_)) : p := h
set_option maxRecDepth 100000 in
theorem impl_HardOk.mono_l : ∀ k, (∀ y0 y1 y2 y3 y4 y5, LeO (impl_HardOk.l0 k y0 y1 y2 y3 y4 y5) (impl_HardOk.l0 (k + 1) y0 y1 y2 y3 y4 y5))
 | 0 => fun _ _ _ _ _ _ r h => by simp [impl_HardOk.l0] at h
 | k + 1 => by
  have uN := impl_HardOk.mono_l k
  ·intro y0 y1 y2 y3 y4 y5; unfold impl_HardOk.l0; exact u10_mq0
theorem impl_HardOk.mono : ∀ a0 a1 a2 k, LeO (impl_HardOk.f k a0 a1 a2) (impl_HardOk.f (k + 1) a0 a1 a2) := by
 intro a0 a1 a2 k
 have uN := impl_HardOk.mono_l k
 unfold impl_HardOk.f
 exact u10_mq0
def impl_HardOk.T4 : Bool × List (List Nat × List Nat) := (true, [([], []), ([0], [0]), ([1], [1]), ([2], [2]), ([3, 2], [3]), ([4], [4]), ([5, 4], [4, 5]), ([4], [4]), ([7, 4], [4, 7]), ([4], [4]), ([8, 9, 4], [4, 8, 9]), ([10, 4, 4], [4, 10]), ([11, 4], [4, 11]), ([4], [4]), ([13, 4], [4, 13]), ([6, 12, 14, 11, 4], [4, 6, 12, 14]), ([15, 4], [4, 15]), ([4, 16], [4, 16])])
def impl_HardOk.B4 : List Nat := [0, 1, 3, 7, 15, 31, 63, 31, 159, 31, 927, 1951, 3999, 31, 8223, 32767, 65535, 131071]
set_option maxHeartbeats 8000000 in
set_option maxRecDepth 100000 in
theorem impl_HardOk.calls (k : Nat) (aG : Int) (aH : Int) (bW : Option Addr) (bH : Nat) (aA : List (S36)) (r : Bool) (w : World) (bY : Kd.C k36 w bW aA.length aA) (bZ : aA.length ≤ bH) (h : impl_HardOk.f k aG aH aA = some r) :
 Calls Try.prog 11 #[.agg #[.int .i64 aG, .int .i64 aH, .slice bW aA.length bH]] w fun e w' => e = .returned (.bool r) ∧ Below w.heap.size w w' := by
 have tM := Try.underlying28
 have eZ := Try.underlying36
 have tN := Try.underlying34
 have bP := aM bY
 have cE := aM bZ
 clear bY bZ
 have HB := aM (Below.refl w.heap.size w)
 have H : (impl_HardOk.l0 k aA (aA.length : Int) 0 aG aH aA) = some r := h
 clear h
 have H' := aM H
 clear H
 go_enter Try.func11, Try.ntmps11
 go_wp2_with (first | ((with_reducible refine gD 1 rfl ?_); (try (refine gate_guard (by rfl) ?_; dsimp only)); refine boxE (N := 1) rfl (cs := #[.int .i64 aG, .int .i64 aH, .slice bW aA.length bH]) (t := 28) ?_; intro bQ hg w2 hbox hb; have aE := aM (hbox); have uO := aM (xge hg); have uP := aM (xge hg); replace HB := xbs hb; clear hb hbox hg; obtain ⟨eD, eE, eF, eG, eH, eI⟩ := xf3 (w := w2) aE))
 go_loopg [8] k (fun kq v8 w' => ∃ (aD : Int), v8 = .int .i64 aD ∧ Aside0 (impl_HardOk.l0 kq aA (aA.length : Int) aD aG aH aA = some r) ∧ Aside0 (kq ≤ k) ∧ Aside0 (w'.heap[bQ]? = some (.cells #[.int .i64 aG, .int .i64 aH, (.slice bW aA.length bH)] 28 (0, 0))) ∧ Aside0 (Below w.heap.size w w'))
 case atStart => exact ⟨(0), (by first | rfl | (simp; done) | (simp [*]; done)), H', ⟨Nat.le_refl _⟩, ⟨xblk⟩, ⟨xbg⟩⟩
 case round =>
  clear H'; try clear c1
  try clear p2
  try clear eD eE eF eG eH eI
  obtain ⟨aD, rfl, HA, HK1, aE, HB⟩ := hrel; cases gk with
  | zero => exact absurd HA.out (by simp [impl_HardOk.l0])
  | succ k1 =>
   have H := HA.out; clear HA; simp only [impl_HardOk.l0] at H; by_cases c4 : aD < (aA.length : Int)
   ·rw [if_pos c4] at H; have tO : decide (aD < (aA.length : Int)) = true := decide_eq_true c4; clear c4; by_cases c5 : 0 ≤ aD
    ·rw [if_pos c5] at H; have vR : decide (0 ≤ aD) = true := decide_eq_true c5; clear c5; by_cases c6 : aD < (aA.length : Int)
     ·rw [if_pos c6] at H; have vS : decide (aD < (aA.length : Int)) = true := decide_eq_true c6; clear c6; replace H := oB H; obtain ⟨eA, uQ, H⟩ := H; (try dsimp only at H); have A7 := aM uQ; clear uQ
      by_cases c8 : eA = true
      ·subst c8; replace H := iT H; have vT := eq_true (oda : 0 ≤ aD); by_cases c10 : aD ≤ (aA.length : Int)
       ·rw [if_pos c10] at H; have uR := eq_true c10; have uS : decide (aD ≤ (aA.length : Int)) = true := decide_eq_true c10; clear c10; obtain ⟨bX, hY⟩ : ∃ y_ : List (S36), y_ = (aA.take (aD : Int).toNat) := ⟨_, rfl⟩; replace H : ((impl_lastTerm.f bX).bind fun bV => ((impl_within.f ((rd_T36 aA aD).f0) (mx 1 bV) aG).bind fun cC => (if cC = true then (impl_HardOk.l0 k1 aA (aA.length : Int) (wrap64 (aD + 1)) aG aH aA) else (some false)))) = some r := u10_2; have cF := aM hY; clear hY; replace H := oB H; obtain ⟨bV, fA, H⟩ := H; (try dsimp only at H); have tP := aM fA; clear fA
        obtain ⟨ji12, hji12⟩ : ∃ j_ : Int, (mx 1 bV) = j_ := ⟨_, rfl⟩; replace H : ((impl_within.f ((rd_T36 aA aD).f0) (ji12) aG).bind fun cC => (if cC = true then (impl_HardOk.l0 k1 aA (aA.length : Int) (wrap64 (aD + 1)) aG aH aA) else (some false))) = some r := by first | (rw [hji12] at H; exact H) | (simp only [hji12] at H ⊢; exact H)
        (try rw [hji12] at A7); (try rw [hji12] at tP); (try (have hji12l : 1 ≤ ji12 := by (rw [← hji12]; unfold mx; (repeat' split) <;> omega))); (try (have hji12m : 0 ≤ ji12 := by omega)); have hji12_ : (if 1 < bV then bV else 1) = ji12 := hji12; replace H := oB H; obtain ⟨cC, fB, H⟩ := H; (try dsimp only at H); have uT := aM fB; clear fB
        by_cases gE : cC = true
        ·subst gE; replace H := iT H; have H' := aM H; clear H; have p444 : 0 ≤ (aD : Int) := oda; have q444 : aD < (aA.length : Int) := oda; obtain ⟨bL, cK, aX, aY, aZ, bA, bB, bC⟩ := at_T36 bP.out aD p444 q444; cases cK
         replace aX := xce HB aX; replace aY := xce HB aY; replace aZ := xce HB aZ; replace bA := xce HB bA; replace bB := xce HB bB; replace bC := xce HB bC; replace p444 := eq_true p444; replace q444 := eq_true q444; try go_wp2_with (first | ((with_reducible refine gD 4 rfl ?_); (try (refine gate_guard (by rfl) ?_; dsimp only)); refine boxE (N := 4) rfl (cs := #[.int .i64 0, .int .i64 0, .int .i64 0, .int .i64 0, .int .i64 0, .string (⟨#[]⟩ : ByteArray)]) (t := 36) ?_; intro aI hg uU hbox hb; have dV := aM (xge hg); have dW := aM (xge hg); replace HB := xbs hb; have bE := nblt aE hg; have bG := nbgt aE hg; replace aE := xbb aE hb; have aC := aM (hbox); clear hb hbox hg; have uV := bG.out; have uW := bE.out; obtain ⟨gF, gG, gH, gI, gJ, gK, gL, gM, gN, gO, gP, gQ⟩ := xf6 (w := uU) aC) | ((with_reducible refine gate_store (t := 36) (p := 4) rfl ?_); refine store_event (t := 36) (p := 4) (v := ?vo_w18) (w1 := ((((((uU.setCell ⟨aI, 0, none⟩ (.int .i64 ((rd_T36 aA aD).f0))).setCell ⟨aI, 1, none⟩ (.int .i64 ((rd_T36 aA aD).f1.f0))).setCell ⟨aI, 2, none⟩ (.int .i64 ((rd_T36 aA aD).f1.f1))).setCell ⟨aI, 3, none⟩ (.int .i64 ((rd_T36 aA aD).f1.f2))).setCell ⟨aI, 4, none⟩ (.int .i64 ((rd_T36 aA aD).f1.f3))).setCell ⟨aI, 5, none⟩ (.string ((rd_T36 aA aD).f1.f4)))) ?hg ?ho ?hn ?hr ?_; (case ho | hg | hn => rfl); (case hr => exact u10_0); intro uX hw; replace aE := xwc hw aE; replace aC : Aside0 (uX.heap[aI]? = some (.cells #[.int .i64 ((rd_T36 aA aD).f0), .int .i64 ((rd_T36 aA aD).f1.f0), .int .i64 ((rd_T36 aA aD).f1.f1), .int .i64 ((rd_T36 aA aD).f1.f2), .int .i64 ((rd_T36 aA aD).f1.f3), .string ((rd_T36 aA aD).f1.f4)] 36 (0, 0))) := xwp hw; replace HB := xbw hw HB; clear hw))
         replace aE := bD aE; replace aC := bD aC; replace HB := lD HB; refine st_ 18 (fun w' => w'.cell? ⟨aI, 0, none⟩ = some (.int .i64 ((rd_T36 aA aD).f0)) ∧ w'.cell? ⟨aI, 1, none⟩ = some (.int .i64 ((rd_T36 aA aD).f1.f0)) ∧ w'.cell? ⟨aI, 2, none⟩ = some (.int .i64 ((rd_T36 aA aD).f1.f1)) ∧ w'.cell? ⟨aI, 3, none⟩ = some (.int .i64 ((rd_T36 aA aD).f1.f2)) ∧ w'.cell? ⟨aI, 4, none⟩ = some (.int .i64 ((rd_T36 aA aD).f1.f3)) ∧ w'.cell? ⟨aI, 5, none⟩ = some (.string ((rd_T36 aA aD).f1.f4)) ∧ w'.cell? ⟨bQ, 0, none⟩ = some (.int .i64 aG) ∧ w'.cell? ⟨bQ, 1, none⟩ = some (.int .i64 aH) ∧ w'.cell? ⟨bQ, 2, none⟩ = some (.slice (some bL) aA.length bH)) impl_HardOk.T4 impl_HardOk.B4 ⟨xc aC 0 rfl, xc aC 1 rfl, xc aC 2 rfl, xc aC 3 rfl, xc aC 4 rfl, xc aC 5 rfl, xc aE 0 rfl, xc aE 1 rfl, xc aE 2 rfl⟩ (fun hHeld HT_ HW_ => ?_); generalize uX.drew = wK at aE aC HB hHeld ⊢; refine pV 0 13 ?_; refine tK 1 14 ?_; refine oN 2 15 fun K hK => ?_
         refine goesY Try.func36 #[.agg #[.int .i64 ((rd_T36 aA aD).f1.f0), .int .i64 ((rd_T36 aA aD).f1.f1), .int .i64 ((rd_T36 aA aD).f1.f2), .int .i64 ((rd_T36 aA aD).f1.f3), .string ((rd_T36 aA aD).f1.f4)]] ?_; with_reducible refine (impl_CmdOk.calls k1 ((rd_T36 aA aD).f1.f0) ((rd_T36 aA aD).f1.f1) ((rd_T36 aA aD).f1.f2) ((rd_T36 aA aD).f1.f3) ((rd_T36 aA aD).f1.f4) true _ A7.out).mono ?_
         rintro e wL ⟨rfl, hb⟩; refine ⟨_, rfl, ?_⟩; replace aE := xbb aE hb; replace aC := xbb aC hb; replace HB := xbs hb; (try clear hb); have q21 : (aD : Int) ≤ ((aA.length : Int) : Int) := oda; obtain ⟨i021, hi021, _, hsz21, _⟩ := info_parts info36; have hroom21 : aA.length ≤ bH := cE.out; have hC21 : Kd.C k36 _ (some bL) aA.length aA := bP.out; have hcut21 := cut_to (P := Try.prog) 26 36 .i64 Try.underlying26 hi021 (some bL) aA.length bH aD (oda) q21 hroom21; have eJ := Kd.C_take (m := (aD : Int).toNat) hC21 (by omega); have hY : bX.length = (aD : Int).toNat := (by rw [cF.out, List.length_take]; omega); rw [← cF.out] at eJ; rw [← hY] at hcut21; have cL := aM eJ; have cM := aM (show bX.length ≤ bH from by omega); clear eJ hC21 hroom21 hi021 hsz21; have KY21 := aM hY; clear hY; replace q21 := eq_true q21; refine hK.out _ _ ⟨xc aC 0 rfl, xc aC 1 rfl, xc aC 2 rfl, xc aC 3 rfl, xc aC 4 rfl, xc aC 5 rfl, xc aE 0 rfl, xc aE 1 rfl, xc aE 2 rfl⟩ (fun hHeld => ?_); clear hK K; refine nm_ (N := 15) ?_; refine pV 3 16 ?_; refine pV 4 17 ?_; refine pV 5 18 ?_; refine pV 7 20 ?_; refine pV 9 22 ?_; refine pV 13 26 ?_; refine tK 6 19 ?_; refine tK 8 21 ?_; refine pV 10 23 ?_; refine tK 14 27 ?_; refine oN 11 24 fun K hK => ?_
         refine goesY Try.func37 #[.slice (some bL) bX.length bH] ?_; with_reducible refine (impl_lastTerm.calls _ _ bX bV _ ?side1 ?side2 tP.out).mono ?_
         (case side1 => exact xcb cL); (case side2 => exact cM.out); rintro e w' ⟨rfl, ⟨nd, rfl⟩⟩; refine ⟨_, rfl, ?_⟩; refine hK.out _ _ ⟨xc aC 0 rfl, xc aC 1 rfl, xc aC 2 rfl, xc aC 3 rfl, xc aC 4 rfl, xc aC 5 rfl, xc aE 0 rfl, xc aE 1 rfl, xc aE 2 rfl⟩ (fun hHeld => ?_); clear hK K; refine nm_ (N := 24) ?_; refine pV 12 25 ?_; refine oN 15 28 fun K hK => ?_
         refine goes_ Try.func35 (by kernel_rfl) rfl #[.int .i64 ((rd_T36 aA aD).f0), .int .i64 ji12, .int .i64 aG] (by rfl) rfl rfl u10_3 ?_; with_reducible refine (impl_within.calls ((rd_T36 aA aD).f0) ji12 aG true _ uT.out).mono ?_
         rintro e w' ⟨rfl, ⟨nd, rfl⟩⟩; refine ⟨_, rfl, ?_⟩; refine hK.out _ _ ⟨xc aC 0 rfl, xc aC 1 rfl, xc aC 2 rfl, xc aC 3 rfl, xc aC 4 rfl, xc aC 5 rfl, xc aE 0 rfl, xc aE 1 rfl, xc aE 2 rfl⟩ (fun hHeld => ?_); clear hK K; refine nm_ (N := 28) ?_; refine pV 16 29 ?_; refine pV 17 30 ?_; refine dn_ ?_; try go_wp2
         go_roundg k1
         case measure => have := HK1.out; omega
         case rel => exact ⟨(wrap64 (aD + 1)), (by first | rfl | (simp; done) | (simp [*]; done)), H', ⟨by have := HK1.out; omega⟩, ⟨xblk⟩, ⟨xbg⟩⟩
        ·replace gE := Bool.eq_false_iff.mpr gE; subst gE; replace H := iN H; obtain rfl := Option.some.inj H; have p444 : 0 ≤ (aD : Int) := oda; have q444 : aD < (aA.length : Int) := oda; obtain ⟨bL, cK, aX, aY, aZ, bA, bB, bC⟩ := at_T36 bP.out aD p444 q444; cases cK
         replace aX := xce HB aX; replace aY := xce HB aY; replace aZ := xce HB aZ; replace bA := xce HB bA; replace bB := xce HB bB; replace bC := xce HB bC; replace p444 := eq_true p444; replace q444 := eq_true q444; try go_wp2_with (first | ((with_reducible refine gD 4 rfl ?_); (try (refine gate_guard (by rfl) ?_; dsimp only)); refine boxE (N := 4) rfl (cs := #[.int .i64 0, .int .i64 0, .int .i64 0, .int .i64 0, .int .i64 0, .string (⟨#[]⟩ : ByteArray)]) (t := 36) ?_; intro aI hg gR hbox hb; have dV := aM (xge hg); have dW := aM (xge hg); replace HB := xbs hb; have bE := nblt aE hg; have bG := nbgt aE hg; replace aE := xbb aE hb; have aC := aM (hbox); clear hb hbox hg; have uY := bG.out; have uZ := bE.out; obtain ⟨gS, gT, gU, gV, gW, gX, gY, gZ, hJ, hU, hX, hZ⟩ := xf6 (w := gR) aC) | ((with_reducible refine gate_store (t := 36) (p := 4) rfl ?_); refine store_event (t := 36) (p := 4) (v := ?vo_w25) (w1 := ((((((gR.setCell ⟨aI, 0, none⟩ (.int .i64 ((rd_T36 aA aD).f0))).setCell ⟨aI, 1, none⟩ (.int .i64 ((rd_T36 aA aD).f1.f0))).setCell ⟨aI, 2, none⟩ (.int .i64 ((rd_T36 aA aD).f1.f1))).setCell ⟨aI, 3, none⟩ (.int .i64 ((rd_T36 aA aD).f1.f2))).setCell ⟨aI, 4, none⟩ (.int .i64 ((rd_T36 aA aD).f1.f3))).setCell ⟨aI, 5, none⟩ (.string ((rd_T36 aA aD).f1.f4)))) ?hg ?ho ?hn ?hr ?_; (case ho | hg | hn => rfl); (case hr => exact u10_0); intro vA hw; replace aE := xwc hw aE; replace aC : Aside0 (vA.heap[aI]? = some (.cells #[.int .i64 ((rd_T36 aA aD).f0), .int .i64 ((rd_T36 aA aD).f1.f0), .int .i64 ((rd_T36 aA aD).f1.f1), .int .i64 ((rd_T36 aA aD).f1.f2), .int .i64 ((rd_T36 aA aD).f1.f3), .string ((rd_T36 aA aD).f1.f4)] 36 (0, 0))) := xwp hw; replace HB := xbw hw HB; clear hw))
         replace aE := bD aE; replace aC := bD aC; replace HB := lD HB; refine st_ 18 (fun w' => w'.cell? ⟨aI, 0, none⟩ = some (.int .i64 ((rd_T36 aA aD).f0)) ∧ w'.cell? ⟨aI, 1, none⟩ = some (.int .i64 ((rd_T36 aA aD).f1.f0)) ∧ w'.cell? ⟨aI, 2, none⟩ = some (.int .i64 ((rd_T36 aA aD).f1.f1)) ∧ w'.cell? ⟨aI, 3, none⟩ = some (.int .i64 ((rd_T36 aA aD).f1.f2)) ∧ w'.cell? ⟨aI, 4, none⟩ = some (.int .i64 ((rd_T36 aA aD).f1.f3)) ∧ w'.cell? ⟨aI, 5, none⟩ = some (.string ((rd_T36 aA aD).f1.f4)) ∧ w'.cell? ⟨bQ, 0, none⟩ = some (.int .i64 aG) ∧ w'.cell? ⟨bQ, 1, none⟩ = some (.int .i64 aH) ∧ w'.cell? ⟨bQ, 2, none⟩ = some (.slice (some bL) aA.length bH)) impl_HardOk.T4 impl_HardOk.B4 ⟨xc aC 0 rfl, xc aC 1 rfl, xc aC 2 rfl, xc aC 3 rfl, xc aC 4 rfl, xc aC 5 rfl, xc aE 0 rfl, xc aE 1 rfl, xc aE 2 rfl⟩ (fun hHeld HT_ HW_ => ?_); generalize vA.drew = vB at aE aC HB hHeld ⊢; refine pV 0 13 ?_; refine tK 1 14 ?_; refine oN 2 15 fun K hK => ?_
         refine goesY Try.func36 #[.agg #[.int .i64 ((rd_T36 aA aD).f1.f0), .int .i64 ((rd_T36 aA aD).f1.f1), .int .i64 ((rd_T36 aA aD).f1.f2), .int .i64 ((rd_T36 aA aD).f1.f3), .string ((rd_T36 aA aD).f1.f4)]] ?_; with_reducible refine (impl_CmdOk.calls k1 ((rd_T36 aA aD).f1.f0) ((rd_T36 aA aD).f1.f1) ((rd_T36 aA aD).f1.f2) ((rd_T36 aA aD).f1.f3) ((rd_T36 aA aD).f1.f4) true _ A7.out).mono ?_
         rintro e wM ⟨rfl, hb⟩; refine ⟨_, rfl, ?_⟩; replace aE := xbb aE hb; replace aC := xbb aC hb; replace HB := xbs hb; (try clear hb); have q28 : (aD : Int) ≤ ((aA.length : Int) : Int) := oda; obtain ⟨i028, hi028, _, hsz28, _⟩ := info_parts info36; have hroom28 : aA.length ≤ bH := cE.out; have hC28 : Kd.C k36 _ (some bL) aA.length aA := bP.out; have hcut28 := cut_to (P := Try.prog) 26 36 .i64 Try.underlying26 hi028 (some bL) aA.length bH aD (oda) q28 hroom28; have eK := Kd.C_take (m := (aD : Int).toNat) hC28 (by omega); have hY : bX.length = (aD : Int).toNat := (by rw [cF.out, List.length_take]; omega); rw [← cF.out] at eK; rw [← hY] at hcut28; have cL := aM eK; have cM := aM (show bX.length ≤ bH from by omega); clear eK hC28 hroom28 hi028 hsz28; have KY28 := aM hY; clear hY; replace q28 := eq_true q28; refine hK.out _ _ ⟨xc aC 0 rfl, xc aC 1 rfl, xc aC 2 rfl, xc aC 3 rfl, xc aC 4 rfl, xc aC 5 rfl, xc aE 0 rfl, xc aE 1 rfl, xc aE 2 rfl⟩ (fun hHeld => ?_); clear hK K; refine nm_ (N := 15) ?_; refine pV 3 16 ?_; refine pV 4 17 ?_; refine pV 5 18 ?_; refine pV 7 20 ?_; refine pV 9 22 ?_; refine pV 13 26 ?_; refine tK 6 19 ?_; refine tK 8 21 ?_; refine pV 10 23 ?_; refine tK 14 27 ?_; refine oN 11 24 fun K hK => ?_
         refine goesY Try.func37 #[.slice (some bL) bX.length bH] ?_; with_reducible refine (impl_lastTerm.calls _ _ bX bV _ ?side1 ?side2 tP.out).mono ?_
         (case side1 => exact xcb cL); (case side2 => exact cM.out); rintro e w' ⟨rfl, ⟨nd, rfl⟩⟩; refine ⟨_, rfl, ?_⟩; refine hK.out _ _ ⟨xc aC 0 rfl, xc aC 1 rfl, xc aC 2 rfl, xc aC 3 rfl, xc aC 4 rfl, xc aC 5 rfl, xc aE 0 rfl, xc aE 1 rfl, xc aE 2 rfl⟩ (fun hHeld => ?_); clear hK K; refine nm_ (N := 24) ?_; refine pV 12 25 ?_; refine oN 15 28 fun K hK => ?_
         refine goes_ Try.func35 (by kernel_rfl) rfl #[.int .i64 ((rd_T36 aA aD).f0), .int .i64 ji12, .int .i64 aG] (by rfl) rfl rfl u10_3 ?_; with_reducible refine (impl_within.calls ((rd_T36 aA aD).f0) ji12 aG false _ uT.out).mono ?_
         rintro e w' ⟨rfl, ⟨nd, rfl⟩⟩; refine ⟨_, rfl, ?_⟩; refine hK.out _ _ ⟨xc aC 0 rfl, xc aC 1 rfl, xc aC 2 rfl, xc aC 3 rfl, xc aC 4 rfl, xc aC 5 rfl, xc aE 0 rfl, xc aE 1 rfl, xc aE 2 rfl⟩ (fun hHeld => ?_); clear hK K; refine nm_ (N := 28) ?_; refine pV 16 29 ?_; refine pV 17 30 ?_; refine dn_ ?_; try go_wp2
         go_ret
         exact ⟨by first | rfl | (simp [errW_none, errW_some] <;> rfl) | (simp only [← hji12]; first | rfl | (simp [errW_none, errW_some] <;> rfl)) | (simp [*, errW_none, errW_some] <;> rfl), xbg⟩
       ·rw [if_neg c10] at H; exact absurd H (by simp)
      ·replace c8 := Bool.eq_false_iff.mpr c8; subst c8; replace H := iN H; obtain rfl := Option.some.inj H; have p444 : 0 ≤ (aD : Int) := oda; have q444 : aD < (aA.length : Int) := oda; obtain ⟨bL, cK, aX, aY, aZ, bA, bB, bC⟩ := at_T36 bP.out aD p444 q444; cases cK
       replace aX := xce HB aX; replace aY := xce HB aY; replace aZ := xce HB aZ; replace bA := xce HB bA; replace bB := xce HB bB; replace bC := xce HB bC; replace p444 := eq_true p444; replace q444 := eq_true q444; try go_wp2_with (first | ((with_reducible refine gD 4 rfl ?_); (try (refine gate_guard (by rfl) ?_; dsimp only)); refine boxE (N := 4) rfl (cs := #[.int .i64 0, .int .i64 0, .int .i64 0, .int .i64 0, .int .i64 0, .string (⟨#[]⟩ : ByteArray)]) (t := 36) ?_; intro aI hg vC hbox hb; have dV := aM (xge hg); have dW := aM (xge hg); replace HB := xbs hb; have bE := nblt aE hg; have bG := nbgt aE hg; replace aE := xbb aE hb; have aC := aM (hbox); clear hb hbox hg; have vD := bG.out; have vE := bE.out; obtain ⟨dC, dD, dE, dF, dG, dH, dI, dJ, dK, dL, dM, dN⟩ := xf6 (w := vC) aC) | ((with_reducible refine gate_store (t := 36) (p := 4) rfl ?_); refine store_event (t := 36) (p := 4) (v := ?vo_w32) (w1 := ((((((vC.setCell ⟨aI, 0, none⟩ (.int .i64 ((rd_T36 aA aD).f0))).setCell ⟨aI, 1, none⟩ (.int .i64 ((rd_T36 aA aD).f1.f0))).setCell ⟨aI, 2, none⟩ (.int .i64 ((rd_T36 aA aD).f1.f1))).setCell ⟨aI, 3, none⟩ (.int .i64 ((rd_T36 aA aD).f1.f2))).setCell ⟨aI, 4, none⟩ (.int .i64 ((rd_T36 aA aD).f1.f3))).setCell ⟨aI, 5, none⟩ (.string ((rd_T36 aA aD).f1.f4)))) ?hg ?ho ?hn ?hr ?_; (case ho | hg | hn => rfl); (case hr => exact u10_0); intro tQ hw; replace aE := xwc hw aE; replace aC : Aside0 (tQ.heap[aI]? = some (.cells #[.int .i64 ((rd_T36 aA aD).f0), .int .i64 ((rd_T36 aA aD).f1.f0), .int .i64 ((rd_T36 aA aD).f1.f1), .int .i64 ((rd_T36 aA aD).f1.f2), .int .i64 ((rd_T36 aA aD).f1.f3), .string ((rd_T36 aA aD).f1.f4)] 36 (0, 0))) := xwp hw; replace HB := xbw hw HB; clear hw))
       replace aE := bD aE; replace aC := bD aC; replace HB := lD HB; refine st_ 18 (fun w' => w'.cell? ⟨aI, 0, none⟩ = some (.int .i64 ((rd_T36 aA aD).f0)) ∧ w'.cell? ⟨aI, 1, none⟩ = some (.int .i64 ((rd_T36 aA aD).f1.f0)) ∧ w'.cell? ⟨aI, 2, none⟩ = some (.int .i64 ((rd_T36 aA aD).f1.f1)) ∧ w'.cell? ⟨aI, 3, none⟩ = some (.int .i64 ((rd_T36 aA aD).f1.f2)) ∧ w'.cell? ⟨aI, 4, none⟩ = some (.int .i64 ((rd_T36 aA aD).f1.f3)) ∧ w'.cell? ⟨aI, 5, none⟩ = some (.string ((rd_T36 aA aD).f1.f4))) impl_HardOk.T4 impl_HardOk.B4 ⟨xc aC 0 rfl, xc aC 1 rfl, xc aC 2 rfl, xc aC 3 rfl, xc aC 4 rfl, xc aC 5 rfl⟩ (fun hHeld HT_ HW_ => ?_); generalize tQ.drew = vF at aE aC HB hHeld ⊢; refine pV 0 13 ?_; refine tK 1 14 ?_; refine oN 2 15 fun K hK => ?_
       refine goesY Try.func36 #[.agg #[.int .i64 ((rd_T36 aA aD).f1.f0), .int .i64 ((rd_T36 aA aD).f1.f1), .int .i64 ((rd_T36 aA aD).f1.f2), .int .i64 ((rd_T36 aA aD).f1.f3), .string ((rd_T36 aA aD).f1.f4)]] ?_; with_reducible refine (impl_CmdOk.calls k1 ((rd_T36 aA aD).f1.f0) ((rd_T36 aA aD).f1.f1) ((rd_T36 aA aD).f1.f2) ((rd_T36 aA aD).f1.f3) ((rd_T36 aA aD).f1.f4) false _ A7.out).mono ?_
       rintro e wN ⟨rfl, hb⟩; refine ⟨_, rfl, ?_⟩; replace aE := xbb aE hb; replace aC := xbb aC hb; replace HB := xbs hb; (try clear hb); refine hK.out _ _ ⟨xc aC 0 rfl, xc aC 1 rfl, xc aC 2 rfl, xc aC 3 rfl, xc aC 4 rfl, xc aC 5 rfl⟩ (fun hHeld => ?_); clear hK K; refine nm_ (N := 15) ?_; refine pV 3 16 ?_; refine pV 4 17 ?_; refine pU 5 18 ?_; refine pU 6 19 ?_; refine pU 7 20 ?_; refine pU 8 21 ?_; refine pU 9 22 ?_; refine pU 10 23 ?_; refine pU 11 24 ?_; refine pU 12 25 ?_; refine pU 13 26 ?_; refine pU 14 27 ?_; refine pU 15 28 ?_; refine pU 16 29 ?_; refine pV 17 30 ?_; refine dn_ ?_; try go_wp2
       go_ret
       exact ⟨u10_1, xbg⟩
     ·rw [if_neg c6] at H; exact absurd H (by simp)
    ·rw [if_neg c5] at H; exact absurd H (by simp)
   ·rw [if_neg c4] at H; have tO : decide (aD < (aA.length : Int)) = false := decide_eq_false c4; clear c4; replace H := oB H; obtain ⟨eB, fC, H⟩ := H; (try dsimp only at H); have tR := aM fC; clear fC
    by_cases iA : eB = true
    ·subst iA; replace H := iT H; replace H := oB H; obtain ⟨eC, fD, H⟩ := H; (try dsimp only at H); have vG := aM fD; clear fD
     by_cases dB : eC = true
     ·subst dB; replace H := iT H; obtain rfl := Option.some.inj H; obtain ⟨iB, iC, iD, iE, iF, iG⟩ := xf3 (w := wr) aE; go_wp2_with (first | ((with_reducible refine gC 38 rfl ?_); refine goesLY (some 34) rfl Try.func38 #[.int .i64 aG] ?_; (with_reducible refine (impl_isWhole.calls aG true _ tR.out).mono ?_); rintro e w' ⟨rfl, ⟨nd, rfl⟩⟩; refine ⟨_, rfl, ?_⟩) | (go_at_call 35; (with_reducible refine (impl_within.calls aH 0 5 true _ vG.out).mono ?_); rintro e w' ⟨rfl, ⟨nd, rfl⟩⟩))
      go_ret
      exact ⟨u10_1, xbg⟩
     ·replace dB := Bool.eq_false_iff.mpr dB; subst dB; replace H := iN H; obtain rfl := Option.some.inj H; obtain ⟨iH, iI, iJ, iK, iL, iM⟩ := xf3 (w := wr) aE; go_wp2_with (first | ((with_reducible refine gC 38 rfl ?_); refine goesLY (some 34) rfl Try.func38 #[.int .i64 aG] ?_; (with_reducible refine (impl_isWhole.calls aG true _ tR.out).mono ?_); rintro e w' ⟨rfl, ⟨nd, rfl⟩⟩; refine ⟨_, rfl, ?_⟩) | (go_at_call 35; (with_reducible refine (impl_within.calls aH 0 5 false _ vG.out).mono ?_); rintro e w' ⟨rfl, ⟨nd, rfl⟩⟩))
      go_ret
      exact ⟨u10_1, xbg⟩
    ·replace iA := Bool.eq_false_iff.mpr iA; subst iA; replace H := iN H; obtain rfl := Option.some.inj H; obtain ⟨dO, dP, dQ, dR, dS, dU⟩ := xf3 (w := wr) aE; go_wp2_with (first | ((with_reducible refine gC 38 rfl ?_); refine goesLY (some 34) rfl Try.func38 #[.int .i64 aG] ?_; (with_reducible refine (impl_isWhole.calls aG false _ tR.out).mono ?_); rintro e w' ⟨rfl, ⟨nd, rfl⟩⟩; refine ⟨_, rfl, ?_⟩))
     go_ret
     exact ⟨u10_1, xbg⟩

/-! ### impl_entryOk: function 54 -/
def impl_entryOk.f (k : Nat) (aG : Int) (aH : Int) (aN : Int) (aK : Int) (aP : Int) (aQ : ByteArray) : Option (Bool) := (impl_within.f aG 1 1000000000).bind fun cN => (if cN = true then ((impl_CmdOk.f k aH aN aK aP aQ).bind fun cO => (some cO)) else (some false))
theorem u10_mq1 {p : Prop} (h : p := by repeat' first | (with_reducible first | exact impl_CmdOk.mono _ _ _ _ _ _ | exact LeO.refl _ | exact LeO.none _ | refine LeO.ite ?_ ?_ | refine LeO.bind ?_ (fun _ => ?_)) | exact LeO.none _ | refine LeO.ite ?_ ?_ | refine LeO.bind ?_ (fun _ => ?_)) : p := h
theorem impl_entryOk.mono : ∀ a0 a1 a2 a3 a4 a5 k, LeO (impl_entryOk.f k a0 a1 a2 a3 a4 a5) (impl_entryOk.f (k + 1) a0 a1 a2 a3 a4 a5) := by
 intro a0 a1 a2 a3 a4 a5 k
 unfold impl_entryOk.f
 exact u10_mq1
set_option maxHeartbeats 8000000 in
set_option maxRecDepth 100000 in
theorem impl_entryOk.calls (k : Nat) (aG : Int) (aH : Int) (aN : Int) (aK : Int) (aP : Int) (aQ : ByteArray) (r : Bool) (w : World) (h : impl_entryOk.f k aG aH aN aK aP aQ = some r) :
 Calls Try.prog 54 #[.agg #[.int .i64 aG, .int .i64 aH, .int .i64 aN, .int .i64 aK, .int .i64 aP, .string aQ]] w fun e w' => e = .returned (.bool r) ∧ Below w.heap.size w w' := by
 have eZ := Try.underlying36
 have tN := Try.underlying34
 have HB := aM (Below.refl w.heap.size w)
 have H : ((impl_within.f aG 1 1000000000).bind fun cN => (if cN = true then ((impl_CmdOk.f k aH aN aK aP aQ).bind fun cO => (some cO)) else (some false))) = some r := h
 clear h
 replace H := oB H
 obtain ⟨cN, fE, H⟩ := H
 (try dsimp only at H)
 have A2 := aM fE
 clear fE
 by_cases c3 : cN = true
 ·subst c3; replace H := iT H; replace H := oB H; obtain ⟨cO, vH, H⟩ := H; (try dsimp only at H); have A4 := aM vH; clear vH
  obtain rfl := Option.some.inj H; go_enter Try.func54, Try.ntmps54
  go_wp2_with (first | ((with_reducible refine gD 1 rfl ?_); refine boxE (N := 1) rfl (cs := #[.int .i64 aG, .int .i64 aH, .int .i64 aN, .int .i64 aK, .int .i64 aP, .string aQ]) (t := 36) ?_; intro fF hg w5 hbox hb; have cA := aM (hbox); have fG := aM (xge hg); have fH := aM (xge hg); replace HB := xbs hb; clear hb hbox hg; obtain ⟨eL, eM, eN, tS, tT, tU, eO, eP, eQ, tV, tW, tX⟩ := xf6 (w := w5) cA) | ((with_reducible refine gC 35 rfl ?_); refine goesLY (some 5) rfl Try.func35 #[.int .i64 aG, .int .i64 1, .int .i64 1000000000] ?_; (with_reducible refine (impl_within.calls aG 1 1000000000 true _ A2.out).mono ?_); rintro e w' ⟨rfl, ⟨nd, rfl⟩⟩; refine ⟨_, rfl, ?_⟩) | (go_at_call 36; (with_reducible refine (impl_CmdOk.calls k aH aN aK aP aQ cO _ A4.out).mono ?_); rintro e w7 ⟨rfl, hb⟩; replace cA := xbb cA hb; replace HB := xbs hb; (try clear hb)))
  go_ret
  exact ⟨xerr, xbg⟩
 ·replace c3 := Bool.eq_false_iff.mpr c3; subst c3; replace H := iN H; obtain rfl := Option.some.inj H; go_enter Try.func54, Try.ntmps54
  go_wp2_with (first | ((with_reducible refine gD 1 rfl ?_); refine boxE (N := 1) rfl (cs := #[.int .i64 aG, .int .i64 aH, .int .i64 aN, .int .i64 aK, .int .i64 aP, .string aQ]) (t := 36) ?_; intro fF hg w8 hbox hb; have cA := aM (hbox); have fG := aM (xge hg); have fH := aM (xge hg); replace HB := xbs hb; clear hb hbox hg; obtain ⟨cP, cQ, cS, eR, eS, eT, cT, cU, cV, eU, eV, eW⟩ := xf6 (w := w8) cA) | ((with_reducible refine gC 35 rfl ?_); refine goesLY (some 5) rfl Try.func35 #[.int .i64 aG, .int .i64 1, .int .i64 1000000000] ?_; (with_reducible refine (impl_within.calls aG 1 1000000000 false _ A2.out).mono ?_); rintro e w' ⟨rfl, ⟨nd, rfl⟩⟩; refine ⟨_, rfl, ?_⟩))
  go_ret
  exact ⟨xerr, xbg⟩

/-! ### impl_RecOk: function 19 -/
def impl_RecOk.f (k : Nat) (aG : Int) (aH : Int) (aN : Int) (aK : Int) (aP : Int) (aQ : Int) (aT : Int) (aU : Int) (aV : Int) (aW : ByteArray) : Option (Bool) := if aG = 1 then ((impl_isWhole.f aH).bind fun cW => (if cW = true then ((impl_within.f aN 0 5).bind fun cX => (if cX = true then (if aK = 0 then (some (aP == 0 && ((aQ == 0 && (aT == 0 && (aU == 0 && (aV == 0 && (aW.toList == ([] : List UInt8))))))))) else (some false)) else (some false))) else (some false))) else (if aG = 2 then ((impl_within.f aK 1 80).bind fun cY => (if cY = true then ((impl_entryOk.f k aP aQ aT aU aV aW).bind fun cZ => (if cZ = true then (if aH = 0 then (some (aN == 0)) else (some false)) else (some false))) else (some false))) else (if aG = 3 then ((impl_within.f aK 0 80).bind fun dA => (if dA = true then (if aH = 0 then (if aN = 0 then (some (aP == 0 && ((aQ == 0 && (aT == 0 && (aU == 0 && (aV == 0 && (aW.toList == ([] : List UInt8))))))))) else (some false)) else (some false)) else (some false))) else (some false)))
theorem u10_mq2 {p : Prop} (h : p := by repeat' first | (with_reducible first | exact impl_entryOk.mono _ _ _ _ _ _ _ | exact LeO.refl _ | exact LeO.none _ | refine LeO.ite ?_ ?_ | refine LeO.bind ?_ (fun _ => ?_)) | exact LeO.none _ | refine LeO.ite ?_ ?_ | refine LeO.bind ?_ (fun _ => ?_)) : p := h
theorem impl_RecOk.mono : ∀ a0 a1 a2 a3 a4 a5 a6 a7 a8 a9 k, LeO (impl_RecOk.f k a0 a1 a2 a3 a4 a5 a6 a7 a8 a9) (impl_RecOk.f (k + 1) a0 a1 a2 a3 a4 a5 a6 a7 a8 a9) := by
 intro a0 a1 a2 a3 a4 a5 a6 a7 a8 a9 k
 unfold impl_RecOk.f
 exact u10_mq2
set_option maxHeartbeats 8000000 in
set_option maxRecDepth 100000 in
theorem impl_RecOk.calls (k : Nat) (aG : Int) (aH : Int) (aN : Int) (aK : Int) (aP : Int) (aQ : Int) (aT : Int) (aU : Int) (aV : Int) (aW : ByteArray) (r : Bool) (w : World) (h : impl_RecOk.f k aG aH aN aK aP aQ aT aU aV aW = some r) :
 Calls Try.prog 19 #[.agg #[.int .i64 aG, .int .i64 aH, .int .i64 aN, .int .i64 aK, .int .i64 aP, .int .i64 aQ, .int .i64 aT, .int .i64 aU, .int .i64 aV, .string aW]] w fun e w' => e = .returned (.bool r) ∧ Below w.heap.size w w' := by
 have vU := Try.underlying38
 have eZ := Try.underlying36
 have HB := aM (Below.refl w.heap.size w)
 have H : (if aG = 1 then ((impl_isWhole.f aH).bind fun cW => (if cW = true then ((impl_within.f aN 0 5).bind fun cX => (if cX = true then (if aK = 0 then (some (aP == 0 && ((aQ == 0 && (aT == 0 && (aU == 0 && (aV == 0 && (aW.toList == ([] : List UInt8))))))))) else (some false)) else (some false))) else (some false))) else (if aG = 2 then ((impl_within.f aK 1 80).bind fun cY => (if cY = true then ((impl_entryOk.f k aP aQ aT aU aV aW).bind fun cZ => (if cZ = true then (if aH = 0 then (some (aN == 0)) else (some false)) else (some false))) else (some false))) else (if aG = 3 then ((impl_within.f aK 0 80).bind fun dA => (if dA = true then (if aH = 0 then (if aN = 0 then (some (aP == 0 && ((aQ == 0 && (aT == 0 && (aU == 0 && (aV == 0 && (aW.toList == ([] : List UInt8))))))))) else (some false)) else (some false)) else (some false))) else (some false)))) = some r := h
 clear h
 by_cases c2 : aG = 1
 ·rw [if_pos c2] at H; obtain ⟨tY, tZ⟩ := bT c2; clear c2; replace H := oB H; obtain ⟨cW, vI, H⟩ := H; (try dsimp only at H); have A3 := aM vI; clear vI
  by_cases c4 : cW = true
  ·subst c4; replace H := iT H; replace H := oB H; obtain ⟨cX, vJ, H⟩ := H; (try dsimp only at H); have A5 := aM vJ; clear vJ
   by_cases c6 : cX = true
   ·subst c6; replace H := iT H; by_cases c7 : aK = 0
    ·rw [if_pos c7] at H; obtain ⟨uA, uB⟩ := bT c7; clear c7; obtain rfl := Option.some.inj H; go_enter Try.func19, Try.ntmps19
     go_wp2_with (first | ((with_reducible refine gD 1 rfl ?_); refine boxE (N := 1) rfl (cs := #[.int .i64 aG, .int .i64 aH, .int .i64 aN, .int .i64 aK, .int .i64 aP, .int .i64 aQ, .int .i64 aT, .int .i64 aU, .int .i64 aV, .string aW]) (t := 38) ?_; intro bI hg w8 hbox hb; have aJ := aM (hbox); have bJ := aM (xge hg); have bK := aM (xge hg); replace HB := xbs hb; clear hb hbox hg; obtain ⟨cP, cQ, cS, eR, eS, eT, uC, uD, uE, uF, cT, cU, cV, eU, eV, eW, uG, uH, uI, uJ⟩ := xf10 (w := w8) aJ) | ((with_reducible refine gC 38 rfl ?_); refine goesLY (some 9) rfl Try.func38 #[.int .i64 aH] ?_; (with_reducible refine (impl_isWhole.calls aH true _ A3.out).mono ?_); rintro e w' ⟨rfl, ⟨nd, rfl⟩⟩; refine ⟨_, rfl, ?_⟩) | (go_at_call 35; (with_reducible refine (impl_within.calls aN 0 5 true _ A5.out).mono ?_); rintro e w' ⟨rfl, ⟨nd, rfl⟩⟩))
     go_ret
     exact ⟨xerr, xbg⟩
    ·rw [if_neg c7] at H; obtain ⟨uA, uB⟩ := bF c7; obtain rfl := Option.some.inj H; go_enter Try.func19, Try.ntmps19
     go_wp2_with (first | ((with_reducible refine gD 1 rfl ?_); refine boxE (N := 1) rfl (cs := #[.int .i64 aG, .int .i64 aH, .int .i64 aN, .int .i64 aK, .int .i64 aP, .int .i64 aQ, .int .i64 aT, .int .i64 aU, .int .i64 aV, .string aW]) (t := 38) ?_; intro bI hg vV hbox hb; have aJ := aM (hbox); have bJ := aM (xge hg); have bK := aM (xge hg); replace HB := xbs hb; clear hb hbox hg; obtain ⟨iO, iP, iQ, iR, iS, iU, iV, iW, iX, iY, iZ, jA, jB, jC, jD, jE, jF, jG, jH, jI⟩ := xf10 (w := vV) aJ) | ((with_reducible refine gC 38 rfl ?_); refine goesLY (some 9) rfl Try.func38 #[.int .i64 aH] ?_; (with_reducible refine (impl_isWhole.calls aH true _ A3.out).mono ?_); rintro e w' ⟨rfl, ⟨nd, rfl⟩⟩; refine ⟨_, rfl, ?_⟩) | (go_at_call 35; (with_reducible refine (impl_within.calls aN 0 5 true _ A5.out).mono ?_); rintro e w' ⟨rfl, ⟨nd, rfl⟩⟩))
     go_ret
     exact ⟨xerr, xbg⟩
   ·replace c6 := Bool.eq_false_iff.mpr c6; subst c6; replace H := iN H; obtain rfl := Option.some.inj H; go_enter Try.func19, Try.ntmps19
    go_wp2_with (first | ((with_reducible refine gD 1 rfl ?_); refine boxE (N := 1) rfl (cs := #[.int .i64 aG, .int .i64 aH, .int .i64 aN, .int .i64 aK, .int .i64 aP, .int .i64 aQ, .int .i64 aT, .int .i64 aU, .int .i64 aV, .string aW]) (t := 38) ?_; intro bI hg vW hbox hb; have aJ := aM (hbox); have bJ := aM (xge hg); have bK := aM (xge hg); replace HB := xbs hb; clear hb hbox hg; obtain ⟨jJ, jK, jL, jM, jN, jO, jP, jQ, jR, jS, jT, jU, jV, jW, jX, jY, jZ, kA, kB, kC⟩ := xf10 (w := vW) aJ) | ((with_reducible refine gC 38 rfl ?_); refine goesLY (some 9) rfl Try.func38 #[.int .i64 aH] ?_; (with_reducible refine (impl_isWhole.calls aH true _ A3.out).mono ?_); rintro e w' ⟨rfl, ⟨nd, rfl⟩⟩; refine ⟨_, rfl, ?_⟩) | (go_at_call 35; (with_reducible refine (impl_within.calls aN 0 5 false _ A5.out).mono ?_); rintro e w' ⟨rfl, ⟨nd, rfl⟩⟩))
    go_ret
    exact ⟨xerr, xbg⟩
  ·replace c4 := Bool.eq_false_iff.mpr c4; subst c4; replace H := iN H; obtain rfl := Option.some.inj H; go_enter Try.func19, Try.ntmps19
   go_wp2_with (first | ((with_reducible refine gD 1 rfl ?_); refine boxE (N := 1) rfl (cs := #[.int .i64 aG, .int .i64 aH, .int .i64 aN, .int .i64 aK, .int .i64 aP, .int .i64 aQ, .int .i64 aT, .int .i64 aU, .int .i64 aV, .string aW]) (t := 38) ?_; intro bI hg vX hbox hb; have aJ := aM (hbox); have bJ := aM (xge hg); have bK := aM (xge hg); replace HB := xbs hb; clear hb hbox hg; obtain ⟨kE, kF, kG, kH, kI, kJ, kK, kL, kM, kN, kO, kP, kQ, kR, kS, kT, kU, kV, kW, kX⟩ := xf10 (w := vX) aJ) | ((with_reducible refine gC 38 rfl ?_); refine goesLY (some 9) rfl Try.func38 #[.int .i64 aH] ?_; (with_reducible refine (impl_isWhole.calls aH false _ A3.out).mono ?_); rintro e w' ⟨rfl, ⟨nd, rfl⟩⟩; refine ⟨_, rfl, ?_⟩))
   go_ret
   exact ⟨xerr, xbg⟩
 ·rw [if_neg c2] at H; obtain ⟨tY, tZ⟩ := bF c2; by_cases fI : aG = 2
  ·rw [if_pos fI] at H; obtain ⟨fJ, fK⟩ := bT fI; clear fI; replace H := oB H; obtain ⟨cY, fL, H⟩ := H; (try dsimp only at H); have kY := aM fL; clear fL
   by_cases kZ : cY = true
   ·subst kZ; replace H := iT H; replace H := oB H; obtain ⟨cZ, fM, H⟩ := H; (try dsimp only at H); have uK := aM fM; clear fM
    by_cases lA : cZ = true
    ·subst lA; replace H := iT H; by_cases fN : aH = 0
     ·rw [if_pos fN] at H; obtain ⟨fO, fP⟩ := bT fN; clear fN; obtain rfl := Option.some.inj H; go_enter Try.func19, Try.ntmps19
      go_wp2_with (first | ((with_reducible refine gD 1 rfl ?_); refine boxE (N := 1) rfl (cs := #[.int .i64 aG, .int .i64 aH, .int .i64 aN, .int .i64 aK, .int .i64 aP, .int .i64 aQ, .int .i64 aT, .int .i64 aU, .int .i64 aV, .string aW]) (t := 38) ?_; intro bI hg gR hbox hb; have aJ := aM (hbox); have bJ := aM (xge hg); have bK := aM (xge hg); replace HB := xbs hb; clear hb hbox hg; obtain ⟨lB, lC, lE, lF, lG, lH, lI, lJ, lK, lL, lM, lN, lO, lP, lQ, lR, lS, lT, lU, lV⟩ := xf10 (w := gR) aJ) | ((with_reducible refine gC 35 rfl ?_); refine goesLY (some 30) rfl Try.func35 #[.int .i64 aK, .int .i64 1, .int .i64 80] ?_; (with_reducible refine (impl_within.calls aK 1 80 true _ kY.out).mono ?_); rintro e w' ⟨rfl, ⟨nd, rfl⟩⟩; refine ⟨_, rfl, ?_⟩) | (go_at_call 54; (with_reducible refine (impl_entryOk.calls k aP aQ aT aU aV aW true _ uK.out).mono ?_); rintro e vY ⟨rfl, hb⟩; replace aJ := xbb aJ hb; replace HB := xbs hb; (try clear hb); obtain ⟨lW, lX, lY, lZ, mA, mB, mC, mD, mE, mF, mG, mH, mI, mJ, mK, mL, mM, mN, mO, mP⟩ := xf10 (w := vY) aJ))
      go_ret
      exact ⟨xerr, xbg⟩
     ·rw [if_neg fN] at H; obtain ⟨fO, fP⟩ := bF fN; obtain rfl := Option.some.inj H; go_enter Try.func19, Try.ntmps19
      go_wp2_with (first | ((with_reducible refine gD 1 rfl ?_); refine boxE (N := 1) rfl (cs := #[.int .i64 aG, .int .i64 aH, .int .i64 aN, .int .i64 aK, .int .i64 aP, .int .i64 aQ, .int .i64 aT, .int .i64 aU, .int .i64 aV, .string aW]) (t := 38) ?_; intro bI hg vB hbox hb; have aJ := aM (hbox); have bJ := aM (xge hg); have bK := aM (xge hg); replace HB := xbs hb; clear hb hbox hg; obtain ⟨mQ, mR, mS, mT, mU, mV, mW, mX, mY, mZ, nA, nB, nC, nD, nE, nF, nG, nH, nI, nJ⟩ := xf10 (w := vB) aJ) | ((with_reducible refine gC 35 rfl ?_); refine goesLY (some 30) rfl Try.func35 #[.int .i64 aK, .int .i64 1, .int .i64 80] ?_; (with_reducible refine (impl_within.calls aK 1 80 true _ kY.out).mono ?_); rintro e w' ⟨rfl, ⟨nd, rfl⟩⟩; refine ⟨_, rfl, ?_⟩) | (go_at_call 54; (with_reducible refine (impl_entryOk.calls k aP aQ aT aU aV aW true _ uK.out).mono ?_); rintro e vZ ⟨rfl, hb⟩; replace aJ := xbb aJ hb; replace HB := xbs hb; (try clear hb); obtain ⟨nK, nL, nM, nN, nO, nP, nQ, nR, nS, nT, nU, nV, nW, nX, nY, nZ, oA, oC, oD, oE⟩ := xf10 (w := vZ) aJ))
      go_ret
      exact ⟨xerr, xbg⟩
    ·replace lA := Bool.eq_false_iff.mpr lA; subst lA; replace H := iN H; obtain rfl := Option.some.inj H; go_enter Try.func19, Try.ntmps19
     go_wp2_with (first | ((with_reducible refine gD 1 rfl ?_); refine boxE (N := 1) rfl (cs := #[.int .i64 aG, .int .i64 aH, .int .i64 aN, .int .i64 aK, .int .i64 aP, .int .i64 aQ, .int .i64 aT, .int .i64 aU, .int .i64 aV, .string aW]) (t := 38) ?_; intro bI hg wA hbox hb; have aJ := aM (hbox); have bJ := aM (xge hg); have bK := aM (xge hg); replace HB := xbs hb; clear hb hbox hg; obtain ⟨dC, dD, dE, dF, dG, dH, oF, oG, oH, oI, dI, dJ, dK, dL, dM, dN, oJ, oK, oL, oM⟩ := xf10 (w := wA) aJ) | ((with_reducible refine gC 35 rfl ?_); refine goesLY (some 30) rfl Try.func35 #[.int .i64 aK, .int .i64 1, .int .i64 80] ?_; (with_reducible refine (impl_within.calls aK 1 80 true _ kY.out).mono ?_); rintro e w' ⟨rfl, ⟨nd, rfl⟩⟩; refine ⟨_, rfl, ?_⟩) | (go_at_call 54; (with_reducible refine (impl_entryOk.calls k aP aQ aT aU aV aW false _ uK.out).mono ?_); rintro e tQ ⟨rfl, hb⟩; replace aJ := xbb aJ hb; replace HB := xbs hb; (try clear hb)))
     go_ret
     exact ⟨xerr, xbg⟩
   ·replace kZ := Bool.eq_false_iff.mpr kZ; subst kZ; replace H := iN H; obtain rfl := Option.some.inj H; go_enter Try.func19, Try.ntmps19
    go_wp2_with (first | ((with_reducible refine gD 1 rfl ?_); refine boxE (N := 1) rfl (cs := #[.int .i64 aG, .int .i64 aH, .int .i64 aN, .int .i64 aK, .int .i64 aP, .int .i64 aQ, .int .i64 aT, .int .i64 aU, .int .i64 aV, .string aW]) (t := 38) ?_; intro bI hg vF hbox hb; have aJ := aM (hbox); have bJ := aM (xge hg); have bK := aM (xge hg); replace HB := xbs hb; clear hb hbox hg; obtain ⟨oO, oP, oQ, oR, oT, oU, oV, oW, oX, oY, oZ, pA, pB, pC, pD, pE, pF, pG, pH, pI⟩ := xf10 (w := vF) aJ) | ((with_reducible refine gC 35 rfl ?_); refine goesLY (some 30) rfl Try.func35 #[.int .i64 aK, .int .i64 1, .int .i64 80] ?_; (with_reducible refine (impl_within.calls aK 1 80 false _ kY.out).mono ?_); rintro e w' ⟨rfl, ⟨nd, rfl⟩⟩; refine ⟨_, rfl, ?_⟩))
    go_ret
    exact ⟨xerr, xbg⟩
  ·rw [if_neg fI] at H; obtain ⟨fJ, fK⟩ := bF fI; by_cases fQ : aG = 3
   ·rw [if_pos fQ] at H; obtain ⟨fR, fS⟩ := bT fQ; clear fQ; replace H := oB H; obtain ⟨dA, fT, H⟩ := H; (try dsimp only at H); have pJ := aM fT; clear fT
    by_cases pK : dA = true
    ·subst pK; replace H := iT H; by_cases dB : aH = 0
     ·rw [if_pos dB] at H; obtain ⟨fU, fV⟩ := bT dB; clear dB; by_cases fW : aN = 0
      ·rw [if_pos fW] at H; obtain ⟨fX, fY⟩ := bT fW; clear fW; obtain rfl := Option.some.inj H; go_enter Try.func19, Try.ntmps19
       go_wp2_with (first | ((with_reducible refine gD 1 rfl ?_); refine boxE (N := 1) rfl (cs := #[.int .i64 aG, .int .i64 aH, .int .i64 aN, .int .i64 aK, .int .i64 aP, .int .i64 aQ, .int .i64 aT, .int .i64 aU, .int .i64 aV, .string aW]) (t := 38) ?_; intro bI hg wB hbox hb; have aJ := aM (hbox); have bJ := aM (xge hg); have bK := aM (xge hg); replace HB := xbs hb; clear hb hbox hg; obtain ⟨dO, dP, dQ, pL, pM, pN, pO, pP, pQ, pR, dR, dS, dU, pS, pT, pW, pX, pY, pZ, qA⟩ := xf10 (w := wB) aJ) | ((with_reducible refine gC 35 rfl ?_); refine goesLY (some 50) rfl Try.func35 #[.int .i64 aK, .int .i64 0, .int .i64 80] ?_; (with_reducible refine (impl_within.calls aK 0 80 true _ pJ.out).mono ?_); rintro e w' ⟨rfl, ⟨nd, rfl⟩⟩; refine ⟨_, rfl, ?_⟩))
       go_ret
       exact ⟨xerr, xbg⟩
      ·rw [if_neg fW] at H; obtain ⟨fX, fY⟩ := bF fW; obtain rfl := Option.some.inj H; go_enter Try.func19, Try.ntmps19
       go_wp2_with (first | ((with_reducible refine gD 1 rfl ?_); refine boxE (N := 1) rfl (cs := #[.int .i64 aG, .int .i64 aH, .int .i64 aN, .int .i64 aK, .int .i64 aP, .int .i64 aQ, .int .i64 aT, .int .i64 aU, .int .i64 aV, .string aW]) (t := 38) ?_; intro bI hg wC hbox hb; have aJ := aM (hbox); have bJ := aM (xge hg); have bK := aM (xge hg); replace HB := xbs hb; clear hb hbox hg; obtain ⟨qB, qC, qD, qE, qF, qG, qH, qI, qJ, qK, qL, qM, qN, qO, qP, qQ, qR, qS, qT, qU⟩ := xf10 (w := wC) aJ) | ((with_reducible refine gC 35 rfl ?_); refine goesLY (some 50) rfl Try.func35 #[.int .i64 aK, .int .i64 0, .int .i64 80] ?_; (with_reducible refine (impl_within.calls aK 0 80 true _ pJ.out).mono ?_); rintro e w' ⟨rfl, ⟨nd, rfl⟩⟩; refine ⟨_, rfl, ?_⟩))
       go_ret
       exact ⟨xerr, xbg⟩
     ·rw [if_neg dB] at H; obtain ⟨fU, fV⟩ := bF dB; obtain rfl := Option.some.inj H; go_enter Try.func19, Try.ntmps19
      go_wp2_with (first | ((with_reducible refine gD 1 rfl ?_); refine boxE (N := 1) rfl (cs := #[.int .i64 aG, .int .i64 aH, .int .i64 aN, .int .i64 aK, .int .i64 aP, .int .i64 aQ, .int .i64 aT, .int .i64 aU, .int .i64 aV, .string aW]) (t := 38) ?_; intro bI hg wD hbox hb; have aJ := aM (hbox); have bJ := aM (xge hg); have bK := aM (xge hg); replace HB := xbs hb; clear hb hbox hg; obtain ⟨qV, qW, qX, qY, qZ, rA, rB, rC, rE, rF, rG, rH, rI, rJ, rK, rL, rM, rN, rO, rP⟩ := xf10 (w := wD) aJ) | ((with_reducible refine gC 35 rfl ?_); refine goesLY (some 50) rfl Try.func35 #[.int .i64 aK, .int .i64 0, .int .i64 80] ?_; (with_reducible refine (impl_within.calls aK 0 80 true _ pJ.out).mono ?_); rintro e w' ⟨rfl, ⟨nd, rfl⟩⟩; refine ⟨_, rfl, ?_⟩))
      go_ret
      exact ⟨xerr, xbg⟩
    ·replace pK := Bool.eq_false_iff.mpr pK; subst pK; replace H := iN H; obtain rfl := Option.some.inj H; go_enter Try.func19, Try.ntmps19
     go_wp2_with (first | ((with_reducible refine gD 1 rfl ?_); refine boxE (N := 1) rfl (cs := #[.int .i64 aG, .int .i64 aH, .int .i64 aN, .int .i64 aK, .int .i64 aP, .int .i64 aQ, .int .i64 aT, .int .i64 aU, .int .i64 aV, .string aW]) (t := 38) ?_; intro bI hg wE hbox hb; have aJ := aM (hbox); have bJ := aM (xge hg); have bK := aM (xge hg); replace HB := xbs hb; clear hb hbox hg; obtain ⟨rQ, rR, rS, rT, rU, rV, rW, rX, rY, rZ, sA, sB, sC, sD, sE, sF, sG, sH, sI, sJ⟩ := xf10 (w := wE) aJ) | ((with_reducible refine gC 35 rfl ?_); refine goesLY (some 50) rfl Try.func35 #[.int .i64 aK, .int .i64 0, .int .i64 80] ?_; (with_reducible refine (impl_within.calls aK 0 80 false _ pJ.out).mono ?_); rintro e w' ⟨rfl, ⟨nd, rfl⟩⟩; refine ⟨_, rfl, ?_⟩))
     go_ret
     exact ⟨xerr, xbg⟩
   ·rw [if_neg fQ] at H; obtain ⟨fR, fS⟩ := bF fQ; obtain rfl := Option.some.inj H; go_enter Try.func19, Try.ntmps19
    go_wp2_with (first | ((with_reducible refine gD 1 rfl ?_); refine boxE (N := 1) rfl (cs := #[.int .i64 aG, .int .i64 aH, .int .i64 aN, .int .i64 aK, .int .i64 aP, .int .i64 aQ, .int .i64 aT, .int .i64 aU, .int .i64 aV, .string aW]) (t := 38) ?_; intro bI hg wF hbox hb; have aJ := aM (hbox); have bJ := aM (xge hg); have bK := aM (xge hg); replace HB := xbs hb; clear hb hbox hg; obtain ⟨sK, sL, sM, sN, sO, sP, sQ, sR, sS, sU, sV, sW, sX, sY, sZ, tA, tB, tC, tD, tE⟩ := xf10 (w := wF) aJ))
    go_ret
    exact ⟨xerr, xbg⟩

/-! ### impl_copyLog: function 67 -/
def impl_copyLog.f (l0 : List (S36)) : Option ((List (S36))) := (some (([] : List (S36)) : List (S36))).bind fun bR => (if bR.length + l0.length < 2513169434916 then (some (bR ++ l0)) else (none))
set_option maxHeartbeats 8000000 in
set_option maxRecDepth 100000 in
theorem impl_copyLog.calls (A0 : Option Addr) (c0 : Nat) (l0 : List (S36)) (r : List (S36)) (w : World) (vK : Kd.C k36 w A0 l0.length l0) (vL : l0.length ≤ c0) (h : impl_copyLog.f l0 = some r) :
 Calls Try.prog 67 #[.slice A0 l0.length c0] w fun e w' => ∃ v0_ : Value, e = .returned (v0_) ∧ Kd.R k36 36 w' w.heap.size (fun _ => True) v0_ r ∧ Below w.heap.size w w' := by
 have wG := aM vK
 have wO := aM vL
 clear vK vL
 have HB := aM (Below.refl w.heap.size w)
 have H : ((some (([] : List (S36)) : List (S36))).bind fun bR => (if bR.length + l0.length < 2513169434916 then (some (bR ++ l0)) else (none))) = some r := h
 clear h
 obtain ⟨bR, hY⟩ : ∃ y_ : List (S36), y_ = (([] : List (S36))) := ⟨_, rfl⟩
 replace H : (if bR.length + l0.length < 2513169434916 then (some (bR ++ l0)) else (none)) = some r := u10_2
 have dX := aM hY
 clear hY
 by_cases c2 : bR.length + l0.length < 2513169434916
 ·rw [if_pos c2] at H; have LMc2 := aM c2; clear c2; obtain ⟨uL, hY⟩ : ∃ y_ : List (S36), y_ = (bR ++ l0) := ⟨_, rfl⟩; replace H : (some uL) = some r := u10_2; have fZ := aM hY; clear hY; obtain rfl := Option.some.inj H; go_enter Try.func67, Try.ntmps67
  go_wp2_with (first | ((with_reducible refine gD 3 rfl ?_); refine Kd.R_lit k36 _ 36 ?hg (N := 3) ?hd (xs := ([] : List (S36))) (inner := []) (ok := fun _ => True) (okp := fun _ => True) ?hr ?hp (fun _ hk => hk) trivial (Below.refl _ _) (Nat.le_refl _) (by simp) ?_; (case hd => rfl); (case hg => rfl); (case hr => exact u10_0); (case hp => exact (Reps.none _ _)); intro v463 w3 gA hb hg_ hnew_; clear hg_ hnew_; (first | rw [← dX.out] at gA | (simp only [Int.reduceToNat] at gA; rw [← dX.out] at gA)); have dY := aM (Kd.R_lower gA (below_size xbel)); replace HB := xbs hb; clear hb gA) | ((with_reducible refine gate_builtin (b := .append) (xs := #[.tmp 3, .tmp 4]) rfl ?_); at_builtin; refine Kd.R_append_rows k36 (w0 := w) w.heap.size rfl (.tmp 3) (.tmp 4) 26 36 (.agg #[(.int .i64 0), (.int .i64 0), (.int .i64 0), (.int .i64 0), (.int .i64 0), (.string ⟨#[]⟩)]) 56 rfl Try.underlying26 info36 rfl (by decide) (by omega) v463 bR l0 _ _ _ (fun _ => True) (fun _ => False) rfl rfl ?aO ?aR (fun _ _ h => h) (fun _ h => h.elim) ?aF ?aB ?aS ?aL ?_; (case aR => exact xcb wG); (case aB => exact xbel); (case aF => exact (fun _ _ => trivial)); (case aO => exact (xr dY)); (case aS => exact (below_size xbel)); (case aL => have := LMc2.out; omega); intro v466 w5 ho hb hg hat; rw [← fZ.out] at ho; replace HB := aM (hb); have gB := aM (ho); clear dY; clear ho hb hg hat))
  go_ret
  exact ⟨_, xerr, by (with_reducible repeat (first | apply Kd.R_alloc | apply Kd.R_drewN | apply Kd.R_drew)); exact gB.out, xbel⟩
 ·rw [if_neg c2] at H; exact absurd H (by simp)

/-! ### impl_copyHard: function 34 -/
def impl_copyHard.f (aG : Int) (aH : Int) (aA : List (S36)) : Option (Int × Int × (List (S36))) := (impl_copyLog.f aA).bind fun bN => (some (aG, aH, bN))
set_option maxHeartbeats 8000000 in
set_option maxRecDepth 100000 in
theorem impl_copyHard.calls (aG : Int) (aH : Int) (bW : Option Addr) (bH : Nat) (aA : List (S36)) (r1 : Int) (r2 : Int) (r3 : List (S36)) (w : World) (bY : Kd.C k36 w bW aA.length aA) (bZ : aA.length ≤ bH) (h : impl_copyHard.f aG aH aA = some (r1, r2, r3)) :
 Calls Try.prog 34 #[.agg #[.int .i64 aG, .int .i64 aH, .slice bW aA.length bH]] w fun e w' => ∃ v2_ : Value, e = .returned (.agg #[.int .i64 r1, .int .i64 r2, v2_]) ∧ Kd.R k36 36 w' w.heap.size (fun _ => True) v2_ r3 ∧ Below w.heap.size w w' := by
 have tM := Try.underlying28
 have bP := aM bY
 have cE := aM bZ
 clear bY bZ
 have HB := aM (Below.refl w.heap.size w)
 have H : ((impl_copyLog.f aA).bind fun bN => (some (aG, aH, bN))) = some (r1, r2, r3) := h
 clear h
 replace H := oB H
 obtain ⟨bN, fE, H⟩ := H
 (try dsimp only at H)
 have A2 := aM fE
 clear fE
 simp only [Option.some.injEq, Prod.mk.injEq] at H
 obtain ⟨rfl, rfl, rfl⟩ := H
 go_enter Try.func34, Try.ntmps34
 go_wp2_with (first | ((with_reducible refine gD 1 rfl ?_); refine boxE (N := 1) rfl (cs := #[.int .i64 aG, .int .i64 aH, .slice bW aA.length bH]) (t := 28) ?_; intro dZ hg w3 hbox hb; have bM := aM (hbox); have vM := aM (xge hg); have vN := aM (xge hg); replace HB := xbs hb; clear hb hbox hg) | ((with_reducible refine gD 2 rfl ?_); refine boxE (N := 2) rfl (cs := #[.int .i64 0, .int .i64 0, .slice none 0 0]) (t := 28) ?_; intro cB hg w4 hbox hb; have vO := aM (xge hg); have vP := aM (xge hg); replace HB := xbs hb; have cI := nblt bM hg; have cJ := nbgt bM hg; replace bM := xbb bM hb; have cG := aM (hbox); clear hb hbox hg; have wH := cI.out; have wI := cJ.out; obtain ⟨eL, eM, eN, eO, eP, eQ⟩ := xf3 (w := w4) bM) | ((with_reducible refine gC 67 rfl ?_); refine goesLY (some 5) rfl Try.func67 #[.slice bW aA.length bH] ?_; (with_reducible refine (impl_copyLog.calls _ _ aA bN _ ?side1 ?side2 A2.out).mono ?_); (case side1 => exact xcb bP); (case side2 => exact cE.out); rintro e w7 ⟨v471, rfl, vQ, hb⟩; refine ⟨_, rfl, ?_⟩; have cH := aM (Kd.R_lower vQ (below_size xbg)); replace bM := xbb bM hb; replace cG := xbb cG hb; replace HB := xbs hb; (try clear hb vQ); obtain ⟨eX, eY, wJ⟩ := Kd.R_slice cH.out; subst wJ; obtain ⟨cP, cQ, cS, cT, cU, cV⟩ := xf3 (w := w7) bM; obtain ⟨tF, tG, tH, tI, tJ, tL⟩ := xf3 (w := w7) cG) | ((with_reducible refine gate_store (t := 28) (p := 2) rfl ?_); refine store_event (t := 28) (p := 2) (v := ?vo_w11) (w1 := ((((w7.setCell ⟨dZ, 2, none⟩ (.slice eX bN.length eY)).setCell ⟨cB, 0, none⟩ (.int .i64 aG)).setCell ⟨cB, 1, none⟩ (.int .i64 aH)).setCell ⟨cB, 2, none⟩ (.slice eX bN.length eY))) ?hg ?ho ?hn ?hr ?_; (case ho | hg | hn => rfl); (case hr => exact u10_0); intro uM hw; replace cH : Aside0 (Kd.R k36 36 uM w.heap.size (fun _ => True) (.slice eX bN.length eY) bN) := xwm hw cH (fun _ _ => trivial); replace bM : Aside0 (uM.heap[dZ]? = some (.cells #[.int .i64 aG, .int .i64 aH, .slice eX bN.length eY] 28 (0, 0))) := xwp hw; replace cG : Aside0 (uM.heap[cB]? = some (.cells #[.int .i64 aG, .int .i64 aH, .slice eX bN.length eY] 28 (0, 0))) := xwp hw; replace HB := xbw hw HB; clear hw))
 refine bodyPost_ret (results_cell_row rfl _ _ cB 28 #[.int .i64 aG, .int .i64 aH, .slice eX bN.length eY] (0, 0) _ rfl xblk Try.underlying28 rfl (by kernel_rfl)) rfl ?_
 exact ⟨_, xerr, by (with_reducible repeat (first | apply Kd.R_alloc | apply Kd.R_drewN | apply Kd.R_drew)); exact cH.out, xbg⟩

end Go.Proofs.Ytocpomkfilpflaa.QFnHardRun
