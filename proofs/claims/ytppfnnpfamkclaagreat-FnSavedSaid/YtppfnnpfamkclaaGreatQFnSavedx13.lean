-- A walk, by a program of this session.
import Derived.Test.YtppfnnpfamkclaaGreatQFnSavedx0
import Derived.Test.YtppfnnpfamkclaaGreatQFnSavedx1
import Derived.Test.YtppfnnpfamkclaaGreatQFnSavedx3
import Derived.Test.YtppfnnpfamkclaaGreatQFnSavedx12
namespace Go.Proofs.YtppfnnpfamkclaaGreat.QFnSaved
open Go.RowKit Go.Proofs.YtppfnnpfamkclaaGreatW.PrintWords Go.Proofs.YtppfnnpfamkclaaGreatW.PrintLast Go.Proofs.YtppfnnpfamkclaaGreatW.PrintMore
attribute [local go_sem] max2_int min2_int max_two min_two max_three min_three max_four min_four   -- for this text's walks alone
set_option maxHeartbeats 8000000
set_option maxRecDepth 100000
set_option linter.unusedVariables false
set_option linter.unusedSimpArgs false
attribute [local go_sem high] eqA48
theorem u13_0 {p : Prop} (h : p := by first | rfl | (simp; done) | (simp [*]; done)) : p := h
theorem u13_1 {p : Prop} (h : p := by first | omega | exact Nat.le_refl _) : p := h
theorem u13_2 {p : Prop} (h : p := by have := HJ1.out; have := HK2.out; first | omega | exact Nat.le_refl _) : p := h
def spec_CmdOk.j0 : Nat → Bool → Int → Int → Int → Int → ByteArray → Int → Int → Int → Int → ByteArray → Option (Bool)
 | 0, _, _, _, _, _, _, _, _, _, _, _ => none
 | k + 1, qU, bV, jR, cV, cW, cX, dE, jS, eM, dF, dG => if qU = true then (some false) else (if bV = 2 then ((spec_l1In.f cW 0 1000).bind fun hC => (if hC = true then (if (cX.size : Int) = 32 then (some (cV == 0)) else (some false)) else (some false))) else (if bV = 3 then ((spec_l1In.f cV 0 4).bind fun hD => (if hD = true then (some (bV == dE && (cW == dF && (cX.toList == dG.toList)))) else (some false))) else (some (bV == dE && (cV == eM && (cW == dF && (cX.toList == dG.toList)))))))
def spec_CmdOk.f (k : Nat) (aE : Int) (aL : Int) (bG : Int) (bE : Int) (bI : ByteArray) : Option (Bool) := if aE = 1 then (some (aL == 0 && (bG == 0 && (bE == 0 && (bI.toList == ([] : List UInt8)))))) else ((spec_l1In.f aE 2 5).bind fun dW => (if dW = true then ((spec_l1In.f aL 1 1000).bind fun dU => (spec_CmdOk.j0 k (!dU) aE aL bG bE bI aE 0 0 0 (⟨#[]⟩ : ByteArray))) else (spec_CmdOk.j0 k true aE aL bG bE bI aE 0 0 0 (⟨#[]⟩ : ByteArray))))
theorem spec_CmdOk.calls {k : Nat} {aE aL bG bE : Int} {bI : ByteArray} {r : Bool} {w : World} (h : spec_CmdOk.f k aE aL bG bE bI = some r) :
 Calls Tryz.prog 99 #[.agg #[.int .i64 aE, .int .i64 aL, .int .i64 bG, .int .i64 bE, .string bI]] w fun e w' => e = .returned (.bool r) ∧ Below w.heap.size w w' := by
 have oS := Tryz.underlying48; have HB := aM (Below.refl w.heap.size w); have H := h; unfold spec_CmdOk.f at H
 clear h
 replace H := eI_ H; obtain ⟨iI, iJ, H⟩ | ⟨c2, iI, iJ, H⟩ := H
 ·obtain rfl := Option.some.inj H; go_enter Tryz.func99, Tryz.ntmps99
  go_wp2_with (first | ((with_reducible refine gD 1 rfl ?_); (try (refine gate_guard (by rfl) ?_; dsimp only)); refine bE_ (N := 1) rfl ?_; intro gX hg w3 aQ hb; have iK := aM (xge hg); have iL := aM (xge hg); replace HB := xbs hb; clear hb hg; have hE := xf5 (w := w3) aQ) | ((with_reducible refine gD 3 rfl ?_); (try (refine gate_guard (by rfl) ?_; dsimp only)); refine bE_ (N := 3) rfl ?_; intro bK hg w5 bS hb; have iM := aM (xge hg); have iO := aM (xge hg); replace HB := xbs hb; have aO := nblt aQ hg; have aP := nbgt aQ hg; replace aQ := xbb aQ hb; clear hb hg; have qV := a2_ aP aO; have hP := xf5 (w := w5) bS) | (refine sE_ 48 3 ?_; intro w8 hw; replace aQ := xwc hw aQ; replace bS : Aside0 (w8.heap[bK]? = some (.cells #[.int .i64 aE, .int .i64 0, .int .i64 0, .int .i64 0, .string (⟨#[]⟩ : ByteArray)] 48 (0, 0))) := xwp hw; replace HB := xbw hw HB; clear hw; have cO := xf5 (w := w8) aQ; have bW := xf5 (w := w8) bS))
  go_ret
  exact ⟨xerr, xbg⟩
 have hZ := aM H; clear H; go_enter Tryz.func99, Tryz.ntmps99
 go_upto_region 4 with (first | ((with_reducible refine gD 1 rfl ?_); (try (refine gate_guard (by rfl) ?_; dsimp only)); refine bE_ (N := 1) rfl ?_; intro gX hg qX aQ hb; have iK := aM (xge hg); have iL := aM (xge hg); replace HB := xbs hb; clear hb hg; have eR := xf5 (w := qX) aQ) | ((with_reducible refine gD 3 rfl ?_); (try (refine gate_guard (by rfl) ?_; dsimp only)); refine bE_ (N := 3) rfl ?_; intro bK hg pN bS hb; have iM := aM (xge hg); have iO := aM (xge hg); replace HB := xbs hb; have aO := nblt aQ hg; have aP := nbgt aQ hg; replace aQ := xbb aQ hb; clear hb hg; have pO := a2_ aP aO; have fB := xf5 (w := pN) bS) | (refine sE_ 48 3 ?_; intro jT hw; replace aQ := xwc hw aQ; replace bS : Aside0 (jT.heap[bK]? = some (.cells #[.int .i64 aE, .int .i64 0, .int .i64 0, .int .i64 0, .string (⟨#[]⟩ : ByteArray)] 48 (0, 0))) := xwp hw; replace HB := xbw hw HB; clear hw; have fL := xf5 (w := jT) aQ))
 (try simp only [Act.put, List.setIfInBounds_toArray, List.set_cons_zero, List.set_cons_succ]); go_cut [22] (fun v22 wc => ∃ (kq : Nat) (cY : Bool), v22 = .bool cY ∧ Aside0 (spec_CmdOk.j0 kq cY aE aL bG bE bI aE 0 0 0 (⟨#[]⟩ : ByteArray) = some r) ∧ Aside0 (kq ≤ k) ∧ Aside0 (wc.heap[gX]? = some (.cells #[.int .i64 aE, .int .i64 aL, .int .i64 bG, .int .i64 bE, .string bI] 48 (0, 0))) ∧ Aside0 (wc.heap[bK]? = some (.cells #[.int .i64 aE, .int .i64 0, .int .i64 0, .int .i64 0, .string (⟨#[]⟩ : ByteArray)] 48 (0, 0))) ∧ Aside0 (Below w.heap.size w wc))
 case first =>
  have H := hZ.out; clear hZ; replace H := oA_ H; obtain ⟨dW, pQ, H⟩ := H; (try dsimp only at H)
  cases dW; rotate_left
  ·replace H := iT H; replace H := oA_ H; obtain ⟨dU, qY, H⟩ := H; (try dsimp only at H); replace H := aM H; have pR := a2_ aO aP; have fV := xf5 (w := jT) aQ; go_wp2_with (first | (refine gN_ 88 15 rfl rfl ?_; refine c0_ Tryz.func88 (spec_l1In.calls pQ.out) ?_; rintro w' ⟨nd, rfl⟩) | (go_at_call 88; (with_reducible refine (spec_l1In.calls qY.out).mono ?_); rintro e w' ⟨rfl, ⟨nd, rfl⟩⟩))
   go_meet
   case rel => exact ⟨_, _, u13_0, H, ⟨u13_1⟩, ⟨xblk⟩, ⟨xblk⟩, ⟨xbg⟩⟩
  replace H := iN H; replace H := aM H; have pT := a2_ aO aP; have gH := xf5 (w := jT) aQ; go_wp2_with (first | (refine gN_ 88 15 rfl rfl ?_; refine c0_ Tryz.func88 (spec_l1In.calls pQ.out) ?_; rintro w' ⟨nd, rfl⟩))
  go_meet
  case rel => exact ⟨_, _, u13_0, H, ⟨u13_1⟩, ⟨xblk⟩, ⟨xblk⟩, ⟨xbg⟩⟩
 case rest =>
  clear hZ
  try clear c2
  try clear iI
  try clear iJ
  try clear eR eS eT eU eV
  try clear fB fC fD fE fF
  try clear fL fM fN fO fP
  obtain ⟨kq, cY, rfl, HA, HJ10, aQ, bS, HB⟩ := hcut; cases kq with
  | zero => exact absurd HA.out (by simp [spec_CmdOk.j0])
  | succ qZ =>
   have H := HA.out; clear HA; simp only [spec_CmdOk.j0] at H; cases cY; rotate_left
   ·replace H := iT H; obtain rfl := Option.some.inj H; go_wp2; go_ret
    exact ⟨xerr, xbg⟩
   replace H := iN H; replace H := eI_ H; obtain ⟨iU, iV, H⟩ | ⟨iS, iU, iV, H⟩ := H
   ·replace H := oA_ H; obtain ⟨hC, oT, H⟩ := H; (try dsimp only at H)
    cases hC; rotate_left
    ·replace H := iT H; replace H := eI_ H; obtain ⟨iY, iZ, H⟩ | ⟨iX, iY, iZ, H⟩ := H
     ·obtain rfl := Option.some.inj H; have pX := a2_ aO aP; have gR := xf5 (w := wc) aQ; have kA := xf5 (w := wc) bS; go_wp2_with (first | (refine gN_ 88 32 rfl rfl ?_; refine c0_ Tryz.func88 (spec_l1In.calls oT.out) ?_; rintro w' ⟨nd, rfl⟩))
      go_ret
      exact ⟨xerr, xbg⟩
     obtain rfl := Option.some.inj H; have pZ := a2_ aO aP; have kK := xf5 (w := wc) aQ; have kU := xf5 (w := wc) bS; go_wp2_with (first | (refine gN_ 88 32 rfl rfl ?_; refine c0_ Tryz.func88 (spec_l1In.calls oT.out) ?_; rintro w' ⟨nd, rfl⟩))
     go_ret
     exact ⟨xerr, xbg⟩
    replace H := iN H; obtain rfl := Option.some.inj H; have qB := a2_ aO aP; have lF := xf5 (w := wc) aQ; have lP := xf5 (w := wc) bS; go_wp2_with (first | (refine gN_ 88 32 rfl rfl ?_; refine c0_ Tryz.func88 (spec_l1In.calls oT.out) ?_; rintro w' ⟨nd, rfl⟩))
    go_ret
    exact ⟨xerr, xbg⟩
   replace H := eI_ H; obtain ⟨jB, jC, H⟩ | ⟨jA, jB, jC, H⟩ := H
   ·replace H := oA_ H; obtain ⟨hD, qD, H⟩ := H; (try dsimp only at H)
    cases hD; rotate_left
    ·replace H := iT H; obtain rfl := Option.some.inj H; have qE := a2_ aO aP; have mA := xf5 (w := wc) aQ; have mK := xf5 (w := wc) bS; go_wp2_with (first | (refine gN_ 88 51 rfl rfl ?_; refine c0_ Tryz.func88 (spec_l1In.calls qD.out) ?_; rintro w' ⟨nd, rfl⟩))
     go_ret
     exact ⟨xerr, xbg⟩
    replace H := iN H; obtain rfl := Option.some.inj H; have qG := a2_ aO aP; have mU := xf5 (w := wc) aQ; have nE := xf5 (w := wc) bS; go_wp2_with (first | (refine gN_ 88 51 rfl rfl ?_; refine c0_ Tryz.func88 (spec_l1In.calls qD.out) ?_; rintro w' ⟨nd, rfl⟩))
    go_ret
    exact ⟨xerr, xbg⟩
   obtain rfl := Option.some.inj H; have qI := a2_ aO aP; have nO := xf5 (w := wc) aQ; have nY := xf5 (w := wc) bS; go_wp2; go_ret
   exact ⟨xerr, xbg⟩
def spec_l6Entry.f (k : Nat) (aE : Int) (aL : Int) (bG : Int) (bE : Int) (bI : Int) (dA : ByteArray) : Option (Bool) := (spec_l1In.f aE 1 1000000000).bind fun eB => (if eB = true then ((spec_CmdOk.f k aL bG bE bI dA).bind fun eC => (some eC)) else (some false))
theorem spec_l6Entry.calls {k : Nat} {aE aL bG bE bI : Int} {dA : ByteArray} {r : Bool} {w : World} (h : spec_l6Entry.f k aE aL bG bE bI dA = some r) :
 Calls Tryz.prog 89 #[.agg #[.int .i64 aE, .int .i64 aL, .int .i64 bG, .int .i64 bE, .int .i64 bI, .string dA]] w fun e w' => e = .returned (.bool r) ∧ Below w.heap.size w w' := by
 have oU := Tryz.underlying50; have oS := Tryz.underlying48; have HB := aM (Below.refl w.heap.size w); have H := h; unfold spec_l6Entry.f at H
 clear h
 replace H := oB H; obtain ⟨eB, qK, H⟩ := H; (try dsimp only at H); have A2 := aM qK
 clear qK
 cases eB; rotate_left
 ·replace H := iT H; replace H := oA_ H; obtain ⟨eC, A4, H⟩ := H; (try dsimp only at H); obtain rfl := Option.some.inj H; go_enter Tryz.func89, Tryz.ntmps89
  go_wp2_with (first | (refine bE_ (N := 1) rfl ?_; intro jF hg w5 dB hb; have jG := aM (xge hg); have jH := aM (xge hg); replace HB := xbs hb; clear hb hg; have oV := xf6 (w := w5) dB) | (refine gN_ 88 5 rfl rfl ?_; refine c0_ Tryz.func88 (spec_l1In.calls A2.out) ?_; rintro w' ⟨nd, rfl⟩) | (go_at_call 99; (with_reducible refine (spec_CmdOk.calls A4.out).mono ?_); rintro e w7 ⟨rfl, hb⟩; replace dB := xbb dB hb; replace HB := xbs hb; (try clear hb)))
  go_ret
  exact ⟨xerr, xbg⟩
 replace H := iN H; obtain rfl := Option.some.inj H; go_enter Tryz.func89, Tryz.ntmps89
 go_wp2_with (first | (refine bE_ (N := 1) rfl ?_; intro jF hg w8 dB hb; have jG := aM (xge hg); have jH := aM (xge hg); replace HB := xbs hb; clear hb hg; have cO := xf6 (w := w8) dB) | (refine gN_ 88 5 rfl rfl ?_; refine c0_ Tryz.func88 (spec_l1In.calls A2.out) ?_; rintro w' ⟨nd, rfl⟩))
 go_ret
 exact ⟨xerr, xbg⟩
mutual
def spec_HardOk.j0 : Nat → Bool → Int → Int → List (S50) → Option (Bool)
 | 0, _, _, _, _ => none
 | k + 1, rA, bH, bL, aN => if rA = true then (some false) else (spec_HardOk.l0 k 0 bH bL aN)
def spec_HardOk.l0 : Nat → Int → Int → Int → List (S50) → Option (Bool)
 | 0, _, _, _, _ => none
 | k + 1, x3, bH, bL, aN => if x3 < (aN.length : Int) then (if 0 ≤ x3 then ((spec_l6Entry.f k ((rd_T50 aN x3).f0) ((rd_T50 aN x3).f1.f0) ((rd_T50 aN x3).f1.f1) ((rd_T50 aN x3).f1.f2) ((rd_T50 aN x3).f1.f3) ((rd_T50 aN x3).f1.f4)).bind fun iA => (if iA = true then (if ((rd_T50 aN x3).f0) > bH then (spec_HardOk.j2 k x3 true bH bL aN) else (if x3 > 0 then (if 0 ≤ (wrap64 (x3 - 1)) then (if (wrap64 (x3 - 1)) < (aN.length : Int) then (spec_HardOk.j2 k x3 (decide (((rd_T50 aN x3).f0) < ((rd_T50 aN (wrap64 (x3 - 1))).f0))) bH bL aN) else (none)) else (none)) else (spec_HardOk.j2 k x3 false bH bL aN))) else (spec_HardOk.j2 k x3 true bH bL aN))) else (none)) else (some true)
def spec_HardOk.j2 : Nat → Int → Bool → Int → Int → List (S50) → Option (Bool)
 | 0, _, _, _, _, _ => none
 | k + 1, x3, rB, bH, bL, aN => if rB = true then (some false) else (spec_HardOk.l0 k (wrap64 (x3 + 1)) bH bL aN)
end
def spec_HardOk.f (k : Nat) (aE : Int) (aL : Int) (aC : List (S50)) : Option (Bool) := (spec_l1Whole.f aE).bind fun eD => (if eD = true then ((spec_l1In.f aL 0 5).bind fun eE => (if eE = true then (spec_HardOk.j0 k (decide ((aC.length : Int) > 80)) aE aL aC) else (spec_HardOk.j0 k true aE aL aC))) else (spec_HardOk.j0 k true aE aL aC))
def spec_HardOk.T6 : Bool × List (List Nat × List Nat) := (true, [([], []), ([0], [0]), ([], []), ([1, 2], [1, 2]), ([3], [3]), ([4], [4]), ([5], [5]), ([6, 5], [6]), ([7], [7]), ([8, 7], [7, 8]), ([7], [7]), ([9, 10, 7], [7, 9, 10]), ([11, 7], [7, 11]), ([12, 7], [7, 12]), ([7], [7]), ([14, 7], [7, 14]), ([13, 15, 7], [7, 13, 15]), ([7, 16], [7, 16]), ([17, 7], [17]), ([18], [18]), ([19, 18], [18, 19]), ([20, 18, 18], [18, 20]), ([21], [21]), ([22, 21], [21, 22]), ([21], [21]), ([23, 24, 21], [21, 23, 24]), ([25, 21], [21, 25]), ([26, 21], [21, 26]), ([21], [21]), ([28, 21], [21, 28]), ([21], [21]), ([30, 21], [21, 30]), ([29, 31, 21], [21, 29, 31]), ([32, 21], [21, 32]), ([33, 21], [21, 33]), ([27, 34, 21], [21, 27, 34]), ([21, 35, 18], [18, 21, 35]), ([18, 36], [18, 36])])
def spec_HardOk.B6 : List Nat := [0, 1, 0, 7, 15, 31, 63, 127, 255, 511, 255, 2047, 4095, 8191, 255, 16639, 65535, 131071, 262143, 524287, 1048575, 2097151, 4194303, 8388607, 4194303, 33554431, 67108863, 134217727, 4194303, 272629759, 4194303, 1077936127, 4030726143, 8325693439, 16915628031, 34359738367, 68719476735, 137438953471]
theorem spec_HardOk.calls {k : Nat} {aE aL : Int} {dV : Option Addr} {cU : Nat} {aC : List (S50)} {r : Bool} {w : World} (h : spec_HardOk.f k aE aL aC = some r) (gY : Kd.C k50 w dV aC.length aC) (gZ : aC.length ≤ cU) :
 Calls Tryz.prog 55 #[.agg #[.int .i64 aE, .int .i64 aL, .slice dV aC.length cU]] w fun e w' => e = .returned (.bool r) ∧ Below w.heap.size w w' := by
 have rC := Tryz.underlying34; have oU := Tryz.underlying50; have bU := aM gY; have qN := aM gZ
 clear gY gZ
 have HB := aM (Below.refl w.heap.size w); have H := h; unfold spec_HardOk.f at H
 clear h
 have pJ := aM H
 clear H
 go_enter Tryz.func55, Tryz.ntmps55
 go_upto_region 1 with (first | ((with_reducible refine gD 1 rfl ?_); (try (refine gate_guard (by rfl) ?_; dsimp only)); refine bE_ (N := 1) rfl ?_; intro bJ hg w3 aD hb; have qO := aM (xge hg); have qP := aM (xge hg); replace HB := xbs hb; clear hb hg))
 (try simp only [Act.put, List.setIfInBounds_toArray, List.set_cons_zero, List.set_cons_succ])
 go_cut [19] (fun v19 wc => ∃ (kq : Nat) (dH : Bool), v19 = .bool dH ∧ Aside0 (spec_HardOk.j0 kq dH aE aL aC = some r) ∧ Aside0 (kq ≤ k) ∧ Aside0 (wc.heap[bJ]? = some (.cells #[.int .i64 aE, .int .i64 aL, (.slice dV aC.length cU)] 34 (0, 0))) ∧ Aside0 (Below w.heap.size w wc))
 case first =>
  have H := pJ.out; clear pJ; replace H := oA_ H; obtain ⟨eD, A4, H⟩ := H; (try dsimp only at H)
  cases eD; rotate_left
  ·replace H := iT H; replace H := oA_ H; obtain ⟨eE, A6, H⟩ := H; (try dsimp only at H)
   cases eE; rotate_left
   ·replace H := iT H; replace H := aM H; have eF := xf3 (w := w3) aD; go_wp2_with (first | (refine gN_ 87 6 rfl rfl ?_; refine c0_ Tryz.func87 (spec_l1Whole.calls A4.out) ?_; rintro w' ⟨nd, rfl⟩) | (go_at_call 88; (with_reducible refine (spec_l1In.calls A6.out).mono ?_); rintro e w' ⟨rfl, ⟨nd, rfl⟩⟩))
    go_meet
    case rel => exact ⟨_, _, u13_0, H, ⟨u13_1⟩, ⟨xblk⟩, ⟨xbg⟩⟩
   replace H := iN H; replace H := aM H; have cO := xf3 (w := w3) aD; go_wp2_with (first | (refine gN_ 87 6 rfl rfl ?_; refine c0_ Tryz.func87 (spec_l1Whole.calls A4.out) ?_; rintro w' ⟨nd, rfl⟩) | (go_at_call 88; (with_reducible refine (spec_l1In.calls A6.out).mono ?_); rintro e w' ⟨rfl, ⟨nd, rfl⟩⟩))
   go_meet
   case rel => exact ⟨_, _, u13_0, H, ⟨u13_1⟩, ⟨xblk⟩, ⟨xbg⟩⟩
  replace H := iN H; replace H := aM H; have bW := xf3 (w := w3) aD; go_wp2_with (first | (refine gN_ 87 6 rfl rfl ?_; refine c0_ Tryz.func87 (spec_l1Whole.calls A4.out) ?_; rintro w' ⟨nd, rfl⟩))
  go_meet
  case rel => exact ⟨_, _, u13_0, H, ⟨u13_1⟩, ⟨xblk⟩, ⟨xbg⟩⟩
 case rest =>
  clear pJ
  obtain ⟨kq, dH, rfl, HA, HJ1, aD, HB⟩ := hcut; cases kq with
  | zero => exact absurd HA.out (by simp [spec_HardOk.j0])
  | succ qR =>
   have H := HA.out; clear HA; simp only [spec_HardOk.j0] at H; cases dH; rotate_left
   ·replace H := iT H; obtain rfl := Option.some.inj H; go_wp2; go_ret
    exact ⟨xerr, xbg⟩
   replace H := iN H; replace H := aM H; go_wp2; go_loopg [3] qR (fun kq v3 w' => ∃ (aA : Int), v3 = .int .i64 aA ∧ Aside0 (spec_HardOk.l0 kq aA aE aL aC = some r) ∧ Aside0 (kq ≤ qR) ∧ Aside0 (w'.heap[bJ]? = some (.cells #[.int .i64 aE, .int .i64 aL, (.slice dV aC.length cU)] 34 (0, 0))) ∧ Aside0 (Below w.heap.size w w'))
   case atStart => exact ⟨_, u13_0, H, ⟨Nat.le_refl _⟩, ⟨xblk⟩, ⟨xbg⟩⟩
   case round =>
    clear H
    try clear jI
    obtain ⟨aA, rfl, HA, HK2, aD, HB⟩ := hrel; cases gk with
    | zero => exact absurd HA.out (by simp [spec_HardOk.l0])
    | succ k2 =>
     have H := HA.out; clear HA; simp only [spec_HardOk.l0] at H; replace H := dI_ H; obtain ⟨jJ, H⟩ | ⟨jJ, H⟩ := H
     ·have iB := aM H; clear H; have oJ := xf3 (w := wr) aD; go_upto_region 6 with (fail)
      go_cut [64] (fun v64 wc => ∃ (kq : Nat) (cZ : Bool), v64 = .bool cZ ∧ Aside0 (spec_HardOk.j2 kq aA cZ aE aL aC = some r) ∧ Aside0 (kq ≤ k2) ∧ Aside0 (wc.heap[bJ]? = some (.cells #[.int .i64 aE, .int .i64 aL, (.slice dV aC.length cU)] 34 (0, 0))) ∧ Aside0 (Below w.heap.size w wc))
      case first =>
       have H := iB.out; clear iB; replace H := dN_ H; obtain ⟨hA, H⟩ := H
       (first | rw [hA] | (simp only [i64_w, i32_w]; rw [hA]) | skip); replace H := oA_ H; obtain ⟨iA, jL, H⟩ := H; (try dsimp only at H)
       cases iA; rotate_left
       ·replace H := iT H; replace H := dI_ H; obtain ⟨jN, H⟩ | ⟨jN, H⟩ := H
        ·replace H := aM H; try go_wp2
         replace aD := bD aD; replace HB := lD HB; have p578 : 0 ≤ (aA : Int) := oda; have q578 : aA < (aC.length : Int) := oda; obtain ⟨aB, dD, aF, aG, aH, aI, aJ, aK⟩ := at_T50 bU.out aA p578 q578; have aX := aK; have aY := aJ; have aZ := aI; have bA := aH; have bB := aG; have bC := aF; cases dD
         replace aF := xce HB aF; replace aG := xce HB aG; replace aH := xce HB aH; replace aI := xce HB aI; replace aJ := xce HB aJ; replace aK := xce HB aK; replace p578 := eq_true p578; replace q578 := eq_true q578; have p580 : 0 ≤ (aA : Int) := oda; have q580 : aA < (aC.length : Int) := oda; obtain ⟨dC, eL, aR, aS, aT, aU, aV, aW⟩ := at_T50 bU.out aA p580 q580; have bM := aW; have bN := aV; have bO := aU; have bP := aT; have bQ := aS; have bR := aR; obtain rfl : aB = dC := (by injection eL); replace aR := xce HB aR; replace aS := xce HB aS; replace aT := xce HB aT; replace aU := xce HB aU; replace aV := xce HB aV; replace aW := xce HB aW; replace p580 := eq_true p580; replace q580 := eq_true q580; refine st_ 38 (fun w' => w'.cell? ⟨bJ, 0, none⟩ = some (.int .i64 aE) ∧ w'.cell? ⟨bJ, 1, none⟩ = some (.int .i64 aL) ∧ w'.cell? ⟨bJ, 2, none⟩ = some (.slice (some aB) aC.length cU) ∧ w'.cell? (aB.add ((aA).toNat * 6)) = some (.int .i64 ((rd_T50 aC aA).f0)) ∧ w'.cell? ⟨(aB.add ((aA).toNat * 6)).block, (aB.add ((aA).toNat * 6)).off + 1, none⟩ = some (.int .i64 ((rd_T50 aC aA).f1.f0)) ∧ w'.cell? ⟨(aB.add ((aA).toNat * 6)).block, (aB.add ((aA).toNat * 6)).off + 2, none⟩ = some (.int .i64 ((rd_T50 aC aA).f1.f1)) ∧ w'.cell? ⟨(aB.add ((aA).toNat * 6)).block, (aB.add ((aA).toNat * 6)).off + 3, none⟩ = some (.int .i64 ((rd_T50 aC aA).f1.f2)) ∧ w'.cell? ⟨(aB.add ((aA).toNat * 6)).block, (aB.add ((aA).toNat * 6)).off + 4, none⟩ = some (.int .i64 ((rd_T50 aC aA).f1.f3)) ∧ w'.cell? ⟨(aB.add ((aA).toNat * 6)).block, (aB.add ((aA).toNat * 6)).off + 5, none⟩ = some (.string ((rd_T50 aC aA).f1.f4)) ∧ w'.cell? (aB.add ((aA).toNat * 6)) = some (.int .i64 ((rd_T50 aC aA).f0)) ∧ w'.cell? ⟨(aB.add ((aA).toNat * 6)).block, (aB.add ((aA).toNat * 6)).off + 1, none⟩ = some (.int .i64 ((rd_T50 aC aA).f1.f0)) ∧ w'.cell? ⟨(aB.add ((aA).toNat * 6)).block, (aB.add ((aA).toNat * 6)).off + 2, none⟩ = some (.int .i64 ((rd_T50 aC aA).f1.f1)) ∧ w'.cell? ⟨(aB.add ((aA).toNat * 6)).block, (aB.add ((aA).toNat * 6)).off + 3, none⟩ = some (.int .i64 ((rd_T50 aC aA).f1.f2)) ∧ w'.cell? ⟨(aB.add ((aA).toNat * 6)).block, (aB.add ((aA).toNat * 6)).off + 4, none⟩ = some (.int .i64 ((rd_T50 aC aA).f1.f3)) ∧ w'.cell? ⟨(aB.add ((aA).toNat * 6)).block, (aB.add ((aA).toNat * 6)).off + 5, none⟩ = some (.string ((rd_T50 aC aA).f1.f4))) spec_HardOk.T6 spec_HardOk.B6 ⟨xc aD 0 rfl, xc aD 1 rfl, xc aD 2 rfl, (xce HB bC), (xce HB bB), (xce HB bA), (xce HB aZ), (xce HB aY), (xce HB aX), (xce HB bR), (xce HB bQ), (xce HB bP), (xce HB bO), (xce HB bN), (xce HB bM)⟩ (fun hHeld HT_ HW_ => ?_); generalize wr.drew = rE at aD HB aF aG aH aI aJ aK aR aS aT aU aV aW hHeld ⊢; refine pV 0 27 ?_; refine pV 2 29 ?_; refine tK 1 28 ?_; refine pV 3 30 ?_; refine tK 4 31 ?_; refine oN 5 32 fun K hK => ?_
         refine d0_ Tryz.func89 (spec_l6Entry.calls jL.out) ?_; intro rF hb; replace aD := xbb aD hb; replace HB := xbs hb; (try clear hb); refine hK.out _ _ ⟨xc aD 0 rfl, xc aD 1 rfl, xc aD 2 rfl, (xce HB bC), (xce HB bB), (xce HB bA), (xce HB aZ), (xce HB aY), (xce HB aX), (xce HB bR), (xce HB bQ), (xce HB bP), (xce HB bO), (xce HB bN), (xce HB bM)⟩ (fun hHeld => ?_); clear hK K; refine nm_ (N := 32) ?_; refine pV 6 33 ?_; refine pV 7 34 ?_; refine pV 8 35 ?_; refine pV 10 37 ?_; refine pV 14 41 ?_; refine tK 9 36 ?_; refine pV 11 38 ?_; refine pV 12 39 ?_; refine tK 13 40 ?_; refine tK 15 42 ?_; refine pV 16 43 ?_; refine pV 17 44 ?_; refine pV 18 45 ?_; refine pU 19 46 ?_; refine pU 20 47 ?_; refine pU 21 48 ?_; refine pU 22 49 ?_; refine pU 23 50 ?_; refine pU 24 51 ?_; refine pU 25 52 ?_; refine pU 26 53 ?_; refine pU 27 54 ?_; refine pU 28 55 ?_; refine pU 29 56 ?_; refine pU 30 57 ?_; refine pU 31 58 ?_; refine pU 32 59 ?_; refine pU 33 60 ?_; refine pU 34 61 ?_; refine pU 35 62 ?_; refine pU 36 63 ?_; refine pV 37 64 ?_; refine dn_ ?_; try go_wp2
         go_meet
         case rel => exact ⟨_, _, u13_0, H, ⟨u13_2⟩, ⟨xblk⟩, ⟨xbg⟩⟩
        replace H := dI_ H; obtain ⟨hB, H⟩ | ⟨hB, H⟩ := H
        ·generalize hji22 : wrap64 (aA - 1) = ji22 at H; (try rw [hji22] at jL); have hji22w : (IntKind.i64.wrap (aA - 1)) = ji22 := (i64_w _).trans hji22; replace H := dN_ H; obtain ⟨qS, H⟩ := H; replace H := dN_ H; obtain ⟨qT, H⟩ := H; replace H := aM H; try go_wp2
         replace aD := bD aD; replace HB := lD HB; have p578 : 0 ≤ (aA : Int) := oda; have q578 : aA < (aC.length : Int) := oda; obtain ⟨aB, dD, aF, aG, aH, aI, aJ, aK⟩ := at_T50 bU.out aA p578 q578; have aX := aK; have aY := aJ; have aZ := aI; have bA := aH; have bB := aG; have bC := aF; cases dD
         replace aF := xce HB aF; replace aG := xce HB aG; replace aH := xce HB aH; replace aI := xce HB aI; replace aJ := xce HB aJ; replace aK := xce HB aK; replace p578 := eq_true p578; replace q578 := eq_true q578; have p580 : 0 ≤ (aA : Int) := oda; have q580 : aA < (aC.length : Int) := oda; obtain ⟨dC, eL, aR, aS, aT, aU, aV, aW⟩ := at_T50 bU.out aA p580 q580; have bM := aW; have bN := aV; have bO := aU; have bP := aT; have bQ := aS; have bR := aR; obtain rfl : aB = dC := (by injection eL); replace aR := xce HB aR; replace aS := xce HB aS; replace aT := xce HB aT; replace aU := xce HB aU; replace aV := xce HB aV; replace aW := xce HB aW; replace p580 := eq_true p580; replace q580 := eq_true q580; have p581 : 0 ≤ (aA : Int) := oda; have q581 : aA < (aC.length : Int) := oda; obtain ⟨jP, pK, cC, cD, cE, cF, cG, cH⟩ := at_T50 bU.out aA p581 q581; have dI := cH; have dJ := cG; have dK := cF; have dL := cE; have dM := cD; have dN := cC; obtain rfl : aB = jP := (by injection pK); replace cC := xce HB cC; replace cD := xce HB cD; replace cE := xce HB cE; replace cF := xce HB cF; replace cG := xce HB cG; replace cH := xce HB cH; replace p581 := eq_true p581; replace q581 := eq_true q581; have p582 : 0 ≤ ((ji22) : Int) := oda; have q582 : (ji22) < (aC.length : Int) := oda; obtain ⟨jQ, pL, cI, cJ, cK, cL, cM, cN⟩ := at_T50 bU.out (ji22) p582 q582; have dO := cN; have dP := cM; have dQ := cL; have dR := cK; have dS := cJ; have dT := cI; obtain rfl : aB = jQ := (by injection pL); replace cI := xce HB cI; replace cJ := xce HB cJ; replace cK := xce HB cK; replace cL := xce HB cL; replace cM := xce HB cM; replace cN := xce HB cN; replace p582 := eq_true p582; replace q582 := eq_true q582
         refine st_ 38 (fun w' => w'.cell? ⟨bJ, 0, none⟩ = some (.int .i64 aE) ∧ w'.cell? ⟨bJ, 1, none⟩ = some (.int .i64 aL) ∧ w'.cell? ⟨bJ, 2, none⟩ = some (.slice (some aB) aC.length cU) ∧ w'.cell? (aB.add ((aA).toNat * 6)) = some (.int .i64 ((rd_T50 aC aA).f0)) ∧ w'.cell? ⟨(aB.add ((aA).toNat * 6)).block, (aB.add ((aA).toNat * 6)).off + 1, none⟩ = some (.int .i64 ((rd_T50 aC aA).f1.f0)) ∧ w'.cell? ⟨(aB.add ((aA).toNat * 6)).block, (aB.add ((aA).toNat * 6)).off + 2, none⟩ = some (.int .i64 ((rd_T50 aC aA).f1.f1)) ∧ w'.cell? ⟨(aB.add ((aA).toNat * 6)).block, (aB.add ((aA).toNat * 6)).off + 3, none⟩ = some (.int .i64 ((rd_T50 aC aA).f1.f2)) ∧ w'.cell? ⟨(aB.add ((aA).toNat * 6)).block, (aB.add ((aA).toNat * 6)).off + 4, none⟩ = some (.int .i64 ((rd_T50 aC aA).f1.f3)) ∧ w'.cell? ⟨(aB.add ((aA).toNat * 6)).block, (aB.add ((aA).toNat * 6)).off + 5, none⟩ = some (.string ((rd_T50 aC aA).f1.f4)) ∧ w'.cell? (aB.add ((aA).toNat * 6)) = some (.int .i64 ((rd_T50 aC aA).f0)) ∧ w'.cell? ⟨(aB.add ((aA).toNat * 6)).block, (aB.add ((aA).toNat * 6)).off + 1, none⟩ = some (.int .i64 ((rd_T50 aC aA).f1.f0)) ∧ w'.cell? ⟨(aB.add ((aA).toNat * 6)).block, (aB.add ((aA).toNat * 6)).off + 2, none⟩ = some (.int .i64 ((rd_T50 aC aA).f1.f1)) ∧ w'.cell? ⟨(aB.add ((aA).toNat * 6)).block, (aB.add ((aA).toNat * 6)).off + 3, none⟩ = some (.int .i64 ((rd_T50 aC aA).f1.f2)) ∧ w'.cell? ⟨(aB.add ((aA).toNat * 6)).block, (aB.add ((aA).toNat * 6)).off + 4, none⟩ = some (.int .i64 ((rd_T50 aC aA).f1.f3)) ∧ w'.cell? ⟨(aB.add ((aA).toNat * 6)).block, (aB.add ((aA).toNat * 6)).off + 5, none⟩ = some (.string ((rd_T50 aC aA).f1.f4)) ∧ w'.cell? (aB.add ((aA).toNat * 6)) = some (.int .i64 ((rd_T50 aC aA).f0)) ∧ w'.cell? ⟨(aB.add ((aA).toNat * 6)).block, (aB.add ((aA).toNat * 6)).off + 1, none⟩ = some (.int .i64 ((rd_T50 aC aA).f1.f0)) ∧ w'.cell? ⟨(aB.add ((aA).toNat * 6)).block, (aB.add ((aA).toNat * 6)).off + 2, none⟩ = some (.int .i64 ((rd_T50 aC aA).f1.f1)) ∧ w'.cell? ⟨(aB.add ((aA).toNat * 6)).block, (aB.add ((aA).toNat * 6)).off + 3, none⟩ = some (.int .i64 ((rd_T50 aC aA).f1.f2)) ∧ w'.cell? ⟨(aB.add ((aA).toNat * 6)).block, (aB.add ((aA).toNat * 6)).off + 4, none⟩ = some (.int .i64 ((rd_T50 aC aA).f1.f3)) ∧ w'.cell? ⟨(aB.add ((aA).toNat * 6)).block, (aB.add ((aA).toNat * 6)).off + 5, none⟩ = some (.string ((rd_T50 aC aA).f1.f4)) ∧ w'.cell? (aB.add (((ji22)).toNat * 6)) = some (.int .i64 ((rd_T50 aC (ji22)).f0)) ∧ w'.cell? ⟨(aB.add (((ji22)).toNat * 6)).block, (aB.add (((ji22)).toNat * 6)).off + 1, none⟩ = some (.int .i64 ((rd_T50 aC (ji22)).f1.f0)) ∧ w'.cell? ⟨(aB.add (((ji22)).toNat * 6)).block, (aB.add (((ji22)).toNat * 6)).off + 2, none⟩ = some (.int .i64 ((rd_T50 aC (ji22)).f1.f1)) ∧ w'.cell? ⟨(aB.add (((ji22)).toNat * 6)).block, (aB.add (((ji22)).toNat * 6)).off + 3, none⟩ = some (.int .i64 ((rd_T50 aC (ji22)).f1.f2)) ∧ w'.cell? ⟨(aB.add (((ji22)).toNat * 6)).block, (aB.add (((ji22)).toNat * 6)).off + 4, none⟩ = some (.int .i64 ((rd_T50 aC (ji22)).f1.f3)) ∧ w'.cell? ⟨(aB.add (((ji22)).toNat * 6)).block, (aB.add (((ji22)).toNat * 6)).off + 5, none⟩ = some (.string ((rd_T50 aC (ji22)).f1.f4))) spec_HardOk.T6 spec_HardOk.B6 ⟨xc aD 0 rfl, xc aD 1 rfl, xc aD 2 rfl, (xce HB bC), (xce HB bB), (xce HB bA), (xce HB aZ), (xce HB aY), (xce HB aX), (xce HB bR), (xce HB bQ), (xce HB bP), (xce HB bO), (xce HB bN), (xce HB bM), (xce HB dN), (xce HB dM), (xce HB dL), (xce HB dK), (xce HB dJ), (xce HB dI), (xce HB dT), (xce HB dS), (xce HB dR), (xce HB dQ), (xce HB dP), (xce HB dO)⟩ (fun hHeld HT_ HW_ => ?_)
         generalize wr.drew = rG at aD HB aF aG aH aI aJ aK aR aS aT aU aV aW cC cD cE cF cG cH cI cJ cK cL cM cN hHeld ⊢; refine pV 0 27 ?_; refine pV 2 29 ?_; refine tK 1 28 ?_; refine pV 3 30 ?_; refine tK 4 31 ?_; refine oN 5 32 fun K hK => ?_
         refine d0_ Tryz.func89 (spec_l6Entry.calls jL.out) ?_; intro rH hb; replace aD := xbb aD hb; replace HB := xbs hb; (try clear hb); refine hK.out _ _ ⟨xc aD 0 rfl, xc aD 1 rfl, xc aD 2 rfl, (xce HB bC), (xce HB bB), (xce HB bA), (xce HB aZ), (xce HB aY), (xce HB aX), (xce HB bR), (xce HB bQ), (xce HB bP), (xce HB bO), (xce HB bN), (xce HB bM), (xce HB dN), (xce HB dM), (xce HB dL), (xce HB dK), (xce HB dJ), (xce HB dI), (xce HB dT), (xce HB dS), (xce HB dR), (xce HB dQ), (xce HB dP), (xce HB dO)⟩ (fun hHeld => ?_); clear hK K; refine nm_ (N := 32) ?_; refine pV 6 33 ?_; refine pV 7 34 ?_; refine pV 8 35 ?_; refine pV 10 37 ?_; refine pV 14 41 ?_; refine tK 9 36 ?_; refine pV 11 38 ?_; refine pV 12 39 ?_; refine tK 13 40 ?_; refine tK 15 42 ?_; refine pV 16 43 ?_; refine pV 17 44 ?_; refine pV 18 45 ?_; refine pV 19 46 ?_; refine pV 20 47 ?_; refine pV 21 48 ?_; refine pV 22 49 ?_; refine pV 24 51 ?_; refine pV 28 55 ?_; refine pV 30 57 ?_; refine pV 31 58 ?_; refine tK 23 50 ?_; refine pV 25 52 ?_; refine pV 26 53 ?_; refine tK 27 54 ?_; refine tK 29 56 ?_; refine pV 32 59 ?_; refine pV 33 60 ?_; refine tK 34 61 ?_; refine pV 35 62 ?_; refine pV 36 63 ?_; refine pV 37 64 ?_; refine dn_ ?_; try go_wp2
         go_meet
         case rel => exact ⟨_, _, (by first | rfl | (simp; done) | (simp only [← hji22] <;> (first | rfl | simp)) | (simp [*]; done)), H, ⟨u13_2⟩, ⟨xblk⟩, ⟨xbg⟩⟩
        replace H := aM H; try go_wp2
        replace aD := bD aD; replace HB := lD HB; have p578 : 0 ≤ (aA : Int) := oda; have q578 : aA < (aC.length : Int) := oda; obtain ⟨aB, dD, aF, aG, aH, aI, aJ, aK⟩ := at_T50 bU.out aA p578 q578; have aX := aK; have aY := aJ; have aZ := aI; have bA := aH; have bB := aG; have bC := aF; cases dD
        replace aF := xce HB aF; replace aG := xce HB aG; replace aH := xce HB aH; replace aI := xce HB aI; replace aJ := xce HB aJ; replace aK := xce HB aK; replace p578 := eq_true p578; replace q578 := eq_true q578; have p580 : 0 ≤ (aA : Int) := oda; have q580 : aA < (aC.length : Int) := oda; obtain ⟨dC, eL, aR, aS, aT, aU, aV, aW⟩ := at_T50 bU.out aA p580 q580; have bM := aW; have bN := aV; have bO := aU; have bP := aT; have bQ := aS; have bR := aR; obtain rfl : aB = dC := (by injection eL); replace aR := xce HB aR; replace aS := xce HB aS; replace aT := xce HB aT; replace aU := xce HB aU; replace aV := xce HB aV; replace aW := xce HB aW; replace p580 := eq_true p580; replace q580 := eq_true q580; refine st_ 38 (fun w' => w'.cell? ⟨bJ, 0, none⟩ = some (.int .i64 aE) ∧ w'.cell? ⟨bJ, 1, none⟩ = some (.int .i64 aL) ∧ w'.cell? ⟨bJ, 2, none⟩ = some (.slice (some aB) aC.length cU) ∧ w'.cell? (aB.add ((aA).toNat * 6)) = some (.int .i64 ((rd_T50 aC aA).f0)) ∧ w'.cell? ⟨(aB.add ((aA).toNat * 6)).block, (aB.add ((aA).toNat * 6)).off + 1, none⟩ = some (.int .i64 ((rd_T50 aC aA).f1.f0)) ∧ w'.cell? ⟨(aB.add ((aA).toNat * 6)).block, (aB.add ((aA).toNat * 6)).off + 2, none⟩ = some (.int .i64 ((rd_T50 aC aA).f1.f1)) ∧ w'.cell? ⟨(aB.add ((aA).toNat * 6)).block, (aB.add ((aA).toNat * 6)).off + 3, none⟩ = some (.int .i64 ((rd_T50 aC aA).f1.f2)) ∧ w'.cell? ⟨(aB.add ((aA).toNat * 6)).block, (aB.add ((aA).toNat * 6)).off + 4, none⟩ = some (.int .i64 ((rd_T50 aC aA).f1.f3)) ∧ w'.cell? ⟨(aB.add ((aA).toNat * 6)).block, (aB.add ((aA).toNat * 6)).off + 5, none⟩ = some (.string ((rd_T50 aC aA).f1.f4)) ∧ w'.cell? (aB.add ((aA).toNat * 6)) = some (.int .i64 ((rd_T50 aC aA).f0)) ∧ w'.cell? ⟨(aB.add ((aA).toNat * 6)).block, (aB.add ((aA).toNat * 6)).off + 1, none⟩ = some (.int .i64 ((rd_T50 aC aA).f1.f0)) ∧ w'.cell? ⟨(aB.add ((aA).toNat * 6)).block, (aB.add ((aA).toNat * 6)).off + 2, none⟩ = some (.int .i64 ((rd_T50 aC aA).f1.f1)) ∧ w'.cell? ⟨(aB.add ((aA).toNat * 6)).block, (aB.add ((aA).toNat * 6)).off + 3, none⟩ = some (.int .i64 ((rd_T50 aC aA).f1.f2)) ∧ w'.cell? ⟨(aB.add ((aA).toNat * 6)).block, (aB.add ((aA).toNat * 6)).off + 4, none⟩ = some (.int .i64 ((rd_T50 aC aA).f1.f3)) ∧ w'.cell? ⟨(aB.add ((aA).toNat * 6)).block, (aB.add ((aA).toNat * 6)).off + 5, none⟩ = some (.string ((rd_T50 aC aA).f1.f4))) spec_HardOk.T6 spec_HardOk.B6 ⟨xc aD 0 rfl, xc aD 1 rfl, xc aD 2 rfl, (xce HB bC), (xce HB bB), (xce HB bA), (xce HB aZ), (xce HB aY), (xce HB aX), (xce HB bR), (xce HB bQ), (xce HB bP), (xce HB bO), (xce HB bN), (xce HB bM)⟩ (fun hHeld HT_ HW_ => ?_); generalize wr.drew = rI at aD HB aF aG aH aI aJ aK aR aS aT aU aV aW hHeld ⊢; refine pV 0 27 ?_; refine pV 2 29 ?_; refine tK 1 28 ?_; refine pV 3 30 ?_; refine tK 4 31 ?_; refine oN 5 32 fun K hK => ?_
        refine d0_ Tryz.func89 (spec_l6Entry.calls jL.out) ?_; intro rJ hb; replace aD := xbb aD hb; replace HB := xbs hb; (try clear hb); refine hK.out _ _ ⟨xc aD 0 rfl, xc aD 1 rfl, xc aD 2 rfl, (xce HB bC), (xce HB bB), (xce HB bA), (xce HB aZ), (xce HB aY), (xce HB aX), (xce HB bR), (xce HB bQ), (xce HB bP), (xce HB bO), (xce HB bN), (xce HB bM)⟩ (fun hHeld => ?_); clear hK K; refine nm_ (N := 32) ?_; refine pV 6 33 ?_; refine pV 7 34 ?_; refine pV 8 35 ?_; refine pV 10 37 ?_; refine pV 14 41 ?_; refine tK 9 36 ?_; refine pV 11 38 ?_; refine pV 12 39 ?_; refine tK 13 40 ?_; refine tK 15 42 ?_; refine pV 16 43 ?_; refine pV 17 44 ?_; refine pV 18 45 ?_; refine pV 19 46 ?_; refine pV 20 47 ?_; refine pV 21 48 ?_; refine pU 22 49 ?_; refine pU 23 50 ?_; refine pU 24 51 ?_; refine pU 25 52 ?_; refine pU 26 53 ?_; refine pU 27 54 ?_; refine pU 28 55 ?_; refine pU 29 56 ?_; refine pU 30 57 ?_; refine pU 31 58 ?_; refine pU 32 59 ?_; refine pU 33 60 ?_; refine pU 34 61 ?_; refine pU 35 62 ?_; refine pV 36 63 ?_; refine pV 37 64 ?_; refine dn_ ?_; try go_wp2
        go_meet
        case rel => exact ⟨_, _, u13_0, H, ⟨u13_2⟩, ⟨xblk⟩, ⟨xbg⟩⟩
       replace H := iN H; replace H := aM H; try go_wp2
       replace aD := bD aD; replace HB := lD HB; have p578 : 0 ≤ (aA : Int) := oda; have q578 : aA < (aC.length : Int) := oda; obtain ⟨aB, dD, aF, aG, aH, aI, aJ, aK⟩ := at_T50 bU.out aA p578 q578; have aX := aK; have aY := aJ; have aZ := aI; have bA := aH; have bB := aG; have bC := aF; cases dD
       replace aF := xce HB aF; replace aG := xce HB aG; replace aH := xce HB aH; replace aI := xce HB aI; replace aJ := xce HB aJ; replace aK := xce HB aK; replace p578 := eq_true p578; replace q578 := eq_true q578; refine st_ 38 (fun w' => w'.cell? ⟨bJ, 0, none⟩ = some (.int .i64 aE) ∧ w'.cell? ⟨bJ, 1, none⟩ = some (.int .i64 aL) ∧ w'.cell? ⟨bJ, 2, none⟩ = some (.slice (some aB) aC.length cU) ∧ w'.cell? (aB.add ((aA).toNat * 6)) = some (.int .i64 ((rd_T50 aC aA).f0)) ∧ w'.cell? ⟨(aB.add ((aA).toNat * 6)).block, (aB.add ((aA).toNat * 6)).off + 1, none⟩ = some (.int .i64 ((rd_T50 aC aA).f1.f0)) ∧ w'.cell? ⟨(aB.add ((aA).toNat * 6)).block, (aB.add ((aA).toNat * 6)).off + 2, none⟩ = some (.int .i64 ((rd_T50 aC aA).f1.f1)) ∧ w'.cell? ⟨(aB.add ((aA).toNat * 6)).block, (aB.add ((aA).toNat * 6)).off + 3, none⟩ = some (.int .i64 ((rd_T50 aC aA).f1.f2)) ∧ w'.cell? ⟨(aB.add ((aA).toNat * 6)).block, (aB.add ((aA).toNat * 6)).off + 4, none⟩ = some (.int .i64 ((rd_T50 aC aA).f1.f3)) ∧ w'.cell? ⟨(aB.add ((aA).toNat * 6)).block, (aB.add ((aA).toNat * 6)).off + 5, none⟩ = some (.string ((rd_T50 aC aA).f1.f4))) spec_HardOk.T6 spec_HardOk.B6 ⟨xc aD 0 rfl, xc aD 1 rfl, xc aD 2 rfl, (xce HB bC), (xce HB bB), (xce HB bA), (xce HB aZ), (xce HB aY), (xce HB aX)⟩ (fun hHeld HT_ HW_ => ?_); generalize wr.drew = rK at aD HB aF aG aH aI aJ aK hHeld ⊢; refine pV 0 27 ?_; refine pV 2 29 ?_; refine tK 1 28 ?_; refine pV 3 30 ?_; refine tK 4 31 ?_; refine oN 5 32 fun K hK => ?_
       refine d0_ Tryz.func89 (spec_l6Entry.calls jL.out) ?_; intro rL hb; replace aD := xbb aD hb; replace HB := xbs hb; (try clear hb); refine hK.out _ _ ⟨xc aD 0 rfl, xc aD 1 rfl, xc aD 2 rfl, (xce HB bC), (xce HB bB), (xce HB bA), (xce HB aZ), (xce HB aY), (xce HB aX)⟩ (fun hHeld => ?_); clear hK K; refine nm_ (N := 32) ?_; refine pV 6 33 ?_; refine pV 7 34 ?_; refine pU 8 35 ?_; refine pU 9 36 ?_; refine pU 10 37 ?_; refine pU 11 38 ?_; refine pU 12 39 ?_; refine pU 13 40 ?_; refine pU 14 41 ?_; refine pU 15 42 ?_; refine pU 16 43 ?_; refine pV 17 44 ?_; refine pV 18 45 ?_; refine pU 19 46 ?_; refine pU 20 47 ?_; refine pU 21 48 ?_; refine pU 22 49 ?_; refine pU 23 50 ?_; refine pU 24 51 ?_; refine pU 25 52 ?_; refine pU 26 53 ?_; refine pU 27 54 ?_; refine pU 28 55 ?_; refine pU 29 56 ?_; refine pU 30 57 ?_; refine pU 31 58 ?_; refine pU 32 59 ?_; refine pU 33 60 ?_; refine pU 34 61 ?_; refine pU 35 62 ?_; refine pU 36 63 ?_; refine pV 37 64 ?_; refine dn_ ?_; try go_wp2
       go_meet
       case rel => exact ⟨_, _, u13_0, H, ⟨u13_2⟩, ⟨xblk⟩, ⟨xbg⟩⟩
      case rest =>
       clear iB
       obtain ⟨kq, cZ, rfl, HA, HJ12, aD, HB⟩ := hcut; cases kq with
       | zero => exact absurd HA.out (by simp [spec_HardOk.j2])
       | succ pM =>
        have H := HA.out; clear HA; simp only [spec_HardOk.j2] at H; cases cZ; rotate_left
        ·replace H := iT H; obtain rfl := Option.some.inj H; go_wp2; go_ret
         exact ⟨xerr, xbg⟩
        replace H := iN H; replace H := aM H; go_wp2; go_roundg pM
        case measure => have := HJ1.out; have := HK2.out; have := HJ12.out; omega
        case rel => exact ⟨_, u13_0, H, ⟨by have := HJ1.out; have := HK2.out; have := HJ12.out; omega⟩, ⟨xblk⟩, ⟨xbg⟩⟩
     obtain rfl := Option.some.inj H; have gR := xf3 (w := wr) aD; go_wp2; go_ret
     exact ⟨xerr, xbg⟩
end Go.Proofs.YtppfnnpfamkclaaGreat.QFnSaved
