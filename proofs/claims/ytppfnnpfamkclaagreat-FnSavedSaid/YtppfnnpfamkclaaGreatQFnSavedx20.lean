-- A walk, by a program of this session.
import Derived.Test.YtppfnnpfamkclaaGreatQFnSavedx0
import Derived.Test.YtppfnnpfamkclaaGreatQFnSavedx1
import Derived.Test.YtppfnnpfamkclaaGreatQFnSavedx2
import Derived.Test.YtppfnnpfamkclaaGreatQFnSavedx19
namespace Go.Proofs.YtppfnnpfamkclaaGreat.QFnSaved
open Go.RowKit Go.Proofs.YtppfnnpfamkclaaGreatW.PrintWords Go.Proofs.YtppfnnpfamkclaaGreatW.PrintLast Go.Proofs.YtppfnnpfamkclaaGreatW.PrintMore
attribute [local go_sem] max2_int min2_int max_two min_two max_three min_three max_four min_four   -- for this text's walks alone
set_option maxHeartbeats 8000000
set_option maxRecDepth 100000
set_option linter.unusedVariables false
set_option linter.unusedSimpArgs false
attribute [local go_sem high] eqA48 eqA50
theorem u20_0 {p : Prop} (h : p := by first | rfl | (simp; done) | (simp [*]; done)) : p := h
theorem u20_1 {p : Prop} (h : p := by first | omega | exact Nat.le_refl _) : p := h
theorem u20_2 {p : Prop} (h : p := by first | (rw [hY]; with_reducible exact H) | (have H2_ := oS H; rw [hY]; with_reducible exact H2_) | (have H2_ := oS H; with_reducible exact H2_) | with_reducible exact H | (rw [hY]; exact H) | exact H) : p := h
mutual
def impl_CmdOk.j2 : Nat → Bool → Int → Int → Int → Int → ByteArray → Option (Bool)
 | 0, _, _, _, _, _, _ => none
 | k + 1, x4, bD, bE, bG, bO, bP => if x4 = true then (some (bD == 0 && (bE == 0 && (bG == 0 && (bO == 0 && (bP.toList == ([] : List UInt8))))))) else (some false)
def impl_CmdOk.j0 : Nat → Bool → Int → Int → Int → Int → ByteArray → Option (Bool)
 | 0, _, _, _, _, _, _ => none
 | k + 1, x4, bD, bE, bG, bO, bP => impl_CmdOk.j2 k x4 bD bE bG 0 (⟨#[]⟩ : ByteArray)
def impl_CmdOk.j1 : Nat → Bool → Bool → Int → Int → Int → Int → ByteArray → Option (Bool)
 | 0, _, _, _, _, _, _, _ => none
 | k + 1, x4, vV, bD, bE, bG, bO, bP => if vV = true then (impl_CmdOk.j2 k x4 bD bE bG bO bP) else (some false)
end
def impl_CmdOk.f (k : Nat) (aE : Int) (aG : Int) (aD : Int) (aA : Int) (aC : ByteArray) : Option (Bool) := (impl_isRelease.f aG).bind fun bC => (if aE = 1 then (impl_CmdOk.j2 k (aG == 0) 0 0 aD aA aC) else (if aE = 2 then (if bC = true then ((impl_isSize.f aA).bind fun gM => (if gM = true then (impl_CmdOk.j0 k ((aC.size : Int) == 32) 0 0 aD aA aC) else (impl_CmdOk.j0 k false 0 0 aD aA aC))) else (impl_CmdOk.j0 k false 0 0 aD aA aC)) else (if aE = 3 then (if bC = true then ((impl_isNode.f aD).bind fun gK => (impl_CmdOk.j2 k gK 0 0 0 aA aC)) else (impl_CmdOk.j2 k false 0 0 0 aA aC)) else (if aE = 4 then (impl_CmdOk.j1 k bC (aE == 4) 0 0 aD aA aC) else (impl_CmdOk.j1 k bC (aE == 5) 0 0 aD aA aC)))))
theorem impl_CmdOk.calls {k : Nat} {aE aG aD aA : Int} {aC : ByteArray} {r : Bool} {w : World} (h : impl_CmdOk.f k aE aG aD aA aC = some r) :
 Calls Tryz.prog 82 #[.agg #[.int .i64 aE, .int .i64 aG, .int .i64 aD, .int .i64 aA, .string aC]] w fun e w' => e = .returned (.bool r) ∧ Below w.heap.size w w' := by
 have tH := Tryz.underlying48; have HB := aM (Below.refl w.heap.size w); have H := h; unfold impl_CmdOk.f at H
 clear h
 replace H := oB H; obtain ⟨bC, hZ, H⟩ := H; (try dsimp only at H); have A2 := aM hZ
 clear hZ
 have tI := aM H
 clear H
 go_enter Tryz.func82, Tryz.ntmps82
 go_upto_block 0 with (first | ((with_reducible refine gD 1 rfl ?_); (try (refine gate_guard (by rfl) ?_; dsimp only)); refine bE_ (N := 1) rfl ?_; intro gN hg w4 aV hb; have uR := aM (xge hg); have uS := aM (xge hg); replace HB := xbs hb; clear hb hg; have eP := xf5 (w := w4) aV) | ((with_reducible refine gD 3 rfl ?_); (try (refine gate_guard (by rfl) ?_; dsimp only)); refine bE_ (N := 3) rfl ?_; intro bH hg w6 bB hb; have uT := aM (xge hg); have uU := aM (xge hg); replace HB := xbs hb; have aJ := nblt aV hg; have aK := nbgt aV hg; replace aV := xbb aV hb; clear hb hg; have vW := a2_ aK aJ; have eZ := xf5 (w := w6) bB) | (refine sE_ 48 3 ?_; intro w9 hw; replace aV := xwc hw aV; replace bB : Aside0 (w9.heap[bH]? = some (.cells #[.int .i64 aE, .int .i64 aG, .int .i64 aD, .int .i64 aA, .string aC] 48 (0, 0))) := xwp hw; replace HB := xbw hw HB; clear hw; have cM := xf5 (w := w9) bB; have bQ := xf5 (w := w9) aV) | (refine gN_ 101 10 rfl rfl ?_; refine c0_ Tryz.func101 (impl_isRelease.calls A2.out) ?_; rintro w' ⟨nd, rfl⟩))
 (try simp only [Act.put, List.setIfInBounds_toArray, List.set_cons_zero, List.set_cons_succ])
 go_cut [4] (fun v4 wc => ∃ (kq : Nat) (gX : Bool) (bK : Int) (bL : Int) (bM : ByteArray), v4 = .bool gX ∧ Aside0 (impl_CmdOk.j2 kq gX 0 0 bK bL bM = some r) ∧ Aside0 (kq ≤ k) ∧ Aside0 (wc.heap[gN]? = some (.cells #[.int .i64 aE, .int .i64 aG, .int .i64 aD, .int .i64 aA, .string aC] 48 (0, 0))) ∧ Aside0 (wc.heap[bH]? = some (.cells #[.int .i64 0, .int .i64 0, .int .i64 bK, .int .i64 bL, .string bM] 48 (0, 0))) ∧ Aside0 (Below w.heap.size w wc))
 case first =>
  have H := tI.out; clear tI; replace H := eI_ H; obtain ⟨bN, fJ, H⟩ | ⟨hB, bN, fJ, H⟩ := H
  ·(first | rw [bN] | (simp only [i64_w, i32_w]; rw [bN]) | skip); replace H := aM H; have uV := a2_ aJ aK; have cW := xf5 (w := w9) aV; go_wp2; go_meet
   case rel => exact ⟨_, _, _, _, _, u20_0, H, ⟨u20_1⟩, ⟨xB⟩, ⟨xP⟩, ⟨xbg⟩⟩
  (first | rw [bN] | (simp only [i64_w, i32_w]; rw [bN]) | skip); replace H := eI_ H; obtain ⟨fK, fL, H⟩ | ⟨hC, fK, fL, H⟩ := H
  ·have hF := aM H; clear H; go_upto_region 9 with (fail)
   go_cut [4] (fun v4 wc => ∃ (kq : Nat) (fM : Bool), v4 = .bool fM ∧ Aside0 (impl_CmdOk.j0 kq fM 0 0 aD aA aC = some r) ∧ Aside0 (kq ≤ k) ∧ Aside0 (wc.heap[gN]? = some (.cells #[.int .i64 aE, .int .i64 aG, .int .i64 aD, .int .i64 aA, .string aC] 48 (0, 0))) ∧ Aside0 (wc.heap[bH]? = some (.cells #[.int .i64 0, .int .i64 0, .int .i64 aD, .int .i64 aA, .string aC] 48 (0, 0))) ∧ Aside0 (Below w.heap.size w wc))
   case first =>
    have H := hF.out; clear hF; cases bC; rotate_left
    ·replace H := iT H; replace H := oA_ H; obtain ⟨gM, uX, H⟩ := H; (try dsimp only at H)
     cases gM; rotate_left
     ·replace H := iT H; replace H := aM H; have uY := a2_ aJ aK; have dG := xf5 (w := w9) aV; go_wp2_with (first | (go_at_call 102; (with_reducible refine (impl_isSize.calls uX.out).mono ?_); rintro e w' ⟨rfl, ⟨nd, rfl⟩⟩))
      go_meet
      case rel => exact ⟨_, _, u20_0, H, ⟨u20_1⟩, ⟨xB⟩, ⟨xP⟩, ⟨xbg⟩⟩
     replace H := iN H; replace H := aM H; have vA := a2_ aJ aK; have cB := xf5 (w := w9) aV; go_wp2_with (first | (go_at_call 102; (with_reducible refine (impl_isSize.calls uX.out).mono ?_); rintro e w' ⟨rfl, ⟨nd, rfl⟩⟩))
     go_meet
     case rel => exact ⟨_, _, u20_0, H, ⟨u20_1⟩, ⟨xB⟩, ⟨xP⟩, ⟨xbg⟩⟩
    replace H := iN H; replace H := aM H; go_wp2; go_meet
    case rel => exact ⟨_, _, u20_0, H, ⟨u20_1⟩, ⟨xB⟩, ⟨xP⟩, ⟨xbg⟩⟩
   case rest =>
    clear hF
    try clear hB
    try clear bN
    try clear fJ
    try clear hC
    try clear fK
    try clear fL
    try clear cM cN cO cP cQ
    try clear bQ bR bS bU bV
    try clear eP eQ eR eS eT
    try clear eZ fA fB fC fD
    obtain ⟨kq, fM, rfl, HA, HJ15, aV, bB, HB⟩ := hcut; cases kq with
    | zero => exact absurd HA.out (by simp [impl_CmdOk.j0])
    | succ vY =>
     have H := HA.out; clear HA; simp only [impl_CmdOk.j0] at H; replace H := aM H; have vF := a2_ aK aJ; have dQ := xf5 (w := wc) bB; go_wp2; go_meet
     case rel => exact ⟨_, _, _, _, _, u20_0, H, ⟨by have := HJ15.out; first | omega | exact Nat.le_refl _⟩, ⟨xB⟩, ⟨xP⟩, ⟨xbg⟩⟩
  replace H := eI_ H; obtain ⟨gO, gP, H⟩ | ⟨hJ, gO, gP, H⟩ := H
  ·cases bC; rotate_left
   ·replace H := iT H; replace H := oA_ H; obtain ⟨gK, vZ, H⟩ := H; (try dsimp only at H); replace H := aM H; have vH := a2_ aJ aK; have fN := xf5 (w := w9) aV; go_wp2_with (first | (go_at_call 103; (with_reducible refine (impl_isNode.calls vZ.out).mono ?_); rintro e w' ⟨rfl, ⟨nd, rfl⟩⟩; have eA := xf5 (w := w9) bB))
    go_meet
    case rel => exact ⟨_, _, _, _, _, u20_0, H, ⟨u20_1⟩, ⟨xB⟩, ⟨xP⟩, ⟨xbg⟩⟩
   replace H := iN H; replace H := aM H; have vJ := a2_ aK aJ; have fX := xf5 (w := w9) bB; go_wp2; go_meet
   case rel => exact ⟨_, _, _, _, _, u20_0, H, ⟨u20_1⟩, ⟨xB⟩, ⟨xP⟩, ⟨xbg⟩⟩
  have hK := aM H; clear H; go_upto_if 43 with (fail)
  go_cut [43] (fun v43 wc => ∃ (kq : Nat) (eK : Bool), v43 = .bool eK ∧ Aside0 (impl_CmdOk.j1 kq bC eK 0 0 aD aA aC = some r) ∧ Aside0 (kq ≤ k) ∧ Aside0 (wc.heap[gN]? = some (.cells #[.int .i64 aE, .int .i64 aG, .int .i64 aD, .int .i64 aA, .string aC] 48 (0, 0))) ∧ Aside0 (wc.heap[bH]? = some (.cells #[.int .i64 0, .int .i64 0, .int .i64 aD, .int .i64 aA, .string aC] 48 (0, 0))) ∧ Aside0 (Below w.heap.size w wc))
  case first =>
   have H := hK.out; clear hK; replace H := eI_ H; obtain ⟨bI, eL, H⟩ | ⟨gL, bI, eL, H⟩ := H
   ·(first | rw [bI] | (simp only [i64_w, i32_w]; rw [bI]) | skip); replace H := aM H; go_wp2; go_meet
    case rel => exact ⟨_, _, u20_0, H, ⟨u20_1⟩, ⟨xB⟩, ⟨xP⟩, ⟨xbg⟩⟩
   (first | rw [bI] | (simp only [i64_w, i32_w]; rw [bI]) | skip); replace H := aM H; go_wp2; go_meet
   case rel => exact ⟨_, _, u20_0, H, ⟨u20_1⟩, ⟨xB⟩, ⟨xP⟩, ⟨xbg⟩⟩
  case rest =>
   clear hK
   try clear hB
   try clear bN
   try clear fJ
   try clear hC
   try clear fK
   try clear fL
   try clear hJ
   try clear gO
   try clear gP
   try clear cM cN cO cP cQ
   try clear bQ bR bS bU bV
   try clear eP eQ eR eS eT
   try clear eZ fA fB fC fD
   obtain ⟨kq, eK, rfl, HA, HJ33, aV, bB, HB⟩ := hcut; cases kq with
   | zero => exact absurd HA.out (by simp [impl_CmdOk.j1])
   | succ wD =>
    have H := HA.out; clear HA; simp only [impl_CmdOk.j1] at H; cases eK; rotate_left
    ·replace H := iT H; replace H := aM H; go_wp2; go_meet
     case rel => exact ⟨_, _, _, _, _, u20_0, H, ⟨by have := HJ33.out; first | omega | exact Nat.le_refl _⟩, ⟨xblk⟩, ⟨xblk⟩, ⟨xbg⟩⟩
    replace H := iN H; obtain rfl := Option.some.inj H; go_wp2; go_ret
    exact ⟨xerr, xbg⟩
 case rest =>
  clear tI
  try clear cM cN cO cP cQ
  try clear bQ bR bS bU bV
  try clear eP eQ eR eS eT
  try clear eZ fA fB fC fD
  obtain ⟨kq, gX, bK, bL, bM, rfl, HA, HJ2, aV, bB, HB⟩ := hcut; cases kq with
  | zero => exact absurd HA.out (by simp [impl_CmdOk.j2])
  | succ wU =>
   have H := HA.out; clear HA; simp only [impl_CmdOk.j2] at H; cases gX; rotate_left
   ·replace H := iT H; obtain rfl := Option.some.inj H; have vL := a2_ aK aJ; have jM := xf5 (w := wc) bB; go_wp2; go_ret
    exact ⟨xerr, xbg⟩
   replace H := iN H; obtain rfl := Option.some.inj H; go_wp2; go_ret
   exact ⟨xerr, xbg⟩
def impl_entryOk.f (k : Nat) (aE : Int) (aG : Int) (aD : Int) (aA : Int) (aC : Int) (aI : ByteArray) : Option (Bool) := (impl_within.f aE 1 1000000000).bind fun gQ => (if gQ = true then ((impl_CmdOk.f k aG aD aA aC aI).bind fun gR => (some gR)) else (some false))
theorem impl_entryOk.calls {k : Nat} {aE aG aD aA aC : Int} {aI : ByteArray} {r : Bool} {w : World} (h : impl_entryOk.f k aE aG aD aA aC aI = some r) :
 Calls Tryz.prog 84 #[.agg #[.int .i64 aE, .int .i64 aG, .int .i64 aD, .int .i64 aA, .int .i64 aC, .string aI]] w fun e w' => e = .returned (.bool r) ∧ Below w.heap.size w w' := by
 have tJ := Tryz.underlying50; have tH := Tryz.underlying48; have HB := aM (Below.refl w.heap.size w); have H := h; unfold impl_entryOk.f at H
 clear h
 replace H := oB H; obtain ⟨gQ, hZ, H⟩ := H; (try dsimp only at H); have A2 := aM hZ
 clear hZ
 cases gQ; rotate_left
 ·replace H := iT H; replace H := oA_ H; obtain ⟨gR, A4, H⟩ := H; (try dsimp only at H); obtain rfl := Option.some.inj H; go_enter Tryz.func84, Tryz.ntmps84
  go_wp2_with (first | (refine bE_ (N := 1) rfl ?_; intro iD hg w5 eM hb; have iE := aM (xge hg); have iF := aM (xge hg); replace HB := xbs hb; clear hb hg; have tK := xf6 (w := w5) eM) | (refine gN_ 53 5 rfl rfl ?_; refine c0_ Tryz.func53 (impl_within.calls A2.out) ?_; rintro w' ⟨nd, rfl⟩) | (go_at_call 82; (with_reducible refine (impl_CmdOk.calls A4.out).mono ?_); rintro e w7 ⟨rfl, hb⟩; replace eM := xbb eM hb; replace HB := xbs hb; (try clear hb)))
  go_ret
  exact ⟨xerr, xbg⟩
 replace H := iN H; obtain rfl := Option.some.inj H; go_enter Tryz.func84, Tryz.ntmps84
 go_wp2_with (first | (refine bE_ (N := 1) rfl ?_; intro iD hg w8 eM hb; have iE := aM (xge hg); have iF := aM (xge hg); replace HB := xbs hb; clear hb hg; have hL := xf6 (w := w8) eM) | (refine gN_ 53 5 rfl rfl ?_; refine c0_ Tryz.func53 (impl_within.calls A2.out) ?_; rintro w' ⟨nd, rfl⟩))
 go_ret
 exact ⟨xerr, xbg⟩
def impl_RecOk.f (k : Nat) (aE : Int) (aG : Int) (aD : Int) (aA : Int) (aC : Int) (aI : Int) (aN : Int) (aQ : Int) (aT : Int) (aU : ByteArray) : Option (Bool) := if aE = 1 then ((impl_isWhole.f aG).bind fun gS => (if gS = true then ((impl_within.f aD 0 5).bind fun gT => (if gT = true then (if aA = 0 then (some (aC == 0 && ((aI == 0 && (aN == 0 && (aQ == 0 && (aT == 0 && (aU.toList == ([] : List UInt8))))))))) else (some false)) else (some false))) else (some false))) else (if aE = 2 then ((impl_within.f aA 1 80).bind fun gU => (if gU = true then ((impl_entryOk.f k aC aI aN aQ aT aU).bind fun gV => (if gV = true then (if aG = 0 then (some (aD == 0)) else (some false)) else (some false))) else (some false))) else (if aE = 3 then ((impl_within.f aA 0 80).bind fun gW => (if gW = true then (if aG = 0 then (if aD = 0 then (some (aC == 0 && ((aI == 0 && (aN == 0 && (aQ == 0 && (aT == 0 && (aU.toList == ([] : List UInt8))))))))) else (some false)) else (some false)) else (some false))) else (some false)))
theorem impl_RecOk.calls {k : Nat} {aE aG aD aA aC aI aN aQ aT : Int} {aU : ByteArray} {r : Bool} {w : World} (h : impl_RecOk.f k aE aG aD aA aC aI aN aQ aT aU = some r) :
 Calls Tryz.prog 50 #[.agg #[.int .i64 aE, .int .i64 aG, .int .i64 aD, .int .i64 aA, .int .i64 aC, .int .i64 aI, .int .i64 aN, .int .i64 aQ, .int .i64 aT, .string aU]] w fun e w' => e = .returned (.bool r) ∧ Below w.heap.size w w' := by
 have wE := Tryz.underlying52; have tJ := Tryz.underlying50; have HB := aM (Below.refl w.heap.size w); have H := h; unfold impl_RecOk.f at H
 clear h
 replace H := eI_ H; obtain ⟨gZ, tW, H⟩ | ⟨c2, gZ, tW, H⟩ := H
 ·replace H := oA_ H; obtain ⟨gS, A3, H⟩ := H; (try dsimp only at H)
  cases gS; rotate_left
  ·replace H := iT H; replace H := oA_ H; obtain ⟨gT, A5, H⟩ := H; (try dsimp only at H)
   cases gT; rotate_left
   ·replace H := iT H; replace H := eI_ H; obtain ⟨tX, tY, H⟩ | ⟨c7, tX, tY, H⟩ := H
    ·obtain rfl := Option.some.inj H; go_enter Tryz.func50, Tryz.ntmps50
     go_wp2_with (first | (refine bE_ (N := 1) rfl ?_; intro aW hg w8 aH hb; have aX := aM (xge hg); have aY := aM (xge hg); replace HB := xbs hb; clear hb hg; have hL := xf10 (w := w8) aH) | (refine gN_ 83 9 rfl rfl ?_; refine c0_ Tryz.func83 (impl_isWhole.calls A3.out) ?_; rintro w' ⟨nd, rfl⟩) | (go_at_call 53; (with_reducible refine (impl_within.calls A5.out).mono ?_); rintro e w' ⟨rfl, ⟨nd, rfl⟩⟩))
     go_ret
     exact ⟨xerr, xbg⟩
    obtain rfl := Option.some.inj H; go_enter Tryz.func50, Tryz.ntmps50
    go_wp2_with (first | (refine bE_ (N := 1) rfl ?_; intro aW hg vQ aH hb; have aX := aM (xge hg); have aY := aM (xge hg); replace HB := xbs hb; clear hb hg; have bQ := xf10 (w := vQ) aH) | (refine gN_ 83 9 rfl rfl ?_; refine c0_ Tryz.func83 (impl_isWhole.calls A3.out) ?_; rintro w' ⟨nd, rfl⟩) | (go_at_call 53; (with_reducible refine (impl_within.calls A5.out).mono ?_); rintro e w' ⟨rfl, ⟨nd, rfl⟩⟩))
    go_ret
    exact ⟨xerr, xbg⟩
   replace H := iN H; obtain rfl := Option.some.inj H; go_enter Tryz.func50, Tryz.ntmps50
   go_wp2_with (first | (refine bE_ (N := 1) rfl ?_; intro aW hg wF aH hb; have aX := aM (xge hg); have aY := aM (xge hg); replace HB := xbs hb; clear hb hg; have kG := xf10 (w := wF) aH) | (refine gN_ 83 9 rfl rfl ?_; refine c0_ Tryz.func83 (impl_isWhole.calls A3.out) ?_; rintro w' ⟨nd, rfl⟩) | (go_at_call 53; (with_reducible refine (impl_within.calls A5.out).mono ?_); rintro e w' ⟨rfl, ⟨nd, rfl⟩⟩))
   go_ret
   exact ⟨xerr, xbg⟩
  replace H := iN H; obtain rfl := Option.some.inj H; go_enter Tryz.func50, Tryz.ntmps50
  go_wp2_with (first | (refine bE_ (N := 1) rfl ?_; intro aW hg wG aH hb; have aX := aM (xge hg); have aY := aM (xge hg); replace HB := xbs hb; clear hb hg; have lA := xf10 (w := wG) aH) | (refine gN_ 83 9 rfl rfl ?_; refine c0_ Tryz.func83 (impl_isWhole.calls A3.out) ?_; rintro w' ⟨nd, rfl⟩))
  go_ret
  exact ⟨xerr, xbg⟩
 replace H := eI_ H; obtain ⟨iH, iI, H⟩ | ⟨iG, iH, iI, H⟩ := H
 ·replace H := oA_ H; obtain ⟨gU, lU, H⟩ := H; (try dsimp only at H)
  cases gU; rotate_left
  ·replace H := iT H; replace H := oA_ H; obtain ⟨gV, uH, H⟩ := H; (try dsimp only at H)
   cases gV; rotate_left
   ·replace H := iT H; replace H := eI_ H; obtain ⟨iM, iO, H⟩ | ⟨iL, iM, iO, H⟩ := H
    ·obtain rfl := Option.some.inj H; go_enter Tryz.func50, Tryz.ntmps50
     go_wp2_with (first | (refine bE_ (N := 1) rfl ?_; intro aW hg wH aH hb; have aX := aM (xge hg); have aY := aM (xge hg); replace HB := xbs hb; clear hb hg; have cB := xf10 (w := wH) aH) | (refine gN_ 53 30 rfl rfl ?_; refine c0_ Tryz.func53 (impl_within.calls lU.out) ?_; rintro w' ⟨nd, rfl⟩) | (go_at_call 84; (with_reducible refine (impl_entryOk.calls uH.out).mono ?_); rintro e wI ⟨rfl, hb⟩; replace aH := xbb aH hb; replace HB := xbs hb; (try clear hb); have dQ := xf10 (w := wI) aH))
     go_ret
     exact ⟨xerr, xbg⟩
    obtain rfl := Option.some.inj H; go_enter Tryz.func50, Tryz.ntmps50
    go_wp2_with (first | (refine bE_ (N := 1) rfl ?_; intro aW hg wJ aH hb; have aX := aM (xge hg); have aY := aM (xge hg); replace HB := xbs hb; clear hb hg; have mQ := xf10 (w := wJ) aH) | (refine gN_ 53 30 rfl rfl ?_; refine c0_ Tryz.func53 (impl_within.calls lU.out) ?_; rintro w' ⟨nd, rfl⟩) | (go_at_call 84; (with_reducible refine (impl_entryOk.calls uH.out).mono ?_); rintro e wK ⟨rfl, hb⟩; replace aH := xbb aH hb; replace HB := xbs hb; (try clear hb); have nK := xf10 (w := wK) aH))
    go_ret
    exact ⟨xerr, xbg⟩
   replace H := iN H; obtain rfl := Option.some.inj H; go_enter Tryz.func50, Tryz.ntmps50
   go_wp2_with (first | (refine bE_ (N := 1) rfl ?_; intro aW hg wL aH hb; have aX := aM (xge hg); have aY := aM (xge hg); replace HB := xbs hb; clear hb hg; have eA := xf10 (w := wL) aH) | (refine gN_ 53 30 rfl rfl ?_; refine c0_ Tryz.func53 (impl_within.calls lU.out) ?_; rintro w' ⟨nd, rfl⟩) | (go_at_call 84; (with_reducible refine (impl_entryOk.calls uH.out).mono ?_); rintro e wV ⟨rfl, hb⟩; replace aH := xbb aH hb; replace HB := xbs hb; (try clear hb)))
   go_ret
   exact ⟨xerr, xbg⟩
  replace H := iN H; obtain rfl := Option.some.inj H; go_enter Tryz.func50, Tryz.ntmps50
  go_wp2_with (first | (refine bE_ (N := 1) rfl ?_; intro aW hg wM aH hb; have aX := aM (xge hg); have aY := aM (xge hg); replace HB := xbs hb; clear hb hg; have oP := xf10 (w := wM) aH) | (refine gN_ 53 30 rfl rfl ?_; refine c0_ Tryz.func53 (impl_within.calls lU.out) ?_; rintro w' ⟨nd, rfl⟩))
  go_ret
  exact ⟨xerr, xbg⟩
 replace H := eI_ H; obtain ⟨bI, eL, H⟩ | ⟨gL, bI, eL, H⟩ := H
 ·replace H := oA_ H; obtain ⟨gW, pK, H⟩ := H; (try dsimp only at H)
  cases gW; rotate_left
  ·replace H := iT H; replace H := eI_ H; obtain ⟨iR, iS, H⟩ | ⟨iQ, iR, iS, H⟩ := H
   ·replace H := eI_ H; obtain ⟨iV, iW, H⟩ | ⟨iU, iV, iW, H⟩ := H
    ·obtain rfl := Option.some.inj H; go_enter Tryz.func50, Tryz.ntmps50
     go_wp2_with (first | (refine bE_ (N := 1) rfl ?_; intro aW hg wN aH hb; have aX := aM (xge hg); have aY := aM (xge hg); replace HB := xbs hb; clear hb hg; have pL := xf10 (w := wN) aH) | (refine gN_ 53 50 rfl rfl ?_; refine c0_ Tryz.func53 (impl_within.calls pK.out) ?_; rintro w' ⟨nd, rfl⟩))
     go_ret
     exact ⟨xerr, xbg⟩
    obtain rfl := Option.some.inj H; go_enter Tryz.func50, Tryz.ntmps50
    go_wp2_with (first | (refine bE_ (N := 1) rfl ?_; intro aW hg wO aH hb; have aX := aM (xge hg); have aY := aM (xge hg); replace HB := xbs hb; clear hb hg; have qF := xf10 (w := wO) aH) | (refine gN_ 53 50 rfl rfl ?_; refine c0_ Tryz.func53 (impl_within.calls pK.out) ?_; rintro w' ⟨nd, rfl⟩))
    go_ret
    exact ⟨xerr, xbg⟩
   obtain rfl := Option.some.inj H; go_enter Tryz.func50, Tryz.ntmps50
   go_wp2_with (first | (refine bE_ (N := 1) rfl ?_; intro aW hg wP aH hb; have aX := aM (xge hg); have aY := aM (xge hg); replace HB := xbs hb; clear hb hg; have qZ := xf10 (w := wP) aH) | (refine gN_ 53 50 rfl rfl ?_; refine c0_ Tryz.func53 (impl_within.calls pK.out) ?_; rintro w' ⟨nd, rfl⟩))
   go_ret
   exact ⟨xerr, xbg⟩
  replace H := iN H; obtain rfl := Option.some.inj H; go_enter Tryz.func50, Tryz.ntmps50
  go_wp2_with (first | (refine bE_ (N := 1) rfl ?_; intro aW hg wQ aH hb; have aX := aM (xge hg); have aY := aM (xge hg); replace HB := xbs hb; clear hb hg; have rT := xf10 (w := wQ) aH) | (refine gN_ 53 50 rfl rfl ?_; refine c0_ Tryz.func53 (impl_within.calls pK.out) ?_; rintro w' ⟨nd, rfl⟩))
  go_ret
  exact ⟨xerr, xbg⟩
 obtain rfl := Option.some.inj H; go_enter Tryz.func50, Tryz.ntmps50
 go_wp2_with (first | (refine bE_ (N := 1) rfl ?_; intro aW hg wR aH hb; have aX := aM (xge hg); have aY := aM (xge hg); replace HB := xbs hb; clear hb hg; have sN := xf10 (w := wR) aH))
 go_ret
 exact ⟨xerr, xbg⟩
def impl_PutNum.l0 : Nat → Int → List Int → Option (List Int)
 | 0, _, _ => none
 | k + 1, x0, x3 => if x0 > 127 then (if x3.length < 140737488355328 then (impl_PutNum.l0 k (x0 / 128) (x3 ++ [(Go.bits .or .i64 (Go.bits .and .i64 x0 127) 128) % 256])) else (none)) else (if x3.length < 140737488355328 then (some (x3 ++ [(x0) % 256])) else (none))
def impl_PutNum.f (k : Nat) (a0 : Int) : Option (List Int) := if a0 < 0 then (some ([] : List Int)) else (impl_PutNum.l0 k a0 (([] : List Int)))
theorem impl_PutNum.calls {k : Nat} {a0 : Int} {r : List Int} {w : World} (h : impl_PutNum.f k a0 = some r) :
 Calls Tryz.prog 95 #[.int .i64 a0] w fun e w' => ∃ v0_ : Value, e = .returned (v0_) ∧ Kd.R (Kd.int .u8) 5 w' w.heap.size (fun _ => True) v0_ r ∧ Below w.heap.size w w' := by
 have HB := aM (Below.refl w.heap.size w); have H := h; unfold impl_PutNum.f at H
 clear h
 replace H := dI_ H; obtain ⟨gZ, H⟩ | ⟨gZ, H⟩ := H
 ·obtain rfl := Option.some.inj H; go_enter Tryz.func95, Tryz.ntmps95
  go_wp2; go_ret
  exact ⟨_, xerr, by first | exact Kd.R_nil _ _ _ _ _ | exact Kd.N_nil _ _ _ _ _ | exact Kd.V_nil _ _ _ _ _ | exact Kd.Q_nil _ _ _ _ _ | exact Kd.S_nil _ _ _ _ _, xbel⟩
 generalize hY : ([] : List Int) = iX at H; (try replace H := bS_ H); (try dsimp only at H); have hD := aM hY.symm; clear hY; replace H := aM H; go_enter Tryz.func95, Tryz.ntmps95
 go_wp2_with (first | (refine li_ .u8 5 (N := 6) rfl [] ?_; intro v980 w3 iY hb; (first | rw [← hD.out] at iY | (simp only [Int.reduceToNat] at iY; rw [← hD.out] at iY)); have iZ := aM (Kd.R_lower iY (below_size xbel)); replace HB := xbs hb; clear hb iY))
 go_loopg [0, 3] k (fun kq v0 v3 w' => ∃ (bJ : Int) (bA : List Int), v0 = .int .i64 bJ ∧ Aside0 (impl_PutNum.l0 kq bJ bA = some r) ∧ Aside0 (kq ≤ k) ∧ Aside0 (Kd.R (Kd.int .u8) 5 w' w.heap.size (fun _ => True) v3 bA) ∧ Aside0 (Below w.heap.size w w'))
 case atStart => exact ⟨_, _, u20_0, H, ⟨Nat.le_refl _⟩, ⟨by (with_reducible repeat (first | apply Kd.R_alloc | apply Kd.R_drewN | apply Kd.R_drew)); exact iZ.out⟩, ⟨xbel⟩⟩
 case round =>
  clear H; try clear c2
  try clear gZ
  obtain ⟨bJ, bA, rfl, HA, HK1, cL, HB⟩ := hrel; cases gk with
  | zero => exact absurd HA.out (by simp [impl_PutNum.l0])
  | succ k1 =>
   have H := HA.out; clear HA; simp only [impl_PutNum.l0] at H; replace H := dI_ H; obtain ⟨jA, H⟩ | ⟨jA, H⟩ := H
   ·replace H := pN_ H; obtain ⟨c6, H⟩ := H; have LMc6 := aM c6; clear c6; generalize hY : bA ++ [(Go.bits .or .i64 (Go.bits .and .i64 bJ 127) 128) % 256] = jB at H; (try replace H := bS_ H); (try dsimp only at H); have jC := aM hY.symm; clear hY; replace H := aM H; go_wp2_with (first | ((with_reducible refine gate_builtin (b := .append) (xs := #[.tmp 9, .tmp 14]) rfl ?_); at_builtin; refine Kd.R_append (Kd.int .u8) (w0 := w) w.heap.size rfl (.tmp 9) (.tmp 14) 22 5 (.int .u8 0) 1 rfl Tryz.underlying22 info5 rfl (by decide) (by omega) u3 bA ((Go.bits .or .i64 (Go.bits .and .i64 bJ 127) 128) % 256) [.int .u8 ((Go.bits .or .i64 (Go.bits .and .i64 bJ 127) 128) % 256)] (fun _ => True) (fun _ => False) rfl rfl ?aP (fun _ hk => hk.elim) ?aF ?aO ?aB ?aS ?aL ?_; (case aP => exact rfl); (case aB => exact xbel); (case aF => exact (fun _ _ => trivial)); (case aO => exact (xr cL)); (case aS => exact (below_size xbel)); (case aL => have := LMc6.out; omega); intro v983 w7 ho hb hg hat; rw [← jC.out] at ho; replace HB := aM (hb); have jD := aM (ho); clear cL; clear ho hb hg hat))
    go_roundg k1
    case measure => have := HK1.out; omega
    case rel => exact ⟨_, _, u20_0, H, ⟨by have := HK1.out; omega⟩, ⟨by (with_reducible repeat (first | apply Kd.R_alloc | apply Kd.R_drewN | apply Kd.R_drew)); exact jD.out⟩, ⟨xbel⟩⟩
   by_cases c8 : bA.length < 140737488355328
   ·rw [if_pos c8] at H; have LMc8 := aM c8; clear c8; generalize hY : bA ++ [(bJ) % 256] = uI at H; (try replace H := bS_ H); (try dsimp only at H); have jE := aM hY.symm; clear hY; obtain rfl := Option.some.inj H; go_wp2_with (first | ((with_reducible refine gate_builtin (b := .append) (xs := #[.tmp 18, .tmp 21]) rfl ?_); at_builtin; refine Kd.R_append (Kd.int .u8) (w0 := w) w.heap.size rfl (.tmp 18) (.tmp 21) 22 5 (.int .u8 0) 1 rfl Tryz.underlying22 info5 rfl (by decide) (by omega) u3 bA ((bJ) % 256) [.int .u8 ((bJ) % 256)] (fun _ => True) (fun _ => False) rfl rfl ?aP (fun _ hk => hk.elim) ?aF ?aO ?aB ?aS ?aL ?_; (case aP => exact rfl); (case aB => exact xbel); (case aF => exact (fun _ _ => trivial)); (case aO => exact (xr cL)); (case aS => exact (below_size xbel)); (case aL => have := LMc8.out; omega); intro v986 w9 ho hb hg hat; rw [← jE.out] at ho; replace HB := aM (hb); have jF := aM (ho); clear cL; clear ho hb hg hat))
    go_ret
    exact ⟨_, xerr, by (with_reducible repeat (first | apply Kd.R_alloc | apply Kd.R_drewN | apply Kd.R_drew)); exact jF.out, xbel⟩
   rw [if_neg c8] at H; cases H
def impl_putNums.l0 : Nat → List Int → List Int → Int → Int → Option (List Int)
 | 0, _, _, _, _ => none
 | k + 1, x3, x7, x8, x9 => if x9 < x8 then (if 0 ≤ x9 then (if x9 < (x7.length : Int) then ((impl_PutNum.f k (rd x7 x9)).bind fun eN => (if x3.length + eN.length < 140737488355328 then (impl_putNums.l0 k (x3 ++ eN) x7 x8 (wrap64 (x9 + 1))) else (none))) else (none)) else (none)) else (some x3)
def impl_putNums.f (k : Nat) (l0 : List Int) : Option (List Int) := impl_putNums.l0 k (([] : List Int)) l0 (l0.length : Int) 0
theorem impl_putNums.calls {k : Nat} {A0 : Option Addr} {c0 : Nat} {l0 r : List Int} {w : World} (h : impl_putNums.f k l0 = some r) (vR : Kd.C (Kd.int .i64) w A0 l0.length l0) (vS : l0.length ≤ c0) :
 Calls Tryz.prog 72 #[.slice A0 l0.length c0] w fun e w' => ∃ v0_ : Value, e = .returned (v0_) ∧ Kd.R (Kd.int .u8) 5 w' w.heap.size (fun _ => True) v0_ r ∧ Below w.heap.size w w' := by
 have wS := aM vR; have wW := aM vS
 clear vR vS
 have HB := aM (Below.refl w.heap.size w); have H := h; unfold impl_putNums.f at H
 clear h
 obtain ⟨jG, hY⟩ : ∃ y_ : List Int, y_ = (([] : List Int)) := ⟨_, rfl⟩; replace H : (impl_putNums.l0 k jG l0 (l0.length : Int) 0) = some r := u20_2; have hE := aM hY
 clear hY
 replace H := aM H
 go_enter Tryz.func72, Tryz.ntmps72
 go_wp2_with (first | (refine li_ .u8 5 (N := 6) rfl [] ?_; intro v989 w2 jH hb; (first | rw [← hE.out] at jH | (simp only [Int.reduceToNat] at jH; rw [← hE.out] at jH)); have jI := aM (Kd.R_lower jH (below_size xbel)); replace HB := xbs hb; clear hb jH))
 go_loopg [3, 9] k (fun kq v3 v9 w' => ∃ (bA : List Int) (aZ : Int), v9 = .int .i64 aZ ∧ Aside0 (impl_putNums.l0 kq bA l0 (l0.length : Int) aZ = some r) ∧ Aside0 (kq ≤ k) ∧ Aside0 (Kd.R (Kd.int .u8) 5 w' w.heap.size (fun _ => True) v3 bA) ∧ Aside0 (Below w.heap.size w w'))
 case atStart => exact ⟨_, _, u20_0, H, ⟨Nat.le_refl _⟩, ⟨by (with_reducible repeat (first | apply Kd.R_alloc | apply Kd.R_drewN | apply Kd.R_drew)); exact jI.out⟩, ⟨xbel⟩⟩
 case round =>
  clear H
  obtain ⟨bA, aZ, rfl, HA, HK1, cL, HB⟩ := hrel; cases gk with
  | zero => exact absurd HA.out (by simp [impl_putNums.l0])
  | succ k1 =>
   have H := HA.out; clear HA; simp only [impl_putNums.l0] at H; replace H := dI_ H; obtain ⟨uJ, H⟩ | ⟨uJ, H⟩ := H
   ·replace H := dN_ H; obtain ⟨jA, H⟩ := H; replace H := dN_ H; obtain ⟨wT, H⟩ := H; replace H := oA_ H; obtain ⟨eN, A7, H⟩ := H; (try dsimp only at H); replace H := pN_ H; obtain ⟨c8, H⟩ := H; have LMc8 := aM c8; clear c8; generalize hY : bA ++ eN = jJ at H; (try replace H := bS_ H); (try dsimp only at H); have jK := aM hY.symm; clear hY; replace H := aM H; have p991 : 0 ≤ (aZ : Int) := oda; have q991 : aZ < (l0.length : Int) := oda; obtain ⟨vU, uK, gJ⟩ := Kd.at_int wS.out aZ p991 q991; cases uK
    replace gJ := xce HB gJ; replace p991 := eq_true p991; replace q991 := eq_true q991; go_wp2_with (first | (refine gN_ 95 15 rfl rfl ?_; refine c1_ Tryz.func95 (impl_PutNum.calls A7.out) ?_; rintro v993 w9 ⟨uL, hb⟩; have eO := aM (Kd.R_lower (Kd.R_new' uL (Kd.R_lt (xr cL))) (below_size xbel)); replace cL := aM (Kd.R_elder' (xr cL) (Kd.R_base uL) hb); replace HB := xbs hb; (try clear hb uL); obtain ⟨uM, uN, uO⟩ := Kd.R_slice eO.out; subst uO) | ((with_reducible refine gate_builtin (b := .append) (xs := #[.tmp 13, .tmp 15]) rfl ?_); at_builtin; refine Kd.R_append_rows (Kd.int .u8) (w0 := w) w.heap.size rfl (.tmp 13) (.tmp 15) 22 5 (.int .u8 0) 1 rfl Tryz.underlying22 info5 rfl (by decide) (by omega) u3 bA eN _ _ _ (fun k_ => some k_ ≠ (.slice uM eN.length uN : Value).ownBlock) (fun _ => False) rfl rfl ?aO ?aR (fun _ _ h => h) (fun _ h => h.elim) ?aF ?aB ?aS ?aL ?_; (case aR => repeat (first | exact (Kd.R_reads' eO.out).2.2 | (with_reducible refine Kd.C_alloc ?_ _) | (with_reducible refine Kd.C_drewN ?_ _) | (with_reducible refine Kd.C_drew ?_))); (case aB => exact xbel); (case aF => exact (fun k_ hk => Kd.fresh' (Kd.R_lt (xr eO)) k_ hk)); (case aO => exact (by (with_reducible repeat (first | apply Kd.R_alloc | apply Kd.R_drewN | apply Kd.R_drew)); exact Kd.R_mono cL.out (fun _ hk => hk.2))); (case aS => exact (below_size xbel)); (case aL => have := LMc8.out; omega); intro v996 vQ ho hb hg hat; rw [← jK.out] at ho; replace eO := aM (Kd.R_after (ok := (fun _ => True)) (xr eO) hg hat); replace HB := aM (hb); have jL := aM (ho); clear cL; clear ho hb hg hat))
    go_roundg k1
    case measure => have := HK1.out; omega
    case rel => exact ⟨_, _, u20_0, H, ⟨by have := HK1.out; omega⟩, ⟨by (with_reducible repeat (first | apply Kd.R_alloc | apply Kd.R_drewN | apply Kd.R_drew)); exact Kd.R_mono jL.out (fun _ hk => trivial)⟩, ⟨xbel⟩⟩
   obtain rfl := Option.some.inj H; go_wp2; go_ret
   exact ⟨_, xerr, by (with_reducible repeat (first | apply Kd.R_alloc | apply Kd.R_drewN | apply Kd.R_drew)); exact cL.out, xbel⟩
end Go.Proofs.YtppfnnpfamkclaaGreat.QFnSaved
