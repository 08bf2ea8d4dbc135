-- A walk, by a program of this session.
import Derived.Test.YtocpomkfilpflaaQFnExactHardLoadx0
import Derived.Test.YtocpomkfilpflaaQFnExactHardLoadx15
namespace Go.Proofs.Ytocpomkfilpflaa.QFnExactHardLoad
open Go.RowKit Go.Proofs.YtocpomkfilpflaaW.PrintWords Go.Proofs.YtocpomkfilpflaaW.PrintLast Go.Proofs.YtocpomkfilpflaaW.PrintMore
attribute [local go_sem] max2_int min2_int max_two min_two max_three min_three max_four min_four   -- for this text's walks alone
set_option linter.unusedVariables false
set_option linter.unusedSimpArgs false

theorem u16_0 {p : Prop} (h : p := by first | rfl | (simp; done) | (simp [*]; done)) : p := h
theorem u16_1 {p : Prop} (h : p := by repeat (first | (with_reducible first | exact HK.out | apply Kept.alloc | apply Kept.drewN | apply Kept.drew) | exact HK.out)) : p := h
theorem u16_2 {p : Prop} (h : p := by first | (go_simp; done) | (go_simp; rfl)) : p := h
theorem u16_3 {p : Prop} (h : p := by (with_reducible repeat (first | apply Kd.R_alloc | apply Kd.R_drewN | apply Kd.R_drew)); exact aN.out) : p := h
theorem u16_4 {p : Prop} (h : p := by repeat (first | (with_reducible first | exact HK.out | apply Kept.alloc | apply Kept.drewN | apply Kept.drew | refine Kept.setCell ?_ (.inr jN.out) _) | exact HK.out)) : p := h
/-! ### laws_eqEntry: function 86 -/
def laws_eqEntry.f (aB : Int) (aI : Int) (bN : Int) (dB : Int) (dC : Int) (dD : ByteArray) (aD : Int) (aJ : Int) (bO : Int) (dE : Int) (dF : Int) (dG : ByteArray) : Option (Bool) := if aB = aD then ((laws_eqCmd.f aI bN dB dC dD aJ bO dE dF dG).bind fun eW => (if eW = true then (some true) else (some false))) else (some false)
set_option maxHeartbeats 8000000 in
set_option maxRecDepth 100000 in
theorem laws_eqEntry.calls (aB : Int) (aI : Int) (bN : Int) (dB : Int) (dC : Int) (dD : ByteArray) (aD : Int) (aJ : Int) (bO : Int) (dE : Int) (dF : Int) (dG : ByteArray) (r : Bool) (w : World) (h : laws_eqEntry.f aB aI bN dB dC dD aD aJ bO dE dF dG = some r) :
 Calls Try.prog 86 #[.agg #[.int .i64 aB, .int .i64 aI, .int .i64 bN, .int .i64 dB, .int .i64 dC, .string dD], .agg #[.int .i64 aD, .int .i64 aJ, .int .i64 bO, .int .i64 dE, .int .i64 dF, .string dG]] w fun e w' => e = .returned (.bool r) ∧ Below w.heap.size w w' := by
 have oM := Try.underlying36
 have qY := Try.underlying34
 have HB := aM (Below.refl w.heap.size w)
 have H : (if aB = aD then ((laws_eqCmd.f aI bN dB dC dD aJ bO dE dF dG).bind fun eW => (if eW = true then (some true) else (some false))) else (some false)) = some r := h
 clear h
 by_cases c3 : aB = aD
 ·rw [if_pos c3] at H; obtain ⟨bX, dA⟩ := bT c3; clear c3; replace H := oB H; obtain ⟨eW, jO, H⟩ := H; (try dsimp only at H); have A4 := aM jO; clear jO
  by_cases c5 : eW = true
  ·subst c5; replace H := iT H; obtain rfl := Option.some.inj H; go_enter Try.func86, Try.ntmps86
   go_wp2_with (first | ((with_reducible refine gD 2 rfl ?_); refine boxE (N := 2) rfl (cs := #[.int .i64 aB, .int .i64 aI, .int .i64 bN, .int .i64 dB, .int .i64 dC, .string dD]) (t := 36) ?_; intro gL hg w6 hbox hb; have aK := aM (hbox); have gM := aM (xge hg); have gN := aM (xge hg); replace HB := xbs hb; clear hb hbox hg) | ((with_reducible refine gD 3 rfl ?_); refine boxE (N := 3) rfl (cs := #[.int .i64 aD, .int .i64 aJ, .int .i64 bO, .int .i64 dE, .int .i64 dF, .string dG]) (t := 36) ?_; intro gO hg w7 hbox hb; have gP := aM (xge hg); have gQ := aM (xge hg); replace HB := xbs hb; have bP := nblt aK hg; have bQ := nbgt aK hg; replace aK := xbb aK hb; have cF := aM (hbox); clear hb hbox hg; have jP := bP.out; have jQ := bQ.out; obtain ⟨eX, eY, iR, oN, oO, oP, eZ, fA, iS, oQ, oR, oT⟩ := xf6 (w := w7) aK; obtain ⟨dM, dN, eG, kR, kS, kT, dO, dP, eH, kU, kV, kW⟩ := xf6 (w := w7) cF) | ((with_reducible refine gC 96 rfl ?_); refine goesLY (some 14) rfl Try.func96 #[.agg #[.int .i64 aI, .int .i64 bN, .int .i64 dB, .int .i64 dC, .string dD], .agg #[.int .i64 aJ, .int .i64 bO, .int .i64 dE, .int .i64 dF, .string dG]] ?_; (with_reducible refine (laws_eqCmd.calls aI bN dB dC dD aJ bO dE dF dG true _ A4.out).mono ?_); rintro e kX ⟨rfl, hb⟩; refine ⟨_, rfl, ?_⟩; replace aK := xbb aK hb; replace cF := xbb cF hb; replace HB := xbs hb; (try clear hb)))
   go_ret
   exact ⟨xerr, xbg⟩
  ·replace c5 := Bool.eq_false_iff.mpr c5; subst c5; replace H := iN H; obtain rfl := Option.some.inj H; go_enter Try.func86, Try.ntmps86
   go_wp2_with (first | ((with_reducible refine gD 2 rfl ?_); refine boxE (N := 2) rfl (cs := #[.int .i64 aB, .int .i64 aI, .int .i64 bN, .int .i64 dB, .int .i64 dC, .string dD]) (t := 36) ?_; intro gL hg fB hbox hb; have aK := aM (hbox); have gM := aM (xge hg); have gN := aM (xge hg); replace HB := xbs hb; clear hb hbox hg) | ((with_reducible refine gD 3 rfl ?_); refine boxE (N := 3) rfl (cs := #[.int .i64 aD, .int .i64 aJ, .int .i64 bO, .int .i64 dE, .int .i64 dF, .string dG]) (t := 36) ?_; intro gO hg fV hbox hb; have gP := aM (xge hg); have gQ := aM (xge hg); replace HB := xbs hb; have bP := nblt aK hg; have bQ := nbgt aK hg; replace aK := xbb aK hb; have cF := aM (hbox); clear hb hbox hg; have jR := bP.out; have jS := bQ.out; obtain ⟨eI, eJ, fW, kY, kZ, lA, eK, eL, fX, lB, lC, lE⟩ := xf6 (w := fV) aK; obtain ⟨eM, eN, fY, lF, lG, lH, eO, eP, fZ, lI, lJ, lK⟩ := xf6 (w := fV) cF) | ((with_reducible refine gC 96 rfl ?_); refine goesLY (some 14) rfl Try.func96 #[.agg #[.int .i64 aI, .int .i64 bN, .int .i64 dB, .int .i64 dC, .string dD], .agg #[.int .i64 aJ, .int .i64 bO, .int .i64 dE, .int .i64 dF, .string dG]] ?_; (with_reducible refine (laws_eqCmd.calls aI bN dB dC dD aJ bO dE dF dG false _ A4.out).mono ?_); rintro e lL ⟨rfl, hb⟩; refine ⟨_, rfl, ?_⟩; replace aK := xbb aK hb; replace cF := xbb cF hb; replace HB := xbs hb; (try clear hb)))
   go_ret
   exact ⟨xerr, xbg⟩
 ·rw [if_neg c3] at H; obtain ⟨bX, dA⟩ := bF c3; obtain rfl := Option.some.inj H; go_enter Try.func86, Try.ntmps86
  go_wp2_with (first | ((with_reducible refine gD 2 rfl ?_); refine boxE (N := 2) rfl (cs := #[.int .i64 aB, .int .i64 aI, .int .i64 bN, .int .i64 dB, .int .i64 dC, .string dD]) (t := 36) ?_; intro gL hg jL hbox hb; have aK := aM (hbox); have gM := aM (xge hg); have gN := aM (xge hg); replace HB := xbs hb; clear hb hbox hg) | ((with_reducible refine gD 3 rfl ?_); refine boxE (N := 3) rfl (cs := #[.int .i64 aD, .int .i64 aJ, .int .i64 bO, .int .i64 dE, .int .i64 dF, .string dG]) (t := 36) ?_; intro gO hg jM hbox hb; have gP := aM (xge hg); have gQ := aM (xge hg); replace HB := xbs hb; have bP := nblt aK hg; have bQ := nbgt aK hg; replace aK := xbb aK hb; have cF := aM (hbox); clear hb hbox hg; have jT := bP.out; have jU := bQ.out; obtain ⟨gA, gB, lM, lN, lO, lP, gE, gF, lQ, lR, lS, lT⟩ := xf6 (w := jM) aK; obtain ⟨eQ, eR, gG, lU, lV, lW, eS, eT, gH, lX, lY, lZ⟩ := xf6 (w := jM) cF))
  go_ret
  exact ⟨xerr, xbg⟩

/-! ### laws_eqEntryS: function 59 -/
def laws_eqEntryS.l0 : Nat → List (S36) → List (S36) → Int → Option (Bool)
 | 0, _, _, _ => none
 | k + 1, x0, x1, x5 => if x5 < (x0.length : Int) then (if 0 ≤ x5 then (if x5 < (x1.length : Int) then ((laws_eqEntry.f ((rd_T36 x0 x5).f0) ((rd_T36 x0 x5).f1.f0) ((rd_T36 x0 x5).f1.f1) ((rd_T36 x0 x5).f1.f2) ((rd_T36 x0 x5).f1.f3) ((rd_T36 x0 x5).f1.f4) ((rd_T36 x1 x5).f0) ((rd_T36 x1 x5).f1.f0) ((rd_T36 x1 x5).f1.f1) ((rd_T36 x1 x5).f1.f2) ((rd_T36 x1 x5).f1.f3) ((rd_T36 x1 x5).f1.f4)).bind fun iU => (if iU = true then (laws_eqEntryS.l0 k x0 x1 (wrap64 (x5 + 1))) else (some false))) else (none)) else (none)) else (some true)
def laws_eqEntryS.f (k : Nat) (l0 : List (S36)) (l1 : List (S36)) : Option (Bool) := if (l0.length : Int) = (l1.length : Int) then (laws_eqEntryS.l0 k l0 l1 0) else (some false)
theorem u16_mq0 {p : Prop} (h : p := by repeat' first | (with_reducible first | exact eU _ _ _ | exact LeO.refl _ | exact LeO.none _ | refine LeO.ite ?_ ?_ | refine LeO.bind ?_ (fun _ => ?_)) | exact eU _ _ _ | exact LeO.none _ | refine LeO.ite ?_ ?_ | refine LeO.bind ?_ (fun _ => ?_)) : p := h
set_option maxRecDepth 100000 in
theorem laws_eqEntryS.mono_l : ∀ k, (∀ y0 y1 y2, LeO (laws_eqEntryS.l0 k y0 y1 y2) (laws_eqEntryS.l0 (k + 1) y0 y1 y2))
 | 0 => fun _ _ _ r h => by simp [laws_eqEntryS.l0] at h
 | k + 1 => by
  have eU := laws_eqEntryS.mono_l k
  ·intro y0 y1 y2; unfold laws_eqEntryS.l0; exact u16_mq0
theorem laws_eqEntryS.mono : ∀ a0 a1 k, LeO (laws_eqEntryS.f k a0 a1) (laws_eqEntryS.f (k + 1) a0 a1) := by
 intro a0 a1 k
 have eU := laws_eqEntryS.mono_l k
 unfold laws_eqEntryS.f
 exact u16_mq0
def laws_eqEntryS.T6 : Bool × List (List Nat × List Nat) := (true, [([], []), ([], []), ([0, 1], [0, 1]), ([2], [2]), ([], []), ([], []), ([4, 5], [4, 5]), ([6], [6]), ([3, 7], [3, 7]), ([8], [8])])
def laws_eqEntryS.B6 : List Nat := [0, 0, 3, 7, 0, 0, 48, 112, 255, 511]
theorem laws_eqEntryS.tab6 : rtab .any (opsOf Try.f59 6) = laws_eqEntryS.T6 := by kernel_rfl
theorem laws_eqEntryS.bits6 : waitsOk laws_eqEntryS.T6.2 laws_eqEntryS.B6 = true := by kernel_rfl
set_option maxHeartbeats 8000000 in
set_option maxRecDepth 100000 in
theorem laws_eqEntryS.calls (k : Nat) (A0 : Option Addr) (c0 : Nat) (l0 : List (S36)) (A1 : Option Addr) (c1 : Nat) (l1 : List (S36)) (r : Bool) (w : World) (jV : Kd.C k36 w A0 l0.length l0) (jW : l0.length ≤ c0) (jX : Kd.C k36 w A1 l1.length l1) (jY : l1.length ≤ c1) (h : laws_eqEntryS.f k l0 l1 = some r) :
 Calls Try.prog 59 #[.slice A0 l0.length c0, .slice A1 l1.length c1] w fun e w' => e = .returned (.bool r) ∧ Below w.heap.size w w' := by
 have oM := Try.underlying36
 have jZ := aM jV
 have qZ := aM jW
 clear jV jW
 have kA := aM jX
 have rA := aM jY
 clear jX jY
 have HB := aM (Below.refl w.heap.size w)
 have H : (if (l0.length : Int) = (l1.length : Int) then (laws_eqEntryS.l0 k l0 l1 0) else (some false)) = some r := h
 clear h
 by_cases c3 : (l0.length : Int) = (l1.length : Int)
 ·rw [if_pos c3] at H; obtain ⟨bX, dA⟩ := bT c3; have fC : (l0.length == l1.length) = true := by first | simpa using c3 | (simp at c3 ⊢; omega)
  clear c3; have H' := aM H; clear H; go_enter Try.func59, Try.ntmps59
  go_wp2; go_loopg [5] k (fun kq v5 w' => ∃ (aA : Int), v5 = .int .i64 aA ∧ Aside0 (laws_eqEntryS.l0 kq l0 l1 aA = some r) ∧ Aside0 (kq ≤ k) ∧ Aside0 (Below w.heap.size w w'))
  case atStart => exact ⟨(0), u16_0, H', ⟨Nat.le_refl _⟩, ⟨xbel⟩⟩
  case round =>
   clear H'; try clear c1
   try clear p2
   try clear c3
   try clear bX
   try clear dA
   try clear fC
   obtain ⟨aA, rfl, HA, HK1, HB⟩ := hrel; cases gk with
   | zero => exact absurd HA.out (by simp [laws_eqEntryS.l0])
   | succ k1 =>
    have H := HA.out; clear HA; simp only [laws_eqEntryS.l0] at H; by_cases c4 : aA < (l0.length : Int)
    ·rw [if_pos c4] at H; have dQ : decide (aA < (l0.length : Int)) = true := decide_eq_true c4; clear c4; by_cases c5 : 0 ≤ aA
     ·rw [if_pos c5] at H; have iV : decide (0 ≤ aA) = true := decide_eq_true c5; clear c5; by_cases c6 : aA < (l1.length : Int)
      ·rw [if_pos c6] at H; have oU : decide (aA < (l1.length : Int)) = true := decide_eq_true c6; clear c6; replace H := oB H; obtain ⟨iU, kB, H⟩ := H; (try dsimp only at H); have A7 := aM kB; clear kB
       by_cases c8 : iU = true
       ·subst c8; replace H := iT H; have H' := aM H; clear H; try go_wp2
        replace HB := lD HB; have p471 : 0 ≤ (aA : Int) := oda; have q471 : aA < (l0.length : Int) := oda; obtain ⟨aF, iW, aT, aU, aV, aW, aX, aY⟩ := at_T36 jZ.out aA p471 q471; have cG := aY; have cH := aX; have cI := aW; have cJ := aV; have cK := aU; have cL := aT; cases iW
        replace aT := xce HB aT; replace aU := xce HB aU; replace aV := xce HB aV; replace aW := xce HB aW; replace aX := xce HB aX; replace aY := xce HB aY; replace p471 := eq_true p471; replace q471 := eq_true q471; have p472 : 0 ≤ (aA : Int) := oda; have q472 : aA < (l1.length : Int) := oda; obtain ⟨aG, iX, aZ, bA, bB, bC, bE, bG⟩ := at_T36 kA.out aA p472 q472; have cM := bG; have cN := bE; have cO := bC; have cP := bB; have cQ := bA; have cR := aZ; cases iX
        replace aZ := xce HB aZ; replace bA := xce HB bA; replace bB := xce HB bB; replace bC := xce HB bC; replace bE := xce HB bE; replace bG := xce HB bG; replace p472 := eq_true p472; replace q472 := eq_true q472; refine st_ 10 (fun w' => w'.cell? (aF.add ((aA).toNat * 6)) = some (.int .i64 ((rd_T36 l0 aA).f0)) ∧ w'.cell? ⟨(aF.add ((aA).toNat * 6)).block, (aF.add ((aA).toNat * 6)).off + 1, none⟩ = some (.int .i64 ((rd_T36 l0 aA).f1.f0)) ∧ w'.cell? ⟨(aF.add ((aA).toNat * 6)).block, (aF.add ((aA).toNat * 6)).off + 2, none⟩ = some (.int .i64 ((rd_T36 l0 aA).f1.f1)) ∧ w'.cell? ⟨(aF.add ((aA).toNat * 6)).block, (aF.add ((aA).toNat * 6)).off + 3, none⟩ = some (.int .i64 ((rd_T36 l0 aA).f1.f2)) ∧ w'.cell? ⟨(aF.add ((aA).toNat * 6)).block, (aF.add ((aA).toNat * 6)).off + 4, none⟩ = some (.int .i64 ((rd_T36 l0 aA).f1.f3)) ∧ w'.cell? ⟨(aF.add ((aA).toNat * 6)).block, (aF.add ((aA).toNat * 6)).off + 5, none⟩ = some (.string ((rd_T36 l0 aA).f1.f4)) ∧ w'.cell? (aG.add ((aA).toNat * 6)) = some (.int .i64 ((rd_T36 l1 aA).f0)) ∧ w'.cell? ⟨(aG.add ((aA).toNat * 6)).block, (aG.add ((aA).toNat * 6)).off + 1, none⟩ = some (.int .i64 ((rd_T36 l1 aA).f1.f0)) ∧ w'.cell? ⟨(aG.add ((aA).toNat * 6)).block, (aG.add ((aA).toNat * 6)).off + 2, none⟩ = some (.int .i64 ((rd_T36 l1 aA).f1.f1)) ∧ w'.cell? ⟨(aG.add ((aA).toNat * 6)).block, (aG.add ((aA).toNat * 6)).off + 3, none⟩ = some (.int .i64 ((rd_T36 l1 aA).f1.f2)) ∧ w'.cell? ⟨(aG.add ((aA).toNat * 6)).block, (aG.add ((aA).toNat * 6)).off + 4, none⟩ = some (.int .i64 ((rd_T36 l1 aA).f1.f3)) ∧ w'.cell? ⟨(aG.add ((aA).toNat * 6)).block, (aG.add ((aA).toNat * 6)).off + 5, none⟩ = some (.string ((rd_T36 l1 aA).f1.f4))) laws_eqEntryS.tab6 laws_eqEntryS.bits6 ⟨(xce HB cL), (xce HB cK), (xce HB cJ), (xce HB cI), (xce HB cH), (xce HB cG), (xce HB cR), (xce HB cQ), (xce HB cP), (xce HB cO), (xce HB cN), (xce HB cM)⟩ (fun hHeld HT_ HW_ => ?_); generalize wr.drew = w9 at HB aT aU aV aW aX aY aZ bA bB bC bE bG hHeld ⊢; refine pv_ 0 17 (h := ?_); refine pv_ 1 18 (h := ?_); refine pv_ 2 19 (h := ?_); refine pv_ 4 21 (h := ?_); refine pv_ 5 22 (h := ?_); refine pv_ 6 23 (h := ?_); refine tk_ 3 20 (h := ?_); refine tk_ 7 24 (h := ?_); refine on_ 8 25 (h := fun K hK => ?_); refine goesY Try.func86 #[.agg #[.int .i64 ((rd_T36 l0 aA).f0), .int .i64 ((rd_T36 l0 aA).f1.f0), .int .i64 ((rd_T36 l0 aA).f1.f1), .int .i64 ((rd_T36 l0 aA).f1.f2), .int .i64 ((rd_T36 l0 aA).f1.f3), .string ((rd_T36 l0 aA).f1.f4)], .agg #[.int .i64 ((rd_T36 l1 aA).f0), .int .i64 ((rd_T36 l1 aA).f1.f0), .int .i64 ((rd_T36 l1 aA).f1.f1), .int .i64 ((rd_T36 l1 aA).f1.f2), .int .i64 ((rd_T36 l1 aA).f1.f3), .string ((rd_T36 l1 aA).f1.f4)]] ?_; with_reducible refine (laws_eqEntry.calls ((rd_T36 l0 aA).f0) ((rd_T36 l0 aA).f1.f0) ((rd_T36 l0 aA).f1.f1) ((rd_T36 l0 aA).f1.f2) ((rd_T36 l0 aA).f1.f3) ((rd_T36 l0 aA).f1.f4) ((rd_T36 l1 aA).f0) ((rd_T36 l1 aA).f1.f0) ((rd_T36 l1 aA).f1.f1) ((rd_T36 l1 aA).f1.f2) ((rd_T36 l1 aA).f1.f3) ((rd_T36 l1 aA).f1.f4) true _ A7.out).mono ?_
        rintro e rB ⟨rfl, hb⟩; refine ⟨_, rfl, ?_⟩; replace HB := xbs hb; (try clear hb); refine hK.out _ _ ⟨(xce HB cL), (xce HB cK), (xce HB cJ), (xce HB cI), (xce HB cH), (xce HB cG), (xce HB cR), (xce HB cQ), (xce HB cP), (xce HB cO), (xce HB cN), (xce HB cM)⟩ (fun hHeld => ?_); clear hK K; refine nm_ (N := 25) ?_; refine pv_ 9 26 (h := ?_); refine dn_ ?_; try go_wp2
        go_roundg k1
        case measure => have := HK1.out; omega
        case rel => exact ⟨(wrap64 (aA + 1)), u16_0, H', ⟨by have := HK1.out; omega⟩, ⟨xbel⟩⟩
       ·replace c8 := Bool.eq_false_iff.mpr c8; subst c8; replace H := iN H; obtain rfl := Option.some.inj H; try go_wp2
        replace HB := lD HB; have p471 : 0 ≤ (aA : Int) := oda; have q471 : aA < (l0.length : Int) := oda; obtain ⟨aF, iW, aT, aU, aV, aW, aX, aY⟩ := at_T36 jZ.out aA p471 q471; have cG := aY; have cH := aX; have cI := aW; have cJ := aV; have cK := aU; have cL := aT; cases iW
        replace aT := xce HB aT; replace aU := xce HB aU; replace aV := xce HB aV; replace aW := xce HB aW; replace aX := xce HB aX; replace aY := xce HB aY; replace p471 := eq_true p471; replace q471 := eq_true q471; have p472 : 0 ≤ (aA : Int) := oda; have q472 : aA < (l1.length : Int) := oda; obtain ⟨aG, iX, aZ, bA, bB, bC, bE, bG⟩ := at_T36 kA.out aA p472 q472; have cM := bG; have cN := bE; have cO := bC; have cP := bB; have cQ := bA; have cR := aZ; cases iX
        replace aZ := xce HB aZ; replace bA := xce HB bA; replace bB := xce HB bB; replace bC := xce HB bC; replace bE := xce HB bE; replace bG := xce HB bG; replace p472 := eq_true p472; replace q472 := eq_true q472; refine st_ 10 (fun w' => w'.cell? (aF.add ((aA).toNat * 6)) = some (.int .i64 ((rd_T36 l0 aA).f0)) ∧ w'.cell? ⟨(aF.add ((aA).toNat * 6)).block, (aF.add ((aA).toNat * 6)).off + 1, none⟩ = some (.int .i64 ((rd_T36 l0 aA).f1.f0)) ∧ w'.cell? ⟨(aF.add ((aA).toNat * 6)).block, (aF.add ((aA).toNat * 6)).off + 2, none⟩ = some (.int .i64 ((rd_T36 l0 aA).f1.f1)) ∧ w'.cell? ⟨(aF.add ((aA).toNat * 6)).block, (aF.add ((aA).toNat * 6)).off + 3, none⟩ = some (.int .i64 ((rd_T36 l0 aA).f1.f2)) ∧ w'.cell? ⟨(aF.add ((aA).toNat * 6)).block, (aF.add ((aA).toNat * 6)).off + 4, none⟩ = some (.int .i64 ((rd_T36 l0 aA).f1.f3)) ∧ w'.cell? ⟨(aF.add ((aA).toNat * 6)).block, (aF.add ((aA).toNat * 6)).off + 5, none⟩ = some (.string ((rd_T36 l0 aA).f1.f4)) ∧ w'.cell? (aG.add ((aA).toNat * 6)) = some (.int .i64 ((rd_T36 l1 aA).f0)) ∧ w'.cell? ⟨(aG.add ((aA).toNat * 6)).block, (aG.add ((aA).toNat * 6)).off + 1, none⟩ = some (.int .i64 ((rd_T36 l1 aA).f1.f0)) ∧ w'.cell? ⟨(aG.add ((aA).toNat * 6)).block, (aG.add ((aA).toNat * 6)).off + 2, none⟩ = some (.int .i64 ((rd_T36 l1 aA).f1.f1)) ∧ w'.cell? ⟨(aG.add ((aA).toNat * 6)).block, (aG.add ((aA).toNat * 6)).off + 3, none⟩ = some (.int .i64 ((rd_T36 l1 aA).f1.f2)) ∧ w'.cell? ⟨(aG.add ((aA).toNat * 6)).block, (aG.add ((aA).toNat * 6)).off + 4, none⟩ = some (.int .i64 ((rd_T36 l1 aA).f1.f3)) ∧ w'.cell? ⟨(aG.add ((aA).toNat * 6)).block, (aG.add ((aA).toNat * 6)).off + 5, none⟩ = some (.string ((rd_T36 l1 aA).f1.f4))) laws_eqEntryS.tab6 laws_eqEntryS.bits6 ⟨(xce HB cL), (xce HB cK), (xce HB cJ), (xce HB cI), (xce HB cH), (xce HB cG), (xce HB cR), (xce HB cQ), (xce HB cP), (xce HB cO), (xce HB cN), (xce HB cM)⟩ (fun hHeld HT_ HW_ => ?_); generalize wr.drew = kX at HB aT aU aV aW aX aY aZ bA bB bC bE bG hHeld ⊢; refine pv_ 0 17 (h := ?_); refine pv_ 1 18 (h := ?_); refine pv_ 2 19 (h := ?_); refine pv_ 4 21 (h := ?_); refine pv_ 5 22 (h := ?_); refine pv_ 6 23 (h := ?_); refine tk_ 3 20 (h := ?_); refine tk_ 7 24 (h := ?_); refine on_ 8 25 (h := fun K hK => ?_); refine goesY Try.func86 #[.agg #[.int .i64 ((rd_T36 l0 aA).f0), .int .i64 ((rd_T36 l0 aA).f1.f0), .int .i64 ((rd_T36 l0 aA).f1.f1), .int .i64 ((rd_T36 l0 aA).f1.f2), .int .i64 ((rd_T36 l0 aA).f1.f3), .string ((rd_T36 l0 aA).f1.f4)], .agg #[.int .i64 ((rd_T36 l1 aA).f0), .int .i64 ((rd_T36 l1 aA).f1.f0), .int .i64 ((rd_T36 l1 aA).f1.f1), .int .i64 ((rd_T36 l1 aA).f1.f2), .int .i64 ((rd_T36 l1 aA).f1.f3), .string ((rd_T36 l1 aA).f1.f4)]] ?_; with_reducible refine (laws_eqEntry.calls ((rd_T36 l0 aA).f0) ((rd_T36 l0 aA).f1.f0) ((rd_T36 l0 aA).f1.f1) ((rd_T36 l0 aA).f1.f2) ((rd_T36 l0 aA).f1.f3) ((rd_T36 l0 aA).f1.f4) ((rd_T36 l1 aA).f0) ((rd_T36 l1 aA).f1.f0) ((rd_T36 l1 aA).f1.f1) ((rd_T36 l1 aA).f1.f2) ((rd_T36 l1 aA).f1.f3) ((rd_T36 l1 aA).f1.f4) false _ A7.out).mono ?_
        rintro e fB ⟨rfl, hb⟩; refine ⟨_, rfl, ?_⟩; replace HB := xbs hb; (try clear hb); refine hK.out _ _ ⟨(xce HB cL), (xce HB cK), (xce HB cJ), (xce HB cI), (xce HB cH), (xce HB cG), (xce HB cR), (xce HB cQ), (xce HB cP), (xce HB cO), (xce HB cN), (xce HB cM)⟩ (fun hHeld => ?_); clear hK K; refine nm_ (N := 25) ?_; refine pv_ 9 26 (h := ?_); refine dn_ ?_; try go_wp2
        go_ret
        exact ⟨xerr, xbel⟩
      ·rw [if_neg c6] at H; exact absurd H (by simp)
     ·rw [if_neg c5] at H; exact absurd H (by simp)
    ·rw [if_neg c4] at H; have dQ : decide (aA < (l0.length : Int)) = false := decide_eq_false c4; clear c4; obtain rfl := Option.some.inj H; go_wp2; go_ret
     exact ⟨xerr, xbel⟩
 ·rw [if_neg c3] at H; obtain ⟨bX, dA⟩ := bF c3; have fC : (l0.length == l1.length) = false := by first | simpa using c3 | (simp at c3 ⊢; omega)
  obtain rfl := Option.some.inj H; go_enter Try.func59, Try.ntmps59
  go_wp2; go_ret
  exact ⟨xerr, xbel⟩

/-! ### laws_eqHard: function 24 -/
def laws_eqHard.f (k : Nat) (aB : Int) (aI : Int) (cB : List (S36)) (aD : Int) (aJ : Int) (cC : List (S36)) : Option (Bool) := if aB = aD then (if aI = aJ then ((laws_eqEntryS.f k cB cC).bind fun fD => (if fD = true then (some true) else (some false))) else (some false)) else (some false)
theorem u16_mq1 {p : Prop} (h : p := by repeat' first | (with_reducible first | exact laws_eqEntryS.mono _ _ _ | exact LeO.refl _ | exact LeO.none _ | refine LeO.ite ?_ ?_ | refine LeO.bind ?_ (fun _ => ?_)) | exact laws_eqEntryS.mono _ _ _ | exact LeO.none _ | refine LeO.ite ?_ ?_ | refine LeO.bind ?_ (fun _ => ?_)) : p := h
theorem laws_eqHard.mono : ∀ a0 a1 a2 a3 a4 a5 k, LeO (laws_eqHard.f k a0 a1 a2 a3 a4 a5) (laws_eqHard.f (k + 1) a0 a1 a2 a3 a4 a5) := by
 intro a0 a1 a2 a3 a4 a5 k
 unfold laws_eqHard.f
 exact u16_mq1
set_option maxHeartbeats 8000000 in
set_option maxRecDepth 100000 in
theorem laws_eqHard.calls (k : Nat) (aB : Int) (aI : Int) (dS : Option Addr) (dU : Nat) (cB : List (S36)) (aD : Int) (aJ : Int) (dV : Option Addr) (dW : Nat) (cC : List (S36)) (r : Bool) (w : World) (gR : Kd.C k36 w dS cB.length cB) (gS : cB.length ≤ dU) (gT : Kd.C k36 w dV cC.length cC) (gU : cC.length ≤ dW) (h : laws_eqHard.f k aB aI cB aD aJ cC = some r) :
 Calls Try.prog 24 #[.agg #[.int .i64 aB, .int .i64 aI, .slice dS cB.length dU], .agg #[.int .i64 aD, .int .i64 aJ, .slice dV cC.length dW]] w fun e w' => e = .returned (.bool r) ∧ Below w.heap.size w w' := by
 have rC := Try.underlying28
 have gV := aM gR
 have gW := aM gS
 clear gR gS
 have gX := aM gT
 have gY := aM gU
 clear gT gU
 have HB := aM (Below.refl w.heap.size w)
 have H : (if aB = aD then (if aI = aJ then ((laws_eqEntryS.f k cB cC).bind fun fD => (if fD = true then (some true) else (some false))) else (some false)) else (some false)) = some r := h
 clear h
 by_cases c3 : aB = aD
 ·rw [if_pos c3] at H; obtain ⟨bX, dA⟩ := bT c3; clear c3; by_cases c4 : aI = aJ
  ·rw [if_pos c4] at H; obtain ⟨dQ, gI⟩ := bT c4; clear c4; replace H := oB H; obtain ⟨fD, pH, H⟩ := H; (try dsimp only at H); have A5 := aM pH; clear pH
   by_cases c6 : fD = true
   ·subst c6; replace H := iT H; obtain rfl := Option.some.inj H; go_enter Try.func24, Try.ntmps24
    go_wp2_with (first | ((with_reducible refine gD 2 rfl ?_); refine boxE (N := 2) rfl (cs := #[.int .i64 aB, .int .i64 aI, .slice dS cB.length dU]) (t := 28) ?_; intro fE hg w7 hbox hb; have aE := aM (hbox); have fF := aM (xge hg); have fG := aM (xge hg); replace HB := xbs hb; clear hb hbox hg) | ((with_reducible refine gD 3 rfl ?_); refine boxE (N := 3) rfl (cs := #[.int .i64 aD, .int .i64 aJ, .slice dV cC.length dW]) (t := 28) ?_; intro fH hg w8 hbox hb; have fI := aM (xge hg); have fJ := aM (xge hg); replace HB := xbs hb; have aO := nblt aE hg; have aP := nbgt aE hg; replace aE := xbb aE hb; have bY := aM (hbox); clear hb hbox hg; have rE := aO.out; have rF := aP.out; obtain ⟨dM, dN, eG, dO, dP, eH⟩ := xf3 (w := w8) aE; obtain ⟨mA, mB, mC, mD, mE, mF⟩ := xf3 (w := w8) bY) | ((with_reducible refine gC 59 rfl ?_); refine goesLY (some 19) rfl Try.func59 #[.slice dS cB.length dU, .slice dV cC.length dW] ?_; (with_reducible refine (laws_eqEntryS.calls k _ _ cB _ _ cC true _ ?side1 ?side2 ?side3 ?side4 A5.out).mono ?_); (case side1 => exact xcb gV); (case side2 => exact gW.out); (case side3 => exact xcb gX); (case side4 => exact gY.out); rintro e fB ⟨rfl, hb⟩; refine ⟨_, rfl, ?_⟩; replace aE := xbb aE hb; replace bY := xbb bY hb; replace HB := xbs hb; (try clear hb)))
    go_ret
    exact ⟨xerr, xbg⟩
   ·replace c6 := Bool.eq_false_iff.mpr c6; subst c6; replace H := iN H; obtain rfl := Option.some.inj H; go_enter Try.func24, Try.ntmps24
    go_wp2_with (first | ((with_reducible refine gD 2 rfl ?_); refine boxE (N := 2) rfl (cs := #[.int .i64 aB, .int .i64 aI, .slice dS cB.length dU]) (t := 28) ?_; intro fE hg fV hbox hb; have aE := aM (hbox); have fF := aM (xge hg); have fG := aM (xge hg); replace HB := xbs hb; clear hb hbox hg) | ((with_reducible refine gD 3 rfl ?_); refine boxE (N := 3) rfl (cs := #[.int .i64 aD, .int .i64 aJ, .slice dV cC.length dW]) (t := 28) ?_; intro fH hg pI hbox hb; have fI := aM (xge hg); have fJ := aM (xge hg); replace HB := xbs hb; have aO := nblt aE hg; have aP := nbgt aE hg; replace aE := xbb aE hb; have bY := aM (hbox); clear hb hbox hg; have pJ := aO.out; have pK := aP.out; obtain ⟨eM, eN, fY, eO, eP, fZ⟩ := xf3 (w := pI) aE; obtain ⟨mG, mH, mI, mJ, mK, mL⟩ := xf3 (w := pI) bY) | ((with_reducible refine gC 59 rfl ?_); refine goesLY (some 19) rfl Try.func59 #[.slice dS cB.length dU, .slice dV cC.length dW] ?_; (with_reducible refine (laws_eqEntryS.calls k _ _ cB _ _ cC false _ ?side1 ?side2 ?side3 ?side4 A5.out).mono ?_); (case side1 => exact xcb gV); (case side2 => exact gW.out); (case side3 => exact xcb gX); (case side4 => exact gY.out); rintro e jL ⟨rfl, hb⟩; refine ⟨_, rfl, ?_⟩; replace aE := xbb aE hb; replace bY := xbb bY hb; replace HB := xbs hb; (try clear hb)))
    go_ret
    exact ⟨xerr, xbg⟩
  ·rw [if_neg c4] at H; obtain ⟨dQ, gI⟩ := bF c4; obtain rfl := Option.some.inj H; go_enter Try.func24, Try.ntmps24
   go_wp2_with (first | ((with_reducible refine gD 2 rfl ?_); refine boxE (N := 2) rfl (cs := #[.int .i64 aB, .int .i64 aI, .slice dS cB.length dU]) (t := 28) ?_; intro fE hg jM hbox hb; have aE := aM (hbox); have fF := aM (xge hg); have fG := aM (xge hg); replace HB := xbs hb; clear hb hbox hg) | ((with_reducible refine gD 3 rfl ?_); refine boxE (N := 3) rfl (cs := #[.int .i64 aD, .int .i64 aJ, .slice dV cC.length dW]) (t := 28) ?_; intro fH hg pL hbox hb; have fI := aM (xge hg); have fJ := aM (xge hg); replace HB := xbs hb; have aO := nblt aE hg; have aP := nbgt aE hg; replace aE := xbb aE hb; have bY := aM (hbox); clear hb hbox hg; have pM := aO.out; have pN := aP.out; obtain ⟨eQ, eR, gG, eS, eT, gH⟩ := xf3 (w := pL) aE; obtain ⟨mM, mN, mO, mP, mQ, mR⟩ := xf3 (w := pL) bY))
   go_ret
   exact ⟨xerr, xbg⟩
 ·rw [if_neg c3] at H; obtain ⟨bX, dA⟩ := bF c3; obtain rfl := Option.some.inj H; go_enter Try.func24, Try.ntmps24
  go_wp2_with (first | ((with_reducible refine gD 2 rfl ?_); refine boxE (N := 2) rfl (cs := #[.int .i64 aB, .int .i64 aI, .slice dS cB.length dU]) (t := 28) ?_; intro fE hg rR hbox hb; have aE := aM (hbox); have fF := aM (xge hg); have fG := aM (xge hg); replace HB := xbs hb; clear hb hbox hg) | ((with_reducible refine gD 3 rfl ?_); refine boxE (N := 3) rfl (cs := #[.int .i64 aD, .int .i64 aJ, .slice dV cC.length dW]) (t := 28) ?_; intro fH hg pO hbox hb; have fI := aM (xge hg); have fJ := aM (xge hg); replace HB := xbs hb; have aO := nblt aE hg; have aP := nbgt aE hg; replace aE := xbb aE hb; have bY := aM (hbox); clear hb hbox hg; have pP := aO.out; have pQ := aP.out; obtain ⟨mS, mT, mU, mV, mW, mX⟩ := xf3 (w := pO) aE; obtain ⟨mY, mZ, nA, nB, nC, nD⟩ := xf3 (w := pO) bY))
  go_ret
  exact ⟨xerr, xbg⟩

/-! ### laws_eqFile: function 87 -/
def laws_eqFile.f (aB : Int) (aI : ByteArray) (bN : ByteArray) (aD : Int) (aJ : ByteArray) (bO : ByteArray) : Option (Bool) := if aB = aD then (if aI.toList = aJ.toList then (if bN.toList = bO.toList then (some true) else (some false)) else (some false)) else (some false)
set_option maxHeartbeats 8000000 in
set_option maxRecDepth 100000 in
theorem laws_eqFile.calls (aB : Int) (aI : ByteArray) (bN : ByteArray) (aD : Int) (aJ : ByteArray) (bO : ByteArray) (r : Bool) (w : World) (h : laws_eqFile.f aB aI bN aD aJ bO = some r) :
 Calls Try.prog 87 #[.agg #[.int .i64 aB, .string aI, .string bN], .agg #[.int .i64 aD, .string aJ, .string bO]] w fun e w' => e = .returned (.bool r) ∧ Below w.heap.size w w' := by
 have kC := Try.underlying112
 have HB := aM (Below.refl w.heap.size w)
 have H : (if aB = aD then (if aI.toList = aJ.toList then (if bN.toList = bO.toList then (some true) else (some false)) else (some false)) else (some false)) = some r := h
 clear h
 by_cases c3 : aB = aD
 ·rw [if_pos c3] at H; obtain ⟨bX, dA⟩ := bT c3; clear c3; by_cases c4 : aI.toList = aJ.toList
  ·rw [if_pos c4] at H; obtain ⟨dQ, gI⟩ := bT c4; clear c4; by_cases c5 : bN.toList = bO.toList
   ·rw [if_pos c5] at H; obtain ⟨iV, oV⟩ := bT c5; clear c5; obtain rfl := Option.some.inj H; go_enter Try.func87, Try.ntmps87
    go_wp2_with (first | ((with_reducible refine gD 2 rfl ?_); refine boxE (N := 2) rfl (cs := #[.int .i64 aB, .string aI, .string bN]) (t := 112) ?_; intro fK hg w6 hbox hb; have aH := aM (hbox); have fL := aM (xge hg); have fM := aM (xge hg); replace HB := xbs hb; clear hb hbox hg) | ((with_reducible refine gD 3 rfl ?_); refine boxE (N := 3) rfl (cs := #[.int .i64 aD, .string aJ, .string bO]) (t := 112) ?_; intro fN hg w7 hbox hb; have fO := aM (xge hg); have fP := aM (xge hg); replace HB := xbs hb; have aQ := nblt aH hg; have aR := nbgt aH hg; replace aH := xbb aH hb; have dJ := aM (hbox); clear hb hbox hg; have jP := aQ.out; have jQ := aR.out; obtain ⟨eX, eY, iR, eZ, fA, iS⟩ := xf3 (w := w7) aH; obtain ⟨dM, dN, eG, dO, dP, eH⟩ := xf3 (w := w7) dJ))
    go_ret
    exact ⟨xerr, xbg⟩
   ·rw [if_neg c5] at H; obtain ⟨iV, oV⟩ := bF c5; obtain rfl := Option.some.inj H; go_enter Try.func87, Try.ntmps87
    go_wp2_with (first | ((with_reducible refine gD 2 rfl ?_); refine boxE (N := 2) rfl (cs := #[.int .i64 aB, .string aI, .string bN]) (t := 112) ?_; intro fK hg kX hbox hb; have aH := aM (hbox); have fL := aM (xge hg); have fM := aM (xge hg); replace HB := xbs hb; clear hb hbox hg) | ((with_reducible refine gD 3 rfl ?_); refine boxE (N := 3) rfl (cs := #[.int .i64 aD, .string aJ, .string bO]) (t := 112) ?_; intro fN hg fB hbox hb; have fO := aM (xge hg); have fP := aM (xge hg); replace HB := xbs hb; have aQ := nblt aH hg; have aR := nbgt aH hg; replace aH := xbb aH hb; have dJ := aM (hbox); clear hb hbox hg; have pR := aQ.out; have pS := aR.out; obtain ⟨nE, nF, nG, nH, nI, nJ⟩ := xf3 (w := fB) aH; obtain ⟨eI, eJ, fW, eK, eL, fX⟩ := xf3 (w := fB) dJ))
    go_ret
    exact ⟨xerr, xbg⟩
  ·rw [if_neg c4] at H; obtain ⟨dQ, gI⟩ := bF c4; obtain rfl := Option.some.inj H; go_enter Try.func87, Try.ntmps87
   go_wp2_with (first | ((with_reducible refine gD 2 rfl ?_); refine boxE (N := 2) rfl (cs := #[.int .i64 aB, .string aI, .string bN]) (t := 112) ?_; intro fK hg nK hbox hb; have aH := aM (hbox); have fL := aM (xge hg); have fM := aM (xge hg); replace HB := xbs hb; clear hb hbox hg) | ((with_reducible refine gD 3 rfl ?_); refine boxE (N := 3) rfl (cs := #[.int .i64 aD, .string aJ, .string bO]) (t := 112) ?_; intro fN hg lL hbox hb; have fO := aM (xge hg); have fP := aM (xge hg); replace HB := xbs hb; have aQ := nblt aH hg; have aR := nbgt aH hg; replace aH := xbb aH hb; have dJ := aM (hbox); clear hb hbox hg; have pT := aQ.out; have pU := aR.out; obtain ⟨nL, nM, nN, nO, nP, nQ⟩ := xf3 (w := lL) aH; obtain ⟨nR, nS, nT, nU, nV, nW⟩ := xf3 (w := lL) dJ))
   go_ret
   exact ⟨xerr, xbg⟩
 ·rw [if_neg c3] at H; obtain ⟨bX, dA⟩ := bF c3; obtain rfl := Option.some.inj H; go_enter Try.func87, Try.ntmps87
  go_wp2_with (first | ((with_reducible refine gD 2 rfl ?_); refine boxE (N := 2) rfl (cs := #[.int .i64 aB, .string aI, .string bN]) (t := 112) ?_; intro fK hg rS hbox hb; have aH := aM (hbox); have fL := aM (xge hg); have fM := aM (xge hg); replace HB := xbs hb; clear hb hbox hg) | ((with_reducible refine gD 3 rfl ?_); refine boxE (N := 3) rfl (cs := #[.int .i64 aD, .string aJ, .string bO]) (t := 112) ?_; intro fN hg pV hbox hb; have fO := aM (xge hg); have fP := aM (xge hg); replace HB := xbs hb; have aQ := nblt aH hg; have aR := nbgt aH hg; replace aH := xbb aH hb; have dJ := aM (hbox); clear hb hbox hg; have pW := aQ.out; have pX := aR.out; obtain ⟨nX, nY, nZ, oA, oC, oD⟩ := xf3 (w := pV) aH; obtain ⟨oE, oF, oG, oH, oI, oJ⟩ := xf3 (w := pV) dJ))
  go_ret
  exact ⟨xerr, xbg⟩

/-! ### laws_eqFileS: function 60 -/
def laws_eqFileS.l0 : Nat → List (S112) → List (S112) → Int → Option (Bool)
 | 0, _, _, _ => none
 | k + 1, x0, x1, x5 => if x5 < (x0.length : Int) then (if 0 ≤ x5 then (if x5 < (x1.length : Int) then ((laws_eqFile.f ((rd_T112 x0 x5).f0) ((rd_T112 x0 x5).f1) ((rd_T112 x0 x5).f2) ((rd_T112 x1 x5).f0) ((rd_T112 x1 x5).f1) ((rd_T112 x1 x5).f2)).bind fun iY => (if iY = true then (laws_eqFileS.l0 k x0 x1 (wrap64 (x5 + 1))) else (some false))) else (none)) else (none)) else (some true)
def laws_eqFileS.f (k : Nat) (l0 : List (S112)) (l1 : List (S112)) : Option (Bool) := if (l0.length : Int) = (l1.length : Int) then (laws_eqFileS.l0 k l0 l1 0) else (some false)
set_option maxRecDepth 100000 in
theorem laws_eqFileS.mono_l : ∀ k, (∀ y0 y1 y2, LeO (laws_eqFileS.l0 k y0 y1 y2) (laws_eqFileS.l0 (k + 1) y0 y1 y2))
 | 0 => fun _ _ _ r h => by simp [laws_eqFileS.l0] at h
 | k + 1 => by
  have eU := laws_eqFileS.mono_l k
  ·intro y0 y1 y2; unfold laws_eqFileS.l0; exact u16_mq0
theorem laws_eqFileS.mono : ∀ a0 a1 k, LeO (laws_eqFileS.f k a0 a1) (laws_eqFileS.f (k + 1) a0 a1) := by
 intro a0 a1 k
 have eU := laws_eqFileS.mono_l k
 unfold laws_eqFileS.f
 exact u16_mq0
def laws_eqFileS.T6 : Bool × List (List Nat × List Nat) := (true, [([], []), ([], []), ([0, 1], [0, 1]), ([2], [2]), ([], []), ([], []), ([4, 5], [4, 5]), ([6], [6]), ([3, 7], [3, 7]), ([8], [8])])
def laws_eqFileS.B6 : List Nat := [0, 0, 3, 7, 0, 0, 48, 112, 255, 511]
theorem laws_eqFileS.tab6 : rtab .any (opsOf Try.f60 6) = laws_eqFileS.T6 := by kernel_rfl
theorem laws_eqFileS.bits6 : waitsOk laws_eqFileS.T6.2 laws_eqFileS.B6 = true := by kernel_rfl
set_option maxHeartbeats 8000000 in
set_option maxRecDepth 100000 in
theorem laws_eqFileS.calls (k : Nat) (A0 : Option Addr) (c0 : Nat) (l0 : List (S112)) (A1 : Option Addr) (c1 : Nat) (l1 : List (S112)) (r : Bool) (w : World) (jV : Kd.C k112 w A0 l0.length l0) (jW : l0.length ≤ c0) (jX : Kd.C k112 w A1 l1.length l1) (jY : l1.length ≤ c1) (h : laws_eqFileS.f k l0 l1 = some r) :
 Calls Try.prog 60 #[.slice A0 l0.length c0, .slice A1 l1.length c1] w fun e w' => e = .returned (.bool r) ∧ Below w.heap.size w w' := by
 have kC := Try.underlying112
 have jZ := aM jV
 have qZ := aM jW
 clear jV jW
 have kA := aM jX
 have rA := aM jY
 clear jX jY
 have HB := aM (Below.refl w.heap.size w)
 have H : (if (l0.length : Int) = (l1.length : Int) then (laws_eqFileS.l0 k l0 l1 0) else (some false)) = some r := h
 clear h
 by_cases c3 : (l0.length : Int) = (l1.length : Int)
 ·rw [if_pos c3] at H; obtain ⟨bX, dA⟩ := bT c3; have fC : (l0.length == l1.length) = true := by first | simpa using c3 | (simp at c3 ⊢; omega)
  clear c3; have H' := aM H; clear H; go_enter Try.func60, Try.ntmps60
  go_wp2; go_loopg [5] k (fun kq v5 w' => ∃ (aA : Int), v5 = .int .i64 aA ∧ Aside0 (laws_eqFileS.l0 kq l0 l1 aA = some r) ∧ Aside0 (kq ≤ k) ∧ Aside0 (Below w.heap.size w w'))
  case atStart => exact ⟨(0), u16_0, H', ⟨Nat.le_refl _⟩, ⟨xbel⟩⟩
  case round =>
   clear H'; try clear c1
   try clear p2
   try clear c3
   try clear bX
   try clear dA
   try clear fC
   obtain ⟨aA, rfl, HA, HK1, HB⟩ := hrel; cases gk with
   | zero => exact absurd HA.out (by simp [laws_eqFileS.l0])
   | succ k1 =>
    have H := HA.out; clear HA; simp only [laws_eqFileS.l0] at H; by_cases c4 : aA < (l0.length : Int)
    ·rw [if_pos c4] at H; have dQ : decide (aA < (l0.length : Int)) = true := decide_eq_true c4; clear c4; by_cases c5 : 0 ≤ aA
     ·rw [if_pos c5] at H; have iV : decide (0 ≤ aA) = true := decide_eq_true c5; clear c5; by_cases c6 : aA < (l1.length : Int)
      ·rw [if_pos c6] at H; have oU : decide (aA < (l1.length : Int)) = true := decide_eq_true c6; clear c6; replace H := oB H; obtain ⟨iY, kB, H⟩ := H; (try dsimp only at H); have A7 := aM kB; clear kB
       by_cases c8 : iY = true
       ·subst c8; replace H := iT H; have H' := aM H; clear H; try go_wp2
        replace HB := lD HB; have p479 : 0 ≤ (aA : Int) := oda; have q479 : aA < (l0.length : Int) := oda; obtain ⟨bZ, iZ, bH, bI, bJ⟩ := at_T112 jZ.out aA p479 q479; have cS := bJ; have cT := bI; have cU := bH; cases iZ
        replace bH := xce HB bH; replace bI := xce HB bI; replace bJ := xce HB bJ; replace p479 := eq_true p479; replace q479 := eq_true q479; have p480 : 0 ≤ (aA : Int) := oda; have q480 : aA < (l1.length : Int) := oda; obtain ⟨cA, jA, bK, bL, bM⟩ := at_T112 kA.out aA p480 q480; have cV := bM; have cW := bL; have cX := bK; cases jA
        replace bK := xce HB bK; replace bL := xce HB bL; replace bM := xce HB bM; replace p480 := eq_true p480; replace q480 := eq_true q480; refine st_ 10 (fun w' => w'.cell? (bZ.add ((aA).toNat * 3)) = some (.int .i64 ((rd_T112 l0 aA).f0)) ∧ w'.cell? ⟨(bZ.add ((aA).toNat * 3)).block, (bZ.add ((aA).toNat * 3)).off + 1, none⟩ = some (.string ((rd_T112 l0 aA).f1)) ∧ w'.cell? ⟨(bZ.add ((aA).toNat * 3)).block, (bZ.add ((aA).toNat * 3)).off + 2, none⟩ = some (.string ((rd_T112 l0 aA).f2)) ∧ w'.cell? (cA.add ((aA).toNat * 3)) = some (.int .i64 ((rd_T112 l1 aA).f0)) ∧ w'.cell? ⟨(cA.add ((aA).toNat * 3)).block, (cA.add ((aA).toNat * 3)).off + 1, none⟩ = some (.string ((rd_T112 l1 aA).f1)) ∧ w'.cell? ⟨(cA.add ((aA).toNat * 3)).block, (cA.add ((aA).toNat * 3)).off + 2, none⟩ = some (.string ((rd_T112 l1 aA).f2))) laws_eqFileS.tab6 laws_eqFileS.bits6 ⟨(xce HB cU), (xce HB cT), (xce HB cS), (xce HB cX), (xce HB cW), (xce HB cV)⟩ (fun hHeld HT_ HW_ => ?_); generalize wr.drew = w9 at HB bH bI bJ bK bL bM hHeld ⊢; refine pv_ 0 17 (h := ?_); refine pv_ 1 18 (h := ?_); refine pv_ 2 19 (h := ?_); refine pv_ 4 21 (h := ?_); refine pv_ 5 22 (h := ?_); refine pv_ 6 23 (h := ?_); refine tk_ 3 20 (h := ?_); refine tk_ 7 24 (h := ?_); refine on_ 8 25 (h := fun K hK => ?_); refine goesY Try.func87 #[.agg #[.int .i64 ((rd_T112 l0 aA).f0), .string ((rd_T112 l0 aA).f1), .string ((rd_T112 l0 aA).f2)], .agg #[.int .i64 ((rd_T112 l1 aA).f0), .string ((rd_T112 l1 aA).f1), .string ((rd_T112 l1 aA).f2)]] ?_; with_reducible refine (laws_eqFile.calls ((rd_T112 l0 aA).f0) ((rd_T112 l0 aA).f1) ((rd_T112 l0 aA).f2) ((rd_T112 l1 aA).f0) ((rd_T112 l1 aA).f1) ((rd_T112 l1 aA).f2) true _ A7.out).mono ?_
        rintro e rB ⟨rfl, hb⟩; refine ⟨_, rfl, ?_⟩; replace HB := xbs hb; (try clear hb); refine hK.out _ _ ⟨(xce HB cU), (xce HB cT), (xce HB cS), (xce HB cX), (xce HB cW), (xce HB cV)⟩ (fun hHeld => ?_); clear hK K; refine nm_ (N := 25) ?_; refine pv_ 9 26 (h := ?_); refine dn_ ?_; try go_wp2
        go_roundg k1
        case measure => have := HK1.out; omega
        case rel => exact ⟨(wrap64 (aA + 1)), u16_0, H', ⟨by have := HK1.out; omega⟩, ⟨xbel⟩⟩
       ·replace c8 := Bool.eq_false_iff.mpr c8; subst c8; replace H := iN H; obtain rfl := Option.some.inj H; try go_wp2
        replace HB := lD HB; have p479 : 0 ≤ (aA : Int) := oda; have q479 : aA < (l0.length : Int) := oda; obtain ⟨bZ, iZ, bH, bI, bJ⟩ := at_T112 jZ.out aA p479 q479; have cS := bJ; have cT := bI; have cU := bH; cases iZ
        replace bH := xce HB bH; replace bI := xce HB bI; replace bJ := xce HB bJ; replace p479 := eq_true p479; replace q479 := eq_true q479; have p480 : 0 ≤ (aA : Int) := oda; have q480 : aA < (l1.length : Int) := oda; obtain ⟨cA, jA, bK, bL, bM⟩ := at_T112 kA.out aA p480 q480; have cV := bM; have cW := bL; have cX := bK; cases jA
        replace bK := xce HB bK; replace bL := xce HB bL; replace bM := xce HB bM; replace p480 := eq_true p480; replace q480 := eq_true q480; refine st_ 10 (fun w' => w'.cell? (bZ.add ((aA).toNat * 3)) = some (.int .i64 ((rd_T112 l0 aA).f0)) ∧ w'.cell? ⟨(bZ.add ((aA).toNat * 3)).block, (bZ.add ((aA).toNat * 3)).off + 1, none⟩ = some (.string ((rd_T112 l0 aA).f1)) ∧ w'.cell? ⟨(bZ.add ((aA).toNat * 3)).block, (bZ.add ((aA).toNat * 3)).off + 2, none⟩ = some (.string ((rd_T112 l0 aA).f2)) ∧ w'.cell? (cA.add ((aA).toNat * 3)) = some (.int .i64 ((rd_T112 l1 aA).f0)) ∧ w'.cell? ⟨(cA.add ((aA).toNat * 3)).block, (cA.add ((aA).toNat * 3)).off + 1, none⟩ = some (.string ((rd_T112 l1 aA).f1)) ∧ w'.cell? ⟨(cA.add ((aA).toNat * 3)).block, (cA.add ((aA).toNat * 3)).off + 2, none⟩ = some (.string ((rd_T112 l1 aA).f2))) laws_eqFileS.tab6 laws_eqFileS.bits6 ⟨(xce HB cU), (xce HB cT), (xce HB cS), (xce HB cX), (xce HB cW), (xce HB cV)⟩ (fun hHeld HT_ HW_ => ?_); generalize wr.drew = kX at HB bH bI bJ bK bL bM hHeld ⊢; refine pv_ 0 17 (h := ?_); refine pv_ 1 18 (h := ?_); refine pv_ 2 19 (h := ?_); refine pv_ 4 21 (h := ?_); refine pv_ 5 22 (h := ?_); refine pv_ 6 23 (h := ?_); refine tk_ 3 20 (h := ?_); refine tk_ 7 24 (h := ?_); refine on_ 8 25 (h := fun K hK => ?_); refine goesY Try.func87 #[.agg #[.int .i64 ((rd_T112 l0 aA).f0), .string ((rd_T112 l0 aA).f1), .string ((rd_T112 l0 aA).f2)], .agg #[.int .i64 ((rd_T112 l1 aA).f0), .string ((rd_T112 l1 aA).f1), .string ((rd_T112 l1 aA).f2)]] ?_; with_reducible refine (laws_eqFile.calls ((rd_T112 l0 aA).f0) ((rd_T112 l0 aA).f1) ((rd_T112 l0 aA).f2) ((rd_T112 l1 aA).f0) ((rd_T112 l1 aA).f1) ((rd_T112 l1 aA).f2) false _ A7.out).mono ?_
        rintro e fB ⟨rfl, hb⟩; refine ⟨_, rfl, ?_⟩; replace HB := xbs hb; (try clear hb); refine hK.out _ _ ⟨(xce HB cU), (xce HB cT), (xce HB cS), (xce HB cX), (xce HB cW), (xce HB cV)⟩ (fun hHeld => ?_); clear hK K; refine nm_ (N := 25) ?_; refine pv_ 9 26 (h := ?_); refine dn_ ?_; try go_wp2
        go_ret
        exact ⟨xerr, xbel⟩
      ·rw [if_neg c6] at H; exact absurd H (by simp)
     ·rw [if_neg c5] at H; exact absurd H (by simp)
    ·rw [if_neg c4] at H; have dQ : decide (aA < (l0.length : Int)) = false := decide_eq_false c4; clear c4; obtain rfl := Option.some.inj H; go_wp2; go_ret
     exact ⟨xerr, xbel⟩
 ·rw [if_neg c3] at H; obtain ⟨bX, dA⟩ := bF c3; have fC : (l0.length == l1.length) = false := by first | simpa using c3 | (simp at c3 ⊢; omega)
  obtain rfl := Option.some.inj H; go_enter Try.func60, Try.ntmps60
  go_wp2; go_ret
  exact ⟨xerr, xbel⟩

/-! ### laws_eqDisk: function 25 -/
def laws_eqDisk.f (k : Nat) (aB : Int) (aS : List (S112)) (aD : Int) (cE : List (S112)) : Option (Bool) := if aB = aD then ((laws_eqFileS.f k aS cE).bind fun fQ => (if fQ = true then (some true) else (some false))) else (some false)
theorem u16_mq2 {p : Prop} (h : p := by repeat' first | (with_reducible first | exact laws_eqFileS.mono _ _ _ | exact LeO.refl _ | exact LeO.none _ | refine LeO.ite ?_ ?_ | refine LeO.bind ?_ (fun _ => ?_)) | exact laws_eqFileS.mono _ _ _ | exact LeO.none _ | refine LeO.ite ?_ ?_ | refine LeO.bind ?_ (fun _ => ?_)) : p := h
theorem laws_eqDisk.mono : ∀ a0 a1 a2 a3 k, LeO (laws_eqDisk.f k a0 a1 a2 a3) (laws_eqDisk.f (k + 1) a0 a1 a2 a3) := by
 intro a0 a1 a2 a3 k
 unfold laws_eqDisk.f
 exact u16_mq2
set_option maxHeartbeats 8000000 in
set_option maxRecDepth 100000 in
theorem laws_eqDisk.calls (k : Nat) (aB : Int) (eC : Option Addr) (eD : Nat) (aS : List (S112)) (aD : Int) (eE : Option Addr) (eF : Nat) (cE : List (S112)) (r : Bool) (w : World) (gZ : Kd.C k112 w eC aS.length aS) (hJ : aS.length ≤ eD) (hU : Kd.C k112 w eE cE.length cE) (hX : cE.length ≤ eF) (h : laws_eqDisk.f k aB aS aD cE = some r) :
 Calls Try.prog 25 #[.agg #[.int .i64 aB, .slice eC aS.length eD], .agg #[.int .i64 aD, .slice eE cE.length eF]] w fun e w' => e = .returned (.bool r) ∧ Below w.heap.size w w' := by
 have oW := Try.underlying55
 have hY := aM gZ
 have hZ := aM hJ
 clear gZ hJ
 have iA := aM hU
 have iB := aM hX
 clear hU hX
 have HB := aM (Below.refl w.heap.size w)
 have H : (if aB = aD then ((laws_eqFileS.f k aS cE).bind fun fQ => (if fQ = true then (some true) else (some false))) else (some false)) = some r := h
 clear h
 by_cases c3 : aB = aD
 ·rw [if_pos c3] at H; obtain ⟨bX, dA⟩ := bT c3; clear c3; replace H := oB H; obtain ⟨fQ, jO, H⟩ := H; (try dsimp only at H); have A4 := aM jO; clear jO
  by_cases c5 : fQ = true
  ·subst c5; replace H := iT H; obtain rfl := Option.some.inj H; go_enter Try.func25, Try.ntmps25
   go_wp2_with (first | ((with_reducible refine gD 2 rfl ?_); refine boxE (N := 2) rfl (cs := #[.int .i64 aB, .slice eC aS.length eD]) (t := 55) ?_; intro iC hg w6 hbox hb; have aL := aM (hbox); have iD := aM (xge hg); have iE := aM (xge hg); replace HB := xbs hb; clear hb hbox hg) | ((with_reducible refine gD 3 rfl ?_); refine boxE (N := 3) rfl (cs := #[.int .i64 aD, .slice eE cE.length eF]) (t := 55) ?_; intro iF hg w7 hbox hb; have iG := aM (xge hg); have iH := aM (xge hg); replace HB := xbs hb; have bR := nblt aL hg; have bU := nbgt aL hg; replace aL := xbb aL hb; have cY := aM (hbox); clear hb hbox hg; have jP := bR.out; have jQ := bU.out; obtain ⟨eX, eY, eZ, fA⟩ := xf2 (w := w7) aL; obtain ⟨dM, dN, dO, dP⟩ := xf2 (w := w7) cY) | ((with_reducible refine gC 60 rfl ?_); refine goesLY (some 14) rfl Try.func60 #[.slice eC aS.length eD, .slice eE cE.length eF] ?_; (with_reducible refine (laws_eqFileS.calls k _ _ aS _ _ cE true _ ?side1 ?side2 ?side3 ?side4 A4.out).mono ?_); (case side1 => exact xcb hY); (case side2 => exact hZ.out); (case side3 => exact xcb iA); (case side4 => exact iB.out); rintro e kX ⟨rfl, hb⟩; refine ⟨_, rfl, ?_⟩; replace aL := xbb aL hb; replace cY := xbb cY hb; replace HB := xbs hb; (try clear hb)))
   go_ret
   exact ⟨xerr, xbg⟩
  ·replace c5 := Bool.eq_false_iff.mpr c5; subst c5; replace H := iN H; obtain rfl := Option.some.inj H; go_enter Try.func25, Try.ntmps25
   go_wp2_with (first | ((with_reducible refine gD 2 rfl ?_); refine boxE (N := 2) rfl (cs := #[.int .i64 aB, .slice eC aS.length eD]) (t := 55) ?_; intro iC hg fB hbox hb; have aL := aM (hbox); have iD := aM (xge hg); have iE := aM (xge hg); replace HB := xbs hb; clear hb hbox hg) | ((with_reducible refine gD 3 rfl ?_); refine boxE (N := 3) rfl (cs := #[.int .i64 aD, .slice eE cE.length eF]) (t := 55) ?_; intro iF hg fV hbox hb; have iG := aM (xge hg); have iH := aM (xge hg); replace HB := xbs hb; have bR := nblt aL hg; have bU := nbgt aL hg; replace aL := xbb aL hb; have cY := aM (hbox); clear hb hbox hg; have jR := bR.out; have jS := bU.out; obtain ⟨eI, eJ, eK, eL⟩ := xf2 (w := fV) aL; obtain ⟨eM, eN, eO, eP⟩ := xf2 (w := fV) cY) | ((with_reducible refine gC 60 rfl ?_); refine goesLY (some 14) rfl Try.func60 #[.slice eC aS.length eD, .slice eE cE.length eF] ?_; (with_reducible refine (laws_eqFileS.calls k _ _ aS _ _ cE false _ ?side1 ?side2 ?side3 ?side4 A4.out).mono ?_); (case side1 => exact xcb hY); (case side2 => exact hZ.out); (case side3 => exact xcb iA); (case side4 => exact iB.out); rintro e lL ⟨rfl, hb⟩; refine ⟨_, rfl, ?_⟩; replace aL := xbb aL hb; replace cY := xbb cY hb; replace HB := xbs hb; (try clear hb)))
   go_ret
   exact ⟨xerr, xbg⟩
 ·rw [if_neg c3] at H; obtain ⟨bX, dA⟩ := bF c3; obtain rfl := Option.some.inj H; go_enter Try.func25, Try.ntmps25
  go_wp2_with (first | ((with_reducible refine gD 2 rfl ?_); refine boxE (N := 2) rfl (cs := #[.int .i64 aB, .slice eC aS.length eD]) (t := 55) ?_; intro iC hg jL hbox hb; have aL := aM (hbox); have iD := aM (xge hg); have iE := aM (xge hg); replace HB := xbs hb; clear hb hbox hg) | ((with_reducible refine gD 3 rfl ?_); refine boxE (N := 3) rfl (cs := #[.int .i64 aD, .slice eE cE.length eF]) (t := 55) ?_; intro iF hg jM hbox hb; have iG := aM (xge hg); have iH := aM (xge hg); replace HB := xbs hb; have bR := nblt aL hg; have bU := nbgt aL hg; replace aL := xbb aL hb; have cY := aM (hbox); clear hb hbox hg; have jT := bR.out; have jU := bU.out; obtain ⟨gA, gB, gE, gF⟩ := xf2 (w := jM) aL; obtain ⟨eQ, eR, eS, eT⟩ := xf2 (w := jM) cY))
  go_ret
  exact ⟨xerr, xbg⟩

/-! ### laws_markText: function 88 -/
def laws_markText.l0 : Nat → Int → ByteArray → Option (ByteArray)
 | 0, _, _ => none
 | k + 1, x0, x3 => if x0 > 0 then ((some (([(wrap64 (48 + (Int.tmod x0 10))) % 256] : List Int) : List Int)).bind fun dR => (if (strOfNums dR).size + x3.size ≤ 9223372036854775807 then (laws_markText.l0 k (wrap64 (Int.tdiv x0 10)) ((strOfNums dR) ++ x3)) else (none))) else (if 1 + x3.size ≤ 9223372036854775807 then (some ((⟨#[109]⟩ : ByteArray) ++ x3)) else (none))
def laws_markText.f (k : Nat) (a0 : Int) : Option (ByteArray) := if a0 ≤ 0 then (some (⟨#[109, 48]⟩ : ByteArray)) else (laws_markText.l0 k a0 (⟨#[]⟩ : ByteArray))
theorem u16_mq3 {p : Prop} (h : p := by repeat' first | (with_reducible first | exact eU _ _ | exact LeO.refl _ | exact LeO.none _ | refine LeO.ite ?_ ?_ | refine LeO.bind ?_ (fun _ => ?_)) | exact eU _ _ | exact LeO.none _ | refine LeO.ite ?_ ?_ | refine LeO.bind ?_ (fun _ => ?_)) : p := h
set_option maxRecDepth 100000 in
theorem laws_markText.mono_l : ∀ k, (∀ y0 y1, LeO (laws_markText.l0 k y0 y1) (laws_markText.l0 (k + 1) y0 y1))
 | 0 => fun _ _ r h => by simp [laws_markText.l0] at h
 | k + 1 => by
  have eU := laws_markText.mono_l k
  ·intro y0 y1; unfold laws_markText.l0; exact u16_mq3
theorem laws_markText.mono : ∀ a0 k, LeO (laws_markText.f k a0) (laws_markText.f (k + 1) a0) := by
 intro a0 k
 have eU := laws_markText.mono_l k
 unfold laws_markText.f
 exact u16_mq3
set_option maxHeartbeats 8000000 in
set_option maxRecDepth 100000 in
theorem laws_markText.calls (k : Nat) (a0 : Int) (r : ByteArray) (w : World) (h : laws_markText.f k a0 = some r) :
 Calls Try.prog 88 #[.int .i64 a0] w fun e w' => e = .returned (.string r) ∧ Below w.heap.size w w' := by
 have HB := aM (Below.refl w.heap.size w)
 have H : (if a0 ≤ 0 then (some (⟨#[109, 48]⟩ : ByteArray)) else (laws_markText.l0 k a0 (⟨#[]⟩ : ByteArray))) = some r := h
 clear h
 by_cases c2 : a0 ≤ 0
 ·rw [if_pos c2] at H; have kE : decide (a0 ≤ 0) = true := decide_eq_true c2; clear c2; obtain rfl := Option.some.inj H; go_enter Try.func88, Try.ntmps88
  go_wp2; go_ret
  exact ⟨xerr, xbel⟩
 ·rw [if_neg c2] at H; have kE : decide (a0 ≤ 0) = false := decide_eq_false c2; clear c2; have H' := aM H; clear H; go_enter Try.func88, Try.ntmps88
  go_wp2; go_loopg [0, 3] k (fun kq v0 v3 w' => ∃ (aC : Int) (dH : ByteArray), v0 = .int .i64 aC ∧ v3 = .string dH ∧ Aside0 (laws_markText.l0 kq aC dH = some r) ∧ Aside0 (kq ≤ k) ∧ Aside0 (Below w.heap.size w w'))
  case atStart => exact ⟨(a0), ((⟨#[]⟩ : ByteArray)), u16_0, u16_0, H', ⟨Nat.le_refl _⟩, ⟨xbel⟩⟩
  case round =>
   clear H'; try clear c2
   try clear kE
   try clear p2
   obtain ⟨aC, dH, rfl, rfl, HA, HK1, HB⟩ := hrel; cases gk with
   | zero => exact absurd HA.out (by simp [laws_markText.l0])
   | succ k1 =>
    have H := HA.out; clear HA; simp only [laws_markText.l0] at H; by_cases c3 : aC > 0
    ·rw [if_pos c3] at H; have bX : decide (0 < aC) = true := decide_eq_true c3; clear c3; obtain ⟨dR, dX⟩ : ∃ y_ : List Int, y_ = (([(wrap64 (48 + (Int.tmod aC 10))) % 256] : List Int)) := ⟨_, rfl⟩; replace H : (if (strOfNums dR).size + dH.size ≤ 9223372036854775807 then (laws_markText.l0 k1 (wrap64 (Int.tdiv aC 10)) ((strOfNums dR) ++ dH)) else (none)) = some r := by first | (rw [dX]; with_reducible exact H) | (have H2_ := oS H; rw [dX]; with_reducible exact H2_) | (have H2_ := oS H; with_reducible exact H2_) | with_reducible exact H | (rw [dX]; exact H) | exact H
     have iI := aM dX; clear dX; by_cases c4 : (strOfNums dR).size + dH.size ≤ 9223372036854775807
     ·rw [if_pos c4] at H; have dQ := eq_true c4; have gI : decide ((strOfNums dR).size + dH.size ≤ 9223372036854775807) = true := decide_eq_true c4; try have rG : (9223372036854775807 < (strOfNums dR).size + dH.size) = False := eq_false (Nat.not_lt.2 c4)
      have H' := aM H; clear H; go_wp2_with (first | ((with_reducible refine gD 12 rfl ?_); refine Kd.R_lit (Kd.int .u8) _ 5 ?hg (N := 12) ?hd (xs := ([(wrap64 (48 + (Int.tmod aC 10))) % 256] : List Int)) (inner := [.int .u8 ((wrap64 (48 + (Int.tmod aC 10))) % 256)]) (ok := fun _ => True) (okp := fun _ => True) ?hr ?hp (fun _ hk => hk) trivial (Below.refl _ _) (Nat.le_refl _) (by simp) ?_; (case hd => rfl); (case hg => rfl); (case hr => exact u16_2); (case hp => exact (Reps.one (show Kd.M (Kd.int .u8) _ _ _ ((wrap64 (48 + (Int.tmod aC 10))) % 256) [.int .u8 ((wrap64 (48 + (Int.tmod aC 10))) % 256)] from rfl) (Reps.none _ _))); intro rH w5 kF hb hg_ hnew_; clear hg_ hnew_; (first | rw [← iI.out] at kF | (simp only [Int.reduceToNat] at kF; rw [← iI.out] at kF)); have kG := aM (Kd.R_lower kF (below_size xbel)); replace HB := xbs hb; clear hb kF; have hcv7 := own_string (P := Try.prog) Try.underlying22 Try.underlying5 Try.underlying9 (Kd.own_of_R kG.out)))
      go_roundg k1
      case measure => have := HK1.out; omega
      case rel => exact ⟨(wrap64 (Int.tdiv aC 10)), ((strOfNums dR) ++ dH), u16_0, u16_0, H', ⟨by have := HK1.out; omega⟩, ⟨xbel⟩⟩
     ·rw [if_neg c4] at H; exact absurd H (by simp)
    ·rw [if_neg c3] at H; have bX : decide (0 < aC) = false := decide_eq_false c3; clear c3; by_cases c8 : 1 + dH.size ≤ 9223372036854775807
     ·rw [if_pos c8] at H; have rI := eq_true c8; have rJ : decide (1 + dH.size ≤ 9223372036854775807) = true := decide_eq_true c8; try have rK : (9223372036854775807 < 1 + dH.size) = False := eq_false (Nat.not_lt.2 c8)
      obtain rfl := Option.some.inj H; go_wp2; go_ret
      exact ⟨xerr, xbel⟩
     ·rw [if_neg c8] at H; exact absurd H (by simp)

/-! ### laws_markFileS: function 61 -/
theorem laws_markFileS.e112 {W : World} {base : Nat} {ok : Nat → Prop} {g n cap : Nat} {xs : List S112} (h : Kd.R k112 112 W base ok (.slice (some ⟨g, 0, none⟩) n cap) xs) (i : Int) (p : 0 ≤ i) (q : i < n) : W.cell? ⟨g, i.toNat * 3, none⟩ = some (.int .i64 ((rd_T112 xs i).f0)) ∧ W.cell? ⟨g, i.toNat * 3 + 1, none⟩ = some (.string ((rd_T112 xs i).f1)) ∧ W.cell? ⟨g, i.toNat * 3 + 2, none⟩ = some (.string ((rd_T112 xs i).f2)) ∧ W.frozen? ⟨g, i.toNat * 3, none⟩ = false ∧ W.frozen? ⟨g, i.toNat * 3 + 1, none⟩ = false ∧ W.frozen? ⟨g, i.toNat * 3 + 2, none⟩ = false := by
  obtain ⟨c, hcl, hM, hcc, hfr⟩ := Kd.R_elem h z112 i p q; obtain rfl := k112_openM hM; exact ⟨hcc 0 _ rfl, hcc 1 _ rfl, hcc 2 _ rfl, hfr 0, hfr 1, hfr 2⟩
def laws_markFileS.l0 : Nat → List (S112) → Int → Int → Option (Int × (List (S112)))
 | 0, _, _, _ => none
 | k + 1, x0, x1, x5 => if x5 < (x0.length : Int) then (if 0 ≤ x5 then ((some (x0.set (x5 : Int).toNat (⟨x1, (rd_T112 x0 x5).f1, (rd_T112 x0 x5).f2⟩ : S112) : List (S112))).bind fun cD => ((laws_markText.f k (wrap64 (x1 + 1))).bind fun dK => ((some (cD.set (x5 : Int).toNat (⟨(rd_T112 cD x5).f0, dK, (rd_T112 cD x5).f2⟩ : S112) : List (S112))).bind fun bV => ((laws_markText.f k (wrap64 ((wrap64 (x1 + 1)) + 1))).bind fun dI => (laws_markFileS.l0 k (bV.set (x5 : Int).toNat (⟨(rd_T112 bV x5).f0, (rd_T112 bV x5).f1, dI⟩ : S112)) (wrap64 ((wrap64 ((wrap64 (x1 + 1)) + 1)) + 1)) (wrap64 (x5 + 1))))))) else (none)) else (some (x1, x0))
def laws_markFileS.f (k : Nat) (l0 : List (S112)) (a1 : Int) : Option (Int × (List (S112))) := laws_markFileS.l0 k l0 a1 0
theorem u16_mq4 {p : Prop} (h : p := by repeat' first | (with_reducible first | exact eU _ _ _ | exact laws_markText.mono _ _ | exact LeO.refl _ | exact LeO.none _ | refine LeO.ite ?_ ?_ | refine LeO.bind ?_ (fun _ => ?_)) | exact eU _ _ _ | exact laws_markText.mono _ _ | exact LeO.none _ | refine LeO.ite ?_ ?_ | refine LeO.bind ?_ (fun _ => ?_)) : p := h
set_option maxRecDepth 100000 in
theorem laws_markFileS.mono_l : ∀ k, (∀ y0 y1 y2, LeO (laws_markFileS.l0 k y0 y1 y2) (laws_markFileS.l0 (k + 1) y0 y1 y2))
 | 0 => fun _ _ _ r h => by simp [laws_markFileS.l0] at h
 | k + 1 => by
  have eU := laws_markFileS.mono_l k
  ·intro y0 y1 y2; unfold laws_markFileS.l0; exact u16_mq4
theorem laws_markFileS.mono : ∀ a0 a1 k, LeO (laws_markFileS.f k a0 a1) (laws_markFileS.f (k + 1) a0 a1) := by
 intro a0 a1 k
 have eU := laws_markFileS.mono_l k
 unfold laws_markFileS.f
 exact u16_mq4
set_option maxHeartbeats 8000000 in
set_option maxRecDepth 100000 in
theorem laws_markFileS.calls (k : Nat) (P0_ : Nat → Prop) (u9000_ : Value) (l0 : List (S112)) (a1 : Int) (r1 : Int) (r2 : List (S112)) (w0 w : World) (hB : Below w0.heap.size w0 w) (rL : Kd.R k112 112 w w0.heap.size P0_ u9000_ l0) (h : laws_markFileS.f k l0 a1 = some (r1, r2)) :
 Calls Try.prog 61 #[u9000_, .int .i64 a1] w fun e w' => e = .returned (.int .i64 r1) ∧ Kd.R k112 112 w' w0.heap.size (fun k_ => (P0_ k_ ∨ w.heap.size ≤ k_)) u9000_ r2 ∧ Below w0.heap.size w0 w' ∧ Kept w w' (fun k_ => P0_ k_) := by
 have rM := aM (show Kd.R k112 112 w w0.heap.size (fun k_ => (P0_ k_ ∨ w.heap.size ≤ k_)) u9000_ l0 from Kd.R_mono rL (fun k_ hk => (.inl hk)))
 have HK := aM (Kept.refl w (fun k_ => P0_ k_))
 have HW0 := aM hB.size
 have HB := aM hB
 clear hB
 have H : (laws_markFileS.l0 k l0 a1 0) = some (r1, r2) := h
 clear h
 have H' := aM H
 clear H
 go_enter Try.func61, Try.ntmps61
 go_wp2
 go_loopg [1, 5] k (fun kq v1 v5 w' => ∃ (aC : List (S112)) (bW : Int) (aA : Int), v1 = .int .i64 bW ∧ v5 = .int .i64 aA ∧ Aside0 (laws_markFileS.l0 kq aC bW aA = some (r1, r2)) ∧ Aside0 (kq ≤ k) ∧ Aside0 (Kd.R k112 112 w' w0.heap.size (fun k_ => (P0_ k_ ∨ w.heap.size ≤ k_)) u9000_ aC) ∧ Aside0 (Kept w w' (fun k_ => P0_ k_)) ∧ Aside0 (Below w0.heap.size w0 w'))
 case atStart => exact ⟨(l0), (a1), (0), u16_0, u16_0, H', ⟨Nat.le_refl _⟩, ⟨by (with_reducible repeat (first | apply Kd.R_alloc | apply Kd.R_drewN | apply Kd.R_drew)); exact rM.out⟩, ⟨u16_1⟩, ⟨xbel⟩⟩
 case round =>
  clear H'; try clear p2
  obtain ⟨aC, bW, aA, rfl, rfl, HA, HK1, aN, HK, HB⟩ := hrel; cases gk with
  | zero => exact absurd HA.out (by simp [laws_markFileS.l0])
  | succ k1 =>
   have H := HA.out; clear HA; simp only [laws_markFileS.l0] at H; by_cases c3 : aA < (aC.length : Int)
   ·rw [if_pos c3] at H; have bX : decide (aA < (aC.length : Int)) = true := decide_eq_true c3; clear c3; by_cases c4 : 0 ≤ aA
    ·rw [if_pos c4] at H; have dQ : decide (0 ≤ aA) = true := decide_eq_true c4; clear c4; obtain ⟨cD, dY⟩ : ∃ y_ : List (S112), y_ = (aC.set (aA : Int).toNat (⟨bW, (rd_T112 aC aA).f1, (rd_T112 aC aA).f2⟩ : S112)) := ⟨_, rfl⟩; replace H : ((laws_markText.f k1 (wrap64 (bW + 1))).bind fun dK => ((some (cD.set (aA : Int).toNat (⟨(rd_T112 cD aA).f0, dK, (rd_T112 cD aA).f2⟩ : S112) : List (S112))).bind fun bV => ((laws_markText.f k1 (wrap64 ((wrap64 (bW + 1)) + 1))).bind fun dI => (laws_markFileS.l0 k1 (bV.set (aA : Int).toNat (⟨(rd_T112 bV aA).f0, (rd_T112 bV aA).f1, dI⟩ : S112)) (wrap64 ((wrap64 ((wrap64 (bW + 1)) + 1)) + 1)) (wrap64 (aA + 1)))))) = some (r1, r2) := by first | (rw [dY]; with_reducible exact H) | (have H2_ := oS H; rw [dY]; with_reducible exact H2_) | (have H2_ := oS H; with_reducible exact H2_) | with_reducible exact H | (rw [dY]; exact H) | exact H
     have kH := aM dY; clear dY; replace H := oB H; obtain ⟨dK, pY, H⟩ := H; (try dsimp only at H); have A6 := aM pY; clear pY
     obtain ⟨bV, dZ⟩ : ∃ y_ : List (S112), y_ = (cD.set (aA : Int).toNat (⟨(rd_T112 cD aA).f0, dK, (rd_T112 cD aA).f2⟩ : S112)) := ⟨_, rfl⟩; replace H : ((laws_markText.f k1 (wrap64 ((wrap64 (bW + 1)) + 1))).bind fun dI => (laws_markFileS.l0 k1 (bV.set (aA : Int).toNat (⟨(rd_T112 bV aA).f0, (rd_T112 bV aA).f1, dI⟩ : S112)) (wrap64 ((wrap64 ((wrap64 (bW + 1)) + 1)) + 1)) (wrap64 (aA + 1)))) = some (r1, r2) := by first | (rw [dZ]; with_reducible exact H) | (have H2_ := oS H; rw [dZ]; with_reducible exact H2_) | (have H2_ := oS H; with_reducible exact H2_) | with_reducible exact H | (rw [dZ]; exact H) | exact H
     have kI := aM dZ; clear dZ; replace H := oB H; obtain ⟨dI, pZ, H⟩ := H; (try dsimp only at H); have A8 := aM pZ; clear pZ
     obtain ⟨jB, eA⟩ : ∃ y_ : List (S112), y_ = (bV.set (aA : Int).toNat (⟨(rd_T112 bV aA).f0, (rd_T112 bV aA).f1, dI⟩ : S112)) := ⟨_, rfl⟩; replace H : (laws_markFileS.l0 k1 jB (wrap64 ((wrap64 ((wrap64 (bW + 1)) + 1)) + 1)) (wrap64 (aA + 1))) = some (r1, r2) := by first | (rw [eA]; with_reducible exact H) | (have H2_ := oS H; rw [eA]; with_reducible exact H2_) | (have H2_ := oS H; with_reducible exact H2_) | with_reducible exact H | (rw [eA]; exact H) | exact H
     have kJ := aM eA; clear eA; have H' := aM H; clear H; obtain ⟨rN, eV, oX⟩ := Kd.R_slice aN.out; subst oX; have p5 : 0 ≤ (aA : Int) := oda; have q5 : (aA : Int) < ((aC.length : Int) : Int) := oda; obtain ⟨dL, rT, qA, qB, gl5, cl5, HG5⟩ := Kd.R_form aN.out (by omega); (first | cases qA | (injection qA with ea_ en_ ec_; (first | subst ea_ | (injection ea_ with ea_; subst ea_)); subst ec_; clear en_)); have GB5 := aM qB; have GG5 := aM HG5; clear qB gl5 HG5; have HMgo5 := aM (show (P0_ dL ∨ w.heap.size ≤ dL) from (aN.out.1 _ rfl)); obtain ⟨ce5, oY, qC, gJ, gK⟩ := Kd.R_elem aN.out z112 (aA : Int) p5 q5; obtain rfl := k112_openM qC; have qD : wr.cell? ⟨dL, (aA : Int).toNat * 3, none⟩ = some (.int .i64 ((rd_T112 aC aA).f0)) := gJ 0 _ rfl; have qE : wr.cell? ⟨dL, (aA : Int).toNat * 3 + 1, none⟩ = some (.string ((rd_T112 aC aA).f1)) := gJ 1 _ rfl; have qF : wr.cell? ⟨dL, (aA : Int).toNat * 3 + 2, none⟩ = some (.string ((rd_T112 aC aA).f2)) := gJ 2 _ rfl; have qG : wr.frozen? ⟨dL, (aA : Int).toNat * 3, none⟩ = false := gK 0; have qH : wr.frozen? ⟨dL, (aA : Int).toNat * 3 + 1, none⟩ = false := gK 1; have qI : wr.frozen? ⟨dL, (aA : Int).toNat * 3 + 2, none⟩ = false := gK 2; clear oY gJ gK qC; replace p5 := eq_true p5; replace q5 := eq_true q5; have kK := aM (show Kd.R k112 112 wr w0.heap.size (fun k_ => (P0_ k_ ∨ w.heap.size ≤ k_)) (.slice (some ⟨dL, 0, none⟩) aC.length eV) aC from (xr aN)); obtain ⟨ce11, iJ, kL, fR, iK⟩ := Kd.R_elem kK.out z112 (aA : Int) (oda) (by have h_ : (aA : Int) < ((aC.length : Int) : Int) := oda; first | exact h_ | (have e_ := (Kd.R_reads' aN.out).1; omega) | simpa using h_); obtain rfl := k112_openM kL; have jC := Kd.R_seg kK.out (aA : Int) (oda) (by have h_ : (aA : Int) < ((aC.length : Int) : Int) := oda; first | exact h_ | (have e_ := (Kd.R_reads' aN.out).1; omega) | simpa using h_) (seg := [.int .i64 bW]) (j := 0) iJ fR (show 1 ≤ 3 from by decide) (x' := (⟨bW, (rd_T112 aC aA).f1, (rd_T112 aC aA).f2⟩ : S112)) (k112_mkM _ _ _ (⟨bW, (rd_T112 aC aA).f1, (rd_T112 aC aA).f2⟩ : S112) ) (fun _ hk => hk); have jD := fR 0 _ rfl; (try simp only [show (k112).sz = 3 from rfl, Nat.mul_one, Nat.add_zero] at jD); have jE := iK 0; (try simp only [show (k112).sz = 3 from rfl, Nat.mul_one, Nat.add_zero] at jE); clear iJ fR iK kL
     go_wp2_with (first | ((with_reducible refine gate_store (t := 3) (p := 16) rfl ?_); refine store_event (t := 3) (p := 16) (v := ?vo_w12) (w1 := (wr.setCell ⟨dL, (aA : Int).toNat * 3, none⟩ (.int .i64 bW))) ?hg ?ho ?hn ?hr ?_; (case ho | hg | hn => rfl); (case hr => exact u16_2); intro fB hw; have hg : wr.grownBy fB (some dL) := (by rw [hw]; exact jC.2); have hp_ : Kd.R k112 112 fB w0.heap.size (fun k_ => (P0_ k_ ∨ w.heap.size ≤ k_)) (.slice (some ⟨dL, 0, none⟩) aC.length eV) cD := (by rw [hw, kH.out]; exact jC.1); clear jC; replace HB := aM ((by rw [hw]; exact below_set (HB.out) GB5.out : Below w0.heap.size w0 fB)); replace HK := aM (Kept.of_grown (S := (fun k_ => P0_ k_)) hg u16_1 (fun k_ e_ => (aN.out.1 k_ e_))); replace aN := aM (hp_); clear hg hw hp_) | ((with_reducible refine gC 88 rfl ?_); refine goesLY (some 22) rfl Try.func88 #[.int .i64 (wrap64 (bW + 1))] ?_; (with_reducible refine (laws_markText.calls k1 (wrap64 (bW + 1)) dK _ A6.out).mono ?_); rintro e fV ⟨rfl, hb⟩; refine ⟨_, rfl, ?_⟩; replace aN := xrb aN hb; replace HK := aM (Kept.below (S := (fun k_ => P0_ k_)) u16_1 hb); replace HB := xbs hb; (try clear hb); have p7 : 0 ≤ (aA : Int) := oda; have q7 : (aA : Int) < ((aC.length : Int) : Int) := oda; obtain ⟨qJ, qK, qL, qM, qN, qO⟩ := laws_markFileS.e112 aN.out (aA : Int) p7 q7; replace p7 := eq_true p7; replace q7 := eq_true q7; have kM := aM (show Kd.R k112 112 fV w0.heap.size (fun k_ => (P0_ k_ ∨ w.heap.size ≤ k_)) (.slice (some ⟨dL, 0, none⟩) aC.length eV) cD from (xr aN)); obtain ⟨ce14, iL, kN, fS, iM⟩ := Kd.R_elem kM.out z112 (aA : Int) (oda) (by have h_ : (aA : Int) < ((aC.length : Int) : Int) := oda; first | exact h_ | (have e_ := (Kd.R_reads' aN.out).1; omega) | simpa using h_); obtain rfl := k112_openM kN; have jF := Kd.R_seg kM.out (aA : Int) (oda) (by have h_ : (aA : Int) < ((aC.length : Int) : Int) := oda; first | exact h_ | (have e_ := (Kd.R_reads' aN.out).1; omega) | simpa using h_) (seg := [.string dK]) (j := 1) iL fS (show 2 ≤ 3 from by decide) (x' := (⟨(rd_T112 cD aA).f0, dK, (rd_T112 cD aA).f2⟩ : S112)) (k112_mkM _ _ _ (⟨(rd_T112 cD aA).f0, dK, (rd_T112 cD aA).f2⟩ : S112) ) (fun _ hk => hk); have jG := fS 1 _ rfl; (try simp only [show (k112).sz = 3 from rfl, Nat.mul_one, Nat.add_zero] at jG); have jH := iM 1; (try simp only [show (k112).sz = 3 from rfl, Nat.mul_one, Nat.add_zero] at jH); clear iL fS iM kN) | ((with_reducible refine gate_store (t := 9) (p := 24) rfl ?_); refine store_event (t := 9) (p := 24) (v := ?vo_w15) (w1 := (fV.setCell ⟨dL, (aA : Int).toNat * 3 + 1, none⟩ (.string dK))) ?hg ?ho ?hn ?hr ?_; (case ho | hg | hn => rfl); (case hr => exact u16_2); intro oZ hw; have hg : fV.grownBy oZ (some dL) := (by rw [hw]; exact jF.2); have hp_ : Kd.R k112 112 oZ w0.heap.size (fun k_ => (P0_ k_ ∨ w.heap.size ≤ k_)) (.slice (some ⟨dL, 0, none⟩) aC.length eV) bV := (by rw [hw, kI.out]; exact jF.1); clear jF; replace HB := aM ((by rw [hw]; exact below_set (HB.out) GB5.out : Below w0.heap.size w0 oZ)); replace HK := aM (Kept.of_grown (S := (fun k_ => P0_ k_)) hg u16_1 (fun k_ e_ => (aN.out.1 k_ e_))); replace aN := aM (hp_); clear hg hw hp_) | ((with_reducible refine gC 88 rfl ?_); refine goesLY (some 30) rfl Try.func88 #[.int .i64 (wrap64 ((wrap64 (bW + 1)) + 1))] ?_; (with_reducible refine (laws_markText.calls k1 (wrap64 ((wrap64 (bW + 1)) + 1)) dI _ A8.out).mono ?_); rintro e nK ⟨rfl, hb⟩; refine ⟨_, rfl, ?_⟩; replace aN := xrb aN hb; replace HK := aM (Kept.below (S := (fun k_ => P0_ k_)) u16_1 hb); replace HB := xbs hb; (try clear hb); have p9 : 0 ≤ (aA : Int) := oda; have q9 : (aA : Int) < ((aC.length : Int) : Int) := oda; obtain ⟨qP, qQ, qR, qS, qT, qU⟩ := laws_markFileS.e112 aN.out (aA : Int) p9 q9; replace p9 := eq_true p9; replace q9 := eq_true q9; have kO := aM (show Kd.R k112 112 nK w0.heap.size (fun k_ => (P0_ k_ ∨ w.heap.size ≤ k_)) (.slice (some ⟨dL, 0, none⟩) aC.length eV) bV from (xr aN)); obtain ⟨ce17, iO, kP, fT, iP⟩ := Kd.R_elem kO.out z112 (aA : Int) (oda) (by have h_ : (aA : Int) < ((aC.length : Int) : Int) := oda; first | exact h_ | (have e_ := (Kd.R_reads' aN.out).1; omega) | simpa using h_); obtain rfl := k112_openM kP; have jI := Kd.R_seg kO.out (aA : Int) (oda) (by have h_ : (aA : Int) < ((aC.length : Int) : Int) := oda; first | exact h_ | (have e_ := (Kd.R_reads' aN.out).1; omega) | simpa using h_) (seg := [.string dI]) (j := 2) iO fT (show 3 ≤ 3 from by decide) (x' := (⟨(rd_T112 bV aA).f0, (rd_T112 bV aA).f1, dI⟩ : S112)) (k112_mkM _ _ _ (⟨(rd_T112 bV aA).f0, (rd_T112 bV aA).f1, dI⟩ : S112) ) (fun _ hk => hk); have jJ := fT 2 _ rfl; (try simp only [show (k112).sz = 3 from rfl, Nat.mul_one, Nat.add_zero] at jJ); have jK := iP 2; (try simp only [show (k112).sz = 3 from rfl, Nat.mul_one, Nat.add_zero] at jK); clear iO fT iP kP) | ((with_reducible refine gate_store (t := 9) (p := 32) rfl ?_); refine store_event (t := 9) (p := 32) (v := ?vo_w18) (w1 := (nK.setCell ⟨dL, (aA : Int).toNat * 3 + 2, none⟩ (.string dI))) ?hg ?ho ?hn ?hr ?_; (case ho | hg | hn => rfl); (case hr => exact u16_2); intro jL hw; have hg : nK.grownBy jL (some dL) := (by rw [hw]; exact jI.2); have hp_ : Kd.R k112 112 jL w0.heap.size (fun k_ => (P0_ k_ ∨ w.heap.size ≤ k_)) (.slice (some ⟨dL, 0, none⟩) aC.length eV) jB := (by rw [hw, kJ.out]; exact jI.1); clear jI; replace HB := aM ((by rw [hw]; exact below_set (HB.out) GB5.out : Below w0.heap.size w0 jL)); replace HK := aM (Kept.of_grown (S := (fun k_ => P0_ k_)) hg u16_1 (fun k_ e_ => (aN.out.1 k_ e_))); replace aN := aM (hp_); clear hg hw hp_))
     go_roundg k1
     case measure => have := HK1.out; omega
     case rel => exact ⟨(jB), (wrap64 ((wrap64 ((wrap64 (bW + 1)) + 1)) + 1)), (wrap64 (aA + 1)), u16_0, u16_0, H', ⟨by have := HK1.out; omega⟩, ⟨u16_3⟩, ⟨u16_1⟩, ⟨xbel⟩⟩
    ·rw [if_neg c4] at H; exact absurd H (by simp)
   ·rw [if_neg c3] at H; have bX : decide (aA < (aC.length : Int)) = false := decide_eq_false c3; clear c3; simp only [Option.some.injEq, Prod.mk.injEq] at H; obtain ⟨rfl, rfl⟩ := H; obtain ⟨rO, rP, pA⟩ := Kd.R_slice aN.out; subst pA; go_wp2; go_ret
    exact ⟨xerr, u16_3, xbel, u16_1⟩

/-! ### laws_markDisk: function 26 -/
def laws_markDisk.f (k : Nat) (aB : Int) (aS : List (S112)) (a1 : Int) : Option (Int × (List (S112))) := (laws_markFileS.f k aS a1).bind fun eB => (some (eB.1, eB.2))
theorem u16_mq5 {p : Prop} (h : p := by repeat' first | (with_reducible first | exact laws_markFileS.mono _ _ _ | exact LeO.refl _ | exact LeO.none _ | refine LeO.ite ?_ ?_ | refine LeO.bind ?_ (fun _ => ?_)) | exact laws_markFileS.mono _ _ _ | exact LeO.none _ | refine LeO.ite ?_ ?_ | refine LeO.bind ?_ (fun _ => ?_)) : p := h
theorem laws_markDisk.mono : ∀ a0 a1 a2 k, LeO (laws_markDisk.f k a0 a1 a2) (laws_markDisk.f (k + 1) a0 a1 a2) := by
 intro a0 a1 a2 k
 unfold laws_markDisk.f
 exact u16_mq5
set_option maxHeartbeats 8000000 in
set_option maxRecDepth 100000 in
theorem laws_markDisk.calls (k : Nat) (aB : Int) (P0_1_ : Nat → Prop) (u9000_ : Value) (aS : List (S112)) (a1 : Int) (r1 : Int) (r2 : List (S112)) (w0 w : World) (hB : Below w0.heap.size w0 w) (kQ : Kd.R k112 112 w w0.heap.size P0_1_ u9000_ aS) (h : laws_markDisk.f k aB aS a1 = some (r1, r2)) :
 Calls Try.prog 26 #[.agg #[.int .i64 aB, u9000_], .int .i64 a1] w fun e w' => e = .returned (.int .i64 r1) ∧ Kd.R k112 112 w' w0.heap.size (fun k_ => (P0_1_ k_ ∨ w.heap.size ≤ k_)) u9000_ r2 ∧ Below w0.heap.size w0 w' ∧ Kept w w' (fun k_ => P0_1_ k_) := by
 have oW := Try.underlying55
 have cZ := aM (show Kd.R k112 112 w w0.heap.size (fun k_ => (P0_1_ k_ ∨ w.heap.size ≤ k_)) u9000_ aS from Kd.R_mono kQ (fun k_ hk => (.inl hk)))
 have HK := aM (Kept.refl w (fun k_ => P0_1_ k_))
 have HW0 := aM hB.size
 have HB := aM hB
 clear hB
 have H : ((laws_markFileS.f k aS a1).bind fun eB => (some (eB.1, eB.2))) = some (r1, r2) := h
 clear h
 replace H := oB H
 obtain ⟨⟨pB, pC⟩, qV, H⟩ := H
 (try dsimp only at H)
 have A3 := aM qV
 clear qV
 simp only [Option.some.injEq, Prod.mk.injEq] at H
 obtain ⟨rfl, rfl⟩ := H
 obtain ⟨oK, oL, rQ⟩ := Kd.R_slice cZ.out
 subst rQ
 go_enter Try.func26, Try.ntmps26
 go_wp2_with (first | ((with_reducible refine gD 2 rfl ?_); refine boxE (N := 2) rfl (cs := #[.int .i64 aB, .slice oK aS.length oL]) (t := 55) ?_; intro iQ hg w5 hbox hb; replace cZ := xrb cZ hb; have fU := aM (hbox); have jN := aM ((by rw [hg]; exact (by first | exact HK.out.1 | exact (show Kept w _ (fun k_ => P0_1_ k_) from by repeat (first | (with_reducible first | exact HK.out | apply Kept.alloc | apply Kept.drewN | apply Kept.drew) | exact HK.out)).1) : w.heap.size ≤ iQ)); replace HK := aM (Kept.below (S := (fun k_ => P0_1_ k_)) u16_1 hb); have qW := aM ((by rw [hg]; exact (below_size xbel) : w0.heap.size ≤ iQ)); replace HB := xbs hb; clear hb hbox hg; obtain ⟨pD, pE, pF, pG⟩ := xf2 (w := w5) fU) | ((with_reducible refine gC 61 rfl ?_); refine goesLY (some 8) rfl Try.func61 #[.slice oK aS.length oL, .int .i64 a1] ?_; (with_reducible refine (laws_markFileS.calls k (fun k_ => some k_ = (.slice oK aS.length oL : Value).ownBlock) (.slice oK aS.length oL) aS a1 pB pC w0 _ ?side1 ?side2 A3.out).mono ?_); (case side1 => exact xbg); (case side2 => exact Kd.R_tight rfl cZ.out); rintro e w7 ⟨rfl, qX, hb, hkp⟩; refine ⟨_, rfl, ?_⟩; replace fU := aM (blk_kept xblk hkp (fun hs_ => (fun e_ => (Kd.R_ne cZ.out fU.out (by decide)) e_) hs_)); replace HK := aM (Kept.then_ (S := (fun k_ => P0_1_ k_)) u16_4 hkp (fun k_ hs_ => (fun e_ => (cZ.out.1 k_ e_.symm)) hs_)); replace cZ := aM (Kd.R_reok rfl qX (fun k_ e_ => cZ.out.1 k_ e_)); replace HB := aM (hb); (try clear hb); (try clear hkp); (try clear qX)))
 go_ret
 exact ⟨xerr, by (with_reducible repeat (first | apply Kd.R_alloc | apply Kd.R_drewN | apply Kd.R_drew)); exact cZ.out, xbg, u16_4⟩

end Go.Proofs.Ytocpomkfilpflaa.QFnExactHardLoad
