-- A walk, by a program of this session.
import Derived.Test.YtoojdlobnbakoaaQFnExactHardSavex0
import Derived.Test.YtoojdlobnbakoaaQFnExactHardSavex3
namespace Go.Proofs.Ytoojdlobnbakoaa.QFnExactHardSave
open Go.RowKit Go.Proofs.YtoojdlobnbakoaaW.PrintWords Go.Proofs.YtoojdlobnbakoaaW.PrintLast Go.Proofs.YtoojdlobnbakoaaW.PrintMore
attribute [local go_sem] max2_int min2_int max_two min_two max_three min_three max_four min_four   -- for this text's walks alone
set_option linter.unusedVariables false
set_option linter.unusedSimpArgs false

theorem u4_0 {p : Prop} (h : p := by first | rfl | (simp; done) | (simp [*]; done)) : p := h
theorem u4_1 {p : Prop} (h : p := by first | rfl | (simp [errW_none, errW_some] <;> rfl) | (simp [*, errW_none, errW_some] <;> rfl)) : p := h
/-! ### spec_DiskOk: function 132 -/
mutual
def spec_DiskOk.j0 : Nat → Bool → Int → List (S95) → Option (Bool)
 | 0, _, _, _ => none
 | k + 1, fQ, bX, aT => if fQ = true then (some false) else (spec_DiskOk.l0 k 0 bX aT)
def spec_DiskOk.l0 : Nat → Int → Int → List (S95) → Option (Bool)
 | 0, _, _, _ => none
 | k + 1, x3, bX, aT => if x3 < (aT.length : Int) then (if 0 ≤ x3 then ((spec_l3Name.f ((rd_T95 aT x3).f0)).bind fun cR => (if cR = true then (if x3 > 0 then (if 0 ≤ (wrap64 (x3 - 1)) then (if (wrap64 (x3 - 1)) < (aT.length : Int) then (if ((rd_T95 aT (wrap64 (x3 - 1))).f0) ≥ ((rd_T95 aT x3).f0) then (some false) else (spec_DiskOk.l0 k (wrap64 (x3 + 1)) bX aT)) else (none)) else (none)) else (spec_DiskOk.l0 k (wrap64 (x3 + 1)) bX aT)) else (some false))) else (none)) else (some true)
end
def spec_DiskOk.f (k : Nat) (aG : Int) (aA : List (S95)) : Option (Bool) := (spec_l1In.f aG 0 40000).bind fun cJ => (if cJ = true then (if (aA.length : Int) > 8 then (spec_DiskOk.j0 k true aG aA) else ((spec_l3Size.f k aG aA).bind fun cI => (spec_DiskOk.j0 k (decide (cI > aG)) aG aA))) else (spec_DiskOk.j0 k true aG aA))
theorem u4_mq0 {p : Prop} (h : p := by repeat' first | (with_reducible first | exact cS _ _ _ | exact eL _ _ _ | exact spec_l3Size.mono _ _ _ | exact LeO.refl _ | exact LeO.none _ | refine LeO.ite ?_ ?_ | refine LeO.bind ?_ (fun _ => ?_)) | exact cS _ _ _ | exact eL _ _ _ | exact spec_l3Size.mono _ _ _ | exact LeO.none _ | refine LeO.ite ?_ ?_ | refine LeO.bind ?_ (fun _ => ?_)) : p := h
set_option maxRecDepth 100000 in
theorem spec_DiskOk.mono_l : ∀ k, (∀ y0 y1 y2, LeO (spec_DiskOk.j0 k y0 y1 y2) (spec_DiskOk.j0 (k + 1) y0 y1 y2)) ∧ (∀ y0 y1 y2, LeO (spec_DiskOk.l0 k y0 y1 y2) (spec_DiskOk.l0 (k + 1) y0 y1 y2))
 | 0 => ⟨fun _ _ _ r h => by simp [spec_DiskOk.j0] at h, fun _ _ _ r h => by simp [spec_DiskOk.l0] at h⟩
 | k + 1 => by
  obtain ⟨cS, eL⟩ := spec_DiskOk.mono_l k; refine ⟨?_, ?_⟩
  ·intro y0 y1 y2; unfold spec_DiskOk.j0; exact u4_mq0
  ·intro y0 y1 y2; unfold spec_DiskOk.l0; exact u4_mq0
theorem spec_DiskOk.mono : ∀ a0 a1 k, LeO (spec_DiskOk.f k a0 a1) (spec_DiskOk.f (k + 1) a0 a1) := by
 intro a0 a1 k
 obtain ⟨cS, eL⟩ := spec_DiskOk.mono_l k
 unfold spec_DiskOk.f
 exact u4_mq0
def spec_DiskOk.T1 : Bool × List (List Nat × List Nat) := (true, [([], []), ([0], [0]), ([1], [1]), ([2], [2]), ([3, 2], [3]), ([4], [4]), ([5, 4], [4, 5]), ([6, 4], [4, 6]), ([7, 4], [4, 7]), ([4, 8], [4, 8]), ([9, 4], [9]), ([10], [10]), ([11, 10, 10], [10, 11]), ([10], [10]), ([13, 10], [10, 13]), ([12, 14, 10], [10, 12, 14]), ([10, 15], [10, 15])])
def spec_DiskOk.B1 : List Nat := [0, 1, 3, 7, 15, 31, 63, 127, 255, 511, 1023, 2047, 4095, 2047, 10239, 32767, 65535]
theorem spec_DiskOk.tab1 : rtab .any (opsOf Try.f132 1) = spec_DiskOk.T1 := by kernel_rfl
theorem spec_DiskOk.bits1 : waitsOk spec_DiskOk.T1.2 spec_DiskOk.B1 = true := by kernel_rfl
def spec_DiskOk.T6 : Bool × List (List Nat × List Nat) := (true, [([], []), ([0], [0]), ([], []), ([1, 2], [1, 2]), ([3], [3]), ([4], [4]), ([5], [5]), ([6], [6]), ([7, 6], [7]), ([8], [8]), ([9, 8], [8, 9]), ([10, 8, 8], [8, 10]), ([11], [11]), ([12, 11], [11, 12]), ([11], [11]), ([14, 11], [11, 14]), ([13, 15, 11], [11, 13, 15]), ([16, 11], [11, 16]), ([17, 11], [11, 17]), ([11], [11]), ([19, 11], [11, 19]), ([11], [11]), ([20, 21, 11], [11, 20, 21]), ([22, 11], [11, 22]), ([23, 11], [11, 23]), ([18, 24, 11], [11, 18, 24]), ([11, 25, 8], [8, 11, 25]), ([8, 26], [8, 26])])
def spec_DiskOk.B6 : List Nat := [0, 1, 0, 7, 15, 31, 63, 127, 255, 511, 1023, 2047, 4095, 8191, 4095, 20479, 65535, 131071, 262143, 4095, 528383, 4095, 3674111, 7868415, 16257023, 33554431, 67108863, 134217727]
theorem spec_DiskOk.tab6 : rtab .any (opsOf Try.f132 6) = spec_DiskOk.T6 := by kernel_rfl
theorem spec_DiskOk.bits6 : waitsOk spec_DiskOk.T6.2 spec_DiskOk.B6 = true := by kernel_rfl
set_option maxHeartbeats 8000000 in
set_option maxRecDepth 100000 in
theorem spec_DiskOk.calls (k : Nat) (aG : Int) (bG : Option Addr) (bC : Nat) (aA : List (S95)) (r : Bool) (w : World) (bU : Kd.C k95 w bG aA.length aA) (bV : aA.length ≤ bC) (h : spec_DiskOk.f k aG aA = some r) :
 Calls Try.prog 132 #[.agg #[.int .i64 aG, .slice bG aA.length bC]] w fun e w' => e = .returned (.bool r) ∧ Below w.heap.size w w' := by
 have cZ := Try.underlying26
 have bB := aM bU
 have cK := aM bV
 clear bU bV
 have HB := aM (Below.refl w.heap.size w)
 have H : ((spec_l1In.f aG 0 40000).bind fun cJ => (if cJ = true then (if (aA.length : Int) > 8 then (spec_DiskOk.j0 k true aG aA) else ((spec_l3Size.f k aG aA).bind fun cI => (spec_DiskOk.j0 k (decide (cI > aG)) aG aA))) else (spec_DiskOk.j0 k true aG aA))) = some r := h
 clear h
 have eM := aM H
 clear H
 go_enter Try.func132, Try.ntmps132
 go_upto_region 1 with (first | ((with_reducible refine gD 1 rfl ?_); (try (refine gate_guard (by rfl) ?_; dsimp only)); refine boxE (N := 1) rfl (cs := #[.int .i64 aG, .slice bG aA.length bC]) (t := 26) ?_; intro bI hg w3 hbox hb; have aD := aM (hbox); have fB := aM (xge hg); have fC := aM (xge hg); replace HB := xbs hb; clear hb hbox hg))
 (try simp only [Act.put, List.setIfInBounds_toArray, List.set_cons_zero, List.set_cons_succ])
 go_cut [20] (fun fR wc => ∃ (kq : Nat) (cF : Bool), fR = .bool cF ∧ Aside0 (spec_DiskOk.j0 kq cF aG aA = some r) ∧ Aside0 (kq ≤ k) ∧ Aside0 (wc.heap[bI]? = some (.cells #[.int .i64 aG, (.slice bG aA.length bC)] 26 (0, 0))) ∧ Aside0 (Below w.heap.size w wc))
 case first =>
  have H := eM.out; clear eM; replace H := oB H; obtain ⟨cJ, fD, H⟩ := H; (try dsimp only at H); have A4 := aM fD; clear fD
  by_cases c5 : cJ = true
  ·subst c5; replace H := iT H; by_cases c6 : (aA.length : Int) > 8
   ·rw [if_pos c6] at H; have cA : decide (8 < (aA.length : Int)) = true := decide_eq_true c6; have cL : decide (8 < aA.length) = true := decide_eq_true (by omega); clear c6; (first | rw [cA] | (simp only [i64_w, i32_w]; rw [cA]) | skip); have H' := aM H; clear H; try go_wp2
    replace aD := bD aD; replace HB := lD HB; refine sb2 17 spec_DiskOk.tab1 spec_DiskOk.bits1 aD (fun hHeld HT_ HW_ => ?_); generalize w3.drew = w7 at aD HB hHeld ⊢; refine pv_ 0 4 (h := ?_); refine tk_ 1 5 (h := ?_); refine on_ 2 6 (h := fun K hK => ?_); refine goesY Try.func92 #[.int .i64 aG, .int .i64 0, .int .i64 40000] ?_; with_reducible refine (spec_l1In.calls aG 0 40000 true _ A4.out).mono ?_
    rintro e w' ⟨rfl, ⟨nd, rfl⟩⟩; refine ⟨_, rfl, ?_⟩; refine hK.out _ _ ⟨xc aD 0 rfl, xc aD 1 rfl⟩ (fun hHeld => ?_); clear hK K; refine nm_ (N := 6) ?_; refine pv_ 3 7 (h := ?_); refine pv_ 4 8 (h := ?_); refine pv_ 5 9 (h := ?_); refine tk_ 6 10 (h := ?_); refine pv_ 7 11 (h := ?_); refine pv_ 8 12 (h := ?_); refine pv_ 9 13 (h := ?_); refine pv_ 10 14 (h := ?_); refine pu_ 11 15 (h := ?_); refine pu_ 12 16 (h := ?_); refine pu_ 13 17 (h := ?_); refine pu_ 14 18 (h := ?_); refine pu_ 15 19 (h := ?_); refine pv_ 16 20 (h := ?_); refine dn_ ?_; try go_wp2
    go_meet
    case rel => exact ⟨_, (true), u4_0, H', ⟨by first | omega | exact Nat.le_refl _⟩, ⟨xblk⟩, ⟨xbg⟩⟩
   ·rw [if_neg c6] at H; have cA : decide (8 < (aA.length : Int)) = false := decide_eq_false c6; have cL : decide (8 < aA.length) = false := decide_eq_false (by omega); clear c6; (first | rw [cA] | (simp only [i64_w, i32_w]; rw [cA]) | skip); replace H := oB H; obtain ⟨cI, fE, H⟩ := H; (try dsimp only at H); have A8 := aM fE; clear fE
    have H' := aM H; clear H; try go_wp2
    replace aD := bD aD; replace HB := lD HB; refine sb2 17 spec_DiskOk.tab1 spec_DiskOk.bits1 aD (fun hHeld HT_ HW_ => ?_); generalize w3.drew = w9 at aD HB hHeld ⊢; refine pv_ 0 4 (h := ?_); refine tk_ 1 5 (h := ?_); refine on_ 2 6 (h := fun K hK => ?_); refine goesY Try.func92 #[.int .i64 aG, .int .i64 0, .int .i64 40000] ?_; with_reducible refine (spec_l1In.calls aG 0 40000 true _ A4.out).mono ?_
    rintro e w' ⟨rfl, ⟨nd, rfl⟩⟩; refine ⟨_, rfl, ?_⟩; refine hK.out _ _ ⟨xc aD 0 rfl, xc aD 1 rfl⟩ (fun hHeld => ?_); clear hK K; refine nm_ (N := 6) ?_; refine pv_ 3 7 (h := ?_); refine pv_ 4 8 (h := ?_); refine pv_ 5 9 (h := ?_); refine tk_ 6 10 (h := ?_); refine pv_ 7 11 (h := ?_); refine pv_ 8 12 (h := ?_); refine pv_ 9 13 (h := ?_); refine pv_ 10 14 (h := ?_); refine pv_ 13 17 (h := ?_); refine tk_ 11 15 (h := ?_); refine tk_ 14 18 (h := ?_); refine on_ 12 16 (h := fun K hK => ?_); refine goesY Try.func174 #[.agg #[.int .i64 aG, .slice bG aA.length bC]] ?_; with_reducible refine (spec_l3Size.calls k aG _ _ aA cI _ ?side1 ?side2 A8.out).mono ?_
    (case side1 => repeat (first | exact (Kd.C_below bB.out xbg) | (with_reducible refine Kd.C_alloc ?_ _) | (with_reducible refine Kd.C_drewN ?_ _) | (with_reducible refine Kd.C_drew ?_))); (case side2 => exact cK.out); rintro e fW ⟨rfl, hb⟩; refine ⟨_, rfl, ?_⟩; replace aD := xbb aD hb; replace HB := xbs hb; (try clear hb); refine hK.out _ _ ⟨xc aD 0 rfl, xc aD 1 rfl⟩ (fun hHeld => ?_); clear hK K; refine nm_ (N := 16) ?_; refine pv_ 15 19 (h := ?_); refine pv_ 16 20 (h := ?_); refine dn_ ?_; try go_wp2
    go_meet
    case rel => exact ⟨_, (decide (cI > aG)), u4_0, H', ⟨by first | omega | exact Nat.le_refl _⟩, ⟨xblk⟩, ⟨xbg⟩⟩
  ·replace c5 := Bool.eq_false_iff.mpr c5; subst c5; replace H := iN H; have H' := aM H; clear H; try go_wp2
   replace aD := bD aD; replace HB := lD HB; refine sb2 17 spec_DiskOk.tab1 spec_DiskOk.bits1 aD (fun hHeld HT_ HW_ => ?_); generalize w3.drew = fX at aD HB hHeld ⊢; refine pv_ 0 4 (h := ?_); refine tk_ 1 5 (h := ?_); refine on_ 2 6 (h := fun K hK => ?_); refine goesY Try.func92 #[.int .i64 aG, .int .i64 0, .int .i64 40000] ?_; with_reducible refine (spec_l1In.calls aG 0 40000 false _ A4.out).mono ?_
   rintro e w' ⟨rfl, ⟨nd, rfl⟩⟩; refine ⟨_, rfl, ?_⟩; refine hK.out _ _ ⟨xc aD 0 rfl, xc aD 1 rfl⟩ (fun hHeld => ?_); clear hK K; refine nm_ (N := 6) ?_; refine pv_ 3 7 (h := ?_); refine pv_ 4 8 (h := ?_); refine pu_ 5 9 (h := ?_); refine pu_ 6 10 (h := ?_); refine pu_ 7 11 (h := ?_); refine pu_ 8 12 (h := ?_); refine pv_ 9 13 (h := ?_); refine pv_ 10 14 (h := ?_); refine pu_ 11 15 (h := ?_); refine pu_ 12 16 (h := ?_); refine pu_ 13 17 (h := ?_); refine pu_ 14 18 (h := ?_); refine pu_ 15 19 (h := ?_); refine pv_ 16 20 (h := ?_); refine dn_ ?_; try go_wp2
   go_meet
   case rel => exact ⟨_, (true), u4_0, H', ⟨by first | omega | exact Nat.le_refl _⟩, ⟨xblk⟩, ⟨xbg⟩⟩
 case rest =>
  clear eM; try clear c1
  try clear p2
  try clear c5
  try clear c6
  try clear cA
  try clear cL
  try clear c9
  obtain ⟨kq, cF, rfl, HA, HJ1, aD, HB⟩ := hcut; cases kq with
  | zero => exact absurd HA.out (by simp [spec_DiskOk.j0])
  | succ fF =>
   have H := HA.out; clear HA; simp only [spec_DiskOk.j0] at H; by_cases dA : cF = true
   ·subst dA; replace H := iT H; obtain rfl := Option.some.inj H; go_wp2; go_ret
    exact ⟨u4_1, xbg⟩
   ·replace dA := Bool.eq_false_iff.mpr dA; subst dA; replace H := iN H; have H' := aM H; clear H; go_wp2; go_loopg [3] fF (fun kq v3 w' => ∃ (aC : Int), v3 = .int .i64 aC ∧ Aside0 (spec_DiskOk.l0 kq aC aG aA = some r) ∧ Aside0 (kq ≤ fF) ∧ Aside0 (w'.heap[bI]? = some (.cells #[.int .i64 aG, (.slice bG aA.length bC)] 26 (0, 0))) ∧ Aside0 (Below w.heap.size w w'))
    case atStart => exact ⟨(0), u4_0, H', ⟨Nat.le_refl _⟩, ⟨xblk⟩, ⟨xbg⟩⟩
    case round =>
     clear H'; try clear c1
     try clear p2
     try clear c5
     try clear c6
     try clear cA
     try clear cL
     try clear c9
     try clear dA
     try clear p2
     obtain ⟨aC, rfl, HA, HK2, aD, HB⟩ := hrel; cases gk with
     | zero => exact absurd HA.out (by simp [spec_DiskOk.l0])
     | succ k2 =>
      have H := HA.out; clear HA; simp only [spec_DiskOk.l0] at H; by_cases cW : aC < (aA.length : Int)
      ·rw [if_pos cW] at H; have dB : decide (aC < (aA.length : Int)) = true := decide_eq_true cW; clear cW; by_cases dM : 0 ≤ aC
       ·rw [if_pos dM] at H; have fG : decide (0 ≤ aC) = true := decide_eq_true dM; clear dM; replace H := oB H; obtain ⟨cR, dC, H⟩ := H; (try dsimp only at H); have dD := aM dC; clear dC
        by_cases dN : cR = true
        ·subst dN; replace H := iT H; by_cases cX : aC > 0
         ·rw [if_pos cX] at H; have dE : decide (0 < aC) = true := decide_eq_true cX; clear cX; obtain ⟨ji18, hji18⟩ : ∃ j_ : Int, (wrap64 (aC - 1)) = j_ := ⟨_, rfl⟩; replace H : (if 0 ≤ (ji18) then (if (ji18) < (aA.length : Int) then (if ((rd_T95 aA (ji18)).f0) ≥ ((rd_T95 aA aC).f0) then (some false) else (spec_DiskOk.l0 k2 (wrap64 (aC + 1)) aG aA)) else (none)) else (none)) = some r := by first | (rw [hji18] at H; exact H) | (simp only [hji18] at H ⊢; exact H)
          (try rw [hji18] at dD); have hji18w : (IntKind.i64.wrap (aC - 1)) = ji18 := (i64_w _).trans hji18; by_cases dO : 0 ≤ (ji18)
          ·rw [if_pos dO] at H; have fH : decide (0 ≤ (ji18)) = true := decide_eq_true dO; clear dO; by_cases dP : (ji18) < (aA.length : Int)
           ·rw [if_pos dP] at H; have fI : decide ((ji18) < (aA.length : Int)) = true := decide_eq_true dP; clear dP; by_cases cY : ((rd_T95 aA (ji18)).f0) ≥ ((rd_T95 aA aC).f0)
            ·rw [if_pos cY] at H; have dF : decide (((rd_T95 aA aC).f0) ≤ ((rd_T95 aA (ji18)).f0)) = true := decide_eq_true cY; clear cY; obtain rfl := Option.some.inj H; obtain ⟨dQ, dR, dS, dU⟩ := xf2 (w := wr) aD; try go_wp2
             replace aD := bD aD; replace HB := lD HB; have p120 : 0 ≤ (aC : Int) := oda; have q120 : aC < (aA.length : Int) := oda; obtain ⟨aE, cE, aH, aI, aJ⟩ := at_T95 bB.out aC p120 q120; have aK := aJ; have aN := aI; have aP := aH; cases cE
             replace aH := xce HB aH; replace aI := xce HB aI; replace aJ := xce HB aJ; replace p120 := eq_true p120; replace q120 := eq_true q120; have p122 : 0 ≤ ((ji18) : Int) := oda; have q122 : (ji18) < (aA.length : Int) := oda; obtain ⟨cM, cT, aU, aV, aW⟩ := at_T95 bB.out (ji18) p122 q122; have bJ := aW; have bK := aV; have bL := aU; obtain rfl : aE = cM := (by injection cT); replace aU := xce HB aU; replace aV := xce HB aV; replace aW := xce HB aW; replace p122 := eq_true p122; replace q122 := eq_true q122; have p123 : 0 ≤ (aC : Int) := oda; have q123 : aC < (aA.length : Int) := oda; obtain ⟨cN, cU, aX, aY, aZ⟩ := at_T95 bB.out aC p123 q123; have bM := aZ; have bN := aY; have bO := aX; obtain rfl : aE = cN := (by injection cU); replace aX := xce HB aX; replace aY := xce HB aY; replace aZ := xce HB aZ; replace p123 := eq_true p123; replace q123 := eq_true q123; refine st_ 28 (fun w' => w'.cell? ⟨bI, 0, none⟩ = some (.int .i64 aG) ∧ w'.cell? ⟨bI, 1, none⟩ = some (.slice (some aE) aA.length bC) ∧ w'.cell? (aE.add ((aC).toNat * 3)) = some (.int .i64 ((rd_T95 aA aC).f0)) ∧ w'.cell? ⟨(aE.add ((aC).toNat * 3)).block, (aE.add ((aC).toNat * 3)).off + 1, none⟩ = some (.string ((rd_T95 aA aC).f1)) ∧ w'.cell? ⟨(aE.add ((aC).toNat * 3)).block, (aE.add ((aC).toNat * 3)).off + 2, none⟩ = some (.string ((rd_T95 aA aC).f2)) ∧ w'.cell? (aE.add (((ji18)).toNat * 3)) = some (.int .i64 ((rd_T95 aA (ji18)).f0)) ∧ w'.cell? ⟨(aE.add (((ji18)).toNat * 3)).block, (aE.add (((ji18)).toNat * 3)).off + 1, none⟩ = some (.string ((rd_T95 aA (ji18)).f1)) ∧ w'.cell? ⟨(aE.add (((ji18)).toNat * 3)).block, (aE.add (((ji18)).toNat * 3)).off + 2, none⟩ = some (.string ((rd_T95 aA (ji18)).f2)) ∧ w'.cell? (aE.add ((aC).toNat * 3)) = some (.int .i64 ((rd_T95 aA aC).f0)) ∧ w'.cell? ⟨(aE.add ((aC).toNat * 3)).block, (aE.add ((aC).toNat * 3)).off + 1, none⟩ = some (.string ((rd_T95 aA aC).f1)) ∧ w'.cell? ⟨(aE.add ((aC).toNat * 3)).block, (aE.add ((aC).toNat * 3)).off + 2, none⟩ = some (.string ((rd_T95 aA aC).f2))) spec_DiskOk.tab6 spec_DiskOk.bits6 ⟨xc aD 0 rfl, xc aD 1 rfl, (xce HB aP), (xce HB aN), (xce HB aK), (xce HB bL), (xce HB bK), (xce HB bJ), (xce HB bO), (xce HB bN), (xce HB bM)⟩ (fun hHeld HT_ HW_ => ?_); generalize wr.drew = fY at aD HB aH aI aJ aU aV aW aX aY aZ hHeld ⊢; refine pv_ 0 28 (h := ?_); refine pv_ 2 30 (h := ?_); refine tk_ 1 29 (h := ?_); refine pv_ 3 31 (h := ?_); refine pv_ 4 32 (h := ?_); refine tk_ 5 33 (h := ?_); refine on_ 6 34 (h := fun K hK => ?_); refine goesY Try.func133 #[.int .i64 ((rd_T95 aA aC).f0)] ?_; with_reducible refine (spec_l3Name.calls ((rd_T95 aA aC).f0) true _ dD.out).mono ?_
             rintro e w' ⟨rfl, ⟨nd, rfl⟩⟩; refine ⟨_, rfl, ?_⟩; refine hK.out _ _ ⟨xc aD 0 rfl, xc aD 1 rfl, (xce HB aP), (xce HB aN), (xce HB aK), (xce HB bL), (xce HB bK), (xce HB bJ), (xce HB bO), (xce HB bN), (xce HB bM)⟩ (fun hHeld => ?_); clear hK K; refine nm_ (N := 34) ?_; refine pv_ 7 35 (h := ?_); refine pv_ 8 36 (h := ?_); refine pv_ 9 37 (h := ?_); refine pv_ 10 38 (h := ?_); refine pv_ 11 39 (h := ?_); refine pv_ 12 40 (h := ?_); refine pv_ 14 42 (h := ?_); refine pv_ 15 43 (h := ?_); refine pv_ 19 47 (h := ?_); refine pv_ 21 49 (h := ?_); refine tk_ 13 41 (h := ?_); refine pv_ 16 44 (h := ?_); refine pv_ 17 45 (h := ?_); refine tk_ 18 46 (h := ?_); refine tk_ 20 48 (h := ?_); refine pv_ 22 50 (h := ?_); refine pv_ 23 51 (h := ?_); refine tk_ 24 52 (h := ?_); refine pv_ 25 53 (h := ?_); refine pv_ 26 54 (h := ?_); refine pv_ 27 55 (h := ?_); refine dn_ ?_; try go_wp2
             go_ret
             exact ⟨by first | rfl | (simp [errW_none, errW_some] <;> rfl) | (simp only [← hji18]; first | rfl | (simp [errW_none, errW_some] <;> rfl)) | (simp [*, errW_none, errW_some] <;> rfl), xbg⟩
            ·rw [if_neg cY] at H; have dF : decide (((rd_T95 aA aC).f0) ≤ ((rd_T95 aA (ji18)).f0)) = false := decide_eq_false cY; clear cY; have H' := aM H; clear H; obtain ⟨dV, dW, dX, dY⟩ := xf2 (w := wr) aD; try go_wp2
             replace aD := bD aD; replace HB := lD HB; have p120 : 0 ≤ (aC : Int) := oda; have q120 : aC < (aA.length : Int) := oda; obtain ⟨aE, cE, aH, aI, aJ⟩ := at_T95 bB.out aC p120 q120; have aK := aJ; have aN := aI; have aP := aH; cases cE
             replace aH := xce HB aH; replace aI := xce HB aI; replace aJ := xce HB aJ; replace p120 := eq_true p120; replace q120 := eq_true q120; have p122 : 0 ≤ ((ji18) : Int) := oda; have q122 : (ji18) < (aA.length : Int) := oda; obtain ⟨cM, cT, aU, aV, aW⟩ := at_T95 bB.out (ji18) p122 q122; have bJ := aW; have bK := aV; have bL := aU; obtain rfl : aE = cM := (by injection cT); replace aU := xce HB aU; replace aV := xce HB aV; replace aW := xce HB aW; replace p122 := eq_true p122; replace q122 := eq_true q122; have p123 : 0 ≤ (aC : Int) := oda; have q123 : aC < (aA.length : Int) := oda; obtain ⟨cN, cU, aX, aY, aZ⟩ := at_T95 bB.out aC p123 q123; have bM := aZ; have bN := aY; have bO := aX; obtain rfl : aE = cN := (by injection cU); replace aX := xce HB aX; replace aY := xce HB aY; replace aZ := xce HB aZ; replace p123 := eq_true p123; replace q123 := eq_true q123; refine st_ 28 (fun w' => w'.cell? ⟨bI, 0, none⟩ = some (.int .i64 aG) ∧ w'.cell? ⟨bI, 1, none⟩ = some (.slice (some aE) aA.length bC) ∧ w'.cell? (aE.add ((aC).toNat * 3)) = some (.int .i64 ((rd_T95 aA aC).f0)) ∧ w'.cell? ⟨(aE.add ((aC).toNat * 3)).block, (aE.add ((aC).toNat * 3)).off + 1, none⟩ = some (.string ((rd_T95 aA aC).f1)) ∧ w'.cell? ⟨(aE.add ((aC).toNat * 3)).block, (aE.add ((aC).toNat * 3)).off + 2, none⟩ = some (.string ((rd_T95 aA aC).f2)) ∧ w'.cell? (aE.add (((ji18)).toNat * 3)) = some (.int .i64 ((rd_T95 aA (ji18)).f0)) ∧ w'.cell? ⟨(aE.add (((ji18)).toNat * 3)).block, (aE.add (((ji18)).toNat * 3)).off + 1, none⟩ = some (.string ((rd_T95 aA (ji18)).f1)) ∧ w'.cell? ⟨(aE.add (((ji18)).toNat * 3)).block, (aE.add (((ji18)).toNat * 3)).off + 2, none⟩ = some (.string ((rd_T95 aA (ji18)).f2)) ∧ w'.cell? (aE.add ((aC).toNat * 3)) = some (.int .i64 ((rd_T95 aA aC).f0)) ∧ w'.cell? ⟨(aE.add ((aC).toNat * 3)).block, (aE.add ((aC).toNat * 3)).off + 1, none⟩ = some (.string ((rd_T95 aA aC).f1)) ∧ w'.cell? ⟨(aE.add ((aC).toNat * 3)).block, (aE.add ((aC).toNat * 3)).off + 2, none⟩ = some (.string ((rd_T95 aA aC).f2))) spec_DiskOk.tab6 spec_DiskOk.bits6 ⟨xc aD 0 rfl, xc aD 1 rfl, (xce HB aP), (xce HB aN), (xce HB aK), (xce HB bL), (xce HB bK), (xce HB bJ), (xce HB bO), (xce HB bN), (xce HB bM)⟩ (fun hHeld HT_ HW_ => ?_); generalize wr.drew = fZ at aD HB aH aI aJ aU aV aW aX aY aZ hHeld ⊢; refine pv_ 0 28 (h := ?_); refine pv_ 2 30 (h := ?_); refine tk_ 1 29 (h := ?_); refine pv_ 3 31 (h := ?_); refine pv_ 4 32 (h := ?_); refine tk_ 5 33 (h := ?_); refine on_ 6 34 (h := fun K hK => ?_); refine goesY Try.func133 #[.int .i64 ((rd_T95 aA aC).f0)] ?_; with_reducible refine (spec_l3Name.calls ((rd_T95 aA aC).f0) true _ dD.out).mono ?_
             rintro e w' ⟨rfl, ⟨nd, rfl⟩⟩; refine ⟨_, rfl, ?_⟩; refine hK.out _ _ ⟨xc aD 0 rfl, xc aD 1 rfl, (xce HB aP), (xce HB aN), (xce HB aK), (xce HB bL), (xce HB bK), (xce HB bJ), (xce HB bO), (xce HB bN), (xce HB bM)⟩ (fun hHeld => ?_); clear hK K; refine nm_ (N := 34) ?_; refine pv_ 7 35 (h := ?_); refine pv_ 8 36 (h := ?_); refine pv_ 9 37 (h := ?_); refine pv_ 10 38 (h := ?_); refine pv_ 11 39 (h := ?_); refine pv_ 12 40 (h := ?_); refine pv_ 14 42 (h := ?_); refine pv_ 15 43 (h := ?_); refine pv_ 19 47 (h := ?_); refine pv_ 21 49 (h := ?_); refine tk_ 13 41 (h := ?_); refine pv_ 16 44 (h := ?_); refine pv_ 17 45 (h := ?_); refine tk_ 18 46 (h := ?_); refine tk_ 20 48 (h := ?_); refine pv_ 22 50 (h := ?_); refine pv_ 23 51 (h := ?_); refine tk_ 24 52 (h := ?_); refine pv_ 25 53 (h := ?_); refine pv_ 26 54 (h := ?_); refine pv_ 27 55 (h := ?_); refine dn_ ?_; try go_wp2
             go_roundg k2
             case measure => have := HJ1.out; have := HK2.out; omega
             case rel => exact ⟨(wrap64 (aC + 1)), u4_0, H', ⟨by have := HJ1.out; have := HK2.out; omega⟩, ⟨xblk⟩, ⟨xbg⟩⟩
           ·rw [if_neg dP] at H; exact absurd H (by simp)
          ·rw [if_neg dO] at H; exact absurd H (by simp)
         ·rw [if_neg cX] at H; have dE : decide (0 < aC) = false := decide_eq_false cX; clear cX; have H' := aM H; clear H; obtain ⟨dZ, eA, eB, eC⟩ := xf2 (w := wr) aD; try go_wp2
          replace aD := bD aD; replace HB := lD HB; have p120 : 0 ≤ (aC : Int) := oda; have q120 : aC < (aA.length : Int) := oda; obtain ⟨aE, cE, aH, aI, aJ⟩ := at_T95 bB.out aC p120 q120; have aK := aJ; have aN := aI; have aP := aH; cases cE
          replace aH := xce HB aH; replace aI := xce HB aI; replace aJ := xce HB aJ; replace p120 := eq_true p120; replace q120 := eq_true q120; refine st_ 28 (fun w' => w'.cell? ⟨bI, 0, none⟩ = some (.int .i64 aG) ∧ w'.cell? ⟨bI, 1, none⟩ = some (.slice (some aE) aA.length bC) ∧ w'.cell? (aE.add ((aC).toNat * 3)) = some (.int .i64 ((rd_T95 aA aC).f0)) ∧ w'.cell? ⟨(aE.add ((aC).toNat * 3)).block, (aE.add ((aC).toNat * 3)).off + 1, none⟩ = some (.string ((rd_T95 aA aC).f1)) ∧ w'.cell? ⟨(aE.add ((aC).toNat * 3)).block, (aE.add ((aC).toNat * 3)).off + 2, none⟩ = some (.string ((rd_T95 aA aC).f2))) spec_DiskOk.tab6 spec_DiskOk.bits6 ⟨xc aD 0 rfl, xc aD 1 rfl, (xce HB aP), (xce HB aN), (xce HB aK)⟩ (fun hHeld HT_ HW_ => ?_); generalize wr.drew = gA at aD HB aH aI aJ hHeld ⊢; refine pv_ 0 28 (h := ?_); refine pv_ 2 30 (h := ?_); refine tk_ 1 29 (h := ?_); refine pv_ 3 31 (h := ?_); refine pv_ 4 32 (h := ?_); refine tk_ 5 33 (h := ?_); refine on_ 6 34 (h := fun K hK => ?_); refine goesY Try.func133 #[.int .i64 ((rd_T95 aA aC).f0)] ?_; with_reducible refine (spec_l3Name.calls ((rd_T95 aA aC).f0) true _ dD.out).mono ?_
          rintro e w' ⟨rfl, ⟨nd, rfl⟩⟩; refine ⟨_, rfl, ?_⟩; refine hK.out _ _ ⟨xc aD 0 rfl, xc aD 1 rfl, (xce HB aP), (xce HB aN), (xce HB aK)⟩ (fun hHeld => ?_); clear hK K; refine nm_ (N := 34) ?_; refine pv_ 7 35 (h := ?_); refine pv_ 8 36 (h := ?_); refine pv_ 9 37 (h := ?_); refine pv_ 10 38 (h := ?_); refine pv_ 11 39 (h := ?_); refine pu_ 12 40 (h := ?_); refine pu_ 13 41 (h := ?_); refine pu_ 14 42 (h := ?_); refine pu_ 15 43 (h := ?_); refine pu_ 16 44 (h := ?_); refine pu_ 17 45 (h := ?_); refine pu_ 18 46 (h := ?_); refine pu_ 19 47 (h := ?_); refine pu_ 20 48 (h := ?_); refine pu_ 21 49 (h := ?_); refine pu_ 22 50 (h := ?_); refine pu_ 23 51 (h := ?_); refine pu_ 24 52 (h := ?_); refine pu_ 25 53 (h := ?_); refine pv_ 26 54 (h := ?_); refine pv_ 27 55 (h := ?_); refine dn_ ?_; try go_wp2
          go_roundg k2
          case measure => have := HJ1.out; have := HK2.out; omega
          case rel => exact ⟨(wrap64 (aC + 1)), u4_0, H', ⟨by have := HJ1.out; have := HK2.out; omega⟩, ⟨xblk⟩, ⟨xbg⟩⟩
        ·replace dN := Bool.eq_false_iff.mpr dN; subst dN; replace H := iN H; obtain rfl := Option.some.inj H; obtain ⟨eD, eE, eF, eG⟩ := xf2 (w := wr) aD; try go_wp2
         replace aD := bD aD; replace HB := lD HB; have p120 : 0 ≤ (aC : Int) := oda; have q120 : aC < (aA.length : Int) := oda; obtain ⟨aE, cE, aH, aI, aJ⟩ := at_T95 bB.out aC p120 q120; have aK := aJ; have aN := aI; have aP := aH; cases cE
         replace aH := xce HB aH; replace aI := xce HB aI; replace aJ := xce HB aJ; replace p120 := eq_true p120; replace q120 := eq_true q120; refine st_ 28 (fun w' => w'.cell? ⟨bI, 0, none⟩ = some (.int .i64 aG) ∧ w'.cell? ⟨bI, 1, none⟩ = some (.slice (some aE) aA.length bC) ∧ w'.cell? (aE.add ((aC).toNat * 3)) = some (.int .i64 ((rd_T95 aA aC).f0)) ∧ w'.cell? ⟨(aE.add ((aC).toNat * 3)).block, (aE.add ((aC).toNat * 3)).off + 1, none⟩ = some (.string ((rd_T95 aA aC).f1)) ∧ w'.cell? ⟨(aE.add ((aC).toNat * 3)).block, (aE.add ((aC).toNat * 3)).off + 2, none⟩ = some (.string ((rd_T95 aA aC).f2))) spec_DiskOk.tab6 spec_DiskOk.bits6 ⟨xc aD 0 rfl, xc aD 1 rfl, (xce HB aP), (xce HB aN), (xce HB aK)⟩ (fun hHeld HT_ HW_ => ?_); generalize wr.drew = gB at aD HB aH aI aJ hHeld ⊢; refine pv_ 0 28 (h := ?_); refine pv_ 2 30 (h := ?_); refine tk_ 1 29 (h := ?_); refine pv_ 3 31 (h := ?_); refine pv_ 4 32 (h := ?_); refine tk_ 5 33 (h := ?_); refine on_ 6 34 (h := fun K hK => ?_); refine goesY Try.func133 #[.int .i64 ((rd_T95 aA aC).f0)] ?_; with_reducible refine (spec_l3Name.calls ((rd_T95 aA aC).f0) false _ dD.out).mono ?_
         rintro e w' ⟨rfl, ⟨nd, rfl⟩⟩; refine ⟨_, rfl, ?_⟩; refine hK.out _ _ ⟨xc aD 0 rfl, xc aD 1 rfl, (xce HB aP), (xce HB aN), (xce HB aK)⟩ (fun hHeld => ?_); clear hK K; refine nm_ (N := 34) ?_; refine pv_ 7 35 (h := ?_); refine pv_ 8 36 (h := ?_); refine pu_ 9 37 (h := ?_); refine pu_ 10 38 (h := ?_); refine pu_ 11 39 (h := ?_); refine pu_ 12 40 (h := ?_); refine pu_ 13 41 (h := ?_); refine pu_ 14 42 (h := ?_); refine pu_ 15 43 (h := ?_); refine pu_ 16 44 (h := ?_); refine pu_ 17 45 (h := ?_); refine pu_ 18 46 (h := ?_); refine pu_ 19 47 (h := ?_); refine pu_ 20 48 (h := ?_); refine pu_ 21 49 (h := ?_); refine pu_ 22 50 (h := ?_); refine pu_ 23 51 (h := ?_); refine pu_ 24 52 (h := ?_); refine pu_ 25 53 (h := ?_); refine pu_ 26 54 (h := ?_); refine pv_ 27 55 (h := ?_); refine dn_ ?_; try go_wp2
         go_ret
         exact ⟨u4_1, xbg⟩
       ·rw [if_neg dM] at H; exact absurd H (by simp)
      ·rw [if_neg cW] at H; have dB : decide (aC < (aA.length : Int)) = false := decide_eq_false cW; clear cW; obtain rfl := Option.some.inj H; obtain ⟨eH, eI, eJ, eK⟩ := xf2 (w := wr) aD; go_wp2; go_ret
       exact ⟨u4_1, xbg⟩

/-! ### spec_l3Find: function 134 -/
def spec_l3Find.l0 : Nat → Int → Int → Int → List (S95) → Option (Int)
 | 0, _, _, _, _ => none
 | k + 1, x1, x5, cO, cB => if x5 < (cB.length : Int) then (if 0 ≤ x5 then (if ((rd_T95 cB x5).f0) = x1 then (some x5) else (spec_l3Find.l0 k x1 (wrap64 (x5 + 1)) cO cB)) else (none)) else (some (-1))
def spec_l3Find.f (k : Nat) (aG : Int) (aA : List (S95)) (a1 : Int) : Option (Int) := spec_l3Find.l0 k a1 0 aG aA
theorem u4_mq1 {p : Prop} (h : p := by repeat' first | (with_reducible first | exact cS _ _ _ _ | exact LeO.refl _ | exact LeO.none _ | refine LeO.ite ?_ ?_ | refine LeO.bind ?_ (fun _ => ?_)) | exact cS _ _ _ _ | exact LeO.none _ | refine LeO.ite ?_ ?_ | refine LeO.bind ?_ (fun _ => ?_)) : p := h
set_option maxRecDepth 100000 in
theorem spec_l3Find.mono_l : ∀ k, (∀ y0 y1 y2 y3, LeO (spec_l3Find.l0 k y0 y1 y2 y3) (spec_l3Find.l0 (k + 1) y0 y1 y2 y3))
 | 0 => fun _ _ _ _ r h => by simp [spec_l3Find.l0] at h
 | k + 1 => by
  have cS := spec_l3Find.mono_l k
  ·intro y0 y1 y2 y3; unfold spec_l3Find.l0; exact u4_mq1
theorem spec_l3Find.mono : ∀ a0 a1 a2 k, LeO (spec_l3Find.f k a0 a1 a2) (spec_l3Find.f (k + 1) a0 a1 a2) := by
 intro a0 a1 a2 k
 have cS := spec_l3Find.mono_l k
 unfold spec_l3Find.f
 exact u4_mq1
set_option maxHeartbeats 8000000 in
set_option maxRecDepth 100000 in
theorem spec_l3Find.calls (k : Nat) (aG : Int) (bG : Option Addr) (bC : Nat) (aA : List (S95)) (a1 : Int) (r : Int) (w : World) (bU : Kd.C k95 w bG aA.length aA) (bV : aA.length ≤ bC) (h : spec_l3Find.f k aG aA a1 = some r) :
 Calls Try.prog 134 #[.agg #[.int .i64 aG, .slice bG aA.length bC], .int .i64 a1] w fun e w' => e = .returned (.int .i64 r) ∧ Below w.heap.size w w' := by
 have cZ := Try.underlying26
 have bB := aM bU
 have cK := aM bV
 clear bU bV
 have HB := aM (Below.refl w.heap.size w)
 have H : (spec_l3Find.l0 k a1 0 aG aA) = some r := h
 clear h
 have H' := aM H
 clear H
 go_enter Try.func134, Try.ntmps134
 go_wp2_with (first | ((with_reducible refine gD 2 rfl ?_); refine boxE (N := 2) rfl (cs := #[.int .i64 aG, .slice bG aA.length bC]) (t := 26) ?_; intro dG hg w3 hbox hb; have cG := aM (hbox); have fJ := aM (xge hg); have fK := aM (xge hg); replace HB := xbs hb; clear hb hbox hg))
 go_loopg [5] k (fun kq v5 w' => ∃ (bH : Int), v5 = .int .i64 bH ∧ Aside0 (spec_l3Find.l0 kq a1 bH aG aA = some r) ∧ Aside0 (kq ≤ k) ∧ Aside0 (w'.heap[dG]? = some (.cells #[.int .i64 aG, (.slice bG aA.length bC)] 26 (0, 0))) ∧ Aside0 (Below w.heap.size w w'))
 case atStart => exact ⟨(0), u4_0, H', ⟨Nat.le_refl _⟩, ⟨xblk⟩, ⟨xbg⟩⟩
 case round =>
  clear H'; try clear c1
  try clear p2
  obtain ⟨bH, rfl, HA, HK1, cG, HB⟩ := hrel; cases gk with
  | zero => exact absurd HA.out (by simp [spec_l3Find.l0])
  | succ k1 =>
   have H := HA.out; clear HA; simp only [spec_l3Find.l0] at H; by_cases c4 : bH < (aA.length : Int)
   ·rw [if_pos c4] at H; have eN : decide (bH < (aA.length : Int)) = true := decide_eq_true c4; clear c4; by_cases c5 : 0 ≤ bH
    ·rw [if_pos c5] at H; have fS : decide (0 ≤ bH) = true := decide_eq_true c5; clear c5; by_cases c6 : ((rd_T95 aA bH).f0) = a1
     ·rw [if_pos c6] at H; obtain ⟨cA, cL⟩ := bT c6; clear c6; obtain rfl := Option.some.inj H; obtain ⟨eO, eP, eQ, eR⟩ := xf2 (w := wr) cG; have p125 : 0 ≤ (bH : Int) := oda; have q125 : bH < (aA.length : Int) := oda; obtain ⟨dH, cV, bP, bQ, bR⟩ := at_T95 bB.out bH p125 q125; cases cV
      replace bP := xce HB bP; replace bQ := xce HB bQ; replace bR := xce HB bR; replace p125 := eq_true p125; replace q125 := eq_true q125; go_wp2; go_ret
      exact ⟨xerr, xbg⟩
     ·rw [if_neg c6] at H; obtain ⟨cA, cL⟩ := bF c6; have H' := aM H; clear H; obtain ⟨eS, eT, eU, eV⟩ := xf2 (w := wr) cG; have p125 : 0 ≤ (bH : Int) := oda; have q125 : bH < (aA.length : Int) := oda; obtain ⟨dH, cV, bP, bQ, bR⟩ := at_T95 bB.out bH p125 q125; cases cV
      replace bP := xce HB bP; replace bQ := xce HB bQ; replace bR := xce HB bR; replace p125 := eq_true p125; replace q125 := eq_true q125; go_wp2; go_roundg k1
      case measure => have := HK1.out; omega
      case rel => exact ⟨(wrap64 (bH + 1)), u4_0, H', ⟨by have := HK1.out; omega⟩, ⟨xblk⟩, ⟨xbg⟩⟩
    ·rw [if_neg c5] at H; exact absurd H (by simp)
   ·rw [if_neg c4] at H; have eN : decide (bH < (aA.length : Int)) = false := decide_eq_false c4; clear c4; obtain rfl := Option.some.inj H; obtain ⟨eW, eX, eY, eZ⟩ := xf2 (w := wr) cG; go_wp2; go_ret
    exact ⟨xerr, xbg⟩

/-! ### spec_l3Copy: function 135 -/
def spec_l3Copy.f (aG : Int) (aA : List (S95)) : Option (Int × (List (S95))) := (some (([] : List (S95)) : List (S95))).bind fun bY => (if bY.length + aA.length < 3518437208883 then (some (aG, (bY ++ aA))) else (none))
def spec_l3Copy.T1 : Bool × List (List Nat × List Nat) := (true, [([], []), ([0], [0]), ([], []), ([], []), ([3], [3]), ([2, 4], [2, 4]), ([1, 5], [1, 5]), ([6, 5, 0, 1, 2, 3, 4, 5, 6], [6])])
def spec_l3Copy.B1 : List Nat := [0, 1, 0, 0, 8, 28, 63, 127]
theorem spec_l3Copy.tab1 : rtab .any (opsOf Try.f135 1) = spec_l3Copy.T1 := by kernel_rfl
theorem spec_l3Copy.bits1 : waitsOk spec_l3Copy.T1.2 spec_l3Copy.B1 = true := by kernel_rfl
set_option maxHeartbeats 8000000 in
set_option maxRecDepth 100000 in
theorem spec_l3Copy.calls (aG : Int) (bG : Option Addr) (bC : Nat) (aA : List (S95)) (r1 : Int) (r2 : List (S95)) (w : World) (bU : Kd.C k95 w bG aA.length aA) (bV : aA.length ≤ bC) (h : spec_l3Copy.f aG aA = some (r1, r2)) :
 Calls Try.prog 135 #[.agg #[.int .i64 aG, .slice bG aA.length bC]] w fun e w' => ∃ v1_ : Value, e = .returned (.agg #[.int .i64 r1, v1_]) ∧ Kd.R k95 95 w' w.heap.size (fun _ => True) v1_ r2 ∧ Below w.heap.size w w' := by
 have cZ := Try.underlying26
 have bB := aM bU
 have cK := aM bV
 clear bU bV
 have HB := aM (Below.refl w.heap.size w)
 have H : ((some (([] : List (S95)) : List (S95))).bind fun bY => (if bY.length + aA.length < 3518437208883 then (some (aG, (bY ++ aA))) else (none))) = some (r1, r2) := h
 clear h
 obtain ⟨bY, cC⟩ : ∃ y_ : List (S95), y_ = (([] : List (S95))) := ⟨_, rfl⟩
 replace H : (if bY.length + aA.length < 3518437208883 then (some (aG, (bY ++ aA))) else (none)) = some (r1, r2) := by first | (rw [cC]; with_reducible exact H) | (have H2_ := oS H; rw [cC]; with_reducible exact H2_) | (have H2_ := oS H; with_reducible exact H2_) | with_reducible exact H | (rw [cC]; exact H) | exact H
 have cP := aM cC
 clear cC
 by_cases c2 : bY.length + aA.length < 3518437208883
 ·rw [if_pos c2] at H; have LMc2 := aM c2; clear c2; obtain ⟨dI, cD⟩ : ∃ y_ : List (S95), y_ = (bY ++ aA) := ⟨_, rfl⟩; replace H : (some (aG, dI)) = some (r1, r2) := by first | (rw [cD]; with_reducible exact H) | (have H2_ := oS H; rw [cD]; with_reducible exact H2_) | (have H2_ := oS H; with_reducible exact H2_) | with_reducible exact H | (rw [cD]; exact H) | exact H
  have dJ := aM cD; clear cD; simp only [Option.some.injEq, Prod.mk.injEq] at H; obtain ⟨rfl, rfl⟩ := H; go_enter Try.func135, Try.ntmps135
  try go_wp2_with (first | ((with_reducible refine gD 1 rfl ?_); refine boxE (N := 1) rfl (cs := #[.int .i64 aG, .slice bG aA.length bC]) (t := 26) ?_; intro dK hg w3 hbox hb; have aQ := aM (hbox); have fL := aM (xge hg); have fM := aM (xge hg); replace HB := xbs hb; clear hb hbox hg) | ((with_reducible refine gD 2 rfl ?_); refine boxE (N := 2) rfl (cs := #[.int .i64 0, .slice none 0 0]) (t := 26) ?_; intro bW hg w4 hbox hb; have fN := aM (xge hg); have fO := aM (xge hg); replace HB := xbs hb; have bA := nblt aQ hg; have bZ := nbgt aQ hg; replace aQ := xbb aQ hb; have bE := aM (hbox); clear hb hbox hg))
  replace aQ := bD aQ; replace bE := bD bE; replace HB := lD HB; refine sb2 8 spec_l3Copy.tab1 spec_l3Copy.bits1 aQ (fun hHeld HT_ HW_ => ?_); generalize w4.drew = w5 at aQ bE HB hHeld ⊢; refine pv_ 0 3 (h := ?_); refine pv_ 3 6 (h := ?_); refine tk_ 1 4 (h := ?_); refine tk_ 4 7 (h := ?_); refine on_ 2 5 (h := fun K hK => ?_); refine Kd.R_lit_step k95 _ 95 ?hg (N := 5) ?hd (xs := ([] : List (S95))) (inner := []) (ok := fun _ => True) (okp := fun _ => True) ?hr ?hp (fun _ hk => hk) trivial (Below.refl _ _) (Nat.le_refl _) (by simp) ?_; (case hd => rfl); (case hg => rfl); (case hr => first | (go_simp; done) | (go_simp; rfl)); (case hp => exact (Reps.none _ _)); intro fA w6 dL hb hg_ hnew_; clear hg_ hnew_; (first | rw [← cP.out] at dL | (simp only [Int.reduceToNat] at dL; rw [← cP.out] at dL)); have cH := aM (Kd.R_lower dL (below_size xbg)); replace aQ := xbb aQ hb; replace bE := xbb bE hb; replace HB := xbs hb; clear hb dL; refine hK.out _ _ ⟨xc aQ 0 rfl, xc aQ 1 rfl⟩ (fun hHeld => ?_); clear hK K; refine nm_ (N := 5) ?_; refine on_ 5 8 (h := fun K hK => ?_); refine Kd.R_append_rows_step k95 (w0 := w) w.heap.size (by rfl) (.tmp 5) (.tmp 7) 24 95 (.agg #[(.int .i64 0), (.string ⟨#[]⟩), (.string ⟨#[]⟩)]) 40 rfl Try.underlying24 info95 rfl (by decide) (by omega) fA bY aA _ _ _ (fun _ => True) (fun _ => False) rfl rfl ?aO ?aR (fun _ _ h => h) (fun _ h => h.elim) ?aF ?aB ?aS ?aL ?_; (case aR => exact xcb bB); (case aB => exact xbg); (case aF => exact (fun _ _ => trivial)); (case aO => exact (xr cH)); (case aS => exact (below_size xbg)); (case aL => have := LMc2.out; omega); intro fT w8 ho hb hg hat; rw [← dJ.out] at ho; replace aQ := aM (blk_grown (g := dK) (o := .cells #[.int .i64 aG, .slice bG aA.length bC] 26 (0, 0)) xblk hg (Kd.R_ne cH.out aQ.out (by decide))); replace bE := aM (blk_grown (g := bW) (o := .cells #[.int .i64 0, .slice none 0 0] 26 (0, 0)) xblk hg (Kd.R_ne cH.out bE.out (by decide))); replace HB := aM (hb); have cQ := aM (ho); clear cH ho hb hg hat; obtain ⟨fU, fV, fP⟩ := Kd.R_slice cQ.out; (first | subst fP | (injection fP with f1_ f2_ f3_; have f4_ := f1_.symm; have f5_ := f3_.symm; clear f1_ f2_ f3_; subst f4_; subst f5_)); refine hK.out _ _ ⟨xc aQ 0 rfl, xc aQ 1 rfl⟩ (fun hHeld => ?_); clear hK K; refine nm_ (N := 8) ?_; refine pv_ 6 9 (h := ?_); refine one_ (i := 7) (N := none) #[true, true, true, true, true, true, true, true] rfl rfl (one_of HT_.out (by kernel_rfl)) (by decide) (fun K hK => ?_); have hs10 : w8.cell? ⟨bW, 0, none⟩ = some (.int .i64 0) := xc bE 0 rfl; have hfs10 := blk_frozen bE.out 0; have hns10_0 := bA.out; have hms10_0 := bZ.out; have hs11 : w8.cell? ⟨bW, 1, none⟩ = some (.slice none 0 0) := xc bE 1 rfl; have hfs11 := blk_frozen bE.out 1; have hns11_0 := bA.out; have hms11_0 := bZ.out; refine skip_ (w1 := ?_) (by rfl) rfl ?_ ?_; rotate_left
  ·go_simp
   rfl
  refine hK.out _ _ ⟨((cell_far (p := ⟨bW, _, none⟩) bA.out _).trans (((cell_far (p := ⟨bW, _, none⟩) bA.out _).trans (hHeld.1)))), ((cell_far (p := ⟨bW, _, none⟩) bA.out _).trans (((cell_far (p := ⟨bW, _, none⟩) bA.out _).trans (hHeld.2))))⟩ (fun hHeld => ?_); clear hK K; refine dn_ ?_; try go_wp2
  refine bodyPost_ret (results_cell_row rfl _ _ bW 26 #[.int .i64 aG, .slice fU dI.length fV] (0, 0) _ rfl xP Try.underlying26 rfl (by kernel_rfl)) rfl ?_; exact ⟨_, xerr, xrm cQ (fun _ _ => trivial), xbg⟩
 ·rw [if_neg c2] at H; exact absurd H (by simp)

end Go.Proofs.Ytoojdlobnbakoaa.QFnExactHardSave
