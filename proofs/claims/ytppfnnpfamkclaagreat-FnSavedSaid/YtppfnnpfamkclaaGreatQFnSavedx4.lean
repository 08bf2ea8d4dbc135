-- A walk, by a program of this session.
import Derived.Test.YtppfnnpfamkclaaGreatQFnSavedx0
import Derived.Test.YtppfnnpfamkclaaGreatQFnSavedx3
namespace Go.Proofs.YtppfnnpfamkclaaGreat.QFnSaved
open Go.RowKit Go.Proofs.YtppfnnpfamkclaaGreatW.PrintWords Go.Proofs.YtppfnnpfamkclaaGreatW.PrintLast Go.Proofs.YtppfnnpfamkclaaGreatW.PrintMore
attribute [local go_sem] max2_int min2_int max_two min_two max_three min_three max_four min_four   -- for this text's walks alone
set_option maxHeartbeats 8000000
set_option maxRecDepth 100000
set_option linter.unusedVariables false
set_option linter.unusedSimpArgs false
theorem u4_0 {p : Prop} (h : p := by first | rfl | (simp; done) | (simp [*]; done)) : p := h
theorem u4_1 {p : Prop} (h : p := by have := HJ1.out; have := HK2.out; first | omega | exact Nat.le_refl _) : p := h
theorem u4_2 {p : Prop} (h : p := by first | (rw [hY]; with_reducible exact H) | (have H2_ := oS H; rw [hY]; with_reducible exact H2_) | (have H2_ := oS H; with_reducible exact H2_) | with_reducible exact H | (rw [hY]; exact H) | exact H) : p := h
mutual
def spec_DiskOk.j0 : Nat → Bool → Int → List (S66) → Option (Bool)
 | 0, _, _, _ => none
 | k + 1, fC, aW, aK => if fC = true then (some false) else (spec_DiskOk.l0 k 0 aW aK)
def spec_DiskOk.l0 : Nat → Int → Int → List (S66) → Option (Bool)
 | 0, _, _, _ => none
 | k + 1, x3, aW, aK => if x3 < (aK.length : Int) then (if 0 ≤ x3 then ((spec_l3Name.f ((rd_T66 aK x3).f0)).bind fun cP => (if cP = true then (if x3 > 0 then (if 0 ≤ (wrap64 (x3 - 1)) then (if (wrap64 (x3 - 1)) < (aK.length : Int) then (spec_DiskOk.j2 k x3 (decide (((rd_T66 aK (wrap64 (x3 - 1))).f0) ≥ ((rd_T66 aK x3).f0))) aW aK) else (none)) else (none)) else (spec_DiskOk.j2 k x3 false aW aK)) else (spec_DiskOk.j2 k x3 true aW aK))) else (none)) else (some true)
def spec_DiskOk.j2 : Nat → Int → Bool → Int → List (S66) → Option (Bool)
 | 0, _, _, _, _ => none
 | k + 1, x3, fD, aW, aK => if fD = true then (some false) else (spec_DiskOk.l0 k (wrap64 (x3 + 1)) aW aK)
end
def spec_DiskOk.f (k : Nat) (aE : Int) (aA : List (S66)) : Option (Bool) := (spec_l1In.f aE 0 40000).bind fun cG => (if cG = true then (if (aA.length : Int) > 8 then (spec_DiskOk.j0 k true aE aA) else ((spec_l3Size.f k aE aA).bind fun cF => (spec_DiskOk.j0 k (decide (cF > aE)) aE aA))) else (spec_DiskOk.j0 k true aE aA))
def spec_DiskOk.T1 : Bool × List (List Nat × List Nat) := (true, [([], []), ([0], [0]), ([1], [1]), ([2], [2]), ([3, 2], [3]), ([4], [4]), ([5, 4], [4, 5]), ([6, 4], [4, 6]), ([7, 4], [4, 7]), ([4, 8], [4, 8]), ([9, 4], [9]), ([10], [10]), ([11, 10, 10], [10, 11]), ([10], [10]), ([13, 10], [10, 13]), ([12, 14, 10], [10, 12, 14]), ([10, 15], [10, 15])])
def spec_DiskOk.B1 : List Nat := [0, 1, 3, 7, 15, 31, 63, 127, 255, 511, 1023, 2047, 4095, 2047, 10239, 32767, 65535]
def spec_DiskOk.T6 : Bool × List (List Nat × List Nat) := (true, [([], []), ([0], [0]), ([], []), ([1, 2], [1, 2]), ([3], [3]), ([4], [4]), ([5], [5]), ([6], [6]), ([7, 6], [7]), ([8], [8]), ([9, 8], [8, 9]), ([10, 8, 8], [8, 10]), ([11], [11]), ([12, 11], [11, 12]), ([11], [11]), ([14, 11], [11, 14]), ([13, 15, 11], [11, 13, 15]), ([16, 11], [11, 16]), ([17, 11], [11, 17]), ([11], [11]), ([19, 11], [11, 19]), ([11], [11]), ([20, 21, 11], [11, 20, 21]), ([22, 11], [11, 22]), ([23, 11], [11, 23]), ([18, 24, 11], [11, 18, 24]), ([11, 25, 8], [8, 11, 25]), ([8, 26], [8, 26])])
def spec_DiskOk.B6 : List Nat := [0, 1, 0, 7, 15, 31, 63, 127, 255, 511, 1023, 2047, 4095, 8191, 4095, 20479, 65535, 131071, 262143, 4095, 528383, 4095, 3674111, 7868415, 16257023, 33554431, 67108863, 134217727]
theorem spec_DiskOk.calls {k : Nat} {aE : Int} {aX : Option Addr} {aV : Nat} {aA : List (S66)} {r : Bool} {w : World} (h : spec_DiskOk.f k aE aA = some r) (bH : Kd.C k66 w aX aA.length aA) (bI : aA.length ≤ aV) :
 Calls Tryz.prog 59 #[.agg #[.int .i64 aE, .slice aX aA.length aV]] w fun e w' => e = .returned (.bool r) ∧ Below w.heap.size w w' := by
 have cV := Tryz.underlying26; have aY := aM bH; have cH := aM bI
 clear bH bI
 have HB := aM (Below.refl w.heap.size w); have H := h; unfold spec_DiskOk.f at H
 clear h
 have dV := aM H
 clear H
 go_enter Tryz.func59, Tryz.ntmps59
 go_upto_region 1 with (first | ((with_reducible refine gD 1 rfl ?_); (try (refine gate_guard (by rfl) ?_; dsimp only)); refine bE_ (N := 1) rfl ?_; intro bB hg w3 aC hb; have eO := aM (xge hg); have eP := aM (xge hg); replace HB := xbs hb; clear hb hg))
 (try simp only [Act.put, List.setIfInBounds_toArray, List.set_cons_zero, List.set_cons_succ])
 go_cut [20] (fun v20 wc => ∃ (kq : Nat) (bW : Bool), v20 = .bool bW ∧ Aside0 (spec_DiskOk.j0 kq bW aE aA = some r) ∧ Aside0 (kq ≤ k) ∧ Aside0 (wc.heap[bB]? = some (.cells #[.int .i64 aE, (.slice aX aA.length aV)] 26 (0, 0))) ∧ Aside0 (Below w.heap.size w wc))
 case first =>
  have H := dV.out; clear dV; replace H := oA_ H; obtain ⟨cG, A4, H⟩ := H; (try dsimp only at H)
  cases cG; rotate_left
  ·replace H := iT H; by_cases c6 : (aA.length : Int) > 8
   ·rw [if_pos c6] at H; have bS := decide_eq_true c6; have cI : decide (8 < aA.length) = true := decide_eq_true (by omega); clear c6; (first | rw [bS] | (simp only [i64_w, i32_w]; rw [bS]) | skip); replace H := aM H; try go_wp2
    replace aC := bD aC; replace HB := lD HB; refine sb2 17 spec_DiskOk.T1 spec_DiskOk.B1 aC (fun hHeld HT_ HW_ => ?_); generalize w3.drew = w7 at aC HB hHeld ⊢; refine pV 0 4 ?_; refine tK 1 5 ?_; refine oN 2 6 fun K hK => ?_
    refine d0_ Tryz.func88 (spec_l1In.calls A4.out) ?_; rintro w' ⟨nd, rfl⟩; refine hK.out _ _ (xe2 aC) (fun hHeld => ?_); clear hK K; refine nm_ (N := 6) ?_; refine pV 3 7 ?_; refine pV 4 8 ?_; refine pV 5 9 ?_; refine tK 6 10 ?_; refine pV 7 11 ?_; refine pV 8 12 ?_; refine pV 9 13 ?_; refine pV 10 14 ?_; refine pU 11 15 ?_; refine pU 12 16 ?_; refine pU 13 17 ?_; refine pU 14 18 ?_; refine pU 15 19 ?_; refine pV 16 20 ?_; refine dn_ ?_; try go_wp2
    go_meet
    case rel => exact ⟨_, _, u4_0, H, ⟨by first | omega | exact Nat.le_refl _⟩, ⟨xblk⟩, ⟨xbg⟩⟩
   rw [if_neg c6] at H; have bS := decide_eq_false c6; have cI : decide (8 < aA.length) = false := decide_eq_false (by omega); clear c6; (first | rw [bS] | (simp only [i64_w, i32_w]; rw [bS]) | skip); replace H := oA_ H; obtain ⟨cF, A8, H⟩ := H; (try dsimp only at H)
   replace H := aM H; try go_wp2
   replace aC := bD aC; replace HB := lD HB; refine sb2 17 spec_DiskOk.T1 spec_DiskOk.B1 aC (fun hHeld HT_ HW_ => ?_); generalize w3.drew = w9 at aC HB hHeld ⊢; refine pV 0 4 ?_; refine tK 1 5 ?_; refine oN 2 6 fun K hK => ?_
   refine d0_ Tryz.func88 (spec_l1In.calls A4.out) ?_; rintro w' ⟨nd, rfl⟩; refine hK.out _ _ (xe2 aC) (fun hHeld => ?_); clear hK K; refine nm_ (N := 6) ?_; refine pV 3 7 ?_; refine pV 4 8 ?_; refine pV 5 9 ?_; refine tK 6 10 ?_; refine pV 7 11 ?_; refine pV 8 12 ?_; refine pV 9 13 ?_; refine pV 10 14 ?_; refine pV 13 17 ?_; refine tK 11 15 ?_; refine tK 14 18 ?_; refine oN 12 16 fun K hK => ?_
   refine d0_ Tryz.func63 (spec_l3Size.calls A8.out (by repeat (first | exact (Kd.C_below aY.out xbg) | (with_reducible refine Kd.C_alloc ?_ _) | (with_reducible refine Kd.C_drewN ?_ _) | (with_reducible refine Kd.C_drew ?_))) cH.out) ?_; intro fI hb; replace aC := xbb aC hb; replace HB := xbs hb; (try clear hb); refine hK.out _ _ (xe2 aC) (fun hHeld => ?_); clear hK K; refine nm_ (N := 16) ?_; refine pV 15 19 ?_; refine pV 16 20 ?_; refine dn_ ?_; try go_wp2
   go_meet
   case rel => exact ⟨_, _, u4_0, H, ⟨by first | omega | exact Nat.le_refl _⟩, ⟨xblk⟩, ⟨xbg⟩⟩
  replace H := iN H; replace H := aM H; try go_wp2
  replace aC := bD aC; replace HB := lD HB; refine sb2 17 spec_DiskOk.T1 spec_DiskOk.B1 aC (fun hHeld HT_ HW_ => ?_); generalize w3.drew = fJ at aC HB hHeld ⊢; refine pV 0 4 ?_; refine tK 1 5 ?_; refine oN 2 6 fun K hK => ?_
  refine d0_ Tryz.func88 (spec_l1In.calls A4.out) ?_; rintro w' ⟨nd, rfl⟩; refine hK.out _ _ (xe2 aC) (fun hHeld => ?_); clear hK K; refine nm_ (N := 6) ?_; refine pV 3 7 ?_; refine pV 4 8 ?_; refine pU 5 9 ?_; refine pU 6 10 ?_; refine pU 7 11 ?_; refine pU 8 12 ?_; refine pV 9 13 ?_; refine pV 10 14 ?_; refine pU 11 15 ?_; refine pU 12 16 ?_; refine pU 13 17 ?_; refine pU 14 18 ?_; refine pU 15 19 ?_; refine pV 16 20 ?_; refine dn_ ?_; try go_wp2
  go_meet
  case rel => exact ⟨_, _, u4_0, H, ⟨by first | omega | exact Nat.le_refl _⟩, ⟨xblk⟩, ⟨xbg⟩⟩
 case rest =>
  clear dV
  obtain ⟨kq, bW, rfl, HA, HJ1, aC, HB⟩ := hcut; cases kq with
  | zero => exact absurd HA.out (by simp [spec_DiskOk.j0])
  | succ eS =>
   have H := HA.out; clear HA; simp only [spec_DiskOk.j0] at H; cases bW; rotate_left
   ·replace H := iT H; obtain rfl := Option.some.inj H; go_wp2; go_ret
    exact ⟨xerr, xbg⟩
   replace H := iN H; replace H := aM H; go_wp2; go_loopg [3] eS (fun kq v3 w' => ∃ (aD : Int), v3 = .int .i64 aD ∧ Aside0 (spec_DiskOk.l0 kq aD aE aA = some r) ∧ Aside0 (kq ≤ eS) ∧ Aside0 (w'.heap[bB]? = some (.cells #[.int .i64 aE, (.slice aX aA.length aV)] 26 (0, 0))) ∧ Aside0 (Below w.heap.size w w'))
   case atStart => exact ⟨_, u4_0, H, ⟨Nat.le_refl _⟩, ⟨xblk⟩, ⟨xbg⟩⟩
   case round =>
    clear H
    try clear cW
    obtain ⟨aD, rfl, HA, HK2, aC, HB⟩ := hrel; cases gk with
    | zero => exact absurd HA.out (by simp [spec_DiskOk.l0])
    | succ k2 =>
     have H := HA.out; clear HA; simp only [spec_DiskOk.l0] at H; replace H := dI_ H; obtain ⟨cX, H⟩ | ⟨cX, H⟩ := H
     ·have cQ := aM H; clear H; have dL := xf2 (w := wr) aC; go_upto_region 6 with (fail)
      go_cut [55] (fun v55 wc => ∃ (kq : Nat) (bU : Bool), v55 = .bool bU ∧ Aside0 (spec_DiskOk.j2 kq aD bU aE aA = some r) ∧ Aside0 (kq ≤ k2) ∧ Aside0 (wc.heap[bB]? = some (.cells #[.int .i64 aE, (.slice aX aA.length aV)] 26 (0, 0))) ∧ Aside0 (Below w.heap.size w wc))
      case first =>
       have H := cQ.out; clear cQ; replace H := dN_ H; obtain ⟨cL, H⟩ := H
       (first | rw [cL] | (simp only [i64_w, i32_w]; rw [cL]) | skip); replace H := oA_ H; obtain ⟨cP, dP, H⟩ := H; (try dsimp only at H)
       cases cP; rotate_left
       ·replace H := iT H; replace H := dI_ H; obtain ⟨cM, H⟩ | ⟨cM, H⟩ := H
        ·generalize hji20 : wrap64 (aD - 1) = ji20 at H; (try rw [hji20] at dP); have hji20w : (IntKind.i64.wrap (aD - 1)) = ji20 := (i64_w _).trans hji20; replace H := dN_ H; obtain ⟨eT, H⟩ := H; replace H := dN_ H; obtain ⟨eU, H⟩ := H; replace H := aM H; try go_wp2
         replace aC := bD aC; replace HB := lD HB; have p130 : 0 ≤ (aD : Int) := oda; have q130 : aD < (aA.length : Int) := oda; obtain ⟨aG, cJ, aH, aI, aJ⟩ := at_T66 aY.out aD p130 q130; have aQ := aJ; have aT := aI; have aU := aH; cases cJ
         replace aH := xce HB aH; replace aI := xce HB aI; replace aJ := xce HB aJ; replace p130 := eq_true p130; replace q130 := eq_true q130; have p132 : 0 ≤ ((ji20) : Int) := oda; have q132 : (ji20) < (aA.length : Int) := oda; obtain ⟨dD, dW, bK, bL, bM⟩ := at_T66 aY.out (ji20) p132 q132; have bX := bM; have bY := bL; have bZ := bK; obtain rfl : aG = dD := (by injection dW); replace bK := xce HB bK; replace bL := xce HB bL; replace bM := xce HB bM; replace p132 := eq_true p132; replace q132 := eq_true q132; have p133 : 0 ≤ (aD : Int) := oda; have q133 : aD < (aA.length : Int) := oda; obtain ⟨dE, dX, bN, bO, bP⟩ := at_T66 aY.out aD p133 q133; have cA := bP; have cB := bO; have cC := bN; obtain rfl : aG = dE := (by injection dX); replace bN := xce HB bN; replace bO := xce HB bO; replace bP := xce HB bP; replace p133 := eq_true p133; replace q133 := eq_true q133; refine st_ 28 (fun w' => w'.cell? ⟨bB, 0, none⟩ = some (.int .i64 aE) ∧ w'.cell? ⟨bB, 1, none⟩ = some (.slice (some aG) aA.length aV) ∧ w'.cell? (aG.add ((aD).toNat * 3)) = some (.int .i64 ((rd_T66 aA aD).f0)) ∧ w'.cell? ⟨(aG.add ((aD).toNat * 3)).block, (aG.add ((aD).toNat * 3)).off + 1, none⟩ = some (.string ((rd_T66 aA aD).f1)) ∧ w'.cell? ⟨(aG.add ((aD).toNat * 3)).block, (aG.add ((aD).toNat * 3)).off + 2, none⟩ = some (.string ((rd_T66 aA aD).f2)) ∧ w'.cell? (aG.add (((ji20)).toNat * 3)) = some (.int .i64 ((rd_T66 aA (ji20)).f0)) ∧ w'.cell? ⟨(aG.add (((ji20)).toNat * 3)).block, (aG.add (((ji20)).toNat * 3)).off + 1, none⟩ = some (.string ((rd_T66 aA (ji20)).f1)) ∧ w'.cell? ⟨(aG.add (((ji20)).toNat * 3)).block, (aG.add (((ji20)).toNat * 3)).off + 2, none⟩ = some (.string ((rd_T66 aA (ji20)).f2)) ∧ w'.cell? (aG.add ((aD).toNat * 3)) = some (.int .i64 ((rd_T66 aA aD).f0)) ∧ w'.cell? ⟨(aG.add ((aD).toNat * 3)).block, (aG.add ((aD).toNat * 3)).off + 1, none⟩ = some (.string ((rd_T66 aA aD).f1)) ∧ w'.cell? ⟨(aG.add ((aD).toNat * 3)).block, (aG.add ((aD).toNat * 3)).off + 2, none⟩ = some (.string ((rd_T66 aA aD).f2))) spec_DiskOk.T6 spec_DiskOk.B6 ⟨xc aC 0 rfl, xc aC 1 rfl, (xce HB aU), (xce HB aT), (xce HB aQ), (xce HB bZ), (xce HB bY), (xce HB bX), (xce HB cC), (xce HB cB), (xce HB cA)⟩ (fun hHeld HT_ HW_ => ?_); generalize wr.drew = fK at aC HB aH aI aJ bK bL bM bN bO bP hHeld ⊢; refine pV 0 28 ?_; refine pV 2 30 ?_; refine tK 1 29 ?_; refine pV 3 31 ?_; refine pV 4 32 ?_; refine tK 5 33 ?_; refine oN 6 34 fun K hK => ?_
         refine d0_ Tryz.func62 (spec_l3Name.calls dP.out) ?_; rintro w' ⟨nd, rfl⟩; refine hK.out _ _ ⟨xc aC 0 rfl, xc aC 1 rfl, (xce HB aU), (xce HB aT), (xce HB aQ), (xce HB bZ), (xce HB bY), (xce HB bX), (xce HB cC), (xce HB cB), (xce HB cA)⟩ (fun hHeld => ?_); clear hK K; refine nm_ (N := 34) ?_; refine pV 7 35 ?_; refine pV 8 36 ?_; refine pV 9 37 ?_; refine pV 10 38 ?_; refine pV 11 39 ?_; refine pV 12 40 ?_; refine pV 14 42 ?_; refine pV 15 43 ?_; refine pV 19 47 ?_; refine pV 21 49 ?_; refine tK 13 41 ?_; refine pV 16 44 ?_; refine pV 17 45 ?_; refine tK 18 46 ?_; refine tK 20 48 ?_; refine pV 22 50 ?_; refine pV 23 51 ?_; refine tK 24 52 ?_; refine pV 25 53 ?_; refine pV 26 54 ?_; refine pV 27 55 ?_; refine dn_ ?_; try go_wp2
         go_meet
         case rel => exact ⟨_, _, (by first | rfl | (simp; done) | (simp only [← hji20] <;> (first | rfl | simp)) | (simp [*]; done)), H, ⟨u4_1⟩, ⟨xblk⟩, ⟨xbg⟩⟩
        replace H := aM H; try go_wp2
        replace aC := bD aC; replace HB := lD HB; have p130 : 0 ≤ (aD : Int) := oda; have q130 : aD < (aA.length : Int) := oda; obtain ⟨aG, cJ, aH, aI, aJ⟩ := at_T66 aY.out aD p130 q130; have aQ := aJ; have aT := aI; have aU := aH; cases cJ
        replace aH := xce HB aH; replace aI := xce HB aI; replace aJ := xce HB aJ; replace p130 := eq_true p130; replace q130 := eq_true q130; refine st_ 28 (fun w' => w'.cell? ⟨bB, 0, none⟩ = some (.int .i64 aE) ∧ w'.cell? ⟨bB, 1, none⟩ = some (.slice (some aG) aA.length aV) ∧ w'.cell? (aG.add ((aD).toNat * 3)) = some (.int .i64 ((rd_T66 aA aD).f0)) ∧ w'.cell? ⟨(aG.add ((aD).toNat * 3)).block, (aG.add ((aD).toNat * 3)).off + 1, none⟩ = some (.string ((rd_T66 aA aD).f1)) ∧ w'.cell? ⟨(aG.add ((aD).toNat * 3)).block, (aG.add ((aD).toNat * 3)).off + 2, none⟩ = some (.string ((rd_T66 aA aD).f2))) spec_DiskOk.T6 spec_DiskOk.B6 ⟨xc aC 0 rfl, xc aC 1 rfl, (xce HB aU), (xce HB aT), (xce HB aQ)⟩ (fun hHeld HT_ HW_ => ?_); generalize wr.drew = fL at aC HB aH aI aJ hHeld ⊢; refine pV 0 28 ?_; refine pV 2 30 ?_; refine tK 1 29 ?_; refine pV 3 31 ?_; refine pV 4 32 ?_; refine tK 5 33 ?_; refine oN 6 34 fun K hK => ?_
        refine d0_ Tryz.func62 (spec_l3Name.calls dP.out) ?_; rintro w' ⟨nd, rfl⟩; refine hK.out _ _ ⟨xc aC 0 rfl, xc aC 1 rfl, (xce HB aU), (xce HB aT), (xce HB aQ)⟩ (fun hHeld => ?_); clear hK K; refine nm_ (N := 34) ?_; refine pV 7 35 ?_; refine pV 8 36 ?_; refine pV 9 37 ?_; refine pV 10 38 ?_; refine pV 11 39 ?_; refine pU 12 40 ?_; refine pU 13 41 ?_; refine pU 14 42 ?_; refine pU 15 43 ?_; refine pU 16 44 ?_; refine pU 17 45 ?_; refine pU 18 46 ?_; refine pU 19 47 ?_; refine pU 20 48 ?_; refine pU 21 49 ?_; refine pU 22 50 ?_; refine pU 23 51 ?_; refine pU 24 52 ?_; refine pU 25 53 ?_; refine pV 26 54 ?_; refine pV 27 55 ?_; refine dn_ ?_; try go_wp2
        go_meet
        case rel => exact ⟨_, _, u4_0, H, ⟨u4_1⟩, ⟨xblk⟩, ⟨xbg⟩⟩
       replace H := iN H; replace H := aM H; try go_wp2
       replace aC := bD aC; replace HB := lD HB; have p130 : 0 ≤ (aD : Int) := oda; have q130 : aD < (aA.length : Int) := oda; obtain ⟨aG, cJ, aH, aI, aJ⟩ := at_T66 aY.out aD p130 q130; have aQ := aJ; have aT := aI; have aU := aH; cases cJ
       replace aH := xce HB aH; replace aI := xce HB aI; replace aJ := xce HB aJ; replace p130 := eq_true p130; replace q130 := eq_true q130; refine st_ 28 (fun w' => w'.cell? ⟨bB, 0, none⟩ = some (.int .i64 aE) ∧ w'.cell? ⟨bB, 1, none⟩ = some (.slice (some aG) aA.length aV) ∧ w'.cell? (aG.add ((aD).toNat * 3)) = some (.int .i64 ((rd_T66 aA aD).f0)) ∧ w'.cell? ⟨(aG.add ((aD).toNat * 3)).block, (aG.add ((aD).toNat * 3)).off + 1, none⟩ = some (.string ((rd_T66 aA aD).f1)) ∧ w'.cell? ⟨(aG.add ((aD).toNat * 3)).block, (aG.add ((aD).toNat * 3)).off + 2, none⟩ = some (.string ((rd_T66 aA aD).f2))) spec_DiskOk.T6 spec_DiskOk.B6 ⟨xc aC 0 rfl, xc aC 1 rfl, (xce HB aU), (xce HB aT), (xce HB aQ)⟩ (fun hHeld HT_ HW_ => ?_); generalize wr.drew = fM at aC HB aH aI aJ hHeld ⊢; refine pV 0 28 ?_; refine pV 2 30 ?_; refine tK 1 29 ?_; refine pV 3 31 ?_; refine pV 4 32 ?_; refine tK 5 33 ?_; refine oN 6 34 fun K hK => ?_
       refine d0_ Tryz.func62 (spec_l3Name.calls dP.out) ?_; rintro w' ⟨nd, rfl⟩; refine hK.out _ _ ⟨xc aC 0 rfl, xc aC 1 rfl, (xce HB aU), (xce HB aT), (xce HB aQ)⟩ (fun hHeld => ?_); clear hK K; refine nm_ (N := 34) ?_; refine pV 7 35 ?_; refine pV 8 36 ?_; refine pU 9 37 ?_; refine pU 10 38 ?_; refine pU 11 39 ?_; refine pU 12 40 ?_; refine pU 13 41 ?_; refine pU 14 42 ?_; refine pU 15 43 ?_; refine pU 16 44 ?_; refine pU 17 45 ?_; refine pU 18 46 ?_; refine pU 19 47 ?_; refine pU 20 48 ?_; refine pU 21 49 ?_; refine pU 22 50 ?_; refine pU 23 51 ?_; refine pU 24 52 ?_; refine pU 25 53 ?_; refine pU 26 54 ?_; refine pV 27 55 ?_; refine dn_ ?_; try go_wp2
       go_meet
       case rel => exact ⟨_, _, u4_0, H, ⟨u4_1⟩, ⟨xblk⟩, ⟨xbg⟩⟩
      case rest =>
       clear cQ
       obtain ⟨kq, bU, rfl, HA, HJ13, aC, HB⟩ := hcut; cases kq with
       | zero => exact absurd HA.out (by simp [spec_DiskOk.j2])
       | succ dY =>
        have H := HA.out; clear HA; simp only [spec_DiskOk.j2] at H; cases bU; rotate_left
        ·replace H := iT H; obtain rfl := Option.some.inj H; go_wp2; go_ret
         exact ⟨xerr, xbg⟩
        replace H := iN H; replace H := aM H; go_wp2; go_roundg dY
        case measure => have := HJ1.out; have := HK2.out; have := HJ13.out; omega
        case rel => exact ⟨_, u4_0, H, ⟨by have := HJ1.out; have := HK2.out; have := HJ13.out; omega⟩, ⟨xblk⟩, ⟨xbg⟩⟩
     obtain rfl := Option.some.inj H; have dR := xf2 (w := wr) aC; go_wp2; go_ret
     exact ⟨xerr, xbg⟩
def spec_l3Copy.f (aE : Int) (aA : List (S66)) : Option (Int × (List (S66))) := (some (([] : List (S66)) : List (S66))).bind fun bQ => (if bQ.length + aA.length < 3518437208883 then (some (aE, (bQ ++ aA))) else (none))
def spec_l3Copy.T1 : Bool × List (List Nat × List Nat) := (true, [([], []), ([0], [0]), ([], []), ([], []), ([3], [3]), ([2, 4], [2, 4]), ([1, 5], [1, 5]), ([6, 5, 0, 1, 2, 3, 4, 5, 6], [6])])
def spec_l3Copy.B1 : List Nat := [0, 1, 0, 0, 8, 28, 63, 127]
theorem spec_l3Copy.calls {aE : Int} {aX : Option Addr} {aV : Nat} {aA : List (S66)} {r1 : Int} {r2 : List (S66)} {w : World} (h : spec_l3Copy.f aE aA = some (r1, r2)) (bH : Kd.C k66 w aX aA.length aA) (bI : aA.length ≤ aV) :
 Calls Tryz.prog 64 #[.agg #[.int .i64 aE, .slice aX aA.length aV]] w fun e w' => ∃ v1_ : Value, e = .returned (.agg #[.int .i64 r1, v1_]) ∧ Kd.R k66 66 w' w.heap.size (fun _ => True) v1_ r2 ∧ Below w.heap.size w w' := by
 have cV := Tryz.underlying26; have aY := aM bH; have cH := aM bI
 clear bH bI
 have HB := aM (Below.refl w.heap.size w); have H := h; unfold spec_l3Copy.f at H
 clear h
 obtain ⟨bQ, hY⟩ : ∃ y_ : List (S66), y_ = (([] : List (S66))) := ⟨_, rfl⟩; replace H : (if bQ.length + aA.length < 3518437208883 then (some (aE, (bQ ++ aA))) else (none)) = some (r1, r2) := u4_2; have cN := aM hY
 clear hY
 by_cases c2 : bQ.length + aA.length < 3518437208883
 ·rw [if_pos c2] at H; have LMc2 := aM c2; clear c2; generalize hY : bQ ++ aA = dF at H; (try replace H := bS_ H); (try dsimp only at H); have dG := aM hY.symm; clear hY; obtain ⟨rfl, rfl⟩ := i2_ H; go_enter Tryz.func64, Tryz.ntmps64
  try go_wp2_with (first | (refine bE_ (N := 1) rfl ?_; intro dH hg w3 aN hb; have eV := aM (xge hg); have eW := aM (xge hg); replace HB := xbs hb; clear hb hg) | (refine bE_ (N := 2) rfl ?_; intro bJ hg w4 aZ hb; have eX := aM (xge hg); have eY := aM (xge hg); replace HB := xbs hb; have aP := nblt aN hg; have bR := nbgt aN hg; replace aN := xbb aN hb; clear hb hg))
  replace aN := bD aN; replace aZ := bD aZ; replace HB := lD HB; refine sb2 8 spec_l3Copy.T1 spec_l3Copy.B1 aN (fun hHeld HT_ HW_ => ?_); generalize w4.drew = w5 at aN aZ HB hHeld ⊢; refine pV 0 3 ?_; refine pV 3 6 ?_; refine tK 1 4 ?_; refine tK 4 7 ?_; refine oN 2 5 fun K hK => ?_
  refine Kd.R_lit_step k66 _ 66 ?hg (N := 5) ?hd (xs := ([] : List (S66))) (inner := []) (ok := fun _ => True) (okp := fun _ => True) ?hr ?hp (fun _ hk => hk) trivial (Below.refl _ _) (Nat.le_refl _) (by simp) ?_; (case hd => rfl); (case hg => rfl); (case hr => first | (go_simp; done) | (go_simp; rfl)); (case hp => exact (Reps.none _ _)); intro v137 w6 dI hb hg_ hnew_; clear hg_ hnew_; (first | rw [← cN.out] at dI | (simp only [Int.reduceToNat] at dI; rw [← cN.out] at dI)); have cD := aM (Kd.R_lower dI (below_size xbg)); replace aN := xbb aN hb; replace aZ := xbb aZ hb; replace HB := xbs hb; clear hb dI; refine hK.out _ _ (xe2 aN) (fun hHeld => ?_); clear hK K; refine nm_ (N := 5) ?_; refine oN 5 8 fun K hK => ?_
  refine Kd.R_append_rows_step k66 (w0 := w) w.heap.size (by rfl) (.tmp 5) (.tmp 7) 24 66 (.agg #[(.int .i64 0), (.string ⟨#[]⟩), (.string ⟨#[]⟩)]) 40 rfl Tryz.underlying24 info66 rfl (by decide) (by omega) v137 bQ aA _ _ _ (fun _ => True) (fun _ => False) rfl rfl ?aO ?aR (fun _ _ h => h) (fun _ h => h.elim) ?aF ?aB ?aS ?aL ?_; (case aR => exact xcb aY); (case aB => exact xbg); (case aF => exact (fun _ _ => trivial)); (case aO => exact (xr cD)); (case aS => exact (below_size xbg)); (case aL => have := LMc2.out; omega); intro v140 w8 ho hb hg hat; rw [← dG.out] at ho; replace aN := aM (blk_grown (g := dH) (o := .cells #[.int .i64 aE, .slice aX aA.length aV] 26 (0, 0)) xblk hg (Kd.R_ne cD.out aN.out (by decide))); replace aZ := aM (blk_grown (g := bJ) (o := .cells #[.int .i64 0, .slice none 0 0] 26 (0, 0)) xblk hg (Kd.R_ne cD.out aZ.out (by decide))); replace HB := aM (hb); have cO := aM (ho); clear cD ho hb hg hat; obtain ⟨fF, fG, eZ⟩ := Kd.R_slice cO.out; (first | subst eZ | (injection eZ with f1_ f2_ f3_; have f4_ := f1_.symm; have f5_ := f3_.symm; clear f1_ f2_ f3_; subst f4_; subst f5_)); refine hK.out _ _ (xe2 aN) (fun hHeld => ?_); clear hK K; refine nm_ (N := 8) ?_; refine pV 6 9 ?_; refine one_ (i := 7) (N := none) #[true, true, true, true, true, true, true, true] rfl rfl (one_of HT_.out (by kernel_rfl)) (by decide) (fun K hK => ?_); have hs10 : w8.cell? ⟨bJ, 0, none⟩ = some (.int .i64 0) := xc aZ 0 rfl; have hfs10 := blk_frozen aZ.out 0; have hns10_0 := a2_ aP bR; have hs11 : w8.cell? ⟨bJ, 1, none⟩ = some (.slice none 0 0) := xc aZ 1 rfl; have hfs11 := blk_frozen aZ.out 1; have hns11_0 := a2_ aP bR; refine skip_ (w1 := ?_) (by rfl) rfl ?_ ?_; rotate_left
  ·go_simp
   rfl
  refine hK.out _ _ ⟨(xF_ hHeld.1), (xF_ hHeld.2)⟩ (fun hHeld => ?_); clear hK K; refine dn_ ?_; try go_wp2
  refine bodyPost_ret (results_cell_row rfl _ _ bJ 26 #[.int .i64 aE, .slice fF dF.length fG] (0, 0) _ rfl xP Tryz.underlying26 rfl (by kernel_rfl)) rfl ?_; exact ⟨_, xerr, xrm cO (fun _ _ => trivial), xbg⟩
 rw [if_neg c2] at H; cases H
def spec_l3Find.l0 : Nat → Int → Int → Int → List (S66) → Option (Int)
 | 0, _, _, _, _ => none
 | k + 1, x1, x5, cK, bV => if x5 < (bV.length : Int) then (if 0 ≤ x5 then (if ((rd_T66 bV x5).f0) = x1 then (some x5) else (spec_l3Find.l0 k x1 (wrap64 (x5 + 1)) cK bV)) else (none)) else (some (-1))
def spec_l3Find.f (k : Nat) (aE : Int) (aA : List (S66)) (a1 : Int) : Option (Int) := spec_l3Find.l0 k a1 0 aE aA
theorem spec_l3Find.calls {k : Nat} {aE : Int} {aX : Option Addr} {aV : Nat} {aA : List (S66)} {a1 r : Int} {w : World} (h : spec_l3Find.f k aE aA a1 = some r) (bH : Kd.C k66 w aX aA.length aA) (bI : aA.length ≤ aV) :
 Calls Tryz.prog 65 #[.agg #[.int .i64 aE, .slice aX aA.length aV], .int .i64 a1] w fun e w' => e = .returned (.int .i64 r) ∧ Below w.heap.size w w' := by
 have cV := Tryz.underlying26; have aY := aM bH; have cH := aM bI
 clear bH bI
 have HB := aM (Below.refl w.heap.size w); have H := h; unfold spec_l3Find.f at H
 clear h
 replace H := aM H
 go_enter Tryz.func65, Tryz.ntmps65
 go_wp2_with (first | (refine bE_ (N := 2) rfl ?_; intro dJ hg w3 cE hb; have fA := aM (xge hg); have fB := aM (xge hg); replace HB := xbs hb; clear hb hg))
 go_loopg [5] k (fun kq v5 w' => ∃ (bA : Int), v5 = .int .i64 bA ∧ Aside0 (spec_l3Find.l0 kq a1 bA aE aA = some r) ∧ Aside0 (kq ≤ k) ∧ Aside0 (w'.heap[dJ]? = some (.cells #[.int .i64 aE, (.slice aX aA.length aV)] 26 (0, 0))) ∧ Aside0 (Below w.heap.size w w'))
 case atStart => exact ⟨_, u4_0, H, ⟨Nat.le_refl _⟩, ⟨xblk⟩, ⟨xbg⟩⟩
 case round =>
  clear H
  obtain ⟨bA, rfl, HA, HK1, cE, HB⟩ := hrel; cases gk with
  | zero => exact absurd HA.out (by simp [spec_l3Find.l0])
  | succ k1 =>
   have H := HA.out; clear HA; simp only [spec_l3Find.l0] at H; replace H := dI_ H; obtain ⟨dZ, H⟩ | ⟨dZ, H⟩ := H
   ·replace H := dN_ H; obtain ⟨fH, H⟩ := H; replace H := eI_ H; obtain ⟨bS, cI, H⟩ | ⟨c6, bS, cI, H⟩ := H
    ·obtain rfl := Option.some.inj H; have eA := xf2 (w := wr) cE; have p143 : 0 ≤ (bA : Int) := oda; have q143 : bA < (aA.length : Int) := oda; obtain ⟨dK, cS, bC, bE, bG⟩ := at_T66 aY.out bA p143 q143; cases cS
     replace bC := xce HB bC; replace bE := xce HB bE; replace bG := xce HB bG; replace p143 := eq_true p143; replace q143 := eq_true q143; go_wp2; go_ret
     exact ⟨xerr, xbg⟩
    replace H := aM H; have eE := xf2 (w := wr) cE; have p143 : 0 ≤ (bA : Int) := oda; have q143 : bA < (aA.length : Int) := oda; obtain ⟨dK, cS, bC, bE, bG⟩ := at_T66 aY.out bA p143 q143; cases cS
    replace bC := xce HB bC; replace bE := xce HB bE; replace bG := xce HB bG; replace p143 := eq_true p143; replace q143 := eq_true q143; go_wp2; go_roundg k1
    case measure => have := HK1.out; omega
    case rel => exact ⟨_, u4_0, H, ⟨by have := HK1.out; omega⟩, ⟨xblk⟩, ⟨xbg⟩⟩
   obtain rfl := Option.some.inj H; have eI := xf2 (w := wr) cE; go_wp2; go_ret
   exact ⟨xerr, xbg⟩
end Go.Proofs.YtppfnnpfamkclaaGreat.QFnSaved
