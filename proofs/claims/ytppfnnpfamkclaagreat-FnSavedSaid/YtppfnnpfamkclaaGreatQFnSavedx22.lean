-- A walk, by a program of this session.
import Derived.Test.YtppfnnpfamkclaaGreatQFnSavedx0
import Derived.Test.YtppfnnpfamkclaaGreatQFnSavedx19
import Derived.Test.YtppfnnpfamkclaaGreatQFnSavedx20
import Derived.Test.YtppfnnpfamkclaaGreatQFnSavedx21
namespace Go.Proofs.YtppfnnpfamkclaaGreat.QFnSaved
open Go.RowKit Go.Proofs.YtppfnnpfamkclaaGreatW.PrintWords Go.Proofs.YtppfnnpfamkclaaGreatW.PrintLast Go.Proofs.YtppfnnpfamkclaaGreatW.PrintMore
attribute [local go_sem] max2_int min2_int max_two min_two max_three min_three max_four min_four   -- for this text's walks alone
set_option maxHeartbeats 8000000
set_option maxRecDepth 100000
set_option linter.unusedVariables false
set_option linter.unusedSimpArgs false
theorem u22_0 {p : Prop} (h : p := by first | rfl | (simp; done) | (simp [*]; done)) : p := h
theorem u22_1 {p : Prop} (h : p := by first | (rw [hY]; with_reducible exact H) | (have H2_ := oS H; rw [hY]; with_reducible exact H2_) | (have H2_ := oS H; with_reducible exact H2_) | with_reducible exact H | (rw [hY]; exact H) | exact H) : p := h
theorem u22_2 {p : Prop} (h : p := by have := HK1.out; first | omega | exact Nat.le_refl _) : p := h
theorem u22_3 {p : Prop} (h : p := by repeat (first | exact Drawn0.refl _ | apply Drawn0.step)) : p := h
mutual
def impl_DiskOk.l0 : Nat → List (S66) → Int → Int → Int → List (S66) → Option (Bool)
 | 0, _, _, _, _, _ => none
 | k + 1, x6, x7, x8, aN, aP => if x8 < x7 then (if 0 ≤ x8 then (if x8 < (x6.length : Int) then ((impl_isFile.f ((rd_T66 x6 x8).f0)).bind fun bY => (if bY = true then (if x8 > 0 then (if 0 ≤ (wrap64 (x8 - 1)) then (if (wrap64 (x8 - 1)) < (aP.length : Int) then (impl_DiskOk.j1 k x6 x7 x8 (decide (((rd_T66 aP (wrap64 (x8 - 1))).f0) ≥ ((rd_T66 x6 x8).f0))) aN aP) else (none)) else (none)) else (impl_DiskOk.j1 k x6 x7 x8 false aN aP)) else (impl_DiskOk.j1 k x6 x7 x8 true aN aP))) else (none)) else (none)) else ((impl_within.f aN 0 40000).bind fun bZ => (if bZ = true then ((impl_sizeOf.f k aN aP).bind fun cA => (some (decide (cA ≤ aN)))) else (some false)))
def impl_DiskOk.j1 : Nat → List (S66) → Int → Int → Bool → Int → List (S66) → Option (Bool)
 | 0, _, _, _, _, _, _ => none
 | k + 1, x6, x7, x8, fK, aN, aP => if fK = true then (some false) else (impl_DiskOk.l0 k x6 x7 (wrap64 (x8 + 1)) aN aP)
end
def impl_DiskOk.f (k : Nat) (aI : Int) (aA : List (S66)) : Option (Bool) := impl_DiskOk.l0 k aA (aA.length : Int) 0 aI aA
def impl_DiskOk.T4 : Bool × List (List Nat × List Nat) := (true, [([], []), ([0], [0]), ([1], [1]), ([2], [2]), ([3, 2], [3]), ([4], [4]), ([5, 4], [4, 5]), ([6, 4, 4], [4, 6]), ([7], [7]), ([8, 7], [7, 8]), ([7], [7]), ([10, 7], [7, 10]), ([9, 11, 7], [7, 9, 11]), ([12, 7], [7, 12]), ([13, 7], [7, 13]), ([7], [7]), ([15, 7], [7, 15]), ([14, 16, 7], [7, 14, 16]), ([7, 17, 4], [4, 7, 17]), ([4, 18], [4, 18])])
def impl_DiskOk.B4 : List Nat := [0, 1, 3, 7, 15, 31, 63, 127, 255, 511, 255, 1279, 4095, 8191, 16383, 255, 33023, 131071, 262143, 524287]
def impl_DiskOk.T7 : Bool × List (List Nat × List Nat) := (true, [([], []), ([0], [0]), ([1], [1]), ([2, 2], [2]), ([3], [3]), ([4, 3, 3], [3, 4]), ([3], [3]), ([6, 3], [3, 6]), ([5, 7, 3], [3, 5, 7]), ([3, 8], [3, 8]), ([9, 5, 0, 1, 2, 3, 4, 5, 6, 7, 8, 9], [9])])
def impl_DiskOk.B7 : List Nat := [0, 1, 3, 7, 15, 31, 15, 79, 255, 511, 1023]
theorem impl_DiskOk.calls {k : Nat} {aI : Int} {bG : Option Addr} {aV : Nat} {aA : List (S66)} {r : Bool} {w : World} (h : impl_DiskOk.f k aI aA = some r) (bH : Kd.C k66 w bG aA.length aA) (bO : aA.length ≤ aV) :
 Calls Tryz.prog 26 #[.agg #[.int .i64 aI, .slice bG aA.length aV]] w fun e w' => e = .returned (.bool r) ∧ Below w.heap.size w w' := by
 have eH := Tryz.underlying26; have fL := Tryz.underlying66; have bR := aM bH; have cR := aM bO
 clear bH bO
 have HB := aM (Below.refl w.heap.size w); have H := h; unfold impl_DiskOk.f at H
 clear h
 replace H := aM H
 go_enter Tryz.func26, Tryz.ntmps26
 go_wp2_with (first | (refine bE_ (N := 1) rfl ?_; intro bF hg w2 aE hb; have eI := aM (xge hg); have eJ := aM (xge hg); replace HB := xbs hb; clear hb hg; have cB := xf2 (w := w2) aE))
 go_loopg [8] k (fun kq v8 w' => ∃ (aD : Int), v8 = .int .i64 aD ∧ Aside0 (impl_DiskOk.l0 kq aA (aA.length : Int) aD aI aA = some r) ∧ Aside0 (kq ≤ k) ∧ Aside0 (w'.heap[bF]? = some (.cells #[.int .i64 aI, (.slice bG aA.length aV)] 26 (0, 0))) ∧ Aside0 (Below w.heap.size w w'))
 case atStart => exact ⟨_, u22_0, H, ⟨Nat.le_refl _⟩, ⟨xblk⟩, ⟨xbg⟩⟩
 case round =>
  clear H
  try clear cB cC cD cE
  obtain ⟨aD, rfl, HA, HK1, aE, HB⟩ := hrel; cases gk with
  | zero => exact absurd HA.out (by simp [impl_DiskOk.l0])
  | succ k1 =>
   have H := HA.out; clear HA; simp only [impl_DiskOk.l0] at H; replace H := dI_ H; obtain ⟨cV, H⟩ | ⟨cV, H⟩ := H
   ·replace H := dN_ H; obtain ⟨eK, H⟩ := H; replace H := dN_ H; obtain ⟨eL, H⟩ := H; have eM := aM H; clear H; have p1066 : 0 ≤ (aD : Int) := oda; have q1066 : aD < (aA.length : Int) := oda; obtain ⟨aQ, dI, bJ, bK, bL⟩ := at_T66 bR.out aD p1066 q1066; cases dI
    replace bJ := xce HB bJ; replace bK := xce HB bK; replace bL := xce HB bL; replace p1066 := eq_true p1066; replace q1066 := eq_true q1066; go_upto_region 4 with (first | (refine bE_ (N := 4) rfl ?_; intro aC hg w8 aG hb; have eN := aM (xge hg); have eO := aM (xge hg); replace HB := xbs hb; have bS := nblt aE hg; have bT := nbgt aE hg; replace aE := xbb aE hb; clear hb hg; have fM := a2_ bT bS; have cK := xf3 (w := w8) aG))
    (try simp only [Act.put, List.setIfInBounds_toArray, List.set_cons_zero, List.set_cons_succ]); go_cut [32] (fun v32 wc => ∃ (kq : Nat) (bX : Bool), v32 = .bool bX ∧ Aside0 (impl_DiskOk.j1 kq aA (aA.length : Int) aD bX aI aA = some r) ∧ Aside0 (kq ≤ k1) ∧ Aside0 (wc.heap[bF]? = some (.cells #[.int .i64 aI, (.slice (some aQ) aA.length aV)] 26 (0, 0))) ∧ Aside0 (wc.heap[aC]? = some (.cells #[.int .i64 ((rd_T66 aA aD).f0), .string ((rd_T66 aA aD).f1), .string ((rd_T66 aA aD).f2)] 66 (0, 0))) ∧ Aside0 (Below w.heap.size w wc))
    case first =>
     have H := eM.out; clear eM; replace H := oA_ H; obtain ⟨bY, eC, H⟩ := H; (try dsimp only at H)
     cases bY; rotate_left
     ·replace H := iT H; replace H := dI_ H; obtain ⟨bP, H⟩ | ⟨bP, H⟩ := H
      ·(first | rw [bP] | (simp only [i64_w, i32_w]; rw [bP]) | skip); generalize hji14 : wrap64 (aD - 1) = ji14 at H
       (try rw [hji14] at eC); have hji14w : (IntKind.i64.wrap (aD - 1)) = ji14 := (i64_w _).trans hji14; replace H := dN_ H; obtain ⟨dM, H⟩ := H; replace H := dN_ H; obtain ⟨dO, H⟩ := H; replace H := aM H; try go_wp2; have n0_ : Aside0 ((((w8.setCell ⟨aC, 0, none⟩ (.int .i64 ((rd_T66 aA aD).f0))).setCell ⟨aC, 1, none⟩ (.string ((rd_T66 aA aD).f1))).setCell ⟨aC, 2, none⟩ (.string ((rd_T66 aA aD).f2))).heap[bF]? = some (.cells #[.int .i64 aI, .slice (some aQ) aA.length aV] 26 (0, 0))) := ⟨xB⟩; have n1_ : Aside0 ((((w8.setCell ⟨aC, 0, none⟩ (.int .i64 ((rd_T66 aA aD).f0))).setCell ⟨aC, 1, none⟩ (.string ((rd_T66 aA aD).f1))).setCell ⟨aC, 2, none⟩ (.string ((rd_T66 aA aD).f2))).heap[aC]? = some (.cells #[.int .i64 ((rd_T66 aA aD).f0), .string ((rd_T66 aA aD).f1), .string ((rd_T66 aA aD).f2)] 66 (0, 0))) := ⟨xP⟩; have n2_ : Aside0 (Below w.heap.size w (((w8.setCell ⟨aC, 0, none⟩ (.int .i64 ((rd_T66 aA aD).f0))).setCell ⟨aC, 1, none⟩ (.string ((rd_T66 aA aD).f1))).setCell ⟨aC, 2, none⟩ (.string ((rd_T66 aA aD).f2)))) := ⟨xbg⟩; (try clear aE); (try clear aG); (try clear HB); generalize (((w8.setCell ⟨aC, 0, none⟩ (.int .i64 ((rd_T66 aA aD).f0))).setCell ⟨aC, 1, none⟩ (.string ((rd_T66 aA aD).f1))).setCell ⟨aC, 2, none⟩ (.string ((rd_T66 aA aD).f2))) = fO at n0_ n1_ n2_ ⊢; have aE := n0_; have aG := n1_; have HB := n2_; clear n0_ n1_ n2_; replace aE := bD aE; replace aG := bD aG; replace HB := lD HB; have p1069 : 0 ≤ ((ji14) : Int) := oda; have q1069 : (ji14) < (aA.length : Int) := oda; obtain ⟨cX, dP, aW, aX, aY⟩ := at_T66 bR.out (ji14) p1069 q1069; have bU := aY; have bV := aX; have bW := aW; obtain rfl : aQ = cX := (by injection dP); replace aW := xce HB aW; replace aX := xce HB aX; replace aY := xce HB aY; replace p1069 := eq_true p1069; replace q1069 := eq_true q1069; refine st_ 20 (fun w' => w'.cell? ⟨aC, 0, none⟩ = some (.int .i64 ((rd_T66 aA aD).f0)) ∧ w'.cell? ⟨aC, 1, none⟩ = some (.string ((rd_T66 aA aD).f1)) ∧ w'.cell? ⟨aC, 2, none⟩ = some (.string ((rd_T66 aA aD).f2)) ∧ w'.cell? ⟨bF, 0, none⟩ = some (.int .i64 aI) ∧ w'.cell? ⟨bF, 1, none⟩ = some (.slice (some aQ) aA.length aV) ∧ w'.cell? (aQ.add (((ji14)).toNat * 3)) = some (.int .i64 ((rd_T66 aA (ji14)).f0)) ∧ w'.cell? ⟨(aQ.add (((ji14)).toNat * 3)).block, (aQ.add (((ji14)).toNat * 3)).off + 1, none⟩ = some (.string ((rd_T66 aA (ji14)).f1)) ∧ w'.cell? ⟨(aQ.add (((ji14)).toNat * 3)).block, (aQ.add (((ji14)).toNat * 3)).off + 2, none⟩ = some (.string ((rd_T66 aA (ji14)).f2))) impl_DiskOk.T4 impl_DiskOk.B4 ⟨xc aG 0 rfl, xc aG 1 rfl, xc aG 2 rfl, xc aE 0 rfl, xc aE 1 rfl, (xce HB bW), (xce HB bV), (xce HB bU)⟩ (fun hHeld HT_ HW_ => ?_); generalize fO.drew = fX at aE aG HB aW aX aY hHeld ⊢; refine pV 0 13 ?_; refine tK 1 14 ?_; refine oN 2 15 fun K hK => ?_
       refine d0_ Tryz.func52 (impl_isFile.calls eC.out) ?_; rintro w' ⟨nd, rfl⟩; refine hK.out _ _ ⟨xc aG 0 rfl, xc aG 1 rfl, xc aG 2 rfl, xc aE 0 rfl, xc aE 1 rfl, (xce HB bW), (xce HB bV), (xce HB bU)⟩ (fun hHeld => ?_); clear hK K; refine nm_ (N := 15) ?_; refine pV 3 16 ?_; refine pV 4 17 ?_; refine pV 5 18 ?_; refine pV 6 19 ?_; refine pV 7 20 ?_; refine pV 8 21 ?_; refine pV 10 23 ?_; refine pV 11 24 ?_; refine pV 15 28 ?_; refine tK 9 22 ?_; refine pV 12 25 ?_; refine pV 13 26 ?_; refine tK 14 27 ?_; refine tK 16 29 ?_; refine pV 17 30 ?_; refine pV 18 31 ?_; refine pV 19 32 ?_; refine dn_ ?_; try go_wp2
       go_meet
       case rel => exact ⟨_, _, (by first | rfl | (simp; done) | (simp only [← hji14] <;> (first | rfl | simp)) | (simp [*]; done)), H, ⟨u22_2⟩, ⟨xblk⟩, ⟨xblk⟩, ⟨xbg⟩⟩
      (first | rw [bP] | (simp only [i64_w, i32_w]; rw [bP]) | skip); replace H := aM H; try go_wp2
      have n0_ : Aside0 ((((w8.setCell ⟨aC, 0, none⟩ (.int .i64 ((rd_T66 aA aD).f0))).setCell ⟨aC, 1, none⟩ (.string ((rd_T66 aA aD).f1))).setCell ⟨aC, 2, none⟩ (.string ((rd_T66 aA aD).f2))).heap[bF]? = some (.cells #[.int .i64 aI, .slice (some aQ) aA.length aV] 26 (0, 0))) := ⟨xB⟩; have n1_ : Aside0 ((((w8.setCell ⟨aC, 0, none⟩ (.int .i64 ((rd_T66 aA aD).f0))).setCell ⟨aC, 1, none⟩ (.string ((rd_T66 aA aD).f1))).setCell ⟨aC, 2, none⟩ (.string ((rd_T66 aA aD).f2))).heap[aC]? = some (.cells #[.int .i64 ((rd_T66 aA aD).f0), .string ((rd_T66 aA aD).f1), .string ((rd_T66 aA aD).f2)] 66 (0, 0))) := ⟨xP⟩; have n2_ : Aside0 (Below w.heap.size w (((w8.setCell ⟨aC, 0, none⟩ (.int .i64 ((rd_T66 aA aD).f0))).setCell ⟨aC, 1, none⟩ (.string ((rd_T66 aA aD).f1))).setCell ⟨aC, 2, none⟩ (.string ((rd_T66 aA aD).f2)))) := ⟨xbg⟩; (try clear aE); (try clear aG); (try clear HB); generalize (((w8.setCell ⟨aC, 0, none⟩ (.int .i64 ((rd_T66 aA aD).f0))).setCell ⟨aC, 1, none⟩ (.string ((rd_T66 aA aD).f1))).setCell ⟨aC, 2, none⟩ (.string ((rd_T66 aA aD).f2))) = fP at n0_ n1_ n2_ ⊢; have aE := n0_; have aG := n1_; have HB := n2_; clear n0_ n1_ n2_; replace aE := bD aE; replace aG := bD aG; replace HB := lD HB; refine st_ 20 (fun w' => w'.cell? ⟨aC, 0, none⟩ = some (.int .i64 ((rd_T66 aA aD).f0)) ∧ w'.cell? ⟨aC, 1, none⟩ = some (.string ((rd_T66 aA aD).f1)) ∧ w'.cell? ⟨aC, 2, none⟩ = some (.string ((rd_T66 aA aD).f2))) impl_DiskOk.T4 impl_DiskOk.B4 ⟨xc aG 0 rfl, xc aG 1 rfl, xc aG 2 rfl⟩ (fun hHeld HT_ HW_ => ?_); generalize fP.drew = fY at aE aG HB hHeld ⊢; refine pV 0 13 ?_; refine tK 1 14 ?_; refine oN 2 15 fun K hK => ?_
      refine d0_ Tryz.func52 (impl_isFile.calls eC.out) ?_; rintro w' ⟨nd, rfl⟩; refine hK.out _ _ (xe3 aG) (fun hHeld => ?_); clear hK K; refine nm_ (N := 15) ?_; refine pV 3 16 ?_; refine pV 4 17 ?_; refine pV 5 18 ?_; refine pV 6 19 ?_; refine pV 7 20 ?_; refine pU 8 21 ?_; refine pU 9 22 ?_; refine pU 10 23 ?_; refine pU 11 24 ?_; refine pU 12 25 ?_; refine pU 13 26 ?_; refine pU 14 27 ?_; refine pU 15 28 ?_; refine pU 16 29 ?_; refine pU 17 30 ?_; refine pV 18 31 ?_; refine pV 19 32 ?_; refine dn_ ?_; try go_wp2
      go_meet
      case rel => exact ⟨_, _, u22_0, H, ⟨u22_2⟩, ⟨xblk⟩, ⟨xblk⟩, ⟨xbg⟩⟩
     replace H := iN H; replace H := aM H; try go_wp2; have n0_ : Aside0 ((((w8.setCell ⟨aC, 0, none⟩ (.int .i64 ((rd_T66 aA aD).f0))).setCell ⟨aC, 1, none⟩ (.string ((rd_T66 aA aD).f1))).setCell ⟨aC, 2, none⟩ (.string ((rd_T66 aA aD).f2))).heap[bF]? = some (.cells #[.int .i64 aI, .slice (some aQ) aA.length aV] 26 (0, 0))) := ⟨xB⟩; have n1_ : Aside0 ((((w8.setCell ⟨aC, 0, none⟩ (.int .i64 ((rd_T66 aA aD).f0))).setCell ⟨aC, 1, none⟩ (.string ((rd_T66 aA aD).f1))).setCell ⟨aC, 2, none⟩ (.string ((rd_T66 aA aD).f2))).heap[aC]? = some (.cells #[.int .i64 ((rd_T66 aA aD).f0), .string ((rd_T66 aA aD).f1), .string ((rd_T66 aA aD).f2)] 66 (0, 0))) := ⟨xP⟩; have n2_ : Aside0 (Below w.heap.size w (((w8.setCell ⟨aC, 0, none⟩ (.int .i64 ((rd_T66 aA aD).f0))).setCell ⟨aC, 1, none⟩ (.string ((rd_T66 aA aD).f1))).setCell ⟨aC, 2, none⟩ (.string ((rd_T66 aA aD).f2)))) := ⟨xbg⟩; (try clear aE); (try clear aG); (try clear HB); generalize (((w8.setCell ⟨aC, 0, none⟩ (.int .i64 ((rd_T66 aA aD).f0))).setCell ⟨aC, 1, none⟩ (.string ((rd_T66 aA aD).f1))).setCell ⟨aC, 2, none⟩ (.string ((rd_T66 aA aD).f2))) = fQ at n0_ n1_ n2_ ⊢; have aE := n0_; have aG := n1_; have HB := n2_; clear n0_ n1_ n2_; replace aE := bD aE; replace aG := bD aG; replace HB := lD HB; refine st_ 20 (fun w' => w'.cell? ⟨aC, 0, none⟩ = some (.int .i64 ((rd_T66 aA aD).f0)) ∧ w'.cell? ⟨aC, 1, none⟩ = some (.string ((rd_T66 aA aD).f1)) ∧ w'.cell? ⟨aC, 2, none⟩ = some (.string ((rd_T66 aA aD).f2))) impl_DiskOk.T4 impl_DiskOk.B4 ⟨xc aG 0 rfl, xc aG 1 rfl, xc aG 2 rfl⟩ (fun hHeld HT_ HW_ => ?_); generalize fQ.drew = fZ at aE aG HB hHeld ⊢; refine pV 0 13 ?_; refine tK 1 14 ?_; refine oN 2 15 fun K hK => ?_
     refine d0_ Tryz.func52 (impl_isFile.calls eC.out) ?_; rintro w' ⟨nd, rfl⟩; refine hK.out _ _ (xe3 aG) (fun hHeld => ?_); clear hK K; refine nm_ (N := 15) ?_; refine pV 3 16 ?_; refine pV 4 17 ?_; refine pU 5 18 ?_; refine pU 6 19 ?_; refine pU 7 20 ?_; refine pU 8 21 ?_; refine pU 9 22 ?_; refine pU 10 23 ?_; refine pU 11 24 ?_; refine pU 12 25 ?_; refine pU 13 26 ?_; refine pU 14 27 ?_; refine pU 15 28 ?_; refine pU 16 29 ?_; refine pU 17 30 ?_; refine pU 18 31 ?_; refine pV 19 32 ?_; refine dn_ ?_; try go_wp2
     go_meet
     case rel => exact ⟨_, _, u22_0, H, ⟨u22_2⟩, ⟨xblk⟩, ⟨xblk⟩, ⟨xbg⟩⟩
    case rest =>
     clear eM
     try clear c4
     try clear cV
     try clear c5
     try clear eK
     try clear c6
     try clear eL
     try clear cK cL cM
     try clear cB cC
     try clear bJ
     try clear bK
     try clear bL
     try clear p1066
     try clear q1066
     obtain ⟨kq, bX, rfl, HA, HJ6, aE, aG, HB⟩ := hcut; cases kq with
     | zero => exact absurd HA.out (by simp [impl_DiskOk.j1])
     | succ fS =>
      have H := HA.out; clear HA; simp only [impl_DiskOk.j1] at H; cases bX; rotate_left
      ·replace H := iT H; obtain rfl := Option.some.inj H; go_wp2; go_ret
       exact ⟨xerr, xbg⟩
      replace H := iN H; replace H := aM H; go_wp2; go_roundg fS
      case measure => have := HK1.out; have := HJ6.out; omega
      case rel => exact ⟨_, u22_0, H, ⟨by have := HK1.out; have := HJ6.out; omega⟩, ⟨xblk⟩, ⟨xbg⟩⟩
   replace H := oA_ H; obtain ⟨bZ, fB, H⟩ := H; (try dsimp only at H)
   cases bZ; rotate_left
   ·replace H := iT H; replace H := oA_ H; obtain ⟨cA, fT, H⟩ := H; (try dsimp only at H); obtain rfl := Option.some.inj H; try go_wp2
    replace aE := bD aE; replace HB := lD HB; refine sb2 11 impl_DiskOk.T7 impl_DiskOk.B7 aE (fun hHeld HT_ HW_ => ?_); generalize wr.drew = gA at aE HB hHeld ⊢; refine pV 0 34 ?_; refine tK 1 35 ?_; refine oN 2 36 fun K hK => ?_
    refine d0_ Tryz.func53 (impl_within.calls fB.out) ?_; rintro w' ⟨nd, rfl⟩; refine hK.out _ _ (xe2 aE) (fun hHeld => ?_); clear hK K; refine nm_ (N := 36) ?_; refine pV 3 37 ?_; refine pV 6 40 ?_; refine tK 4 38 ?_; refine tK 7 41 ?_; refine oN 5 39 fun K hK => ?_
    refine d0_ Tryz.func54 (impl_sizeOf.calls fT.out (by repeat (first | exact (Kd.C_below bR.out xbg) | (with_reducible refine Kd.C_alloc ?_ _) | (with_reducible refine Kd.C_drewN ?_ _) | (with_reducible refine Kd.C_drew ?_))) cR.out) ?_; intro gB hb; replace aE := xbb aE hb; replace HB := xbs hb; (try clear hb); refine hK.out _ _ (xe2 aE) (fun hHeld => ?_); clear hK K; refine nm_ (N := 39) ?_; refine pV 8 42 ?_; refine pV 9 43 ?_; refine pV 10 2 ?_; refine dn_ ?_; try go_wp2
    go_ret
    exact ⟨xerr, xbg⟩
   replace H := iN H; obtain rfl := Option.some.inj H; try go_wp2
   replace aE := bD aE; replace HB := lD HB; refine sb2 11 impl_DiskOk.T7 impl_DiskOk.B7 aE (fun hHeld HT_ HW_ => ?_); generalize wr.drew = gE at aE HB hHeld ⊢; refine pV 0 34 ?_; refine tK 1 35 ?_; refine oN 2 36 fun K hK => ?_
   refine d0_ Tryz.func53 (impl_within.calls fB.out) ?_; rintro w' ⟨nd, rfl⟩; refine hK.out _ _ (xe2 aE) (fun hHeld => ?_); clear hK K; refine nm_ (N := 36) ?_; refine pV 3 37 ?_; refine pU 4 38 ?_; refine pU 5 39 ?_; refine pU 6 40 ?_; refine pU 7 41 ?_; refine pU 8 42 ?_; refine pV 9 43 ?_; refine pV 10 2 ?_; refine dn_ ?_; try go_wp2
   go_ret
   exact ⟨xerr, xbg⟩
def impl_Sum.l0 : Nat → Int → Int → List Int → Int → Int → Option (Int)
 | 0, _, _, _, _, _ => none
 | k + 1, x3, x4, x7, x8, x9 => if x9 < x8 then (if 0 ≤ x9 then (if x9 < (x7.length : Int) then (impl_Sum.l0 k (Int.tmod (wrap64 (x3 + (wrap64 (rd x7 x9)))) 65521) (Int.tmod (wrap64 (x4 + (Int.tmod (wrap64 (x3 + (wrap64 (rd x7 x9)))) 65521))) 65521) x7 x8 (wrap64 (x9 + 1))) else (none)) else (none)) else (some (wrap64 ((wrap64 (65536 * x4)) + x3)))
def impl_Sum.f (k : Nat) (l0 : List Int) : Option (Int) := impl_Sum.l0 k 1 0 l0 (l0.length : Int) 0
theorem impl_Sum.calls {k : Nat} {A0 : Option Addr} {c0 : Nat} {l0 : List Int} {r : Int} {w : World} (h : impl_Sum.f k l0 = some r) (cS : Kd.C (Kd.int .u8) w A0 l0.length l0) (cT : l0.length ≤ c0) :
 Calls Tryz.prog 100 #[.slice A0 l0.length c0] w fun e w' => e = .returned (.int .i64 r) ∧ Drawn0 w w' := by
 have dF := aM cS; have eG := aM cT
 clear cS cT
 have H := h; unfold impl_Sum.f at H
 clear h
 replace H := aM H
 go_enter Tryz.func100, Tryz.ntmps100
 go_wp2
 go_loopg [3, 4, 9] k (fun kq v3 v4 v9 w' => ∃ (cF : Int) (cQ : Int) (bC : Int), v3 = .int .i64 cF ∧ v4 = .int .i64 cQ ∧ v9 = .int .i64 bC ∧ Aside0 (impl_Sum.l0 kq cF cQ l0 (l0.length : Int) bC = some r) ∧ Aside0 (kq ≤ k) ∧ Drawn0 w w')
 case atStart => exact ⟨_, _, _, u22_0, u22_0, u22_0, H, ⟨Nat.le_refl _⟩, u22_3⟩
 case round =>
  clear H
  obtain ⟨cF, cQ, bC, rfl, rfl, rfl, HA, HK1, ⟨m1, rfl⟩⟩ := hrel; cases gk with
  | zero => exact absurd HA.out (by simp [impl_Sum.l0])
  | succ k1 =>
   have H := HA.out; clear HA; simp only [impl_Sum.l0] at H; replace H := dI_ H; obtain ⟨cY, H⟩ | ⟨cY, H⟩ := H
   ·replace H := dN_ H; obtain ⟨fU, H⟩ := H; replace H := dN_ H; obtain ⟨cV, H⟩ := H; replace H := aM H; have p1072 : 0 ≤ (bC : Int) := oda; have q1072 : bC < (l0.length : Int) := oda; obtain ⟨eP, dS, dT⟩ := Kd.at_int dF.out bC p1072 q1072; cases dS
    replace p1072 := eq_true p1072; replace q1072 := eq_true q1072; go_wp2; go_roundg k1
    case measure => have := HK1.out; omega
    case rel => exact ⟨_, _, _, u22_0, u22_0, u22_0, H, ⟨by have := HK1.out; omega⟩, u22_3⟩
   obtain rfl := Option.some.inj H; go_wp2; go_ret
   exact ⟨u22_0, u22_3⟩
def impl_sumBytes.f (k : Nat) (l0 : List Int) : Option (List Int) := (impl_Sum.f k l0).bind fun aH => (some (([(Go.bits .and .i64 aH 255) % 256, (Go.bits .and .i64 (aH / 256) 255) % 256, (Go.bits .and .i64 (aH / 65536) 255) % 256, (Go.bits .and .i64 (aH / 16777216) 255) % 256] : List Int)))
theorem impl_sumBytes.calls {k : Nat} {A0 : Option Addr} {c0 : Nat} {l0 r : List Int} {w : World} (h : impl_sumBytes.f k l0 = some r) (cS : Kd.C (Kd.int .u8) w A0 l0.length l0) (cT : l0.length ≤ c0) :
 Calls Tryz.prog 80 #[.slice A0 l0.length c0] w fun e w' => ∃ v0_ : Value, e = .returned (v0_) ∧ Kd.R (Kd.int .u8) 5 w' w.heap.size (fun _ => True) v0_ r ∧ Below w.heap.size w w' := by
 have dF := aM cS; have eG := aM cT
 clear cS cT
 have HB := aM (Below.refl w.heap.size w); have H := h; unfold impl_sumBytes.f at H
 clear h
 replace H := oB H; obtain ⟨aH, fC, H⟩ := H; (try dsimp only at H); have A2 := aM fC
 clear fC
 obtain ⟨dU, hY⟩ : ∃ y_ : List Int, y_ = (([(Go.bits .and .i64 aH 255) % 256, (Go.bits .and .i64 (aH / 256) 255) % 256, (Go.bits .and .i64 (aH / 65536) 255) % 256, (Go.bits .and .i64 (aH / 16777216) 255) % 256] : List Int)) := ⟨_, rfl⟩; replace H : (some dU) = some r := u22_1; have cG := aM hY
 clear hY
 obtain rfl := Option.some.inj H
 go_enter Tryz.func80, Tryz.ntmps80
 go_wp2_with (first | (refine gN_ 100 5 rfl rfl ?_; refine c0_ Tryz.func100 (impl_Sum.calls A2.out (by repeat (first | exact dF.out | (with_reducible refine Kd.C_alloc ?_ _) | (with_reducible refine Kd.C_drewN ?_ _) | (with_reducible refine Kd.C_drew ?_))) eG.out) ?_; rintro w' ⟨nd, rfl⟩) | (refine li_ .u8 5 (N := 21) rfl [(Go.bits .and .i64 aH 255) % 256, (Go.bits .and .i64 (aH / 256) 255) % 256, (Go.bits .and .i64 (aH / 65536) 255) % 256, (Go.bits .and .i64 (aH / 16777216) 255) % 256] ?_; intro fD w3 dV hb; (first | rw [← cG.out] at dV | (simp only [Int.reduceToNat] at dV; rw [← cG.out] at dV)); have cZ := aM (Kd.R_lower dV (below_size xbel)); replace HB := xbs hb; clear hb dV))
 go_ret
 exact ⟨_, xerr, by (with_reducible repeat (first | apply Kd.R_alloc | apply Kd.R_drewN | apply Kd.R_drew)); exact cZ.out, xbel⟩
def impl_Seal.f (k : Nat) (l0 : List Int) : Option (List Int × Bool) := if (l0.length : Int) > 3000 then (some (([] : List Int), false)) else ((impl_PutNum.f k (l0.length : Int)).bind fun bE => (if bE.length + l0.length < 140737488355328 then ((some (bE ++ l0 : List Int)).bind fun aZ => ((impl_sumBytes.f k l0).bind fun aU => (if aZ.length + aU.length < 140737488355328 then (some ((aZ ++ aU), true)) else (none)))) else (none)))
theorem impl_Seal.calls {k : Nat} {A0 : Option Addr} {c0 : Nat} {l0 r1 : List Int} {r2 : Bool} {w : World} (h : impl_Seal.f k l0 = some (r1, r2)) (cS : Kd.C (Kd.int .u8) w A0 l0.length l0) (cT : l0.length ≤ c0) :
 Calls Tryz.prog 74 #[.slice A0 l0.length c0] w fun e w' => ∃ v0_ : Value, e = .returned (.tuple #[v0_, .bool r2]) ∧ Kd.R (Kd.int .u8) 5 w' w.heap.size (fun _ => True) v0_ r1 ∧ Below w.heap.size w w' := by
 have dF := aM cS; have eG := aM cT
 clear cS cT
 have HB := aM (Below.refl w.heap.size w); have H := h; unfold impl_Seal.f at H
 clear h
 by_cases c2 : (l0.length : Int) > 3000
 ·rw [if_pos c2] at H; have cY := decide_eq_true c2; have eQ : decide (3000 < l0.length) = true := decide_eq_true (by omega); clear c2; obtain ⟨rfl, rfl⟩ := i2_ H; go_enter Tryz.func74, Tryz.ntmps74
  go_wp2; go_ret2
  exact ⟨_, xerr, by first | exact Kd.R_nil _ _ _ _ _ | exact Kd.N_nil _ _ _ _ _ | exact Kd.V_nil _ _ _ _ _ | exact Kd.Q_nil _ _ _ _ _ | exact Kd.S_nil _ _ _ _ _, xbel⟩
 rw [if_neg c2] at H; have cY := decide_eq_false c2; have eQ : decide (3000 < l0.length) = false := decide_eq_false (by omega); clear c2; replace H := oA_ H; obtain ⟨bE, A3, H⟩ := H; (try dsimp only at H)
 by_cases c4 : bE.length + l0.length < 140737488355328
 ·rw [if_pos c4] at H; have LMc4 := aM c4; clear c4; generalize hY : bE ++ l0 = aZ at H; (try replace H := bS_ H); (try dsimp only at H); have dA := aM hY.symm; clear hY; replace H := oA_ H; obtain ⟨aU, A5, H⟩ := H; (try dsimp only at H)
  replace H := pN_ H; obtain ⟨c6, H⟩ := H; have LMc6 := aM c6; clear c6; generalize hY : aZ ++ aU = dW at H; (try replace H := bS_ H); (try dsimp only at H); have dB := aM hY.symm; clear hY; obtain ⟨rfl, rfl⟩ := i2_ H; go_enter Tryz.func74, Tryz.ntmps74
  go_wp2_with (first | (refine gN_ 95 9 rfl rfl ?_; refine c1_ Tryz.func95 (impl_PutNum.calls A3.out) ?_; rintro dX w7 ⟨dG, hb⟩; have cH := aM (Kd.R_lower dG (below_size xbel)); replace HB := xbs hb; (try clear hb dG)) | ((with_reducible refine gate_builtin (b := .append) (xs := #[.tmp 9, .tmp 10]) rfl ?_); at_builtin; refine Kd.R_append_rows (Kd.int .u8) (w0 := w) w.heap.size rfl (.tmp 9) (.tmp 10) 22 5 (.int .u8 0) 1 rfl Tryz.underlying22 info5 rfl (by decide) (by omega) dX bE l0 _ _ _ (fun _ => True) (fun _ => False) rfl rfl ?aO ?aR (fun _ _ h => h) (fun _ h => h.elim) ?aF ?aB ?aS ?aL ?_; (case aR => exact xcb dF); (case aB => exact xbel); (case aF => exact (fun _ _ => trivial)); (case aO => exact (xr cH)); (case aS => exact (below_size xbel)); (case aL => have := LMc4.out; omega); intro dY w8 ho hb hg hat; rw [← dA.out] at ho; replace HB := aM (hb); have bM := aM (ho); clear cH; clear ho hb hg hat) | (refine gN_ 80 13 rfl rfl ?_; refine c1_ Tryz.func80 (impl_sumBytes.calls A5.out (xcb dF) eG.out) ?_; rintro fG w9 ⟨dG, hb⟩; have bN := aM (Kd.R_lower (Kd.R_new' dG (Kd.R_lt (xr bM))) (below_size xbel)); replace bM := aM (Kd.R_elder' (xr bM) (Kd.R_base dG) hb); replace HB := xbs hb; (try clear hb dG); obtain ⟨eR, eS, eT⟩ := Kd.R_slice bN.out; subst eT) | ((with_reducible refine gate_builtin (b := .append) (xs := #[.tmp 11, .tmp 13]) rfl ?_); at_builtin; refine Kd.R_append_rows (Kd.int .u8) (w0 := w) w.heap.size rfl (.tmp 11) (.tmp 13) 22 5 (.int .u8 0) 1 rfl Tryz.underlying22 info5 rfl (by decide) (by omega) dY aZ aU _ _ _ (fun k_ => some k_ ≠ (.slice eR aU.length eS : Value).ownBlock) (fun _ => False) rfl rfl ?aO ?aR (fun _ _ h => h) (fun _ h => h.elim) ?aF ?aB ?aS ?aL ?_; (case aR => repeat (first | exact (Kd.R_reads' bN.out).2.2 | (with_reducible refine Kd.C_alloc ?_ _) | (with_reducible refine Kd.C_drewN ?_ _) | (with_reducible refine Kd.C_drew ?_))); (case aB => exact xbel); (case aF => exact (fun k_ hk => Kd.fresh' (Kd.R_lt (xr bN)) k_ hk)); (case aO => exact (by (with_reducible repeat (first | apply Kd.R_alloc | apply Kd.R_drewN | apply Kd.R_drew)); exact Kd.R_mono bM.out (fun _ hk => hk.2))); (case aS => exact (below_size xbel)); (case aL => have := LMc6.out; omega); intro fH gF ho hb hg hat; rw [← dB.out] at ho; replace bN := aM (Kd.R_after (ok := (fun _ => True)) (xr bN) hg hat); replace HB := aM (hb); have dC := aM (ho); clear bM; clear ho hb hg hat))
  go_ret2
  exact ⟨_, xerr, by (with_reducible repeat (first | apply Kd.R_alloc | apply Kd.R_drewN | apply Kd.R_drew)); exact Kd.R_mono dC.out (fun _ hk => trivial), xbel⟩
 rw [if_neg c4] at H; cases H
def impl_copyDisk.f (aI : Int) (aA : List (S66)) : Option (Int × (List (S66))) := (some (([] : List (S66)) : List (S66))).bind fun bA => (if bA.length + aA.length < 3518437208883 then (some (aI, (bA ++ aA))) else (none))
def impl_copyDisk.T1 : Bool × List (List Nat × List Nat) := (true, [([], []), ([0], [0]), ([], []), ([], []), ([3], [3]), ([2, 4], [2, 4]), ([1, 5], [1, 5]), ([6, 5, 0, 1, 2, 3, 4, 5, 6], [6])])
def impl_copyDisk.B1 : List Nat := [0, 1, 0, 0, 8, 28, 63, 127]
theorem impl_copyDisk.calls {aI : Int} {bG : Option Addr} {aV : Nat} {aA : List (S66)} {r1 : Int} {r2 : List (S66)} {w : World} (h : impl_copyDisk.f aI aA = some (r1, r2)) (bH : Kd.C k66 w bG aA.length aA) (bO : aA.length ≤ aV) :
 Calls Tryz.prog 27 #[.agg #[.int .i64 aI, .slice bG aA.length aV]] w fun e w' => ∃ v1_ : Value, e = .returned (.agg #[.int .i64 r1, v1_]) ∧ Kd.R k66 66 w' w.heap.size (fun _ => True) v1_ r2 ∧ Below w.heap.size w w' := by
 have eH := Tryz.underlying26; have bR := aM bH; have cR := aM bO
 clear bH bO
 have HB := aM (Below.refl w.heap.size w); have H := h; unfold impl_copyDisk.f at H
 clear h
 obtain ⟨bA, hY⟩ : ∃ y_ : List (S66), y_ = (([] : List (S66))) := ⟨_, rfl⟩; replace H : (if bA.length + aA.length < 3518437208883 then (some (aI, (bA ++ aA))) else (none)) = some (r1, r2) := u22_1; have cI := aM hY
 clear hY
 by_cases c2 : bA.length + aA.length < 3518437208883
 ·rw [if_pos c2] at H; have LMc2 := aM c2; clear c2; generalize hY : bA ++ aA = cU at H; (try replace H := bS_ H); (try dsimp only at H); have dD := aM hY.symm; clear hY; obtain ⟨rfl, rfl⟩ := i2_ H; go_enter Tryz.func27, Tryz.ntmps27
  try go_wp2_with (first | (refine bE_ (N := 1) rfl ?_; intro dE hg w3 aJ hb; have eU := aM (xge hg); have eV := aM (xge hg); replace HB := xbs hb; clear hb hg) | (refine bE_ (N := 2) rfl ?_; intro bB hg w4 aT hb; have eW := aM (xge hg); have eX := aM (xge hg); replace HB := xbs hb; have aK := nblt aJ hg; have bI := nbgt aJ hg; replace aJ := xbb aJ hb; clear hb hg))
  replace aJ := bD aJ; replace aT := bD aT; replace HB := lD HB; refine sb2 8 impl_copyDisk.T1 impl_copyDisk.B1 aJ (fun hHeld HT_ HW_ => ?_); generalize w4.drew = w5 at aJ aT HB hHeld ⊢; refine pV 0 3 ?_; refine pV 3 6 ?_; refine tK 1 4 ?_; refine tK 4 7 ?_; refine oN 2 5 fun K hK => ?_
  refine Kd.R_lit_step k66 _ 66 ?hg (N := 5) ?hd (xs := ([] : List (S66))) (inner := []) (ok := fun _ => True) (okp := fun _ => True) ?hr ?hp (fun _ hk => hk) trivial (Below.refl _ _) (Nat.le_refl _) (by simp) ?_; (case hd => rfl); (case hg => rfl); (case hr => first | (go_simp; done) | (go_simp; rfl)); (case hp => exact (Reps.none _ _)); intro dZ w6 eA hb hg_ hnew_; clear hg_ hnew_; (first | rw [← cI.out] at eA | (simp only [Int.reduceToNat] at eA; rw [← cI.out] at eA)); have bQ := aM (Kd.R_lower eA (below_size xbg)); replace aJ := xbb aJ hb; replace aT := xbb aT hb; replace HB := xbs hb; clear hb eA; refine hK.out _ _ (xe2 aJ) (fun hHeld => ?_); clear hK K; refine nm_ (N := 5) ?_; refine oN 5 8 fun K hK => ?_
  refine Kd.R_append_rows_step k66 (w0 := w) w.heap.size (by rfl) (.tmp 5) (.tmp 7) 24 66 (.agg #[(.int .i64 0), (.string ⟨#[]⟩), (.string ⟨#[]⟩)]) 40 rfl Tryz.underlying24 info66 rfl (by decide) (by omega) dZ bA aA _ _ _ (fun _ => True) (fun _ => False) rfl rfl ?aO ?aR (fun _ _ h => h) (fun _ h => h.elim) ?aF ?aB ?aS ?aL ?_; (case aR => exact xcb bR); (case aB => exact xbg); (case aF => exact (fun _ _ => trivial)); (case aO => exact (xr bQ)); (case aS => exact (below_size xbg)); (case aL => have := LMc2.out; omega); intro fI w8 ho hb hg hat; rw [← dD.out] at ho; replace aJ := aM (blk_grown (g := dE) (o := .cells #[.int .i64 aI, .slice bG aA.length aV] 26 (0, 0)) xblk hg (Kd.R_ne bQ.out aJ.out (by decide))); replace aT := aM (blk_grown (g := bB) (o := .cells #[.int .i64 0, .slice none 0 0] 26 (0, 0)) xblk hg (Kd.R_ne bQ.out aT.out (by decide))); replace HB := aM (hb); have cJ := aM (ho); clear bQ ho hb hg hat; obtain ⟨fV, fW, fJ⟩ := Kd.R_slice cJ.out; (first | subst fJ | (injection fJ with f1_ f2_ f3_; have f4_ := f1_.symm; have f5_ := f3_.symm; clear f1_ f2_ f3_; subst f4_; subst f5_)); refine hK.out _ _ (xe2 aJ) (fun hHeld => ?_); clear hK K; refine nm_ (N := 8) ?_; refine pV 6 9 ?_; refine one_ (i := 7) (N := none) #[true, true, true, true, true, true, true, true] rfl rfl (one_of HT_.out (by kernel_rfl)) (by decide) (fun K hK => ?_); have hs10 : w8.cell? ⟨bB, 0, none⟩ = some (.int .i64 0) := xc aT 0 rfl; have hfs10 := blk_frozen aT.out 0; have hns10_0 := a2_ aK bI; have hs11 : w8.cell? ⟨bB, 1, none⟩ = some (.slice none 0 0) := xc aT 1 rfl; have hfs11 := blk_frozen aT.out 1; have hns11_0 := a2_ aK bI; refine skip_ (w1 := ?_) (by rfl) rfl ?_ ?_; rotate_left
  ·go_simp
   rfl
  refine hK.out _ _ ⟨(xF_ hHeld.1), (xF_ hHeld.2)⟩ (fun hHeld => ?_); clear hK K; refine dn_ ?_; try go_wp2
  refine bodyPost_ret (results_cell_row rfl _ _ bB 26 #[.int .i64 aI, .slice fV cU.length fW] (0, 0) _ rfl xP Tryz.underlying26 rfl (by kernel_rfl)) rfl ?_; exact ⟨_, xerr, xrm cJ (fun _ _ => trivial), xbg⟩
 rw [if_neg c2] at H; cases H
def idxName : List S66 → Int → Int → Int
  | [], _, _ => -1
  | x :: t, nm, i => if x.f0 = nm then i else idxName t nm (i + 1)
def impl_fileAt.f (aI : Int) (aA : List S66) (a1 : Int) : Option (Int) := some (idxName aA a1 0)
theorem idxName_drop (l : List S66) (nm i : Int) (h0 : 0 ≤ i) (h1 : i < l.length) : idxName (l.drop i.toNat) nm i = if (rd_T66 l i).f0 = nm then i else idxName (l.drop (i + 1).toNat) nm (i + 1) := by
  have hlt : i.toNat < l.length := by omega
  have e : (i + 1).toNat = i.toNat + 1 := by omega
  rw [List.drop_eq_getElem_cons hlt, e, idxName]; unfold rd_T66; rw [List.getD_eq_getElem?_getD, List.getElem?_eq_getElem hlt]; rfl
theorem fileAt_pred (x : S66) (nm : Int) (B : Nat) (w W : World) (hB : B < w.heap.size) (hb : Below w.heap.size w W) (hcell : w.cell? ⟨B, 0, none⟩ = some (.int .i64 nm)) :
    Calls Tryz.prog 98 #[.agg #[.int .i64 x.f0, .string x.f1, .string x.f2], .pointer (some ⟨B, 0, none⟩)] W fun e w' => e = .returned (.bool (x.f0 == nm)) ∧ Below w.heap.size w w' := by
  have hc : W.cell? ⟨B, 0, none⟩ = some (.int .i64 nm) := (hb.cell (p := ⟨B, 0, none⟩) hB).trans hcell; have hBW : B < W.heap.size := Nat.lt_of_lt_of_le hB hb.size; have hne : B ≠ W.heap.size := by omega
  go_enter Tryz.func98, Tryz.ntmps98
  go_wp2; go_ret
  exact ⟨rfl, hb.alloc hb.size _⟩
theorem fileAt_idx (A : Option Addr) (c : Nat) (l : List S66) (nm : Int) (B : Nat) (w : World) (hC : Kd.C k66 w A l.length l) (hB : B < w.heap.size) (hcell : w.cell? ⟨B, 0, none⟩ = some (.int .i64 nm)) :
    Calls Tryz.prog 97 #[.slice A l.length c, .func (.func 98) #[] #[.pointer (some ⟨B, 0, none⟩)]] w fun e w' => e = .returned (.int .i64 (idxName l nm 0)) ∧ Below w.heap.size w w' := by
  have eg : ∀ args w, (callFunc 98 args).run Tryz.prog w = .ok (.enter 98 args) w := Go.Proofs.enters_of Tryz.func98 (by kernel_rfl) rfl; have hu := Tryz.underlying66; have hpred := fun x W hb => fileAt_pred x nm B w W hB hb hcell
  have hmax := hC.2.1; have HC := Aside0.mk hC; clear hC hcell; go_enter Tryz.func97, Tryz.ntmps97
  go_wp2; go_loopg [5, 8] l.length (fun gg _ s8 wr => ∃ i : Int, 0 ≤ i ∧ i ≤ l.length ∧ l.length - i.toNat ≤ gg ∧ s8 = .int .i64 i ∧ Aside0 (Below w.heap.size w wr) ∧ Aside0 (idxName l nm 0 = idxName (l.drop i.toNat) nm i))
  case atStart => exact ⟨0, by omega, by omega, by omega, rfl, ⟨Below.refl _ w⟩, ⟨rfl⟩⟩
  case round =>
    obtain ⟨i, h0, h1, hg, rfl, BW, AI⟩ := hrel; by_cases hlt : i < (l.length : Int)
    · have hs := idxName_drop l nm i h0 hlt; obtain ⟨ad, rfl, eY, eD, eZ⟩ := at_T66 HC.out i h0 hlt; replace eY := (BW.out.cell (World.block_lt_of_cell? w _ eY)).trans eY; replace eD := (BW.out.cell (World.block_lt_of_cell? w _ eD)).trans eD; replace eZ := (BW.out.cell (World.block_lt_of_cell? w _ eZ)).trans eZ; have hcall := hpred (rd_T66 l i) wr BW.out; clear hpred; by_cases hq : (rd_T66 l i).f0 = nm
      · have eB : ((rd_T66 l i).f0 == nm) = true := by simpa using hq
        rw [eB] at hcall; rw [if_pos hq] at hs; have HS := Aside0.mk hs; clear hs hq eB; go_wp2_with (go_at_fn 98; refine hcall.mono ?_; rintro e w' ⟨rfl, hb'⟩)
        go_ret
        exact ⟨by rw [AI.out, HS.out]; rfl, hb'⟩
      have eB : ((rd_T66 l i).f0 == nm) = false := by simpa using hq
      rw [eB] at hcall; rw [if_neg hq] at hs; have HS := Aside0.mk hs; clear hs hq eB; go_wp2_with (go_at_fn 98; refine hcall.mono ?_; rintro e w' ⟨rfl, hb'⟩)
      go_roundg (l.length - (i + 1).toNat)
      case measure => omega
      case rel => exact ⟨i + 1, by omega, by omega, by omega, rfl, ⟨hb'⟩, ⟨AI.out.trans HS.out⟩⟩
    have : i = l.length := by omega
    have hs : idxName (l.drop i.toNat) nm i = -1 := by rw [List.drop_eq_nil_of_le (by omega)]; rfl
    have HS := Aside0.mk hs; clear hs this; go_wp2; go_ret
    exact ⟨by rw [AI.out, HS.out]; rfl, BW.out⟩
theorem impl_fileAt.calls {aI : Int} {bG : Option Addr} {aV : Nat} {aA : List S66} {a1 r : Int} {w : World} (h : impl_fileAt.f aI aA a1 = some r) (bH : Kd.C k66 w bG aA.length aA) (bO : aA.length ≤ aV) :
    Calls Tryz.prog 76 #[.agg #[.int .i64 aI, .slice bG aA.length aV], .int .i64 a1] w fun e w' => e = .returned (.int .i64 r) ∧ Below w.heap.size w w' := by
  obtain rfl := Option.some.inj h; clear h; have hu := Tryz.underlying26; have hcon := fun (W : World) (hb : Below w.heap.size w W) (hB : w.heap.size + 1 < W.heap.size) (hc : W.cell? ⟨w.heap.size + 1, 0, none⟩ = some (.int .i64 a1)) => (fileAt_idx bG aV aA a1 (w.heap.size + 1) W (Kd.C_below bH hb) hB hc)
  clear bH; go_enter Tryz.func76, Tryz.ntmps76
  go_wp2_with (go_at_call 97; refine (hcon _ ?_ ?_ ?_).mono ?_; (exact ((Below.refl _ w).alloc (Nat.le_refl _) _).alloc (by simp) _); simp; simp; rintro e w' ⟨rfl, hb'⟩)
  go_ret
  exact ⟨rfl, (((Below.refl _ w).alloc (Nat.le_refl _) _).alloc (by simp) _).trans (hb'.mono (by simp; omega))⟩
end Go.Proofs.YtppfnnpfamkclaaGreat.QFnSaved
