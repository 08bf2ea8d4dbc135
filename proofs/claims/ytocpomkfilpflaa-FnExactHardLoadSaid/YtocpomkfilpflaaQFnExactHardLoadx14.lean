-- A walk, by a program of this session.
import Derived.Test.YtocpomkfilpflaaQFnExactHardLoadx0
import Derived.Test.YtocpomkfilpflaaQFnExactHardLoadx9
import Derived.Test.YtocpomkfilpflaaQFnExactHardLoadx13
namespace Go.Proofs.Ytocpomkfilpflaa.QFnExactHardLoad
open Go.RowKit Go.Proofs.YtocpomkfilpflaaW.PrintWords Go.Proofs.YtocpomkfilpflaaW.PrintLast Go.Proofs.YtocpomkfilpflaaW.PrintMore
attribute [local go_sem] max2_int min2_int max_two min_two max_three min_three max_four min_four   -- for this text's walks alone
set_option linter.unusedVariables false
set_option linter.unusedSimpArgs false

theorem u14_0 {p : Prop} (h : p := by first | rfl | (simp; done) | (simp [*]; done)) : p := h
theorem u14_1 {p : Prop} (h : p := by first | rfl | (simp [errW_none, errW_some] <;> rfl) | (simp [*, errW_none, errW_some] <;> rfl)) : p := h
theorem u14_2 {p : Prop} (h : p := by repeat (first | exact Drawn0.refl _ | apply Drawn0.step)) : p := h
/-! ### impl_DiskOk: function 94 -/
def impl_DiskOk.l0 : Nat → List (S112) → Int → Int → Int → List (S112) → Option (Bool)
 | 0, _, _, _, _, _ => none
 | k + 1, x6, x7, x8, bG, bH => if x8 < x7 then (if 0 ≤ x8 then (if x8 < (x6.length : Int) then ((impl_isFile.f ((rd_T112 x6 x8).f0)).bind fun dM => (if dM = true then (if x8 > 0 then (if 0 ≤ (wrap64 (x8 - 1)) then (if (wrap64 (x8 - 1)) < (bH.length : Int) then (if ((rd_T112 bH (wrap64 (x8 - 1))).f0) ≥ ((rd_T112 x6 x8).f0) then (some false) else (impl_DiskOk.l0 k x6 x7 (wrap64 (x8 + 1)) bG bH)) else (none)) else (none)) else (impl_DiskOk.l0 k x6 x7 (wrap64 (x8 + 1)) bG bH)) else (some false))) else (none)) else (none)) else ((impl_within.f bG 0 40000).bind fun dN => (if dN = true then ((impl_sizeOf.f k bG bH).bind fun dO => (some (decide (dO ≤ bG)))) else (some false)))
def impl_DiskOk.f (k : Nat) (aG : Int) (aA : List (S112)) : Option (Bool) := impl_DiskOk.l0 k aA (aA.length : Int) 0 aG aA
theorem u14_mq0 {p : Prop} (h : p := by repeat' first | (with_reducible first | exact dP _ _ _ _ _ | exact impl_sizeOf.mono _ _ _ | exact LeO.refl _ | exact LeO.none _ | refine LeO.ite ?_ ?_ | refine LeO.bind ?_ (fun _ => ?_)) | exact dP _ _ _ _ _ | exact impl_sizeOf.mono _ _ _ | exact LeO.none _ | refine LeO.ite ?_ ?_ | refine LeO.bind ?_ (fun _ => ?_)) : p := h
set_option maxRecDepth 100000 in
theorem impl_DiskOk.mono_l : ∀ k, (∀ y0 y1 y2 y3 y4, LeO (impl_DiskOk.l0 k y0 y1 y2 y3 y4) (impl_DiskOk.l0 (k + 1) y0 y1 y2 y3 y4))
 | 0 => fun _ _ _ _ _ r h => by simp [impl_DiskOk.l0] at h
 | k + 1 => by
  have dP := impl_DiskOk.mono_l k
  ·intro y0 y1 y2 y3 y4; unfold impl_DiskOk.l0; exact u14_mq0
theorem impl_DiskOk.mono : ∀ a0 a1 k, LeO (impl_DiskOk.f k a0 a1) (impl_DiskOk.f (k + 1) a0 a1) := by
 intro a0 a1 k
 have dP := impl_DiskOk.mono_l k
 unfold impl_DiskOk.f
 exact u14_mq0
def impl_DiskOk.T4 : Bool × List (List Nat × List Nat) := (true, [([], []), ([0], [0]), ([1], [1]), ([2], [2]), ([3, 2], [3]), ([4], [4]), ([5, 4], [4, 5]), ([6, 4, 4], [4, 6]), ([7], [7]), ([8, 7], [7, 8]), ([7], [7]), ([10, 7], [7, 10]), ([9, 11, 7], [7, 9, 11]), ([12, 7], [7, 12]), ([13, 7], [7, 13]), ([7], [7]), ([15, 7], [7, 15]), ([14, 16, 7], [7, 14, 16]), ([7, 17, 4], [4, 7, 17]), ([4, 18], [4, 18])])
def impl_DiskOk.B4 : List Nat := [0, 1, 3, 7, 15, 31, 63, 127, 255, 511, 255, 1279, 4095, 8191, 16383, 255, 33023, 131071, 262143, 524287]
theorem impl_DiskOk.tab4 : rtab .any (opsOf Try.f94 4) = impl_DiskOk.T4 := by kernel_rfl
theorem impl_DiskOk.bits4 : waitsOk impl_DiskOk.T4.2 impl_DiskOk.B4 = true := by kernel_rfl
def impl_DiskOk.T7 : Bool × List (List Nat × List Nat) := (true, [([], []), ([0], [0]), ([1], [1]), ([2, 2], [2]), ([3], [3]), ([4, 3, 3], [3, 4]), ([3], [3]), ([6, 3], [3, 6]), ([5, 7, 3], [3, 5, 7]), ([3, 8], [3, 8]), ([9, 5, 0, 1, 2, 3, 4, 5, 6, 7, 8, 9], [9])])
def impl_DiskOk.B7 : List Nat := [0, 1, 3, 7, 15, 31, 15, 79, 255, 511, 1023]
theorem impl_DiskOk.tab7 : rtab .any (opsOf Try.f94 7) = impl_DiskOk.T7 := by kernel_rfl
theorem impl_DiskOk.bits7 : waitsOk impl_DiskOk.T7.2 impl_DiskOk.B7 = true := by kernel_rfl
set_option maxHeartbeats 8000000 in
set_option maxRecDepth 100000 in
theorem impl_DiskOk.calls (k : Nat) (aG : Int) (bC : Option Addr) (aV : Nat) (aA : List (S112)) (r : Bool) (w : World) (bV : Kd.C k112 w bC aA.length aA) (bW : aA.length ≤ aV) (h : impl_DiskOk.f k aG aA = some r) :
 Calls Try.prog 94 #[.agg #[.int .i64 aG, .slice bC aA.length aV]] w fun e w' => e = .returned (.bool r) ∧ Below w.heap.size w w' := by
 have fK := Try.underlying55
 have fQ := Try.underlying112
 have aI := aM bV
 have aL := aM bW
 clear bV bW
 have HB := aM (Below.refl w.heap.size w)
 have H : (impl_DiskOk.l0 k aA (aA.length : Int) 0 aG aA) = some r := h
 clear h
 have H' := aM H
 clear H
 go_enter Try.func94, Try.ntmps94
 go_wp2_with (first | ((with_reducible refine gD 1 rfl ?_); refine boxE (N := 1) rfl (cs := #[.int .i64 aG, .slice bC aA.length aV]) (t := 55) ?_; intro bI hg w2 hbox hb; have aE := aM (hbox); have fR := aM (xge hg); have fS := aM (xge hg); replace HB := xbs hb; clear hb hbox hg; obtain ⟨dQ, dR, dS, dU⟩ := xf2 (w := w2) aE))
 go_loopg [8] k (fun kq v8 w' => ∃ (aB : Int), v8 = .int .i64 aB ∧ Aside0 (impl_DiskOk.l0 kq aA (aA.length : Int) aB aG aA = some r) ∧ Aside0 (kq ≤ k) ∧ Aside0 (w'.heap[bI]? = some (.cells #[.int .i64 aG, (.slice bC aA.length aV)] 55 (0, 0))) ∧ Aside0 (Below w.heap.size w w'))
 case atStart => exact ⟨(0), u14_0, H', ⟨Nat.le_refl _⟩, ⟨xblk⟩, ⟨xbg⟩⟩
 case round =>
  clear H'; try clear p2
  try clear dQ dR dS dU
  obtain ⟨aB, rfl, HA, HK1, aE, HB⟩ := hrel; cases gk with
  | zero => exact absurd HA.out (by simp [impl_DiskOk.l0])
  | succ k1 =>
   have H := HA.out; clear HA; simp only [impl_DiskOk.l0] at H; by_cases c4 : aB < (aA.length : Int)
   ·rw [if_pos c4] at H; have dY : decide (aB < (aA.length : Int)) = true := decide_eq_true c4; clear c4; by_cases c5 : 0 ≤ aB
    ·rw [if_pos c5] at H; have gQ : decide (0 ≤ aB) = true := decide_eq_true c5; clear c5; by_cases c6 : aB < (aA.length : Int)
     ·rw [if_pos c6] at H; have dZ : decide (aB < (aA.length : Int)) = true := decide_eq_true c6; clear c6; replace H := oB H; obtain ⟨dM, fT, H⟩ := H; (try dsimp only at H); have A7 := aM fT; clear fT
      by_cases c8 : dM = true
      ·subst c8; replace H := iT H; by_cases c9 : aB > 0
       ·rw [if_pos c9] at H; have fL : decide (0 < aB) = true := decide_eq_true c9; clear c9; obtain ⟨ji10, hji10⟩ : ∃ j_ : Int, (wrap64 (aB - 1)) = j_ := ⟨_, rfl⟩; replace H : (if 0 ≤ (ji10) then (if (ji10) < (aA.length : Int) then (if ((rd_T112 aA (ji10)).f0) ≥ ((rd_T112 aA aB).f0) then (some false) else (impl_DiskOk.l0 k1 aA (aA.length : Int) (wrap64 (aB + 1)) aG aA)) else (none)) else (none)) = some r := by first | (rw [hji10] at H; exact H) | (simp only [hji10] at H ⊢; exact H)
        (try rw [hji10] at A7); have hji10w : (IntKind.i64.wrap (aB - 1)) = ji10 := (i64_w _).trans hji10; by_cases eN : 0 ≤ (ji10)
        ·rw [if_pos eN] at H; have fU : decide (0 ≤ (ji10)) = true := decide_eq_true eN; clear eN; by_cases dI : (ji10) < (aA.length : Int)
         ·rw [if_pos dI] at H; have eA : decide ((ji10) < (aA.length : Int)) = true := decide_eq_true dI; clear dI; by_cases cV : ((rd_T112 aA (ji10)).f0) ≥ ((rd_T112 aA aB).f0)
          ·rw [if_pos cV] at H; have dK : decide (((rd_T112 aA aB).f0) ≤ ((rd_T112 aA (ji10)).f0)) = true := decide_eq_true cV; clear cV; obtain rfl := Option.some.inj H; have p382 : 0 ≤ (aB : Int) := oda; have q382 : aB < (aA.length : Int) := oda; obtain ⟨aJ, cA, aN, aO, aP⟩ := at_T112 aI.out aB p382 q382; cases cA
           replace aN := xce HB aN; replace aO := xce HB aO; replace aP := xce HB aP; replace p382 := eq_true p382; replace q382 := eq_true q382; try go_wp2_with (first | ((with_reducible refine gD 4 rfl ?_); refine boxE (N := 4) rfl (cs := #[.int .i64 0, .string (⟨#[]⟩ : ByteArray), .string (⟨#[]⟩ : ByteArray)]) (t := 112) ?_; intro aC hg eB hbox hb; have cW := aM (xge hg); have cX := aM (xge hg); replace HB := xbs hb; have aQ := nblt aE hg; have aR := nbgt aE hg; replace aE := xbb aE hb; have aF := aM (hbox); clear hb hbox hg; have fV := aR.out; have fW := aQ.out; obtain ⟨bP, bQ, eO, bR, bU, eP⟩ := xf3 (w := eB) aF))
           have n0_ : Aside0 ((((eB.setCell ⟨aC, 0, none⟩ (.int .i64 ((rd_T112 aA aB).f0))).setCell ⟨aC, 1, none⟩ (.string ((rd_T112 aA aB).f1))).setCell ⟨aC, 2, none⟩ (.string ((rd_T112 aA aB).f2))).heap[bI]? = some (.cells #[.int .i64 aG, .slice (some aJ) aA.length aV] 55 (0, 0))) := ⟨xB⟩; have n1_ : Aside0 ((((eB.setCell ⟨aC, 0, none⟩ (.int .i64 ((rd_T112 aA aB).f0))).setCell ⟨aC, 1, none⟩ (.string ((rd_T112 aA aB).f1))).setCell ⟨aC, 2, none⟩ (.string ((rd_T112 aA aB).f2))).heap[aC]? = some (.cells #[.int .i64 ((rd_T112 aA aB).f0), .string ((rd_T112 aA aB).f1), .string ((rd_T112 aA aB).f2)] 112 (0, 0))) := ⟨xP⟩; have n2_ : Aside0 (Below w.heap.size w (((eB.setCell ⟨aC, 0, none⟩ (.int .i64 ((rd_T112 aA aB).f0))).setCell ⟨aC, 1, none⟩ (.string ((rd_T112 aA aB).f1))).setCell ⟨aC, 2, none⟩ (.string ((rd_T112 aA aB).f2)))) := ⟨xbg⟩; (try clear aE); (try clear aF); (try clear HB)
           generalize (((eB.setCell ⟨aC, 0, none⟩ (.int .i64 ((rd_T112 aA aB).f0))).setCell ⟨aC, 1, none⟩ (.string ((rd_T112 aA aB).f1))).setCell ⟨aC, 2, none⟩ (.string ((rd_T112 aA aB).f2))) = dV at n0_ n1_ n2_ ⊢; have aE := n0_; have aF := n1_; have HB := n2_; clear n0_ n1_ n2_; replace aE := bD aE; replace aF := bD aF; replace HB := lD HB; have p385 : 0 ≤ ((ji10) : Int) := oda; have q385 : (ji10) < (aA.length : Int) := oda; obtain ⟨cY, dW, aS, aT, aU⟩ := at_T112 aI.out (ji10) p385 q385; have bJ := aU; have bK := aT; have bL := aS; obtain rfl : aJ = cY := (by injection dW); replace aS := xce HB aS; replace aT := xce HB aT; replace aU := xce HB aU; replace p385 := eq_true p385; replace q385 := eq_true q385; refine st_ 20 (fun w' => w'.cell? ⟨aC, 0, none⟩ = some (.int .i64 ((rd_T112 aA aB).f0)) ∧ w'.cell? ⟨aC, 1, none⟩ = some (.string ((rd_T112 aA aB).f1)) ∧ w'.cell? ⟨aC, 2, none⟩ = some (.string ((rd_T112 aA aB).f2)) ∧ w'.cell? ⟨bI, 0, none⟩ = some (.int .i64 aG) ∧ w'.cell? ⟨bI, 1, none⟩ = some (.slice (some aJ) aA.length aV) ∧ w'.cell? (aJ.add (((ji10)).toNat * 3)) = some (.int .i64 ((rd_T112 aA (ji10)).f0)) ∧ w'.cell? ⟨(aJ.add (((ji10)).toNat * 3)).block, (aJ.add (((ji10)).toNat * 3)).off + 1, none⟩ = some (.string ((rd_T112 aA (ji10)).f1)) ∧ w'.cell? ⟨(aJ.add (((ji10)).toNat * 3)).block, (aJ.add (((ji10)).toNat * 3)).off + 2, none⟩ = some (.string ((rd_T112 aA (ji10)).f2))) impl_DiskOk.tab4 impl_DiskOk.bits4 ⟨xc aF 0 rfl, xc aF 1 rfl, xc aF 2 rfl, xc aE 0 rfl, xc aE 1 rfl, (xce HB bL), (xce HB bK), (xce HB bJ)⟩ (fun hHeld HT_ HW_ => ?_); generalize dV.drew = gX at aE aF HB aS aT aU hHeld ⊢; refine pv_ 0 13 (h := ?_); refine tk_ 1 14 (h := ?_); refine on_ 2 15 (h := fun K hK => ?_); refine goesY Try.func102 #[.int .i64 ((rd_T112 aA aB).f0)] ?_; with_reducible refine (impl_isFile.calls ((rd_T112 aA aB).f0) true _ A7.out).mono ?_
           rintro e w' ⟨rfl, ⟨nd, rfl⟩⟩; refine ⟨_, rfl, ?_⟩; refine hK.out _ _ ⟨xc aF 0 rfl, xc aF 1 rfl, xc aF 2 rfl, xc aE 0 rfl, xc aE 1 rfl, (xce HB bL), (xce HB bK), (xce HB bJ)⟩ (fun hHeld => ?_); clear hK K; refine nm_ (N := 15) ?_; refine pv_ 3 16 (h := ?_); refine pv_ 4 17 (h := ?_); refine pv_ 5 18 (h := ?_); refine pv_ 6 19 (h := ?_); refine pv_ 7 20 (h := ?_); refine pv_ 8 21 (h := ?_); refine pv_ 10 23 (h := ?_); refine pv_ 11 24 (h := ?_); refine pv_ 15 28 (h := ?_); refine tk_ 9 22 (h := ?_); refine pv_ 12 25 (h := ?_); refine pv_ 13 26 (h := ?_); refine tk_ 14 27 (h := ?_); refine tk_ 16 29 (h := ?_); refine pv_ 17 30 (h := ?_); refine pv_ 18 31 (h := ?_); refine pv_ 19 32 (h := ?_); refine dn_ ?_; try go_wp2
           go_ret
           exact ⟨by first | rfl | (simp [errW_none, errW_some] <;> rfl) | (simp only [← hji10]; first | rfl | (simp [errW_none, errW_some] <;> rfl)) | (simp [*, errW_none, errW_some] <;> rfl), xbg⟩
          ·rw [if_neg cV] at H; have dK : decide (((rd_T112 aA aB).f0) ≤ ((rd_T112 aA (ji10)).f0)) = false := decide_eq_false cV; clear cV; have H' := aM H; clear H; have p382 : 0 ≤ (aB : Int) := oda; have q382 : aB < (aA.length : Int) := oda; obtain ⟨aJ, cA, aN, aO, aP⟩ := at_T112 aI.out aB p382 q382; cases cA
           replace aN := xce HB aN; replace aO := xce HB aO; replace aP := xce HB aP; replace p382 := eq_true p382; replace q382 := eq_true q382; try go_wp2_with (first | ((with_reducible refine gD 4 rfl ?_); refine boxE (N := 4) rfl (cs := #[.int .i64 0, .string (⟨#[]⟩ : ByteArray), .string (⟨#[]⟩ : ByteArray)]) (t := 112) ?_; intro aC hg cZ hbox hb; have cW := aM (xge hg); have cX := aM (xge hg); replace HB := xbs hb; have aQ := nblt aE hg; have aR := nbgt aE hg; replace aE := xbb aE hb; have aF := aM (hbox); clear hb hbox hg; have fX := aR.out; have fY := aQ.out; obtain ⟨eQ, eR, eS, eT, eU, eV⟩ := xf3 (w := cZ) aF))
           have n0_ : Aside0 ((((cZ.setCell ⟨aC, 0, none⟩ (.int .i64 ((rd_T112 aA aB).f0))).setCell ⟨aC, 1, none⟩ (.string ((rd_T112 aA aB).f1))).setCell ⟨aC, 2, none⟩ (.string ((rd_T112 aA aB).f2))).heap[bI]? = some (.cells #[.int .i64 aG, .slice (some aJ) aA.length aV] 55 (0, 0))) := ⟨xB⟩; have n1_ : Aside0 ((((cZ.setCell ⟨aC, 0, none⟩ (.int .i64 ((rd_T112 aA aB).f0))).setCell ⟨aC, 1, none⟩ (.string ((rd_T112 aA aB).f1))).setCell ⟨aC, 2, none⟩ (.string ((rd_T112 aA aB).f2))).heap[aC]? = some (.cells #[.int .i64 ((rd_T112 aA aB).f0), .string ((rd_T112 aA aB).f1), .string ((rd_T112 aA aB).f2)] 112 (0, 0))) := ⟨xP⟩; have n2_ : Aside0 (Below w.heap.size w (((cZ.setCell ⟨aC, 0, none⟩ (.int .i64 ((rd_T112 aA aB).f0))).setCell ⟨aC, 1, none⟩ (.string ((rd_T112 aA aB).f1))).setCell ⟨aC, 2, none⟩ (.string ((rd_T112 aA aB).f2)))) := ⟨xbg⟩; (try clear aE); (try clear aF); (try clear HB)
           generalize (((cZ.setCell ⟨aC, 0, none⟩ (.int .i64 ((rd_T112 aA aB).f0))).setCell ⟨aC, 1, none⟩ (.string ((rd_T112 aA aB).f1))).setCell ⟨aC, 2, none⟩ (.string ((rd_T112 aA aB).f2))) = gR at n0_ n1_ n2_ ⊢; have aE := n0_; have aF := n1_; have HB := n2_; clear n0_ n1_ n2_; replace aE := bD aE; replace aF := bD aF; replace HB := lD HB; have p385 : 0 ≤ ((ji10) : Int) := oda; have q385 : (ji10) < (aA.length : Int) := oda; obtain ⟨cY, dW, aS, aT, aU⟩ := at_T112 aI.out (ji10) p385 q385; have bJ := aU; have bK := aT; have bL := aS; obtain rfl : aJ = cY := (by injection dW); replace aS := xce HB aS; replace aT := xce HB aT; replace aU := xce HB aU; replace p385 := eq_true p385; replace q385 := eq_true q385; refine st_ 20 (fun w' => w'.cell? ⟨aC, 0, none⟩ = some (.int .i64 ((rd_T112 aA aB).f0)) ∧ w'.cell? ⟨aC, 1, none⟩ = some (.string ((rd_T112 aA aB).f1)) ∧ w'.cell? ⟨aC, 2, none⟩ = some (.string ((rd_T112 aA aB).f2)) ∧ w'.cell? ⟨bI, 0, none⟩ = some (.int .i64 aG) ∧ w'.cell? ⟨bI, 1, none⟩ = some (.slice (some aJ) aA.length aV) ∧ w'.cell? (aJ.add (((ji10)).toNat * 3)) = some (.int .i64 ((rd_T112 aA (ji10)).f0)) ∧ w'.cell? ⟨(aJ.add (((ji10)).toNat * 3)).block, (aJ.add (((ji10)).toNat * 3)).off + 1, none⟩ = some (.string ((rd_T112 aA (ji10)).f1)) ∧ w'.cell? ⟨(aJ.add (((ji10)).toNat * 3)).block, (aJ.add (((ji10)).toNat * 3)).off + 2, none⟩ = some (.string ((rd_T112 aA (ji10)).f2))) impl_DiskOk.tab4 impl_DiskOk.bits4 ⟨xc aF 0 rfl, xc aF 1 rfl, xc aF 2 rfl, xc aE 0 rfl, xc aE 1 rfl, (xce HB bL), (xce HB bK), (xce HB bJ)⟩ (fun hHeld HT_ HW_ => ?_); generalize gR.drew = dX at aE aF HB aS aT aU hHeld ⊢; refine pv_ 0 13 (h := ?_); refine tk_ 1 14 (h := ?_); refine on_ 2 15 (h := fun K hK => ?_); refine goesY Try.func102 #[.int .i64 ((rd_T112 aA aB).f0)] ?_; with_reducible refine (impl_isFile.calls ((rd_T112 aA aB).f0) true _ A7.out).mono ?_
           rintro e w' ⟨rfl, ⟨nd, rfl⟩⟩; refine ⟨_, rfl, ?_⟩; refine hK.out _ _ ⟨xc aF 0 rfl, xc aF 1 rfl, xc aF 2 rfl, xc aE 0 rfl, xc aE 1 rfl, (xce HB bL), (xce HB bK), (xce HB bJ)⟩ (fun hHeld => ?_); clear hK K; refine nm_ (N := 15) ?_; refine pv_ 3 16 (h := ?_); refine pv_ 4 17 (h := ?_); refine pv_ 5 18 (h := ?_); refine pv_ 6 19 (h := ?_); refine pv_ 7 20 (h := ?_); refine pv_ 8 21 (h := ?_); refine pv_ 10 23 (h := ?_); refine pv_ 11 24 (h := ?_); refine pv_ 15 28 (h := ?_); refine tk_ 9 22 (h := ?_); refine pv_ 12 25 (h := ?_); refine pv_ 13 26 (h := ?_); refine tk_ 14 27 (h := ?_); refine tk_ 16 29 (h := ?_); refine pv_ 17 30 (h := ?_); refine pv_ 18 31 (h := ?_); refine pv_ 19 32 (h := ?_); refine dn_ ?_; try go_wp2
           go_roundg k1
           case measure => have := HK1.out; omega
           case rel => exact ⟨(wrap64 (aB + 1)), u14_0, H', ⟨by have := HK1.out; omega⟩, ⟨xblk⟩, ⟨xbg⟩⟩
         ·rw [if_neg dI] at H; exact absurd H (by simp)
        ·rw [if_neg eN] at H; exact absurd H (by simp)
       ·rw [if_neg c9] at H; have fL : decide (0 < aB) = false := decide_eq_false c9; clear c9; have H' := aM H; clear H; have p382 : 0 ≤ (aB : Int) := oda; have q382 : aB < (aA.length : Int) := oda; obtain ⟨aJ, cA, aN, aO, aP⟩ := at_T112 aI.out aB p382 q382; cases cA
        replace aN := xce HB aN; replace aO := xce HB aO; replace aP := xce HB aP; replace p382 := eq_true p382; replace q382 := eq_true q382; try go_wp2_with (first | ((with_reducible refine gD 4 rfl ?_); refine boxE (N := 4) rfl (cs := #[.int .i64 0, .string (⟨#[]⟩ : ByteArray), .string (⟨#[]⟩ : ByteArray)]) (t := 112) ?_; intro aC hg eC hbox hb; have cW := aM (xge hg); have cX := aM (xge hg); replace HB := xbs hb; have aQ := nblt aE hg; have aR := nbgt aE hg; replace aE := xbb aE hb; have aF := aM (hbox); clear hb hbox hg; have fZ := aR.out; have gA := aQ.out; obtain ⟨eW, eX, eY, eZ, fA, fB⟩ := xf3 (w := eC) aF))
        have n0_ : Aside0 ((((eC.setCell ⟨aC, 0, none⟩ (.int .i64 ((rd_T112 aA aB).f0))).setCell ⟨aC, 1, none⟩ (.string ((rd_T112 aA aB).f1))).setCell ⟨aC, 2, none⟩ (.string ((rd_T112 aA aB).f2))).heap[bI]? = some (.cells #[.int .i64 aG, .slice (some aJ) aA.length aV] 55 (0, 0))) := ⟨xB⟩; have n1_ : Aside0 ((((eC.setCell ⟨aC, 0, none⟩ (.int .i64 ((rd_T112 aA aB).f0))).setCell ⟨aC, 1, none⟩ (.string ((rd_T112 aA aB).f1))).setCell ⟨aC, 2, none⟩ (.string ((rd_T112 aA aB).f2))).heap[aC]? = some (.cells #[.int .i64 ((rd_T112 aA aB).f0), .string ((rd_T112 aA aB).f1), .string ((rd_T112 aA aB).f2)] 112 (0, 0))) := ⟨xP⟩; have n2_ : Aside0 (Below w.heap.size w (((eC.setCell ⟨aC, 0, none⟩ (.int .i64 ((rd_T112 aA aB).f0))).setCell ⟨aC, 1, none⟩ (.string ((rd_T112 aA aB).f1))).setCell ⟨aC, 2, none⟩ (.string ((rd_T112 aA aB).f2)))) := ⟨xbg⟩; (try clear aE); (try clear aF); (try clear HB)
        generalize (((eC.setCell ⟨aC, 0, none⟩ (.int .i64 ((rd_T112 aA aB).f0))).setCell ⟨aC, 1, none⟩ (.string ((rd_T112 aA aB).f1))).setCell ⟨aC, 2, none⟩ (.string ((rd_T112 aA aB).f2))) = gS at n0_ n1_ n2_ ⊢; have aE := n0_; have aF := n1_; have HB := n2_; clear n0_ n1_ n2_; replace aE := bD aE; replace aF := bD aF; replace HB := lD HB; refine st_ 20 (fun w' => w'.cell? ⟨aC, 0, none⟩ = some (.int .i64 ((rd_T112 aA aB).f0)) ∧ w'.cell? ⟨aC, 1, none⟩ = some (.string ((rd_T112 aA aB).f1)) ∧ w'.cell? ⟨aC, 2, none⟩ = some (.string ((rd_T112 aA aB).f2))) impl_DiskOk.tab4 impl_DiskOk.bits4 ⟨xc aF 0 rfl, xc aF 1 rfl, xc aF 2 rfl⟩ (fun hHeld HT_ HW_ => ?_); generalize gS.drew = gY at aE aF HB hHeld ⊢; refine pv_ 0 13 (h := ?_); refine tk_ 1 14 (h := ?_); refine on_ 2 15 (h := fun K hK => ?_); refine goesY Try.func102 #[.int .i64 ((rd_T112 aA aB).f0)] ?_; with_reducible refine (impl_isFile.calls ((rd_T112 aA aB).f0) true _ A7.out).mono ?_
        rintro e w' ⟨rfl, ⟨nd, rfl⟩⟩; refine ⟨_, rfl, ?_⟩; refine hK.out _ _ ⟨xc aF 0 rfl, xc aF 1 rfl, xc aF 2 rfl⟩ (fun hHeld => ?_); clear hK K; refine nm_ (N := 15) ?_; refine pv_ 3 16 (h := ?_); refine pv_ 4 17 (h := ?_); refine pv_ 5 18 (h := ?_); refine pv_ 6 19 (h := ?_); refine pv_ 7 20 (h := ?_); refine pu_ 8 21 (h := ?_); refine pu_ 9 22 (h := ?_); refine pu_ 10 23 (h := ?_); refine pu_ 11 24 (h := ?_); refine pu_ 12 25 (h := ?_); refine pu_ 13 26 (h := ?_); refine pu_ 14 27 (h := ?_); refine pu_ 15 28 (h := ?_); refine pu_ 16 29 (h := ?_); refine pu_ 17 30 (h := ?_); refine pv_ 18 31 (h := ?_); refine pv_ 19 32 (h := ?_); refine dn_ ?_; try go_wp2
        go_roundg k1
        case measure => have := HK1.out; omega
        case rel => exact ⟨(wrap64 (aB + 1)), u14_0, H', ⟨by have := HK1.out; omega⟩, ⟨xblk⟩, ⟨xbg⟩⟩
      ·replace c8 := Bool.eq_false_iff.mpr c8; subst c8; replace H := iN H; obtain rfl := Option.some.inj H; have p382 : 0 ≤ (aB : Int) := oda; have q382 : aB < (aA.length : Int) := oda; obtain ⟨aJ, cA, aN, aO, aP⟩ := at_T112 aI.out aB p382 q382; cases cA
       replace aN := xce HB aN; replace aO := xce HB aO; replace aP := xce HB aP; replace p382 := eq_true p382; replace q382 := eq_true q382; try go_wp2_with (first | ((with_reducible refine gD 4 rfl ?_); refine boxE (N := 4) rfl (cs := #[.int .i64 0, .string (⟨#[]⟩ : ByteArray), .string (⟨#[]⟩ : ByteArray)]) (t := 112) ?_; intro aC hg eD hbox hb; have cW := aM (xge hg); have cX := aM (xge hg); replace HB := xbs hb; have aQ := nblt aE hg; have aR := nbgt aE hg; replace aE := xbb aE hb; have aF := aM (hbox); clear hb hbox hg; have gB := aR.out; have gE := aQ.out; obtain ⟨fC, fD, fE, fF, fG, fH⟩ := xf3 (w := eD) aF))
       have n0_ : Aside0 ((((eD.setCell ⟨aC, 0, none⟩ (.int .i64 ((rd_T112 aA aB).f0))).setCell ⟨aC, 1, none⟩ (.string ((rd_T112 aA aB).f1))).setCell ⟨aC, 2, none⟩ (.string ((rd_T112 aA aB).f2))).heap[bI]? = some (.cells #[.int .i64 aG, .slice (some aJ) aA.length aV] 55 (0, 0))) := ⟨xB⟩; have n1_ : Aside0 ((((eD.setCell ⟨aC, 0, none⟩ (.int .i64 ((rd_T112 aA aB).f0))).setCell ⟨aC, 1, none⟩ (.string ((rd_T112 aA aB).f1))).setCell ⟨aC, 2, none⟩ (.string ((rd_T112 aA aB).f2))).heap[aC]? = some (.cells #[.int .i64 ((rd_T112 aA aB).f0), .string ((rd_T112 aA aB).f1), .string ((rd_T112 aA aB).f2)] 112 (0, 0))) := ⟨xP⟩; have n2_ : Aside0 (Below w.heap.size w (((eD.setCell ⟨aC, 0, none⟩ (.int .i64 ((rd_T112 aA aB).f0))).setCell ⟨aC, 1, none⟩ (.string ((rd_T112 aA aB).f1))).setCell ⟨aC, 2, none⟩ (.string ((rd_T112 aA aB).f2)))) := ⟨xbg⟩; (try clear aE); (try clear aF); (try clear HB)
       generalize (((eD.setCell ⟨aC, 0, none⟩ (.int .i64 ((rd_T112 aA aB).f0))).setCell ⟨aC, 1, none⟩ (.string ((rd_T112 aA aB).f1))).setCell ⟨aC, 2, none⟩ (.string ((rd_T112 aA aB).f2))) = gT at n0_ n1_ n2_ ⊢; have aE := n0_; have aF := n1_; have HB := n2_; clear n0_ n1_ n2_; replace aE := bD aE; replace aF := bD aF; replace HB := lD HB; refine st_ 20 (fun w' => w'.cell? ⟨aC, 0, none⟩ = some (.int .i64 ((rd_T112 aA aB).f0)) ∧ w'.cell? ⟨aC, 1, none⟩ = some (.string ((rd_T112 aA aB).f1)) ∧ w'.cell? ⟨aC, 2, none⟩ = some (.string ((rd_T112 aA aB).f2))) impl_DiskOk.tab4 impl_DiskOk.bits4 ⟨xc aF 0 rfl, xc aF 1 rfl, xc aF 2 rfl⟩ (fun hHeld HT_ HW_ => ?_); generalize gT.drew = gZ at aE aF HB hHeld ⊢; refine pv_ 0 13 (h := ?_); refine tk_ 1 14 (h := ?_); refine on_ 2 15 (h := fun K hK => ?_); refine goesY Try.func102 #[.int .i64 ((rd_T112 aA aB).f0)] ?_; with_reducible refine (impl_isFile.calls ((rd_T112 aA aB).f0) false _ A7.out).mono ?_
       rintro e w' ⟨rfl, ⟨nd, rfl⟩⟩; refine ⟨_, rfl, ?_⟩; refine hK.out _ _ ⟨xc aF 0 rfl, xc aF 1 rfl, xc aF 2 rfl⟩ (fun hHeld => ?_); clear hK K; refine nm_ (N := 15) ?_; refine pv_ 3 16 (h := ?_); refine pv_ 4 17 (h := ?_); refine pu_ 5 18 (h := ?_); refine pu_ 6 19 (h := ?_); refine pu_ 7 20 (h := ?_); refine pu_ 8 21 (h := ?_); refine pu_ 9 22 (h := ?_); refine pu_ 10 23 (h := ?_); refine pu_ 11 24 (h := ?_); refine pu_ 12 25 (h := ?_); refine pu_ 13 26 (h := ?_); refine pu_ 14 27 (h := ?_); refine pu_ 15 28 (h := ?_); refine pu_ 16 29 (h := ?_); refine pu_ 17 30 (h := ?_); refine pu_ 18 31 (h := ?_); refine pv_ 19 32 (h := ?_); refine dn_ ?_; try go_wp2
       go_ret
       exact ⟨u14_1, xbg⟩
     ·rw [if_neg c6] at H; exact absurd H (by simp)
    ·rw [if_neg c5] at H; exact absurd H (by simp)
   ·rw [if_neg c4] at H; have dY : decide (aB < (aA.length : Int)) = false := decide_eq_false c4; clear c4; replace H := oB H; obtain ⟨dN, eE, H⟩ := H; (try dsimp only at H); have gF := aM eE; clear eE
    by_cases fI : dN = true
    ·subst fI; replace H := iT H; replace H := oB H; obtain ⟨dO, eF, H⟩ := H; (try dsimp only at H); have gU := aM eF; clear eF
     obtain rfl := Option.some.inj H; try go_wp2
     replace aE := bD aE; replace HB := lD HB; refine sb2 11 impl_DiskOk.tab7 impl_DiskOk.bits7 aE (fun hHeld HT_ HW_ => ?_); generalize wr.drew = hJ at aE HB hHeld ⊢; refine pv_ 0 34 (h := ?_); refine tk_ 1 35 (h := ?_); refine on_ 2 36 (h := fun K hK => ?_); refine goesY Try.func35 #[.int .i64 aG, .int .i64 0, .int .i64 40000] ?_; with_reducible refine (impl_within.calls aG 0 40000 true _ gF.out).mono ?_
     rintro e w' ⟨rfl, ⟨nd, rfl⟩⟩; refine ⟨_, rfl, ?_⟩; refine hK.out _ _ ⟨xc aE 0 rfl, xc aE 1 rfl⟩ (fun hHeld => ?_); clear hK K; refine nm_ (N := 36) ?_; refine pv_ 3 37 (h := ?_); refine pv_ 6 40 (h := ?_); refine tk_ 4 38 (h := ?_); refine tk_ 7 41 (h := ?_); refine on_ 5 39 (h := fun K hK => ?_); refine goesY Try.func103 #[.agg #[.int .i64 aG, .slice bC aA.length aV]] ?_; with_reducible refine (impl_sizeOf.calls k1 aG _ _ aA dO _ ?side1 ?side2 gU.out).mono ?_
     (case side1 => repeat (first | exact (Kd.C_below aI.out xbg) | (with_reducible refine Kd.C_alloc ?_ _) | (with_reducible refine Kd.C_drewN ?_ _) | (with_reducible refine Kd.C_drew ?_))); (case side2 => exact aL.out); rintro e hU ⟨rfl, hb⟩; refine ⟨_, rfl, ?_⟩; replace aE := xbb aE hb; replace HB := xbs hb; (try clear hb); refine hK.out _ _ ⟨xc aE 0 rfl, xc aE 1 rfl⟩ (fun hHeld => ?_); clear hK K; refine nm_ (N := 39) ?_; refine pv_ 8 42 (h := ?_); refine pv_ 9 43 (h := ?_); refine pv_ 10 2 (h := ?_); refine dn_ ?_; try go_wp2
     go_ret
     exact ⟨u14_1, xbg⟩
    ·replace fI := Bool.eq_false_iff.mpr fI; subst fI; replace H := iN H; obtain rfl := Option.some.inj H; try go_wp2
     replace aE := bD aE; replace HB := lD HB; refine sb2 11 impl_DiskOk.tab7 impl_DiskOk.bits7 aE (fun hHeld HT_ HW_ => ?_); generalize wr.drew = hX at aE HB hHeld ⊢; refine pv_ 0 34 (h := ?_); refine tk_ 1 35 (h := ?_); refine on_ 2 36 (h := fun K hK => ?_); refine goesY Try.func35 #[.int .i64 aG, .int .i64 0, .int .i64 40000] ?_; with_reducible refine (impl_within.calls aG 0 40000 false _ gF.out).mono ?_
     rintro e w' ⟨rfl, ⟨nd, rfl⟩⟩; refine ⟨_, rfl, ?_⟩; refine hK.out _ _ ⟨xc aE 0 rfl, xc aE 1 rfl⟩ (fun hHeld => ?_); clear hK K; refine nm_ (N := 36) ?_; refine pv_ 3 37 (h := ?_); refine pu_ 4 38 (h := ?_); refine pu_ 5 39 (h := ?_); refine pu_ 6 40 (h := ?_); refine pu_ 7 41 (h := ?_); refine pu_ 8 42 (h := ?_); refine pv_ 9 43 (h := ?_); refine pv_ 10 2 (h := ?_); refine dn_ ?_; try go_wp2
     go_ret
     exact ⟨u14_1, xbg⟩

/-! ### impl_DiskRead: function 84 -/
def impl_DiskRead.f (k : Nat) (aG : Int) (aA : List (S112)) (a1 : Int) : Option (ByteArray × Bool) := (impl_fileAt.f aG aA a1).bind fun aH => ((impl_DiskOk.f k aG aA).bind fun dA => (if dA = true then (if aH < 0 then (some ((⟨#[]⟩ : ByteArray), false)) else (if 0 ≤ aH then (if aH < (aA.length : Int) then (if ((rd_T112 aA aH).f1).size + ((rd_T112 aA aH).f2).size ≤ 9223372036854775807 then (some (((rd_T112 aA aH).f1) ++ ((rd_T112 aA aH).f2), true)) else (none)) else (none)) else (none))) else (some ((⟨#[]⟩ : ByteArray), false))))
theorem u14_mq1 {p : Prop} (h : p := by repeat' first | (with_reducible first | exact impl_DiskOk.mono _ _ _ | exact LeO.refl _ | exact LeO.none _ | refine LeO.ite ?_ ?_ | refine LeO.bind ?_ (fun _ => ?_)) | exact impl_DiskOk.mono _ _ _ | exact LeO.none _ | refine LeO.ite ?_ ?_ | refine LeO.bind ?_ (fun _ => ?_)) : p := h
theorem impl_DiskRead.mono : ∀ a0 a1 a2 k, LeO (impl_DiskRead.f k a0 a1 a2) (impl_DiskRead.f (k + 1) a0 a1 a2) := by
 intro a0 a1 a2 k
 unfold impl_DiskRead.f
 exact u14_mq1
set_option maxHeartbeats 8000000 in
set_option maxRecDepth 100000 in
theorem impl_DiskRead.calls (k : Nat) (aG : Int) (bC : Option Addr) (aV : Nat) (aA : List (S112)) (a1 : Int) (r1 : ByteArray) (r2 : Bool) (w : World) (bV : Kd.C k112 w bC aA.length aA) (bW : aA.length ≤ aV) (h : impl_DiskRead.f k aG aA a1 = some (r1, r2)) :
 Calls Try.prog 84 #[.agg #[.int .i64 aG, .slice bC aA.length aV], .int .i64 a1] w fun e w' => e = .returned (.tuple #[.string r1, .bool r2]) ∧ Below w.heap.size w w' := by
 have fK := Try.underlying55
 have aI := aM bV
 have aL := aM bW
 clear bV bW
 have HB := aM (Below.refl w.heap.size w)
 have H : ((impl_fileAt.f aG aA a1).bind fun aH => ((impl_DiskOk.f k aG aA).bind fun dA => (if dA = true then (if aH < 0 then (some ((⟨#[]⟩ : ByteArray), false)) else (if 0 ≤ aH then (if aH < (aA.length : Int) then (if ((rd_T112 aA aH).f1).size + ((rd_T112 aA aH).f2).size ≤ 9223372036854775807 then (some (((rd_T112 aA aH).f1) ++ ((rd_T112 aA aH).f2), true)) else (none)) else (none)) else (none))) else (some ((⟨#[]⟩ : ByteArray), false))))) = some (r1, r2) := h
 clear h
 replace H := oB H
 obtain ⟨aH, gG, H⟩ := H
 (try dsimp only at H)
 have A3 := aM gG
 clear gG
 replace H := oB H
 obtain ⟨dA, gH, H⟩ := H
 (try dsimp only at H)
 have A4 := aM gH
 clear gH
 by_cases c5 : dA = true
 ·subst c5; replace H := iT H; by_cases c6 : aH < 0
  ·rw [if_pos c6] at H; have dZ : decide (aH < 0) = true := decide_eq_true c6; clear c6; simp only [Option.some.injEq, Prod.mk.injEq] at H; obtain ⟨rfl, rfl⟩ := H; go_enter Try.func84, Try.ntmps84
   go_wp2_with (first | ((with_reducible refine gD 2 rfl ?_); refine boxE (N := 2) rfl (cs := #[.int .i64 aG, .slice bC aA.length aV]) (t := 55) ?_; intro bM hg w7 hbox hb; have aD := aM (hbox); have bN := aM (xge hg); have bO := aM (xge hg); replace HB := xbs hb; clear hb hbox hg; obtain ⟨dB, dC, dD, dE⟩ := xf2 (w := w7) aD) | (go_at_call 93; (with_reducible refine (impl_fileAt.calls aG _ _ aA a1 aH _ ?side1 ?side2 A3.out).mono ?_); (case side1 => exact xcb aI); (case side2 => exact aL.out); rintro e w9 ⟨rfl, hb⟩; replace aD := xbb aD hb; replace HB := xbs hb; (try clear hb); obtain ⟨cB, cC, cD, cE⟩ := xf2 (w := w9) aD) | (go_at_call 94; (with_reducible refine (impl_DiskOk.calls k aG _ _ aA true _ ?side1 ?side2 A4.out).mono ?_); (case side1 => exact xcb aI); (case side2 => exact aL.out); rintro e gI ⟨rfl, hb⟩; replace aD := xbb aD hb; replace HB := xbs hb; (try clear hb)))
   repeat (go_quiet (first | ((with_reducible refine gD 2 rfl ?_); refine boxE (N := 2) rfl (cs := #[.int .i64 aG, .slice bC aA.length aV]) (t := 55) ?_; intro bM hg w7 hbox hb; have aD := aM (hbox); have bN := aM (xge hg); have bO := aM (xge hg); replace HB := xbs hb; clear hb hbox hg; obtain ⟨dB, dC, dD, dE⟩ := xf2 (w := w7) aD) | (go_at_call 93; (with_reducible refine (impl_fileAt.calls aG _ _ aA a1 aH _ ?side1 ?side2 A3.out).mono ?_); (case side1 => exact xcb aI); (case side2 => exact aL.out); rintro e w9 ⟨rfl, hb⟩; replace aD := xbb aD hb; replace HB := xbs hb; (try clear hb); obtain ⟨cB, cC, cD, cE⟩ := xf2 (w := w9) aD) | (go_at_call 94; (with_reducible refine (impl_DiskOk.calls k aG _ _ aA true _ ?side1 ?side2 A4.out).mono ?_); (case side1 => exact xcb aI); (case side2 => exact aL.out); rintro e gI ⟨rfl, hb⟩; replace aD := xbb aD hb; replace HB := xbs hb; (try clear hb))); try go_wp2_with (first | ((with_reducible refine gD 2 rfl ?_); refine boxE (N := 2) rfl (cs := #[.int .i64 aG, .slice bC aA.length aV]) (t := 55) ?_; intro bM hg w7 hbox hb; have aD := aM (hbox); have bN := aM (xge hg); have bO := aM (xge hg); replace HB := xbs hb; clear hb hbox hg; obtain ⟨dB, dC, dD, dE⟩ := xf2 (w := w7) aD) | (go_at_call 93; (with_reducible refine (impl_fileAt.calls aG _ _ aA a1 aH _ ?side1 ?side2 A3.out).mono ?_); (case side1 => exact xcb aI); (case side2 => exact aL.out); rintro e w9 ⟨rfl, hb⟩; replace aD := xbb aD hb; replace HB := xbs hb; (try clear hb); obtain ⟨cB, cC, cD, cE⟩ := xf2 (w := w9) aD) | (go_at_call 94; (with_reducible refine (impl_DiskOk.calls k aG _ _ aA true _ ?side1 ?side2 A4.out).mono ?_); (case side1 => exact xcb aI); (case side2 => exact aL.out); rintro e gI ⟨rfl, hb⟩; replace aD := xbb aD hb; replace HB := xbs hb; (try clear hb))))
   go_ret2
   exact ⟨xerr, xbg⟩
  ·rw [if_neg c6] at H; have dZ : decide (aH < 0) = false := decide_eq_false c6; clear c6; by_cases dI : 0 ≤ aH
   ·rw [if_pos dI] at H; have eA : decide (0 ≤ aH) = true := decide_eq_true dI; clear dI; by_cases cV : aH < (aA.length : Int)
    ·rw [if_pos cV] at H; have dK : decide (aH < (aA.length : Int)) = true := decide_eq_true cV; clear cV; by_cases eG : ((rd_T112 aA aH).f1).size + ((rd_T112 aA aH).f2).size ≤ 9223372036854775807
     ·rw [if_pos eG] at H; have gJ := eq_true eG; have gK : decide (((rd_T112 aA aH).f1).size + ((rd_T112 aA aH).f2).size ≤ 9223372036854775807) = true := decide_eq_true eG; try have gL : (9223372036854775807 < ((rd_T112 aA aH).f1).size + ((rd_T112 aA aH).f2).size) = False := eq_false (Nat.not_lt.2 eG)
      simp only [Option.some.injEq, Prod.mk.injEq] at H; obtain ⟨rfl, rfl⟩ := H; go_enter Try.func84, Try.ntmps84
      go_wp2_with (first | ((with_reducible refine gD 2 rfl ?_); refine boxE (N := 2) rfl (cs := #[.int .i64 aG, .slice bC aA.length aV]) (t := 55) ?_; intro bM hg eH hbox hb; have aD := aM (hbox); have bN := aM (xge hg); have bO := aM (xge hg); replace HB := xbs hb; clear hb hbox hg; obtain ⟨bP, bQ, bR, bU⟩ := xf2 (w := eH) aD) | (go_at_call 93; (with_reducible refine (impl_fileAt.calls aG _ _ aA a1 aH _ ?side1 ?side2 A3.out).mono ?_); (case side1 => exact xcb aI); (case side2 => exact aL.out); rintro e dV ⟨rfl, hb⟩; replace aD := xbb aD hb; replace HB := xbs hb; (try clear hb); obtain ⟨cF, cG, cH, cI⟩ := xf2 (w := dV) aD) | (go_at_call 94; (with_reducible refine (impl_DiskOk.calls k aG _ _ aA true _ ?side1 ?side2 A4.out).mono ?_); (case side1 => exact xcb aI); (case side2 => exact aL.out); rintro e cZ ⟨rfl, hb⟩; replace aD := xbb aD hb; replace HB := xbs hb; (try clear hb); obtain ⟨cJ, cK, cL, cM⟩ := xf2 (w := cZ) aD; have p391 : 0 ≤ (aH : Int) := oda; have q391 : aH < (aA.length : Int) := oda; obtain ⟨bX, dF, aW, aX, aY⟩ := at_T112 aI.out aH p391 q391; cases dF; replace aW := xce HB aW; replace aX := xce HB aX; replace aY := xce HB aY; replace p391 := eq_true p391; replace q391 := eq_true q391; have p392 : 0 ≤ (aH : Int) := oda; have q392 : aH < (aA.length : Int) := oda; obtain ⟨bY, dG, aZ, bA, bB⟩ := at_T112 aI.out aH p392 q392; obtain rfl : bX = bY := (by injection dG); replace aZ := xce HB aZ; replace bA := xce HB bA; replace bB := xce HB bB; replace p392 := eq_true p392; replace q392 := eq_true q392))
      repeat (go_quiet (first | ((with_reducible refine gD 2 rfl ?_); refine boxE (N := 2) rfl (cs := #[.int .i64 aG, .slice bC aA.length aV]) (t := 55) ?_; intro bM hg eH hbox hb; have aD := aM (hbox); have bN := aM (xge hg); have bO := aM (xge hg); replace HB := xbs hb; clear hb hbox hg; obtain ⟨bP, bQ, bR, bU⟩ := xf2 (w := eH) aD) | (go_at_call 93; (with_reducible refine (impl_fileAt.calls aG _ _ aA a1 aH _ ?side1 ?side2 A3.out).mono ?_); (case side1 => exact xcb aI); (case side2 => exact aL.out); rintro e dV ⟨rfl, hb⟩; replace aD := xbb aD hb; replace HB := xbs hb; (try clear hb); obtain ⟨cF, cG, cH, cI⟩ := xf2 (w := dV) aD) | (go_at_call 94; (with_reducible refine (impl_DiskOk.calls k aG _ _ aA true _ ?side1 ?side2 A4.out).mono ?_); (case side1 => exact xcb aI); (case side2 => exact aL.out); rintro e cZ ⟨rfl, hb⟩; replace aD := xbb aD hb; replace HB := xbs hb; (try clear hb); obtain ⟨cJ, cK, cL, cM⟩ := xf2 (w := cZ) aD; have p391 : 0 ≤ (aH : Int) := oda; have q391 : aH < (aA.length : Int) := oda; obtain ⟨bX, dF, aW, aX, aY⟩ := at_T112 aI.out aH p391 q391; cases dF; replace aW := xce HB aW; replace aX := xce HB aX; replace aY := xce HB aY; replace p391 := eq_true p391; replace q391 := eq_true q391; have p392 : 0 ≤ (aH : Int) := oda; have q392 : aH < (aA.length : Int) := oda; obtain ⟨bY, dG, aZ, bA, bB⟩ := at_T112 aI.out aH p392 q392; obtain rfl : bX = bY := (by injection dG); replace aZ := xce HB aZ; replace bA := xce HB bA; replace bB := xce HB bB; replace p392 := eq_true p392; replace q392 := eq_true q392)); try go_wp2_with (first | ((with_reducible refine gD 2 rfl ?_); refine boxE (N := 2) rfl (cs := #[.int .i64 aG, .slice bC aA.length aV]) (t := 55) ?_; intro bM hg eH hbox hb; have aD := aM (hbox); have bN := aM (xge hg); have bO := aM (xge hg); replace HB := xbs hb; clear hb hbox hg; obtain ⟨bP, bQ, bR, bU⟩ := xf2 (w := eH) aD) | (go_at_call 93; (with_reducible refine (impl_fileAt.calls aG _ _ aA a1 aH _ ?side1 ?side2 A3.out).mono ?_); (case side1 => exact xcb aI); (case side2 => exact aL.out); rintro e dV ⟨rfl, hb⟩; replace aD := xbb aD hb; replace HB := xbs hb; (try clear hb); obtain ⟨cF, cG, cH, cI⟩ := xf2 (w := dV) aD) | (go_at_call 94; (with_reducible refine (impl_DiskOk.calls k aG _ _ aA true _ ?side1 ?side2 A4.out).mono ?_); (case side1 => exact xcb aI); (case side2 => exact aL.out); rintro e cZ ⟨rfl, hb⟩; replace aD := xbb aD hb; replace HB := xbs hb; (try clear hb); obtain ⟨cJ, cK, cL, cM⟩ := xf2 (w := cZ) aD; have p391 : 0 ≤ (aH : Int) := oda; have q391 : aH < (aA.length : Int) := oda; obtain ⟨bX, dF, aW, aX, aY⟩ := at_T112 aI.out aH p391 q391; cases dF; replace aW := xce HB aW; replace aX := xce HB aX; replace aY := xce HB aY; replace p391 := eq_true p391; replace q391 := eq_true q391; have p392 : 0 ≤ (aH : Int) := oda; have q392 : aH < (aA.length : Int) := oda; obtain ⟨bY, dG, aZ, bA, bB⟩ := at_T112 aI.out aH p392 q392; obtain rfl : bX = bY := (by injection dG); replace aZ := xce HB aZ; replace bA := xce HB bA; replace bB := xce HB bB; replace p392 := eq_true p392; replace q392 := eq_true q392)))
      go_ret2
      exact ⟨xerr, xbg⟩
     ·rw [if_neg eG] at H; exact absurd H (by simp)
    ·rw [if_neg cV] at H; exact absurd H (by simp)
   ·rw [if_neg dI] at H; exact absurd H (by simp)
 ·replace c5 := Bool.eq_false_iff.mpr c5; subst c5; replace H := iN H; simp only [Option.some.injEq, Prod.mk.injEq] at H; obtain ⟨rfl, rfl⟩ := H; go_enter Try.func84, Try.ntmps84
  go_wp2_with (first | ((with_reducible refine gD 2 rfl ?_); refine boxE (N := 2) rfl (cs := #[.int .i64 aG, .slice bC aA.length aV]) (t := 55) ?_; intro bM hg eI hbox hb; have aD := aM (hbox); have bN := aM (xge hg); have bO := aM (xge hg); replace HB := xbs hb; clear hb hbox hg; obtain ⟨cN, cO, cP, cQ⟩ := xf2 (w := eI) aD) | (go_at_call 93; (with_reducible refine (impl_fileAt.calls aG _ _ aA a1 aH _ ?side1 ?side2 A3.out).mono ?_); (case side1 => exact xcb aI); (case side2 => exact aL.out); rintro e dX ⟨rfl, hb⟩; replace aD := xbb aD hb; replace HB := xbs hb; (try clear hb); obtain ⟨cR, cS, cT, cU⟩ := xf2 (w := dX) aD) | (go_at_call 94; (with_reducible refine (impl_DiskOk.calls k aG _ _ aA false _ ?side1 ?side2 A4.out).mono ?_); (case side1 => exact xcb aI); (case side2 => exact aL.out); rintro e gM ⟨rfl, hb⟩; replace aD := xbb aD hb; replace HB := xbs hb; (try clear hb)))
  repeat (go_quiet (first | ((with_reducible refine gD 2 rfl ?_); refine boxE (N := 2) rfl (cs := #[.int .i64 aG, .slice bC aA.length aV]) (t := 55) ?_; intro bM hg eI hbox hb; have aD := aM (hbox); have bN := aM (xge hg); have bO := aM (xge hg); replace HB := xbs hb; clear hb hbox hg; obtain ⟨cN, cO, cP, cQ⟩ := xf2 (w := eI) aD) | (go_at_call 93; (with_reducible refine (impl_fileAt.calls aG _ _ aA a1 aH _ ?side1 ?side2 A3.out).mono ?_); (case side1 => exact xcb aI); (case side2 => exact aL.out); rintro e dX ⟨rfl, hb⟩; replace aD := xbb aD hb; replace HB := xbs hb; (try clear hb); obtain ⟨cR, cS, cT, cU⟩ := xf2 (w := dX) aD) | (go_at_call 94; (with_reducible refine (impl_DiskOk.calls k aG _ _ aA false _ ?side1 ?side2 A4.out).mono ?_); (case side1 => exact xcb aI); (case side2 => exact aL.out); rintro e gM ⟨rfl, hb⟩; replace aD := xbb aD hb; replace HB := xbs hb; (try clear hb))); try go_wp2_with (first | ((with_reducible refine gD 2 rfl ?_); refine boxE (N := 2) rfl (cs := #[.int .i64 aG, .slice bC aA.length aV]) (t := 55) ?_; intro bM hg eI hbox hb; have aD := aM (hbox); have bN := aM (xge hg); have bO := aM (xge hg); replace HB := xbs hb; clear hb hbox hg; obtain ⟨cN, cO, cP, cQ⟩ := xf2 (w := eI) aD) | (go_at_call 93; (with_reducible refine (impl_fileAt.calls aG _ _ aA a1 aH _ ?side1 ?side2 A3.out).mono ?_); (case side1 => exact xcb aI); (case side2 => exact aL.out); rintro e dX ⟨rfl, hb⟩; replace aD := xbb aD hb; replace HB := xbs hb; (try clear hb); obtain ⟨cR, cS, cT, cU⟩ := xf2 (w := dX) aD) | (go_at_call 94; (with_reducible refine (impl_DiskOk.calls k aG _ _ aA false _ ?side1 ?side2 A4.out).mono ?_); (case side1 => exact xcb aI); (case side2 => exact aL.out); rintro e gM ⟨rfl, hb⟩; replace aD := xbb aD hb; replace HB := xbs hb; (try clear hb))))
  go_ret2
  exact ⟨xerr, xbg⟩

/-! ### impl_Sum: function 104 -/
def impl_Sum.l0 : Nat → Int → Int → List Int → Int → Int → Option (Int)
 | 0, _, _, _, _, _ => none
 | k + 1, x3, x4, x7, x8, x9 => if x9 < x8 then (if 0 ≤ x9 then (if x9 < (x7.length : Int) then (impl_Sum.l0 k (Int.tmod (wrap64 (x3 + (wrap64 (rd x7 x9)))) 65521) (Int.tmod (wrap64 (x4 + (Int.tmod (wrap64 (x3 + (wrap64 (rd x7 x9)))) 65521))) 65521) x7 x8 (wrap64 (x9 + 1))) else (none)) else (none)) else (some (wrap64 ((wrap64 (65536 * x4)) + x3)))
def impl_Sum.f (k : Nat) (l0 : List Int) : Option (Int) := impl_Sum.l0 k 1 0 l0 (l0.length : Int) 0
theorem u14_mq2 {p : Prop} (h : p := by repeat' first | (with_reducible first | exact dP _ _ _ _ _ | exact LeO.refl _ | exact LeO.none _ | refine LeO.ite ?_ ?_ | refine LeO.bind ?_ (fun _ => ?_)) | exact dP _ _ _ _ _ | exact LeO.none _ | refine LeO.ite ?_ ?_ | refine LeO.bind ?_ (fun _ => ?_)) : p := h
set_option maxRecDepth 100000 in
theorem impl_Sum.mono_l : ∀ k, (∀ y0 y1 y2 y3 y4, LeO (impl_Sum.l0 k y0 y1 y2 y3 y4) (impl_Sum.l0 (k + 1) y0 y1 y2 y3 y4))
 | 0 => fun _ _ _ _ _ r h => by simp [impl_Sum.l0] at h
 | k + 1 => by
  have dP := impl_Sum.mono_l k
  ·intro y0 y1 y2 y3 y4; unfold impl_Sum.l0; exact u14_mq2
theorem impl_Sum.mono : ∀ a0 k, LeO (impl_Sum.f k a0) (impl_Sum.f (k + 1) a0) := by
 intro a0 k
 have dP := impl_Sum.mono_l k
 unfold impl_Sum.f
 exact u14_mq2
set_option maxHeartbeats 8000000 in
set_option maxRecDepth 100000 in
theorem impl_Sum.calls (k : Nat) (A0 : Option Addr) (c0 : Nat) (l0 : List Int) (r : Int) (w : World) (eJ : Kd.C (Kd.int .u8) w A0 l0.length l0) (eK : l0.length ≤ c0) (h : impl_Sum.f k l0 = some r) :
 Calls Try.prog 104 #[.slice A0 l0.length c0] w fun e w' => e = .returned (.int .i64 r) ∧ Drawn0 w w' := by
 have fM := aM eJ
 have gN := aM eK
 clear eJ eK
 have H : (impl_Sum.l0 k 1 0 l0 (l0.length : Int) 0) = some r := h
 clear h
 have H' := aM H
 clear H
 go_enter Try.func104, Try.ntmps104
 go_wp2
 go_loopg [3, 4, 9] k (fun kq v3 v4 v9 w' => ∃ (dH : Int) (dJ : Int) (bE : Int), v3 = .int .i64 dH ∧ v4 = .int .i64 dJ ∧ v9 = .int .i64 bE ∧ Aside0 (impl_Sum.l0 kq dH dJ l0 (l0.length : Int) bE = some r) ∧ Aside0 (kq ≤ k) ∧ Drawn0 w w')
 case atStart => exact ⟨(1), (0), (0), u14_0, u14_0, u14_0, H', ⟨Nat.le_refl _⟩, u14_2⟩
 case round =>
  clear H'; try clear c1
  obtain ⟨dH, dJ, bE, rfl, rfl, rfl, HA, HK1, ⟨m1, rfl⟩⟩ := hrel; cases gk with
  | zero => exact absurd HA.out (by simp [impl_Sum.l0])
  | succ k1 =>
   have H := HA.out; clear HA; simp only [impl_Sum.l0] at H; by_cases c2 : bE < (l0.length : Int)
   ·rw [if_pos c2] at H; have fN : decide (bE < (l0.length : Int)) = true := decide_eq_true c2; clear c2; by_cases c3 : 0 ≤ bE
    ·rw [if_pos c3] at H; have gV : decide (0 ≤ bE) = true := decide_eq_true c3; clear c3; by_cases c4 : bE < (l0.length : Int)
     ·rw [if_pos c4] at H; have dY : decide (bE < (l0.length : Int)) = true := decide_eq_true c4; clear c4; have H' := aM H; clear H; have p393 : 0 ≤ (bE : Int) := oda; have q393 : bE < (l0.length : Int) := oda; obtain ⟨gO, fO, fJ⟩ := Kd.at_int fM.out bE p393 q393; cases fO
      replace p393 := eq_true p393; replace q393 := eq_true q393; go_wp2; go_roundg k1
      case measure => have := HK1.out; omega
      case rel => exact ⟨(Int.tmod (wrap64 (dH + (wrap64 (rd l0 bE)))) 65521), (Int.tmod (wrap64 (dJ + (Int.tmod (wrap64 (dH + (wrap64 (rd l0 bE)))) 65521))) 65521), (wrap64 (bE + 1)), u14_0, u14_0, u14_0, H', ⟨by have := HK1.out; omega⟩, u14_2⟩
     ·rw [if_neg c4] at H; exact absurd H (by simp)
    ·rw [if_neg c3] at H; exact absurd H (by simp)
   ·rw [if_neg c2] at H; have fN : decide (bE < (l0.length : Int)) = false := decide_eq_false c2; clear c2; obtain rfl := Option.some.inj H; go_wp2; go_ret
    exact ⟨u14_0, u14_2⟩

/-! ### impl_sumBytes: function 95 -/
def impl_sumBytes.f (k : Nat) (l0 : List Int) : Option (List Int) := (impl_Sum.f k l0).bind fun aK => (some (([(Go.bits .and .i64 aK 255) % 256, (Go.bits .and .i64 (aK / 256) 255) % 256, (Go.bits .and .i64 (aK / 65536) 255) % 256, (Go.bits .and .i64 (aK / 16777216) 255) % 256] : List Int)))
theorem u14_mq3 {p : Prop} (h : p := by repeat' first | (with_reducible first | exact impl_Sum.mono _ _ | exact LeO.refl _ | exact LeO.none _ | refine LeO.ite ?_ ?_ | refine LeO.bind ?_ (fun _ => ?_)) | exact impl_Sum.mono _ _ | exact LeO.none _ | refine LeO.ite ?_ ?_ | refine LeO.bind ?_ (fun _ => ?_)) : p := h
theorem impl_sumBytes.mono : ∀ a0 k, LeO (impl_sumBytes.f k a0) (impl_sumBytes.f (k + 1) a0) := by
 intro a0 k
 unfold impl_sumBytes.f
 exact u14_mq3
set_option maxHeartbeats 8000000 in
set_option maxRecDepth 100000 in
theorem impl_sumBytes.calls (k : Nat) (A0 : Option Addr) (c0 : Nat) (l0 : List Int) (r : List Int) (w : World) (eJ : Kd.C (Kd.int .u8) w A0 l0.length l0) (eK : l0.length ≤ c0) (h : impl_sumBytes.f k l0 = some r) :
 Calls Try.prog 95 #[.slice A0 l0.length c0] w fun e w' => ∃ v0_ : Value, e = .returned (v0_) ∧ Kd.R (Kd.int .u8) 5 w' w.heap.size (fun _ => True) v0_ r ∧ Below w.heap.size w w' := by
 have fM := aM eJ
 have gN := aM eK
 clear eJ eK
 have HB := aM (Below.refl w.heap.size w)
 have H : ((impl_Sum.f k l0).bind fun aK => (some (([(Go.bits .and .i64 aK 255) % 256, (Go.bits .and .i64 (aK / 256) 255) % 256, (Go.bits .and .i64 (aK / 65536) 255) % 256, (Go.bits .and .i64 (aK / 16777216) 255) % 256] : List Int)))) = some r := h
 clear h
 replace H := oB H
 obtain ⟨aK, gP, H⟩ := H
 (try dsimp only at H)
 have A2 := aM gP
 clear gP
 obtain ⟨fP, bZ⟩ : ∃ y_ : List Int, y_ = (([(Go.bits .and .i64 aK 255) % 256, (Go.bits .and .i64 (aK / 256) 255) % 256, (Go.bits .and .i64 (aK / 65536) 255) % 256, (Go.bits .and .i64 (aK / 16777216) 255) % 256] : List Int)) := ⟨_, rfl⟩
 replace H : (some fP) = some r := by first | (rw [bZ]; with_reducible exact H) | (have H2_ := oS H; rw [bZ]; with_reducible exact H2_) | (have H2_ := oS H; with_reducible exact H2_) | with_reducible exact H | (rw [bZ]; exact H) | exact H
 have dL := aM bZ
 clear bZ
 obtain rfl := Option.some.inj H
 go_enter Try.func95, Try.ntmps95
 go_wp2_with (first | ((with_reducible refine gC 104 rfl ?_); refine goesLY (some 5) rfl Try.func104 #[.slice A0 l0.length c0] ?_; (with_reducible refine (impl_Sum.calls k _ _ l0 aK _ ?side1 ?side2 A2.out).mono ?_); (case side1 => repeat (first | exact fM.out | (with_reducible refine Kd.C_alloc ?_ _) | (with_reducible refine Kd.C_drewN ?_ _) | (with_reducible refine Kd.C_drew ?_))); (case side2 => exact gN.out); rintro e w' ⟨rfl, ⟨nd, rfl⟩⟩; refine ⟨_, rfl, ?_⟩) | ((with_reducible refine gD 21 rfl ?_); refine Kd.R_lit (Kd.int .u8) _ 5 ?hg (N := 21) ?hd (xs := ([(Go.bits .and .i64 aK 255) % 256, (Go.bits .and .i64 (aK / 256) 255) % 256, (Go.bits .and .i64 (aK / 65536) 255) % 256, (Go.bits .and .i64 (aK / 16777216) 255) % 256] : List Int)) (inner := [.int .u8 ((Go.bits .and .i64 aK 255) % 256), .int .u8 ((Go.bits .and .i64 (aK / 256) 255) % 256), .int .u8 ((Go.bits .and .i64 (aK / 65536) 255) % 256), .int .u8 ((Go.bits .and .i64 (aK / 16777216) 255) % 256)]) (ok := fun _ => True) (okp := fun _ => True) ?hr ?hp (fun _ hk => hk) trivial (Below.refl _ _) (Nat.le_refl _) (by simp) ?_; (case hd => rfl); (case hg => rfl); (case hr => first | (go_simp; done) | (go_simp; rfl)); (case hp => exact (Reps.one (show Kd.M (Kd.int .u8) _ _ _ ((Go.bits .and .i64 aK 255) % 256) [.int .u8 ((Go.bits .and .i64 aK 255) % 256)] from rfl) (Reps.one (show Kd.M (Kd.int .u8) _ _ _ ((Go.bits .and .i64 (aK / 256) 255) % 256) [.int .u8 ((Go.bits .and .i64 (aK / 256) 255) % 256)] from rfl) (Reps.one (show Kd.M (Kd.int .u8) _ _ _ ((Go.bits .and .i64 (aK / 65536) 255) % 256) [.int .u8 ((Go.bits .and .i64 (aK / 65536) 255) % 256)] from rfl) (Reps.one (show Kd.M (Kd.int .u8) _ _ _ ((Go.bits .and .i64 (aK / 16777216) 255) % 256) [.int .u8 ((Go.bits .and .i64 (aK / 16777216) 255) % 256)] from rfl) (Reps.none _ _)))))); intro gW w3 eL hb hg_ hnew_; clear hg_ hnew_; (first | rw [← dL.out] at eL | (simp only [Int.reduceToNat] at eL; rw [← dL.out] at eL)); have eM := aM (Kd.R_lower eL (below_size xbel)); replace HB := xbs hb; clear hb eL))
 go_ret
 exact ⟨_, xerr, by (with_reducible repeat (first | apply Kd.R_alloc | apply Kd.R_drewN | apply Kd.R_drew)); exact eM.out, xbel⟩

end Go.Proofs.Ytocpomkfilpflaa.QFnExactHardLoad
