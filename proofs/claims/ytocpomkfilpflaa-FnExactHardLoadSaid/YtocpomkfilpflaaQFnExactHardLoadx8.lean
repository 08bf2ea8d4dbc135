-- A walk, by a program of this session.
import Derived.Test.YtocpomkfilpflaaQFnExactHardLoadx0
import Derived.Test.YtocpomkfilpflaaQFnExactHardLoadx3
import Derived.Test.YtocpomkfilpflaaQFnExactHardLoadx7
namespace Go.Proofs.Ytocpomkfilpflaa.QFnExactHardLoad
open Go.RowKit Go.Proofs.YtocpomkfilpflaaW.PrintWords Go.Proofs.YtocpomkfilpflaaW.PrintLast Go.Proofs.YtocpomkfilpflaaW.PrintMore
attribute [local go_sem] max2_int min2_int max_two min_two max_three min_three max_four min_four   -- for this text's walks alone
set_option linter.unusedVariables false
set_option linter.unusedSimpArgs false

theorem u8_0 {p : Prop} (h : p := by first | rfl | (simp; done) | (simp [*]; done)) : p := h
theorem u8_1 {p : Prop} (h : p := by first | rfl | (simp [errW_none, errW_some] <;> rfl) | (simp [*, errW_none, errW_some] <;> rfl)) : p := h
theorem u8_2 {p : Prop} (h : p := by repeat (first | exact Drawn0.refl _ | apply Drawn0.step)) : p := h
/-! ### spec_DiskOk: function 91 -/
mutual
def spec_DiskOk.j0 : Nat → Bool → Int → List (S112) → Option (Bool)
 | 0, _, _, _ => none
 | k + 1, fU, bU, aQ => if fU = true then (some false) else (spec_DiskOk.l0 k 0 bU aQ)
def spec_DiskOk.l0 : Nat → Int → Int → List (S112) → Option (Bool)
 | 0, _, _, _ => none
 | k + 1, x3, bU, aQ => if x3 < (aQ.length : Int) then (if 0 ≤ x3 then ((spec_l3Name.f ((rd_T112 aQ x3).f0)).bind fun dR => (if dR = true then (if x3 > 0 then (if 0 ≤ (wrap64 (x3 - 1)) then (if (wrap64 (x3 - 1)) < (aQ.length : Int) then (if ((rd_T112 aQ (wrap64 (x3 - 1))).f0) ≥ ((rd_T112 aQ x3).f0) then (some false) else (spec_DiskOk.l0 k (wrap64 (x3 + 1)) bU aQ)) else (none)) else (none)) else (spec_DiskOk.l0 k (wrap64 (x3 + 1)) bU aQ)) else (some false))) else (none)) else (some true)
end
def spec_DiskOk.f (k : Nat) (aF : Int) (aA : List (S112)) : Option (Bool) := (spec_l1In.f aF 0 40000).bind fun dB => (if dB = true then (if (aA.length : Int) > 8 then (spec_DiskOk.j0 k true aF aA) else ((spec_l3Size.f k aF aA).bind fun dA => (spec_DiskOk.j0 k (decide (dA > aF)) aF aA))) else (spec_DiskOk.j0 k true aF aA))
theorem u8_mq0 {p : Prop} (h : p := by repeat' first | (with_reducible first | exact dS _ _ _ | exact fA _ _ _ | exact spec_l3Size.mono _ _ _ | exact LeO.refl _ | exact LeO.none _ | refine LeO.ite ?_ ?_ | refine LeO.bind ?_ (fun _ => ?_)) | exact dS _ _ _ | exact fA _ _ _ | exact spec_l3Size.mono _ _ _ | exact LeO.none _ | refine LeO.ite ?_ ?_ | refine LeO.bind ?_ (fun _ => ?_)) : p := h
set_option maxRecDepth 100000 in
theorem spec_DiskOk.mono_l : ∀ k, (∀ y0 y1 y2, LeO (spec_DiskOk.j0 k y0 y1 y2) (spec_DiskOk.j0 (k + 1) y0 y1 y2)) ∧ (∀ y0 y1 y2, LeO (spec_DiskOk.l0 k y0 y1 y2) (spec_DiskOk.l0 (k + 1) y0 y1 y2))
 | 0 => ⟨fun _ _ _ r h => by simp [spec_DiskOk.j0] at h, fun _ _ _ r h => by simp [spec_DiskOk.l0] at h⟩
 | k + 1 => by
  obtain ⟨dS, fA⟩ := spec_DiskOk.mono_l k; refine ⟨?_, ?_⟩
  ·intro y0 y1 y2; unfold spec_DiskOk.j0; exact u8_mq0
  ·intro y0 y1 y2; unfold spec_DiskOk.l0; exact u8_mq0
theorem spec_DiskOk.mono : ∀ a0 a1 k, LeO (spec_DiskOk.f k a0 a1) (spec_DiskOk.f (k + 1) a0 a1) := by
 intro a0 a1 k
 obtain ⟨dS, fA⟩ := spec_DiskOk.mono_l k
 unfold spec_DiskOk.f
 exact u8_mq0
def spec_DiskOk.T1 : Bool × List (List Nat × List Nat) := (true, [([], []), ([0], [0]), ([1], [1]), ([2], [2]), ([3, 2], [3]), ([4], [4]), ([5, 4], [4, 5]), ([6, 4], [4, 6]), ([7, 4], [4, 7]), ([4, 8], [4, 8]), ([9, 4], [9]), ([10], [10]), ([11, 10, 10], [10, 11]), ([10], [10]), ([13, 10], [10, 13]), ([12, 14, 10], [10, 12, 14]), ([10, 15], [10, 15])])
def spec_DiskOk.B1 : List Nat := [0, 1, 3, 7, 15, 31, 63, 127, 255, 511, 1023, 2047, 4095, 2047, 10239, 32767, 65535]
theorem spec_DiskOk.tab1 : rtab .any (opsOf Try.f91 1) = spec_DiskOk.T1 := by kernel_rfl
theorem spec_DiskOk.bits1 : waitsOk spec_DiskOk.T1.2 spec_DiskOk.B1 = true := by kernel_rfl
def spec_DiskOk.T6 : Bool × List (List Nat × List Nat) := (true, [([], []), ([0], [0]), ([], []), ([1, 2], [1, 2]), ([3], [3]), ([4], [4]), ([5], [5]), ([6], [6]), ([7, 6], [7]), ([8], [8]), ([9, 8], [8, 9]), ([10, 8, 8], [8, 10]), ([11], [11]), ([12, 11], [11, 12]), ([11], [11]), ([14, 11], [11, 14]), ([13, 15, 11], [11, 13, 15]), ([16, 11], [11, 16]), ([17, 11], [11, 17]), ([11], [11]), ([19, 11], [11, 19]), ([11], [11]), ([20, 21, 11], [11, 20, 21]), ([22, 11], [11, 22]), ([23, 11], [11, 23]), ([18, 24, 11], [11, 18, 24]), ([11, 25, 8], [8, 11, 25]), ([8, 26], [8, 26])])
def spec_DiskOk.B6 : List Nat := [0, 1, 0, 7, 15, 31, 63, 127, 255, 511, 1023, 2047, 4095, 8191, 4095, 20479, 65535, 131071, 262143, 4095, 528383, 4095, 3674111, 7868415, 16257023, 33554431, 67108863, 134217727]
theorem spec_DiskOk.tab6 : rtab .any (opsOf Try.f91 6) = spec_DiskOk.T6 := by kernel_rfl
theorem spec_DiskOk.bits6 : waitsOk spec_DiskOk.T6.2 spec_DiskOk.B6 = true := by kernel_rfl
set_option maxHeartbeats 8000000 in
set_option maxRecDepth 100000 in
theorem spec_DiskOk.calls (k : Nat) (aF : Int) (bG : Option Addr) (aX : Nat) (aA : List (S112)) (r : Bool) (w : World) (cE : Kd.C k112 w bG aA.length aA) (cF : aA.length ≤ aX) (h : spec_DiskOk.f k aF aA = some r) :
 Calls Try.prog 91 #[.agg #[.int .i64 aF, .slice bG aA.length aX]] w fun e w' => e = .returned (.bool r) ∧ Below w.heap.size w w' := by
 have fB := Try.underlying55
 have aH := aM cE
 have aL := aM cF
 clear cE cF
 have HB := aM (Below.refl w.heap.size w)
 have H : ((spec_l1In.f aF 0 40000).bind fun dB => (if dB = true then (if (aA.length : Int) > 8 then (spec_DiskOk.j0 k true aF aA) else ((spec_l3Size.f k aF aA).bind fun dA => (spec_DiskOk.j0 k (decide (dA > aF)) aF aA))) else (spec_DiskOk.j0 k true aF aA))) = some r := h
 clear h
 have fC := aM H
 clear H
 go_enter Try.func91, Try.ntmps91
 go_upto_region 1 with (first | ((with_reducible refine gD 1 rfl ?_); (try (refine gate_guard (by rfl) ?_; dsimp only)); refine boxE (N := 1) rfl (cs := #[.int .i64 aF, .slice bG aA.length aX]) (t := 55) ?_; intro bH hg w3 hbox hb; have aD := aM (hbox); have fH := aM (xge hg); have fI := aM (xge hg); replace HB := xbs hb; clear hb hbox hg))
 (try simp only [Act.put, List.setIfInBounds_toArray, List.set_cons_zero, List.set_cons_succ])
 go_cut [20] (fun fV wc => ∃ (kq : Nat) (cJ : Bool), fV = .bool cJ ∧ Aside0 (spec_DiskOk.j0 kq cJ aF aA = some r) ∧ Aside0 (kq ≤ k) ∧ Aside0 (wc.heap[bH]? = some (.cells #[.int .i64 aF, (.slice bG aA.length aX)] 55 (0, 0))) ∧ Aside0 (Below w.heap.size w wc))
 case first =>
  have H := fC.out; clear fC; replace H := oB H; obtain ⟨dB, eA, H⟩ := H; (try dsimp only at H); have A4 := aM eA; clear eA
  by_cases c5 : dB = true
  ·subst c5; replace H := iT H; by_cases c6 : (aA.length : Int) > 8
   ·rw [if_pos c6] at H; have bV : decide (8 < (aA.length : Int)) = true := decide_eq_true c6; have dU : decide (8 < aA.length) = true := decide_eq_true (by omega); clear c6; (first | rw [bV] | (simp only [i64_w, i32_w]; rw [bV]) | skip); have H' := aM H; clear H; try go_wp2
    replace aD := bD aD; replace HB := lD HB; refine sb2 17 spec_DiskOk.tab1 spec_DiskOk.bits1 aD (fun hHeld HT_ HW_ => ?_); generalize w3.drew = w7 at aD HB hHeld ⊢; refine pv_ 0 4 (h := ?_); refine tk_ 1 5 (h := ?_); refine on_ 2 6 (h := fun K hK => ?_); refine goesY Try.func44 #[.int .i64 aF, .int .i64 0, .int .i64 40000] ?_; with_reducible refine (spec_l1In.calls aF 0 40000 true _ A4.out).mono ?_
    rintro e w' ⟨rfl, ⟨nd, rfl⟩⟩; refine ⟨_, rfl, ?_⟩; refine hK.out _ _ ⟨xc aD 0 rfl, xc aD 1 rfl⟩ (fun hHeld => ?_); clear hK K; refine nm_ (N := 6) ?_; refine pv_ 3 7 (h := ?_); refine pv_ 4 8 (h := ?_); refine pv_ 5 9 (h := ?_); refine tk_ 6 10 (h := ?_); refine pv_ 7 11 (h := ?_); refine pv_ 8 12 (h := ?_); refine pv_ 9 13 (h := ?_); refine pv_ 10 14 (h := ?_); refine pu_ 11 15 (h := ?_); refine pu_ 12 16 (h := ?_); refine pu_ 13 17 (h := ?_); refine pu_ 14 18 (h := ?_); refine pu_ 15 19 (h := ?_); refine pv_ 16 20 (h := ?_); refine dn_ ?_; try go_wp2
    go_meet
    case rel => exact ⟨_, (true), u8_0, H', ⟨by first | omega | exact Nat.le_refl _⟩, ⟨xblk⟩, ⟨xbg⟩⟩
   ·rw [if_neg c6] at H; have bV : decide (8 < (aA.length : Int)) = false := decide_eq_false c6; have dU : decide (8 < aA.length) = false := decide_eq_false (by omega); clear c6; (first | rw [bV] | (simp only [i64_w, i32_w]; rw [bV]) | skip); replace H := oB H; obtain ⟨dA, fJ, H⟩ := H; (try dsimp only at H); have A8 := aM fJ; clear fJ
    have H' := aM H; clear H; try go_wp2
    replace aD := bD aD; replace HB := lD HB; refine sb2 17 spec_DiskOk.tab1 spec_DiskOk.bits1 aD (fun hHeld HT_ HW_ => ?_); generalize w3.drew = w9 at aD HB hHeld ⊢; refine pv_ 0 4 (h := ?_); refine tk_ 1 5 (h := ?_); refine on_ 2 6 (h := fun K hK => ?_); refine goesY Try.func44 #[.int .i64 aF, .int .i64 0, .int .i64 40000] ?_; with_reducible refine (spec_l1In.calls aF 0 40000 true _ A4.out).mono ?_
    rintro e w' ⟨rfl, ⟨nd, rfl⟩⟩; refine ⟨_, rfl, ?_⟩; refine hK.out _ _ ⟨xc aD 0 rfl, xc aD 1 rfl⟩ (fun hHeld => ?_); clear hK K; refine nm_ (N := 6) ?_; refine pv_ 3 7 (h := ?_); refine pv_ 4 8 (h := ?_); refine pv_ 5 9 (h := ?_); refine tk_ 6 10 (h := ?_); refine pv_ 7 11 (h := ?_); refine pv_ 8 12 (h := ?_); refine pv_ 9 13 (h := ?_); refine pv_ 10 14 (h := ?_); refine pv_ 13 17 (h := ?_); refine tk_ 11 15 (h := ?_); refine tk_ 14 18 (h := ?_); refine on_ 12 16 (h := fun K hK => ?_); refine goesY Try.func98 #[.agg #[.int .i64 aF, .slice bG aA.length aX]] ?_; with_reducible refine (spec_l3Size.calls k aF _ _ aA dA _ ?side1 ?side2 A8.out).mono ?_
    (case side1 => repeat (first | exact (Kd.C_below aH.out xbg) | (with_reducible refine Kd.C_alloc ?_ _) | (with_reducible refine Kd.C_drewN ?_ _) | (with_reducible refine Kd.C_drew ?_))); (case side2 => exact aL.out); rintro e fY ⟨rfl, hb⟩; refine ⟨_, rfl, ?_⟩; replace aD := xbb aD hb; replace HB := xbs hb; (try clear hb); refine hK.out _ _ ⟨xc aD 0 rfl, xc aD 1 rfl⟩ (fun hHeld => ?_); clear hK K; refine nm_ (N := 16) ?_; refine pv_ 15 19 (h := ?_); refine pv_ 16 20 (h := ?_); refine dn_ ?_; try go_wp2
    go_meet
    case rel => exact ⟨_, (decide (dA > aF)), u8_0, H', ⟨by first | omega | exact Nat.le_refl _⟩, ⟨xblk⟩, ⟨xbg⟩⟩
  ·replace c5 := Bool.eq_false_iff.mpr c5; subst c5; replace H := iN H; have H' := aM H; clear H; try go_wp2
   replace aD := bD aD; replace HB := lD HB; refine sb2 17 spec_DiskOk.tab1 spec_DiskOk.bits1 aD (fun hHeld HT_ HW_ => ?_); generalize w3.drew = fD at aD HB hHeld ⊢; refine pv_ 0 4 (h := ?_); refine tk_ 1 5 (h := ?_); refine on_ 2 6 (h := fun K hK => ?_); refine goesY Try.func44 #[.int .i64 aF, .int .i64 0, .int .i64 40000] ?_; with_reducible refine (spec_l1In.calls aF 0 40000 false _ A4.out).mono ?_
   rintro e w' ⟨rfl, ⟨nd, rfl⟩⟩; refine ⟨_, rfl, ?_⟩; refine hK.out _ _ ⟨xc aD 0 rfl, xc aD 1 rfl⟩ (fun hHeld => ?_); clear hK K; refine nm_ (N := 6) ?_; refine pv_ 3 7 (h := ?_); refine pv_ 4 8 (h := ?_); refine pu_ 5 9 (h := ?_); refine pu_ 6 10 (h := ?_); refine pu_ 7 11 (h := ?_); refine pu_ 8 12 (h := ?_); refine pv_ 9 13 (h := ?_); refine pv_ 10 14 (h := ?_); refine pu_ 11 15 (h := ?_); refine pu_ 12 16 (h := ?_); refine pu_ 13 17 (h := ?_); refine pu_ 14 18 (h := ?_); refine pu_ 15 19 (h := ?_); refine pv_ 16 20 (h := ?_); refine dn_ ?_; try go_wp2
   go_meet
   case rel => exact ⟨_, (true), u8_0, H', ⟨by first | omega | exact Nat.le_refl _⟩, ⟨xblk⟩, ⟨xbg⟩⟩
 case rest =>
  clear fC; try clear p2
  try clear c4
  try clear c5
  try clear c6
  try clear bV
  try clear dU
  try clear c9
  obtain ⟨kq, cJ, rfl, HA, HJ1, aD, HB⟩ := hcut; cases kq with
  | zero => exact absurd HA.out (by simp [spec_DiskOk.j0])
  | succ fK =>
   have H := HA.out; clear HA; simp only [spec_DiskOk.j0] at H; by_cases dN : cJ = true
   ·subst dN; replace H := iT H; obtain rfl := Option.some.inj H; go_wp2; go_ret
    exact ⟨u8_1, xbg⟩
   ·replace dN := Bool.eq_false_iff.mpr dN; subst dN; replace H := iN H; have H' := aM H; clear H; go_wp2; go_loopg [3] fK (fun kq v3 w' => ∃ (aC : Int), v3 = .int .i64 aC ∧ Aside0 (spec_DiskOk.l0 kq aC aF aA = some r) ∧ Aside0 (kq ≤ fK) ∧ Aside0 (w'.heap[bH]? = some (.cells #[.int .i64 aF, (.slice bG aA.length aX)] 55 (0, 0))) ∧ Aside0 (Below w.heap.size w w'))
    case atStart => exact ⟨(0), u8_0, H', ⟨Nat.le_refl _⟩, ⟨xblk⟩, ⟨xbg⟩⟩
    case round =>
     clear H'; try clear c1
     try clear p2
     try clear c4
     try clear c5
     try clear c6
     try clear bV
     try clear dU
     try clear c9
     try clear dN
     try clear p2
     obtain ⟨aC, rfl, HA, HK2, aD, HB⟩ := hrel; cases gk with
     | zero => exact absurd HA.out (by simp [spec_DiskOk.l0])
     | succ k2 =>
      have H := HA.out; clear HA; simp only [spec_DiskOk.l0] at H; by_cases dC : aC < (aA.length : Int)
      ·rw [if_pos dC] at H; have dQ : decide (aC < (aA.length : Int)) = true := decide_eq_true dC; clear dC; by_cases dO : 0 ≤ aC
       ·rw [if_pos dO] at H; have eB : decide (0 ≤ aC) = true := decide_eq_true dO; clear dO; replace H := oB H; obtain ⟨dR, eC, H⟩ := H; (try dsimp only at H); have eD := aM eC; clear eC
        by_cases eK : dR = true
        ·subst eK; replace H := iT H; by_cases dX : aC > 0
         ·rw [if_pos dX] at H; have eE : decide (0 < aC) = true := decide_eq_true dX; clear dX; obtain ⟨ji18, hji18⟩ : ∃ j_ : Int, (wrap64 (aC - 1)) = j_ := ⟨_, rfl⟩; replace H : (if 0 ≤ (ji18) then (if (ji18) < (aA.length : Int) then (if ((rd_T112 aA (ji18)).f0) ≥ ((rd_T112 aA aC).f0) then (some false) else (spec_DiskOk.l0 k2 (wrap64 (aC + 1)) aF aA)) else (none)) else (none)) = some r := by first | (rw [hji18] at H; exact H) | (simp only [hji18] at H ⊢; exact H)
          (try rw [hji18] at eD); have hji18w : (IntKind.i64.wrap (aC - 1)) = ji18 := (i64_w _).trans hji18; by_cases eL : 0 ≤ (ji18)
          ·rw [if_pos eL] at H; have fL : decide (0 ≤ (ji18)) = true := decide_eq_true eL; clear eL; by_cases eM : (ji18) < (aA.length : Int)
           ·rw [if_pos eM] at H; have fM : decide ((ji18) < (aA.length : Int)) = true := decide_eq_true eM; clear eM; by_cases dY : ((rd_T112 aA (ji18)).f0) ≥ ((rd_T112 aA aC).f0)
            ·rw [if_pos dY] at H; have eF : decide (((rd_T112 aA aC).f0) ≤ ((rd_T112 aA (ji18)).f0)) = true := decide_eq_true dY; clear dY; obtain rfl := Option.some.inj H; obtain ⟨bW, bX, bY, bZ⟩ := xf2 (w := wr) aD; try go_wp2
             replace aD := bD aD; replace HB := lD HB; have p183 : 0 ≤ (aC : Int) := oda; have q183 : aC < (aA.length : Int) := oda; obtain ⟨aE, cI, aI, aJ, aK⟩ := at_T112 aH.out aC p183 q183; have aN := aK; have aO := aJ; have aP := aI; cases cI
             replace aI := xce HB aI; replace aJ := xce HB aJ; replace aK := xce HB aK; replace p183 := eq_true p183; replace q183 := eq_true q183; have p185 : 0 ≤ ((ji18) : Int) := oda; have q185 : (ji18) < (aA.length : Int) := oda; obtain ⟨dD, dV, aR, aS, aT⟩ := at_T112 aH.out (ji18) p185 q185; have bI := aT; have bJ := aS; have bK := aR; obtain rfl : aE = dD := (by injection dV); replace aR := xce HB aR; replace aS := xce HB aS; replace aT := xce HB aT; replace p185 := eq_true p185; replace q185 := eq_true q185; have p186 : 0 ≤ (aC : Int) := oda; have q186 : aC < (aA.length : Int) := oda; obtain ⟨dE, dW, aU, aV, aW⟩ := at_T112 aH.out aC p186 q186; have bL := aW; have bM := aV; have bN := aU; obtain rfl : aE = dE := (by injection dW); replace aU := xce HB aU; replace aV := xce HB aV; replace aW := xce HB aW; replace p186 := eq_true p186; replace q186 := eq_true q186; refine st_ 28 (fun w' => w'.cell? ⟨bH, 0, none⟩ = some (.int .i64 aF) ∧ w'.cell? ⟨bH, 1, none⟩ = some (.slice (some aE) aA.length aX) ∧ w'.cell? (aE.add ((aC).toNat * 3)) = some (.int .i64 ((rd_T112 aA aC).f0)) ∧ w'.cell? ⟨(aE.add ((aC).toNat * 3)).block, (aE.add ((aC).toNat * 3)).off + 1, none⟩ = some (.string ((rd_T112 aA aC).f1)) ∧ w'.cell? ⟨(aE.add ((aC).toNat * 3)).block, (aE.add ((aC).toNat * 3)).off + 2, none⟩ = some (.string ((rd_T112 aA aC).f2)) ∧ w'.cell? (aE.add (((ji18)).toNat * 3)) = some (.int .i64 ((rd_T112 aA (ji18)).f0)) ∧ w'.cell? ⟨(aE.add (((ji18)).toNat * 3)).block, (aE.add (((ji18)).toNat * 3)).off + 1, none⟩ = some (.string ((rd_T112 aA (ji18)).f1)) ∧ w'.cell? ⟨(aE.add (((ji18)).toNat * 3)).block, (aE.add (((ji18)).toNat * 3)).off + 2, none⟩ = some (.string ((rd_T112 aA (ji18)).f2)) ∧ w'.cell? (aE.add ((aC).toNat * 3)) = some (.int .i64 ((rd_T112 aA aC).f0)) ∧ w'.cell? ⟨(aE.add ((aC).toNat * 3)).block, (aE.add ((aC).toNat * 3)).off + 1, none⟩ = some (.string ((rd_T112 aA aC).f1)) ∧ w'.cell? ⟨(aE.add ((aC).toNat * 3)).block, (aE.add ((aC).toNat * 3)).off + 2, none⟩ = some (.string ((rd_T112 aA aC).f2))) spec_DiskOk.tab6 spec_DiskOk.bits6 ⟨xc aD 0 rfl, xc aD 1 rfl, (xce HB aP), (xce HB aO), (xce HB aN), (xce HB bK), (xce HB bJ), (xce HB bI), (xce HB bN), (xce HB bM), (xce HB bL)⟩ (fun hHeld HT_ HW_ => ?_); generalize wr.drew = dZ at aD HB aI aJ aK aR aS aT aU aV aW hHeld ⊢; refine pv_ 0 28 (h := ?_); refine pv_ 2 30 (h := ?_); refine tk_ 1 29 (h := ?_); refine pv_ 3 31 (h := ?_); refine pv_ 4 32 (h := ?_); refine tk_ 5 33 (h := ?_); refine on_ 6 34 (h := fun K hK => ?_); refine goesY Try.func99 #[.int .i64 ((rd_T112 aA aC).f0)] ?_; with_reducible refine (spec_l3Name.calls ((rd_T112 aA aC).f0) true _ eD.out).mono ?_
             rintro e w' ⟨rfl, ⟨nd, rfl⟩⟩; refine ⟨_, rfl, ?_⟩; refine hK.out _ _ ⟨xc aD 0 rfl, xc aD 1 rfl, (xce HB aP), (xce HB aO), (xce HB aN), (xce HB bK), (xce HB bJ), (xce HB bI), (xce HB bN), (xce HB bM), (xce HB bL)⟩ (fun hHeld => ?_); clear hK K; refine nm_ (N := 34) ?_; refine pv_ 7 35 (h := ?_); refine pv_ 8 36 (h := ?_); refine pv_ 9 37 (h := ?_); refine pv_ 10 38 (h := ?_); refine pv_ 11 39 (h := ?_); refine pv_ 12 40 (h := ?_); refine pv_ 14 42 (h := ?_); refine pv_ 15 43 (h := ?_); refine pv_ 19 47 (h := ?_); refine pv_ 21 49 (h := ?_); refine tk_ 13 41 (h := ?_); refine pv_ 16 44 (h := ?_); refine pv_ 17 45 (h := ?_); refine tk_ 18 46 (h := ?_); refine tk_ 20 48 (h := ?_); refine pv_ 22 50 (h := ?_); refine pv_ 23 51 (h := ?_); refine tk_ 24 52 (h := ?_); refine pv_ 25 53 (h := ?_); refine pv_ 26 54 (h := ?_); refine pv_ 27 55 (h := ?_); refine dn_ ?_; try go_wp2
             go_ret
             exact ⟨by first | rfl | (simp [errW_none, errW_some] <;> rfl) | (simp only [← hji18]; first | rfl | (simp [errW_none, errW_some] <;> rfl)) | (simp [*, errW_none, errW_some] <;> rfl), xbg⟩
            ·rw [if_neg dY] at H; have eF : decide (((rd_T112 aA aC).f0) ≤ ((rd_T112 aA (ji18)).f0)) = false := decide_eq_false dY; clear dY; have H' := aM H; clear H; obtain ⟨cA, cB, cC, cD⟩ := xf2 (w := wr) aD; try go_wp2
             replace aD := bD aD; replace HB := lD HB; have p183 : 0 ≤ (aC : Int) := oda; have q183 : aC < (aA.length : Int) := oda; obtain ⟨aE, cI, aI, aJ, aK⟩ := at_T112 aH.out aC p183 q183; have aN := aK; have aO := aJ; have aP := aI; cases cI
             replace aI := xce HB aI; replace aJ := xce HB aJ; replace aK := xce HB aK; replace p183 := eq_true p183; replace q183 := eq_true q183; have p185 : 0 ≤ ((ji18) : Int) := oda; have q185 : (ji18) < (aA.length : Int) := oda; obtain ⟨dD, dV, aR, aS, aT⟩ := at_T112 aH.out (ji18) p185 q185; have bI := aT; have bJ := aS; have bK := aR; obtain rfl : aE = dD := (by injection dV); replace aR := xce HB aR; replace aS := xce HB aS; replace aT := xce HB aT; replace p185 := eq_true p185; replace q185 := eq_true q185; have p186 : 0 ≤ (aC : Int) := oda; have q186 : aC < (aA.length : Int) := oda; obtain ⟨dE, dW, aU, aV, aW⟩ := at_T112 aH.out aC p186 q186; have bL := aW; have bM := aV; have bN := aU; obtain rfl : aE = dE := (by injection dW); replace aU := xce HB aU; replace aV := xce HB aV; replace aW := xce HB aW; replace p186 := eq_true p186; replace q186 := eq_true q186; refine st_ 28 (fun w' => w'.cell? ⟨bH, 0, none⟩ = some (.int .i64 aF) ∧ w'.cell? ⟨bH, 1, none⟩ = some (.slice (some aE) aA.length aX) ∧ w'.cell? (aE.add ((aC).toNat * 3)) = some (.int .i64 ((rd_T112 aA aC).f0)) ∧ w'.cell? ⟨(aE.add ((aC).toNat * 3)).block, (aE.add ((aC).toNat * 3)).off + 1, none⟩ = some (.string ((rd_T112 aA aC).f1)) ∧ w'.cell? ⟨(aE.add ((aC).toNat * 3)).block, (aE.add ((aC).toNat * 3)).off + 2, none⟩ = some (.string ((rd_T112 aA aC).f2)) ∧ w'.cell? (aE.add (((ji18)).toNat * 3)) = some (.int .i64 ((rd_T112 aA (ji18)).f0)) ∧ w'.cell? ⟨(aE.add (((ji18)).toNat * 3)).block, (aE.add (((ji18)).toNat * 3)).off + 1, none⟩ = some (.string ((rd_T112 aA (ji18)).f1)) ∧ w'.cell? ⟨(aE.add (((ji18)).toNat * 3)).block, (aE.add (((ji18)).toNat * 3)).off + 2, none⟩ = some (.string ((rd_T112 aA (ji18)).f2)) ∧ w'.cell? (aE.add ((aC).toNat * 3)) = some (.int .i64 ((rd_T112 aA aC).f0)) ∧ w'.cell? ⟨(aE.add ((aC).toNat * 3)).block, (aE.add ((aC).toNat * 3)).off + 1, none⟩ = some (.string ((rd_T112 aA aC).f1)) ∧ w'.cell? ⟨(aE.add ((aC).toNat * 3)).block, (aE.add ((aC).toNat * 3)).off + 2, none⟩ = some (.string ((rd_T112 aA aC).f2))) spec_DiskOk.tab6 spec_DiskOk.bits6 ⟨xc aD 0 rfl, xc aD 1 rfl, (xce HB aP), (xce HB aO), (xce HB aN), (xce HB bK), (xce HB bJ), (xce HB bI), (xce HB bN), (xce HB bM), (xce HB bL)⟩ (fun hHeld HT_ HW_ => ?_); generalize wr.drew = fE at aD HB aI aJ aK aR aS aT aU aV aW hHeld ⊢; refine pv_ 0 28 (h := ?_); refine pv_ 2 30 (h := ?_); refine tk_ 1 29 (h := ?_); refine pv_ 3 31 (h := ?_); refine pv_ 4 32 (h := ?_); refine tk_ 5 33 (h := ?_); refine on_ 6 34 (h := fun K hK => ?_); refine goesY Try.func99 #[.int .i64 ((rd_T112 aA aC).f0)] ?_; with_reducible refine (spec_l3Name.calls ((rd_T112 aA aC).f0) true _ eD.out).mono ?_
             rintro e w' ⟨rfl, ⟨nd, rfl⟩⟩; refine ⟨_, rfl, ?_⟩; refine hK.out _ _ ⟨xc aD 0 rfl, xc aD 1 rfl, (xce HB aP), (xce HB aO), (xce HB aN), (xce HB bK), (xce HB bJ), (xce HB bI), (xce HB bN), (xce HB bM), (xce HB bL)⟩ (fun hHeld => ?_); clear hK K; refine nm_ (N := 34) ?_; refine pv_ 7 35 (h := ?_); refine pv_ 8 36 (h := ?_); refine pv_ 9 37 (h := ?_); refine pv_ 10 38 (h := ?_); refine pv_ 11 39 (h := ?_); refine pv_ 12 40 (h := ?_); refine pv_ 14 42 (h := ?_); refine pv_ 15 43 (h := ?_); refine pv_ 19 47 (h := ?_); refine pv_ 21 49 (h := ?_); refine tk_ 13 41 (h := ?_); refine pv_ 16 44 (h := ?_); refine pv_ 17 45 (h := ?_); refine tk_ 18 46 (h := ?_); refine tk_ 20 48 (h := ?_); refine pv_ 22 50 (h := ?_); refine pv_ 23 51 (h := ?_); refine tk_ 24 52 (h := ?_); refine pv_ 25 53 (h := ?_); refine pv_ 26 54 (h := ?_); refine pv_ 27 55 (h := ?_); refine dn_ ?_; try go_wp2
             go_roundg k2
             case measure => have := HJ1.out; have := HK2.out; omega
             case rel => exact ⟨(wrap64 (aC + 1)), u8_0, H', ⟨by have := HJ1.out; have := HK2.out; omega⟩, ⟨xblk⟩, ⟨xbg⟩⟩
           ·rw [if_neg eM] at H; exact absurd H (by simp)
          ·rw [if_neg eL] at H; exact absurd H (by simp)
         ·rw [if_neg dX] at H; have eE : decide (0 < aC) = false := decide_eq_false dX; clear dX; have H' := aM H; clear H; obtain ⟨eN, eO, eP, eQ⟩ := xf2 (w := wr) aD; try go_wp2
          replace aD := bD aD; replace HB := lD HB; have p183 : 0 ≤ (aC : Int) := oda; have q183 : aC < (aA.length : Int) := oda; obtain ⟨aE, cI, aI, aJ, aK⟩ := at_T112 aH.out aC p183 q183; have aN := aK; have aO := aJ; have aP := aI; cases cI
          replace aI := xce HB aI; replace aJ := xce HB aJ; replace aK := xce HB aK; replace p183 := eq_true p183; replace q183 := eq_true q183; refine st_ 28 (fun w' => w'.cell? ⟨bH, 0, none⟩ = some (.int .i64 aF) ∧ w'.cell? ⟨bH, 1, none⟩ = some (.slice (some aE) aA.length aX) ∧ w'.cell? (aE.add ((aC).toNat * 3)) = some (.int .i64 ((rd_T112 aA aC).f0)) ∧ w'.cell? ⟨(aE.add ((aC).toNat * 3)).block, (aE.add ((aC).toNat * 3)).off + 1, none⟩ = some (.string ((rd_T112 aA aC).f1)) ∧ w'.cell? ⟨(aE.add ((aC).toNat * 3)).block, (aE.add ((aC).toNat * 3)).off + 2, none⟩ = some (.string ((rd_T112 aA aC).f2))) spec_DiskOk.tab6 spec_DiskOk.bits6 ⟨xc aD 0 rfl, xc aD 1 rfl, (xce HB aP), (xce HB aO), (xce HB aN)⟩ (fun hHeld HT_ HW_ => ?_); generalize wr.drew = fZ at aD HB aI aJ aK hHeld ⊢; refine pv_ 0 28 (h := ?_); refine pv_ 2 30 (h := ?_); refine tk_ 1 29 (h := ?_); refine pv_ 3 31 (h := ?_); refine pv_ 4 32 (h := ?_); refine tk_ 5 33 (h := ?_); refine on_ 6 34 (h := fun K hK => ?_); refine goesY Try.func99 #[.int .i64 ((rd_T112 aA aC).f0)] ?_; with_reducible refine (spec_l3Name.calls ((rd_T112 aA aC).f0) true _ eD.out).mono ?_
          rintro e w' ⟨rfl, ⟨nd, rfl⟩⟩; refine ⟨_, rfl, ?_⟩; refine hK.out _ _ ⟨xc aD 0 rfl, xc aD 1 rfl, (xce HB aP), (xce HB aO), (xce HB aN)⟩ (fun hHeld => ?_); clear hK K; refine nm_ (N := 34) ?_; refine pv_ 7 35 (h := ?_); refine pv_ 8 36 (h := ?_); refine pv_ 9 37 (h := ?_); refine pv_ 10 38 (h := ?_); refine pv_ 11 39 (h := ?_); refine pu_ 12 40 (h := ?_); refine pu_ 13 41 (h := ?_); refine pu_ 14 42 (h := ?_); refine pu_ 15 43 (h := ?_); refine pu_ 16 44 (h := ?_); refine pu_ 17 45 (h := ?_); refine pu_ 18 46 (h := ?_); refine pu_ 19 47 (h := ?_); refine pu_ 20 48 (h := ?_); refine pu_ 21 49 (h := ?_); refine pu_ 22 50 (h := ?_); refine pu_ 23 51 (h := ?_); refine pu_ 24 52 (h := ?_); refine pu_ 25 53 (h := ?_); refine pv_ 26 54 (h := ?_); refine pv_ 27 55 (h := ?_); refine dn_ ?_; try go_wp2
          go_roundg k2
          case measure => have := HJ1.out; have := HK2.out; omega
          case rel => exact ⟨(wrap64 (aC + 1)), u8_0, H', ⟨by have := HJ1.out; have := HK2.out; omega⟩, ⟨xblk⟩, ⟨xbg⟩⟩
        ·replace eK := Bool.eq_false_iff.mpr eK; subst eK; replace H := iN H; obtain rfl := Option.some.inj H; obtain ⟨eR, eS, eT, eU⟩ := xf2 (w := wr) aD; try go_wp2
         replace aD := bD aD; replace HB := lD HB; have p183 : 0 ≤ (aC : Int) := oda; have q183 : aC < (aA.length : Int) := oda; obtain ⟨aE, cI, aI, aJ, aK⟩ := at_T112 aH.out aC p183 q183; have aN := aK; have aO := aJ; have aP := aI; cases cI
         replace aI := xce HB aI; replace aJ := xce HB aJ; replace aK := xce HB aK; replace p183 := eq_true p183; replace q183 := eq_true q183; refine st_ 28 (fun w' => w'.cell? ⟨bH, 0, none⟩ = some (.int .i64 aF) ∧ w'.cell? ⟨bH, 1, none⟩ = some (.slice (some aE) aA.length aX) ∧ w'.cell? (aE.add ((aC).toNat * 3)) = some (.int .i64 ((rd_T112 aA aC).f0)) ∧ w'.cell? ⟨(aE.add ((aC).toNat * 3)).block, (aE.add ((aC).toNat * 3)).off + 1, none⟩ = some (.string ((rd_T112 aA aC).f1)) ∧ w'.cell? ⟨(aE.add ((aC).toNat * 3)).block, (aE.add ((aC).toNat * 3)).off + 2, none⟩ = some (.string ((rd_T112 aA aC).f2))) spec_DiskOk.tab6 spec_DiskOk.bits6 ⟨xc aD 0 rfl, xc aD 1 rfl, (xce HB aP), (xce HB aO), (xce HB aN)⟩ (fun hHeld HT_ HW_ => ?_); generalize wr.drew = gA at aD HB aI aJ aK hHeld ⊢; refine pv_ 0 28 (h := ?_); refine pv_ 2 30 (h := ?_); refine tk_ 1 29 (h := ?_); refine pv_ 3 31 (h := ?_); refine pv_ 4 32 (h := ?_); refine tk_ 5 33 (h := ?_); refine on_ 6 34 (h := fun K hK => ?_); refine goesY Try.func99 #[.int .i64 ((rd_T112 aA aC).f0)] ?_; with_reducible refine (spec_l3Name.calls ((rd_T112 aA aC).f0) false _ eD.out).mono ?_
         rintro e w' ⟨rfl, ⟨nd, rfl⟩⟩; refine ⟨_, rfl, ?_⟩; refine hK.out _ _ ⟨xc aD 0 rfl, xc aD 1 rfl, (xce HB aP), (xce HB aO), (xce HB aN)⟩ (fun hHeld => ?_); clear hK K; refine nm_ (N := 34) ?_; refine pv_ 7 35 (h := ?_); refine pv_ 8 36 (h := ?_); refine pu_ 9 37 (h := ?_); refine pu_ 10 38 (h := ?_); refine pu_ 11 39 (h := ?_); refine pu_ 12 40 (h := ?_); refine pu_ 13 41 (h := ?_); refine pu_ 14 42 (h := ?_); refine pu_ 15 43 (h := ?_); refine pu_ 16 44 (h := ?_); refine pu_ 17 45 (h := ?_); refine pu_ 18 46 (h := ?_); refine pu_ 19 47 (h := ?_); refine pu_ 20 48 (h := ?_); refine pu_ 21 49 (h := ?_); refine pu_ 22 50 (h := ?_); refine pu_ 23 51 (h := ?_); refine pu_ 24 52 (h := ?_); refine pu_ 25 53 (h := ?_); refine pu_ 26 54 (h := ?_); refine pv_ 27 55 (h := ?_); refine dn_ ?_; try go_wp2
         go_ret
         exact ⟨u8_1, xbg⟩
       ·rw [if_neg dO] at H; exact absurd H (by simp)
      ·rw [if_neg dC] at H; have dQ : decide (aC < (aA.length : Int)) = false := decide_eq_false dC; clear dC; obtain rfl := Option.some.inj H; obtain ⟨eV, eW, eX, eY⟩ := xf2 (w := wr) aD; go_wp2; go_ret
       exact ⟨u8_1, xbg⟩

/-! ### spec_DiskRead: function 81 -/
def spec_DiskRead.f (k : Nat) (aF : Int) (aA : List (S112)) (a1 : Int) : Option (ByteArray × Bool) := (spec_l3Find.f k aF aA a1).bind fun aG => ((spec_DiskOk.f k aF aA).bind fun dF => (if dF = true then (if aG < 0 then (some ((⟨#[]⟩ : ByteArray), false)) else (if 0 ≤ aG then (if aG < (aA.length : Int) then (if ((rd_T112 aA aG).f1).size + ((rd_T112 aA aG).f2).size ≤ 9223372036854775807 then (some (((rd_T112 aA aG).f1) ++ ((rd_T112 aA aG).f2), true)) else (none)) else (none)) else (none))) else (some ((⟨#[]⟩ : ByteArray), false))))
theorem u8_mq1 {p : Prop} (h : p := by repeat' first | (with_reducible first | exact spec_DiskOk.mono _ _ _ | exact spec_l3Find.mono _ _ _ _ | exact LeO.refl _ | exact LeO.none _ | refine LeO.ite ?_ ?_ | refine LeO.bind ?_ (fun _ => ?_)) | exact spec_DiskOk.mono _ _ _ | exact spec_l3Find.mono _ _ _ _ | exact LeO.none _ | refine LeO.ite ?_ ?_ | refine LeO.bind ?_ (fun _ => ?_)) : p := h
theorem spec_DiskRead.mono : ∀ a0 a1 a2 k, LeO (spec_DiskRead.f k a0 a1 a2) (spec_DiskRead.f (k + 1) a0 a1 a2) := by
 intro a0 a1 a2 k
 unfold spec_DiskRead.f
 exact u8_mq1
set_option maxHeartbeats 8000000 in
set_option maxRecDepth 100000 in
theorem spec_DiskRead.calls (k : Nat) (aF : Int) (bG : Option Addr) (aX : Nat) (aA : List (S112)) (a1 : Int) (r1 : ByteArray) (r2 : Bool) (w : World) (cE : Kd.C k112 w bG aA.length aA) (cF : aA.length ≤ aX) (h : spec_DiskRead.f k aF aA a1 = some (r1, r2)) :
 Calls Try.prog 81 #[.agg #[.int .i64 aF, .slice bG aA.length aX], .int .i64 a1] w fun e w' => e = .returned (.tuple #[.string r1, .bool r2]) ∧ Below w.heap.size w w' := by
 have fB := Try.underlying55
 have aH := aM cE
 have aL := aM cF
 clear cE cF
 have HB := aM (Below.refl w.heap.size w)
 have H : ((spec_l3Find.f k aF aA a1).bind fun aG => ((spec_DiskOk.f k aF aA).bind fun dF => (if dF = true then (if aG < 0 then (some ((⟨#[]⟩ : ByteArray), false)) else (if 0 ≤ aG then (if aG < (aA.length : Int) then (if ((rd_T112 aA aG).f1).size + ((rd_T112 aA aG).f2).size ≤ 9223372036854775807 then (some (((rd_T112 aA aG).f1) ++ ((rd_T112 aA aG).f2), true)) else (none)) else (none)) else (none))) else (some ((⟨#[]⟩ : ByteArray), false))))) = some (r1, r2) := h
 clear h
 replace H := oB H
 obtain ⟨aG, fN, H⟩ := H
 (try dsimp only at H)
 have A3 := aM fN
 clear fN
 replace H := oB H
 obtain ⟨dF, eA, H⟩ := H
 (try dsimp only at H)
 have A4 := aM eA
 clear eA
 by_cases c5 : dF = true
 ·subst c5; replace H := iT H; by_cases c6 : aG < 0
  ·rw [if_pos c6] at H; have bV : decide (aG < 0) = true := decide_eq_true c6; clear c6; simp only [Option.some.injEq, Prod.mk.injEq] at H; obtain ⟨rfl, rfl⟩ := H; go_enter Try.func81, Try.ntmps81
   go_wp2_with (first | ((with_reducible refine gD 2 rfl ?_); refine boxE (N := 2) rfl (cs := #[.int .i64 aF, .slice bG aA.length aX]) (t := 55) ?_; intro bP hg w7 hbox hb; have aB := aM (hbox); have bQ := aM (xge hg); have bR := aM (xge hg); replace HB := xbs hb; clear hb hbox hg; obtain ⟨dG, dH, dI, dJ⟩ := xf2 (w := w7) aB) | (go_at_call 90; (with_reducible refine (spec_l3Find.calls k aF _ _ aA a1 aG _ ?side1 ?side2 A3.out).mono ?_); (case side1 => exact xcb aH); (case side2 => exact aL.out); rintro e w9 ⟨rfl, hb⟩; replace aB := xbb aB hb; replace HB := xbs hb; (try clear hb); obtain ⟨cK, cL, cM, cN⟩ := xf2 (w := w9) aB) | (go_at_call 91; (with_reducible refine (spec_DiskOk.calls k aF _ _ aA true _ ?side1 ?side2 A4.out).mono ?_); (case side1 => exact xcb aH); (case side2 => exact aL.out); rintro e fD ⟨rfl, hb⟩; replace aB := xbb aB hb; replace HB := xbs hb; (try clear hb)))
   repeat (go_quiet (first | ((with_reducible refine gD 2 rfl ?_); refine boxE (N := 2) rfl (cs := #[.int .i64 aF, .slice bG aA.length aX]) (t := 55) ?_; intro bP hg w7 hbox hb; have aB := aM (hbox); have bQ := aM (xge hg); have bR := aM (xge hg); replace HB := xbs hb; clear hb hbox hg; obtain ⟨dG, dH, dI, dJ⟩ := xf2 (w := w7) aB) | (go_at_call 90; (with_reducible refine (spec_l3Find.calls k aF _ _ aA a1 aG _ ?side1 ?side2 A3.out).mono ?_); (case side1 => exact xcb aH); (case side2 => exact aL.out); rintro e w9 ⟨rfl, hb⟩; replace aB := xbb aB hb; replace HB := xbs hb; (try clear hb); obtain ⟨cK, cL, cM, cN⟩ := xf2 (w := w9) aB) | (go_at_call 91; (with_reducible refine (spec_DiskOk.calls k aF _ _ aA true _ ?side1 ?side2 A4.out).mono ?_); (case side1 => exact xcb aH); (case side2 => exact aL.out); rintro e fD ⟨rfl, hb⟩; replace aB := xbb aB hb; replace HB := xbs hb; (try clear hb))); try go_wp2_with (first | ((with_reducible refine gD 2 rfl ?_); refine boxE (N := 2) rfl (cs := #[.int .i64 aF, .slice bG aA.length aX]) (t := 55) ?_; intro bP hg w7 hbox hb; have aB := aM (hbox); have bQ := aM (xge hg); have bR := aM (xge hg); replace HB := xbs hb; clear hb hbox hg; obtain ⟨dG, dH, dI, dJ⟩ := xf2 (w := w7) aB) | (go_at_call 90; (with_reducible refine (spec_l3Find.calls k aF _ _ aA a1 aG _ ?side1 ?side2 A3.out).mono ?_); (case side1 => exact xcb aH); (case side2 => exact aL.out); rintro e w9 ⟨rfl, hb⟩; replace aB := xbb aB hb; replace HB := xbs hb; (try clear hb); obtain ⟨cK, cL, cM, cN⟩ := xf2 (w := w9) aB) | (go_at_call 91; (with_reducible refine (spec_DiskOk.calls k aF _ _ aA true _ ?side1 ?side2 A4.out).mono ?_); (case side1 => exact xcb aH); (case side2 => exact aL.out); rintro e fD ⟨rfl, hb⟩; replace aB := xbb aB hb; replace HB := xbs hb; (try clear hb))))
   go_ret2
   exact ⟨xerr, xbg⟩
  ·rw [if_neg c6] at H; have bV : decide (aG < 0) = false := decide_eq_false c6; clear c6; by_cases dN : 0 ≤ aG
   ·rw [if_pos dN] at H; have fO : decide (0 ≤ aG) = true := decide_eq_true dN; clear dN; by_cases dC : aG < (aA.length : Int)
    ·rw [if_pos dC] at H; have dQ : decide (aG < (aA.length : Int)) = true := decide_eq_true dC; clear dC; by_cases dO : ((rd_T112 aA aG).f1).size + ((rd_T112 aA aG).f2).size ≤ 9223372036854775807
     ·rw [if_pos dO] at H; have eB := eq_true dO; have fP : decide (((rd_T112 aA aG).f1).size + ((rd_T112 aA aG).f2).size ≤ 9223372036854775807) = true := decide_eq_true dO; try have fQ : (9223372036854775807 < ((rd_T112 aA aG).f1).size + ((rd_T112 aA aG).f2).size) = False := eq_false (Nat.not_lt.2 dO)
      simp only [Option.some.injEq, Prod.mk.injEq] at H; obtain ⟨rfl, rfl⟩ := H; go_enter Try.func81, Try.ntmps81
      go_wp2_with (first | ((with_reducible refine gD 2 rfl ?_); refine boxE (N := 2) rfl (cs := #[.int .i64 aF, .slice bG aA.length aX]) (t := 55) ?_; intro bP hg eG hbox hb; have aB := aM (hbox); have bQ := aM (xge hg); have bR := aM (xge hg); replace HB := xbs hb; clear hb hbox hg; obtain ⟨cO, cP, cQ, cR⟩ := xf2 (w := eG) aB) | (go_at_call 90; (with_reducible refine (spec_l3Find.calls k aF _ _ aA a1 aG _ ?side1 ?side2 A3.out).mono ?_); (case side1 => exact xcb aH); (case side2 => exact aL.out); rintro e eH ⟨rfl, hb⟩; replace aB := xbb aB hb; replace HB := xbs hb; (try clear hb); obtain ⟨cS, cT, cU, cV⟩ := xf2 (w := eH) aB) | (go_at_call 91; (with_reducible refine (spec_DiskOk.calls k aF _ _ aA true _ ?side1 ?side2 A4.out).mono ?_); (case side1 => exact xcb aH); (case side2 => exact aL.out); rintro e eI ⟨rfl, hb⟩; replace aB := xbb aB hb; replace HB := xbs hb; (try clear hb); obtain ⟨cW, cX, cY, cZ⟩ := xf2 (w := eI) aB; have p190 : 0 ≤ (aG : Int) := oda; have q190 : aG < (aA.length : Int) := oda; obtain ⟨cG, dK, aY, aZ, bA⟩ := at_T112 aH.out aG p190 q190; cases dK; replace aY := xce HB aY; replace aZ := xce HB aZ; replace bA := xce HB bA; replace p190 := eq_true p190; replace q190 := eq_true q190; have p191 : 0 ≤ (aG : Int) := oda; have q191 : aG < (aA.length : Int) := oda; obtain ⟨cH, dL, bB, bC, bE⟩ := at_T112 aH.out aG p191 q191; obtain rfl : cG = cH := (by injection dL); replace bB := xce HB bB; replace bC := xce HB bC; replace bE := xce HB bE; replace p191 := eq_true p191; replace q191 := eq_true q191))
      repeat (go_quiet (first | ((with_reducible refine gD 2 rfl ?_); refine boxE (N := 2) rfl (cs := #[.int .i64 aF, .slice bG aA.length aX]) (t := 55) ?_; intro bP hg eG hbox hb; have aB := aM (hbox); have bQ := aM (xge hg); have bR := aM (xge hg); replace HB := xbs hb; clear hb hbox hg; obtain ⟨cO, cP, cQ, cR⟩ := xf2 (w := eG) aB) | (go_at_call 90; (with_reducible refine (spec_l3Find.calls k aF _ _ aA a1 aG _ ?side1 ?side2 A3.out).mono ?_); (case side1 => exact xcb aH); (case side2 => exact aL.out); rintro e eH ⟨rfl, hb⟩; replace aB := xbb aB hb; replace HB := xbs hb; (try clear hb); obtain ⟨cS, cT, cU, cV⟩ := xf2 (w := eH) aB) | (go_at_call 91; (with_reducible refine (spec_DiskOk.calls k aF _ _ aA true _ ?side1 ?side2 A4.out).mono ?_); (case side1 => exact xcb aH); (case side2 => exact aL.out); rintro e eI ⟨rfl, hb⟩; replace aB := xbb aB hb; replace HB := xbs hb; (try clear hb); obtain ⟨cW, cX, cY, cZ⟩ := xf2 (w := eI) aB; have p190 : 0 ≤ (aG : Int) := oda; have q190 : aG < (aA.length : Int) := oda; obtain ⟨cG, dK, aY, aZ, bA⟩ := at_T112 aH.out aG p190 q190; cases dK; replace aY := xce HB aY; replace aZ := xce HB aZ; replace bA := xce HB bA; replace p190 := eq_true p190; replace q190 := eq_true q190; have p191 : 0 ≤ (aG : Int) := oda; have q191 : aG < (aA.length : Int) := oda; obtain ⟨cH, dL, bB, bC, bE⟩ := at_T112 aH.out aG p191 q191; obtain rfl : cG = cH := (by injection dL); replace bB := xce HB bB; replace bC := xce HB bC; replace bE := xce HB bE; replace p191 := eq_true p191; replace q191 := eq_true q191)); try go_wp2_with (first | ((with_reducible refine gD 2 rfl ?_); refine boxE (N := 2) rfl (cs := #[.int .i64 aF, .slice bG aA.length aX]) (t := 55) ?_; intro bP hg eG hbox hb; have aB := aM (hbox); have bQ := aM (xge hg); have bR := aM (xge hg); replace HB := xbs hb; clear hb hbox hg; obtain ⟨cO, cP, cQ, cR⟩ := xf2 (w := eG) aB) | (go_at_call 90; (with_reducible refine (spec_l3Find.calls k aF _ _ aA a1 aG _ ?side1 ?side2 A3.out).mono ?_); (case side1 => exact xcb aH); (case side2 => exact aL.out); rintro e eH ⟨rfl, hb⟩; replace aB := xbb aB hb; replace HB := xbs hb; (try clear hb); obtain ⟨cS, cT, cU, cV⟩ := xf2 (w := eH) aB) | (go_at_call 91; (with_reducible refine (spec_DiskOk.calls k aF _ _ aA true _ ?side1 ?side2 A4.out).mono ?_); (case side1 => exact xcb aH); (case side2 => exact aL.out); rintro e eI ⟨rfl, hb⟩; replace aB := xbb aB hb; replace HB := xbs hb; (try clear hb); obtain ⟨cW, cX, cY, cZ⟩ := xf2 (w := eI) aB; have p190 : 0 ≤ (aG : Int) := oda; have q190 : aG < (aA.length : Int) := oda; obtain ⟨cG, dK, aY, aZ, bA⟩ := at_T112 aH.out aG p190 q190; cases dK; replace aY := xce HB aY; replace aZ := xce HB aZ; replace bA := xce HB bA; replace p190 := eq_true p190; replace q190 := eq_true q190; have p191 : 0 ≤ (aG : Int) := oda; have q191 : aG < (aA.length : Int) := oda; obtain ⟨cH, dL, bB, bC, bE⟩ := at_T112 aH.out aG p191 q191; obtain rfl : cG = cH := (by injection dL); replace bB := xce HB bB; replace bC := xce HB bC; replace bE := xce HB bE; replace p191 := eq_true p191; replace q191 := eq_true q191)))
      go_ret2
      exact ⟨xerr, xbg⟩
     ·rw [if_neg dO] at H; exact absurd H (by simp)
    ·rw [if_neg dC] at H; exact absurd H (by simp)
   ·rw [if_neg dN] at H; exact absurd H (by simp)
 ·replace c5 := Bool.eq_false_iff.mpr c5; subst c5; replace H := iN H; simp only [Option.some.injEq, Prod.mk.injEq] at H; obtain ⟨rfl, rfl⟩ := H; go_enter Try.func81, Try.ntmps81
  go_wp2_with (first | ((with_reducible refine gD 2 rfl ?_); refine boxE (N := 2) rfl (cs := #[.int .i64 aF, .slice bG aA.length aX]) (t := 55) ?_; intro bP hg eJ hbox hb; have aB := aM (hbox); have bQ := aM (xge hg); have bR := aM (xge hg); replace HB := xbs hb; clear hb hbox hg; obtain ⟨bW, bX, bY, bZ⟩ := xf2 (w := eJ) aB) | (go_at_call 90; (with_reducible refine (spec_l3Find.calls k aF _ _ aA a1 aG _ ?side1 ?side2 A3.out).mono ?_); (case side1 => exact xcb aH); (case side2 => exact aL.out); rintro e dZ ⟨rfl, hb⟩; replace aB := xbb aB hb; replace HB := xbs hb; (try clear hb); obtain ⟨cA, cB, cC, cD⟩ := xf2 (w := dZ) aB) | (go_at_call 91; (with_reducible refine (spec_DiskOk.calls k aF _ _ aA false _ ?side1 ?side2 A4.out).mono ?_); (case side1 => exact xcb aH); (case side2 => exact aL.out); rintro e fE ⟨rfl, hb⟩; replace aB := xbb aB hb; replace HB := xbs hb; (try clear hb)))
  repeat (go_quiet (first | ((with_reducible refine gD 2 rfl ?_); refine boxE (N := 2) rfl (cs := #[.int .i64 aF, .slice bG aA.length aX]) (t := 55) ?_; intro bP hg eJ hbox hb; have aB := aM (hbox); have bQ := aM (xge hg); have bR := aM (xge hg); replace HB := xbs hb; clear hb hbox hg; obtain ⟨bW, bX, bY, bZ⟩ := xf2 (w := eJ) aB) | (go_at_call 90; (with_reducible refine (spec_l3Find.calls k aF _ _ aA a1 aG _ ?side1 ?side2 A3.out).mono ?_); (case side1 => exact xcb aH); (case side2 => exact aL.out); rintro e dZ ⟨rfl, hb⟩; replace aB := xbb aB hb; replace HB := xbs hb; (try clear hb); obtain ⟨cA, cB, cC, cD⟩ := xf2 (w := dZ) aB) | (go_at_call 91; (with_reducible refine (spec_DiskOk.calls k aF _ _ aA false _ ?side1 ?side2 A4.out).mono ?_); (case side1 => exact xcb aH); (case side2 => exact aL.out); rintro e fE ⟨rfl, hb⟩; replace aB := xbb aB hb; replace HB := xbs hb; (try clear hb))); try go_wp2_with (first | ((with_reducible refine gD 2 rfl ?_); refine boxE (N := 2) rfl (cs := #[.int .i64 aF, .slice bG aA.length aX]) (t := 55) ?_; intro bP hg eJ hbox hb; have aB := aM (hbox); have bQ := aM (xge hg); have bR := aM (xge hg); replace HB := xbs hb; clear hb hbox hg; obtain ⟨bW, bX, bY, bZ⟩ := xf2 (w := eJ) aB) | (go_at_call 90; (with_reducible refine (spec_l3Find.calls k aF _ _ aA a1 aG _ ?side1 ?side2 A3.out).mono ?_); (case side1 => exact xcb aH); (case side2 => exact aL.out); rintro e dZ ⟨rfl, hb⟩; replace aB := xbb aB hb; replace HB := xbs hb; (try clear hb); obtain ⟨cA, cB, cC, cD⟩ := xf2 (w := dZ) aB) | (go_at_call 91; (with_reducible refine (spec_DiskOk.calls k aF _ _ aA false _ ?side1 ?side2 A4.out).mono ?_); (case side1 => exact xcb aH); (case side2 => exact aL.out); rintro e fE ⟨rfl, hb⟩; replace aB := xbb aB hb; replace HB := xbs hb; (try clear hb))))
  go_ret2
  exact ⟨xerr, xbg⟩

/-! ### spec_Sum: function 92 -/
def spec_Sum.l0 : Nat → List Int → Int → Int → Int → Option (Int)
 | 0, _, _, _, _ => none
 | k + 1, x0, x3, x4, x5 => if x5 < (x0.length : Int) then (if 0 ≤ x5 then (spec_Sum.l0 k x0 (Int.tmod (wrap64 (x3 + (wrap64 (rd x0 x5)))) 65521) (Int.tmod (wrap64 (x4 + (Int.tmod (wrap64 (x3 + (wrap64 (rd x0 x5)))) 65521))) 65521) (wrap64 (x5 + 1))) else (none)) else (some (wrap64 ((wrap64 (65536 * x4)) + x3)))
def spec_Sum.f (k : Nat) (l0 : List Int) : Option (Int) := spec_Sum.l0 k l0 1 0 0
theorem u8_mq2 {p : Prop} (h : p := by repeat' first | (with_reducible first | exact dS _ _ _ _ | exact LeO.refl _ | exact LeO.none _ | refine LeO.ite ?_ ?_ | refine LeO.bind ?_ (fun _ => ?_)) | exact dS _ _ _ _ | exact LeO.none _ | refine LeO.ite ?_ ?_ | refine LeO.bind ?_ (fun _ => ?_)) : p := h
set_option maxRecDepth 100000 in
theorem spec_Sum.mono_l : ∀ k, (∀ y0 y1 y2 y3, LeO (spec_Sum.l0 k y0 y1 y2 y3) (spec_Sum.l0 (k + 1) y0 y1 y2 y3))
 | 0 => fun _ _ _ _ r h => by simp [spec_Sum.l0] at h
 | k + 1 => by
  have dS := spec_Sum.mono_l k
  ·intro y0 y1 y2 y3; unfold spec_Sum.l0; exact u8_mq2
theorem spec_Sum.mono : ∀ a0 k, LeO (spec_Sum.f k a0) (spec_Sum.f (k + 1) a0) := by
 intro a0 k
 have dS := spec_Sum.mono_l k
 unfold spec_Sum.f
 exact u8_mq2
set_option maxHeartbeats 8000000 in
set_option maxRecDepth 100000 in
theorem spec_Sum.calls (k : Nat) (A0 : Option Addr) (c0 : Nat) (l0 : List Int) (r : Int) (w : World) (fR : Kd.C (Kd.int .u8) w A0 l0.length l0) (fS : l0.length ≤ c0) (h : spec_Sum.f k l0 = some r) :
 Calls Try.prog 92 #[.slice A0 l0.length c0] w fun e w' => e = .returned (.int .i64 r) ∧ Drawn0 w w' := by
 have fW := aM fR
 have gB := aM fS
 clear fR fS
 have H : (spec_Sum.l0 k l0 1 0 0) = some r := h
 clear h
 have H' := aM H
 clear H
 go_enter Try.func92, Try.ntmps92
 go_wp2
 go_loopg [3, 4, 5] k (fun kq v3 v4 v5 w' => ∃ (dM : Int) (dP : Int) (bO : Int), v3 = .int .i64 dM ∧ v4 = .int .i64 dP ∧ v5 = .int .i64 bO ∧ Aside0 (spec_Sum.l0 kq l0 dM dP bO = some r) ∧ Aside0 (kq ≤ k) ∧ Drawn0 w w')
 case atStart => exact ⟨(1), (0), (0), u8_0, u8_0, u8_0, H', ⟨Nat.le_refl _⟩, u8_2⟩
 case round =>
  clear H'; obtain ⟨dM, dP, bO, rfl, rfl, rfl, HA, HK1, ⟨m1, rfl⟩⟩ := hrel; cases gk with
  | zero => exact absurd HA.out (by simp [spec_Sum.l0])
  | succ k1 =>
   have H := HA.out; clear HA; simp only [spec_Sum.l0] at H; by_cases c2 : bO < (l0.length : Int)
   ·rw [if_pos c2] at H; have fF : decide (bO < (l0.length : Int)) = true := decide_eq_true c2; clear c2; by_cases c3 : 0 ≤ bO
    ·rw [if_pos c3] at H; have fX : decide (0 ≤ bO) = true := decide_eq_true c3; clear c3; have H' := aM H; clear H; have p192 : 0 ≤ (bO : Int) := oda; have q192 : bO < (l0.length : Int) := oda; obtain ⟨fT, fG, eZ⟩ := Kd.at_int fW.out bO p192 q192; cases fG
     replace p192 := eq_true p192; replace q192 := eq_true q192; go_wp2; go_roundg k1
     case measure => have := HK1.out; omega
     case rel => exact ⟨(Int.tmod (wrap64 (dM + (wrap64 (rd l0 bO)))) 65521), (Int.tmod (wrap64 (dP + (Int.tmod (wrap64 (dM + (wrap64 (rd l0 bO)))) 65521))) 65521), (wrap64 (bO + 1)), u8_0, u8_0, u8_0, H', ⟨by have := HK1.out; omega⟩, u8_2⟩
    ·rw [if_neg c3] at H; exact absurd H (by simp)
   ·rw [if_neg c2] at H; have fF : decide (bO < (l0.length : Int)) = false := decide_eq_false c2; clear c2; obtain rfl := Option.some.inj H; go_wp2; go_ret
    exact ⟨u8_0, u8_2⟩

end Go.Proofs.Ytocpomkfilpflaa.QFnExactHardLoad
