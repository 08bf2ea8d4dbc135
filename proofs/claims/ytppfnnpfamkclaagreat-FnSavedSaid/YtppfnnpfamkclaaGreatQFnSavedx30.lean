-- A walk, by a program of this session.
import Derived.Test.YtppfnnpfamkclaaGreatQFnSavedx0
import Derived.Test.YtppfnnpfamkclaaGreatQFnSavedx2
import Derived.Test.YtppfnnpfamkclaaGreatQFnSavedx14
namespace Go.Proofs.YtppfnnpfamkclaaGreat.QFnSaved
open Go.RowKit Go.Proofs.YtppfnnpfamkclaaGreatW.PrintWords Go.Proofs.YtppfnnpfamkclaaGreatW.PrintLast Go.Proofs.YtppfnnpfamkclaaGreatW.PrintMore
attribute [local go_sem] max2_int min2_int max_two min_two max_three min_three max_four min_four   -- for this text's walks alone
set_option maxHeartbeats 8000000
set_option maxRecDepth 100000
set_option linter.unusedVariables false
set_option linter.unusedSimpArgs false
attribute [local go_sem high] eqA50
theorem u30_10 {p : Prop} (h : p := by first | rfl | (simp; done) | (simp [*]; done)) : p := h
theorem u30_11 {p : Prop} (h : p := by repeat (first | exact Drawn0.refl _ | apply Drawn0.step)) : p := h
theorem u30_13 {p : Prop} (h : p := by first | exact Nat.ne_of_lt (Nat.lt_of_lt_of_le (by have := World.block_lt_of_cell? _ _ aS; first | rwa [add_block] at this | exact this) aF.out) | (rw [add_block]; exact Nat.ne_of_lt (Nat.lt_of_lt_of_le (by have := World.block_lt_of_cell? _ _ aS; first | rwa [add_block] at this | exact this) aF.out)) | (show (Addr.add _ _).block ≠ _; rw [add_block]; exact Nat.ne_of_lt (Nat.lt_of_lt_of_le (by have := World.block_lt_of_cell? _ _ aS; first | rwa [add_block] at this | exact this) aF.out)) | (dsimp only; exact Nat.ne_of_lt (Nat.lt_of_lt_of_le (by have := World.block_lt_of_cell? _ _ aS; first | rwa [add_block] at this | exact this) aF.out))) : p := h
theorem u30_14 {p : Prop} (h : p := by first | exact Nat.ne_of_lt (Nat.lt_of_lt_of_le (by have := World.block_lt_of_cell? _ _ aT; first | rwa [add_block] at this | exact this) aF.out) | (rw [add_block]; exact Nat.ne_of_lt (Nat.lt_of_lt_of_le (by have := World.block_lt_of_cell? _ _ aT; first | rwa [add_block] at this | exact this) aF.out)) | (show (Addr.add _ _).block ≠ _; rw [add_block]; exact Nat.ne_of_lt (Nat.lt_of_lt_of_le (by have := World.block_lt_of_cell? _ _ aT; first | rwa [add_block] at this | exact this) aF.out)) | (dsimp only; exact Nat.ne_of_lt (Nat.lt_of_lt_of_le (by have := World.block_lt_of_cell? _ _ aT; first | rwa [add_block] at this | exact this) aF.out))) : p := h
theorem u30_15 {p : Prop} (h : p := by first | exact Nat.ne_of_lt (Nat.lt_of_lt_of_le (by have := World.block_lt_of_cell? _ _ aU; first | rwa [add_block] at this | exact this) aF.out) | (rw [add_block]; exact Nat.ne_of_lt (Nat.lt_of_lt_of_le (by have := World.block_lt_of_cell? _ _ aU; first | rwa [add_block] at this | exact this) aF.out)) | (show (Addr.add _ _).block ≠ _; rw [add_block]; exact Nat.ne_of_lt (Nat.lt_of_lt_of_le (by have := World.block_lt_of_cell? _ _ aU; first | rwa [add_block] at this | exact this) aF.out)) | (dsimp only; exact Nat.ne_of_lt (Nat.lt_of_lt_of_le (by have := World.block_lt_of_cell? _ _ aU; first | rwa [add_block] at this | exact this) aF.out))) : p := h
theorem u30_16 {p : Prop} (h : p := by first | exact Nat.ne_of_lt (Nat.lt_of_lt_of_le (by have := World.block_lt_of_cell? _ _ aV; first | rwa [add_block] at this | exact this) aF.out) | (rw [add_block]; exact Nat.ne_of_lt (Nat.lt_of_lt_of_le (by have := World.block_lt_of_cell? _ _ aV; first | rwa [add_block] at this | exact this) aF.out)) | (show (Addr.add _ _).block ≠ _; rw [add_block]; exact Nat.ne_of_lt (Nat.lt_of_lt_of_le (by have := World.block_lt_of_cell? _ _ aV; first | rwa [add_block] at this | exact this) aF.out)) | (dsimp only; exact Nat.ne_of_lt (Nat.lt_of_lt_of_le (by have := World.block_lt_of_cell? _ _ aV; first | rwa [add_block] at this | exact this) aF.out))) : p := h
theorem u30_17 {p : Prop} (h : p := by first | exact Nat.ne_of_lt (Nat.lt_of_lt_of_le (by have := World.block_lt_of_cell? _ _ aW; first | rwa [add_block] at this | exact this) aF.out) | (rw [add_block]; exact Nat.ne_of_lt (Nat.lt_of_lt_of_le (by have := World.block_lt_of_cell? _ _ aW; first | rwa [add_block] at this | exact this) aF.out)) | (show (Addr.add _ _).block ≠ _; rw [add_block]; exact Nat.ne_of_lt (Nat.lt_of_lt_of_le (by have := World.block_lt_of_cell? _ _ aW; first | rwa [add_block] at this | exact this) aF.out)) | (dsimp only; exact Nat.ne_of_lt (Nat.lt_of_lt_of_le (by have := World.block_lt_of_cell? _ _ aW; first | rwa [add_block] at this | exact this) aF.out))) : p := h
theorem u30_18 {p : Prop} (h : p := by first | exact Nat.ne_of_lt (Nat.lt_of_lt_of_le (by have := World.block_lt_of_cell? _ _ aX; first | rwa [add_block] at this | exact this) aF.out) | (rw [add_block]; exact Nat.ne_of_lt (Nat.lt_of_lt_of_le (by have := World.block_lt_of_cell? _ _ aX; first | rwa [add_block] at this | exact this) aF.out)) | (show (Addr.add _ _).block ≠ _; rw [add_block]; exact Nat.ne_of_lt (Nat.lt_of_lt_of_le (by have := World.block_lt_of_cell? _ _ aX; first | rwa [add_block] at this | exact this) aF.out)) | (dsimp only; exact Nat.ne_of_lt (Nat.lt_of_lt_of_le (by have := World.block_lt_of_cell? _ _ aX; first | rwa [add_block] at this | exact this) aF.out))) : p := h
theorem u30_19 {p : Prop} (h : p := by first | exact Nat.ne_of_lt (Nat.lt_of_lt_of_le (by have := World.block_lt_of_cell? _ _ aY; first | rwa [add_block] at this | exact this) aF.out) | (rw [add_block]; exact Nat.ne_of_lt (Nat.lt_of_lt_of_le (by have := World.block_lt_of_cell? _ _ aY; first | rwa [add_block] at this | exact this) aF.out)) | (show (Addr.add _ _).block ≠ _; rw [add_block]; exact Nat.ne_of_lt (Nat.lt_of_lt_of_le (by have := World.block_lt_of_cell? _ _ aY; first | rwa [add_block] at this | exact this) aF.out)) | (dsimp only; exact Nat.ne_of_lt (Nat.lt_of_lt_of_le (by have := World.block_lt_of_cell? _ _ aY; first | rwa [add_block] at this | exact this) aF.out))) : p := h
theorem u30_20 {p : Prop} (h : p := by first | exact Nat.ne_of_lt (Nat.lt_of_lt_of_le (by have := World.block_lt_of_cell? _ _ aZ; first | rwa [add_block] at this | exact this) aF.out) | (rw [add_block]; exact Nat.ne_of_lt (Nat.lt_of_lt_of_le (by have := World.block_lt_of_cell? _ _ aZ; first | rwa [add_block] at this | exact this) aF.out)) | (show (Addr.add _ _).block ≠ _; rw [add_block]; exact Nat.ne_of_lt (Nat.lt_of_lt_of_le (by have := World.block_lt_of_cell? _ _ aZ; first | rwa [add_block] at this | exact this) aF.out)) | (dsimp only; exact Nat.ne_of_lt (Nat.lt_of_lt_of_le (by have := World.block_lt_of_cell? _ _ aZ; first | rwa [add_block] at this | exact this) aF.out))) : p := h
theorem u30_21 {p : Prop} (h : p := by first | exact Nat.ne_of_lt (Nat.lt_of_lt_of_le (by have := World.block_lt_of_cell? _ _ bA; first | rwa [add_block] at this | exact this) aF.out) | (rw [add_block]; exact Nat.ne_of_lt (Nat.lt_of_lt_of_le (by have := World.block_lt_of_cell? _ _ bA; first | rwa [add_block] at this | exact this) aF.out)) | (show (Addr.add _ _).block ≠ _; rw [add_block]; exact Nat.ne_of_lt (Nat.lt_of_lt_of_le (by have := World.block_lt_of_cell? _ _ bA; first | rwa [add_block] at this | exact this) aF.out)) | (dsimp only; exact Nat.ne_of_lt (Nat.lt_of_lt_of_le (by have := World.block_lt_of_cell? _ _ bA; first | rwa [add_block] at this | exact this) aF.out))) : p := h
theorem u30_22 {p : Prop} (h : p := by first | exact Nat.ne_of_lt (Nat.lt_of_lt_of_le (by have := World.block_lt_of_cell? _ _ bB; first | rwa [add_block] at this | exact this) aF.out) | (rw [add_block]; exact Nat.ne_of_lt (Nat.lt_of_lt_of_le (by have := World.block_lt_of_cell? _ _ bB; first | rwa [add_block] at this | exact this) aF.out)) | (show (Addr.add _ _).block ≠ _; rw [add_block]; exact Nat.ne_of_lt (Nat.lt_of_lt_of_le (by have := World.block_lt_of_cell? _ _ bB; first | rwa [add_block] at this | exact this) aF.out)) | (dsimp only; exact Nat.ne_of_lt (Nat.lt_of_lt_of_le (by have := World.block_lt_of_cell? _ _ bB; first | rwa [add_block] at this | exact this) aF.out))) : p := h
theorem u30_23 {p : Prop} (h : p := by first | exact Kd.R_nil _ _ _ _ _ | exact Kd.N_nil _ _ _ _ _ | exact Kd.V_nil _ _ _ _ _ | exact Kd.Q_nil _ _ _ _ _ | exact Kd.S_nil _ _ _ _ _) : p := h
theorem u30_24 {p : Prop} (h : p := by simp only [putAll, Act.put, List.setIfInBounds_toArray, List.set_cons_zero, List.set_cons_succ]) : p := h
theorem u30_25 {p : Prop} (h : p := by (with_reducible repeat (first | apply Kd.R_alloc | apply Kd.R_drewN | apply Kd.R_drew)); exact Kd.R_mono bM.out (fun _ hk => hk.2)) : p := h
theorem u30_26 {p : Prop} (h : p := by (with_reducible repeat (first | apply Kd.R_alloc | apply Kd.R_drewN | apply Kd.R_drew)); exact Kd.R_mono aB.out (fun _ hk => hk.2)) : p := h
mutual
def spec_HardOf.j0 : Nat → List (S52) → Int → Int → Option (Int × Int × (List (S50)) × Int)
 | 0, _, _, _ => none
 | k + 1, x0, bJ, bK => spec_HardOf.l0 k x0 0 bJ bK ([] : List (S50))
def spec_HardOf.l0 : Nat → List (S52) → Int → Int → Int → List (S50) → Option (Int × Int × (List (S50)) × Int)
 | 0, _, _, _, _, _ => none
 | k + 1, x0, x5, bJ, bK, bN => if x5 < (x0.length : Int) then (spec_HardOf.j2 k x0 x5 bJ bK bN) else (some (bJ, bK, bN, (x0.length : Int)))
def spec_HardOf.j2 : Nat → List (S52) → Int → Int → Int → List (S50) → Option (Int × Int × (List (S50)) × Int)
 | 0, _, _, _, _, _ => none
 | k + 1, x0, x5, bJ, bK, bN => if 0 ≤ x5 then (if x5 < (x0.length : Int) then ((spec_HardApply.f k bJ bK bN ((rd_T52 x0 x5).f0) ((rd_T52 x0 x5).f1) ((rd_T52 x0 x5).f2) ((rd_T52 x0 x5).f3) ((rd_T52 x0 x5).f4.f0) ((rd_T52 x0 x5).f4.f1.f0) ((rd_T52 x0 x5).f4.f1.f1) ((rd_T52 x0 x5).f4.f1.f2) ((rd_T52 x0 x5).f4.f1.f3) ((rd_T52 x0 x5).f4.f1.f4)).bind fun cT => (if cT.2.2.2 = true then (spec_HardOf.j3 k x0 x5 cT.1 cT.2.1 cT.2.2.1) else (some (bJ, bK, bN, x5)))) else (none)) else (none)
def spec_HardOf.j3 : Nat → List (S52) → Int → Int → Int → List (S50) → Option (Int × Int × (List (S50)) × Int)
 | 0, _, _, _, _, _ => none
 | k + 1, x0, x5, dW, dX, dY => spec_HardOf.l0 k x0 (wrap64 (x5 + 1)) dW dX dY
end
def spec_HardOf.f (k : Nat) (l0 : List (S52)) : Option (Int × Int × (List (S50)) × Int) := if (l0.length : Int) > 2000 then (some (0, 0, ([] : List (S50)), 0)) else (spec_HardOf.j0 k l0 0 0)
def spec_HardOf.T7 : Bool × List (List Nat × List Nat) := (true, [([], []), ([], []), ([], []), ([1, 2], [1, 2]), ([3], [3]), ([0, 4], [0, 4]), ([5], [5]), ([6], [6]), ([6], [6]), ([], []), ([9, 7, 5, 0, 1, 2, 3, 4, 5, 6, 7, 9], [7, 9]), ([8, 10, 0, 1, 2, 3, 4, 5, 6, 7, 8, 9, 10], [8])])
def spec_HardOf.B7 : List Nat := [0, 0, 0, 6, 14, 31, 63, 127, 127, 0, 767, 2047]
theorem spec_HardOf.calls {k : Nat} {A0 : Option Addr} {c0 : Nat} {l0 : List (S52)} {r1 r2 : Int} {r3 : List (S50)} {r4 : Int} {w : World} (h : spec_HardOf.f k l0 = some (r1, r2, r3, r4)) (fI : Kd.C k52 w A0 l0.length l0) (fJ : l0.length ≤ c0) :
 Calls Tryz.prog 11 #[.slice A0 l0.length c0] w fun e w' => ∃ v2_ : Value, e = .returned (.tuple #[.agg #[.int .i64 r1, .int .i64 r2, v2_], .int .i64 r4]) ∧ Kd.R k50 50 w' w.heap.size (fun _ => True) v2_ r3 ∧ Below w.heap.size w w' := by
 have hU := Tryz.underlying34; have hV := Tryz.underlying52; have fV := aM fI; have hW := aM fJ
 clear fI fJ
 have HB := aM (Below.refl w.heap.size w); have H := h; unfold spec_HardOf.f at H
 clear h
 have gJ := aM H
 clear H
 go_enter Tryz.func11, Tryz.ntmps11
 go_upto_if 11 with (first | (refine bE_ (N := 2) rfl ?_; intro aR hg w3 aK hb; have gK := aM (xge hg); have gL := aM (xge hg); replace HB := xbs hb; clear hb hg) | (refine bE_ (N := 4) rfl ?_; intro aN hg w4 aG hb; have gM := aM (xge hg); have gN := aM (xge hg); replace HB := xbs hb; have bH := nblt aK hg; have bI := nbgt aK hg; replace aK := xbb aK hb; clear hb hg; have hX := a2_ bI bH; have cU := xf3 (w := w4) aG))
 (try simp only [Act.put, List.setIfInBounds_toArray, List.set_cons_zero, List.set_cons_succ])
 go_cut [] (fun wc => ∃ (kq : Nat) (cG : Int) (cH : Int), Aside0 (spec_HardOf.j0 kq l0 0 0 = some (r1, r2, r3, r4)) ∧ Aside0 (kq ≤ k) ∧ Aside0 (wc.heap[aR]? = some (.cells #[.int .i64 cG, .int .i64 cH, (.slice none 0 0)] 34 (0, 0))) ∧ Aside0 (wc.heap[aN]? = some (.cells #[.int .i64 0, .int .i64 0, (.slice none 0 0)] 34 (0, 0))) ∧ Aside0 (Below w.heap.size w wc))
 case first =>
  have H := gJ.out; clear gJ; by_cases c7 : (l0.length : Int) > 2000
  ·rw [if_pos c7] at H; have cP := decide_eq_true c7; have dZ : decide (2000 < l0.length) = true := decide_eq_true (by omega); clear c7; (first | rw [cP] | (simp only [i64_w, i32_w]; rw [cP]) | skip); obtain ⟨rfl, rfl, rfl, rfl⟩ := i4_ H; have hZ := a2_ bI bH; have dA := xf3 (w := w4) aG; have cJ := xf3 (w := w4) aK; go_wp2_with (first | (refine sE_ 34 2 ?_; intro gY hw; replace aK : Aside0 (gY.heap[aR]? = some (.cells #[.int .i64 0, .int .i64 0, .slice none 0 0] 34 (0, 0))) := xwp hw; replace aG : Aside0 (gY.heap[aN]? = some (.cells #[.int .i64 0, .int .i64 0, .slice none 0 0] 34 (0, 0))) := xwp hw; replace HB := xbw hw HB; clear hw))
   refine bodyPost_ret (results_ct rfl _ _ aR 34 #[.int .i64 0, .int .i64 0, .slice none 0 0] (0, 0) _ rfl xblk Tryz.underlying34 rfl (by kernel_rfl)) rfl ?_; exact ⟨_, xerr, u30_23, xbg⟩
  rw [if_neg c7] at H; have cP := decide_eq_false c7; have dZ : decide (2000 < l0.length) = false := decide_eq_false (by omega); clear c7; (first | rw [cP] | (simp only [i64_w, i32_w]; rw [cP]) | skip); replace H := aM H; go_wp2; go_meet
  case rel => exact ⟨_, _, _, H, ⟨by first | omega | exact Nat.le_refl _⟩, ⟨xB⟩, ⟨xP⟩, ⟨xbg⟩⟩
 case rest =>
  clear gJ
  try clear cU cV cW
  obtain ⟨kq, cG, cH, HA, HJ1, aK, aG, HB⟩ := hcut; cases kq with
  | zero => exact absurd HA.out (by simp [spec_HardOf.j0])
  | succ gZ =>
   have H := HA.out; clear HA; simp only [spec_HardOf.j0] at H; replace H := aM H; go_wp2; go_loopg [5] gZ (fun kq v5 w' => ∃ (aA : Int) (bC : Int) (bE : Int) (aI : Int) (aJ : Int) (aD : List (S50)) (bO : Value), v5 = .int .i64 aA ∧ Aside0 (spec_HardOf.l0 kq l0 aA aI aJ aD = some (r1, r2, r3, r4)) ∧ Aside0 (kq ≤ gZ) ∧ Aside0 (Kd.R k50 50 w' w.heap.size (fun _ => True) bO aD) ∧ Aside0 (w'.heap[aR]? = some (.cells #[.int .i64 bC, .int .i64 bE, (.slice none 0 0)] 34 (0, 0))) ∧ Aside0 (w'.heap[aN]? = some (.cells #[.int .i64 aI, .int .i64 aJ, bO] 34 (0, 0))) ∧ Aside0 (Below w.heap.size w w'))
   case atStart => exact ⟨_, _, _, _, _, _, _, u30_10, H, ⟨Nat.le_refl _⟩, ⟨u30_23⟩, ⟨xblk⟩, ⟨xblk⟩, ⟨xbg⟩⟩
   case round =>
    clear H
    try clear cU cV cW
    obtain ⟨aA, bC, bE, aI, aJ, aD, bO, rfl, HA, HK2, aB, aK, aG, HB⟩ := hrel; cases gk with
    | zero => exact absurd HA.out (by simp [spec_HardOf.l0])
    | succ k2 =>
     have H := HA.out; clear HA; simp only [spec_HardOf.l0] at H; have fB := aM H; clear H; go_upto_if 16 with (fail)
     go_cut [] (fun wc => ∃ (kq : Nat), Aside0 (spec_HardOf.j2 kq l0 aA aI aJ aD = some (r1, r2, r3, r4)) ∧ Aside0 (kq ≤ k2) ∧ Aside0 (Kd.R k50 50 wc w.heap.size (fun _ => True) bO aD) ∧ Aside0 (wc.heap[aR]? = some (.cells #[.int .i64 bC, .int .i64 bE, (.slice none 0 0)] 34 (0, 0))) ∧ Aside0 (wc.heap[aN]? = some (.cells #[.int .i64 aI, .int .i64 aJ, bO] 34 (0, 0))) ∧ Aside0 (Below w.heap.size w wc))
     case first =>
      have H := fB.out; clear fB; replace H := dI_ H; obtain ⟨cQ, H⟩ | ⟨cQ, H⟩ := H
      ·(first | rw [cQ] | (simp only [i64_w, i32_w]; rw [cQ]) | skip); replace H := aM H; go_wp2; go_meet
       case rel => exact ⟨_, H, ⟨by have := HJ1.out; have := HK2.out; first | omega | exact Nat.le_refl _⟩, ⟨by (with_reducible repeat (first | apply Kd.R_alloc | apply Kd.R_drewN | apply Kd.R_drew)); exact aB.out⟩, ⟨xblk⟩, ⟨xblk⟩, ⟨xbg⟩⟩
      (first | rw [cQ] | (simp only [i64_w, i32_w]; rw [cQ]) | skip); obtain ⟨rfl, rfl, rfl, rfl⟩ := i4_ H; have hA := a2_ bI bH; have dI := xf3 (w := wr) aG; have dO := xf3 (w := wr) aK; obtain ⟨gP, gQ, gR⟩ := Kd.R_slice aB.out; subst gR; go_wp2; refine bodyPost_ret (results_ct rfl _ _ aR 34 #[.int .i64 aI, .int .i64 aJ, .slice gP aD.length gQ] (0, 0) _ rfl xP Tryz.underlying34 rfl (by kernel_rfl)) rfl ?_; exact ⟨_, xerr, xrm aB (fun _ _ => trivial), xbg⟩
     case rest =>
      clear fB
      try clear cU cV cW
      obtain ⟨kq, HA, HJ11, aB, aK, aG, HB⟩ := hcut; cases kq with
      | zero => exact absurd HA.out (by simp [spec_HardOf.j2])
      | succ fC =>
       have H := HA.out; clear HA; simp only [spec_HardOf.j2] at H; replace H := dI_ H; obtain ⟨fL, H⟩ | ⟨_, H⟩ := H
       ·replace H := dN_ H; obtain ⟨fN, H⟩ := H; replace H := oA_ H; obtain ⟨⟨cE, cF, bL, cR⟩, hC, H⟩ := H; (try dsimp only at H); have fD := aM H; clear H; obtain ⟨bP, bQ, gS⟩ := Kd.R_slice aB.out; subst gS; try go_wp2
        replace aB := rD aB; replace aK := bD aK; replace aG := bD aG; replace HB := lD HB; have p1433 : 0 ≤ (aA : Int) := oda; have q1433 : aA < (l0.length : Int) := oda; obtain ⟨aE, fP, bR, bS, bU, bV, bW, bX, bY, bZ, cA, cB⟩ := at_T52 fV.out aA p1433 q1433; have bB := cB; have bA := cA; have aZ := bZ; have aY := bY; have aX := bX; have aW := bW; have aV := bV; have aU := bU; have aT := bS; have aS := bR; cases fP
        replace bR := xce HB bR; replace bS := xce HB bS; replace bU := xce HB bU; replace bV := xce HB bV; replace bW := xce HB bW; replace bX := xce HB bX; replace bY := xce HB bY; replace bZ := xce HB bZ; replace cA := xce HB cA; replace cB := xce HB cB; replace p1433 := eq_true p1433; replace q1433 := eq_true q1433; refine st_ 12 (fun w' => w'.cell? ⟨aN, 0, none⟩ = some (.int .i64 aI) ∧ w'.cell? ⟨aN, 1, none⟩ = some (.int .i64 aJ) ∧ w'.cell? ⟨aN, 2, none⟩ = some (.slice bP aD.length bQ) ∧ w'.cell? (aE.add ((aA).toNat * 10)) = some (.int .i64 ((rd_T52 l0 aA).f0)) ∧ w'.cell? ⟨(aE.add ((aA).toNat * 10)).block, (aE.add ((aA).toNat * 10)).off + 1, none⟩ = some (.int .i64 ((rd_T52 l0 aA).f1)) ∧ w'.cell? ⟨(aE.add ((aA).toNat * 10)).block, (aE.add ((aA).toNat * 10)).off + 2, none⟩ = some (.int .i64 ((rd_T52 l0 aA).f2)) ∧ w'.cell? ⟨(aE.add ((aA).toNat * 10)).block, (aE.add ((aA).toNat * 10)).off + 3, none⟩ = some (.int .i64 ((rd_T52 l0 aA).f3)) ∧ w'.cell? ⟨(aE.add ((aA).toNat * 10)).block, (aE.add ((aA).toNat * 10)).off + 4, none⟩ = some (.int .i64 ((rd_T52 l0 aA).f4.f0)) ∧ w'.cell? ⟨(aE.add ((aA).toNat * 10)).block, (aE.add ((aA).toNat * 10)).off + 5, none⟩ = some (.int .i64 ((rd_T52 l0 aA).f4.f1.f0)) ∧ w'.cell? ⟨(aE.add ((aA).toNat * 10)).block, (aE.add ((aA).toNat * 10)).off + 6, none⟩ = some (.int .i64 ((rd_T52 l0 aA).f4.f1.f1)) ∧ w'.cell? ⟨(aE.add ((aA).toNat * 10)).block, (aE.add ((aA).toNat * 10)).off + 7, none⟩ = some (.int .i64 ((rd_T52 l0 aA).f4.f1.f2)) ∧ w'.cell? ⟨(aE.add ((aA).toNat * 10)).block, (aE.add ((aA).toNat * 10)).off + 8, none⟩ = some (.int .i64 ((rd_T52 l0 aA).f4.f1.f3)) ∧ w'.cell? ⟨(aE.add ((aA).toNat * 10)).block, (aE.add ((aA).toNat * 10)).off + 9, none⟩ = some (.string ((rd_T52 l0 aA).f4.f1.f4))) spec_HardOf.T7 spec_HardOf.B7 ⟨xc aG 0 rfl, xc aG 1 rfl, xc aG 2 rfl, (xce HB aS), (xce HB aT), (xce HB aU), (xce HB aV), (xce HB aW), (xce HB aX), (xce HB aY), (xce HB aZ), (xce HB bA), (xce HB bB)⟩ (fun hHeld HT_ HW_ => ?_); generalize wc.drew = iI at aB aK aG HB bR bS bU bV bW bX bY bZ cA cB hHeld ⊢; refine pV 1 21 ?_; refine pV 2 22 ?_; refine pV 3 23 ?_; refine tK 0 20 ?_; refine tK 4 24 ?_
        refine join_ (σ := Value × Nat) 2 #[true, true, true, true, true, true, true, true, true, true, false, false] (fun s_ => [(25, .tuple #[.agg #[.int .i64 cE, .int .i64 cF, s_.1], .bool cR]), (6, .pointer (some ⟨s_.2, 0, none⟩)), (19, .tuple #[.agg #[.int .i64 cE, .int .i64 cF, s_.1], .bool cR]), (26, .agg #[.int .i64 cE, .int .i64 cF, s_.1]), (27, .bool cR)]) (fun s_ w' => (w'.cell? ⟨aN, 0, none⟩ = some (.int .i64 aI) ∧ w'.cell? ⟨aN, 1, none⟩ = some (.int .i64 aJ) ∧ w'.cell? ⟨aN, 2, none⟩ = some (.slice bP aD.length bQ) ∧ w'.cell? (aE.add ((aA).toNat * 10)) = some (.int .i64 ((rd_T52 l0 aA).f0)) ∧ w'.cell? ⟨(aE.add ((aA).toNat * 10)).block, (aE.add ((aA).toNat * 10)).off + 1, none⟩ = some (.int .i64 ((rd_T52 l0 aA).f1)) ∧ w'.cell? ⟨(aE.add ((aA).toNat * 10)).block, (aE.add ((aA).toNat * 10)).off + 2, none⟩ = some (.int .i64 ((rd_T52 l0 aA).f2)) ∧ w'.cell? ⟨(aE.add ((aA).toNat * 10)).block, (aE.add ((aA).toNat * 10)).off + 3, none⟩ = some (.int .i64 ((rd_T52 l0 aA).f3)) ∧ w'.cell? ⟨(aE.add ((aA).toNat * 10)).block, (aE.add ((aA).toNat * 10)).off + 4, none⟩ = some (.int .i64 ((rd_T52 l0 aA).f4.f0)) ∧ w'.cell? ⟨(aE.add ((aA).toNat * 10)).block, (aE.add ((aA).toNat * 10)).off + 5, none⟩ = some (.int .i64 ((rd_T52 l0 aA).f4.f1.f0)) ∧ w'.cell? ⟨(aE.add ((aA).toNat * 10)).block, (aE.add ((aA).toNat * 10)).off + 6, none⟩ = some (.int .i64 ((rd_T52 l0 aA).f4.f1.f1)) ∧ w'.cell? ⟨(aE.add ((aA).toNat * 10)).block, (aE.add ((aA).toNat * 10)).off + 7, none⟩ = some (.int .i64 ((rd_T52 l0 aA).f4.f1.f2)) ∧ w'.cell? ⟨(aE.add ((aA).toNat * 10)).block, (aE.add ((aA).toNat * 10)).off + 8, none⟩ = some (.int .i64 ((rd_T52 l0 aA).f4.f1.f3)) ∧ w'.cell? ⟨(aE.add ((aA).toNat * 10)).block, (aE.add ((aA).toNat * 10)).off + 9, none⟩ = some (.string ((rd_T52 l0 aA).f4.f1.f4))) ∧ (Kd.R k50 50 w' w.heap.size (fun k_ => some k_ ≠ (.slice bP aD.length bQ : Value).ownBlock) s_.1 bL) ∧ (Kd.R k50 50 w' w.heap.size (fun k_ => some k_ ≠ (s_.1 : Value).ownBlock) (.slice bP aD.length bQ) aD) ∧ (w'.heap[aR]? = some (.cells #[.int .i64 bC, .int .i64 bE, .slice none 0 0] 34 (0, 0))) ∧ (w'.heap[aN]? = some (.cells #[.int .i64 aI, .int .i64 aJ, .slice bP aD.length bQ] 34 (0, 0))) ∧ (w'.heap[s_.2]? = some (.cells #[.int .i64 0, .int .i64 0, .slice none 0 0] 34 (0, 0))) ∧ (w.heap.size ≤ s_.2) ∧ (w.heap.size ≤ s_.2) ∧ (aR ≠ s_.2) ∧ (s_.2 ≠ aR) ∧ (aN ≠ s_.2) ∧ (s_.2 ≠ aN) ∧ (Below w.heap.size w w')) ?_ ?_; rotate_left
        ·intro hCont; refine two_ (i := 5) (j := 9) (Ni := some 25) (Nj := some 6) #[true, true, true, true, true, true, false, false, false, false, false, false] #[true, true, true, true, true, false, false, false, false, true, false, false] rfl rfl rfl rfl (two_of HT_.out (by kernel_rfl)) (by decide) (by decide) (fun K hK => ?_) (fun K hK => ?_)
         ·skip
          refine d1_ Tryz.func28 (spec_HardApply.calls hC.out (xC aB) ((Kd.R_reads' aB.out).2.1)) ?_; rintro cS iC ⟨fE, hb⟩; have bM := aM (Kd.R_lower (Kd.R_new' fE (Kd.R_lt (xr aB))) (below_size xbg)); replace aB := aM (Kd.R_elder' (xr aB) (Kd.R_base fE) hb); replace aK := xbb aK hb; replace aG := xbb aG hb; replace HB := xbs hb; (try clear hb fE); refine hK.out _ _ ⟨xc aG 0 rfl, xc aG 1 rfl, xc aG 2 rfl, (xce HB aS), (xce HB aT), (xce HB aU), (xce HB aV), (xce HB aW), (xce HB aX), (xce HB aY), (xce HB aZ), (xce HB bA), (xce HB bB)⟩ (fun hHeld => ?_); clear hK K; refine nm_ (N := 25) ?_; refine pV 6 19 ?_; refine pV 7 26 ?_; refine pV 8 27 ?_; refine oN 9 6 fun K hK => ?_
          refine bE8_ (N := 6) rfl ?_; intro aC hg iD bG hb; replace aB := xrb aB hb; replace bM := xrb bM hb; have aF := aM (xge hg); have dG := aM (xge hg); replace HB := xbs hb; have aO := nblt aK hg; have aP := nbgt aK hg; have aH := nblt aG hg; have aQ := nbgt aG hg; replace aK := xbb aK hb; replace aG := xbb aG hb; clear hb hg; refine hK.out _ _ ⟨xc aG 0 rfl, xc aG 1 rfl, xc aG 2 rfl, (xce HB aS), (xce HB aT), (xce HB aU), (xce HB aV), (xce HB aW), (xce HB aX), (xce HB aY), (xce HB aZ), (xce HB bA), (xce HB bB)⟩ (fun hHeld => ?_); clear hK K; refine nm_ (N := 6) ?_; exact norm_ u30_24 (hCont (cS, aC) _ ⟨hHeld, u30_25, u30_26, xblk, xblk, xblk, aF.out, dG.out, aO.out, aP.out, aH.out, aQ.out, xbg⟩)
         skip
         refine bE8_ (N := 6) rfl ?_; intro aC hg iC bG hb; replace aB := xrb aB hb; have aF := aM (xge hg); have dG := aM (xge hg); replace HB := xbs hb; have aO := nblt aK hg; have aP := nbgt aK hg; have aH := nblt aG hg; have aQ := nbgt aG hg; replace aK := xbb aK hb; replace aG := xbb aG hb; clear hb hg; refine hK.out _ _ ⟨xc aG 0 rfl, xc aG 1 rfl, xc aG 2 rfl, (xce HB aS), (xce HB aT), (xce HB aU), (xce HB aV), (xce HB aW), (xce HB aX), (xce HB aY), (xce HB aZ), (xce HB bA), (xce HB bB)⟩ (fun hHeld => ?_); clear hK K; refine nm_ (N := 6) ?_; refine oN 5 25 fun K hK => ?_
         refine d1_ Tryz.func28 (spec_HardApply.calls hC.out (xC aB) ((Kd.R_reads' aB.out).2.1)) ?_; rintro cS iD ⟨fE, hb⟩; have bM := aM (Kd.R_lower (Kd.R_new' fE (Kd.R_lt (xr aB))) (below_size xbg)); replace aB := aM (Kd.R_elder' (xr aB) (Kd.R_base fE) hb); replace aK := xbb aK hb; replace aG := xbb aG hb; replace bG := xbb bG hb; replace HB := xbs hb; (try clear hb fE); refine hK.out _ _ ⟨xc aG 0 rfl, xc aG 1 rfl, xc aG 2 rfl, (xce HB aS), (xce HB aT), (xce HB aU), (xce HB aV), (xce HB aW), (xce HB aX), (xce HB aY), (xce HB aZ), (xce HB bA), (xce HB bB)⟩ (fun hHeld => ?_); clear hK K; refine nm_ (N := 25) ?_; refine pV 6 19 ?_; refine pV 7 26 ?_; refine pV 8 27 ?_; exact norm_ u30_24 (hCont (cS, aC) _ ⟨hHeld, u30_25, u30_26, xblk, xblk, xblk, aF.out, dG.out, aO.out, aP.out, aH.out, aQ.out, xbg⟩)
        rintro ⟨cS, aC⟩ cI ⟨hS_, h0_, h1_, h2_, h3_, h4_, h5_, h6_, h7_, h8_, h9_, h10_, h11_⟩; have bM := aM h0_; replace aB := aM h1_; replace aK := aM h2_; replace aG := aM h3_; have bG := aM h4_; have aF := aM h5_; have dG := aM h6_; have aO := aM h7_; have aP := aM h8_; have aH := aM h9_; have aQ := aM h10_; replace HB := aM h11_; clear h0_ h1_ h2_ h3_ h4_ h5_ h6_ h7_ h8_ h9_ h10_ h11_; have hHeld : cI.cell? ⟨aN, 0, none⟩ = some (.int .i64 aI) ∧ cI.cell? ⟨aN, 1, none⟩ = some (.int .i64 aJ) ∧ cI.cell? ⟨aN, 2, none⟩ = some (.slice bP aD.length bQ) ∧ cI.cell? (aE.add ((aA).toNat * 10)) = some (.int .i64 ((rd_T52 l0 aA).f0)) ∧ cI.cell? ⟨(aE.add ((aA).toNat * 10)).block, (aE.add ((aA).toNat * 10)).off + 1, none⟩ = some (.int .i64 ((rd_T52 l0 aA).f1)) ∧ cI.cell? ⟨(aE.add ((aA).toNat * 10)).block, (aE.add ((aA).toNat * 10)).off + 2, none⟩ = some (.int .i64 ((rd_T52 l0 aA).f2)) ∧ cI.cell? ⟨(aE.add ((aA).toNat * 10)).block, (aE.add ((aA).toNat * 10)).off + 3, none⟩ = some (.int .i64 ((rd_T52 l0 aA).f3)) ∧ cI.cell? ⟨(aE.add ((aA).toNat * 10)).block, (aE.add ((aA).toNat * 10)).off + 4, none⟩ = some (.int .i64 ((rd_T52 l0 aA).f4.f0)) ∧ cI.cell? ⟨(aE.add ((aA).toNat * 10)).block, (aE.add ((aA).toNat * 10)).off + 5, none⟩ = some (.int .i64 ((rd_T52 l0 aA).f4.f1.f0)) ∧ cI.cell? ⟨(aE.add ((aA).toNat * 10)).block, (aE.add ((aA).toNat * 10)).off + 6, none⟩ = some (.int .i64 ((rd_T52 l0 aA).f4.f1.f1)) ∧ cI.cell? ⟨(aE.add ((aA).toNat * 10)).block, (aE.add ((aA).toNat * 10)).off + 7, none⟩ = some (.int .i64 ((rd_T52 l0 aA).f4.f1.f2)) ∧ cI.cell? ⟨(aE.add ((aA).toNat * 10)).block, (aE.add ((aA).toNat * 10)).off + 8, none⟩ = some (.int .i64 ((rd_T52 l0 aA).f4.f1.f3)) ∧ cI.cell? ⟨(aE.add ((aA).toNat * 10)).block, (aE.add ((aA).toNat * 10)).off + 9, none⟩ = some (.string ((rd_T52 l0 aA).f4.f1.f4)) := hS_; obtain ⟨dU, dV, fQ⟩ := Kd.R_slice bM.out; (first | subst fQ | (injection fQ with f1_ f2_ f3_; have f4_ := f1_.symm; have f5_ := f3_.symm; clear f1_ f2_ f3_; subst f4_; subst f5_)); refine norm_ (a' := ?_) ?_ ?_; rotate_left
        ·simp only [putAll, Act.put, List.setIfInBounds_toArray, List.set_cons_zero, List.set_cons_succ]; rfl
        refine one_ (i := 10) (N := none) #[true, true, true, true, true, true, true, true, true, true, true, false] rfl rfl (one_of HT_.out (by kernel_rfl)) (by decide) (fun K hK => ?_); have hs27 := xf3 (w := cI) bG; have hns27_0 := a4_ aO aH aP aQ; refine skip_ (w1 := ?_) (by rfl) rfl ?_ ?_; rotate_left
        ·go_simp
         rfl
        refine hK.out _ _ ⟨(xF_ hHeld.1), (xF_ hHeld.2.1), (xF_ hHeld.2.2.1), ((cell_far (p := ⟨aC, _, none⟩) u30_13 _).trans (((cell_far (p := ⟨aC, _, none⟩) u30_13 _).trans (((cell_far (p := ⟨aC, _, none⟩) u30_13 _).trans (hHeld.2.2.2.1)))))), ((cell_far (p := ⟨aC, _, none⟩) u30_14 _).trans (((cell_far (p := ⟨aC, _, none⟩) u30_14 _).trans (((cell_far (p := ⟨aC, _, none⟩) u30_14 _).trans (hHeld.2.2.2.2.1)))))), ((cell_far (p := ⟨aC, _, none⟩) u30_15 _).trans (((cell_far (p := ⟨aC, _, none⟩) u30_15 _).trans (((cell_far (p := ⟨aC, _, none⟩) u30_15 _).trans (hHeld.2.2.2.2.2.1)))))), ((cell_far (p := ⟨aC, _, none⟩) u30_16 _).trans (((cell_far (p := ⟨aC, _, none⟩) u30_16 _).trans (((cell_far (p := ⟨aC, _, none⟩) u30_16 _).trans (hHeld.2.2.2.2.2.2.1)))))), ((cell_far (p := ⟨aC, _, none⟩) u30_17 _).trans (((cell_far (p := ⟨aC, _, none⟩) u30_17 _).trans (((cell_far (p := ⟨aC, _, none⟩) u30_17 _).trans (hHeld.2.2.2.2.2.2.2.1)))))), ((cell_far (p := ⟨aC, _, none⟩) u30_18 _).trans (((cell_far (p := ⟨aC, _, none⟩) u30_18 _).trans (((cell_far (p := ⟨aC, _, none⟩) u30_18 _).trans (hHeld.2.2.2.2.2.2.2.2.1)))))), ((cell_far (p := ⟨aC, _, none⟩) u30_19 _).trans (((cell_far (p := ⟨aC, _, none⟩) u30_19 _).trans (((cell_far (p := ⟨aC, _, none⟩) u30_19 _).trans (hHeld.2.2.2.2.2.2.2.2.2.1)))))), ((cell_far (p := ⟨aC, _, none⟩) u30_20 _).trans (((cell_far (p := ⟨aC, _, none⟩) u30_20 _).trans (((cell_far (p := ⟨aC, _, none⟩) u30_20 _).trans (hHeld.2.2.2.2.2.2.2.2.2.2.1)))))), ((cell_far (p := ⟨aC, _, none⟩) u30_21 _).trans (((cell_far (p := ⟨aC, _, none⟩) u30_21 _).trans (((cell_far (p := ⟨aC, _, none⟩) u30_21 _).trans (hHeld.2.2.2.2.2.2.2.2.2.2.2.1)))))), ((cell_far (p := ⟨aC, _, none⟩) u30_22 _).trans (((cell_far (p := ⟨aC, _, none⟩) u30_22 _).trans (((cell_far (p := ⟨aC, _, none⟩) u30_22 _).trans (hHeld.2.2.2.2.2.2.2.2.2.2.2.2))))))⟩ (fun hHeld => ?_); clear hK K; refine pV 11 7 ?_; refine dn_ ?_; go_upto_if 29 with (fail)
        go_cut [] (fun wc => ∃ (kq : Nat) (cC : Int) (cD : Int), Aside0 (spec_HardOf.j3 kq l0 aA cE cF bL = some (r1, r2, r3, r4)) ∧ Aside0 (kq ≤ fC) ∧ Aside0 (Kd.R k50 50 wc w.heap.size (fun k_ => some k_ ≠ ((.slice dU bL.length dV) : Value).ownBlock) (.slice bP aD.length bQ) aD) ∧ Aside0 (Kd.R k50 50 wc w.heap.size (fun k_ => some k_ ≠ ((.slice bP aD.length bQ) : Value).ownBlock) (.slice dU bL.length dV) bL) ∧ Aside0 (wc.heap[aR]? = some (.cells #[.int .i64 cC, .int .i64 cD, (.slice none 0 0)] 34 (0, 0))) ∧ Aside0 (wc.heap[aN]? = some (.cells #[.int .i64 aI, .int .i64 aJ, (.slice bP aD.length bQ)] 34 (0, 0))) ∧ Aside0 (wc.heap[aC]? = some (.cells #[.int .i64 cE, .int .i64 cF, (.slice dU bL.length dV)] 34 (0, 0))) ∧ Aside0 (Below w.heap.size w wc))
        case first =>
         have H := fD.out; clear fD; cases cR; rotate_left
         ·replace H := iT H; replace H := aM H; go_wp2; go_meet
          case rel => exact ⟨_, _, _, H, ⟨by have := HJ1.out; have := HK2.out; have := HJ11.out; first | omega | exact Nat.le_refl _⟩, ⟨xrs aB⟩, ⟨xrs bM⟩, ⟨xB⟩, ⟨xB⟩, ⟨xP⟩, ⟨xbg⟩⟩
         replace H := iN H; obtain ⟨rfl, rfl, rfl, rfl⟩ := i4_ H; have hD := a4_ bI bH aH aQ; have eO := xf3 (w := cI) aG; have hH := a2_ aO aP; have eU := xf3 (w := cI) aK; go_wp2_with (first | (refine sE_ 34 2 ?_; intro hJ hw; replace aB := xws hw aB; replace bM := xws hw bM; replace aK : Aside0 (hJ.heap[aR]? = some (.cells #[.int .i64 aI, .int .i64 aJ, .slice bP aD.length bQ] 34 (0, 0))) := xwp hw; replace aG := xwc hw aG; replace bG : Aside0 (hJ.heap[aC]? = some (.cells #[.int .i64 cE, .int .i64 cF, .slice dU bL.length dV] 34 (0, 0))) := xwp hw; replace HB := xbw hw HB; clear hw))
         refine bodyPost_ret (results_ct rfl _ _ aR 34 #[.int .i64 aI, .int .i64 aJ, .slice bP aD.length bQ] (0, 0) _ rfl xblk Tryz.underlying34 rfl (by kernel_rfl)) rfl ?_; exact ⟨_, xerr, by (with_reducible repeat (first | apply Kd.R_alloc | apply Kd.R_drewN | apply Kd.R_drew)); exact Kd.R_mono aB.out (fun _ hk => trivial), xbg⟩
        case rest =>
         clear fD
         try clear fK
         try clear fL
         try clear fM
         try clear fN
         try clear cU cV cW
         try clear bR
         try clear bS
         try clear bU
         try clear bV
         try clear bW
         try clear bX
         try clear bY
         try clear bZ
         try clear cA
         try clear cB
         try clear p1433
         try clear q1433
         obtain ⟨kq, cC, cD, HA, HJ20, aB, dH, aK, aG, bG, HB⟩ := hcut; cases kq with
         | zero => exact absurd HA.out (by simp [spec_HardOf.j3])
         | succ gT =>
          have H := HA.out; clear HA; simp only [spec_HardOf.j3] at H; replace H := aM H; have hL := a4_ aP aO aQ aH; have fW := xf3 (w := wc) bG; have hP := a2_ bI bH; have gC := xf3 (w := wc) aG; go_wp2; go_roundg gT
          case measure => have := HJ1.out; have := HK2.out; have := HJ11.out; have := HJ20.out; omega
          case rel => exact ⟨_, _, _, _, _, _, _, u30_10, H, ⟨by have := HJ1.out; have := HK2.out; have := HJ11.out; have := HJ20.out; omega⟩, ⟨xrm dH (fun _ _ => trivial)⟩, ⟨xB⟩, ⟨xP⟩, ⟨xbg⟩⟩
       cases H
def laws_sameEntries.l0 : Nat → List (S50) → List (S50) → Int → Option (Bool)
 | 0, _, _, _ => none
 | k + 1, x0, x1, x5 => if x5 < (x0.length : Int) then (if 0 ≤ x5 then (if x5 < (x1.length : Int) then (if (!(((rd_T50 x0 x5).f0) == ((rd_T50 x1 x5).f0)) || ((!(((rd_T50 x0 x5).f1.f0) == ((rd_T50 x1 x5).f1.f0)) || (!(((rd_T50 x0 x5).f1.f1) == ((rd_T50 x1 x5).f1.f1)) || (!(((rd_T50 x0 x5).f1.f2) == ((rd_T50 x1 x5).f1.f2)) || (!(((rd_T50 x0 x5).f1.f3) == ((rd_T50 x1 x5).f1.f3)) || (!((((rd_T50 x0 x5).f1.f4).toList) == (((rd_T50 x1 x5).f1.f4).toList))))))))) = true then (some false) else (laws_sameEntries.l0 k x0 x1 (wrap64 (x5 + 1)))) else (none)) else (none)) else (some true)
def laws_sameEntries.f (k : Nat) (l0 : List (S50)) (l1 : List (S50)) : Option (Bool) := if (l0.length : Int) = (l1.length : Int) then (laws_sameEntries.l0 k l0 l1 0) else (some false)
theorem laws_sameEntries.calls {k : Nat} {A0 : Option Addr} {c0 : Nat} {l0 : List (S50)} {A1 : Option Addr} {c1 : Nat} {l1 : List (S50)} {r : Bool} {w : World} (h : laws_sameEntries.f k l0 l1 = some r) (fI : Kd.C k50 w A0 l0.length l0) (fJ : l0.length ≤ c0) (hR : Kd.C k50 w A1 l1.length l1) (hS : l1.length ≤ c1) :
 Calls Tryz.prog 12 #[.slice A0 l0.length c0, .slice A1 l1.length c1] w fun e w' => e = .returned (.bool r) ∧ Drawn0 w w' := by
 have iF := Tryz.underlying50; have fV := aM fI; have hW := aM fJ
 clear fI fJ
 have hT := aM hR; have iP := aM hS
 clear hR hS
 have H := h; unfold laws_sameEntries.f at H
 clear h
 by_cases c3 : (l0.length : Int) = (l1.length : Int)
 ·rw [if_pos c3] at H; obtain ⟨fS, fT⟩ := bT c3; have fU : (l0.length == l1.length) = true := by first | simpa using c3 | (simp at c3 ⊢; omega)
  clear c3; replace H := aM H; go_enter Tryz.func12, Tryz.ntmps12
  go_wp2
  repeat (go_quiet (fail); try go_wp2)
  go_loopg [5] k (fun kq v5 w' => ∃ (aL : Int), v5 = .int .i64 aL ∧ Aside0 (laws_sameEntries.l0 kq l0 l1 aL = some r) ∧ Aside0 (kq ≤ k) ∧ Drawn0 w w')
  case atStart => exact ⟨_, u30_10, H, ⟨Nat.le_refl _⟩, u30_11⟩
  case round =>
   clear H; try clear c1
   try clear c3
   try clear fS
   try clear fT
   try clear fU
   obtain ⟨aL, rfl, HA, HK1, ⟨m1, rfl⟩⟩ := hrel; cases gk with
   | zero => exact absurd HA.out (by simp [laws_sameEntries.l0])
   | succ k1 =>
    have H := HA.out; clear HA; simp only [laws_sameEntries.l0] at H; replace H := dI_ H; obtain ⟨gU, H⟩ | ⟨gU, H⟩ := H
    ·replace H := dN_ H; obtain ⟨iG, H⟩ := H; replace H := dN_ H; obtain ⟨iH, H⟩ := H
     by_cases c7 : (!(((rd_T50 l0 aL).f0) == ((rd_T50 l1 aL).f0)) || ((!(((rd_T50 l0 aL).f1.f0) == ((rd_T50 l1 aL).f1.f0)) || (!(((rd_T50 l0 aL).f1.f1) == ((rd_T50 l1 aL).f1.f1)) || (!(((rd_T50 l0 aL).f1.f2) == ((rd_T50 l1 aL).f1.f2)) || (!(((rd_T50 l0 aL).f1.f3) == ((rd_T50 l1 aL).f1.f3)) || (!((((rd_T50 l0 aL).f1.f4).toList) == (((rd_T50 l1 aL).f1.f4).toList))))))))) = true
     ·rw [if_pos c7] at H; have cP : (!(((rd_T50 l0 aL).f0) == ((rd_T50 l1 aL).f0)) || ((!(((rd_T50 l0 aL).f1.f0) == ((rd_T50 l1 aL).f1.f0)) || (!(((rd_T50 l0 aL).f1.f1) == ((rd_T50 l1 aL).f1.f1)) || (!(((rd_T50 l0 aL).f1.f2) == ((rd_T50 l1 aL).f1.f2)) || (!(((rd_T50 l0 aL).f1.f3) == ((rd_T50 l1 aL).f1.f3)) || (!((((rd_T50 l0 aL).f1.f4).toList) == (((rd_T50 l1 aL).f1.f4).toList))))))))) = true := c7; clear c7; obtain rfl := Option.some.inj H; have p1441 : 0 ≤ (aL : Int) := oda; have q1441 : aL < (l0.length : Int) := oda; obtain ⟨fF, eA, eB, eC, eD, eE, eF, eG⟩ := at_T50 fV.out aL p1441 q1441; cases eA
      replace p1441 := eq_true p1441; replace q1441 := eq_true q1441; have p1442 : 0 ≤ (aL : Int) := oda; have q1442 : aL < (l1.length : Int) := oda; obtain ⟨fG, eH, eI, eJ, eK, eL, eM, eN⟩ := at_T50 hT.out aL p1442 q1442; cases eH
      replace p1442 := eq_true p1442; replace q1442 := eq_true q1442; go_wp2
      repeat (go_quiet (fail); try go_wp2)
      go_ret
      exact ⟨u30_10, u30_11⟩
     rw [if_neg c7] at H; have cP : (!(((rd_T50 l0 aL).f0) == ((rd_T50 l1 aL).f0)) || ((!(((rd_T50 l0 aL).f1.f0) == ((rd_T50 l1 aL).f1.f0)) || (!(((rd_T50 l0 aL).f1.f1) == ((rd_T50 l1 aL).f1.f1)) || (!(((rd_T50 l0 aL).f1.f2) == ((rd_T50 l1 aL).f1.f2)) || (!(((rd_T50 l0 aL).f1.f3) == ((rd_T50 l1 aL).f1.f3)) || (!((((rd_T50 l0 aL).f1.f4).toList) == (((rd_T50 l1 aL).f1.f4).toList))))))))) = false := by simpa using c7
     clear c7; replace H := aM H; have p1441 : 0 ≤ (aL : Int) := oda; have q1441 : aL < (l0.length : Int) := oda; obtain ⟨fF, eA, eB, eC, eD, eE, eF, eG⟩ := at_T50 fV.out aL p1441 q1441; cases eA
     replace p1441 := eq_true p1441; replace q1441 := eq_true q1441; have p1442 : 0 ≤ (aL : Int) := oda; have q1442 : aL < (l1.length : Int) := oda; obtain ⟨fG, eH, eI, eJ, eK, eL, eM, eN⟩ := at_T50 hT.out aL p1442 q1442; cases eH
     replace p1442 := eq_true p1442; replace q1442 := eq_true q1442; go_wp2
     repeat (go_quiet (fail); try go_wp2)
     go_roundg k1
     case measure => have := HK1.out; omega
     case rel => exact ⟨_, u30_10, H, ⟨by have := HK1.out; omega⟩, u30_11⟩
    obtain rfl := Option.some.inj H; go_wp2
    repeat (go_quiet (fail); try go_wp2)
    go_ret
    exact ⟨u30_10, u30_11⟩
 rw [if_neg c3] at H; obtain ⟨fS, fT⟩ := bF c3; have fU : (l0.length == l1.length) = false := by first | simpa using c3 | (simp at c3 ⊢; omega)
 obtain rfl := Option.some.inj H; go_enter Tryz.func12, Tryz.ntmps12
 go_wp2
 repeat (go_quiet (fail); try go_wp2)
 go_ret
 exact ⟨u30_10, u30_11⟩
end Go.Proofs.YtppfnnpfamkclaaGreat.QFnSaved
