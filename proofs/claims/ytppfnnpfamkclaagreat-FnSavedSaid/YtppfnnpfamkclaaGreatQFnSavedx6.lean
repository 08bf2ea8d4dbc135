-- A walk, by a program of this session.
import Derived.Test.YtppfnnpfamkclaaGreatQFnSavedx0
import Derived.Test.YtppfnnpfamkclaaGreatQFnSavedx3
import Derived.Test.YtppfnnpfamkclaaGreatQFnSavedx4
import Derived.Test.YtppfnnpfamkclaaGreatQFnSavedx5
namespace Go.Proofs.YtppfnnpfamkclaaGreat.QFnSaved
open Go.RowKit Go.Proofs.YtppfnnpfamkclaaGreatW.PrintWords Go.Proofs.YtppfnnpfamkclaaGreatW.PrintLast Go.Proofs.YtppfnnpfamkclaaGreatW.PrintMore
attribute [local go_sem] max2_int min2_int max_two min_two max_three min_three max_four min_four   -- for this text's walks alone
set_option maxHeartbeats 8000000
set_option maxRecDepth 100000
set_option linter.unusedVariables false
set_option linter.unusedSimpArgs false
theorem u6_0 {p : Prop} (h : p := by first | rfl | (simp; done) | (simp [*]; done)) : p := h
theorem u6_1 {p : Prop} (h : p := by first | (rw [hY]; with_reducible exact H) | (have H2_ := oS H; rw [hY]; with_reducible exact H2_) | (have H2_ := oS H; with_reducible exact H2_) | with_reducible exact H | (rw [hY]; exact H) | exact H) : p := h
theorem u6_3 {p : Prop} (h : p := by repeat (first | exact Drawn0.refl _ | apply Drawn0.step)) : p := h
theorem u6_4 {p : Prop} (h : p := by (with_reducible repeat (first | apply Kd.R_alloc | apply Kd.R_drewN | apply Kd.R_drew)); exact eJ.out) : p := h
theorem u6_5 {p : Prop} (h : p := by (with_reducible repeat (first | apply Kd.V_alloc | apply Kd.V_drewN | apply Kd.V_drew)); exact aZ.out) : p := h
theorem u6_6 {p : Prop} (h : p := by first | exact Kd.R_nil _ _ _ _ _ | exact Kd.N_nil _ _ _ _ _ | exact Kd.V_nil _ _ _ _ _ | exact Kd.Q_nil _ _ _ _ _ | exact Kd.S_nil _ _ _ _ _) : p := h
def spec_PutNum.l0 : Nat → Int → List Int → Option (List Int)
 | 0, _, _ => none
 | k + 1, x0, x3 => if x0 > 127 then (if x3.length < 140737488355328 then (spec_PutNum.l0 k (wrap64 (Int.tdiv x0 128)) (x3 ++ [(wrap64 ((Int.tmod x0 128) + 128)) % 256])) else (none)) else (if x3.length < 140737488355328 then (some (x3 ++ [(x0) % 256])) else (none))
def spec_PutNum.f (k : Nat) (a0 : Int) : Option (List Int) := (some (([] : List Int) : List Int)).bind fun cK => (if a0 < 0 then (some cK) else (spec_PutNum.l0 k a0 cK))
theorem spec_PutNum.calls {k : Nat} {a0 : Int} {r : List Int} {w : World} (h : spec_PutNum.f k a0 = some r) :
 Calls Tryz.prog 77 #[.int .i64 a0] w fun e w' => ∃ v0_ : Value, e = .returned (v0_) ∧ Kd.R (Kd.int .u8) 5 w' w.heap.size (fun _ => True) v0_ r ∧ Below w.heap.size w w' := by
 have HB := aM (Below.refl w.heap.size w); have H := h; unfold spec_PutNum.f at H
 clear h
 obtain ⟨cK, hY⟩ : ∃ y_ : List Int, y_ = (([] : List Int)) := ⟨_, rfl⟩; replace H : (if a0 < 0 then (some cK) else (spec_PutNum.l0 k a0 cK)) = some r := u6_1; have cX := aM hY
 clear hY
 replace H := dI_ H; obtain ⟨cL, H⟩ | ⟨cL, H⟩ := H
 ·obtain rfl := Option.some.inj H; go_enter Tryz.func77, Tryz.ntmps77
  go_wp2_with (first | (refine li_ .u8 5 (N := 4) rfl [] ?_; intro v177 w3 cN hb; (first | rw [← cX.out] at cN | (simp only [Int.reduceToNat] at cN; rw [← cX.out] at cN)); have eJ := aM (Kd.R_lower cN (below_size xbel)); replace HB := xbs hb; clear hb cN))
  go_ret
  exact ⟨_, xerr, u6_4, xbel⟩
 replace H := aM H; go_enter Tryz.func77, Tryz.ntmps77
 go_wp2_with (first | (refine li_ .u8 5 (N := 4) rfl [] ?_; intro v177 w5 fR hb; (first | rw [← cX.out] at fR | (simp only [Int.reduceToNat] at fR; rw [← cX.out] at fR)); have eJ := aM (Kd.R_lower fR (below_size xbel)); replace HB := xbs hb; clear hb fR))
 go_loopg [0, 3] k (fun kq v0 v3 w' => ∃ (bI : Int) (bE : List Int), v0 = .int .i64 bI ∧ Aside0 (spec_PutNum.l0 kq bI bE = some r) ∧ Aside0 (kq ≤ k) ∧ Aside0 (Kd.R (Kd.int .u8) 5 w' w.heap.size (fun _ => True) v3 bE) ∧ Aside0 (Below w.heap.size w w'))
 case atStart => exact ⟨_, _, u6_0, H, ⟨Nat.le_refl _⟩, ⟨u6_4⟩, ⟨xbel⟩⟩
 case round =>
  clear H; try clear c2
  try clear cL
  obtain ⟨bI, bE, rfl, HA, HK1, eD, HB⟩ := hrel; cases gk with
  | zero => exact absurd HA.out (by simp [spec_PutNum.l0])
  | succ k1 =>
   have H := HA.out; clear HA; simp only [spec_PutNum.l0] at H; replace H := dI_ H; obtain ⟨eE, H⟩ | ⟨eE, H⟩ := H
   ·replace H := pN_ H; obtain ⟨c8, H⟩ := H; have LMc8 := aM c8; clear c8; generalize hY : bE ++ [(wrap64 ((Int.tmod bI 128) + 128)) % 256] = fS at H; (try replace H := bS_ H); (try dsimp only at H); have fT := aM hY.symm; clear hY; replace H := aM H; go_wp2_with (first | ((with_reducible refine gate_builtin (b := .append) (xs := #[.tmp 10, .tmp 15]) rfl ?_); at_builtin; refine Kd.R_append (Kd.int .u8) (w0 := w) w.heap.size rfl (.tmp 10) (.tmp 15) 22 5 (.int .u8 0) 1 rfl Tryz.underlying22 info5 rfl (by decide) (by omega) u3 bE ((wrap64 ((Int.tmod bI 128) + 128)) % 256) [.int .u8 ((wrap64 ((Int.tmod bI 128) + 128)) % 256)] (fun _ => True) (fun _ => False) rfl rfl ?aP (fun _ hk => hk.elim) ?aF ?aO ?aB ?aS ?aL ?_; (case aP => exact rfl); (case aB => exact xbel); (case aF => exact (fun _ _ => trivial)); (case aO => exact (xr eD)); (case aS => exact (below_size xbel)); (case aL => have := LMc8.out; omega); intro v180 w9 ho hb hg hat; rw [← fT.out] at ho; replace HB := aM (hb); have fU := aM (ho); clear eD; clear ho hb hg hat))
    go_roundg k1
    case measure => have := HK1.out; omega
    case rel => exact ⟨_, _, u6_0, H, ⟨by have := HK1.out; omega⟩, ⟨by (with_reducible repeat (first | apply Kd.R_alloc | apply Kd.R_drewN | apply Kd.R_drew)); exact fU.out⟩, ⟨xbel⟩⟩
   by_cases eF : bE.length < 140737488355328
   ·rw [if_pos eF] at H; have LMc10 := aM eF; clear eF; generalize hY : bE ++ [(bI) % 256] = kZ at H; (try replace H := bS_ H); (try dsimp only at H); have fV := aM hY.symm; clear hY; obtain rfl := Option.some.inj H; go_wp2_with (first | ((with_reducible refine gate_builtin (b := .append) (xs := #[.tmp 19, .tmp 22]) rfl ?_); at_builtin; refine Kd.R_append (Kd.int .u8) (w0 := w) w.heap.size rfl (.tmp 19) (.tmp 22) 22 5 (.int .u8 0) 1 rfl Tryz.underlying22 info5 rfl (by decide) (by omega) u3 bE ((bI) % 256) [.int .u8 ((bI) % 256)] (fun _ => True) (fun _ => False) rfl rfl ?aP (fun _ hk => hk.elim) ?aF ?aO ?aB ?aS ?aL ?_; (case aP => exact rfl); (case aB => exact xbel); (case aF => exact (fun _ _ => trivial)); (case aO => exact (xr eD)); (case aS => exact (below_size xbel)); (case aL => have := LMc10.out; omega); intro v183 fW ho hb hg hat; rw [← fV.out] at ho; replace HB := aM (hb); have fX := aM (ho); clear eD; clear ho hb hg hat))
    go_ret
    exact ⟨_, xerr, by (with_reducible repeat (first | apply Kd.R_alloc | apply Kd.R_drewN | apply Kd.R_drew)); exact fX.out, xbel⟩
   rw [if_neg eF] at H; cases H
def spec_Sum.l0 : Nat → List Int → Int → Int → Int → Option (Int)
 | 0, _, _, _, _ => none
 | k + 1, x0, x3, x4, x5 => if x5 < (x0.length : Int) then (if 0 ≤ x5 then (spec_Sum.l0 k x0 (Int.tmod (wrap64 (x3 + (wrap64 (rd x0 x5)))) 65521) (Int.tmod (wrap64 (x4 + (Int.tmod (wrap64 (x3 + (wrap64 (rd x0 x5)))) 65521))) 65521) (wrap64 (x5 + 1))) else (none)) else (some (wrap64 ((wrap64 (65536 * x4)) + x3)))
def spec_Sum.f (k : Nat) (l0 : List Int) : Option (Int) := spec_Sum.l0 k l0 1 0 0
theorem spec_Sum.calls {k : Nat} {A0 : Option Addr} {c0 : Nat} {l0 : List Int} {r : Int} {w : World} (h : spec_Sum.f k l0 = some r) (eK : Kd.C (Kd.int .u8) w A0 l0.length l0) (eL : l0.length ≤ c0) :
 Calls Tryz.prog 106 #[.slice A0 l0.length c0] w fun e w' => e = .returned (.int .i64 r) ∧ Drawn0 w w' := by
 have fD := aM eK; have lA := aM eL
 clear eK eL
 have H := h; unfold spec_Sum.f at H
 clear h
 replace H := aM H
 go_enter Tryz.func106, Tryz.ntmps106
 go_wp2
 go_loopg [3, 4, 5] k (fun kq v3 v4 v5 w' => ∃ (bE : Int) (bL : Int) (aD : Int), v3 = .int .i64 bE ∧ v4 = .int .i64 bL ∧ v5 = .int .i64 aD ∧ Aside0 (spec_Sum.l0 kq l0 bE bL aD = some r) ∧ Aside0 (kq ≤ k) ∧ Drawn0 w w')
 case atStart => exact ⟨_, _, _, u6_0, u6_0, u6_0, H, ⟨Nat.le_refl _⟩, u6_3⟩
 case round =>
  clear H
  obtain ⟨bE, bL, aD, rfl, rfl, rfl, HA, HK1, ⟨m1, rfl⟩⟩ := hrel; cases gk with
  | zero => exact absurd HA.out (by simp [spec_Sum.l0])
  | succ k1 =>
   have H := HA.out; clear HA; simp only [spec_Sum.l0] at H; replace H := dI_ H; obtain ⟨cL, H⟩ | ⟨cL, H⟩ := H
   ·replace H := dN_ H; obtain ⟨nS, H⟩ := H; replace H := aM H; have p185 : 0 ≤ (aD : Int) := oda; have q185 : aD < (l0.length : Int) := oda; obtain ⟨mD, lB, iE⟩ := Kd.at_int fD.out aD p185 q185; cases lB
    replace p185 := eq_true p185; replace q185 := eq_true q185; go_wp2; go_roundg k1
    case measure => have := HK1.out; omega
    case rel => exact ⟨_, _, _, u6_0, u6_0, u6_0, H, ⟨by have := HK1.out; omega⟩, u6_3⟩
   obtain rfl := Option.some.inj H; go_wp2; go_ret
   exact ⟨u6_0, u6_3⟩
def spec_Seal.f (k : Nat) (l0 : List Int) : Option (List Int × Bool) := if (l0.length : Int) > 3000 then (some ((([] : List Int)), false)) else ((spec_Sum.f k l0).bind fun aI => ((spec_PutNum.f k (l0.length : Int)).bind fun cG => (if cG.length + l0.length < 140737488355328 then ((some (cG ++ l0 : List Int)).bind fun bM => ((some (([(aI) % 256, (aI / 256) % 256, (aI / 65536) % 256, (aI / 16777216) % 256] : List Int) : List Int)).bind fun bG => (if bM.length + bG.length < 140737488355328 then (some ((bM ++ bG), true)) else (none)))) else (none))))
theorem spec_Seal.calls {k : Nat} {A0 : Option Addr} {c0 : Nat} {l0 r1 : List Int} {r2 : Bool} {w : World} (h : spec_Seal.f k l0 = some (r1, r2)) (eK : Kd.C (Kd.int .u8) w A0 l0.length l0) (eL : l0.length ≤ c0) :
 Calls Tryz.prog 90 #[.slice A0 l0.length c0] w fun e w' => ∃ v0_ : Value, e = .returned (.tuple #[v0_, .bool r2]) ∧ Kd.R (Kd.int .u8) 5 w' w.heap.size (fun _ => True) v0_ r1 ∧ Below w.heap.size w w' := by
 have fD := aM eK; have lA := aM eL
 clear eK eL
 have HB := aM (Below.refl w.heap.size w); have H := h; unfold spec_Seal.f at H
 clear h
 by_cases c2 : (l0.length : Int) > 3000
 ·rw [if_pos c2] at H; have cL := decide_eq_true c2; have eG : decide (3000 < l0.length) = true := decide_eq_true (by omega); clear c2; generalize hY : ([] : List Int) = lC at H; (try replace H := bS_ H); (try dsimp only at H); have eM := aM hY.symm; clear hY; obtain ⟨rfl, rfl⟩ := i2_ H; go_enter Tryz.func90, Tryz.ntmps90
  go_wp2_with (first | (refine li_ .u8 5 (N := 9) rfl [] ?_; intro v187 w3 cN hb; (first | rw [← eM.out] at cN | (simp only [Int.reduceToNat] at cN; rw [← eM.out] at cN)); have fY := aM (Kd.R_lower cN (below_size xbel)); replace HB := xbs hb; clear hb cN))
  go_ret2
  exact ⟨_, xerr, by (with_reducible repeat (first | apply Kd.R_alloc | apply Kd.R_drewN | apply Kd.R_drew)); exact fY.out, xbel⟩
 rw [if_neg c2] at H; have cL := decide_eq_false c2; have eG : decide (3000 < l0.length) = false := decide_eq_false (by omega); clear c2; replace H := oA_ H; obtain ⟨aI, A5, H⟩ := H; (try dsimp only at H); replace H := oA_ H
 obtain ⟨cG, A6, H⟩ := H; (try dsimp only at H)
 by_cases c7 : cG.length + l0.length < 140737488355328
 ·rw [if_pos c7] at H; have LMc7 := aM c7; clear c7; generalize hY : cG ++ l0 = bM at H; (try replace H := bS_ H); (try dsimp only at H); have fZ := aM hY.symm; clear hY; generalize hY : ([(aI) % 256, (aI / 256) % 256, (aI / 65536) % 256, (aI / 16777216) % 256] : List Int) = bG at H; (try replace H := bS_ H); (try dsimp only at H); have eN := aM hY.symm; clear hY; replace H := pN_ H; obtain ⟨c8, H⟩ := H
  have LMc8 := aM c8; clear c8; generalize hY : bM ++ bG = lD at H; (try replace H := bS_ H); (try dsimp only at H); have gA := aM hY.symm; clear hY; obtain ⟨rfl, rfl⟩ := i2_ H; go_enter Tryz.func90, Tryz.ntmps90
  go_wp2_with (first | (refine gN_ 106 11 rfl rfl ?_; refine c0_ Tryz.func106 (spec_Sum.calls A5.out (by repeat (first | exact fD.out | (with_reducible refine Kd.C_alloc ?_ _) | (with_reducible refine Kd.C_drewN ?_ _) | (with_reducible refine Kd.C_drew ?_))) lA.out) ?_; rintro w' ⟨nd, rfl⟩) | (refine gN_ 77 14 rfl rfl ?_; refine c1_ Tryz.func77 (spec_PutNum.calls A6.out) ?_; rintro v191 w9 ⟨bD, hb⟩; have eO := aM (Kd.R_lower bD (below_size xbel)); replace HB := xbs hb; (try clear hb bD)) | ((with_reducible refine gate_builtin (b := .append) (xs := #[.tmp 14, .tmp 15]) rfl ?_); at_builtin; refine Kd.R_append_rows (Kd.int .u8) (w0 := w) w.heap.size rfl (.tmp 14) (.tmp 15) 22 5 (.int .u8 0) 1 rfl Tryz.underlying22 info5 rfl (by decide) (by omega) v191 cG l0 _ _ _ (fun _ => True) (fun _ => False) rfl rfl ?aO ?aR (fun _ _ h => h) (fun _ h => h.elim) ?aF ?aB ?aS ?aL ?_; (case aR => exact xcb fD); (case aB => exact xbel); (case aF => exact (fun _ _ => trivial)); (case aO => exact (xr eO)); (case aS => exact (below_size xbel)); (case aL => have := LMc7.out; omega); intro v194 nT ho hb hg hat; rw [← fZ.out] at ho; replace HB := aM (hb); have cO := aM (ho); clear eO; clear ho hb hg hat) | (refine li_ .u8 5 (N := 29) rfl [(aI) % 256, (aI / 256) % 256, (aI / 65536) % 256, (aI / 16777216) % 256] ?_; intro v197 fW bY hb; (first | rw [← eN.out] at bY | (simp only [Int.reduceToNat] at bY; rw [← eN.out] at bY)); have cP := aM (Kd.R_lower (Kd.R_new' bY (Kd.R_lt (xr cO))) (below_size xbel)); replace cO := aM (Kd.R_elder' (xr cO) (Kd.R_base bY) hb); replace HB := xbs hb; clear hb bY; obtain ⟨fE, fF, fG⟩ := Kd.R_slice cP.out; subst fG) | ((with_reducible refine gate_builtin (b := .append) (xs := #[.tmp 17, .tmp 29]) rfl ?_); at_builtin; refine Kd.R_append_rows (Kd.int .u8) (w0 := w) w.heap.size rfl (.tmp 17) (.tmp 29) 22 5 (.int .u8 0) 1 rfl Tryz.underlying22 info5 rfl (by decide) (by omega) v194 bM bG _ _ _ (fun k_ => some k_ ≠ (.slice fE bG.length fF : Value).ownBlock) (fun _ => False) rfl rfl ?aO ?aR (fun _ _ h => h) (fun _ h => h.elim) ?aF ?aB ?aS ?aL ?_; (case aR => repeat (first | exact (Kd.R_reads' cP.out).2.2 | (with_reducible refine Kd.C_alloc ?_ _) | (with_reducible refine Kd.C_drewN ?_ _) | (with_reducible refine Kd.C_drew ?_))); (case aB => exact xbel); (case aF => exact (fun k_ hk => Kd.fresh' (Kd.R_lt (xr cP)) k_ hk)); (case aO => exact (by (with_reducible repeat (first | apply Kd.R_alloc | apply Kd.R_drewN | apply Kd.R_drew)); exact Kd.R_mono cO.out (fun _ hk => hk.2))); (case aS => exact (below_size xbel)); (case aL => have := LMc8.out; omega); intro v200 oJ ho hb hg hat; rw [← gA.out] at ho; replace cP := aM (Kd.R_after (ok := (fun _ => True)) (xr cP) hg hat); replace HB := aM (hb); have gB := aM (ho); clear cO; clear ho hb hg hat))
  go_ret2
  exact ⟨_, xerr, by (with_reducible repeat (first | apply Kd.R_alloc | apply Kd.R_drewN | apply Kd.R_drew)); exact Kd.R_mono gB.out (fun _ hk => trivial), xbel⟩
 rw [if_neg c7] at H; cases H
def spec_l4Seals.l0 : Nat → List ByteArray → List Int → Int → Option (ByteArray × Bool)
 | 0, _, _, _ => none
 | k + 1, x0, x4, x5 => if x5 < (x0.length : Int) then (if 0 ≤ x5 then (if (rdOf ByteArray.empty x0 x5).size ≤ 9223372036854775807 then ((spec_Seal.f k (bytesOf (rdOf ByteArray.empty x0 x5))).bind fun cC => (if cC.2 = true then (if x4.length + cC.1.length < 140737488355328 then (spec_l4Seals.l0 k x0 (x4 ++ cC.1) (wrap64 (x5 + 1))) else (none)) else (some ((⟨#[]⟩ : ByteArray), false)))) else (none)) else (none)) else (some (strOfNums x4, true))
def spec_l4Seals.f (k : Nat) (l0 : List ByteArray) : Option (ByteArray × Bool) := if (l0.length : Int) > 100 then (some ((⟨#[]⟩ : ByteArray), false)) else (spec_l4Seals.l0 k l0 (([] : List Int)) 0)
theorem spec_l4Seals.calls {k : Nat} {A0 : Option Addr} {c0 : Nat} {l0 : List ByteArray} {r1 : ByteArray} {r2 : Bool} {w : World} (h : spec_l4Seals.f k l0 = some (r1, r2)) (eK : Kd.C Kd.string w A0 l0.length l0) (eL : l0.length ≤ c0) :
 Calls Tryz.prog 58 #[.slice A0 l0.length c0] w fun e w' => e = .returned (.tuple #[.string r1, .bool r2]) ∧ Below w.heap.size w w' := by
 have fD := aM eK; have lA := aM eL
 clear eK eL
 have HB := aM (Below.refl w.heap.size w); have H := h; unfold spec_l4Seals.f at H
 clear h
 by_cases c2 : (l0.length : Int) > 100
 ·rw [if_pos c2] at H; have cL := decide_eq_true c2; have eG : decide (100 < l0.length) = true := decide_eq_true (by omega); clear c2; obtain ⟨rfl, rfl⟩ := i2_ H; go_enter Tryz.func58, Tryz.ntmps58
  go_wp2; go_ret2
  exact ⟨xerr, xbel⟩
 rw [if_neg c2] at H; have cL := decide_eq_false c2; have eG : decide (100 < l0.length) = false := decide_eq_false (by omega); clear c2; generalize hY : ([] : List Int) = gE at H; (try replace H := bS_ H); (try dsimp only at H); have eP := aM hY.symm; clear hY; replace H := aM H; go_enter Tryz.func58, Tryz.ntmps58
 go_wp2_with (first | (refine li_ .u8 5 (N := 11) rfl [] ?_; intro v203 w3 cN hb; (first | rw [← eP.out] at cN | (simp only [Int.reduceToNat] at cN; rw [← eP.out] at cN)); have gF := aM (Kd.R_lower cN (below_size xbel)); replace HB := xbs hb; clear hb cN))
 go_loopg [4, 5] k (fun kq v4 v5 w' => ∃ (bL : List Int) (aD : Int), v5 = .int .i64 aD ∧ Aside0 (spec_l4Seals.l0 kq l0 bL aD = some (r1, r2)) ∧ Aside0 (kq ≤ k) ∧ Aside0 (Kd.R (Kd.int .u8) 5 w' w.heap.size (fun _ => True) v4 bL) ∧ Aside0 (Below w.heap.size w w'))
 case atStart => exact ⟨_, _, u6_0, H, ⟨Nat.le_refl _⟩, ⟨by (with_reducible repeat (first | apply Kd.R_alloc | apply Kd.R_drewN | apply Kd.R_drew)); exact gF.out⟩, ⟨xbel⟩⟩
 case round =>
  clear H; try clear c2
  try clear cL
  try clear eG
  obtain ⟨bL, aD, rfl, HA, HK1, bH, HB⟩ := hrel; cases gk with
  | zero => exact absurd HA.out (by simp [spec_l4Seals.l0])
  | succ k1 =>
   have H := HA.out; clear HA; simp only [spec_l4Seals.l0] at H; replace H := dI_ H; obtain ⟨fH, H⟩ | ⟨fH, H⟩ := H
   ·replace H := dN_ H; obtain ⟨nU, H⟩ := H; replace H := pN_ H; obtain ⟨c7, H⟩ := H; have eE := eq_true c7; have nV := decide_eq_true c7; try have nW : (9223372036854775807 < (rdOf ByteArray.empty l0 aD).size) = False := eq_false (Nat.not_lt.2 c7)
    clear c7; generalize hY : bytesOf (rdOf ByteArray.empty l0 aD) = dV at H; (try replace H := bS_ H); (try dsimp only at H); have cY := aM hY.symm; clear hY; replace H := oA_ H; obtain ⟨⟨cU, lE⟩, A8, H⟩ := H; (try dsimp only at H)
    cases lE; rotate_left
    ·replace H := iT H; replace H := pN_ H; obtain ⟨eF, H⟩ := H; have LMc10 := aM eF; clear eF; generalize hY : bL ++ cU = gG at H; (try replace H := bS_ H); (try dsimp only at H); have gH := aM hY.symm; clear hY; replace H := aM H; have p205 : 0 ≤ (aD : Int) := oda; have q205 : aD < (l0.length : Int) := oda; obtain ⟨gI, fI, bJ⟩ := Kd.at_string fD.out aD p205 q205; cases fI
     replace bJ := xce HB bJ; replace p205 := eq_true p205; replace q205 := eq_true q205; go_wp2_with (first | ((with_reducible refine gD 23 rfl ?_); refine Kd.V_conv _ 5 rfl (N := 23) rfl 9 22 _ rfl (rdOf ByteArray.empty l0 aD) rfl Tryz.underlying9 Tryz.underlying22 Tryz.underlying5 (oda) (ok := fun k_ => wr.heap.size ≤ k_) (Nat.le_refl _) (Below.refl _ _) (Nat.le_refl _) ?_; intro v207 fW bY hb hg_ hnew_; clear hg_ hnew_; (first | rw [← cY.out] at bY | (simp only [Int.reduceToNat] at bY; rw [← cY.out] at bY)); have aZ := aM (Kd.V_lower (Kd.V_mono (ok' := fun k_ => some k_ ≠ (u4 : Value).ownBlock) bY (fun k_ hk_ => (Kd.fresh' (Kd.R_lt (xr bH)) k_ hk_))) (below_size xbel)); replace bH := xrb bH hb; replace HB := xbs hb; clear hb bY; obtain ⟨lF, lG, lH⟩ := Kd.V_slice aZ.out; subst lH) | (refine gN_ 90 24 rfl rfl ?_; refine c1_ Tryz.func90 (spec_Seal.calls A8.out (by repeat (first | exact (Kd.V_reads' aZ.out).2.2 | (with_reducible refine Kd.C_alloc ?_ _) | (with_reducible refine Kd.C_drewN ?_ _) | (with_reducible refine Kd.C_drew ?_))) ((Kd.V_reads' aZ.out).2.1)) ?_; rintro v211 nX ⟨bD, hb⟩; replace aZ := aM (Kd.V_elder' u6_5 (Kd.R_base bD) hb); have cI := aM (Kd.R_lower (Kd.R_new' bD (Kd.R_lt (xr bH))) (below_size xbel)); replace bH := aM (Kd.R_elder' (xr bH) (Kd.R_base bD) hb); replace HB := xbs hb; (try clear hb bD); obtain ⟨dW, dX, fJ⟩ := Kd.R_slice cI.out; subst fJ) | ((with_reducible refine gate_builtin (b := .append) (xs := #[.tmp 29, .tmp 30]) rfl ?_); at_builtin; refine Kd.R_append_rows (Kd.int .u8) (w0 := w) w.heap.size rfl (.tmp 29) (.tmp 30) 22 5 (.int .u8 0) 1 rfl Tryz.underlying22 info5 rfl (by decide) (by omega) u4 bL cU _ _ _ (fun k_ => some k_ ≠ (.slice dW cU.length dX : Value).ownBlock) (fun _ => False) rfl rfl ?aO ?aR (fun _ _ h => h) (fun _ h => h.elim) ?aF ?aB ?aS ?aL ?_; (case aR => repeat (first | exact (Kd.R_reads' cI.out).2.2 | (with_reducible refine Kd.C_alloc ?_ _) | (with_reducible refine Kd.C_drewN ?_ _) | (with_reducible refine Kd.C_drew ?_))); (case aB => exact xbel); (case aF => exact (fun k_ hk => Kd.fresh' (Kd.R_lt (xr cI)) k_ hk)); (case aO => exact (by (with_reducible repeat (first | apply Kd.R_alloc | apply Kd.R_drewN | apply Kd.R_drew)); exact Kd.R_mono bH.out (fun _ hk => hk.2))); (case aS => exact (below_size xbel)); (case aL => have := LMc10.out; omega); intro v214 nY ho hb hg hat; rw [← gH.out] at ho; replace aZ := aM (Kd.V_afterv (ok := (fun k_ => some k_ ≠ (.slice dW cU.length dX : Value).ownBlock)) (by (with_reducible repeat (first | apply Kd.V_alloc | apply Kd.V_drewN | apply Kd.V_drew)); exact Kd.V_mono aZ.out (fun _ hk => ⟨hk.2, hk.1⟩)) hg hat); replace cI := aM (Kd.R_after (ok := (fun _ => True)) (xr cI) hg hat); replace HB := aM (hb); have gJ := aM (ho); clear bH; clear ho hb hg hat))
     go_roundg k1
     case measure => have := HK1.out; omega
     case rel => exact ⟨_, _, u6_0, H, ⟨by have := HK1.out; omega⟩, ⟨by (with_reducible repeat (first | apply Kd.R_alloc | apply Kd.R_drewN | apply Kd.R_drew)); exact Kd.R_mono gJ.out (fun _ hk => trivial)⟩, ⟨xbel⟩⟩
    replace H := iN H; obtain ⟨rfl, rfl⟩ := i2_ H; have p205 : 0 ≤ (aD : Int) := oda; have q205 : aD < (l0.length : Int) := oda; obtain ⟨gI, fI, bJ⟩ := Kd.at_string fD.out aD p205 q205; cases fI
    replace bJ := xce HB bJ; replace p205 := eq_true p205; replace q205 := eq_true q205; go_wp2_with (first | ((with_reducible refine gD 23 rfl ?_); refine Kd.V_conv _ 5 rfl (N := 23) rfl 9 22 _ rfl (rdOf ByteArray.empty l0 aD) rfl Tryz.underlying9 Tryz.underlying22 Tryz.underlying5 (oda) (ok := fun k_ => wr.heap.size ≤ k_) (Nat.le_refl _) (Below.refl _ _) (Nat.le_refl _) ?_; intro v207 iF dY hb hg_ hnew_; clear hg_ hnew_; (first | rw [← cY.out] at dY | (simp only [Int.reduceToNat] at dY; rw [← cY.out] at dY)); have aZ := aM (Kd.V_lower (Kd.V_mono (ok' := fun k_ => some k_ ≠ (u4 : Value).ownBlock) dY (fun k_ hk_ => (Kd.fresh' (Kd.R_lt (xr bH)) k_ hk_))) (below_size xbel)); replace bH := xrb bH hb; replace HB := xbs hb; clear hb dY; obtain ⟨fK, fL, fM⟩ := Kd.V_slice aZ.out; subst fM) | (refine gN_ 90 24 rfl rfl ?_; refine c1_ Tryz.func90 (spec_Seal.calls A8.out (by repeat (first | exact (Kd.V_reads' aZ.out).2.2 | (with_reducible refine Kd.C_alloc ?_ _) | (with_reducible refine Kd.C_drewN ?_ _) | (with_reducible refine Kd.C_drew ?_))) ((Kd.V_reads' aZ.out).2.1)) ?_; rintro v211 nZ ⟨bD, hb⟩; replace aZ := aM (Kd.V_elder' u6_5 (Kd.R_base bD) hb); have cI := aM (Kd.R_lower (Kd.R_new' bD (Kd.R_lt (xr bH))) (below_size xbel)); replace bH := aM (Kd.R_elder' (xr bH) (Kd.R_base bD) hb); replace HB := xbs hb; (try clear hb bD)))
    go_ret2
    exact ⟨xerr, xbel⟩
   obtain ⟨rfl, rfl⟩ := i2_ H; have hcv21 := own_string (P := Tryz.prog) Tryz.underlying22 Tryz.underlying5 Tryz.underlying9 (Kd.own_of_R bH.out); go_wp2; go_ret2
   exact ⟨xerr, xbel⟩
def spec_JournalLate.f (k : Nat) (aC : Int) (aA : List (S66)) (a1 : Int) (l2 : List ByteArray) : Option (Int × (List (S66)) × Int) := (spec_l4Seals.f k l2).bind fun cQ => (if cQ.2 = true then ((spec_DiskAppend.f k aC aA a1 cQ.1).bind fun cD => (some (cD.1, cD.2.1, cD.2.2))) else (some (0, ([] : List (S66)), 1)))
theorem spec_JournalLate.calls {k : Nat} {aC : Int} {aU : Option Addr} {aQ : Nat} {aA : List (S66)} {a1 : Int} {A2 : Option Addr} {c2 : Nat} {l2 : List ByteArray} {r1 : Int} {r2 : List (S66)} {r3 : Int} {w : World} (h : spec_JournalLate.f k aC aA a1 l2 = some (r1, r2, r3)) (bW : Kd.C k66 w aU aA.length aA) (bX : aA.length ≤ aQ) (gK : Kd.C Kd.string w A2 l2.length l2) (gL : l2.length ≤ c2) :
 Calls Tryz.prog 30 #[.agg #[.int .i64 aC, .slice aU aA.length aQ], .int .i64 a1, .slice A2 l2.length c2] w fun e w' => ∃ v1_ : Value, e = .returned (.tuple #[.agg #[.int .i64 r1, v1_], .int .i64 r3]) ∧ Kd.R k66 66 w' w.heap.size (fun _ => True) v1_ r2 ∧ Below w.heap.size w w' := by
 have gM := Tryz.underlying26; have bA := aM bW; have bB := aM bX
 clear bW bX
 have gN := aM gK; have gO := aM gL
 clear gK gL
 have HB := aM (Below.refl w.heap.size w); have H := h; unfold spec_JournalLate.f at H
 clear h
 replace H := oB H; obtain ⟨⟨eH, lI⟩, gP, H⟩ := H; (try dsimp only at H); have A4 := aM gP
 clear gP
 cases lI; rotate_left
 ·replace H := iT H; replace H := oA_ H; obtain ⟨⟨gQ, gR, lJ⟩, A6, H⟩ := H; (try dsimp only at H); obtain ⟨rfl, rfl, rfl⟩ := i3_ H; go_enter Tryz.func30, Tryz.ntmps30
  go_wp2_with (first | (refine bE_ (N := 3) rfl ?_; intro gS hg w7 aN hb; have gT := aM (xge hg); have gU := aM (xge hg); replace HB := xbs hb; clear hb hg) | (refine bE_ (N := 6) rfl ?_; intro dZ hg w8 bK hb; have gV := aM (xge hg); have gW := aM (xge hg); replace HB := xbs hb; have bN := nblt aN hg; have bO := nbgt aN hg; replace aN := xbb aN hb; clear hb hg) | (refine gN_ 58 12 rfl rfl ?_; refine c0_ Tryz.func58 (spec_l4Seals.calls A4.out (xcb gN) gO.out) ?_; intro w9 hb; replace aN := xbb aN hb; replace bK := xbb bK hb; replace HB := xbs hb; (try clear hb); have mF := a2_ bN bO; have iG := xf2 (w := w9) aN) | (refine gN_ 32 21 rfl rfl ?_; refine c1_ Tryz.func32 (spec_DiskAppend.calls A6.out (xcb bA) bB.out) ?_; rintro v222 lK ⟨bD, hb⟩; have eR := aM (Kd.R_lower bD (below_size xbg)); replace aN := xbb aN hb; replace bK := xbb bK hb; replace HB := xbs hb; (try clear hb bD); have cZ := xf2 (w := lK) bK; obtain ⟨fE, fF, fG⟩ := Kd.R_slice eR.out; subst fG))
  refine bodyPost_ret (results_ct rfl _ _ dZ 26 #[.int .i64 gQ, .slice fE gR.length fF] (0, 0) _ rfl xP Tryz.underlying26 rfl (by kernel_rfl)) rfl ?_; exact ⟨_, xerr, xrm eR (fun _ _ => trivial), xbg⟩
 replace H := iN H; obtain ⟨rfl, rfl, rfl⟩ := i3_ H; go_enter Tryz.func30, Tryz.ntmps30
 go_wp2_with (first | (refine bE_ (N := 3) rfl ?_; intro gS hg nY aN hb; have gT := aM (xge hg); have gU := aM (xge hg); replace HB := xbs hb; clear hb hg) | (refine bE_ (N := 6) rfl ?_; intro dZ hg oK bK hb; have gV := aM (xge hg); have gW := aM (xge hg); replace HB := xbs hb; have bN := nblt aN hg; have bO := nbgt aN hg; replace aN := xbb aN hb; clear hb hg) | (refine gN_ 58 12 rfl rfl ?_; refine c0_ Tryz.func58 (spec_l4Seals.calls A4.out (xcb gN) gO.out) ?_; intro iF hb; replace aN := xbb aN hb; replace bK := xbb bK hb; replace HB := xbs hb; (try clear hb); have mH := a2_ bO bN; have iK := xf2 (w := iF) bK))
 refine bodyPost_ret (results_ct rfl _ _ dZ 26 #[.int .i64 0, .slice none 0 0] (0, 0) _ rfl xP Tryz.underlying26 rfl (by kernel_rfl)) rfl ?_; exact ⟨_, xerr, u6_6, xbg⟩
def spec_DiskSync.j0 : Nat → Int → Bool → Int → List (S66) → Option (Int × (List (S66)) × Int)
 | 0, _, _, _, _ => none
 | k + 1, x1, oA, cM, aV => if oA = true then (some (0, ([] : List (S66)), 1)) else ((spec_l3Find.f k cM aV x1).bind fun aH => (if aH < 0 then ((spec_l3Copy.f cM aV).bind fun eS => (some (eS.1, eS.2, 2))) else (if 0 ≤ aH then (if aH < (aV.length : Int) then (if ((rd_T66 aV aH).f1).size + ((rd_T66 aV aH).f2).size ≤ 9223372036854775807 then ((spec_l3Put.f k cM aV x1 (((rd_T66 aV aH).f1) ++ ((rd_T66 aV aH).f2)) (⟨#[]⟩ : ByteArray)).bind fun eT => (some (eT.1, eT.2, 0))) else (none)) else (none)) else (none))))
def spec_DiskSync.f (k : Nat) (aC : Int) (aA : List (S66)) (a1 : Int) : Option (Int × (List (S66)) × Int) := (spec_DiskOk.f k aC aA).bind fun eA => (if eA = true then ((spec_l3Name.f a1).bind fun dM => (spec_DiskSync.j0 k a1 (!dM) aC aA)) else (spec_DiskSync.j0 k a1 true aC aA))
theorem spec_DiskSync.calls {k : Nat} {aC : Int} {aU : Option Addr} {aQ : Nat} {aA : List (S66)} {a1 r1 : Int} {r2 : List (S66)} {r3 : Int} {w : World} (h : spec_DiskSync.f k aC aA a1 = some (r1, r2, r3)) (bW : Kd.C k66 w aU aA.length aA) (bX : aA.length ≤ aQ) :
 Calls Tryz.prog 44 #[.agg #[.int .i64 aC, .slice aU aA.length aQ], .int .i64 a1] w fun e w' => ∃ v1_ : Value, e = .returned (.tuple #[.agg #[.int .i64 r1, v1_], .int .i64 r3]) ∧ Kd.R k66 66 w' w.heap.size (fun _ => True) v1_ r2 ∧ Below w.heap.size w w' := by
 have gM := Tryz.underlying26; have oC := Tryz.underlying66; have bA := aM bW; have bB := aM bX
 clear bW bX
 have HB := aM (Below.refl w.heap.size w); have H := h; unfold spec_DiskSync.f at H
 clear h
 have lL := aM H
 clear H
 go_enter Tryz.func44, Tryz.ntmps44
 go_upto_region 1 with (first | (refine bE_ (N := 2) rfl ?_; intro gX hg w4 aE hb; have mJ := aM (xge hg); have mK := aM (xge hg); replace HB := xbs hb; clear hb hg) | (refine bE_ (N := 4) rfl ?_; intro dD hg w5 aJ hb; have mL := aM (xge hg); have mM := aM (xge hg); replace HB := xbs hb; have aW := nblt aE hg; have aX := nbgt aE hg; replace aE := xbb aE hb; clear hb hg))
 (try simp only [Act.put, List.setIfInBounds_toArray, List.set_cons_zero, List.set_cons_succ])
 go_cut [15] (fun v15 wc => ∃ (kq : Nat) (dE : Bool), v15 = .bool dE ∧ Aside0 (spec_DiskSync.j0 kq a1 dE aC aA = some (r1, r2, r3)) ∧ Aside0 (kq ≤ k) ∧ Aside0 (wc.heap[gX]? = some (.cells #[.int .i64 aC, (.slice aU aA.length aQ)] 26 (0, 0))) ∧ Aside0 (wc.heap[dD]? = some (.cells #[.int .i64 0, (.slice none 0 0)] 26 (0, 0))) ∧ Aside0 (Below w.heap.size w wc))
 case first =>
  have H := lL.out; clear lL; replace H := oA_ H; obtain ⟨eA, A6, H⟩ := H; (try dsimp only at H)
  cases eA; rotate_left
  ·replace H := iT H; replace H := oA_ H; obtain ⟨dM, A8, H⟩ := H; (try dsimp only at H); replace H := aM H; have lM := a2_ aW aX; have dF := xf2 (w := w5) aE; go_wp2_with (first | (refine gN_ 59 9 rfl rfl ?_; refine c0_ Tryz.func59 (spec_DiskOk.calls A6.out (xcb bA) bB.out) ?_; intro fW hb; replace aE := xbb aE hb; replace aJ := xbb aJ hb; replace HB := xbs hb; (try clear hb)) | (go_at_call 62; (with_reducible refine (spec_l3Name.calls A8.out).mono ?_); rintro e w' ⟨rfl, ⟨nd, rfl⟩⟩))
   go_meet
   case rel => exact ⟨_, _, u6_0, H, ⟨by first | omega | exact Nat.le_refl _⟩, ⟨xblk⟩, ⟨xblk⟩, ⟨xbg⟩⟩
  replace H := iN H; replace H := aM H; have mN := a2_ aW aX; have cZ := xf2 (w := w5) aE; go_wp2_with (first | (refine gN_ 59 9 rfl rfl ?_; refine c0_ Tryz.func59 (spec_DiskOk.calls A6.out (xcb bA) bB.out) ?_; intro nX hb; replace aE := xbb aE hb; replace aJ := xbb aJ hb; replace HB := xbs hb; (try clear hb)))
  go_meet
  case rel => exact ⟨_, _, u6_0, H, ⟨by first | omega | exact Nat.le_refl _⟩, ⟨xblk⟩, ⟨xblk⟩, ⟨xbg⟩⟩
 case rest =>
  clear lL
  obtain ⟨kq, dE, rfl, HA, HJ2, aE, aJ, HB⟩ := hcut; cases kq with
  | zero => exact absurd HA.out (by simp [spec_DiskSync.j0])
  | succ lO =>
   have H := HA.out; clear HA; simp only [spec_DiskSync.j0] at H; cases dE; rotate_left
   ·replace H := iT H; obtain ⟨rfl, rfl, rfl⟩ := i3_ H; have mP := a2_ aX aW; have iQ := xf2 (w := wc) aJ; go_wp2; refine bodyPost_ret (results_ct rfl _ _ dD 26 #[.int .i64 0, .slice none 0 0] (0, 0) _ rfl xP Tryz.underlying26 rfl (by kernel_rfl)) rfl ?_; exact ⟨_, xerr, u6_6, xbg⟩
   replace H := iN H; replace H := oA_ H; obtain ⟨aH, mR, H⟩ := H; (try dsimp only at H); replace H := dI_ H; obtain ⟨gZ, H⟩ | ⟨gZ, H⟩ := H
   ·replace H := oA_ H; obtain ⟨⟨hA, hC⟩, oD, H⟩ := H; (try dsimp only at H); obtain ⟨rfl, rfl, rfl⟩ := i3_ H; have mS := a2_ aW aX; have iV := xf2 (w := wc) aE; go_wp2_with (first | (refine gN_ 65 19 rfl rfl ?_; refine c0_ Tryz.func65 (spec_l3Find.calls mR.out (xcb bA) bB.out) ?_; intro oE hb; replace aE := xbb aE hb; replace aJ := xbb aJ hb; replace HB := xbs hb; (try clear hb); have iZ := xf2 (w := oE) aE) | (refine gN_ 64 23 rfl rfl ?_; refine c1_ Tryz.func64 (spec_l3Copy.calls oD.out (xcb bA) bB.out) ?_; rintro v232 hE ⟨bD, hb⟩; have eU := aM (Kd.R_lower bD (below_size xbg)); replace aE := xbb aE hb; replace aJ := xbb aJ hb; replace HB := xbs hb; (try clear hb bD); have jD := xf2 (w := hE) aJ; obtain ⟨lP, lQ, lR⟩ := Kd.R_slice eU.out; subst lR))
    refine bodyPost_ret (results_ct rfl _ _ dD 26 #[.int .i64 hA, .slice lP hC.length lQ] (0, 0) _ rfl xP Tryz.underlying26 rfl (by kernel_rfl)) rfl ?_; exact ⟨_, xerr, xrm eU (fun _ _ => trivial), xbg⟩
   replace H := dI_ H; obtain ⟨mU, H⟩ | ⟨_, H⟩ := H
   ·replace H := dN_ H; obtain ⟨mV, H⟩ := H; replace H := pN_ H; obtain ⟨hF, H⟩ := H; have mW := eq_true hF; have mX := decide_eq_true hF; try have mY : (9223372036854775807 < ((rd_T66 aA aH).f1).size + ((rd_T66 aA aH).f2).size) = False := eq_false (Nat.not_lt.2 hF); replace H := oA_ H; obtain ⟨⟨hG, hH⟩, oF, H⟩ := H; (try dsimp only at H); obtain ⟨rfl, rfl, rfl⟩ := i3_ H; have mZ := a2_ aW aX; have jJ := xf2 (w := wc) aE; go_wp2_with (first | (refine gN_ 65 19 rfl rfl ?_; refine c0_ Tryz.func65 (spec_l3Find.calls mR.out (xcb bA) bB.out) ?_; intro oG hb; replace aE := xbb aE hb; replace aJ := xbb aJ hb; replace HB := xbs hb; (try clear hb); have jN := xf2 (w := oG) aE; have p234 : 0 ≤ (aH : Int) := oda; have q234 : aH < (aA.length : Int) := oda; obtain ⟨hK, lS, dJ, dK, dL⟩ := at_T66 bA.out aH p234 q234; cases lS; replace dJ := xce HB dJ; replace dK := xce HB dK; replace dL := xce HB dL; replace p234 := eq_true p234; replace q234 := eq_true q234) | (refine bE_ (N := 7) rfl ?_; intro eV hg nB eW hb; have nC := aM (xge hg); have nD := aM (xge hg); replace HB := xbs hb; have dN := nblt aE hg; have dO := nbgt aE hg; have dP := nblt aJ hg; have dQ := nbgt aJ hg; replace aE := xbb aE hb; replace aJ := xbb aJ hb; clear hb hg; have nE := a4_ dO dN dQ dP; have jR := xf3 (w := nB) eW; have jX := xf2 (w := nB) aE) | (refine gN_ 66 37 rfl rfl ?_; refine c1_ Tryz.func66 (spec_l3Put.calls oF.out (Kd.C_below bA.out xbg) bB.out) ?_; rintro v238 oH ⟨bD, hb⟩; have eX := aM (Kd.R_lower (Kd.R_newB bD (g := eV) (o := .cells #[.int .i64 ((rd_T66 aA aH).f0), .string ((rd_T66 aA aH).f1), .string ((rd_T66 aA aH).f2)] 66 (0, 0)) xP) (below_size xbg)); replace aE := xbc aE hb; replace aJ := xbc aJ hb; replace eW := aM (blk_below (g := eV) (o := .cells #[.int .i64 ((rd_T66 aA aH).f0), .string ((rd_T66 aA aH).f1), .string ((rd_T66 aA aH).f2)] 66 (0, 0)) xP hb); replace HB := xbs hb; (try clear hb bD); have kB := xf2 (w := oH) aJ; obtain ⟨lT, lU, lV⟩ := Kd.R_slice eX.out; subst lV))
    refine bodyPost_ret (results_ct rfl _ _ dD 26 #[.int .i64 hG, .slice lT hH.length lU] (0, 0) _ rfl xP Tryz.underlying26 rfl (by kernel_rfl)) rfl ?_; exact ⟨_, xerr, xrm eX (fun _ _ => trivial), xbg⟩
   cases H
def spec_JournalAdd.f (k : Nat) (aC : Int) (aA : List (S66)) (a1 : Int) (l2 : List ByteArray) : Option (Int × (List (S66)) × Int) := (spec_JournalLate.f k aC aA a1 l2).bind fun aY => (if aY.2.2 = 0 then ((spec_DiskSync.f k aY.1 aY.2.1 a1).bind fun cE => (some (cE.1, cE.2.1, cE.2.2))) else (some (aY.1, aY.2.1, aY.2.2)))
theorem spec_JournalAdd.calls {k : Nat} {aC : Int} {aU : Option Addr} {aQ : Nat} {aA : List (S66)} {a1 : Int} {A2 : Option Addr} {c2 : Nat} {l2 : List ByteArray} {r1 : Int} {r2 : List (S66)} {r3 : Int} {w : World} (h : spec_JournalAdd.f k aC aA a1 l2 = some (r1, r2, r3)) (bW : Kd.C k66 w aU aA.length aA) (bX : aA.length ≤ aQ) (gK : Kd.C Kd.string w A2 l2.length l2) (gL : l2.length ≤ c2) :
 Calls Tryz.prog 22 #[.agg #[.int .i64 aC, .slice aU aA.length aQ], .int .i64 a1, .slice A2 l2.length c2] w fun e w' => ∃ v1_ : Value, e = .returned (.tuple #[.agg #[.int .i64 r1, v1_], .int .i64 r3]) ∧ Kd.R k66 66 w' w.heap.size (fun _ => True) v1_ r2 ∧ Below w.heap.size w w' := by
 have gM := Tryz.underlying26; have bA := aM bW; have bB := aM bX
 clear bW bX
 have gN := aM gK; have gO := aM gL
 clear gK gL
 have HB := aM (Below.refl w.heap.size w); have H := h; unfold spec_JournalAdd.f at H
 clear h
 replace H := oB H; obtain ⟨⟨cH, bZ, fN⟩, gP, H⟩ := H; (try dsimp only at H); have A4 := aM gP
 clear gP
 replace H := eI_ H; obtain ⟨fH, lW, H⟩ | ⟨c5, fH, lW, H⟩ := H
 ·replace H := oA_ H; obtain ⟨⟨hL, hM, lX⟩, A6, H⟩ := H; (try dsimp only at H); obtain ⟨rfl, rfl, rfl⟩ := i3_ H; go_enter Tryz.func22, Tryz.ntmps22
  go_wp2_with (first | (refine bE_ (N := 3) rfl ?_; intro hN hg w7 aG hb; have hO := aM (xge hg); have hP := aM (xge hg); replace HB := xbs hb; clear hb hg) | (refine bE_ (N := 6) rfl ?_; intro cJ hg w8 aK hb; have hQ := aM (xge hg); have hR := aM (xge hg); replace HB := xbs hb; have bP := nblt aG hg; have bQ := nbgt aG hg; replace aG := xbb aG hb; clear hb hg; have lM := a2_ bP bQ; have dF := xf2 (w := w8) aG) | (refine gN_ 30 14 rfl rfl ?_; refine c1_ Tryz.func30 (spec_JournalLate.calls A4.out (xcb bA) bB.out (xcb gN) gO.out) ?_; rintro v244 fW ⟨bD, hb⟩; have aT := aM (Kd.R_lower bD (below_size xbg)); replace aG := xbb aG hb; replace aK := xbb aK hb; replace HB := xbs hb; (try clear hb bD)) | (refine bE_ (N := 8) rfl ?_; intro cR hg lK cS hb; replace aT := xrb aT hb; have hS := aM (xge hg); have hT := aM (xge hg); replace HB := xbs hb; have bR := nblt aG hg; have bS := nbgt aG hg; have bU := nblt aK hg; have bV := nbgt aK hg; replace aG := xbb aG hb; replace aK := xbb aK hb; clear hb hg; have nI := a4_ bS bR bV bU; have kF := xf2 (w := lK) cS; obtain ⟨dW, dX, fJ⟩ := Kd.R_slice aT.out; subst fJ) | (refine gN_ 44 23 rfl rfl ?_; refine c1_ Tryz.func44 (spec_DiskSync.calls A6.out ((Kd.R_reads' (xrs aT)).2.2) ((Kd.R_reads' aT.out).2.1)) ?_; rintro v250 iF ⟨bD, hb⟩; have eY := aM (Kd.R_lower (Kd.R_new' bD (Kd.R_lt (xrs aT))) (below_size xbg)); replace aT := aM (Kd.R_elder' (xrs aT) (Kd.R_base bD) hb); replace aG := xbc aG hb; replace aK := xbc aK hb; replace cS := aM (blk_below (g := cR) (o := .cells #[.int .i64 cH, .slice dW bZ.length dX] 26 (0, 0)) xP hb); replace HB := xbs hb; (try clear hb bD); have kJ := xf2 (w := iF) aK; obtain ⟨fK, fL, fM⟩ := Kd.R_slice eY.out; subst fM))
  refine bodyPost_ret (results_ct rfl _ _ cJ 26 #[.int .i64 hL, .slice fK hM.length fL] (0, 0) _ rfl xP Tryz.underlying26 rfl (by kernel_rfl)) rfl ?_; exact ⟨_, xerr, xrm eY (fun _ _ => trivial), xbg⟩
 obtain ⟨rfl, rfl, rfl⟩ := i3_ H; go_enter Tryz.func22, Tryz.ntmps22
 go_wp2_with (first | (refine bE_ (N := 3) rfl ?_; intro hN hg nZ aG hb; have hO := aM (xge hg); have hP := aM (xge hg); replace HB := xbs hb; clear hb hg) | (refine bE_ (N := 6) rfl ?_; intro cJ hg oI aK hb; have hQ := aM (xge hg); have hR := aM (xge hg); replace HB := xbs hb; have bP := nblt aG hg; have bQ := nbgt aG hg; replace aG := xbb aG hb; clear hb hg; have nM := a2_ bP bQ; have kN := xf2 (w := oI) aG) | (refine gN_ 30 14 rfl rfl ?_; refine c1_ Tryz.func30 (spec_JournalLate.calls A4.out (xcb bA) bB.out (xcb gN) gO.out) ?_; rintro v244 oM ⟨bD, hb⟩; have aT := aM (Kd.R_lower bD (below_size xbg)); replace aG := xbb aG hb; replace aK := xbb aK hb; replace HB := xbs hb; (try clear hb bD)) | (refine bE_ (N := 8) rfl ?_; intro cR hg hE cS hb; replace aT := xrb aT hb; have hS := aM (xge hg); have hT := aM (xge hg); replace HB := xbs hb; have bR := nblt aG hg; have bS := nbgt aG hg; have bU := nblt aK hg; have bV := nbgt aK hg; replace aG := xbb aG hb; replace aK := xbb aK hb; clear hb hg; have nO := a4_ bS bR bV bU; have kR := xf2 (w := hE) cS; obtain ⟨dR, dS, lY⟩ := Kd.R_slice aT.out; subst lY; have kV := xf2 (w := hE) aK) | (refine sE_ 26 6 ?_; intro lZ hw; replace aT : Aside0 (Kd.R k66 66 lZ w.heap.size (fun _ => True) (.slice dR bZ.length dS) bZ) := xwm hw aT (fun _ _ => trivial); replace aG := xwc hw aG; replace aK : Aside0 (lZ.heap[cJ]? = some (.cells #[.int .i64 cH, .slice dR bZ.length dS] 26 (0, 0))) := xwp hw; replace cS : Aside0 (lZ.heap[cR]? = some (.cells #[.int .i64 cH, .slice dR bZ.length dS] 26 (0, 0))) := xwp hw; replace HB := xbw hw HB; clear hw))
 refine bodyPost_ret (results_ct rfl _ _ cJ 26 #[.int .i64 cH, .slice dR bZ.length dS] (0, 0) _ rfl xblk Tryz.underlying26 rfl (by kernel_rfl)) rfl ?_; exact ⟨_, xerr, by (with_reducible repeat (first | apply Kd.R_alloc | apply Kd.R_drewN | apply Kd.R_drew)); exact aT.out, xbg⟩
end Go.Proofs.YtppfnnpfamkclaaGreat.QFnSaved
