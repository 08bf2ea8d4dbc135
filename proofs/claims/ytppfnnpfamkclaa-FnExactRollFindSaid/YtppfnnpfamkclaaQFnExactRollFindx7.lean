-- A walk, by a program of this session.
import Derived.Test.YtppfnnpfamkclaaQFnExactRollFindx0
import Derived.Test.YtppfnnpfamkclaaQFnExactRollFindx2
import Derived.Test.YtppfnnpfamkclaaQFnExactRollFindx6
namespace Go.Proofs.Ytppfnnpfamkclaa.QFnExactRollFind
open Go.RowKit Go.Proofs.YtppfnnpfamkclaaW.PrintWords Go.Proofs.YtppfnnpfamkclaaW.PrintLast Go.Proofs.YtppfnnpfamkclaaW.PrintMore
attribute [local go_sem] max2_int min2_int max_two min_two max_three min_three max_four min_four   -- for this text's walks alone
set_option linter.unusedVariables false
set_option linter.unusedSimpArgs false

theorem u7_0 {p : Prop} (h : p := by first | rfl | (simp; done) | (simp [*]; done)) : p := h
theorem u7_1 {p : Prop} (h : p := by first | (go_simp; done) | (go_simp; rfl)) : p := h
theorem u7_2 {p : Prop} (h : p := by repeat (first | exact Drawn0.refl _ | apply Drawn0.step)) : p := h
theorem u7_3 {p : Prop} (h : p := by first | (rw [hY]; with_reducible exact H) | (have H2_ := oS H; rw [hY]; with_reducible exact H2_) | (have H2_ := oS H; with_reducible exact H2_) | with_reducible exact H | (rw [hY]; exact H) | exact H) : p := h
theorem u7_4 {p : Prop} (h : p := by first | exact Kd.R_nil _ _ _ _ _ | exact Kd.N_nil _ _ _ _ _ | exact Kd.V_nil _ _ _ _ _ | exact Kd.Q_nil _ _ _ _ _ | exact Kd.S_nil _ _ _ _ _) : p := h
theorem u7_5 {p : Prop} (h : p := by repeat (first | (with_reducible first | exact HK.out | apply Kept.alloc | apply Kept.drewN | apply Kept.drew | refine Kept.setCell ?_ (.inr eM.out) _) | exact HK.out)) : p := h
/-! ### impl_relAt: function 32 -/
def idxNo : List S38 → Int → Int → Int
  | [], _, _ => -1
  | x :: t, nm, i => if x.f0 = nm then i else idxNo t nm (i + 1)
def impl_relAt.f (aE : Int) (aD : List S38) (aG : Int) (aA : List Int) (a1 : Int) : Option (Int) := some (idxNo aD a1 0)
theorem idxNo_drop (l : List S38) (nm i : Int) (h0 : 0 ≤ i) (h1 : i < l.length) : idxNo (l.drop i.toNat) nm i = if (rd_T38 l i).f0 = nm then i else idxNo (l.drop (i + 1).toNat) nm (i + 1) := by
  have hlt : i.toNat < l.length := by omega
  have e : (i + 1).toNat = i.toNat + 1 := by omega
  rw [List.drop_eq_getElem_cons hlt, e, idxNo]; unfold rd_T38; rw [List.getD_eq_getElem?_getD, List.getElem?_eq_getElem hlt]; rfl
theorem relAt_pred (x : S38) (A3 : Option Addr) (c3 : Nat) (nm : Int) (B : Nat) (w W : World) (hB : B < w.heap.size) (hb : Below w.heap.size w W) (hcell : w.cell? ⟨B, 0, none⟩ = some (.int .i64 nm)) :
    Calls Try.prog 46 #[.agg #[.int .i64 x.f0, .int .i64 x.f1, .string x.f2, .slice A3 x.f3.length c3, .int .i64 x.f4], .pointer (some ⟨B, 0, none⟩)] W fun e w' => e = .returned (.bool (x.f0 == nm)) ∧ Below w.heap.size w w' := by
  have hc : W.cell? ⟨B, 0, none⟩ = some (.int .i64 nm) := (hb.cell (p := ⟨B, 0, none⟩) hB).trans hcell; have hBW : B < W.heap.size := Nat.lt_of_lt_of_le hB hb.size; have hne : B ≠ W.heap.size := by omega
  go_enter Try.func46, Try.ntmps46
  go_wp2; go_ret
  exact ⟨rfl, hb.alloc hb.size _⟩
set_option maxHeartbeats 2000000 in
theorem relAt_idx (A : Option Addr) (c : Nat) (l : List S38) (nm : Int) (B : Nat) (w : World) (hC : Kd.C k38 w A l.length l) (hB : B < w.heap.size) (hcell : w.cell? ⟨B, 0, none⟩ = some (.int .i64 nm)) :
    Calls Try.prog 45 #[.slice A l.length c, .func (.func 46) #[] #[.pointer (some ⟨B, 0, none⟩)]] w fun e w' => e = .returned (.int .i64 (idxNo l nm 0)) ∧ Below w.heap.size w w' := by
  have eg : ∀ args w, (callFunc 46 args).run Try.prog w = .ok (.enter 46 args) w := Go.Proofs.enters_of Try.func46 (by kernel_rfl) rfl; have hu := Try.underlying38; have hpred := fun x A3 c3 W hb => relAt_pred x A3 c3 nm B w W hB hb hcell
  have hmax := hC.2.1; have HC := Aside0.mk hC; clear hC hcell; go_enter Try.func45, Try.ntmps45
  go_wp2; go_loopg [5, 8] l.length (fun gg _ s8 wr => ∃ i : Int, 0 ≤ i ∧ i ≤ l.length ∧ l.length - i.toNat ≤ gg ∧ s8 = .int .i64 i ∧ Aside0 (Below w.heap.size w wr) ∧ Aside0 (idxNo l nm 0 = idxNo (l.drop i.toNat) nm i))
  case atStart => exact ⟨0, by omega, by omega, by omega, rfl, ⟨Below.refl _ w⟩, ⟨rfl⟩⟩
  case round =>
    obtain ⟨i, h0, h1, hg, rfl, BW, AI⟩ := hrel; by_cases hlt : i < (l.length : Int)
    · have hs := idxNo_drop l nm i h0 hlt; obtain ⟨ad, A3, c3, rfl, iP, iQ, iR, iS, iU, _, _⟩ := at_T38 HC.out i h0 hlt; replace iP := (BW.out.cell (World.block_lt_of_cell? w _ iP)).trans iP; replace iQ := (BW.out.cell (World.block_lt_of_cell? w _ iQ)).trans iQ; replace iR := (BW.out.cell (World.block_lt_of_cell? w _ iR)).trans iR; replace iS := (BW.out.cell (World.block_lt_of_cell? w _ iS)).trans iS; replace iU := (BW.out.cell (World.block_lt_of_cell? w _ iU)).trans iU; have hcall := hpred (rd_T38 l i) A3 c3 wr BW.out; clear hpred; by_cases hq : (rd_T38 l i).f0 = nm
      · have eN : ((rd_T38 l i).f0 == nm) = true := by simpa using hq
        rw [eN] at hcall; rw [if_pos hq] at hs; have HS := Aside0.mk hs; clear hs hq eN; go_wp2_with (go_at_fn 46; refine hcall.mono ?_; rintro e w' ⟨rfl, hb'⟩)
        go_ret
        exact ⟨by rw [AI.out, HS.out]; rfl, hb'⟩
      · have eN : ((rd_T38 l i).f0 == nm) = false := by simpa using hq
        rw [eN] at hcall; rw [if_neg hq] at hs; have HS := Aside0.mk hs; clear hs hq eN; go_wp2_with (go_at_fn 46; refine hcall.mono ?_; rintro e w' ⟨rfl, hb'⟩)
        go_roundg (l.length - (i + 1).toNat)
        case measure => omega
        case rel => exact ⟨i + 1, by omega, by omega, by omega, rfl, ⟨hb'⟩, ⟨AI.out.trans HS.out⟩⟩
    · have : i = l.length := by omega
      have hs : idxNo (l.drop i.toNat) nm i = -1 := by rw [List.drop_eq_nil_of_le (by omega)]; rfl
      have HS := Aside0.mk hs; clear hs this; go_wp2; go_ret
      exact ⟨by rw [AI.out, HS.out]; rfl, BW.out⟩
set_option maxHeartbeats 2000000 in
theorem impl_relAt.calls (aE : Int) (bE : Option Addr) (bG : Nat) (aD : List S38) (aG : Int) (aK : Option Addr) (aN : Nat) (aA : List Int) (a1 : Int) (r : Int) (w : World) (bM : Kd.C k38 w bE aD.length aD) (cD : aD.length ≤ bG) (aX : Kd.C (Kd.int .i64) w aK aA.length aA) (bA : aA.length ≤ aN) (h : impl_relAt.f aE aD aG aA a1 = some r) :
    Calls Try.prog 32 #[.agg #[.int .i64 aE, .slice bE aD.length bG, .int .i64 aG, .slice aK aA.length aN], .int .i64 a1] w fun e w' => e = .returned (.int .i64 r) ∧ Below w.heap.size w w' := by
  obtain rfl := Option.some.inj h; clear h; have hu := Try.underlying30; have hcon := fun (W : World) (hb : Below w.heap.size w W) (hB : w.heap.size + 1 < W.heap.size) (hc : W.cell? ⟨w.heap.size + 1, 0, none⟩ = some (.int .i64 a1)) => (relAt_idx bE bG aD a1 (w.heap.size + 1) W (Kd.C_below bM hb) hB hc)
  clear bM aX; go_enter Try.func32, Try.ntmps32
  go_wp2_with (go_at_call 45; refine (hcon _ ?_ ?_ ?_).mono ?_; (exact ((Below.refl _ w).alloc (Nat.le_refl _) _).alloc (by simp) _); simp; simp; rintro e w' ⟨rfl, hb'⟩)
  go_ret
  exact ⟨rfl, (((Below.refl _ w).alloc (Nat.le_refl _) _).alloc (by simp) _).trans (hb'.mono (by simp; omega))⟩


/-! ### impl_copyInts: function 47 -/
def impl_copyInts.f (l0 : List Int) : Option (List Int) := (some (([] : List Int) : List Int)).bind fun bI => (if bI.length + l0.length < 17592186044416 then (some (bI ++ l0)) else (none))
set_option maxHeartbeats 8000000 in
set_option maxRecDepth 100000 in
theorem impl_copyInts.calls (A0 : Option Addr) (c0 : Nat) (l0 : List Int) (r : List Int) (w : World) (eO : Kd.C (Kd.int .i64) w A0 l0.length l0) (eP : l0.length ≤ c0) (h : impl_copyInts.f l0 = some r) :
 Calls Try.prog 47 #[.slice A0 l0.length c0] w fun e w' => ∃ v0_ : Value, e = .returned (v0_) ∧ Kd.R (Kd.int .i64) 3 w' w.heap.size (fun _ => True) v0_ r ∧ Below w.heap.size w w' := by
 have fC := aM eO
 have kI := aM eP
 clear eO eP
 have HB := aM (Below.refl w.heap.size w)
 have H : ((some (([] : List Int) : List Int)).bind fun bI => (if bI.length + l0.length < 17592186044416 then (some (bI ++ l0)) else (none))) = some r := h
 clear h
 obtain ⟨bI, hY⟩ : ∃ y_ : List Int, y_ = (([] : List Int)) := ⟨_, rfl⟩
 replace H : (if bI.length + l0.length < 17592186044416 then (some (bI ++ l0)) else (none)) = some r := u7_3
 have dN := aM hY
 clear hY
 by_cases c2 : bI.length + l0.length < 17592186044416
 ·rw [if_pos c2] at H; have LMc2 := aM c2; clear c2; obtain ⟨iV, hY⟩ : ∃ y_ : List Int, y_ = (bI ++ l0) := ⟨_, rfl⟩; replace H : (some iV) = some r := u7_3; have eQ := aM hY; clear hY; obtain rfl := Option.some.inj H; go_enter Try.func47, Try.ntmps47
  go_wp2_with (first | ((with_reducible refine gD 3 rfl ?_); refine Kd.R_lit (Kd.int .i64) _ 3 ?hg (N := 3) ?hd (xs := ([] : List Int)) (inner := []) (ok := fun _ => True) (okp := fun _ => True) ?hr ?hp (fun _ hk => hk) trivial (Below.refl _ _) (Nat.le_refl _) (by simp) ?_; (case hd => rfl); (case hg => rfl); (case hr => exact u7_1); (case hp => exact (Reps.none _ _)); intro v223 w3 eR hb hg_ hnew_; clear hg_ hnew_; (first | rw [← dN.out] at eR | (simp only [Int.reduceToNat] at eR; rw [← dN.out] at eR)); have dO := aM (Kd.R_lower eR (below_size xbel)); replace HB := xbs hb; clear hb eR) | ((with_reducible refine gate_builtin (b := .append) (xs := #[.tmp 3, .tmp 4]) rfl ?_); at_builtin; refine Kd.R_append_rows (Kd.int .i64) (w0 := w) w.heap.size rfl (.tmp 3) (.tmp 4) 23 3 (.int .i64 0) 8 rfl Try.underlying23 info3 rfl (by decide) (by omega) v223 bI l0 _ _ _ (fun _ => True) (fun _ => False) rfl rfl ?aO ?aR (fun _ _ h => h) (fun _ h => h.elim) ?aF ?aB ?aS ?aL ?_; (case aR => exact xcb fC); (case aB => exact xbel); (case aF => exact (fun _ _ => trivial)); (case aO => exact (xr dO)); (case aS => exact (below_size xbel)); (case aL => have := LMc2.out; omega); intro v226 w5 ho hb hg hat; rw [← eQ.out] at ho; replace HB := aM (hb); have eS := aM (ho); clear dO; clear ho hb hg hat))
  go_ret
  exact ⟨_, xerr, by (with_reducible repeat (first | apply Kd.R_alloc | apply Kd.R_drewN | apply Kd.R_drew)); exact eS.out, xbel⟩
 ·rw [if_neg c2] at H; exact absurd H (by simp)

/-! ### impl_copyRel: function 33 -/
def impl_copyRel.f (aE : Int) (aP : Int) (aG : ByteArray) (aA : List Int) (aQ : Int) : Option (Int × Int × ByteArray × List Int × Int) := (impl_copyInts.f aA).bind fun bH => (some (aE, aP, aG, bH, aQ))
set_option maxHeartbeats 8000000 in
set_option maxRecDepth 100000 in
theorem impl_copyRel.calls (aE : Int) (aP : Int) (aG : ByteArray) (aK : Option Addr) (aN : Nat) (aA : List Int) (aQ : Int) (r1 : Int) (r2 : Int) (r3 : ByteArray) (r4 : List Int) (r5 : Int) (w : World) (aX : Kd.C (Kd.int .i64) w aK aA.length aA) (bA : aA.length ≤ aN) (h : impl_copyRel.f aE aP aG aA aQ = some (r1, r2, r3, r4, r5)) :
 Calls Try.prog 33 #[.agg #[.int .i64 aE, .int .i64 aP, .string aG, .slice aK aA.length aN, .int .i64 aQ]] w fun e w' => ∃ v3_ : Value, e = .returned (.agg #[.int .i64 r1, .int .i64 r2, .string r3, v3_, .int .i64 r5]) ∧ Kd.R (Kd.int .i64) 3 w' w.heap.size (fun _ => True) v3_ r4 ∧ Below w.heap.size w w' := by
 have dY := Try.underlying38
 have aY := aM aX
 have aZ := aM bA
 clear aX bA
 have HB := aM (Below.refl w.heap.size w)
 have H : ((impl_copyInts.f aA).bind fun bH => (some (aE, aP, aG, bH, aQ))) = some (r1, r2, r3, r4, r5) := h
 clear h
 replace H := oB H
 obtain ⟨bH, jP, H⟩ := H
 (try dsimp only at H)
 have A2 := aM jP
 clear jP
 simp only [Option.some.injEq, Prod.mk.injEq] at H
 obtain ⟨rfl, rfl, rfl, rfl, rfl⟩ := H
 go_enter Try.func33, Try.ntmps33
 go_wp2_with (first | ((with_reducible refine gD 1 rfl ?_); refine boxE (N := 1) rfl (cs := #[.int .i64 aE, .int .i64 aP, .string aG, .slice aK aA.length aN, .int .i64 aQ]) (t := 38) ?_; intro dP hg w3 hbox hb; have bB := aM (hbox); have jQ := aM (xge hg); have jR := aM (xge hg); replace HB := xbs hb; clear hb hbox hg) | ((with_reducible refine gD 2 rfl ?_); refine boxE (N := 2) rfl (cs := #[.int .i64 0, .int .i64 0, .string (⟨#[]⟩ : ByteArray), .slice none 0 0, .int .i64 0]) (t := 38) ?_; intro bJ hg w4 hbox hb; have jS := aM (xge hg); have jT := aM (xge hg); replace HB := xbs hb; have cA := nblt bB hg; have cB := nbgt bB hg; replace bB := xbb bB hb; have bP := aM (hbox); clear hb hbox hg; have kJ := cA.out; have kK := cB.out; obtain ⟨cE, cF, cG, cH, cI, cJ, cK, cL, cM, cN⟩ := xf5 (w := w4) bB) | ((with_reducible refine gC 47 rfl ?_); refine goesLY (some 5) rfl Try.func47 #[.slice aK aA.length aN] ?_; (with_reducible refine (impl_copyInts.calls _ _ aA bH _ ?side1 ?side2 A2.out).mono ?_); (case side1 => exact xcb aY); (case side2 => exact aZ.out); rintro e w7 ⟨v231, rfl, eT, hb⟩; refine ⟨_, rfl, ?_⟩; have bQ := aM (Kd.R_lower eT (below_size xbg)); replace bB := xbb bB hb; replace bP := xbb bP hb; replace HB := xbs hb; (try clear hb eT); obtain ⟨eK, eL, kL⟩ := Kd.R_slice bQ.out; subst kL; obtain ⟨iW, iX, iY, iZ, jA, jB, jC, jD, jE, jF⟩ := xf5 (w := w7) bB; obtain ⟨cT, cU, cV, cW, cX, cY, cZ, dA, dB, dC⟩ := xf5 (w := w7) bP) | ((with_reducible refine gate_store (t := 38) (p := 2) rfl ?_); refine store_event (t := 38) (p := 2) (v := ?vo_w11) (w1 := ((((((w7.setCell ⟨dP, 3, none⟩ (.slice eK bH.length eL)).setCell ⟨bJ, 0, none⟩ (.int .i64 aE)).setCell ⟨bJ, 1, none⟩ (.int .i64 aP)).setCell ⟨bJ, 2, none⟩ (.string aG)).setCell ⟨bJ, 3, none⟩ (.slice eK bH.length eL)).setCell ⟨bJ, 4, none⟩ (.int .i64 aQ))) ?hg ?ho ?hn ?hr ?_; (case ho | hg | hn => rfl); (case hr => exact u7_1); intro eU hw; replace bQ : Aside0 (Kd.R (Kd.int .i64) 3 eU w.heap.size (fun _ => True) (.slice eK bH.length eL) bH) := xwm hw bQ (fun _ _ => trivial); replace bB : Aside0 (eU.heap[dP]? = some (.cells #[.int .i64 aE, .int .i64 aP, .string aG, .slice eK bH.length eL, .int .i64 aQ] 38 (0, 0))) := xwp hw; replace bP : Aside0 (eU.heap[bJ]? = some (.cells #[.int .i64 aE, .int .i64 aP, .string aG, .slice eK bH.length eL, .int .i64 aQ] 38 (0, 0))) := xwp hw; replace HB := xbw hw HB; clear hw))
 refine bodyPost_ret (results_cell_row rfl _ _ bJ 38 #[.int .i64 aE, .int .i64 aP, .string aG, .slice eK bH.length eL, .int .i64 aQ] (0, 0) _ rfl xblk Try.underlying38 rfl (by kernel_rfl)) rfl ?_
 exact ⟨_, xerr, by (with_reducible repeat (first | apply Kd.R_alloc | apply Kd.R_drewN | apply Kd.R_drew)); exact bQ.out, xbg⟩

/-! ### impl_RollFind: function 15 -/
def impl_RollFind.f (k : Nat) (aE : Int) (aD : List (S38)) (aG : Int) (aA : List Int) (a1 : Int) : Option (Int × Int × ByteArray × List Int × Int × Bool) := (impl_relAt.f aE aD aG aA a1).bind fun aH => (if aH < 0 then (some (0, 0, (⟨#[]⟩ : ByteArray), ([] : List Int), 0, false)) else ((impl_RollOk.f k aE aD aG aA).bind fun cO => (if cO = true then (if 0 ≤ aH then (if aH < (aD.length : Int) then ((impl_copyRel.f ((rd_T38 aD aH).f0) ((rd_T38 aD aH).f1) ((rd_T38 aD aH).f2) ((rd_T38 aD aH).f3) ((rd_T38 aD aH).f4)).bind fun aV => (some (aV.1, aV.2.1, aV.2.2.1, aV.2.2.2.1, aV.2.2.2.2, true))) else (none)) else (none)) else (some (0, 0, (⟨#[]⟩ : ByteArray), ([] : List Int), 0, false)))))
theorem u7_mq0 {p : Prop} (h : p := by repeat' first | (with_reducible first | exact impl_RollOk.mono _ _ _ _ _ | exact LeO.refl _ | exact LeO.none _ | refine LeO.ite ?_ ?_ | refine LeO.bind ?_ (fun _ => ?_)) | exact LeO.none _ | refine LeO.ite ?_ ?_ | refine LeO.bind ?_ (fun _ => ?_)) : p := h
theorem impl_RollFind.mono : ∀ a0 a1 a2 a3 a4 k, LeO (impl_RollFind.f k a0 a1 a2 a3 a4) (impl_RollFind.f (k + 1) a0 a1 a2 a3 a4) := by
 intro a0 a1 a2 a3 a4 k
 unfold impl_RollFind.f
 exact u7_mq0
set_option maxHeartbeats 8000000 in
set_option maxRecDepth 100000 in
theorem impl_RollFind.calls (k : Nat) (aE : Int) (bE : Option Addr) (bG : Nat) (aD : List (S38)) (aG : Int) (aK : Option Addr) (aN : Nat) (aA : List Int) (a1 : Int) (r1 : Int) (r2 : Int) (r3 : ByteArray) (r4 : List Int) (r5 : Int) (r6 : Bool) (w : World) (bM : Kd.C k38 w bE aD.length aD) (cD : aD.length ≤ bG) (aX : Kd.C (Kd.int .i64) w aK aA.length aA) (bA : aA.length ≤ aN) (h : impl_RollFind.f k aE aD aG aA a1 = some (r1, r2, r3, r4, r5, r6)) :
 Calls Try.prog 15 #[.agg #[.int .i64 aE, .slice bE aD.length bG, .int .i64 aG, .slice aK aA.length aN], .int .i64 a1] w fun e w' => ∃ v3_ : Value, e = .returned (.tuple #[.agg #[.int .i64 r1, .int .i64 r2, .string r3, v3_, .int .i64 r5], .bool r6]) ∧ Kd.R (Kd.int .i64) 3 w' w.heap.size (fun _ => True) v3_ r4 ∧ Below w.heap.size w w' := by
 have kM := Try.underlying30
 have dY := Try.underlying38
 have bL := aM bM
 have bN := aM cD
 clear bM cD
 have aY := aM aX
 have aZ := aM bA
 clear aX bA
 have HB := aM (Below.refl w.heap.size w)
 have H : ((impl_relAt.f aE aD aG aA a1).bind fun aH => (if aH < 0 then (some (0, 0, (⟨#[]⟩ : ByteArray), ([] : List Int), 0, false)) else ((impl_RollOk.f k aE aD aG aA).bind fun cO => (if cO = true then (if 0 ≤ aH then (if aH < (aD.length : Int) then ((impl_copyRel.f ((rd_T38 aD aH).f0) ((rd_T38 aD aH).f1) ((rd_T38 aD aH).f2) ((rd_T38 aD aH).f3) ((rd_T38 aD aH).f4)).bind fun aV => (some (aV.1, aV.2.1, aV.2.2.1, aV.2.2.2.1, aV.2.2.2.2, true))) else (none)) else (none)) else (some (0, 0, (⟨#[]⟩ : ByteArray), ([] : List Int), 0, false)))))) = some (r1, r2, r3, r4, r5, r6) := h
 clear h
 replace H := oB H
 obtain ⟨aH, dQ, H⟩ := H
 (try dsimp only at H)
 have A3 := aM dQ
 clear dQ
 by_cases c4 : aH < 0
 ·rw [if_pos c4] at H; have dD : decide (aH < 0) = true := decide_eq_true c4; clear c4; simp only [Option.some.injEq, Prod.mk.injEq] at H; obtain ⟨rfl, rfl, rfl, rfl, rfl, rfl⟩ := H; go_enter Try.func15, Try.ntmps15
  go_wp2_with (first | ((with_reducible refine gD 2 rfl ?_); refine boxE (N := 2) rfl (cs := #[.int .i64 aE, .slice bE aD.length bG, .int .i64 aG, .slice aK aA.length aN]) (t := 30) ?_; intro dR hg w5 hbox hb; have aC := aM (hbox); have dS := aM (xge hg); have dU := aM (xge hg); replace HB := xbs hb; clear hb hbox hg) | ((with_reducible refine gD 4 rfl ?_); refine boxE (N := 4) rfl (cs := #[.int .i64 0, .int .i64 0, .string (⟨#[]⟩ : ByteArray), .slice none 0 0, .int .i64 0]) (t := 38) ?_; intro aI hg w6 hbox hb; have dV := aM (xge hg); have dW := aM (xge hg); replace HB := xbs hb; have aT := nblt aC hg; have aU := nbgt aC hg; replace aC := xbb aC hb; have aJ := aM (hbox); clear hb hbox hg; have kN := aT.out; have kO := aU.out; obtain ⟨dZ, eA, eB, eC, eD, eE, eF, eG⟩ := xf4 (w := w6) aC) | ((with_reducible refine gC 32 rfl ?_); refine goesLY (some 9) rfl Try.func32 #[.agg #[.int .i64 aE, .slice bE aD.length bG, .int .i64 aG, .slice aK aA.length aN], .int .i64 a1] ?_; (with_reducible refine (impl_relAt.calls aE _ _ aD aG _ _ aA a1 aH _ ?side1 ?side2 ?side3 ?side4 A3.out).mono ?_); (case side1 => exact xcb bL); (case side2 => exact bN.out); (case side3 => exact xcb aY); (case side4 => exact aZ.out); rintro e w9 ⟨rfl, hb⟩; refine ⟨_, rfl, ?_⟩; replace aC := xbb aC hb; replace aJ := xbb aJ hb; replace HB := xbs hb; (try clear hb); obtain ⟨cT, cU, cV, cW, cX, cY, cZ, dA, dB, dC⟩ := xf5 (w := w9) aJ) | ((with_reducible refine gate_store (t := 38) (p := 4) rfl ?_); refine store_event (t := 38) (p := 4) (v := ?vo_w11) (w1 := (((((w9.setCell ⟨aI, 0, none⟩ (.int .i64 0)).setCell ⟨aI, 1, none⟩ (.int .i64 0)).setCell ⟨aI, 2, none⟩ (.string (⟨#[]⟩ : ByteArray))).setCell ⟨aI, 3, none⟩ (.slice none 0 0)).setCell ⟨aI, 4, none⟩ (.int .i64 0))) ?hg ?ho ?hn ?hr ?_; (case ho | hg | hn => rfl); (case hr => exact u7_1); intro eU hw; replace aC := xwc hw aC; replace aJ : Aside0 (eU.heap[aI]? = some (.cells #[.int .i64 0, .int .i64 0, .string (⟨#[]⟩ : ByteArray), .slice none 0 0, .int .i64 0] 38 (0, 0))) := xwp hw; replace HB := xbw hw HB; clear hw))
  refine bodyPost_ret (results_ct rfl _ _ aI 38 #[.int .i64 0, .int .i64 0, .string (⟨#[]⟩ : ByteArray), .slice none 0 0, .int .i64 0] (0, 0) _ rfl xblk Try.underlying38 rfl (by kernel_rfl)) rfl ?_; exact ⟨_, xerr, u7_4, xbg⟩
 ·rw [if_neg c4] at H; have dD : decide (aH < 0) = false := decide_eq_false c4; clear c4; replace H := oB H; obtain ⟨cO, eV, H⟩ := H; (try dsimp only at H); have jU := aM eV; clear eV
  by_cases fD : cO = true
  ·subst fD; replace H := iT H; by_cases fE : 0 ≤ aH
   ·rw [if_pos fE] at H; have jV : decide (0 ≤ aH) = true := decide_eq_true fE; clear fE; by_cases fF : aH < (aD.length : Int)
    ·rw [if_pos fF] at H; have jW : decide (aH < (aD.length : Int)) = true := decide_eq_true fF; clear fF; replace H := oB H; obtain ⟨⟨dE, dF, dG, cC, dH⟩, eW, H⟩ := H; (try dsimp only at H); have kP := aM eW; clear eW
     simp only [Option.some.injEq, Prod.mk.injEq] at H; obtain ⟨rfl, rfl, rfl, rfl, rfl, rfl⟩ := H; go_enter Try.func15, Try.ntmps15
     go_wp2_with (first | ((with_reducible refine gD 2 rfl ?_); refine boxE (N := 2) rfl (cs := #[.int .i64 aE, .slice bE aD.length bG, .int .i64 aG, .slice aK aA.length aN]) (t := 30) ?_; intro dR hg kX hbox hb; have aC := aM (hbox); have dS := aM (xge hg); have dU := aM (xge hg); replace HB := xbs hb; clear hb hbox hg) | ((with_reducible refine gD 4 rfl ?_); refine boxE (N := 4) rfl (cs := #[.int .i64 0, .int .i64 0, .string (⟨#[]⟩ : ByteArray), .slice none 0 0, .int .i64 0]) (t := 38) ?_; intro aI hg kQ hbox hb; have dV := aM (xge hg); have dW := aM (xge hg); replace HB := xbs hb; have aT := nblt aC hg; have aU := nbgt aC hg; replace aC := xbb aC hb; have aJ := aM (hbox); clear hb hbox hg; have jX := aT.out; have jY := aU.out; obtain ⟨fG, fH, fI, fJ, fK, fL, fM, fN⟩ := xf4 (w := kQ) aC) | ((with_reducible refine gC 32 rfl ?_); refine goesLY (some 9) rfl Try.func32 #[.agg #[.int .i64 aE, .slice bE aD.length bG, .int .i64 aG, .slice aK aA.length aN], .int .i64 a1] ?_; (with_reducible refine (impl_relAt.calls aE _ _ aD aG _ _ aA a1 aH _ ?side1 ?side2 ?side3 ?side4 A3.out).mono ?_); (case side1 => exact xcb bL); (case side2 => exact bN.out); (case side3 => exact xcb aY); (case side4 => exact aZ.out); rintro e kR ⟨rfl, hb⟩; refine ⟨_, rfl, ?_⟩; replace aC := xbb aC hb; replace aJ := xbb aJ hb; replace HB := xbs hb; (try clear hb); obtain ⟨fO, fP, fQ, fR, fS, fT, fU, fV⟩ := xf4 (w := kR) aC) | (go_at_call 26; (with_reducible refine (impl_RollOk.calls k aE _ _ aD aG _ _ aA true _ ?side1 ?side2 ?side3 ?side4 jU.out).mono ?_); (case side1 => exact xcb bL); (case side2 => exact bN.out); (case side3 => exact xcb aY); (case side4 => exact aZ.out); rintro e kS ⟨rfl, hb⟩; replace aC := xbb aC hb; replace aJ := xbb aJ hb; replace HB := xbs hb; (try clear hb); obtain ⟨fW, fX, fY, fZ, gA, gB, gE, gF⟩ := xf4 (w := kS) aC; have p237 : 0 ≤ (aH : Int) := oda; have q237 : aH < (aD.length : Int) := oda; obtain ⟨jZ, eH, eI, jG, bR, bU, bV, bW, bX, bY, hi237_3⟩ := at_T38 bL.out aH p237 q237; cases jG; replace bR := xce HB bR; replace bU := xce HB bU; replace bV := xce HB bV; replace bW := xce HB bW; replace bX := xce HB bX; have dI := aM hi237_3; have dJ := aM bY; clear hi237_3 bY; replace p237 := eq_true p237; replace q237 := eq_true q237) | ((with_reducible refine gC 33 rfl ?_); refine goesLY (some 23) rfl Try.func33 #[.agg #[.int .i64 ((rd_T38 aD aH).f0), .int .i64 ((rd_T38 aD aH).f1), .string ((rd_T38 aD aH).f2), .slice eH ((rd_T38 aD aH).f3).length eI, .int .i64 ((rd_T38 aD aH).f4)]] ?_; (with_reducible refine (impl_copyRel.calls ((rd_T38 aD aH).f0) ((rd_T38 aD aH).f1) ((rd_T38 aD aH).f2) _ _ ((rd_T38 aD aH).f3) ((rd_T38 aD aH).f4) dE dF dG cC dH _ ?side1 ?side2 kP.out).mono ?_); (case side1 => exact xcb dI); (case side2 => exact dJ.out); rintro e kA ⟨v242, rfl, eT, hb⟩; refine ⟨_, rfl, ?_⟩; have bZ := aM (Kd.R_lower eT (below_size xbg)); replace aC := xbb aC hb; replace aJ := xbb aJ hb; replace HB := xbs hb; (try clear hb eT); obtain ⟨gG, gH, gI, gJ, gK, gL, gM, gN, gO, gP⟩ := xf5 (w := kA) aJ; obtain ⟨dK, dL, jH⟩ := Kd.R_slice bZ.out; subst jH) | ((with_reducible refine gate_store (t := 38) (p := 4) rfl ?_); refine store_event (t := 38) (p := 4) (v := ?vo_w28) (w1 := (((((kA.setCell ⟨aI, 0, none⟩ (.int .i64 dE)).setCell ⟨aI, 1, none⟩ (.int .i64 dF)).setCell ⟨aI, 2, none⟩ (.string dG)).setCell ⟨aI, 3, none⟩ (.slice dK cC.length dL)).setCell ⟨aI, 4, none⟩ (.int .i64 dH))) ?hg ?ho ?hn ?hr ?_; (case ho | hg | hn => rfl); (case hr => exact u7_1); intro kB hw; replace bZ : Aside0 (Kd.R (Kd.int .i64) 3 kB w.heap.size (fun _ => True) (.slice dK cC.length dL) cC) := xwm hw bZ (fun _ _ => trivial); replace aC := xwc hw aC; replace aJ : Aside0 (kB.heap[aI]? = some (.cells #[.int .i64 dE, .int .i64 dF, .string dG, .slice dK cC.length dL, .int .i64 dH] 38 (0, 0))) := xwp hw; replace HB := xbw hw HB; clear hw))
     refine bodyPost_ret (results_ct rfl _ _ aI 38 #[.int .i64 dE, .int .i64 dF, .string dG, .slice dK cC.length dL, .int .i64 dH] (0, 0) _ rfl xblk Try.underlying38 rfl (by kernel_rfl)) rfl ?_; exact ⟨_, xerr, by (with_reducible repeat (first | apply Kd.R_alloc | apply Kd.R_drewN | apply Kd.R_drew)); exact bZ.out, xbg⟩
    ·rw [if_neg fF] at H; exact absurd H (by simp)
   ·rw [if_neg fE] at H; exact absurd H (by simp)
  ·replace fD := Bool.eq_false_iff.mpr fD; subst fD; replace H := iN H; simp only [Option.some.injEq, Prod.mk.injEq] at H; obtain ⟨rfl, rfl, rfl, rfl, rfl, rfl⟩ := H; go_enter Try.func15, Try.ntmps15
   go_wp2_with (first | ((with_reducible refine gD 2 rfl ?_); refine boxE (N := 2) rfl (cs := #[.int .i64 aE, .slice bE aD.length bG, .int .i64 aG, .slice aK aA.length aN]) (t := 30) ?_; intro dR hg kY hbox hb; have aC := aM (hbox); have dS := aM (xge hg); have dU := aM (xge hg); replace HB := xbs hb; clear hb hbox hg) | ((with_reducible refine gD 4 rfl ?_); refine boxE (N := 4) rfl (cs := #[.int .i64 0, .int .i64 0, .string (⟨#[]⟩ : ByteArray), .slice none 0 0, .int .i64 0]) (t := 38) ?_; intro aI hg kT hbox hb; have dV := aM (xge hg); have dW := aM (xge hg); replace HB := xbs hb; have aT := nblt aC hg; have aU := nbgt aC hg; replace aC := xbb aC hb; have aJ := aM (hbox); clear hb hbox hg; have kC := aT.out; have kE := aU.out; obtain ⟨gQ, gR, gS, gT, gU, gV, gW, gX⟩ := xf4 (w := kT) aC) | ((with_reducible refine gC 32 rfl ?_); refine goesLY (some 9) rfl Try.func32 #[.agg #[.int .i64 aE, .slice bE aD.length bG, .int .i64 aG, .slice aK aA.length aN], .int .i64 a1] ?_; (with_reducible refine (impl_relAt.calls aE _ _ aD aG _ _ aA a1 aH _ ?side1 ?side2 ?side3 ?side4 A3.out).mono ?_); (case side1 => exact xcb bL); (case side2 => exact bN.out); (case side3 => exact xcb aY); (case side4 => exact aZ.out); rintro e kU ⟨rfl, hb⟩; refine ⟨_, rfl, ?_⟩; replace aC := xbb aC hb; replace aJ := xbb aJ hb; replace HB := xbs hb; (try clear hb); obtain ⟨gY, gZ, hJ, hU, hX, hZ, iA, iB⟩ := xf4 (w := kU) aC) | (go_at_call 26; (with_reducible refine (impl_RollOk.calls k aE _ _ aD aG _ _ aA false _ ?side1 ?side2 ?side3 ?side4 jU.out).mono ?_); (case side1 => exact xcb bL); (case side2 => exact bN.out); (case side3 => exact xcb aY); (case side4 => exact aZ.out); rintro e kF ⟨rfl, hb⟩; replace aC := xbb aC hb; replace aJ := xbb aJ hb; replace HB := xbs hb; (try clear hb); obtain ⟨iC, iD, iE, iF, iG, iH, iI, iJ, iK, iL⟩ := xf5 (w := kF) aJ) | ((with_reducible refine gate_store (t := 38) (p := 4) rfl ?_); refine store_event (t := 38) (p := 4) (v := ?vo_w37) (w1 := (((((kF.setCell ⟨aI, 0, none⟩ (.int .i64 0)).setCell ⟨aI, 1, none⟩ (.int .i64 0)).setCell ⟨aI, 2, none⟩ (.string (⟨#[]⟩ : ByteArray))).setCell ⟨aI, 3, none⟩ (.slice none 0 0)).setCell ⟨aI, 4, none⟩ (.int .i64 0))) ?hg ?ho ?hn ?hr ?_; (case ho | hg | hn => rfl); (case hr => exact u7_1); intro kV hw; replace aC := xwc hw aC; replace aJ : Aside0 (kV.heap[aI]? = some (.cells #[.int .i64 0, .int .i64 0, .string (⟨#[]⟩ : ByteArray), .slice none 0 0, .int .i64 0] 38 (0, 0))) := xwp hw; replace HB := xbw hw HB; clear hw))
   refine bodyPost_ret (results_ct rfl _ _ aI 38 #[.int .i64 0, .int .i64 0, .string (⟨#[]⟩ : ByteArray), .slice none 0 0, .int .i64 0] (0, 0) _ rfl xblk Try.underlying38 rfl (by kernel_rfl)) rfl ?_; exact ⟨_, xerr, u7_4, xbg⟩

/-! ### laws_markRel: function 17 -/
def laws_markRel.f (k : Nat) (aE : Int) (aP : Int) (aG : ByteArray) (aA : List Int) (aQ : Int) (a1 : Int) : Option (Int × List Int) := (laws_markIntS.f k aA a1).bind fun bO => (some (bO.1, bO.2))
theorem u7_mq1 {p : Prop} (h : p := by repeat' first | (with_reducible first | exact laws_markIntS.mono _ _ _ | exact LeO.refl _ | exact LeO.none _ | refine LeO.ite ?_ ?_ | refine LeO.bind ?_ (fun _ => ?_)) | exact LeO.none _ | refine LeO.ite ?_ ?_ | refine LeO.bind ?_ (fun _ => ?_)) : p := h
theorem laws_markRel.mono : ∀ a0 a1 a2 a3 a4 a5 k, LeO (laws_markRel.f k a0 a1 a2 a3 a4 a5) (laws_markRel.f (k + 1) a0 a1 a2 a3 a4 a5) := by
 intro a0 a1 a2 a3 a4 a5 k
 unfold laws_markRel.f
 exact u7_mq1
set_option maxHeartbeats 8000000 in
set_option maxRecDepth 100000 in
theorem laws_markRel.calls (k : Nat) (aE : Int) (aP : Int) (aG : ByteArray) (P0_3_ : Nat → Prop) (u9000_ : Value) (aA : List Int) (aQ : Int) (a1 : Int) (r1 : Int) (r2 : List Int) (w0 w : World) (hB : Below w0.heap.size w0 w) (eX : Kd.R (Kd.int .i64) 3 w w0.heap.size P0_3_ u9000_ aA) (h : laws_markRel.f k aE aP aG aA aQ a1 = some (r1, r2)) :
 Calls Try.prog 17 #[.agg #[.int .i64 aE, .int .i64 aP, .string aG, u9000_, .int .i64 aQ], .int .i64 a1] w fun e w' => e = .returned (.int .i64 r1) ∧ Kd.R (Kd.int .i64) 3 w' w0.heap.size (fun k_ => (P0_3_ k_ ∨ w.heap.size ≤ k_)) u9000_ r2 ∧ Below w0.heap.size w0 w' ∧ Kept w w' (fun k_ => P0_3_ k_) := by
 have dY := Try.underlying38
 have bC := aM (show Kd.R (Kd.int .i64) 3 w w0.heap.size (fun k_ => (P0_3_ k_ ∨ w.heap.size ≤ k_)) u9000_ aA from Kd.R_mono eX (fun k_ hk => (.inl hk)))
 have HK := aM (Kept.refl w (fun k_ => P0_3_ k_))
 have HW0 := aM hB.size
 have HB := aM hB
 clear hB
 have H : ((laws_markIntS.f k aA a1).bind fun bO => (some (bO.1, bO.2))) = some (r1, r2) := h
 clear h
 replace H := oB H
 obtain ⟨⟨jI, jJ⟩, dQ, H⟩ := H
 (try dsimp only at H)
 have A3 := aM dQ
 clear dQ
 simp only [Option.some.injEq, Prod.mk.injEq] at H
 obtain ⟨rfl, rfl⟩ := H
 obtain ⟨iM, iO, kW⟩ := Kd.R_slice bC.out
 subst kW
 go_enter Try.func17, Try.ntmps17
 go_wp2_with (first | ((with_reducible refine gD 2 rfl ?_); refine boxE (N := 2) rfl (cs := #[.int .i64 aE, .int .i64 aP, .string aG, .slice iM aA.length iO, .int .i64 aQ]) (t := 38) ?_; intro dX hg w5 hbox hb; replace bC := xrb bC hb; have cP := aM (hbox); have eM := aM ((by rw [hg]; exact (by first | exact HK.out.1 | exact (show Kept w _ (fun k_ => P0_3_ k_) from by repeat (first | (with_reducible first | exact HK.out | apply Kept.alloc | apply Kept.drewN | apply Kept.drew) | exact HK.out)).1) : w.heap.size ≤ dX)); replace HK := aM (Kept.below (S := (fun k_ => P0_3_ k_)) (by repeat (first | (with_reducible first | exact HK.out | apply Kept.alloc | apply Kept.drewN | apply Kept.drew) | exact HK.out)) hb); have kG := aM ((by rw [hg]; exact (below_size xbel) : w0.heap.size ≤ dX)); replace HB := xbs hb; clear hb hbox hg; obtain ⟨cE, cF, cG, cH, cI, cJ, cK, cL, cM, cN⟩ := xf5 (w := w5) cP) | ((with_reducible refine gC 12 rfl ?_); refine goesLY (some 8) rfl Try.func12 #[.slice iM aA.length iO, .int .i64 a1] ?_; (with_reducible refine (laws_markIntS.calls k (fun k_ => some k_ = (.slice iM aA.length iO : Value).ownBlock) (.slice iM aA.length iO) aA a1 jI jJ w0 _ ?side1 ?side2 A3.out).mono ?_); (case side1 => exact xbg); (case side2 => exact Kd.R_tight rfl bC.out); rintro e w7 ⟨rfl, hY, hb, hkp⟩; refine ⟨_, rfl, ?_⟩; replace cP := aM (blk_kept xblk hkp (fun hs_ => (fun e_ => (Kd.R_ne bC.out cP.out (by decide)) e_) hs_)); replace HK := aM (Kept.then_ (S := (fun k_ => P0_3_ k_)) u7_5 hkp (fun k_ hs_ => (fun e_ => (bC.out.1 k_ e_.symm)) hs_)); replace bC := aM (Kd.R_reok rfl hY (fun k_ e_ => bC.out.1 k_ e_)); replace HB := aM (hb); (try clear hb); (try clear hkp); (try clear hY)))
 go_ret
 exact ⟨xerr, by (with_reducible repeat (first | apply Kd.R_alloc | apply Kd.R_drewN | apply Kd.R_drew)); exact bC.out, xbg, u7_5⟩

/-! ### laws_heldIntS: function 13 -/
def laws_heldIntS.l0 : Nat → List Int → Int → Int → Option (Int)
 | 0, _, _, _ => none
 | k + 1, x0, x1, x5 => if x5 < (x0.length : Int) then (if 0 ≤ x5 then (if (rd x0 x5) = x1 then (laws_heldIntS.l0 k x0 (wrap64 (x1 + 1)) (wrap64 (x5 + 1))) else (some (-1))) else (none)) else (some x1)
def laws_heldIntS.f (k : Nat) (l0 : List Int) (a1 : Int) : Option (Int) := laws_heldIntS.l0 k l0 a1 0
theorem u7_mq2 {p : Prop} (h : p := by repeat' first | (with_reducible first | exact kH _ _ _ | exact LeO.refl _ | exact LeO.none _ | refine LeO.ite ?_ ?_ | refine LeO.bind ?_ (fun _ => ?_)) | exact LeO.none _ | refine LeO.ite ?_ ?_ | refine LeO.bind ?_ (fun _ => ?_)) : p := h
set_option maxRecDepth 100000 in
theorem laws_heldIntS.mono_l : ∀ k, (∀ y0 y1 y2, LeO (laws_heldIntS.l0 k y0 y1 y2) (laws_heldIntS.l0 (k + 1) y0 y1 y2))
 | 0 => fun _ _ _ r h => by simp [laws_heldIntS.l0] at h
 | k + 1 => by
  have kH := laws_heldIntS.mono_l k
  ·intro y0 y1 y2; unfold laws_heldIntS.l0; exact u7_mq2
theorem laws_heldIntS.mono : ∀ a0 a1 k, LeO (laws_heldIntS.f k a0 a1) (laws_heldIntS.f (k + 1) a0 a1) := by
 intro a0 a1 k
 have kH := laws_heldIntS.mono_l k
 unfold laws_heldIntS.f
 exact u7_mq2
set_option maxHeartbeats 8000000 in
set_option maxRecDepth 100000 in
theorem laws_heldIntS.calls (k : Nat) (A0 : Option Addr) (c0 : Nat) (l0 : List Int) (a1 : Int) (r : Int) (w : World) (eO : Kd.C (Kd.int .i64) w A0 l0.length l0) (eP : l0.length ≤ c0) (h : laws_heldIntS.f k l0 a1 = some r) :
 Calls Try.prog 13 #[.slice A0 l0.length c0, .int .i64 a1] w fun e w' => e = .returned (.int .i64 r) ∧ Drawn0 w w' := by
 have fC := aM eO
 have kI := aM eP
 clear eO eP
 have H : (laws_heldIntS.l0 k l0 a1 0) = some r := h
 clear h
 have H' := aM H
 clear H
 go_enter Try.func13, Try.ntmps13
 go_wp2
 go_loopg [1, 5] k (fun kq v1 v5 w' => ∃ (cQ : Int) (aW : Int), v1 = .int .i64 cQ ∧ v5 = .int .i64 aW ∧ Aside0 (laws_heldIntS.l0 kq l0 cQ aW = some r) ∧ Aside0 (kq ≤ k) ∧ Drawn0 w w')
 case atStart => exact ⟨(a1), (0), u7_0, u7_0, H', ⟨Nat.le_refl _⟩, u7_2⟩
 case round =>
  clear H'; try clear c1
  try clear p2
  obtain ⟨cQ, aW, rfl, rfl, HA, HK1, ⟨m1, rfl⟩⟩ := hrel; cases gk with
  | zero => exact absurd HA.out (by simp [laws_heldIntS.l0])
  | succ k1 =>
   have H := HA.out; clear HA; simp only [laws_heldIntS.l0] at H; by_cases c3 : aW < (l0.length : Int)
   ·rw [if_pos c3] at H; have jK : decide (aW < (l0.length : Int)) = true := decide_eq_true c3; clear c3; by_cases c4 : 0 ≤ aW
    ·rw [if_pos c4] at H; have dD : decide (0 ≤ aW) = true := decide_eq_true c4; clear c4; by_cases c5 : (rd l0 aW) = cQ
     ·rw [if_pos c5] at H; obtain ⟨jL, jM⟩ := bT c5; clear c5; have H' := aM H; clear H; have p248 : 0 ≤ (aW : Int) := oda; have q248 : aW < (l0.length : Int) := oda; obtain ⟨eY, eJ, dM⟩ := Kd.at_int fC.out aW p248 q248; cases eJ
      replace p248 := eq_true p248; replace q248 := eq_true q248; go_wp2; go_roundg k1
      case measure => have := HK1.out; omega
      case rel => exact ⟨(wrap64 (cQ + 1)), (wrap64 (aW + 1)), u7_0, u7_0, H', ⟨by have := HK1.out; omega⟩, u7_2⟩
     ·rw [if_neg c5] at H; obtain ⟨jL, jM⟩ := bF c5; obtain rfl := Option.some.inj H; have p248 : 0 ≤ (aW : Int) := oda; have q248 : aW < (l0.length : Int) := oda; obtain ⟨eY, eJ, dM⟩ := Kd.at_int fC.out aW p248 q248; cases eJ
      replace p248 := eq_true p248; replace q248 := eq_true q248; go_wp2; go_ret
      exact ⟨u7_0, u7_2⟩
    ·rw [if_neg c4] at H; exact absurd H (by simp)
   ·rw [if_neg c3] at H; have jK : decide (aW < (l0.length : Int)) = false := decide_eq_false c3; clear c3; obtain rfl := Option.some.inj H; go_wp2; go_ret
    exact ⟨u7_0, u7_2⟩

/-! ### laws_heldRel: function 18 -/
def laws_heldRel.f (k : Nat) (aE : Int) (aP : Int) (aG : ByteArray) (aA : List Int) (aQ : Int) (a1 : Int) : Option (Int) := (laws_heldIntS.f k aA a1).bind fun bK => (if bK < 0 then (some (-1)) else (some bK))
theorem u7_mq3 {p : Prop} (h : p := by repeat' first | (with_reducible first | exact laws_heldIntS.mono _ _ _ | exact LeO.refl _ | exact LeO.none _ | refine LeO.ite ?_ ?_ | refine LeO.bind ?_ (fun _ => ?_)) | exact LeO.none _ | refine LeO.ite ?_ ?_ | refine LeO.bind ?_ (fun _ => ?_)) : p := h
theorem laws_heldRel.mono : ∀ a0 a1 a2 a3 a4 a5 k, LeO (laws_heldRel.f k a0 a1 a2 a3 a4 a5) (laws_heldRel.f (k + 1) a0 a1 a2 a3 a4 a5) := by
 intro a0 a1 a2 a3 a4 a5 k
 unfold laws_heldRel.f
 exact u7_mq3
set_option maxHeartbeats 8000000 in
set_option maxRecDepth 100000 in
theorem laws_heldRel.calls (k : Nat) (aE : Int) (aP : Int) (aG : ByteArray) (aK : Option Addr) (aN : Nat) (aA : List Int) (aQ : Int) (a1 : Int) (r : Int) (w : World) (aX : Kd.C (Kd.int .i64) w aK aA.length aA) (bA : aA.length ≤ aN) (h : laws_heldRel.f k aE aP aG aA aQ a1 = some r) :
 Calls Try.prog 18 #[.agg #[.int .i64 aE, .int .i64 aP, .string aG, .slice aK aA.length aN, .int .i64 aQ], .int .i64 a1] w fun e w' => e = .returned (.int .i64 r) ∧ Below w.heap.size w w' := by
 have dY := Try.underlying38
 have aY := aM aX
 have aZ := aM bA
 clear aX bA
 have HB := aM (Below.refl w.heap.size w)
 have H : ((laws_heldIntS.f k aA a1).bind fun bK => (if bK < 0 then (some (-1)) else (some bK))) = some r := h
 clear h
 replace H := oB H
 obtain ⟨bK, dQ, H⟩ := H
 (try dsimp only at H)
 have A3 := aM dQ
 clear dQ
 by_cases c4 : bK < 0
 ·rw [if_pos c4] at H; have dD : decide (bK < 0) = true := decide_eq_true c4; clear c4; obtain rfl := Option.some.inj H; go_enter Try.func18, Try.ntmps18
  go_wp2_with (first | ((with_reducible refine gD 2 rfl ?_); refine boxE (N := 2) rfl (cs := #[.int .i64 aE, .int .i64 aP, .string aG, .slice aK aA.length aN, .int .i64 aQ]) (t := 38) ?_; intro eZ hg w5 hbox hb; have cS := aM (hbox); have fA := aM (xge hg); have fB := aM (xge hg); replace HB := xbs hb; clear hb hbox hg; obtain ⟨cE, cF, cG, cH, cI, cJ, cK, cL, cM, cN⟩ := xf5 (w := w5) cS) | ((with_reducible refine gC 13 rfl ?_); refine goesLY (some 8) rfl Try.func13 #[.slice aK aA.length aN, .int .i64 a1] ?_; (with_reducible refine (laws_heldIntS.calls k _ _ aA a1 bK _ ?side1 ?side2 A3.out).mono ?_); (case side1 => exact xcb aY); (case side2 => exact aZ.out); rintro e w' ⟨rfl, ⟨nd, rfl⟩⟩; refine ⟨_, rfl, ?_⟩))
  go_ret
  exact ⟨xerr, xbg⟩
 ·rw [if_neg c4] at H; have dD : decide (bK < 0) = false := decide_eq_false c4; clear c4; obtain rfl := Option.some.inj H; go_enter Try.func18, Try.ntmps18
  go_wp2_with (first | ((with_reducible refine gD 2 rfl ?_); refine boxE (N := 2) rfl (cs := #[.int .i64 aE, .int .i64 aP, .string aG, .slice aK aA.length aN, .int .i64 aQ]) (t := 38) ?_; intro eZ hg w7 hbox hb; have cS := aM (hbox); have fA := aM (xge hg); have fB := aM (xge hg); replace HB := xbs hb; clear hb hbox hg; obtain ⟨dZ, eA, eB, eC, jN, eD, eE, eF, eG, jO⟩ := xf5 (w := w7) cS) | ((with_reducible refine gC 13 rfl ?_); refine goesLY (some 8) rfl Try.func13 #[.slice aK aA.length aN, .int .i64 a1] ?_; (with_reducible refine (laws_heldIntS.calls k _ _ aA a1 bK _ ?side1 ?side2 A3.out).mono ?_); (case side1 => exact xcb aY); (case side2 => exact aZ.out); rintro e w' ⟨rfl, ⟨nd, rfl⟩⟩; refine ⟨_, rfl, ?_⟩))
  go_ret
  exact ⟨xerr, xbg⟩

end Go.Proofs.Ytppfnnpfamkclaa.QFnExactRollFind
