-- A walk, by a program of this session.
import Derived.Test.YtoojdlobnbakoaaQFnJournalx10
namespace Go.Proofs.Ytoojdlobnbakoaa.QFnJournal
open Go.RowKit Go.Proofs.YtoojdlobnbakoaaW.PrintWords Go.Proofs.YtoojdlobnbakoaaW.PrintLast Go.Proofs.YtoojdlobnbakoaaW.PrintMore
attribute [local go_sem] max2_int min2_int max_two min_two max_three min_three max_four min_four   -- for this text's walks alone
set_option linter.unusedVariables false
set_option linter.unusedSimpArgs false

theorem u12_0 {p : Prop} (h : p := by first | rfl | (simp; done) | (simp [*]; done)) : p := h
theorem u12_1 {p : Prop} (h : p := by repeat (first | exact Drawn0.refl _ | apply Drawn0.step)) : p := h
theorem u12_2 {p : Prop} (h : p := by first | rfl | (simp; done) | (simp only [← hji7, ← hji10, ← hji12] <;> (first | rfl | simp)) | (simp [*]; done)) : p := h
/-! ### impl_fileAt: function 129 -/
def idxName : List S95 → Int → Int → Int
  | [], _, _ => -1
  | x :: t, nm, i => if x.f0 = nm then i else idxName t nm (i + 1)
def impl_fileAt.f (aE : Int) (aB : List S95) (a1 : Int) : Option (Int) := some (idxName aB a1 0)
theorem idxName_drop (l : List S95) (nm i : Int) (h0 : 0 ≤ i) (h1 : i < l.length) : idxName (l.drop i.toNat) nm i = if (rd_T95 l i).f0 = nm then i else idxName (l.drop (i + 1).toNat) nm (i + 1) := by
  have hlt : i.toNat < l.length := by omega
  have e : (i + 1).toNat = i.toNat + 1 := by omega
  rw [List.drop_eq_getElem_cons hlt, e, idxName]; unfold rd_T95; rw [List.getD_eq_getElem?_getD, List.getElem?_eq_getElem hlt]; rfl
theorem fileAt_pred (x : S95) (nm : Int) (B : Nat) (w W : World) (hB : B < w.heap.size) (hb : Below w.heap.size w W) (hcell : w.cell? ⟨B, 0, none⟩ = some (.int .i64 nm)) :
    Calls Try.prog 171 #[.agg #[.int .i64 x.f0, .string x.f1, .string x.f2], .pointer (some ⟨B, 0, none⟩)] W fun e w' => e = .returned (.bool (x.f0 == nm)) ∧ Below w.heap.size w w' := by
  have hc : W.cell? ⟨B, 0, none⟩ = some (.int .i64 nm) := (hb.cell (p := ⟨B, 0, none⟩) hB).trans hcell; have hBW : B < W.heap.size := Nat.lt_of_lt_of_le hB hb.size; have hne : B ≠ W.heap.size := by omega
  go_enter Try.func171, Try.ntmps171
  go_wp2; go_ret
  exact ⟨rfl, hb.alloc hb.size _⟩
set_option maxHeartbeats 2000000 in
theorem fileAt_idx (A : Option Addr) (c : Nat) (l : List S95) (nm : Int) (B : Nat) (w : World) (hC : Kd.C k95 w A l.length l) (hB : B < w.heap.size) (hcell : w.cell? ⟨B, 0, none⟩ = some (.int .i64 nm)) :
    Calls Try.prog 170 #[.slice A l.length c, .func (.func 171) #[] #[.pointer (some ⟨B, 0, none⟩)]] w fun e w' => e = .returned (.int .i64 (idxName l nm 0)) ∧ Below w.heap.size w w' := by
  have eg : ∀ args w, (callFunc 171 args).run Try.prog w = .ok (.enter 171 args) w := Go.Proofs.enters_of Try.func171 (by kernel_rfl) rfl; have hu := Try.underlying95; have hpred := fun x W hb => fileAt_pred x nm B w W hB hb hcell
  have hmax := hC.2.1; have HC := Aside0.mk hC; clear hC hcell; go_enter Try.func170, Try.ntmps170
  go_wp2; go_loopg [5, 8] l.length (fun gg _ s8 wr => ∃ i : Int, 0 ≤ i ∧ i ≤ l.length ∧ l.length - i.toNat ≤ gg ∧ s8 = .int .i64 i ∧ Aside0 (Below w.heap.size w wr) ∧ Aside0 (idxName l nm 0 = idxName (l.drop i.toNat) nm i))
  case atStart => exact ⟨0, by omega, by omega, by omega, rfl, ⟨Below.refl _ w⟩, ⟨rfl⟩⟩
  case round =>
    obtain ⟨i, h0, h1, hg, rfl, BW, AI⟩ := hrel; by_cases hlt : i < (l.length : Int)
    · have hs := idxName_drop l nm i h0 hlt; obtain ⟨ad, rfl, dL, dM, dN⟩ := at_T95 HC.out i h0 hlt; replace dL := (BW.out.cell (World.block_lt_of_cell? w _ dL)).trans dL; replace dM := (BW.out.cell (World.block_lt_of_cell? w _ dM)).trans dM; replace dN := (BW.out.cell (World.block_lt_of_cell? w _ dN)).trans dN; have hcall := hpred (rd_T95 l i) wr BW.out; clear hpred; by_cases hq : (rd_T95 l i).f0 = nm
      · have dA : ((rd_T95 l i).f0 == nm) = true := by simpa using hq
        rw [dA] at hcall; rw [if_pos hq] at hs; have HS := Aside0.mk hs; clear hs hq dA; go_wp2_with (go_at_fn 171; refine hcall.mono ?_; rintro e w' ⟨rfl, hb'⟩)
        go_ret
        exact ⟨by rw [AI.out, HS.out]; rfl, hb'⟩
      · have dA : ((rd_T95 l i).f0 == nm) = false := by simpa using hq
        rw [dA] at hcall; rw [if_neg hq] at hs; have HS := Aside0.mk hs; clear hs hq dA; go_wp2_with (go_at_fn 171; refine hcall.mono ?_; rintro e w' ⟨rfl, hb'⟩)
        go_roundg (l.length - (i + 1).toNat)
        case measure => omega
        case rel => exact ⟨i + 1, by omega, by omega, by omega, rfl, ⟨hb'⟩, ⟨AI.out.trans HS.out⟩⟩
    · have : i = l.length := by omega
      have hs : idxName (l.drop i.toNat) nm i = -1 := by rw [List.drop_eq_nil_of_le (by omega)]; rfl
      have HS := Aside0.mk hs; clear hs this; go_wp2; go_ret
      exact ⟨by rw [AI.out, HS.out]; rfl, BW.out⟩
set_option maxHeartbeats 2000000 in
theorem impl_fileAt.calls (aE : Int) (aR : Option Addr) (aS : Nat) (aB : List S95) (a1 : Int) (r : Int) (w : World) (aU : Kd.C k95 w aR aB.length aB) (bC : aB.length ≤ aS) (h : impl_fileAt.f aE aB a1 = some r) :
    Calls Try.prog 129 #[.agg #[.int .i64 aE, .slice aR aB.length aS], .int .i64 a1] w fun e w' => e = .returned (.int .i64 r) ∧ Below w.heap.size w w' := by
  obtain rfl := Option.some.inj h; clear h; have hu := Try.underlying26; have hcon := fun (W : World) (hb : Below w.heap.size w W) (hB : w.heap.size + 1 < W.heap.size) (hc : W.cell? ⟨w.heap.size + 1, 0, none⟩ = some (.int .i64 a1)) => (fileAt_idx aR aS aB a1 (w.heap.size + 1) W (Kd.C_below aU hb) hB hc)
  clear aU; go_enter Try.func129, Try.ntmps129
  go_wp2_with (go_at_call 170; refine (hcon _ ?_ ?_ ?_).mono ?_; (exact ((Below.refl _ w).alloc (Nat.le_refl _) _).alloc (by simp) _); simp; simp; rintro e w' ⟨rfl, hb'⟩)
  go_ret
  exact ⟨rfl, (((Below.refl _ w).alloc (Nat.le_refl _) _).alloc (by simp) _).trans (hb'.mono (by simp; omega))⟩


/-! ### impl_DiskRead: function 74 -/
def impl_DiskRead.f (k : Nat) (aE : Int) (aB : List (S95)) (a1 : Int) : Option (ByteArray × Bool) := (impl_fileAt.f aE aB a1).bind fun aC => ((impl_DiskOk.f k aE aB).bind fun bE => (if bE = true then (if aC < 0 then (some ((⟨#[]⟩ : ByteArray), false)) else (if 0 ≤ aC then (if aC < (aB.length : Int) then (if ((rd_T95 aB aC).f1).size + ((rd_T95 aB aC).f2).size ≤ 9223372036854775807 then (some (((rd_T95 aB aC).f1) ++ ((rd_T95 aB aC).f2), true)) else (none)) else (none)) else (none))) else (some ((⟨#[]⟩ : ByteArray), false))))
theorem u12_mq0 {p : Prop} (h : p := by repeat' first | (with_reducible first | exact impl_DiskOk.mono _ _ _ | exact LeO.refl _ | exact LeO.none _ | refine LeO.ite ?_ ?_ | refine LeO.bind ?_ (fun _ => ?_)) | exact LeO.none _ | refine LeO.ite ?_ ?_ | refine LeO.bind ?_ (fun _ => ?_)) : p := h
theorem impl_DiskRead.mono : ∀ a0 a1 a2 k, LeO (impl_DiskRead.f k a0 a1 a2) (impl_DiskRead.f (k + 1) a0 a1 a2) := by
 intro a0 a1 a2 k
 unfold impl_DiskRead.f
 exact u12_mq0
set_option maxHeartbeats 8000000 in
set_option maxRecDepth 100000 in
theorem impl_DiskRead.calls (k : Nat) (aE : Int) (aR : Option Addr) (aS : Nat) (aB : List (S95)) (a1 : Int) (r1 : ByteArray) (r2 : Bool) (w : World) (aU : Kd.C k95 w aR aB.length aB) (bC : aB.length ≤ aS) (h : impl_DiskRead.f k aE aB a1 = some (r1, r2)) :
 Calls Try.prog 74 #[.agg #[.int .i64 aE, .slice aR aB.length aS], .int .i64 a1] w fun e w' => e = .returned (.tuple #[.string r1, .bool r2]) ∧ Below w.heap.size w w' := by
 have eK := Try.underlying26
 have aG := aM aU
 have aH := aM bC
 clear aU bC
 have HB := aM (Below.refl w.heap.size w)
 have H : ((impl_fileAt.f aE aB a1).bind fun aC => ((impl_DiskOk.f k aE aB).bind fun bE => (if bE = true then (if aC < 0 then (some ((⟨#[]⟩ : ByteArray), false)) else (if 0 ≤ aC then (if aC < (aB.length : Int) then (if ((rd_T95 aB aC).f1).size + ((rd_T95 aB aC).f2).size ≤ 9223372036854775807 then (some (((rd_T95 aB aC).f1) ++ ((rd_T95 aB aC).f2), true)) else (none)) else (none)) else (none))) else (some ((⟨#[]⟩ : ByteArray), false))))) = some (r1, r2) := h
 clear h
 replace H := oB H
 obtain ⟨aC, eA, H⟩ := H
 (try dsimp only at H)
 have A3 := aM eA
 clear eA
 replace H := oB H
 obtain ⟨bE, eB, H⟩ := H
 (try dsimp only at H)
 have A4 := aM eB
 clear eB
 by_cases c5 : bE = true
 ·subst c5; replace H := iT H; by_cases c6 : aC < 0
  ·rw [if_pos c6] at H; have dO : decide (aC < 0) = true := decide_eq_true c6; clear c6; simp only [Option.some.injEq, Prod.mk.injEq] at H; obtain ⟨rfl, rfl⟩ := H; go_enter Try.func74, Try.ntmps74
   iterate 6 ((try go_quiet (first | ((with_reducible refine gD 2 rfl ?_); refine boxE (N := 2) rfl (cs := #[.int .i64 aE, .slice aR aB.length aS]) (t := 26) ?_; intro aV hg w7 hbox hb; have aA := aM (hbox); have aW := aM (xge hg); have aX := aM (xge hg); replace HB := xbs hb; clear hb hbox hg; obtain ⟨cU, cV, cW, cX⟩ := xf2 (w := w7) aA) | (go_at_call 129; (with_reducible refine (impl_fileAt.calls aE _ _ aB a1 aC _ ?side1 ?side2 A3.out).mono ?_); (case side1 => exact xcb aG); (case side2 => exact aH.out); rintro e w9 ⟨rfl, hb⟩; replace aA := xbb aA hb; replace HB := xbs hb; (try clear hb); obtain ⟨bL, bM, bN, bO⟩ := xf2 (w := w9) aA) | (go_at_call 72; (with_reducible refine (impl_DiskOk.calls k aE _ _ aB true _ ?side1 ?side2 A4.out).mono ?_); (case side1 => exact xcb aG); (case side2 => exact aH.out); rintro e eL ⟨rfl, hb⟩; replace aA := xbb aA hb; replace HB := xbs hb; (try clear hb)))); (try go_wp2_with (first | ((with_reducible refine gD 2 rfl ?_); refine boxE (N := 2) rfl (cs := #[.int .i64 aE, .slice aR aB.length aS]) (t := 26) ?_; intro aV hg w7 hbox hb; have aA := aM (hbox); have aW := aM (xge hg); have aX := aM (xge hg); replace HB := xbs hb; clear hb hbox hg; obtain ⟨cU, cV, cW, cX⟩ := xf2 (w := w7) aA) | (go_at_call 129; (with_reducible refine (impl_fileAt.calls aE _ _ aB a1 aC _ ?side1 ?side2 A3.out).mono ?_); (case side1 => exact xcb aG); (case side2 => exact aH.out); rintro e w9 ⟨rfl, hb⟩; replace aA := xbb aA hb; replace HB := xbs hb; (try clear hb); obtain ⟨bL, bM, bN, bO⟩ := xf2 (w := w9) aA) | (go_at_call 72; (with_reducible refine (impl_DiskOk.calls k aE _ _ aB true _ ?side1 ?side2 A4.out).mono ?_); (case side1 => exact xcb aG); (case side2 => exact aH.out); rintro e eL ⟨rfl, hb⟩; replace aA := xbb aA hb; replace HB := xbs hb; (try clear hb)))))
   go_ret2
   exact ⟨xerr, xbg⟩
  ·rw [if_neg c6] at H; have dO : decide (aC < 0) = false := decide_eq_false c6; clear c6; by_cases dI : 0 ≤ aC
   ·rw [if_pos dI] at H; have eC : decide (0 ≤ aC) = true := decide_eq_true dI; clear dI; by_cases bG : aC < (aB.length : Int)
    ·rw [if_pos bG] at H; have cN : decide (aC < (aB.length : Int)) = true := decide_eq_true bG; clear bG; by_cases bB : ((rd_T95 aB aC).f1).size + ((rd_T95 aB aC).f2).size ≤ 9223372036854775807
     ·rw [if_pos bB] at H; have cO := eq_true bB; have eD : decide (((rd_T95 aB aC).f1).size + ((rd_T95 aB aC).f2).size ≤ 9223372036854775807) = true := decide_eq_true bB; try have eE : (9223372036854775807 < ((rd_T95 aB aC).f1).size + ((rd_T95 aB aC).f2).size) = False := eq_false (Nat.not_lt.2 bB)
      simp only [Option.some.injEq, Prod.mk.injEq] at H; obtain ⟨rfl, rfl⟩ := H; go_enter Try.func74, Try.ntmps74
      iterate 6 ((try go_quiet (first | ((with_reducible refine gD 2 rfl ?_); refine boxE (N := 2) rfl (cs := #[.int .i64 aE, .slice aR aB.length aS]) (t := 26) ?_; intro aV hg dP hbox hb; have aA := aM (hbox); have aW := aM (xge hg); have aX := aM (xge hg); replace HB := xbs hb; clear hb hbox hg; obtain ⟨bP, bQ, bR, bU⟩ := xf2 (w := dP) aA) | (go_at_call 129; (with_reducible refine (impl_fileAt.calls aE _ _ aB a1 aC _ ?side1 ?side2 A3.out).mono ?_); (case side1 => exact xcb aG); (case side2 => exact aH.out); rintro e dQ ⟨rfl, hb⟩; replace aA := xbb aA hb; replace HB := xbs hb; (try clear hb); obtain ⟨bV, bW, bX, bY⟩ := xf2 (w := dQ) aA) | (go_at_call 72; (with_reducible refine (impl_DiskOk.calls k aE _ _ aB true _ ?side1 ?side2 A4.out).mono ?_); (case side1 => exact xcb aG); (case side2 => exact aH.out); rintro e dR ⟨rfl, hb⟩; replace aA := xbb aA hb; replace HB := xbs hb; (try clear hb); obtain ⟨bZ, cA, cB, cC⟩ := xf2 (w := dR) aA; have p657 : 0 ≤ (aC : Int) := oda; have q657 : aC < (aB.length : Int) := oda; obtain ⟨bH, cY, aJ, aK, aL⟩ := at_T95 aG.out aC p657 q657; cases cY; replace aJ := xce HB aJ; replace aK := xce HB aK; replace aL := xce HB aL; replace p657 := eq_true p657; replace q657 := eq_true q657; have p658 : 0 ≤ (aC : Int) := oda; have q658 : aC < (aB.length : Int) := oda; obtain ⟨bI, cZ, aN, aO, aP⟩ := at_T95 aG.out aC p658 q658; obtain rfl : bH = bI := (by injection cZ); replace aN := xce HB aN; replace aO := xce HB aO; replace aP := xce HB aP; replace p658 := eq_true p658; replace q658 := eq_true q658))); (try go_wp2_with (first | ((with_reducible refine gD 2 rfl ?_); refine boxE (N := 2) rfl (cs := #[.int .i64 aE, .slice aR aB.length aS]) (t := 26) ?_; intro aV hg dP hbox hb; have aA := aM (hbox); have aW := aM (xge hg); have aX := aM (xge hg); replace HB := xbs hb; clear hb hbox hg; obtain ⟨bP, bQ, bR, bU⟩ := xf2 (w := dP) aA) | (go_at_call 129; (with_reducible refine (impl_fileAt.calls aE _ _ aB a1 aC _ ?side1 ?side2 A3.out).mono ?_); (case side1 => exact xcb aG); (case side2 => exact aH.out); rintro e dQ ⟨rfl, hb⟩; replace aA := xbb aA hb; replace HB := xbs hb; (try clear hb); obtain ⟨bV, bW, bX, bY⟩ := xf2 (w := dQ) aA) | (go_at_call 72; (with_reducible refine (impl_DiskOk.calls k aE _ _ aB true _ ?side1 ?side2 A4.out).mono ?_); (case side1 => exact xcb aG); (case side2 => exact aH.out); rintro e dR ⟨rfl, hb⟩; replace aA := xbb aA hb; replace HB := xbs hb; (try clear hb); obtain ⟨bZ, cA, cB, cC⟩ := xf2 (w := dR) aA; have p657 : 0 ≤ (aC : Int) := oda; have q657 : aC < (aB.length : Int) := oda; obtain ⟨bH, cY, aJ, aK, aL⟩ := at_T95 aG.out aC p657 q657; cases cY; replace aJ := xce HB aJ; replace aK := xce HB aK; replace aL := xce HB aL; replace p657 := eq_true p657; replace q657 := eq_true q657; have p658 : 0 ≤ (aC : Int) := oda; have q658 : aC < (aB.length : Int) := oda; obtain ⟨bI, cZ, aN, aO, aP⟩ := at_T95 aG.out aC p658 q658; obtain rfl : bH = bI := (by injection cZ); replace aN := xce HB aN; replace aO := xce HB aO; replace aP := xce HB aP; replace p658 := eq_true p658; replace q658 := eq_true q658))))
      go_ret2
      exact ⟨xerr, xbg⟩
     ·rw [if_neg bB] at H; exact absurd H (by simp)
    ·rw [if_neg bG] at H; exact absurd H (by simp)
   ·rw [if_neg dI] at H; exact absurd H (by simp)
 ·replace c5 := Bool.eq_false_iff.mpr c5; subst c5; replace H := iN H; simp only [Option.some.injEq, Prod.mk.injEq] at H; obtain ⟨rfl, rfl⟩ := H; go_enter Try.func74, Try.ntmps74
  iterate 6 ((try go_quiet (first | ((with_reducible refine gD 2 rfl ?_); refine boxE (N := 2) rfl (cs := #[.int .i64 aE, .slice aR aB.length aS]) (t := 26) ?_; intro aV hg dS hbox hb; have aA := aM (hbox); have aW := aM (xge hg); have aX := aM (xge hg); replace HB := xbs hb; clear hb hbox hg; obtain ⟨cD, cE, cF, cG⟩ := xf2 (w := dS) aA) | (go_at_call 129; (with_reducible refine (impl_fileAt.calls aE _ _ aB a1 aC _ ?side1 ?side2 A3.out).mono ?_); (case side1 => exact xcb aG); (case side2 => exact aH.out); rintro e dU ⟨rfl, hb⟩; replace aA := xbb aA hb; replace HB := xbs hb; (try clear hb); obtain ⟨cH, cI, cJ, cK⟩ := xf2 (w := dU) aA) | (go_at_call 72; (with_reducible refine (impl_DiskOk.calls k aE _ _ aB false _ ?side1 ?side2 A4.out).mono ?_); (case side1 => exact xcb aG); (case side2 => exact aH.out); rintro e eM ⟨rfl, hb⟩; replace aA := xbb aA hb; replace HB := xbs hb; (try clear hb)))); (try go_wp2_with (first | ((with_reducible refine gD 2 rfl ?_); refine boxE (N := 2) rfl (cs := #[.int .i64 aE, .slice aR aB.length aS]) (t := 26) ?_; intro aV hg dS hbox hb; have aA := aM (hbox); have aW := aM (xge hg); have aX := aM (xge hg); replace HB := xbs hb; clear hb hbox hg; obtain ⟨cD, cE, cF, cG⟩ := xf2 (w := dS) aA) | (go_at_call 129; (with_reducible refine (impl_fileAt.calls aE _ _ aB a1 aC _ ?side1 ?side2 A3.out).mono ?_); (case side1 => exact xcb aG); (case side2 => exact aH.out); rintro e dU ⟨rfl, hb⟩; replace aA := xbb aA hb; replace HB := xbs hb; (try clear hb); obtain ⟨cH, cI, cJ, cK⟩ := xf2 (w := dU) aA) | (go_at_call 72; (with_reducible refine (impl_DiskOk.calls k aE _ _ aB false _ ?side1 ?side2 A4.out).mono ?_); (case side1 => exact xcb aG); (case side2 => exact aH.out); rintro e eM ⟨rfl, hb⟩; replace aA := xbb aA hb; replace HB := xbs hb; (try clear hb)))))
  go_ret2
  exact ⟨xerr, xbg⟩

/-! ### impl_GetNum: function 138 -/
mutual
def impl_GetNum.l0 : Nat → List Int → Int → Int → Int → Option (Int × Int × Bool)
 | 0, _, _, _, _ => none
 | k + 1, x0, x1, x7, x8 => if x8 < 9 then (impl_GetNum.j1 k x0 x1 x7 x8 (decide (x8 < (wrap64 ((x0.length : Int) - x1))))) else (impl_GetNum.j1 k x0 x1 x7 x8 false)
def impl_GetNum.j1 : Nat → List Int → Int → Int → Int → Bool → Option (Int × Int × Bool)
 | 0, _, _, _, _, _ => none
 | k + 1, x0, x1, x7, x8, eN => if eN = true then (if 0 ≤ (wrap64 (x1 + x8)) then (if (wrap64 (x1 + x8)) < (x0.length : Int) then (if 0 ≤ (wrap64 (7 * x8)) then (if (wrap64 (rd x0 (wrap64 (x1 + x8)))) > 127 then (impl_GetNum.l0 k x0 x1 (Go.bits .or .i64 x7 (shl .i64 (Go.bits .and .i64 (wrap64 (rd x0 (wrap64 (x1 + x8)))) 127) (wrap64 (7 * x8)))) (wrap64 (x8 + 1))) else (if x8 > 0 then (if (wrap64 (rd x0 (wrap64 (x1 + x8)))) = 0 then (some (0, 0, false)) else (some (Go.bits .or .i64 x7 (shl .i64 (Go.bits .and .i64 (wrap64 (rd x0 (wrap64 (x1 + x8)))) 127) (wrap64 (7 * x8))), wrap64 ((wrap64 (x1 + x8)) + 1), true))) else (some (Go.bits .or .i64 x7 (shl .i64 (Go.bits .and .i64 (wrap64 (rd x0 (wrap64 (x1 + x8)))) 127) (wrap64 (7 * x8))), wrap64 ((wrap64 (x1 + x8)) + 1), true)))) else (none)) else (none)) else (none)) else (some (0, 0, false))
end
def impl_GetNum.f (k : Nat) (l0 : List Int) (a1 : Int) : Option (Int × Int × Bool) := if a1 < 0 then (some (0, 0, false)) else (impl_GetNum.l0 k l0 a1 0 0)
theorem u12_mq1 {p : Prop} (h : p := by repeat' first | (with_reducible first | exact dB _ _ _ _ | exact eF _ _ _ _ _ | exact LeO.refl _ | exact LeO.none _ | refine LeO.ite ?_ ?_ | refine LeO.bind ?_ (fun _ => ?_)) | exact LeO.none _ | refine LeO.ite ?_ ?_ | refine LeO.bind ?_ (fun _ => ?_)) : p := h
set_option maxRecDepth 100000 in
theorem impl_GetNum.mono_l : ∀ k, (∀ y0 y1 y2 y3, LeO (impl_GetNum.l0 k y0 y1 y2 y3) (impl_GetNum.l0 (k + 1) y0 y1 y2 y3)) ∧ (∀ y0 y1 y2 y3 y4, LeO (impl_GetNum.j1 k y0 y1 y2 y3 y4) (impl_GetNum.j1 (k + 1) y0 y1 y2 y3 y4))
 | 0 => ⟨fun _ _ _ _ r h => by simp [impl_GetNum.l0] at h, fun _ _ _ _ _ r h => by simp [impl_GetNum.j1] at h⟩
 | k + 1 => by
  obtain ⟨dB, eF⟩ := impl_GetNum.mono_l k; refine ⟨?_, ?_⟩
  ·intro y0 y1 y2 y3; unfold impl_GetNum.l0; exact u12_mq1
  ·intro y0 y1 y2 y3 y4; unfold impl_GetNum.j1; exact u12_mq1
theorem impl_GetNum.mono : ∀ a0 a1 k, LeO (impl_GetNum.f k a0 a1) (impl_GetNum.f (k + 1) a0 a1) := by
 intro a0 a1 k
 obtain ⟨dB, eF⟩ := impl_GetNum.mono_l k
 unfold impl_GetNum.f
 exact u12_mq1
set_option maxHeartbeats 8000000 in
set_option maxRecDepth 100000 in
theorem impl_GetNum.calls (k : Nat) (A0 : Option Addr) (c0 : Nat) (l0 : List Int) (a1 : Int) (r1 : Int) (r2 : Int) (r3 : Bool) (w : World) (cP : Kd.C (Kd.int .u8) w A0 l0.length l0) (cQ : l0.length ≤ c0) (h : impl_GetNum.f k l0 a1 = some (r1, r2, r3)) :
 Calls Try.prog 138 #[.slice A0 l0.length c0, .int .i64 a1] w fun e w' => e = .returned (.tuple #[.int .i64 r1, .int .i64 r2, .bool r3]) ∧ Drawn0 w w' := by
 have cS := aM cP
 have dV := aM cQ
 clear cP cQ
 have H : (if a1 < 0 then (some (0, 0, false)) else (impl_GetNum.l0 k l0 a1 0 0)) = some (r1, r2, r3) := h
 clear h
 by_cases c3 : a1 < 0
 ·rw [if_pos c3] at H; have cL : decide (a1 < 0) = true := decide_eq_true c3; clear c3; simp only [Option.some.injEq, Prod.mk.injEq] at H; obtain ⟨rfl, rfl, rfl⟩ := H; go_enter Try.func138, Try.ntmps138
  go_wp2; go_ret3
  exact ⟨u12_0, u12_1⟩
 ·rw [if_neg c3] at H; have cL : decide (a1 < 0) = false := decide_eq_false c3; clear c3; have H' := aM H; clear H; go_enter Try.func138, Try.ntmps138
  go_wp2; go_loopg [7, 8] k (fun kq v7 v8 w' => ∃ (aQ : Int) (aF : Int), v7 = .int .i64 aQ ∧ v8 = .int .i64 aF ∧ Aside0 (impl_GetNum.l0 kq l0 a1 aQ aF = some (r1, r2, r3)) ∧ Aside0 (kq ≤ k) ∧ Drawn0 w w')
  case atStart => exact ⟨(0), (0), u12_0, u12_0, H', ⟨Nat.le_refl _⟩, u12_1⟩
  case round =>
   clear H'; try clear c1
   try clear p2
   try clear c3
   try clear cL
   obtain ⟨aQ, aF, rfl, rfl, HA, HK1, ⟨m1, rfl⟩⟩ := hrel; cases gk with
   | zero => exact absurd HA.out (by simp [impl_GetNum.l0])
   | succ k1 =>
    have H := HA.out; clear HA; simp only [impl_GetNum.l0] at H; have dW := aM H; clear H; go_upto_region 5 with (fail)
    go_cut [21] (fun eO wc => ∃ (kq : Nat) (aZ : Bool), eO = .bool aZ ∧ Aside0 (impl_GetNum.j1 kq l0 a1 aQ aF aZ = some (r1, r2, r3)) ∧ Aside0 (kq ≤ k1) ∧ Drawn0 w wc)
    case first =>
     have H := dW.out; clear dW; by_cases c5 : aF < 9
     ·rw [if_pos c5] at H; have bA : decide (aF < 9) = true := decide_eq_true c5; clear c5; (first | rw [bA] | (simp only [i64_w, i32_w]; rw [bA]) | skip); have H' := aM H; clear H; go_wp2; go_meet
      case rel => exact ⟨_, (decide (aF < (wrap64 ((l0.length : Int) - a1)))), u12_0, H', ⟨by have := HK1.out; first | omega | exact Nat.le_refl _⟩, u12_1⟩
     ·rw [if_neg c5] at H; have bA : decide (aF < 9) = false := decide_eq_false c5; clear c5; (first | rw [bA] | (simp only [i64_w, i32_w]; rw [bA]) | skip); have H' := aM H; clear H; go_wp2; go_meet
      case rel => exact ⟨_, (false), u12_0, H', ⟨by have := HK1.out; first | omega | exact Nat.le_refl _⟩, u12_1⟩
    case rest =>
     clear dW; try clear c1
     try clear p2
     try clear c3
     try clear cL
     try clear c5
     try clear bA
     try clear p2
     obtain ⟨kq, aZ, rfl, HA, HJ3, ⟨mc3, rfl⟩⟩ := hcut; cases kq with
     | zero => exact absurd HA.out (by simp [impl_GetNum.j1])
     | succ dJ =>
      have H := HA.out; clear HA; simp only [impl_GetNum.j1] at H; by_cases c6 : aZ = true
      ·subst c6; replace H := iT H; obtain ⟨ji7, hji7⟩ : ∃ j_ : Int, (wrap64 (a1 + aF)) = j_ := ⟨_, rfl⟩; replace H : (if 0 ≤ (ji7) then (if (ji7) < (l0.length : Int) then (if 0 ≤ (wrap64 (7 * aF)) then (if (wrap64 (rd l0 (ji7))) > 127 then (impl_GetNum.l0 dJ l0 a1 (Go.bits .or .i64 aQ (shl .i64 (Go.bits .and .i64 (wrap64 (rd l0 (ji7))) 127) (wrap64 (7 * aF)))) (wrap64 (aF + 1))) else (if aF > 0 then (if (wrap64 (rd l0 (ji7))) = 0 then (some (0, 0, false)) else (some (Go.bits .or .i64 aQ (shl .i64 (Go.bits .and .i64 (wrap64 (rd l0 (ji7))) 127) (wrap64 (7 * aF))), wrap64 ((ji7) + 1), true))) else (some (Go.bits .or .i64 aQ (shl .i64 (Go.bits .and .i64 (wrap64 (rd l0 (ji7))) 127) (wrap64 (7 * aF))), wrap64 ((ji7) + 1), true)))) else (none)) else (none)) else (none)) = some (r1, r2, r3) := by first | (rw [hji7] at H; exact H) | (simp only [hji7] at H ⊢; exact H)
       have hji7w : (IntKind.i64.wrap (a1 + aF)) = ji7 := (i64_w _).trans hji7; by_cases c8 : 0 ≤ (ji7)
       ·rw [if_pos c8] at H; have eP : decide (0 ≤ (ji7)) = true := decide_eq_true c8; clear c8; by_cases c9 : (ji7) < (l0.length : Int)
        ·rw [if_pos c9] at H; have eQ : decide ((ji7) < (l0.length : Int)) = true := decide_eq_true c9; clear c9; obtain ⟨ji10, hji10⟩ : ∃ j_ : Int, (wrap64 (7 * aF)) = j_ := ⟨_, rfl⟩; replace H : (if 0 ≤ (ji10) then (if (wrap64 (rd l0 (ji7))) > 127 then (impl_GetNum.l0 dJ l0 a1 (Go.bits .or .i64 aQ (shl .i64 (Go.bits .and .i64 (wrap64 (rd l0 (ji7))) 127) (ji10))) (wrap64 (aF + 1))) else (if aF > 0 then (if (wrap64 (rd l0 (ji7))) = 0 then (some (0, 0, false)) else (some (Go.bits .or .i64 aQ (shl .i64 (Go.bits .and .i64 (wrap64 (rd l0 (ji7))) 127) (ji10)), wrap64 ((ji7) + 1), true))) else (some (Go.bits .or .i64 aQ (shl .i64 (Go.bits .and .i64 (wrap64 (rd l0 (ji7))) 127) (ji10)), wrap64 ((ji7) + 1), true)))) else (none)) = some (r1, r2, r3) := by first | (rw [hji10] at H; exact H) | (simp only [hji10] at H ⊢; exact H)
         have hji10w : (IntKind.i64.wrap (7 * aF)) = ji10 := (i64_w _).trans hji10; by_cases dC : 0 ≤ (ji10)
         ·rw [if_pos dC] at H; have eG := eq_true dC; have eH : decide (0 ≤ (ji10)) = true := decide_eq_true dC; clear dC; obtain ⟨ji12, hji12⟩ : ∃ j_ : Int, (shl .i64 (Go.bits .and .i64 (wrap64 (rd l0 (ji7))) 127) (ji10)) = j_ := ⟨_, rfl⟩; replace H : (if (wrap64 (rd l0 (ji7))) > 127 then (impl_GetNum.l0 dJ l0 a1 (Go.bits .or .i64 aQ (ji12)) (wrap64 (aF + 1))) else (if aF > 0 then (if (wrap64 (rd l0 (ji7))) = 0 then (some (0, 0, false)) else (some (Go.bits .or .i64 aQ (ji12), wrap64 ((ji7) + 1), true))) else (some (Go.bits .or .i64 aQ (ji12), wrap64 ((ji7) + 1), true)))) = some (r1, r2, r3) := by first | (rw [hji12] at H; exact H) | (simp only [hji12] at H ⊢; exact H)
          have hji12_ : (IntKind.i64.wrap ((Go.bits .and .i64 (wrap64 (rd l0 (ji7))) 127) * 2 ^ min (ji10).toNat 64)) = ji12 := hji12; have hji12z : (ji10) ≤ 64 → (IntKind.i64.wrap ((Go.bits .and .i64 (wrap64 (rd l0 (ji7))) 127) * 2 ^ (ji10).toNat)) = ji12 := shl_small hji12; have hji12y : (wrap64 ((Go.bits .and .i64 (wrap64 (rd l0 (ji7))) 127) * 2 ^ min (ji10).toNat 64)) = ji12 := (i64_w _).symm.trans hji12_; have hji12x : (ji10) ≤ 64 → (wrap64 ((Go.bits .and .i64 (wrap64 (rd l0 (ji7))) 127) * 2 ^ (ji10).toNat)) = ji12 := fun h_ => (i64_w _).symm.trans (hji12z h_)
          by_cases bG : (wrap64 (rd l0 (ji7))) > 127
          ·rw [if_pos bG] at H; have cN : decide (127 < (wrap64 (rd l0 (ji7)))) = true := decide_eq_true bG; clear bG; have H' := aM H; clear H; have p659 : 0 ≤ ((ji7) : Int) := oda; have q659 : (ji7) < (l0.length : Int) := oda; obtain ⟨bJ, aY, aT⟩ := Kd.at_int cS.out (ji7) p659 q659; cases aY
           replace p659 := eq_true p659; replace q659 := eq_true q659; go_wp2; go_roundg dJ
           case measure => have := HK1.out; have := HJ3.out; omega
           case rel => exact ⟨(Go.bits .or .i64 aQ (ji12)), (wrap64 (aF + 1)), (by first | rfl | (simp; done) | (simp only [← hji12] <;> (first | rfl | simp)) | (simp [*]; done)), u12_0, H', ⟨by have := HK1.out; have := HJ3.out; omega⟩, u12_1⟩
          ·rw [if_neg bG] at H; have cN : decide (127 < (wrap64 (rd l0 (ji7)))) = false := decide_eq_false bG; clear bG; by_cases bB : aF > 0
           ·rw [if_pos bB] at H; have cO : decide (0 < aF) = true := decide_eq_true bB; clear bB; by_cases dD : (wrap64 (rd l0 (ji7))) = 0
            ·rw [if_pos dD] at H; obtain ⟨dE, dF⟩ := bT dD; clear dD; simp only [Option.some.injEq, Prod.mk.injEq] at H; obtain ⟨rfl, rfl, rfl⟩ := H; have p659 : 0 ≤ ((ji7) : Int) := oda; have q659 : (ji7) < (l0.length : Int) := oda; obtain ⟨bJ, aY, aT⟩ := Kd.at_int cS.out (ji7) p659 q659; cases aY
             replace p659 := eq_true p659; replace q659 := eq_true q659; go_wp2; go_ret3
             exact ⟨u12_2, u12_1⟩
            ·rw [if_neg dD] at H; obtain ⟨dE, dF⟩ := bF dD; simp only [Option.some.injEq, Prod.mk.injEq] at H; obtain ⟨rfl, rfl, rfl⟩ := H; have p659 : 0 ≤ ((ji7) : Int) := oda; have q659 : (ji7) < (l0.length : Int) := oda; obtain ⟨bJ, aY, aT⟩ := Kd.at_int cS.out (ji7) p659 q659; cases aY
             replace p659 := eq_true p659; replace q659 := eq_true q659; go_wp2; go_ret3
             exact ⟨u12_2, u12_1⟩
           ·rw [if_neg bB] at H; have cO : decide (0 < aF) = false := decide_eq_false bB; clear bB; simp only [Option.some.injEq, Prod.mk.injEq] at H; obtain ⟨rfl, rfl, rfl⟩ := H; have p659 : 0 ≤ ((ji7) : Int) := oda; have q659 : (ji7) < (l0.length : Int) := oda; obtain ⟨bJ, aY, aT⟩ := Kd.at_int cS.out (ji7) p659 q659; cases aY
            replace p659 := eq_true p659; replace q659 := eq_true q659; go_wp2; go_ret3
            exact ⟨u12_2, u12_1⟩
         ·rw [if_neg dC] at H; exact absurd H (by simp)
        ·rw [if_neg c9] at H; exact absurd H (by simp)
       ·rw [if_neg c8] at H; exact absurd H (by simp)
      ·replace c6 := Bool.eq_false_iff.mpr c6; subst c6; replace H := iN H; simp only [Option.some.injEq, Prod.mk.injEq] at H; obtain ⟨rfl, rfl, rfl⟩ := H; go_wp2; go_ret3
       exact ⟨u12_0, u12_1⟩

/-! ### impl_Sum: function 175 -/
def impl_Sum.l0 : Nat → Int → Int → List Int → Int → Int → Option (Int)
 | 0, _, _, _, _, _ => none
 | k + 1, x3, x4, x7, x8, x9 => if x9 < x8 then (if 0 ≤ x9 then (if x9 < (x7.length : Int) then (impl_Sum.l0 k (Int.tmod (wrap64 (x3 + (wrap64 (rd x7 x9)))) 65521) (Int.tmod (wrap64 (x4 + (Int.tmod (wrap64 (x3 + (wrap64 (rd x7 x9)))) 65521))) 65521) x7 x8 (wrap64 (x9 + 1))) else (none)) else (none)) else (some (wrap64 ((wrap64 (65536 * x4)) + x3)))
def impl_Sum.f (k : Nat) (l0 : List Int) : Option (Int) := impl_Sum.l0 k 1 0 l0 (l0.length : Int) 0
theorem u12_mq2 {p : Prop} (h : p := by repeat' first | (with_reducible first | exact dB _ _ _ _ _ | exact LeO.refl _ | exact LeO.none _ | refine LeO.ite ?_ ?_ | refine LeO.bind ?_ (fun _ => ?_)) | exact LeO.none _ | refine LeO.ite ?_ ?_ | refine LeO.bind ?_ (fun _ => ?_)) : p := h
set_option maxRecDepth 100000 in
theorem impl_Sum.mono_l : ∀ k, (∀ y0 y1 y2 y3 y4, LeO (impl_Sum.l0 k y0 y1 y2 y3 y4) (impl_Sum.l0 (k + 1) y0 y1 y2 y3 y4))
 | 0 => fun _ _ _ _ _ r h => by simp [impl_Sum.l0] at h
 | k + 1 => by
  have dB := impl_Sum.mono_l k
  ·intro y0 y1 y2 y3 y4; unfold impl_Sum.l0; exact u12_mq2
theorem impl_Sum.mono : ∀ a0 k, LeO (impl_Sum.f k a0) (impl_Sum.f (k + 1) a0) := by
 intro a0 k
 have dB := impl_Sum.mono_l k
 unfold impl_Sum.f
 exact u12_mq2
set_option maxHeartbeats 8000000 in
set_option maxRecDepth 100000 in
theorem impl_Sum.calls (k : Nat) (A0 : Option Addr) (c0 : Nat) (l0 : List Int) (r : Int) (w : World) (cP : Kd.C (Kd.int .u8) w A0 l0.length l0) (cQ : l0.length ≤ c0) (h : impl_Sum.f k l0 = some r) :
 Calls Try.prog 175 #[.slice A0 l0.length c0] w fun e w' => e = .returned (.int .i64 r) ∧ Drawn0 w w' := by
 have cS := aM cP
 have dV := aM cQ
 clear cP cQ
 have H : (impl_Sum.l0 k 1 0 l0 (l0.length : Int) 0) = some r := h
 clear h
 have H' := aM H
 clear H
 go_enter Try.func175, Try.ntmps175
 go_wp2
 go_loopg [3, 4, 9] k (fun kq v3 v4 v9 w' => ∃ (bK : Int) (cM : Int) (aI : Int), v3 = .int .i64 bK ∧ v4 = .int .i64 cM ∧ v9 = .int .i64 aI ∧ Aside0 (impl_Sum.l0 kq bK cM l0 (l0.length : Int) aI = some r) ∧ Aside0 (kq ≤ k) ∧ Drawn0 w w')
 case atStart => exact ⟨(1), (0), (0), u12_0, u12_0, u12_0, H', ⟨Nat.le_refl _⟩, u12_1⟩
 case round =>
  clear H'; try clear c1
  obtain ⟨bK, cM, aI, rfl, rfl, rfl, HA, HK1, ⟨m1, rfl⟩⟩ := hrel; cases gk with
  | zero => exact absurd HA.out (by simp [impl_Sum.l0])
  | succ k1 =>
   have H := HA.out; clear HA; simp only [impl_Sum.l0] at H; by_cases c2 : aI < (l0.length : Int)
   ·rw [if_pos c2] at H; have dX : decide (aI < (l0.length : Int)) = true := decide_eq_true c2; clear c2; by_cases c3 : 0 ≤ aI
    ·rw [if_pos c3] at H; have cL : decide (0 ≤ aI) = true := decide_eq_true c3; clear c3; by_cases c4 : aI < (l0.length : Int)
     ·rw [if_pos c4] at H; have eR : decide (aI < (l0.length : Int)) = true := decide_eq_true c4; clear c4; have H' := aM H; clear H; have p660 : 0 ≤ (aI : Int) := oda; have q660 : aI < (l0.length : Int) := oda; obtain ⟨eI, dY, dK⟩ := Kd.at_int cS.out aI p660 q660; cases dY
      replace p660 := eq_true p660; replace q660 := eq_true q660; go_wp2; go_roundg k1
      case measure => have := HK1.out; omega
      case rel => exact ⟨(Int.tmod (wrap64 (bK + (wrap64 (rd l0 aI)))) 65521), (Int.tmod (wrap64 (cM + (Int.tmod (wrap64 (bK + (wrap64 (rd l0 aI)))) 65521))) 65521), (wrap64 (aI + 1)), u12_0, u12_0, u12_0, H', ⟨by have := HK1.out; omega⟩, u12_1⟩
     ·rw [if_neg c4] at H; exact absurd H (by simp)
    ·rw [if_neg c3] at H; exact absurd H (by simp)
   ·rw [if_neg c2] at H; have dX : decide (aI < (l0.length : Int)) = false := decide_eq_false c2; clear c2; obtain rfl := Option.some.inj H; go_wp2; go_ret
    exact ⟨u12_0, u12_1⟩

/-! ### impl_sumBytes: function 139 -/
def impl_sumBytes.f (k : Nat) (l0 : List Int) : Option (List Int) := (impl_Sum.f k l0).bind fun aD => (some (([(Go.bits .and .i64 aD 255) % 256, (Go.bits .and .i64 (aD / 256) 255) % 256, (Go.bits .and .i64 (aD / 65536) 255) % 256, (Go.bits .and .i64 (aD / 16777216) 255) % 256] : List Int)))
theorem u12_mq3 {p : Prop} (h : p := by repeat' first | (with_reducible first | exact impl_Sum.mono _ _ | exact LeO.refl _ | exact LeO.none _ | refine LeO.ite ?_ ?_ | refine LeO.bind ?_ (fun _ => ?_)) | exact LeO.none _ | refine LeO.ite ?_ ?_ | refine LeO.bind ?_ (fun _ => ?_)) : p := h
theorem impl_sumBytes.mono : ∀ a0 k, LeO (impl_sumBytes.f k a0) (impl_sumBytes.f (k + 1) a0) := by
 intro a0 k
 unfold impl_sumBytes.f
 exact u12_mq3
set_option maxHeartbeats 8000000 in
set_option maxRecDepth 100000 in
theorem impl_sumBytes.calls (k : Nat) (A0 : Option Addr) (c0 : Nat) (l0 : List Int) (r : List Int) (w : World) (cP : Kd.C (Kd.int .u8) w A0 l0.length l0) (cQ : l0.length ≤ c0) (h : impl_sumBytes.f k l0 = some r) :
 Calls Try.prog 139 #[.slice A0 l0.length c0] w fun e w' => ∃ v0_ : Value, e = .returned (v0_) ∧ Kd.R (Kd.int .u8) 5 w' w.heap.size (fun _ => True) v0_ r ∧ Below w.heap.size w w' := by
 have cS := aM cP
 have dV := aM cQ
 clear cP cQ
 have HB := aM (Below.refl w.heap.size w)
 have H : ((impl_Sum.f k l0).bind fun aD => (some (([(Go.bits .and .i64 aD 255) % 256, (Go.bits .and .i64 (aD / 256) 255) % 256, (Go.bits .and .i64 (aD / 65536) 255) % 256, (Go.bits .and .i64 (aD / 16777216) 255) % 256] : List Int)))) = some r := h
 clear h
 replace H := oB H
 obtain ⟨aD, eJ, H⟩ := H
 (try dsimp only at H)
 have A2 := aM eJ
 clear eJ
 obtain ⟨dZ, hY⟩ : ∃ y_ : List Int, y_ = (([(Go.bits .and .i64 aD 255) % 256, (Go.bits .and .i64 (aD / 256) 255) % 256, (Go.bits .and .i64 (aD / 65536) 255) % 256, (Go.bits .and .i64 (aD / 16777216) 255) % 256] : List Int)) := ⟨_, rfl⟩
 replace H : (some dZ) = some r := by first | (rw [hY]; with_reducible exact H) | (have H2_ := oS H; rw [hY]; with_reducible exact H2_) | (have H2_ := oS H; with_reducible exact H2_) | with_reducible exact H | (rw [hY]; exact H) | exact H
 have cT := aM hY
 clear hY
 obtain rfl := Option.some.inj H
 go_enter Try.func139, Try.ntmps139
 go_wp2_with (first | ((with_reducible refine gC 175 rfl ?_); refine goesLY (some 5) rfl Try.func175 #[.slice A0 l0.length c0] ?_; (with_reducible refine (impl_Sum.calls k _ _ l0 aD _ ?side1 ?side2 A2.out).mono ?_); (case side1 => repeat (first | exact cS.out | (with_reducible refine Kd.C_alloc ?_ _) | (with_reducible refine Kd.C_drewN ?_ _) | (with_reducible refine Kd.C_drew ?_))); (case side2 => exact dV.out); rintro e w' ⟨rfl, ⟨nd, rfl⟩⟩; refine ⟨_, rfl, ?_⟩) | ((with_reducible refine gD 21 rfl ?_); refine Kd.R_lit (Kd.int .u8) _ 5 ?hg (N := 21) ?hd (xs := ([(Go.bits .and .i64 aD 255) % 256, (Go.bits .and .i64 (aD / 256) 255) % 256, (Go.bits .and .i64 (aD / 65536) 255) % 256, (Go.bits .and .i64 (aD / 16777216) 255) % 256] : List Int)) (inner := [.int .u8 ((Go.bits .and .i64 aD 255) % 256), .int .u8 ((Go.bits .and .i64 (aD / 256) 255) % 256), .int .u8 ((Go.bits .and .i64 (aD / 65536) 255) % 256), .int .u8 ((Go.bits .and .i64 (aD / 16777216) 255) % 256)]) (ok := fun _ => True) (okp := fun _ => True) ?hr ?hp (fun _ hk => hk) trivial (Below.refl _ _) (Nat.le_refl _) (by simp) ?_; (case hd => rfl); (case hg => rfl); (case hr => first | (go_simp; done) | (go_simp; rfl)); (case hp => exact (Reps.one (show Kd.M (Kd.int .u8) _ _ _ ((Go.bits .and .i64 aD 255) % 256) [.int .u8 ((Go.bits .and .i64 aD 255) % 256)] from rfl) (Reps.one (show Kd.M (Kd.int .u8) _ _ _ ((Go.bits .and .i64 (aD / 256) 255) % 256) [.int .u8 ((Go.bits .and .i64 (aD / 256) 255) % 256)] from rfl) (Reps.one (show Kd.M (Kd.int .u8) _ _ _ ((Go.bits .and .i64 (aD / 65536) 255) % 256) [.int .u8 ((Go.bits .and .i64 (aD / 65536) 255) % 256)] from rfl) (Reps.one (show Kd.M (Kd.int .u8) _ _ _ ((Go.bits .and .i64 (aD / 16777216) 255) % 256) [.int .u8 ((Go.bits .and .i64 (aD / 16777216) 255) % 256)] from rfl) (Reps.none _ _)))))); intro eS w3 dG hb hg_ hnew_; clear hg_ hnew_; (first | rw [← cT.out] at dG | (simp only [Int.reduceToNat] at dG; rw [← cT.out] at dG)); have dH := aM (Kd.R_lower dG (below_size xbel)); replace HB := xbs hb; clear hb dG))
 go_ret
 exact ⟨_, xerr, by (with_reducible repeat (first | apply Kd.R_alloc | apply Kd.R_drewN | apply Kd.R_drew)); exact dH.out, xbel⟩

theorem u13_0 {p : Prop} (h : p := by first | (rw [hY]; with_reducible exact H) | (have H2_ := oS H; rw [hY]; with_reducible exact H2_) | (have H2_ := oS H; with_reducible exact H2_) | with_reducible exact H | (rw [hY]; exact H) | exact H) : p := h
theorem u13_1 {p : Prop} (h : p := by simp only [putAll, Act.put, List.setIfInBounds_toArray, List.set_cons_zero, List.set_cons_succ]) : p := h
theorem u13_2 {p : Prop} (h : p := by (with_reducible repeat (first | apply Kd.R_alloc | apply Kd.R_drewN | apply Kd.R_drew)); exact Kd.R_mono aC.out (fun _ hk => hk.2)) : p := h
theorem u13_3 {p : Prop} (h : p := by (with_reducible repeat (first | apply Kd.R_alloc | apply Kd.R_drewN | apply Kd.R_drew)); exact Kd.R_mono aT.out (fun _ hk => hk.2)) : p := h
theorem u13_4 {p : Prop} (h : p := by first | (go_simp; done) | (go_simp; rfl)) : p := h
theorem u13_5 {p : Prop} (h : p := by first | rfl | (simp; done) | (simp [*]; done)) : p := h
theorem u13_6 {p : Prop} (h : p := by first | exact Kd.R_nil _ _ _ _ _ | exact Kd.N_nil _ _ _ _ _ | exact Kd.V_nil _ _ _ _ _ | exact Kd.Q_nil _ _ _ _ _ | exact Kd.S_nil _ _ _ _ _) : p := h
theorem u13_7 {p : Prop} (h : p := by first | (rw [← show ((l0.take ((ji12) : Int).toNat).drop (aA : Int).toNat).length = ((ji12).toNat - aA.toNat) from (by rw [List.length_drop, List.length_take]; have h_ : ((ji12) : Int) ≤ (l0.length : Int) := oda; omega)]; exact xcb cH) | (exact xcb cH)) : p := h
theorem u13_8 {p : Prop} (h : p := by have := LMc11.out; have hlx_ := (show ((l0.take ((ji12) : Int).toNat).drop (aA : Int).toNat).length = ((ji12).toNat - aA.toNat) from (by rw [List.length_drop, List.length_take]; have h_ : ((ji12) : Int) ≤ (l0.length : Int) := oda; omega)); omega) : p := h
theorem u13_9 {p : Prop} (h : p := by first | rfl | (simp [errW_none, errW_some] <;> rfl) | (simp only [← hji12]; first | rfl | (simp [errW_none, errW_some] <;> rfl)) | (simp [*, errW_none, errW_some] <;> rfl)) : p := h
theorem u13_10 {p : Prop} (h : p := by (with_reducible repeat (first | apply Kd.R_alloc | apply Kd.R_drewN | apply Kd.R_drew)); exact aX.out) : p := h
theorem u13_11 {p : Prop} (h : p := by (with_reducible repeat (first | apply Kd.V_alloc | apply Kd.V_drewN | apply Kd.V_drew)); exact bC.out) : p := h
theorem u13_12 {p : Prop} (h : p := by (with_reducible repeat (first | apply Kd.R_alloc | apply Kd.R_drewN | apply Kd.R_drew)); exact bE.out) : p := h
/-! ### impl_Unseal: function 75 -/
def impl_Unseal.j0 : Nat → List Int → Int → Int → Bool → Option (List Int × Int × Int)
 | 0, _, _, _, _ => none
 | k + 1, x0, x7, x8, gG => if gG = true then (some (([] : List Int), 0, 1)) else (if (wrap64 (x7 + 4)) > (wrap64 ((x0.length : Int) - x8)) then (some (([] : List Int), 0, 2)) else ((some (([] : List Int) : List Int)).bind fun bO => (if 0 ≤ x8 then (if x8 ≤ (wrap64 (x8 + x7)) then (if (wrap64 (x8 + x7)) ≤ (x0.length : Int) then (if bO.length + ((x0.take ((wrap64 (x8 + x7)) : Int).toNat).drop (x8 : Int).toNat).length < 140737488355328 then ((some (bO ++ ((x0.take ((wrap64 (x8 + x7)) : Int).toNat).drop (x8 : Int).toNat) : List Int)).bind fun aH => (if 0 ≤ (wrap64 (x8 + x7)) then (if (wrap64 (x8 + x7)) ≤ (wrap64 ((wrap64 (x8 + x7)) + 4)) then (if (wrap64 ((wrap64 (x8 + x7)) + 4)) ≤ (x0.length : Int) then ((impl_sumBytes.f k aH).bind fun aQ => (if (strOfNums ((x0.take ((wrap64 ((wrap64 (x8 + x7)) + 4)) : Int).toNat).drop ((wrap64 (x8 + x7)) : Int).toNat)).toList = (strOfNums aQ).toList then (some (aH, wrap64 ((wrap64 (x8 + x7)) + 4), 0)) else (some (([] : List Int), 0, 3)))) else (none)) else (none)) else (none))) else (none)) else (none)) else (none)) else (none))))
def impl_Unseal.f (k : Nat) (l0 : List Int) (a1 : Int) : Option (List Int × Int × Int) := (impl_GetNum.f k l0 a1).bind fun aN => (if aN.2.2 = true then (impl_Unseal.j0 k l0 aN.1 aN.2.1 (decide (aN.1 > 3000))) else (impl_Unseal.j0 k l0 aN.1 aN.2.1 true))
theorem u13_mq0 {p : Prop} (h : p := by repeat' first | (with_reducible first | exact dI _ _ _ _ | exact impl_GetNum.mono _ _ _ | exact impl_sumBytes.mono _ _ | exact LeO.refl _ | exact LeO.none _ | refine LeO.ite ?_ ?_ | refine LeO.bind ?_ (fun _ => ?_)) | exact LeO.none _ | refine LeO.ite ?_ ?_ | refine LeO.bind ?_ (fun _ => ?_)) : p := h
set_option maxRecDepth 100000 in
theorem impl_Unseal.mono_l : ∀ k, (∀ y0 y1 y2 y3, LeO (impl_Unseal.j0 k y0 y1 y2 y3) (impl_Unseal.j0 (k + 1) y0 y1 y2 y3))
 | 0 => fun _ _ _ _ r h => by simp [impl_Unseal.j0] at h
 | k + 1 => by
  have dI := impl_Unseal.mono_l k
  ·intro y0 y1 y2 y3; unfold impl_Unseal.j0; exact u13_mq0
theorem impl_Unseal.mono : ∀ a0 a1 k, LeO (impl_Unseal.f k a0 a1) (impl_Unseal.f (k + 1) a0 a1) := by
 intro a0 a1 k
 have dI := impl_Unseal.mono_l k
 unfold impl_Unseal.f
 exact u13_mq0
def impl_Unseal.T8 : Bool × List (List Nat × List Nat) := (true, [([], []), ([], []), ([], []), ([1, 2], [1, 2]), ([], []), ([0, 3, 4], [0, 3, 4]), ([5], [5]), ([], []), ([7], [7]), ([8], [8]), ([6, 9], [6, 9])])
def impl_Unseal.B8 : List Nat := [0, 0, 0, 6, 0, 31, 63, 0, 128, 384, 1023]
set_option maxHeartbeats 8000000 in
set_option maxRecDepth 100000 in
theorem impl_Unseal.calls (k : Nat) (A0 : Option Addr) (c0 : Nat) (l0 : List Int) (a1 : Int) (r1 : List Int) (r2 : Int) (r3 : Int) (w : World) (fT : Kd.C (Kd.int .u8) w A0 l0.length l0) (fU : l0.length ≤ c0) (h : impl_Unseal.f k l0 a1 = some (r1, r2, r3)) :
 Calls Try.prog 75 #[.slice A0 l0.length c0, .int .i64 a1] w fun e w' => ∃ v0_ : Value, e = .returned (.tuple #[v0_, .int .i64 r2, .int .i64 r3]) ∧ Kd.R (Kd.int .u8) 5 w' w.heap.size (fun _ => True) v0_ r1 ∧ Below w.heap.size w w' := by
 have dJ := aM fT
 have dK := aM fU
 clear fT fU
 have HB := aM (Below.refl w.heap.size w)
 have H : ((impl_GetNum.f k l0 a1).bind fun aN => (if aN.2.2 = true then (impl_Unseal.j0 k l0 aN.1 aN.2.1 (decide (aN.1 > 3000))) else (impl_Unseal.j0 k l0 aN.1 aN.2.1 true))) = some (r1, r2, r3) := h
 clear h
 replace H := oB H
 obtain ⟨⟨aE, aA, dL⟩, dM, H⟩ := H
 (try dsimp only at H)
 have A3 := aM dM
 clear dM
 have eS := aM H
 clear H
 go_enter Try.func75, Try.ntmps75
 go_upto_region 2 with (first | ((with_reducible refine gC 138 rfl ?_); refine goesLY (some 15) rfl Try.func138 #[.slice A0 l0.length c0, .int .i64 a1] ?_; (with_reducible refine (impl_GetNum.calls k _ _ l0 a1 aE aA dL _ ?side1 ?side2 A3.out).mono ?_); (case side1 => repeat (first | exact dJ.out | (with_reducible refine Kd.C_alloc ?_ _) | (with_reducible refine Kd.C_drewN ?_ _) | (with_reducible refine Kd.C_drew ?_))); (case side2 => exact dK.out); rintro e w' ⟨rfl, ⟨nd, rfl⟩⟩; refine ⟨_, rfl, ?_⟩))
 (try simp only [Act.put, List.setIfInBounds_toArray, List.set_cons_zero, List.set_cons_succ])
 go_cut [19] (fun gH wc => ∃ (kq : Nat) (bY : Bool), gH = .bool bY ∧ Aside0 (impl_Unseal.j0 kq l0 aE aA bY = some (r1, r2, r3)) ∧ Aside0 (kq ≤ k) ∧ Aside0 (Below w.heap.size w wc))
 case first =>
  have H := eS.out; clear eS; by_cases c5 : dL = true
  ·subst c5; replace H := iT H; have H' := aM H; clear H; go_wp2; go_meet
   case rel => exact ⟨_, (decide (aE > 3000)), u13_5, H', ⟨by first | omega | exact Nat.le_refl _⟩, ⟨xbel⟩⟩
  ·replace c5 := Bool.eq_false_iff.mpr c5; subst c5; replace H := iN H; have H' := aM H; clear H; go_wp2; go_meet
   case rel => exact ⟨_, (true), u13_5, H', ⟨by first | omega | exact Nat.le_refl _⟩, ⟨xbel⟩⟩
 case rest =>
  clear eS; try clear c1
  try clear p2
  try clear c5
  obtain ⟨kq, bY, rfl, HA, HJ3, HB⟩ := hcut; cases kq with
  | zero => exact absurd HA.out (by simp [impl_Unseal.j0])
  | succ dA =>
   have H := HA.out; clear HA; simp only [impl_Unseal.j0] at H; by_cases c6 : bY = true
   ·subst c6; replace H := iT H; simp only [Option.some.injEq, Prod.mk.injEq] at H; obtain ⟨rfl, rfl, rfl⟩ := H; go_wp2; go_ret3
    exact ⟨_, by first | rfl | (simp [errW_none, errW_some] <;> rfl) | (simp [*, errW_none, errW_some] <;> rfl), u13_6, xbel⟩
   ·replace c6 := Bool.eq_false_iff.mpr c6; subst c6; replace H := iN H; by_cases c7 : (wrap64 (aE + 4)) > (wrap64 ((l0.length : Int) - aA))
    ·rw [if_pos c7] at H; have eT : decide ((wrap64 ((l0.length : Int) - aA)) < (wrap64 (aE + 4))) = true := decide_eq_true c7; clear c7; simp only [Option.some.injEq, Prod.mk.injEq] at H; obtain ⟨rfl, rfl, rfl⟩ := H; go_wp2; go_ret3
     exact ⟨_, by first | rfl | (simp [errW_none, errW_some] <;> rfl) | (simp [*, errW_none, errW_some] <;> rfl), u13_6, xbel⟩
    ·rw [if_neg c7] at H; have eT : decide ((wrap64 ((l0.length : Int) - aA)) < (wrap64 (aE + 4))) = false := decide_eq_false c7; clear c7; obtain ⟨bO, hY⟩ : ∃ y_ : List Int, y_ = (([] : List Int)) := ⟨_, rfl⟩; replace H : (if 0 ≤ aA then (if aA ≤ (wrap64 (aA + aE)) then (if (wrap64 (aA + aE)) ≤ (l0.length : Int) then (if bO.length + ((l0.take ((wrap64 (aA + aE)) : Int).toNat).drop (aA : Int).toNat).length < 140737488355328 then ((some (bO ++ ((l0.take ((wrap64 (aA + aE)) : Int).toNat).drop (aA : Int).toNat) : List Int)).bind fun aH => (if 0 ≤ (wrap64 (aA + aE)) then (if (wrap64 (aA + aE)) ≤ (wrap64 ((wrap64 (aA + aE)) + 4)) then (if (wrap64 ((wrap64 (aA + aE)) + 4)) ≤ (l0.length : Int) then ((impl_sumBytes.f dA aH).bind fun aQ => (if (strOfNums ((l0.take ((wrap64 ((wrap64 (aA + aE)) + 4)) : Int).toNat).drop ((wrap64 (aA + aE)) : Int).toNat)).toList = (strOfNums aQ).toList then (some (aH, wrap64 ((wrap64 (aA + aE)) + 4), 0)) else (some (([] : List Int), 0, 3)))) else (none)) else (none)) else (none))) else (none)) else (none)) else (none)) else (none)) = some (r1, r2, r3) := u13_0; have bZ := aM hY; clear hY; by_cases c8 : 0 ≤ aA
     ·rw [if_pos c8] at H; have gI := eq_true c8; have gJ : decide (0 ≤ aA) = true := decide_eq_true c8; clear c8; by_cases c9 : aA ≤ (wrap64 (aA + aE))
      ·rw [if_pos c9] at H; have eU := eq_true c9; have eV : decide (aA ≤ (wrap64 (aA + aE))) = true := decide_eq_true c9; by_cases c10 : (wrap64 (aA + aE)) ≤ (l0.length : Int)
       ·rw [if_pos c10] at H; have dN := eq_true c10; have dO : decide ((wrap64 (aA + aE)) ≤ (l0.length : Int)) = true := decide_eq_true c10; by_cases eK : bO.length + ((l0.take ((wrap64 (aA + aE)) : Int).toNat).drop (aA : Int).toNat).length < 140737488355328
        ·rw [if_pos eK] at H; have LMc11 := aM eK; clear eK; obtain ⟨aH, hY⟩ : ∃ y_ : List Int, y_ = (bO ++ ((l0.take ((wrap64 (aA + aE)) : Int).toNat).drop (aA : Int).toNat)) := ⟨_, rfl⟩; replace H : (if 0 ≤ (wrap64 (aA + aE)) then (if (wrap64 (aA + aE)) ≤ (wrap64 ((wrap64 (aA + aE)) + 4)) then (if (wrap64 ((wrap64 (aA + aE)) + 4)) ≤ (l0.length : Int) then ((impl_sumBytes.f dA aH).bind fun aQ => (if (strOfNums ((l0.take ((wrap64 ((wrap64 (aA + aE)) + 4)) : Int).toNat).drop ((wrap64 (aA + aE)) : Int).toNat)).toList = (strOfNums aQ).toList then (some (aH, wrap64 ((wrap64 (aA + aE)) + 4), 0)) else (some (([] : List Int), 0, 3)))) else (none)) else (none)) else (none)) = some (r1, r2, r3) := u13_0; have cI := aM hY; clear hY; obtain ⟨ji12, hji12⟩ : ∃ j_ : Int, (wrap64 (aA + aE)) = j_ := ⟨_, rfl⟩; replace H : (if 0 ≤ (ji12) then (if (ji12) ≤ (wrap64 ((ji12) + 4)) then (if (wrap64 ((ji12) + 4)) ≤ (l0.length : Int) then ((impl_sumBytes.f dA aH).bind fun aQ => (if (strOfNums ((l0.take ((wrap64 ((ji12) + 4)) : Int).toNat).drop ((ji12) : Int).toNat)).toList = (strOfNums aQ).toList then (some (aH, wrap64 ((ji12) + 4), 0)) else (some (([] : List Int), 0, 3)))) else (none)) else (none)) else (none)) = some (r1, r2, r3) := by first | (rw [hji12] at H; exact H) | (simp only [hji12] at H ⊢; exact H)
         (try rw [hji12] at eU); (try rw [hji12] at eV); (try rw [hji12] at c9); (try rw [hji12] at dN); (try rw [hji12] at dO); (try rw [hji12] at c10); (try rw [hji12] at LMc11); (try rw [hji12] at cI); have hji12w : (IntKind.i64.wrap (aA + aE)) = ji12 := (i64_w _).trans hji12; by_cases cG : 0 ≤ (ji12)
         ·rw [if_pos cG] at H; have cS := eq_true cG; have cT : decide (0 ≤ (ji12)) = true := decide_eq_true cG; clear cG; by_cases eL : (ji12) ≤ (wrap64 ((ji12) + 4))
          ·rw [if_pos eL] at H; have fV := eq_true eL; have fW : decide ((ji12) ≤ (wrap64 ((ji12) + 4))) = true := decide_eq_true eL; by_cases cP : (wrap64 ((ji12) + 4)) ≤ (l0.length : Int)
           ·rw [if_pos cP] at H; have cU := eq_true cP; have cV : decide ((wrap64 ((ji12) + 4)) ≤ (l0.length : Int)) = true := decide_eq_true cP; replace H := oB H; obtain ⟨aQ, dP, H⟩ := H; (try dsimp only at H); have eM := aM dP; clear dP
            by_cases dQ : (strOfNums ((l0.take ((wrap64 ((ji12) + 4)) : Int).toNat).drop ((ji12) : Int).toNat)).toList = (strOfNums aQ).toList
            ·rw [if_pos dQ] at H; obtain ⟨dR, dS⟩ := bT dQ; clear dQ; simp only [Option.some.injEq, Prod.mk.injEq] at H; obtain ⟨rfl, rfl, rfl⟩ := H; try go_wp2_with (first | ((with_reducible refine gD 34 rfl ?_); refine Kd.R_lit (Kd.int .u8) _ 5 ?hg (N := 34) ?hd (xs := ([] : List Int)) (inner := []) (ok := fun _ => True) (okp := fun _ => True) ?hr ?hp (fun _ hk => hk) trivial (Below.refl _ _) (Nat.le_refl _) (by simp) ?_; (case hd => rfl); (case hg => rfl); (case hr => exact u13_4); (case hp => exact (Reps.none _ _)); intro dB gV cJ hb hg_ hnew_; clear hg_ hnew_; (first | rw [← bZ.out] at cJ | (simp only [Int.reduceToNat] at cJ; rw [← bZ.out] at cJ)); have bP := aM (Kd.R_lower cJ (below_size xbel)); replace HB := xbs hb; clear hb cJ; obtain ⟨i020, hi020, _, hsz20, _⟩ := info_parts info5; obtain ⟨gW, hcut20, hA20, hC20⟩ := print_mid_of (P := Try.prog) (Value.int .u8) 0 22 5 .i64 .i64 Try.underlying22 hi020 hsz20 A0 c0 l0 aA (ji12) (oda) (by first | omega | exact oda) (oda) dK.out; have cH := aM (Kd.C_of_reads (h1 := fun _ => rfl) (hA20 _ (Kd.reads_of_C dJ.out))); have dU := aM hC20; clear hA20 hC20 hi020 hsz20; (try rw [← show ((l0.take ((ji12) : Int).toNat).drop (aA : Int).toNat).length = ((ji12).toNat - aA.toNat) from (by rw [List.length_drop, List.length_take]; have h_ : ((ji12) : Int) ≤ (l0.length : Int) := oda; omega)] at hcut20)) | ((with_reducible refine gate_builtin (b := .append) (xs := #[.tmp 34, .tmp 40]) rfl ?_); at_builtin; refine Kd.R_append_rows (Kd.int .u8) (w0 := w) w.heap.size rfl (.tmp 34) (.tmp 40) 22 5 (.int .u8 0) 1 rfl Try.underlying22 info5 rfl (by decide) (by omega) dB bO ((l0.take ((ji12) : Int).toNat).drop (aA : Int).toNat) _ _ _ (fun _ => True) (fun _ => False) rfl rfl ?aO ?aR (fun _ _ h => h) (fun _ h => h.elim) ?aF ?aB ?aS ?aL ?_; (case aR => exact u13_7); (case aB => exact xbel); (case aF => exact (fun _ _ => trivial)); (case aO => exact (xr bP)); (case aS => exact (below_size xbel)); (case aL => exact u13_8); intro eW fX ho hb hg hat; rw [← cI.out] at ho; replace HB := aM (hb); have aC := aM (ho); clear bP; clear ho hb hg hat; obtain ⟨bV, bW, dC⟩ := Kd.R_slice aC.out; subst dC))
             replace aC := rD aC; replace HB := lD HB; obtain ⟨i024, hi024, _, hsz24, _⟩ := info_parts info5; obtain ⟨eX, hcut24, hA24, hC24⟩ := print_mid_of (P := Try.prog) (Value.int .u8) 0 22 5 .i64 .i64 Try.underlying22 hi024 hsz24 A0 c0 l0 (ji12) (wrap64 ((ji12) + 4)) (oda) (by first | omega | exact oda) (oda) dK.out; have aY := aM (Kd.C_of_reads (h1 := fun _ => rfl) (hA24 _ (Kd.reads_of_C dJ.out))); have dV := aM hC24; clear hA24 hC24 hi024 hsz24; (try rw [← show ((l0.take ((wrap64 ((ji12) + 4)) : Int).toNat).drop ((ji12) : Int).toNat).length = ((wrap64 ((ji12) + 4)).toNat - (ji12).toNat) from (by rw [List.length_drop, List.length_take]; have h_ : ((wrap64 ((ji12) + 4)) : Int) ≤ (l0.length : Int) := oda; omega)] at hcut24); refine st_ 11 (fun w' => True) impl_Unseal.T8 impl_Unseal.B8 trivial (fun hHeld HT_ HW_ => ?_); generalize fX.drew = gX at aC HB aY hHeld ⊢; refine pV 0 46 ?_; refine pV 1 47 ?_; refine pV 2 48 ?_; refine pV 3 49 ?_; refine pV 4 50 ?_; refine pV 5 51 ?_; refine pV 7 53 ?_; refine join_ (σ := Value) 1 #[true, true, true, true, true, true, true, true, true, true, false] (fun s_ => [(52, .string (strOfNums ((l0.take ((wrap64 ((ji12) + 4)) : Int).toNat).drop ((ji12) : Int).toNat))), (54, s_), (55, .string (strOfNums aQ))]) (fun s_ w' => (Kd.R (Kd.int .u8) 5 w' w.heap.size (fun k_ => some k_ ≠ (s_ : Value).ownBlock) (.slice bV aH.length bW) aH) ∧ (Kd.R (Kd.int .u8) 5 w' w.heap.size (fun k_ => some k_ ≠ (.slice bV aH.length bW : Value).ownBlock) s_ aQ) ∧ (Below w.heap.size w w')) ?_ ?_; rotate_left
             ·intro hCont; refine two_ (i := 6) (j := 8) (Ni := some 52) (Nj := some 54) #[true, true, true, true, true, true, true, true, false, false, false] #[true, true, true, true, true, true, false, true, true, false, false] rfl rfl rfl rfl (two_of HT_.out (by kernel_rfl)) (by decide) (by decide) (fun K hK => ?_) (fun K hK => ?_)
              ·skip
               have hcv25 := Kd.C_string (P := Try.prog) (A := eX) (c := (c0 - (ji12).toNat)) Try.underlying22 Try.underlying5 Try.underlying9 (Kd.C_below aY.out HB.out); have hcv25b := hcv25; (try rw [show ((l0.take ((wrap64 ((ji12) + 4)) : Int).toNat).drop ((ji12) : Int).toNat).length = ((wrap64 ((ji12) + 4)).toNat - (ji12).toNat) from (by rw [List.length_drop, List.length_take]; have h_ : ((wrap64 ((ji12) + 4)) : Int) ≤ (l0.length : Int) := oda; omega)] at hcv25b); refine value_ (w1 := ?_) (v := ?_) (by rfl) rfl ?_ ?_; rotate_left 2
               ·go_simp
                constructor
                ·rfl
                ·rfl
               clear hcv25b hcv25; refine hK.out _ _ trivial (fun hHeld => ?_); clear hK K; refine nm_ (N := 52) ?_; refine oN 8 54 fun K hK => ?_
               refine goesY Try.func139 #[.slice bV aH.length bW] ?_; with_reducible refine (impl_sumBytes.calls dA _ _ aH aQ _ ?side1 ?side2 eM.out).mono ?_
               (case side1 => exact xC aC); (case side2 => exact (Kd.R_reads' aC.out).2.1); rintro e gK ⟨aW, rfl, bH, hb⟩; refine ⟨_, rfl, ?_⟩; have aT := aM (Kd.R_lower (Kd.R_new' bH (Kd.R_lt (xr aC))) (below_size xbel)); replace aC := aM (Kd.R_elder' (xr aC) (Kd.R_base bH) hb); replace HB := xbs hb; (try clear hb bH); refine hK.out _ _ trivial (fun hHeld => ?_); clear hK K; refine nm_ (N := 54) ?_; refine oN 9 55 fun K hK => ?_
               have hcv27 := own_string (P := Try.prog) Try.underlying22 Try.underlying5 Try.underlying9 (Kd.own_of_R aT.out); refine value_ (w1 := ?_) (v := ?_) (by rfl) rfl ?_ ?_; rotate_left 2
               ·go_simp
                constructor
                ·rfl
                ·rfl
               clear hcv27; refine hK.out _ _ trivial (fun hHeld => ?_); clear hK K; refine nm_ (N := 55) ?_; exact norm_ u13_1 (hCont (aW) _ ⟨u13_2, u13_3, xbel⟩)
              ·skip
               refine goesY Try.func139 #[.slice bV aH.length bW] ?_; with_reducible refine (impl_sumBytes.calls dA _ _ aH aQ _ ?side1 ?side2 eM.out).mono ?_
               (case side1 => exact xC aC); (case side2 => exact (Kd.R_reads' aC.out).2.1); rintro e gY ⟨aW, rfl, bH, hb⟩; refine ⟨_, rfl, ?_⟩; have aT := aM (Kd.R_lower (Kd.R_new' bH (Kd.R_lt (xr aC))) (below_size xbel)); replace aC := aM (Kd.R_elder' (xr aC) (Kd.R_base bH) hb); replace HB := xbs hb; (try clear hb bH); refine hK.out _ _ trivial (fun hHeld => ?_); clear hK K; refine nm_ (N := 54) ?_; refine two_ (i := 6) (j := 9) (Ni := some 52) (Nj := some 55) #[true, true, true, true, true, true, true, true, true, false, false] #[true, true, true, true, true, true, false, true, true, true, false] rfl rfl rfl rfl (two_of HT_.out (by kernel_rfl)) (by decide) (by decide) (fun K hK => ?_) (fun K hK => ?_)
               ·skip
                have hcv26 := Kd.C_string (P := Try.prog) (A := eX) (c := (c0 - (ji12).toNat)) Try.underlying22 Try.underlying5 Try.underlying9 (Kd.C_below aY.out HB.out); have hcv26b := hcv26; (try rw [show ((l0.take ((wrap64 ((ji12) + 4)) : Int).toNat).drop ((ji12) : Int).toNat).length = ((wrap64 ((ji12) + 4)).toNat - (ji12).toNat) from (by rw [List.length_drop, List.length_take]; have h_ : ((wrap64 ((ji12) + 4)) : Int) ≤ (l0.length : Int) := oda; omega)] at hcv26b); refine value_ (w1 := ?_) (v := ?_) (by rfl) rfl ?_ ?_; rotate_left 2
                ·go_simp
                 constructor
                 ·rfl
                 ·rfl
                clear hcv26b hcv26; refine hK.out _ _ trivial (fun hHeld => ?_); clear hK K; refine nm_ (N := 52) ?_; refine oN 9 55 fun K hK => ?_
                have hcv27 := own_string (P := Try.prog) Try.underlying22 Try.underlying5 Try.underlying9 (Kd.own_of_R aT.out); refine value_ (w1 := ?_) (v := ?_) (by rfl) rfl ?_ ?_; rotate_left 2
                ·go_simp
                 constructor
                 ·rfl
                 ·rfl
                clear hcv27; refine hK.out _ _ trivial (fun hHeld => ?_); clear hK K; refine nm_ (N := 55) ?_; exact norm_ u13_1 (hCont (aW) _ ⟨u13_2, u13_3, xbel⟩)
               ·skip
                have hcv26 := own_string (P := Try.prog) Try.underlying22 Try.underlying5 Try.underlying9 (Kd.own_of_R aT.out); refine value_ (w1 := ?_) (v := ?_) (by rfl) rfl ?_ ?_; rotate_left 2
                ·go_simp
                 constructor
                 ·rfl
                 ·rfl
                clear hcv26; refine hK.out _ _ trivial (fun hHeld => ?_); clear hK K; refine nm_ (N := 55) ?_; refine oN 6 52 fun K hK => ?_
                have hcv27 := Kd.C_string (P := Try.prog) (A := eX) (c := (c0 - (ji12).toNat)) Try.underlying22 Try.underlying5 Try.underlying9 (Kd.C_below aY.out HB.out); have hcv27b := hcv27; (try rw [show ((l0.take ((wrap64 ((ji12) + 4)) : Int).toNat).drop ((ji12) : Int).toNat).length = ((wrap64 ((ji12) + 4)).toNat - (ji12).toNat) from (by rw [List.length_drop, List.length_take]; have h_ : ((wrap64 ((ji12) + 4)) : Int) ≤ (l0.length : Int) := oda; omega)] at hcv27b); refine value_ (w1 := ?_) (v := ?_) (by rfl) rfl ?_ ?_; rotate_left 2
                ·go_simp
                 constructor
                 ·rfl
                 ·rfl
                clear hcv27b hcv27; refine hK.out _ _ trivial (fun hHeld => ?_); clear hK K; refine nm_ (N := 52) ?_; exact norm_ u13_1 (hCont (aW) _ ⟨u13_2, u13_3, xbel⟩)
             rintro aW eY ⟨h0_, h1_, h2_⟩; replace aC : Aside0 (Kd.R (Kd.int .u8) 5 eY w.heap.size (fun k_ => some k_ ≠ (aW : Value).ownBlock) (.slice bV aH.length bW) aH) := ⟨h0_⟩; have aT : Aside0 (Kd.R (Kd.int .u8) 5 eY w.heap.size (fun k_ => some k_ ≠ (.slice bV aH.length bW : Value).ownBlock) aW aQ) := ⟨h1_⟩; replace HB : Aside0 (Below w.heap.size w eY) := ⟨h2_⟩; clear h0_ h1_ h2_; have hHeld := trivial; refine norm_ (a' := ?_) ?_ ?_; rotate_left
             ·simp only [putAll, Act.put, List.setIfInBounds_toArray, List.set_cons_zero, List.set_cons_succ]; rfl
             refine pV 10 56 ?_; refine dn_ ?_; try go_wp2
             go_ret3
             exact ⟨_, u13_9, by (with_reducible repeat (first | apply Kd.R_alloc | apply Kd.R_drewN | apply Kd.R_drew)); exact Kd.R_mono aC.out (fun _ hk => trivial), xbel⟩
            ·rw [if_neg dQ] at H; obtain ⟨dR, dS⟩ := bF dQ; simp only [Option.some.injEq, Prod.mk.injEq] at H; obtain ⟨rfl, rfl, rfl⟩ := H; try go_wp2_with (first | ((with_reducible refine gD 34 rfl ?_); refine Kd.R_lit (Kd.int .u8) _ 5 ?hg (N := 34) ?hd (xs := ([] : List Int)) (inner := []) (ok := fun _ => True) (okp := fun _ => True) ?hr ?hp (fun _ hk => hk) trivial (Below.refl _ _) (Nat.le_refl _) (by simp) ?_; (case hd => rfl); (case hg => rfl); (case hr => exact u13_4); (case hp => exact (Reps.none _ _)); intro dB gZ cK hb hg_ hnew_; clear hg_ hnew_; (first | rw [← bZ.out] at cK | (simp only [Int.reduceToNat] at cK; rw [← bZ.out] at cK)); have bP := aM (Kd.R_lower cK (below_size xbel)); replace HB := xbs hb; clear hb cK; obtain ⟨i031, hi031, _, hsz31, _⟩ := info_parts info5; obtain ⟨hJ, hcut31, hA31, hC31⟩ := print_mid_of (P := Try.prog) (Value.int .u8) 0 22 5 .i64 .i64 Try.underlying22 hi031 hsz31 A0 c0 l0 aA (ji12) (oda) (by first | omega | exact oda) (oda) dK.out; have cH := aM (Kd.C_of_reads (h1 := fun _ => rfl) (hA31 _ (Kd.reads_of_C dJ.out))); have dU := aM hC31; clear hA31 hC31 hi031 hsz31; (try rw [← show ((l0.take ((ji12) : Int).toNat).drop (aA : Int).toNat).length = ((ji12).toNat - aA.toNat) from (by rw [List.length_drop, List.length_take]; have h_ : ((ji12) : Int) ≤ (l0.length : Int) := oda; omega)] at hcut31)) | ((with_reducible refine gate_builtin (b := .append) (xs := #[.tmp 34, .tmp 40]) rfl ?_); at_builtin; refine Kd.R_append_rows (Kd.int .u8) (w0 := w) w.heap.size rfl (.tmp 34) (.tmp 40) 22 5 (.int .u8 0) 1 rfl Try.underlying22 info5 rfl (by decide) (by omega) dB bO ((l0.take ((ji12) : Int).toNat).drop (aA : Int).toNat) _ _ _ (fun _ => True) (fun _ => False) rfl rfl ?aO ?aR (fun _ _ h => h) (fun _ h => h.elim) ?aF ?aB ?aS ?aL ?_; (case aR => exact u13_7); (case aB => exact xbel); (case aF => exact (fun _ _ => trivial)); (case aO => exact (xr bP)); (case aS => exact (below_size xbel)); (case aL => exact u13_8); intro eW gL ho hb hg hat; rw [← cI.out] at ho; replace HB := aM (hb); have aC := aM (ho); clear bP; clear ho hb hg hat; obtain ⟨cE, cF, eZ⟩ := Kd.R_slice aC.out; subst eZ))
             replace aC := rD aC; replace HB := lD HB; obtain ⟨i035, hi035, _, hsz35, _⟩ := info_parts info5; obtain ⟨fA, hcut35, hA35, hC35⟩ := print_mid_of (P := Try.prog) (Value.int .u8) 0 22 5 .i64 .i64 Try.underlying22 hi035 hsz35 A0 c0 l0 (ji12) (wrap64 ((ji12) + 4)) (oda) (by first | omega | exact oda) (oda) dK.out; have aY := aM (Kd.C_of_reads (h1 := fun _ => rfl) (hA35 _ (Kd.reads_of_C dJ.out))); have dV := aM hC35; clear hA35 hC35 hi035 hsz35; (try rw [← show ((l0.take ((wrap64 ((ji12) + 4)) : Int).toNat).drop ((ji12) : Int).toNat).length = ((wrap64 ((ji12) + 4)).toNat - (ji12).toNat) from (by rw [List.length_drop, List.length_take]; have h_ : ((wrap64 ((ji12) + 4)) : Int) ≤ (l0.length : Int) := oda; omega)] at hcut35); refine st_ 11 (fun w' => True) impl_Unseal.T8 impl_Unseal.B8 trivial (fun hHeld HT_ HW_ => ?_); generalize gL.drew = hU at aC HB aY hHeld ⊢; refine pV 0 46 ?_; refine pV 1 47 ?_; refine pV 2 48 ?_; refine pV 3 49 ?_; refine pV 4 50 ?_; refine pV 5 51 ?_; refine pV 7 53 ?_; refine join_ (σ := Value) 1 #[true, true, true, true, true, true, true, true, true, true, false] (fun s_ => [(52, .string (strOfNums ((l0.take ((wrap64 ((ji12) + 4)) : Int).toNat).drop ((ji12) : Int).toNat))), (54, s_), (55, .string (strOfNums aQ))]) (fun s_ w' => (Kd.R (Kd.int .u8) 5 w' w.heap.size (fun k_ => some k_ ≠ (s_ : Value).ownBlock) (.slice cE aH.length cF) aH) ∧ (Kd.R (Kd.int .u8) 5 w' w.heap.size (fun k_ => some k_ ≠ (.slice cE aH.length cF : Value).ownBlock) s_ aQ) ∧ (Below w.heap.size w w')) ?_ ?_; rotate_left
             ·intro hCont; refine two_ (i := 6) (j := 8) (Ni := some 52) (Nj := some 54) #[true, true, true, true, true, true, true, true, false, false, false] #[true, true, true, true, true, true, false, true, true, false, false] rfl rfl rfl rfl (two_of HT_.out (by kernel_rfl)) (by decide) (by decide) (fun K hK => ?_) (fun K hK => ?_)
              ·skip
               have hcv36 := Kd.C_string (P := Try.prog) (A := fA) (c := (c0 - (ji12).toNat)) Try.underlying22 Try.underlying5 Try.underlying9 (Kd.C_below aY.out HB.out); have hcv36b := hcv36; (try rw [show ((l0.take ((wrap64 ((ji12) + 4)) : Int).toNat).drop ((ji12) : Int).toNat).length = ((wrap64 ((ji12) + 4)).toNat - (ji12).toNat) from (by rw [List.length_drop, List.length_take]; have h_ : ((wrap64 ((ji12) + 4)) : Int) ≤ (l0.length : Int) := oda; omega)] at hcv36b); refine value_ (w1 := ?_) (v := ?_) (by rfl) rfl ?_ ?_; rotate_left 2
               ·go_simp
                constructor
                ·rfl
                ·rfl
               clear hcv36b hcv36; refine hK.out _ _ trivial (fun hHeld => ?_); clear hK K; refine nm_ (N := 52) ?_; refine oN 8 54 fun K hK => ?_
               refine goesY Try.func139 #[.slice cE aH.length cF] ?_; with_reducible refine (impl_sumBytes.calls dA _ _ aH aQ _ ?side1 ?side2 eM.out).mono ?_
               (case side1 => exact xC aC); (case side2 => exact (Kd.R_reads' aC.out).2.1); rintro e hX ⟨aW, rfl, bH, hb⟩; refine ⟨_, rfl, ?_⟩; have aT := aM (Kd.R_lower (Kd.R_new' bH (Kd.R_lt (xr aC))) (below_size xbel)); replace aC := aM (Kd.R_elder' (xr aC) (Kd.R_base bH) hb); replace HB := xbs hb; (try clear hb bH); refine hK.out _ _ trivial (fun hHeld => ?_); clear hK K; refine nm_ (N := 54) ?_; refine oN 9 55 fun K hK => ?_
               have hcv38 := own_string (P := Try.prog) Try.underlying22 Try.underlying5 Try.underlying9 (Kd.own_of_R aT.out); refine value_ (w1 := ?_) (v := ?_) (by rfl) rfl ?_ ?_; rotate_left 2
               ·go_simp
                constructor
                ·rfl
                ·rfl
               clear hcv38; refine hK.out _ _ trivial (fun hHeld => ?_); clear hK K; refine nm_ (N := 55) ?_; exact norm_ u13_1 (hCont (aW) _ ⟨u13_2, u13_3, xbel⟩)
              ·skip
               refine goesY Try.func139 #[.slice cE aH.length cF] ?_; with_reducible refine (impl_sumBytes.calls dA _ _ aH aQ _ ?side1 ?side2 eM.out).mono ?_
               (case side1 => exact xC aC); (case side2 => exact (Kd.R_reads' aC.out).2.1); rintro e hZ ⟨aW, rfl, bH, hb⟩; refine ⟨_, rfl, ?_⟩; have aT := aM (Kd.R_lower (Kd.R_new' bH (Kd.R_lt (xr aC))) (below_size xbel)); replace aC := aM (Kd.R_elder' (xr aC) (Kd.R_base bH) hb); replace HB := xbs hb; (try clear hb bH); refine hK.out _ _ trivial (fun hHeld => ?_); clear hK K; refine nm_ (N := 54) ?_; refine two_ (i := 6) (j := 9) (Ni := some 52) (Nj := some 55) #[true, true, true, true, true, true, true, true, true, false, false] #[true, true, true, true, true, true, false, true, true, true, false] rfl rfl rfl rfl (two_of HT_.out (by kernel_rfl)) (by decide) (by decide) (fun K hK => ?_) (fun K hK => ?_)
               ·skip
                have hcv37 := Kd.C_string (P := Try.prog) (A := fA) (c := (c0 - (ji12).toNat)) Try.underlying22 Try.underlying5 Try.underlying9 (Kd.C_below aY.out HB.out); have hcv37b := hcv37; (try rw [show ((l0.take ((wrap64 ((ji12) + 4)) : Int).toNat).drop ((ji12) : Int).toNat).length = ((wrap64 ((ji12) + 4)).toNat - (ji12).toNat) from (by rw [List.length_drop, List.length_take]; have h_ : ((wrap64 ((ji12) + 4)) : Int) ≤ (l0.length : Int) := oda; omega)] at hcv37b); refine value_ (w1 := ?_) (v := ?_) (by rfl) rfl ?_ ?_; rotate_left 2
                ·go_simp
                 constructor
                 ·rfl
                 ·rfl
                clear hcv37b hcv37; refine hK.out _ _ trivial (fun hHeld => ?_); clear hK K; refine nm_ (N := 52) ?_; refine oN 9 55 fun K hK => ?_
                have hcv38 := own_string (P := Try.prog) Try.underlying22 Try.underlying5 Try.underlying9 (Kd.own_of_R aT.out); refine value_ (w1 := ?_) (v := ?_) (by rfl) rfl ?_ ?_; rotate_left 2
                ·go_simp
                 constructor
                 ·rfl
                 ·rfl
                clear hcv38; refine hK.out _ _ trivial (fun hHeld => ?_); clear hK K; refine nm_ (N := 55) ?_; exact norm_ u13_1 (hCont (aW) _ ⟨u13_2, u13_3, xbel⟩)
               ·skip
                have hcv37 := own_string (P := Try.prog) Try.underlying22 Try.underlying5 Try.underlying9 (Kd.own_of_R aT.out); refine value_ (w1 := ?_) (v := ?_) (by rfl) rfl ?_ ?_; rotate_left 2
                ·go_simp
                 constructor
                 ·rfl
                 ·rfl
                clear hcv37; refine hK.out _ _ trivial (fun hHeld => ?_); clear hK K; refine nm_ (N := 55) ?_; refine oN 6 52 fun K hK => ?_
                have hcv38 := Kd.C_string (P := Try.prog) (A := fA) (c := (c0 - (ji12).toNat)) Try.underlying22 Try.underlying5 Try.underlying9 (Kd.C_below aY.out HB.out); have hcv38b := hcv38; (try rw [show ((l0.take ((wrap64 ((ji12) + 4)) : Int).toNat).drop ((ji12) : Int).toNat).length = ((wrap64 ((ji12) + 4)).toNat - (ji12).toNat) from (by rw [List.length_drop, List.length_take]; have h_ : ((wrap64 ((ji12) + 4)) : Int) ≤ (l0.length : Int) := oda; omega)] at hcv38b); refine value_ (w1 := ?_) (v := ?_) (by rfl) rfl ?_ ?_; rotate_left 2
                ·go_simp
                 constructor
                 ·rfl
                 ·rfl
                clear hcv38b hcv38; refine hK.out _ _ trivial (fun hHeld => ?_); clear hK K; refine nm_ (N := 52) ?_; exact norm_ u13_1 (hCont (aW) _ ⟨u13_2, u13_3, xbel⟩)
             rintro aW fB ⟨h0_, h1_, h2_⟩; replace aC : Aside0 (Kd.R (Kd.int .u8) 5 fB w.heap.size (fun k_ => some k_ ≠ (aW : Value).ownBlock) (.slice cE aH.length cF) aH) := ⟨h0_⟩; have aT : Aside0 (Kd.R (Kd.int .u8) 5 fB w.heap.size (fun k_ => some k_ ≠ (.slice cE aH.length cF : Value).ownBlock) aW aQ) := ⟨h1_⟩; replace HB : Aside0 (Below w.heap.size w fB) := ⟨h2_⟩; clear h0_ h1_ h2_; have hHeld := trivial; refine norm_ (a' := ?_) ?_ ?_; rotate_left
             ·simp only [putAll, Act.put, List.setIfInBounds_toArray, List.set_cons_zero, List.set_cons_succ]; rfl
             refine pV 10 56 ?_; refine dn_ ?_; try go_wp2
             go_ret3
             exact ⟨_, u13_9, u13_6, xbel⟩
           ·rw [if_neg cP] at H; exact absurd H (by simp)
          ·rw [if_neg eL] at H; exact absurd H (by simp)
         ·rw [if_neg cG] at H; exact absurd H (by simp)
        ·rw [if_neg eK] at H; exact absurd H (by simp)
       ·rw [if_neg c10] at H; exact absurd H (by simp)
      ·rw [if_neg c9] at H; exact absurd H (by simp)
     ·rw [if_neg c8] at H; exact absurd H (by simp)

/-! ### impl_JournalRead: function 17 -/
def impl_JournalRead.l0 : Nat → List ByteArray → List Int → Int → Option (List ByteArray × Int)
 | 0, _, _, _ => none
 | k + 1, x6, x9, cW => if (x6.length : Int) < 2000 then ((impl_Unseal.f k x9 cW).bind fun bI => (if bI.2.2 = 0 then (if x6.length < 8796093022208 then (impl_JournalRead.l0 k (x6 ++ [strOfNums bI.1]) x9 bI.2.1) else (none)) else (some (x6, cW)))) else (some (x6, cW))
def impl_JournalRead.f (k : Nat) (aI : Int) (aD : List (S95)) (a1 : Int) : Option (List ByteArray × Int) := (some (([] : List ByteArray) : List ByteArray)).bind fun bM => ((impl_DiskRead.f k aI aD a1).bind fun aU => (if aU.2 = true then (if aU.1.size ≤ 9223372036854775807 then (impl_JournalRead.l0 k bM (bytesOf aU.1) 0) else (none)) else (some (bM, 0))))
theorem impl_JournalRead.l0_z (y0_ y1_ y2_) : impl_JournalRead.l0 0 y0_ y1_ y2_ = none := rfl
theorem impl_JournalRead.l0_s (k x6 x9 cW) : impl_JournalRead.l0 (k + 1) x6 x9 cW = if (x6.length : Int) < 2000 then ((impl_Unseal.f k x9 cW).bind fun bI => (if bI.2.2 = 0 then (if x6.length < 8796093022208 then (impl_JournalRead.l0 k (x6 ++ [strOfNums bI.1]) x9 bI.2.1) else (none)) else (some (x6, cW)))) else (some (x6, cW)) := rfl
theorem u13_mq1 {p : Prop} (h : p := by repeat' first | (with_reducible first | exact dI _ _ _ | exact impl_DiskRead.mono _ _ _ _ | exact impl_Unseal.mono _ _ _ | exact LeO.refl _ | exact LeO.none _ | refine LeO.ite ?_ ?_ | refine LeO.bind ?_ (fun _ => ?_)) | exact LeO.none _ | refine LeO.ite ?_ ?_ | refine LeO.bind ?_ (fun _ => ?_)) : p := h
set_option maxRecDepth 100000 in
theorem impl_JournalRead.mono_l : ∀ k, (∀ y0 y1 y2, LeO (impl_JournalRead.l0 k y0 y1 y2) (impl_JournalRead.l0 (k + 1) y0 y1 y2))
 | 0 => fun _ _ _ r h => by simp [impl_JournalRead.l0_z] at h
 | k + 1 => by
  have dI := impl_JournalRead.mono_l k
  ·intro y0 y1 y2; rw [impl_JournalRead.l0_s k, impl_JournalRead.l0_s (k + 1)]; exact u13_mq1
theorem impl_JournalRead.mono : ∀ a0 a1 a2 k, LeO (impl_JournalRead.f k a0 a1 a2) (impl_JournalRead.f (k + 1) a0 a1 a2) := by
 intro a0 a1 a2 k
 have dI := impl_JournalRead.mono_l k
 unfold impl_JournalRead.f
 exact u13_mq1
set_option maxHeartbeats 8000000 in
set_option maxRecDepth 100000 in
theorem impl_JournalRead.calls (k : Nat) (aI : Int) (aZ : Option Addr) (bA : Nat) (aD : List (S95)) (a1 : Int) (r1 : List ByteArray) (r2 : Int) (w : World) (bQ : Kd.C k95 w aZ aD.length aD) (bR : aD.length ≤ bA) (h : impl_JournalRead.f k aI aD a1 = some (r1, r2)) :
 Calls Try.prog 17 #[.agg #[.int .i64 aI, .slice aZ aD.length bA], .int .i64 a1] w fun e w' => ∃ v0_ : Value, e = .returned (.tuple #[v0_, .int .i64 r2]) ∧ Kd.R Kd.string 9 w' w.heap.size (fun _ => True) v0_ r1 ∧ Below w.heap.size w w' := by
 have fC := Try.underlying26
 have cA := aM bQ
 have cL := aM bR
 clear bQ bR
 have HB := aM (Below.refl w.heap.size w)
 have H : ((some (([] : List ByteArray) : List ByteArray)).bind fun bM => ((impl_DiskRead.f k aI aD a1).bind fun aU => (if aU.2 = true then (if aU.1.size ≤ 9223372036854775807 then (impl_JournalRead.l0 k bM (bytesOf aU.1) 0) else (none)) else (some (bM, 0))))) = some (r1, r2) := h
 clear h
 obtain ⟨bM, hY⟩ : ∃ y_ : List ByteArray, y_ = (([] : List ByteArray)) := ⟨_, rfl⟩
 replace H : ((impl_DiskRead.f k aI aD a1).bind fun aU => (if aU.2 = true then (if aU.1.size ≤ 9223372036854775807 then (impl_JournalRead.l0 k bM (bytesOf aU.1) 0) else (none)) else (some (bM, 0)))) = some (r1, r2) := u13_0
 have cB := aM hY
 clear hY
 replace H := oB H
 obtain ⟨⟨bX, fD⟩, dM, H⟩ := H
 (try dsimp only at H)
 have A3 := aM dM
 clear dM
 by_cases c4 : fD = true
 ·subst c4; replace H := iT H; by_cases c5 : bX.size ≤ 9223372036854775807
  ·rw [if_pos c5] at H; have fE := eq_true c5; have fF : decide (bX.size ≤ 9223372036854775807) = true := decide_eq_true c5; try have fG : (9223372036854775807 < bX.size) = False := eq_false (Nat.not_lt.2 c5)
   clear c5; obtain ⟨bU, hY⟩ : ∃ y_ : List Int, y_ = (bytesOf bX) := ⟨_, rfl⟩; replace H : (impl_JournalRead.l0 k bM bU 0) = some (r1, r2) := u13_0; have cX := aM hY; clear hY; have H' := aM H; clear H; go_enter Try.func17, Try.ntmps17
   go_wp2_with (first | ((with_reducible refine gD 2 rfl ?_); refine boxE (N := 2) rfl (cs := #[.int .i64 aI, .slice aZ aD.length bA]) (t := 26) ?_; intro bJ hg w6 hbox hb; have aG := aM (hbox); have dW := aM (xge hg); have dX := aM (xge hg); replace HB := xbs hb; clear hb hbox hg) | ((with_reducible refine gD 14 rfl ?_); refine Kd.R_lit Kd.string _ 9 ?hg (N := 14) ?hd (xs := ([] : List ByteArray)) (inner := []) (ok := fun _ => True) (okp := fun _ => True) ?hr ?hp (fun _ hk => hk) trivial (Below.refl _ _) (Nat.le_refl _) (by simp) ?_; (case hd => rfl); (case hg => rfl); (case hr => exact u13_4); (case hp => exact (Reps.none _ _)); intro dY w7 dZ hb hg_ hnew_; clear hg_ hnew_; (first | rw [← cB.out] at dZ | (simp only [Int.reduceToNat] at dZ; rw [← cB.out] at dZ)); have aX := aM (Kd.R_lower dZ (below_size xbg)); replace aG := xbb aG hb; replace HB := xbs hb; clear hb dZ; obtain ⟨dD, dE, dF, dG⟩ := xf2 (w := w7) aG) | ((with_reducible refine gC 74 rfl ?_); refine goesLY (some 18) rfl Try.func74 #[.agg #[.int .i64 aI, .slice aZ aD.length bA], .int .i64 a1] ?_; (with_reducible refine (impl_DiskRead.calls k aI _ _ aD a1 bX true _ ?side1 ?side2 A3.out).mono ?_); (case side1 => exact xcb cA); (case side2 => exact cL.out); rintro e gM ⟨rfl, hb⟩; refine ⟨_, rfl, ?_⟩; replace aX := xrb aX hb; replace aG := xbb aG hb; replace HB := xbs hb; (try clear hb)) | ((with_reducible refine gD 25 rfl ?_); refine Kd.V_conv _ 5 rfl (N := 25) rfl 9 22 _ rfl bX rfl Try.underlying9 Try.underlying22 Try.underlying5 (oda) (ok := fun k_ => gM.heap.size ≤ k_) (Nat.le_refl _) (Below.refl _ _) (Nat.le_refl _) ?_; intro fH iA cM hb hg_ hnew_; clear hg_ hnew_; (first | rw [← cX.out] at cM | (simp only [Int.reduceToNat] at cM; rw [← cX.out] at cM)); have eA := aM (Kd.V_lower (Kd.V_mono (ok' := fun k_ => some k_ ≠ (dY : Value).ownBlock ∧ k_ ≠ bJ) cM (fun k_ hk_ => ⟨(Kd.fresh' (Kd.R_lt (xr aX)) k_ hk_), (Kd.freshB (g := bJ) (o := .cells #[.int .i64 aI, .slice aZ aD.length bA] 26 (0, 0)) xblk k_ hk_)⟩)) (below_size xbg)); replace aX := xrb aX hb; replace aG := xbb aG hb; replace HB := xbs hb; clear hb cM))
   go_loopg [6, 10] k (fun kq v6 gN w' => ∃ (bG : List ByteArray) (bK : Int), gN = .int .i64 bK ∧ Aside0 (impl_JournalRead.l0 kq bG bU bK = some (r1, r2)) ∧ Aside0 (kq ≤ k) ∧ Aside0 (Kd.R Kd.string 9 w' w.heap.size (fun _ => True) v6 bG) ∧ Aside0 (Kd.V (Kd.int .u8) 5 w' w.heap.size (fun k_ => some k_ ≠ (v6 : Value).ownBlock ∧ k_ ≠ bJ) fH bU) ∧ Aside0 (w'.heap[bJ]? = some (.cells #[.int .i64 aI, (.slice aZ aD.length bA)] 26 (0, 0))) ∧ Aside0 (Below w.heap.size w w'))
   case atStart => exact ⟨(bM), (0), u13_5, H', ⟨Nat.le_refl _⟩, ⟨u13_10⟩, ⟨by (with_reducible repeat (first | apply Kd.V_alloc | apply Kd.V_drewN | apply Kd.V_drew)); exact eA.out⟩, ⟨xblk⟩, ⟨xbg⟩⟩
   case round =>
    clear H'; try clear c1
    try clear p2
    try clear c4
    try clear c5
    try clear fE
    try clear fF
    try clear fG
    try clear c7
    try clear dD dE dF dG
    obtain ⟨bG, bK, rfl, HA, HK1, bE, bC, aG, HB⟩ := hrel; cases gk with
    | zero => exact absurd HA.out (by simp [impl_JournalRead.l0_z])
    | succ k1 =>
     have H := HA.out; clear HA; simp only [impl_JournalRead.l0_s] at H; by_cases cG : (bG.length : Int) < 2000
     ·rw [if_pos cG] at H; have cS : decide ((bG.length : Int) < 2000) = true := decide_eq_true cG; have cT : decide (bG.length < 2000) = true := decide_eq_true (by omega); clear cG; replace H := oB H; obtain ⟨⟨cN, cQ, dH⟩, eB, H⟩ := H; (try dsimp only at H); have fY := aM eB; clear eB
      by_cases cP : dH = 0
      ·rw [if_pos cP] at H; obtain ⟨cU, cV⟩ := bT cP; clear cP; by_cases eN : bG.length < 8796093022208
       ·rw [if_pos eN] at H; have LMc16 := aM eN; clear eN; obtain ⟨eC, hY⟩ : ∃ y_ : List ByteArray, y_ = (bG ++ [strOfNums cN]) := ⟨_, rfl⟩; replace H : (impl_JournalRead.l0 k1 eC bU cQ) = some (r1, r2) := u13_0; have eD := aM hY; clear hY; have H' := aM H; clear H; obtain ⟨fI, fJ, fK⟩ := Kd.R_slice bE.out; subst fK; obtain ⟨fL, fM, fN⟩ := Kd.V_slice bC.out; subst fN; go_wp2_with (first | ((with_reducible refine gC 75 rfl ?_); refine goesLY (some 32) rfl Try.func75 #[.slice fL bU.length fM, .int .i64 bK] ?_; (with_reducible refine (impl_Unseal.calls k1 _ _ bU bK cN cQ dH _ ?side1 ?side2 fY.out).mono ?_); (case side1 => repeat (first | exact (Kd.V_reads' bC.out).2.2 | (with_reducible refine Kd.C_alloc ?_ _) | (with_reducible refine Kd.C_drewN ?_ _) | (with_reducible refine Kd.C_drew ?_))); (case side2 => exact (Kd.V_reads' bC.out).2.1); rintro e iB ⟨eE, rfl, bH, hb⟩; refine ⟨_, rfl, ?_⟩; replace bE := xrb bE hb; replace bC := aM (Kd.V_elder' u13_11 (Kd.R_base bH) hb); have cC := aM (Kd.R_lower bH (below_size xbg)); replace aG := xbb aG hb; replace HB := xbs hb; (try clear hb bH); have hcv20 := own_string (P := Try.prog) Try.underlying22 Try.underlying5 Try.underlying9 (Kd.own_of_R cC.out)) | ((with_reducible refine gate_builtin (b := .append) (xs := #[.tmp 38, .tmp 41]) rfl ?_); at_builtin; refine Kd.R_append Kd.string (w0 := w) w.heap.size rfl (.tmp 38) (.tmp 41) 27 9 (.string ⟨#[]⟩) 16 rfl Try.underlying27 info9 rfl (by decide) (by omega) (.slice fI bG.length fJ) bG (strOfNums cN) [.string (strOfNums cN)] (fun _ => True) (fun _ => False) rfl rfl ?aP (fun _ hk => hk.elim) ?aF ?aO ?aB ?aS ?aL ?_; (case aP => exact rfl); (case aB => exact xbg); (case aF => exact (fun _ _ => trivial)); (case aO => exact (xr bE)); (case aS => exact (below_size xbg)); (case aL => have := LMc16.out; omega); intro gO fX ho hb hg hat; rw [← eD.out] at ho; replace bC := aM (Kd.V_afterv (ok := (fun k_ => some k_ ≠ (eE : Value).ownBlock ∧ k_ ≠ bJ)) (by (with_reducible repeat (first | apply Kd.V_alloc | apply Kd.V_drewN | apply Kd.V_drew)); exact Kd.V_mono bC.out (fun _ hk => ⟨⟨hk.2, hk.1.2⟩, hk.1.1⟩)) hg hat); replace aG := aM (blk_grown (g := bJ) (o := .cells #[.int .i64 aI, .slice aZ aD.length bA] 26 (0, 0)) xblk hg (Kd.R_ne bE.out aG.out (by decide))); replace cC := aM (Kd.R_over' (xr cC) (Kd.R_typed (xr bE)) (by decide) hg); replace HB := aM (hb); have eF := aM (ho); clear bE; clear ho hb hg hat))
        go_roundg k1
        case measure => have := HK1.out; omega
        case rel => exact ⟨(eC), (cQ), u13_5, H', ⟨by have := HK1.out; omega⟩, ⟨by (with_reducible repeat (first | apply Kd.R_alloc | apply Kd.R_drewN | apply Kd.R_drew)); exact eF.out⟩, ⟨by (with_reducible repeat (first | apply Kd.V_alloc | apply Kd.V_drewN | apply Kd.V_drew)); exact Kd.V_mono bC.out (fun _ hk => ⟨hk.2, hk.1.2⟩)⟩, ⟨xblk⟩, ⟨xbg⟩⟩
       ·rw [if_neg eN] at H; exact absurd H (by simp)
      ·rw [if_neg cP] at H; obtain ⟨cU, cV⟩ := bF cP; simp only [Option.some.injEq, Prod.mk.injEq] at H; obtain ⟨rfl, rfl⟩ := H; obtain ⟨bV, bW, dC⟩ := Kd.R_slice bE.out; subst dC; obtain ⟨fO, fP, fQ⟩ := Kd.V_slice bC.out; subst fQ; go_wp2_with (first | ((with_reducible refine gC 75 rfl ?_); refine goesLY (some 32) rfl Try.func75 #[.slice fO bU.length fP, .int .i64 bK] ?_; (with_reducible refine (impl_Unseal.calls k1 _ _ bU bK cN cQ dH _ ?side1 ?side2 fY.out).mono ?_); (case side1 => repeat (first | exact (Kd.V_reads' bC.out).2.2 | (with_reducible refine Kd.C_alloc ?_ _) | (with_reducible refine Kd.C_drewN ?_ _) | (with_reducible refine Kd.C_drew ?_))); (case side2 => exact (Kd.V_reads' bC.out).2.1); rintro e iC ⟨eE, rfl, bH, hb⟩; refine ⟨_, rfl, ?_⟩; replace bE := xrb bE hb; replace bC := aM (Kd.V_elder' u13_11 (Kd.R_base bH) hb); have cC := aM (Kd.R_lower bH (below_size xbg)); replace aG := xbb aG hb; replace HB := xbs hb; (try clear hb bH)))
       go_ret2
       exact ⟨_, xerr, u13_12, xbg⟩
     ·rw [if_neg cG] at H; have cS : decide ((bG.length : Int) < 2000) = false := decide_eq_false cG; have cT : decide (bG.length < 2000) = false := decide_eq_false (by omega); clear cG; simp only [Option.some.injEq, Prod.mk.injEq] at H; obtain ⟨rfl, rfl⟩ := H; obtain ⟨gP, gQ, fR⟩ := Kd.R_slice bE.out; subst fR; go_wp2; go_ret2
      exact ⟨_, xerr, u13_12, xbg⟩
  ·rw [if_neg c5] at H; exact absurd H (by simp)
 ·replace c4 := Bool.eq_false_iff.mpr c4; subst c4; replace H := iN H; simp only [Option.some.injEq, Prod.mk.injEq] at H; obtain ⟨rfl, rfl⟩ := H; go_enter Try.func17, Try.ntmps17
  go_wp2_with (first | ((with_reducible refine gD 2 rfl ?_); refine boxE (N := 2) rfl (cs := #[.int .i64 aI, .slice aZ aD.length bA]) (t := 26) ?_; intro bJ hg gK hbox hb; have aG := aM (hbox); have dW := aM (xge hg); have dX := aM (xge hg); replace HB := xbs hb; clear hb hbox hg) | ((with_reducible refine gD 14 rfl ?_); refine Kd.R_lit Kd.string _ 9 ?hg (N := 14) ?hd (xs := ([] : List ByteArray)) (inner := []) (ok := fun _ => True) (okp := fun _ => True) ?hr ?hp (fun _ hk => hk) trivial (Below.refl _ _) (Nat.le_refl _) (by simp) ?_; (case hd => rfl); (case hg => rfl); (case hr => exact u13_4); (case hp => exact (Reps.none _ _)); intro dY gR cO hb hg_ hnew_; clear hg_ hnew_; (first | rw [← cB.out] at cO | (simp only [Int.reduceToNat] at cO; rw [← cB.out] at cO)); have aX := aM (Kd.R_lower cO (below_size xbg)); replace aG := xbb aG hb; replace HB := xbs hb; clear hb cO; obtain ⟨eO, eP, eQ, eR⟩ := xf2 (w := gR) aG) | ((with_reducible refine gC 74 rfl ?_); refine goesLY (some 18) rfl Try.func74 #[.agg #[.int .i64 aI, .slice aZ aD.length bA], .int .i64 a1] ?_; (with_reducible refine (impl_DiskRead.calls k aI _ _ aD a1 bX false _ ?side1 ?side2 A3.out).mono ?_); (case side1 => exact xcb cA); (case side2 => exact cL.out); rintro e iD ⟨rfl, hb⟩; refine ⟨_, rfl, ?_⟩; replace aX := xrb aX hb; replace aG := xbb aG hb; replace HB := xbs hb; (try clear hb)))
  go_ret2
  exact ⟨_, xerr, u13_10, xbg⟩

/-! ### impl_copyDisk: function 80 -/
def impl_copyDisk.f (aI : Int) (aD : List (S95)) : Option (Int × (List (S95))) := (some (([] : List (S95)) : List (S95))).bind fun bL => (if bL.length + aD.length < 3518437208883 then (some (aI, (bL ++ aD))) else (none))
def impl_copyDisk.T1 : Bool × List (List Nat × List Nat) := (true, [([], []), ([0], [0]), ([], []), ([], []), ([3], [3]), ([2, 4], [2, 4]), ([1, 5], [1, 5]), ([6, 5, 0, 1, 2, 3, 4, 5, 6], [6])])
def impl_copyDisk.B1 : List Nat := [0, 1, 0, 0, 8, 28, 63, 127]
set_option maxHeartbeats 8000000 in
set_option maxRecDepth 100000 in
theorem impl_copyDisk.calls (aI : Int) (aZ : Option Addr) (bA : Nat) (aD : List (S95)) (r1 : Int) (r2 : List (S95)) (w : World) (bQ : Kd.C k95 w aZ aD.length aD) (bR : aD.length ≤ bA) (h : impl_copyDisk.f aI aD = some (r1, r2)) :
 Calls Try.prog 80 #[.agg #[.int .i64 aI, .slice aZ aD.length bA]] w fun e w' => ∃ v1_ : Value, e = .returned (.agg #[.int .i64 r1, v1_]) ∧ Kd.R k95 95 w' w.heap.size (fun _ => True) v1_ r2 ∧ Below w.heap.size w w' := by
 have fC := Try.underlying26
 have cA := aM bQ
 have cL := aM bR
 clear bQ bR
 have HB := aM (Below.refl w.heap.size w)
 have H : ((some (([] : List (S95)) : List (S95))).bind fun bL => (if bL.length + aD.length < 3518437208883 then (some (aI, (bL ++ aD))) else (none))) = some (r1, r2) := h
 clear h
 obtain ⟨bL, hY⟩ : ∃ y_ : List (S95), y_ = (([] : List (S95))) := ⟨_, rfl⟩
 replace H : (if bL.length + aD.length < 3518437208883 then (some (aI, (bL ++ aD))) else (none)) = some (r1, r2) := u13_0
 have cY := aM hY
 clear hY
 by_cases c2 : bL.length + aD.length < 3518437208883
 ·rw [if_pos c2] at H; have LMc2 := aM c2; clear c2; obtain ⟨eG, hY⟩ : ∃ y_ : List (S95), y_ = (bL ++ aD) := ⟨_, rfl⟩; replace H : (some (aI, eG)) = some (r1, r2) := u13_0; have eH := aM hY; clear hY; simp only [Option.some.injEq, Prod.mk.injEq] at H; obtain ⟨rfl, rfl⟩ := H; go_enter Try.func80, Try.ntmps80
  try go_wp2_with (first | ((with_reducible refine gD 1 rfl ?_); refine boxE (N := 1) rfl (cs := #[.int .i64 aI, .slice aZ aD.length bA]) (t := 26) ?_; intro eI hg w3 hbox hb; have aJ := aM (hbox); have fZ := aM (xge hg); have gA := aM (xge hg); replace HB := xbs hb; clear hb hbox hg) | ((with_reducible refine gD 2 rfl ?_); refine boxE (N := 2) rfl (cs := #[.int .i64 0, .slice none 0 0]) (t := 26) ?_; intro bB hg w4 hbox hb; have gB := aM (xge hg); have gE := aM (xge hg); replace HB := xbs hb; have aK := nblt aJ hg; have bN := nbgt aJ hg; replace aJ := xbb aJ hb; have aV := aM (hbox); clear hb hbox hg))
  replace aJ := bD aJ; replace aV := bD aV; replace HB := lD HB; refine sb2 8 impl_copyDisk.T1 impl_copyDisk.B1 aJ (fun hHeld HT_ HW_ => ?_); generalize w4.drew = w5 at aJ aV HB hHeld ⊢; refine pV 0 3 ?_; refine pV 3 6 ?_; refine tK 1 4 ?_; refine tK 4 7 ?_; refine oN 2 5 fun K hK => ?_
  refine Kd.R_lit_step k95 _ 95 ?hg (N := 5) ?hd (xs := ([] : List (S95))) (inner := []) (ok := fun _ => True) (okp := fun _ => True) ?hr ?hp (fun _ hk => hk) trivial (Below.refl _ _) (Nat.le_refl _) (by simp) ?_; (case hd => rfl); (case hg => rfl); (case hr => exact u13_4); (case hp => exact (Reps.none _ _)); intro fS w6 eJ hb hg_ hnew_; clear hg_ hnew_; (first | rw [← cY.out] at eJ | (simp only [Int.reduceToNat] at eJ; rw [← cY.out] at eJ)); have cD := aM (Kd.R_lower eJ (below_size xbg)); replace aJ := xbb aJ hb; replace aV := xbb aV hb; replace HB := xbs hb; clear hb eJ; refine hK.out _ _ ⟨xc aJ 0 rfl, xc aJ 1 rfl⟩ (fun hHeld => ?_); clear hK K; refine nm_ (N := 5) ?_; refine oN 5 8 fun K hK => ?_
  refine Kd.R_append_rows_step k95 (w0 := w) w.heap.size (by rfl) (.tmp 5) (.tmp 7) 24 95 (.agg #[(.int .i64 0), (.string ⟨#[]⟩), (.string ⟨#[]⟩)]) 40 rfl Try.underlying24 info95 rfl (by decide) (by omega) fS bL aD _ _ _ (fun _ => True) (fun _ => False) rfl rfl ?aO ?aR (fun _ _ h => h) (fun _ h => h.elim) ?aF ?aB ?aS ?aL ?_; (case aR => exact xcb cA); (case aB => exact xbg); (case aF => exact (fun _ _ => trivial)); (case aO => exact (xr cD)); (case aS => exact (below_size xbg)); (case aL => have := LMc2.out; omega); intro gS w8 ho hb hg hat; rw [← eH.out] at ho; replace aJ := aM (blk_grown (g := eI) (o := .cells #[.int .i64 aI, .slice aZ aD.length bA] 26 (0, 0)) xblk hg (Kd.R_ne cD.out aJ.out (by decide))); replace aV := aM (blk_grown (g := bB) (o := .cells #[.int .i64 0, .slice none 0 0] 26 (0, 0)) xblk hg (Kd.R_ne cD.out aV.out (by decide))); replace HB := aM (hb); have cZ := aM (ho); clear cD ho hb hg hat; obtain ⟨gT, gU, gF⟩ := Kd.R_slice cZ.out; (first | subst gF | (injection gF with f1_ f2_ f3_; have f4_ := f1_.symm; have f5_ := f3_.symm; clear f1_ f2_ f3_; subst f4_; subst f5_)); refine hK.out _ _ ⟨xc aJ 0 rfl, xc aJ 1 rfl⟩ (fun hHeld => ?_); clear hK K; refine nm_ (N := 8) ?_; refine pV 6 9 ?_; refine one_ (i := 7) (N := none) #[true, true, true, true, true, true, true, true] rfl rfl (one_of HT_.out (by kernel_rfl)) (by decide) (fun K hK => ?_); have hs10 : w8.cell? ⟨bB, 0, none⟩ = some (.int .i64 0) := xc aV 0 rfl; have hfs10 := blk_frozen aV.out 0; have hns10_0 := aK.out; have hms10_0 := bN.out; have hs11 : w8.cell? ⟨bB, 1, none⟩ = some (.slice none 0 0) := xc aV 1 rfl; have hfs11 := blk_frozen aV.out 1; have hns11_0 := aK.out; have hms11_0 := bN.out; refine skip_ (w1 := ?_) (by rfl) rfl ?_ ?_; rotate_left
  ·go_simp
   rfl
  refine hK.out _ _ ⟨((cell_far (p := ⟨bB, _, none⟩) aK.out _).trans (((cell_far (p := ⟨bB, _, none⟩) aK.out _).trans (hHeld.1)))), ((cell_far (p := ⟨bB, _, none⟩) aK.out _).trans (((cell_far (p := ⟨bB, _, none⟩) aK.out _).trans (hHeld.2))))⟩ (fun hHeld => ?_); clear hK K; refine dn_ ?_; try go_wp2
  refine bodyPost_ret (results_cell_row rfl _ _ bB 26 #[.int .i64 aI, .slice gT eG.length gU] (0, 0) _ rfl xP Try.underlying26 rfl (by kernel_rfl)) rfl ?_; exact ⟨_, xerr, xrm cZ (fun _ _ => trivial), xbg⟩
 ·rw [if_neg c2] at H; exact absurd H (by simp)

theorem u14_0 {p : Prop} (h : p := by first | (rw [hY]; with_reducible exact H) | (have H2_ := oS H; rw [hY]; with_reducible exact H2_) | (have H2_ := oS H; with_reducible exact H2_) | with_reducible exact H | (rw [hY]; exact H) | exact H) : p := h
theorem u14_1 {p : Prop} (h : p := by first | rfl | (simp; done) | (simp [*]; done)) : p := h
theorem u14_2 {p : Prop} (h : p := by exact Kd.C_below aY.out xbg) : p := h
theorem u14_3 {p : Prop} (h : p := by first | omega | exact Nat.le_refl _) : p := h
theorem u14_4 {p : Prop} (h : p := by first | exact Kd.R_nil _ _ _ _ _ | exact Kd.N_nil _ _ _ _ _ | exact Kd.V_nil _ _ _ _ _ | exact Kd.Q_nil _ _ _ _ _ | exact Kd.S_nil _ _ _ _ _) : p := h
theorem u14_5 {p : Prop} (h : p := by first | (go_simp; done) | (go_simp; rfl)) : p := h
theorem u14_6 {p : Prop} (h : p := by first | rfl | (simp [errW_none, errW_some] <;> rfl) | (simp [*, errW_none, errW_some] <;> rfl)) : p := h
theorem u14_7 {p : Prop} (h : p := by have h_ := Kd.R_ne aH.out aD.out (by decide); intro e_; exact h_ (by rw [e_]; rfl)) : p := h
theorem u14_8 {p : Prop} (h : p := by have h_ := Kd.R_ne aH.out aG.out (by decide); intro e_; exact h_ (by rw [e_]; rfl)) : p := h
theorem u14_9 {p : Prop} (h : p := by have h_ := Kd.R_ne aH.out aK.out (by decide); intro e_; exact h_ (by rw [e_]; rfl)) : p := h
theorem u14_10 {p : Prop} (h : p := by have h_ := Kd.R_away aH.out (fun _ hk => hk); intro e_; exact h_ (by rw [e_]; rfl)) : p := h
/-! ### impl_DiskCut: function 67 -/
def impl_DiskCut.j0 : Nat → Int → Int → Bool → Int → List (S95) → Option (Int × (List (S95)) × Int)
 | 0, _, _, _, _, _ => none
 | k + 1, x1, x2, wX, dY, aZ => if wX = true then (some (0, ([] : List (S95)), 1)) else ((impl_copyDisk.f dY aZ).bind fun dE => ((impl_fileAt.f dY aZ x1).bind fun aC => (if aC < 0 then (some (dE.1, dE.2, 2)) else (if 0 ≤ aC then (if aC < (aZ.length : Int) then ((impl_within.f x2 0 (wrap64 ((((rd_T95 aZ aC).f1).size : Int) + (((rd_T95 aZ aC).f2).size : Int)))).bind fun iV => (if iV = true then (if 0 ≤ (mn x2 (((rd_T95 aZ aC).f1).size : Int)) then (if (mn x2 (((rd_T95 aZ aC).f1).size : Int)) ≤ (((rd_T95 aZ aC).f1).size : Int) then (if 0 ≤ (wrap64 (x2 - (mn x2 (((rd_T95 aZ aC).f1).size : Int)))) then (if (wrap64 (x2 - (mn x2 (((rd_T95 aZ aC).f1).size : Int)))) ≤ (((rd_T95 aZ aC).f2).size : Int) then (if aC < (dE.2.length : Int) then (some (dE.1, (dE.2.set (aC : Int).toNat (⟨x1, ((rd_T95 aZ aC).f1).extract 0 ((mn x2 (((rd_T95 aZ aC).f1).size : Int)) : Int).toNat, ((rd_T95 aZ aC).f2).extract 0 ((wrap64 (x2 - (mn x2 (((rd_T95 aZ aC).f1).size : Int)))) : Int).toNat⟩ : S95)), 0)) else (none)) else (none)) else (none)) else (none)) else (none)) else (some (dE.1, dE.2, 2)))) else (none)) else (none)))))
def impl_DiskCut.f (k : Nat) (aE : Int) (aA : List (S95)) (a1 : Int) (a2 : Int) : Option (Int × (List (S95)) × Int) := (impl_DiskOk.f k aE aA).bind fun fN => (if fN = true then ((impl_isFile.f a1).bind fun eV => (impl_DiskCut.j0 k a1 a2 (!eV) aE aA)) else (impl_DiskCut.j0 k a1 a2 true aE aA))
theorem u14_mq0 {p : Prop} (h : p := by repeat' first | (with_reducible first | exact iH _ _ _ _ _ | exact impl_DiskOk.mono _ _ _ | exact LeO.refl _ | exact LeO.none _ | refine LeO.ite ?_ ?_ | refine LeO.bind ?_ (fun _ => ?_)) | exact LeO.none _ | refine LeO.ite ?_ ?_ | refine LeO.bind ?_ (fun _ => ?_)) : p := h
set_option maxRecDepth 100000 in
theorem impl_DiskCut.mono_l : ∀ k, (∀ y0 y1 y2 y3 y4, LeO (impl_DiskCut.j0 k y0 y1 y2 y3 y4) (impl_DiskCut.j0 (k + 1) y0 y1 y2 y3 y4))
 | 0 => fun _ _ _ _ _ r h => by simp [impl_DiskCut.j0] at h
 | k + 1 => by
  have iH := impl_DiskCut.mono_l k
  ·intro y0 y1 y2 y3 y4; unfold impl_DiskCut.j0; exact u14_mq0
theorem impl_DiskCut.mono : ∀ a0 a1 a2 a3 k, LeO (impl_DiskCut.f k a0 a1 a2 a3) (impl_DiskCut.f (k + 1) a0 a1 a2 a3) := by
 intro a0 a1 a2 a3 k
 have iH := impl_DiskCut.mono_l k
 unfold impl_DiskCut.f
 exact u14_mq0
def impl_DiskCut.T5 : Bool × List (List Nat × List Nat) := (true, [([], []), ([0], [0]), ([1], [1]), ([2], [2]), ([2], [2]), ([4, 2], [2, 4]), ([2], [2]), ([5, 6, 2], [2, 5, 6]), ([7, 2], [2, 7]), ([8, 2], [2, 8]), ([9, 2], [2, 9]), ([2], [2]), ([11, 2], [2, 11]), ([2], [2]), ([12, 13, 2], [2, 12, 13]), ([14, 2], [2, 14]), ([15, 2], [2, 15]), ([16, 2], [2, 16]), ([10, 17, 2], [2, 10, 17]), ([3, 18, 2, 2], [2, 3, 18]), ([19, 2], [2, 19]), ([2, 20], [2, 20])])
def impl_DiskCut.B5 : List Nat := [0, 1, 3, 7, 7, 23, 7, 119, 247, 503, 1015, 7, 2055, 7, 14343, 30727, 63495, 129031, 262135, 524287, 1048575, 2097151]
def impl_DiskCut.T9 : Bool × List (List Nat × List Nat) := (true, [([], []), ([0], [0]), ([], []), ([], []), ([], []), ([4], [4]), ([], []), ([5, 6], [5, 6]), ([], []), ([8], [8]), ([], []), ([], []), ([10, 11], [10, 11]), ([9, 12], [9, 12]), ([3, 7, 13], [3, 7, 13]), ([1, 2, 0, 1, 2, 3, 4, 5, 6, 7, 8, 9, 10, 11, 12, 13, 14], [1, 2]), ([15, 14, 0, 1, 2, 3, 4, 5, 6, 7, 8, 9, 10, 11, 12, 13, 14], [14, 15])])
def impl_DiskCut.B9 : List Nat := [0, 1, 0, 0, 0, 16, 0, 112, 0, 256, 0, 0, 3072, 7936, 16376, 32767, 65535]
theorem impl_DiskCut.tab9 : rtab .any (opsOf Try.f67 9) = impl_DiskCut.T9 := by kernel_rfl
theorem impl_DiskCut.bits9 : waitsOk impl_DiskCut.T9.2 impl_DiskCut.B9 = true := by kernel_rfl
set_option maxHeartbeats 8000000 in
set_option maxRecDepth 100000 in
theorem impl_DiskCut.calls (k : Nat) (aE : Int) (aX : Option Addr) (aU : Nat) (aA : List (S95)) (a1 : Int) (a2 : Int) (r1 : Int) (r2 : List (S95)) (r3 : Int) (w : World) (cF : Kd.C k95 w aX aA.length aA) (cG : aA.length ≤ aU) (h : impl_DiskCut.f k aE aA a1 a2 = some (r1, r2, r3)) :
 Calls Try.prog 67 #[.agg #[.int .i64 aE, .slice aX aA.length aU], .int .i64 a1, .int .i64 a2] w fun e w' => ∃ v1_ : Value, e = .returned (.tuple #[.agg #[.int .i64 r1, v1_], .int .i64 r3]) ∧ Kd.R k95 95 w' w.heap.size (fun _ => True) v1_ r2 ∧ Below w.heap.size w w' := by
 have iW := Try.underlying26
 have rR := Try.underlying95
 have aY := aM cF
 have bA := aM cG
 clear cF cG
 have HB := aM (Below.refl w.heap.size w)
 have H : ((impl_DiskOk.f k aE aA).bind fun fN => (if fN = true then ((impl_isFile.f a1).bind fun eV => (impl_DiskCut.j0 k a1 a2 (!eV) aE aA)) else (impl_DiskCut.j0 k a1 a2 true aE aA))) = some (r1, r2, r3) := h
 clear h
 have rS := aM H
 clear H
 go_enter Try.func67, Try.ntmps67
 go_upto_region 1 with (first | ((with_reducible refine gD 3 rfl ?_); (try (refine gate_guard (by rfl) ?_; dsimp only)); refine boxE (N := 3) rfl (cs := #[.int .i64 aE, .slice aX aA.length aU]) (t := 26) ?_; intro dF hg w5 hbox hb; have aD := aM (hbox); have tN := aM (xge hg); have jV := aM (xge hg); replace HB := xbs hb; clear hb hbox hg) | ((with_reducible refine gD 6 rfl ?_); (try (refine gate_guard (by rfl) ?_; dsimp only)); refine boxE (N := 6) rfl (cs := #[.int .i64 0, .slice none 0 0]) (t := 26) ?_; intro dG hg w6 hbox hb; have tO := aM (xge hg); have jW := aM (xge hg); replace HB := xbs hb; have bN := nblt aD hg; have bO := nbgt aD hg; replace aD := xbb aD hb; have aG := aM (hbox); clear hb hbox hg))
 (try simp only [Act.put, List.setIfInBounds_toArray, List.set_cons_zero, List.set_cons_succ])
 go_cut [19] (fun wY wc => ∃ (kq : Nat) (dZ : Bool), wY = .bool dZ ∧ Aside0 (impl_DiskCut.j0 kq a1 a2 dZ aE aA = some (r1, r2, r3)) ∧ Aside0 (kq ≤ k) ∧ Aside0 (wc.heap[dF]? = some (.cells #[.int .i64 aE, (.slice aX aA.length aU)] 26 (0, 0))) ∧ Aside0 (wc.heap[dG]? = some (.cells #[.int .i64 0, (.slice none 0 0)] 26 (0, 0))) ∧ Aside0 (Below w.heap.size w wc))
 case first =>
  have H := rS.out; clear rS; replace H := oB H; obtain ⟨fN, tP, H⟩ := H; (try dsimp only at H); have A7 := aM tP; clear tP
  by_cases c8 : fN = true
  ·subst c8; replace H := iT H; replace H := oB H; obtain ⟨eV, tQ, H⟩ := H; (try dsimp only at H); have A9 := aM tQ; clear tQ
   have H' := aM H; clear H; have tR := bN.out; have tS := bO.out; obtain ⟨eA, eB, eC, eD⟩ := xf2 (w := w6) aD; go_wp2_with (first | ((with_reducible refine gC 72 rfl ?_); refine goesLY (some 13) rfl Try.func72 #[.agg #[.int .i64 aE, .slice aX aA.length aU]] ?_; (with_reducible refine (impl_DiskOk.calls k aE _ _ aA true _ ?side1 ?side2 A7.out).mono ?_); (case side1 => exact xcb aY); (case side2 => exact bA.out); rintro e wZ ⟨rfl, hb⟩; refine ⟨_, rfl, ?_⟩; replace aD := xbb aD hb; replace aG := xbb aG hb; replace HB := xbs hb; (try clear hb)) | (go_at_call 77; (with_reducible refine (impl_isFile.calls a1 eV _ A9.out).mono ?_); rintro e w' ⟨rfl, ⟨nd, rfl⟩⟩))
   go_meet
   case rel => exact ⟨_, (!eV), u14_1, H', ⟨u14_3⟩, ⟨xblk⟩, ⟨xblk⟩, ⟨xbg⟩⟩
  ·replace c8 := Bool.eq_false_iff.mpr c8; subst c8; replace H := iN H; have H' := aM H; clear H; have tT := bN.out; have tU := bO.out; obtain ⟨fW, fX, fY, fZ⟩ := xf2 (w := w6) aD; go_wp2_with (first | ((with_reducible refine gC 72 rfl ?_); refine goesLY (some 13) rfl Try.func72 #[.agg #[.int .i64 aE, .slice aX aA.length aU]] ?_; (with_reducible refine (impl_DiskOk.calls k aE _ _ aA false _ ?side1 ?side2 A7.out).mono ?_); (case side1 => exact xcb aY); (case side2 => exact bA.out); rintro e xX ⟨rfl, hb⟩; refine ⟨_, rfl, ?_⟩; replace aD := xbb aD hb; replace aG := xbb aG hb; replace HB := xbs hb; (try clear hb)))
   go_meet
   case rel => exact ⟨_, (true), u14_1, H', ⟨u14_3⟩, ⟨xblk⟩, ⟨xblk⟩, ⟨xbg⟩⟩
 case rest =>
  clear rS; try clear c1
  try clear p2
  try clear c6
  try clear c7
  try clear c8
  try clear c10
  try clear xY
  try clear eA eB
  try clear fW fX
  try clear eC eD
  try clear fY fZ
  obtain ⟨kq, dZ, rfl, HA, HJ3, aD, aG, HB⟩ := hcut; cases kq with
  | zero => exact absurd HA.out (by simp [impl_DiskCut.j0])
  | succ xZ =>
   have H := HA.out; clear HA; simp only [impl_DiskCut.j0] at H; by_cases mX : dZ = true
   ·subst mX; replace H := iT H; simp only [Option.some.injEq, Prod.mk.injEq] at H; obtain ⟨rfl, rfl, rfl⟩ := H; have tV := bO.out; have tW := bN.out; obtain ⟨mY, mZ, nA, nB⟩ := xf2 (w := wc) aG; go_wp2; refine bodyPost_ret (results_ct rfl _ _ dG 26 #[.int .i64 0, .slice none 0 0] (0, 0) _ rfl xP Try.underlying26 rfl (by kernel_rfl)) rfl ?_; exact ⟨_, u14_6, u14_4, xbg⟩
   ·replace mX := Bool.eq_false_iff.mpr mX; subst mX; replace H := iN H; replace H := oB H; obtain ⟨⟨cI, bE⟩, fO, H⟩ := H; (try dsimp only at H); have iI := aM fO; clear fO; replace H := oB H
    obtain ⟨aC, jX, H⟩ := H; (try dsimp only at H); have iJ := aM jX; clear jX
    by_cases jT : aC < 0
    ·rw [if_pos jT] at H; have jY : decide (aC < 0) = true := decide_eq_true jT; clear jT; simp only [Option.some.injEq, Prod.mk.injEq] at H; obtain ⟨rfl, rfl, rfl⟩ := H; have tX := bN.out; have tY := bO.out; obtain ⟨nC, nD, nE, nF⟩ := xf2 (w := wc) aD; try go_wp2_with (first | ((with_reducible refine gC 80 rfl ?_); refine goesLY (some 22) rfl Try.func80 #[.agg #[.int .i64 aE, .slice aX aA.length aU]] ?_; (with_reducible refine (impl_copyDisk.calls aE _ _ aA cI bE _ ?side1 ?side2 iI.out).mono ?_); (case side1 => exact xcb aY); (case side2 => exact bA.out); rintro e rT ⟨jZ, rfl, cD, hb⟩; refine ⟨_, rfl, ?_⟩; have aH := aM (Kd.R_lower cD (below_size xbg)); replace aD := xbb aD hb; replace aG := xbb aG hb; replace HB := xbs hb; (try clear hb cD)) | ((with_reducible refine gD 8 rfl ?_); (try (refine gate_guard (by rfl) ?_; dsimp only)); refine boxE (N := 8) rfl (cs := #[.int .i64 0, .slice none 0 0]) (t := 26) ?_; intro cJ hg tZ hbox hb; replace aH := xrb aH hb; have iK := aM (xge hg); have fP := aM (xge hg); replace HB := xbs hb; have bQ := nblt aD hg; have bR := nbgt aD hg; have bU := nblt aG hg; have bV := nbgt aG hg; replace aD := xbb aD hb; replace aG := xbb aG hb; have aK := aM (hbox); clear hb hbox hg; have kA := bR.out; have kB := bQ.out; have uA := bV.out; have uB := bU.out; obtain ⟨nG, nH, nI, nJ⟩ := xf2 (w := tZ) aK; obtain ⟨kC, kE, rU⟩ := Kd.R_slice aH.out; subst rU; obtain ⟨nK, nL, nM, nN⟩ := xf2 (w := tZ) aD) | ((with_reducible refine gC 129 rfl ?_); refine goesLY (some 25) rfl Try.func129 #[.agg #[.int .i64 aE, .slice aX aA.length aU], .int .i64 a1] ?_; (with_reducible refine (impl_fileAt.calls aE _ _ aA a1 aC _ ?side1 ?side2 iJ.out).mono ?_); (case side1 => exact u14_2); (case side2 => exact bA.out); rintro e xA ⟨rfl, hb⟩; refine ⟨_, rfl, ?_⟩; replace aH := xrB aH hb; replace aD := xbc aD hb; replace aG := xbc aG hb; replace aK := aM (blk_below (g := cJ) (o := .cells #[.int .i64 cI, .slice kC bE.length kE] 26 (0, 0)) xP hb); replace HB := xbs hb; (try clear hb)))
     replace aH := rD aH; replace aD := bD aD; replace aG := bD aG; replace aK := bD aK; replace HB := lD HB; refine st_ 22 (fun w' => True) impl_DiskCut.T5 impl_DiskCut.B5 trivial (fun hHeld HT_ HW_ => ?_); generalize xA.drew = uC at aH aD aG aK HB hHeld ⊢; refine pV 0 26 ?_; refine pV 1 27 ?_; refine pV 2 28 ?_; refine pU 3 29 ?_; refine pU 4 30 ?_; refine pU 5 31 ?_; refine pU 6 32 ?_; refine pU 7 33 ?_; refine pU 8 34 ?_; refine pU 9 35 ?_; refine pU 10 36 ?_; refine pU 11 37 ?_; refine pU 12 38 ?_; refine pU 13 39 ?_; refine pU 14 40 ?_; refine pU 15 41 ?_; refine pU 16 42 ?_; refine pU 17 43 ?_; refine pU 18 44 ?_; refine pU 19 45 ?_; refine pU 20 46 ?_; refine pV 21 47 ?_; refine dn_ ?_; obtain ⟨nO, nP, nQ, nR⟩ := xf2 (w := uC) aK; obtain ⟨gA, gB, gE, gF⟩ := xf2 (w := uC) aG; try go_wp2
     refine bodyPost_ret (results_ct rfl _ _ dG 26 #[.int .i64 cI, .slice kC bE.length kE] (0, 0) _ rfl xP Try.underlying26 rfl (by kernel_rfl)) rfl ?_; exact ⟨_, u14_6, xrm aH (fun _ _ => trivial), xbg⟩
    ·rw [if_neg jT] at H; have jY : decide (aC < 0) = false := decide_eq_false jT; clear jT; by_cases fV : 0 ≤ aC
     ·rw [if_pos fV] at H; have kF : decide (0 ≤ aC) = true := decide_eq_true fV; clear fV; by_cases gG : aC < (aA.length : Int)
      ·rw [if_pos gG] at H; have kG : decide (aC < (aA.length : Int)) = true := decide_eq_true gG; clear gG; replace H := oB H; obtain ⟨iV, kH, H⟩ := H; (try dsimp only at H); have nS := aM kH; clear kH
       by_cases nT : iV = true
       ·subst nT; replace H := iT H; obtain ⟨ji39, hji39⟩ : ∃ j_ : Int, (mn a2 (((rd_T95 aA aC).f1).size : Int)) = j_ := ⟨_, rfl⟩; replace H : (if 0 ≤ (ji39) then (if (ji39) ≤ (((rd_T95 aA aC).f1).size : Int) then (if 0 ≤ (wrap64 (a2 - (ji39))) then (if (wrap64 (a2 - (ji39))) ≤ (((rd_T95 aA aC).f2).size : Int) then (if aC < (bE.length : Int) then (some (cI, (bE.set (aC : Int).toNat (⟨a1, ((rd_T95 aA aC).f1).extract 0 ((ji39) : Int).toNat, ((rd_T95 aA aC).f2).extract 0 ((wrap64 (a2 - (ji39))) : Int).toNat⟩ : S95)), 0)) else (none)) else (none)) else (none)) else (none)) else (none)) = some (r1, r2, r3) := by first | (rw [hji39] at H; exact H) | (simp only [hji39] at H ⊢; exact H)
        (try rw [hji39] at iI); (try rw [hji39] at iJ); (try rw [hji39] at nS); have hji39_ : (if (((rd_T95 aA aC).f1).size : Int) < a2 then (((rd_T95 aA aC).f1).size : Int) else a2) = ji39 := hji39; by_cases kI : 0 ≤ (ji39)
        ·rw [if_pos kI] at H; have uD := eq_true kI; have uE : decide (0 ≤ (ji39)) = true := decide_eq_true kI; clear kI; by_cases kJ : (ji39) ≤ (((rd_T95 aA aC).f1).size : Int)
         ·rw [if_pos kJ] at H; have uF := eq_true kJ; have uG : decide ((ji39) ≤ (((rd_T95 aA aC).f1).size : Int)) = true := decide_eq_true kJ; clear kJ; obtain ⟨ji42, hji42⟩ : ∃ j_ : Int, (wrap64 (a2 - (ji39))) = j_ := ⟨_, rfl⟩; replace H : (if 0 ≤ (ji42) then (if (ji42) ≤ (((rd_T95 aA aC).f2).size : Int) then (if aC < (bE.length : Int) then (some (cI, (bE.set (aC : Int).toNat (⟨a1, ((rd_T95 aA aC).f1).extract 0 ((ji39) : Int).toNat, ((rd_T95 aA aC).f2).extract 0 ((ji42) : Int).toNat⟩ : S95)), 0)) else (none)) else (none)) else (none)) = some (r1, r2, r3) := by first | (rw [hji42] at H; exact H) | (simp only [hji42] at H ⊢; exact H)
          (try rw [hji42] at iI); (try rw [hji42] at iJ); (try rw [hji42] at nS); have hji42w : (IntKind.i64.wrap (a2 - (ji39))) = ji42 := (i64_w _).trans hji42; by_cases kK : 0 ≤ (ji42)
          ·rw [if_pos kK] at H; have uH := eq_true kK; have uI : decide (0 ≤ (ji42)) = true := decide_eq_true kK; clear kK; by_cases kL : (ji42) ≤ (((rd_T95 aA aC).f2).size : Int)
           ·rw [if_pos kL] at H; have uJ := eq_true kL; have uK : decide ((ji42) ≤ (((rd_T95 aA aC).f2).size : Int)) = true := decide_eq_true kL; clear kL; by_cases nU : aC < (bE.length : Int)
            ·rw [if_pos nU] at H; have uL : decide (aC < (bE.length : Int)) = true := decide_eq_true nU; clear nU; obtain ⟨kM, hY⟩ : ∃ y_ : List (S95), y_ = (bE.set (aC : Int).toNat (⟨a1, ((rd_T95 aA aC).f1).extract 0 ((ji39) : Int).toNat, ((rd_T95 aA aC).f2).extract 0 ((ji42) : Int).toNat⟩ : S95)) := ⟨_, rfl⟩; replace H : (some (cI, kM, 0)) = some (r1, r2, r3) := u14_0; have kN := aM hY; clear hY; simp only [Option.some.injEq, Prod.mk.injEq] at H; obtain ⟨rfl, rfl, rfl⟩ := H; have uM := bN.out; have uN := bO.out; obtain ⟨gH, gI, gJ, gK⟩ := xf2 (w := wc) aD; try go_wp2_with (first | ((with_reducible refine gC 80 rfl ?_); refine goesLY (some 22) rfl Try.func80 #[.agg #[.int .i64 aE, .slice aX aA.length aU]] ?_; (with_reducible refine (impl_copyDisk.calls aE _ _ aA cI bE _ ?side1 ?side2 iI.out).mono ?_); (case side1 => exact xcb aY); (case side2 => exact bA.out); rintro e rV ⟨jZ, rfl, cD, hb⟩; refine ⟨_, rfl, ?_⟩; have aH := aM (Kd.R_lower cD (below_size xbg)); replace aD := xbb aD hb; replace aG := xbb aG hb; replace HB := xbs hb; (try clear hb cD)) | ((with_reducible refine gD 8 rfl ?_); (try (refine gate_guard (by rfl) ?_; dsimp only)); refine boxE (N := 8) rfl (cs := #[.int .i64 0, .slice none 0 0]) (t := 26) ?_; intro cJ hg uO hbox hb; replace aH := xrb aH hb; have iK := aM (xge hg); have fP := aM (xge hg); replace HB := xbs hb; have bQ := nblt aD hg; have bR := nbgt aD hg; have bU := nblt aG hg; have bV := nbgt aG hg; replace aD := xbb aD hb; replace aG := xbb aG hb; have aK := aM (hbox); clear hb hbox hg; have kO := bR.out; have kP := bQ.out; have kQ := bV.out; have kR := bU.out; obtain ⟨gL, gM, gN, gO⟩ := xf2 (w := uO) aK; obtain ⟨iX, dX, rW⟩ := Kd.R_slice aH.out; subst rW; obtain ⟨gP, gQ, gR, gS⟩ := xf2 (w := uO) aD) | ((with_reducible refine gC 129 rfl ?_); refine goesLY (some 25) rfl Try.func129 #[.agg #[.int .i64 aE, .slice aX aA.length aU], .int .i64 a1] ?_; (with_reducible refine (impl_fileAt.calls aE _ _ aA a1 aC _ ?side1 ?side2 iJ.out).mono ?_); (case side1 => exact u14_2); (case side2 => exact bA.out); rintro e xD ⟨rfl, hb⟩; refine ⟨_, rfl, ?_⟩; replace aH := xrB aH hb; replace aD := xbc aD hb; replace aG := xbc aG hb; replace aK := aM (blk_below (g := cJ) (o := .cells #[.int .i64 cI, .slice iX bE.length dX] 26 (0, 0)) xP hb); replace HB := xbs hb; (try clear hb)))
             replace aH := rD aH; replace aD := bD aD; replace aG := bD aG; replace aK := bD aK; replace HB := lD HB; have p714 : 0 ≤ (aC : Int) := oda; have q714 : aC < (aA.length : Int) := oda; obtain ⟨aV, iY, bH, bI, bJ⟩ := at_T95 aY.out aC p714 q714; have cK := bJ; have cL := bI; have cM := bH; cases iY
             replace bH := xce HB bH; replace bI := xce HB bI; replace bJ := xce HB bJ; replace p714 := eq_true p714; replace q714 := eq_true q714; have p715 : 0 ≤ (aC : Int) := oda; have q715 : aC < (aA.length : Int) := oda; obtain ⟨fQ, iZ, bK, bL, bM⟩ := at_T95 aY.out aC p715 q715; have cN := bM; have cO := bL; have cP := bK; obtain rfl : aV = fQ := (by injection iZ); replace bK := xce HB bK; replace bL := xce HB bL; replace bM := xce HB bM; replace p715 := eq_true p715; replace q715 := eq_true q715; refine st_ 22 (fun w' => w'.cell? ⟨dF, 0, none⟩ = some (.int .i64 aE) ∧ w'.cell? ⟨dF, 1, none⟩ = some (.slice (some aV) aA.length aU) ∧ w'.cell? (aV.add ((aC).toNat * 3)) = some (.int .i64 ((rd_T95 aA aC).f0)) ∧ w'.cell? ⟨(aV.add ((aC).toNat * 3)).block, (aV.add ((aC).toNat * 3)).off + 1, none⟩ = some (.string ((rd_T95 aA aC).f1)) ∧ w'.cell? ⟨(aV.add ((aC).toNat * 3)).block, (aV.add ((aC).toNat * 3)).off + 2, none⟩ = some (.string ((rd_T95 aA aC).f2)) ∧ w'.cell? (aV.add ((aC).toNat * 3)) = some (.int .i64 ((rd_T95 aA aC).f0)) ∧ w'.cell? ⟨(aV.add ((aC).toNat * 3)).block, (aV.add ((aC).toNat * 3)).off + 1, none⟩ = some (.string ((rd_T95 aA aC).f1)) ∧ w'.cell? ⟨(aV.add ((aC).toNat * 3)).block, (aV.add ((aC).toNat * 3)).off + 2, none⟩ = some (.string ((rd_T95 aA aC).f2))) impl_DiskCut.T5 impl_DiskCut.B5 ⟨xc aD 0 rfl, xc aD 1 rfl, (xce HB cM), (xce HB cL), (xce HB cK), (xce HB cP), (xce HB cO), (xce HB cN)⟩ (fun hHeld HT_ HW_ => ?_); generalize xD.drew = xE at aH aD aG aK HB bH bI bJ bK bL bM hHeld ⊢; refine pV 0 26 ?_; refine pV 1 27 ?_; refine pV 2 28 ?_; refine pV 3 29 ?_; refine pV 4 30 ?_; refine pV 6 32 ?_; refine pV 11 37 ?_; refine pV 13 39 ?_; refine tK 5 31 ?_; refine pV 7 33 ?_; refine pV 8 34 ?_; refine tK 9 35 ?_; refine pV 10 36 ?_; refine tK 12 38 ?_; refine pV 14 40 ?_; refine pV 15 41 ?_; refine tK 16 42 ?_; refine pV 17 43 ?_; refine pV 18 44 ?_; refine oN 19 45 fun K hK => ?_
             refine goesY Try.func99 #[.int .i64 a2, .int .i64 0, .int .i64 (wrap64 ((((rd_T95 aA aC).f1).size : Int) + (((rd_T95 aA aC).f2).size : Int)))] ?_; with_reducible refine (impl_within.calls a2 0 (wrap64 ((((rd_T95 aA aC).f1).size : Int) + (((rd_T95 aA aC).f2).size : Int))) true _ nS.out).mono ?_
             rintro e w' ⟨rfl, ⟨nd, rfl⟩⟩; refine ⟨_, rfl, ?_⟩; refine hK.out _ _ ⟨xc aD 0 rfl, xc aD 1 rfl, (xce HB cM), (xce HB cL), (xce HB cK), (xce HB cP), (xce HB cO), (xce HB cN)⟩ (fun hHeld => ?_); clear hK K; refine nm_ (N := 45) ?_; refine pV 20 46 ?_; refine pV 21 47 ?_; refine dn_ ?_; obtain ⟨nV, nW, nX, nY⟩ := xf2 (w := xE) aD; have p717 : 0 ≤ (aC : Int) := oda; have q717 : aC < (aA.length : Int) := oda; obtain ⟨kS, rX, eE, eF, eG⟩ := at_T95 aY.out aC p717 q717; obtain rfl : aV = kS := (by injection rX); replace eE := xce HB eE; replace eF := xce HB eF; replace eG := xce HB eG; replace p717 := eq_true p717; replace q717 := eq_true q717; try go_wp2_with (first | ((with_reducible refine gD 10 rfl ?_); (try (refine gate_guard (by rfl) ?_; dsimp only)); refine boxE (N := 10) rfl (cs := #[.int .i64 0, .string (⟨#[]⟩ : ByteArray), .string (⟨#[]⟩ : ByteArray)]) (t := 95) ?_; intro aN hg iL hbox hb; replace aH := aM (Kd.R_below (Kd.R_elderB (xr aH) aN (Nat.le_of_eq hg.symm)) hb); have uP := aM (xge hg); have kT := aM (xge hg); replace HB := xbs hb; have eW := nblt aD hg; have eX := nbgt aD hg; have eY := nblt aG hg; have eZ := nbgt aG hg; have fA := nblt aK hg; have fB := nbgt aK hg; replace aD := xbb aD hb; replace aG := xbb aG hb; replace aK := xbb aK hb; have cC := aM (hbox); clear hb hbox hg; have uQ := eX.out; have uR := eW.out; have uS := eZ.out; have uT := eY.out; have uU := fB.out; have uV := fA.out; obtain ⟨nZ, oA, oC, oD, oE, oF⟩ := xf3 (w := iL) cC))
             have n0_ : Aside0 (Kd.R k95 95 (((iL.setCell ⟨aN, 0, none⟩ (.int .i64 ((rd_T95 aA aC).f0))).setCell ⟨aN, 1, none⟩ (.string ((rd_T95 aA aC).f1))).setCell ⟨aN, 2, none⟩ (.string ((rd_T95 aA aC).f2))) w.heap.size (fun k_ => k_ ≠ aN) (.slice iX bE.length dX) bE) := ⟨by (with_reducible repeat (first | apply Kd.R_alloc | apply Kd.R_drewN | apply Kd.R_drew)); exact Kd.R_mono (Kd.R_far (p := ⟨aN, 2, none⟩) (Kd.R_far (p := ⟨aN, 1, none⟩) (Kd.R_far (p := ⟨aN, 0, none⟩) (Kd.R_mono aH.out (fun k_ hk => (⟨hk, hk.2⟩ : _ ∧ k_ ≠ aN))) (fun _ hk => hk.2) (.int .i64 ((rd_T95 aA aC).f0))) (fun _ hk => hk.2) (.string ((rd_T95 aA aC).f1))) (fun _ hk => hk.2) (.string ((rd_T95 aA aC).f2))) (fun _ hk => hk.1.2)⟩; have n1_ : Aside0 ((((iL.setCell ⟨aN, 0, none⟩ (.int .i64 ((rd_T95 aA aC).f0))).setCell ⟨aN, 1, none⟩ (.string ((rd_T95 aA aC).f1))).setCell ⟨aN, 2, none⟩ (.string ((rd_T95 aA aC).f2))).heap[dF]? = some (.cells #[.int .i64 aE, .slice (some aV) aA.length aU] 26 (0, 0))) := ⟨xB⟩; have n2_ : Aside0 ((((iL.setCell ⟨aN, 0, none⟩ (.int .i64 ((rd_T95 aA aC).f0))).setCell ⟨aN, 1, none⟩ (.string ((rd_T95 aA aC).f1))).setCell ⟨aN, 2, none⟩ (.string ((rd_T95 aA aC).f2))).heap[dG]? = some (.cells #[.int .i64 0, .slice none 0 0] 26 (0, 0))) := ⟨xB⟩; have n3_ : Aside0 ((((iL.setCell ⟨aN, 0, none⟩ (.int .i64 ((rd_T95 aA aC).f0))).setCell ⟨aN, 1, none⟩ (.string ((rd_T95 aA aC).f1))).setCell ⟨aN, 2, none⟩ (.string ((rd_T95 aA aC).f2))).heap[cJ]? = some (.cells #[.int .i64 cI, .slice iX bE.length dX] 26 (0, 0))) := ⟨xB⟩; have n4_ : Aside0 ((((iL.setCell ⟨aN, 0, none⟩ (.int .i64 ((rd_T95 aA aC).f0))).setCell ⟨aN, 1, none⟩ (.string ((rd_T95 aA aC).f1))).setCell ⟨aN, 2, none⟩ (.string ((rd_T95 aA aC).f2))).heap[aN]? = some (.cells #[.int .i64 ((rd_T95 aA aC).f0), .string ((rd_T95 aA aC).f1), .string ((rd_T95 aA aC).f2)] 95 (0, 0))) := ⟨xP⟩; have n5_ : Aside0 (Below w.heap.size w (((iL.setCell ⟨aN, 0, none⟩ (.int .i64 ((rd_T95 aA aC).f0))).setCell ⟨aN, 1, none⟩ (.string ((rd_T95 aA aC).f1))).setCell ⟨aN, 2, none⟩ (.string ((rd_T95 aA aC).f2)))) := ⟨xbg⟩; (try clear aH); (try clear aD); (try clear aG); (try clear aK); (try clear cC); (try clear HB)
             generalize (((iL.setCell ⟨aN, 0, none⟩ (.int .i64 ((rd_T95 aA aC).f0))).setCell ⟨aN, 1, none⟩ (.string ((rd_T95 aA aC).f1))).setCell ⟨aN, 2, none⟩ (.string ((rd_T95 aA aC).f2))) = xF at n0_ n1_ n2_ n3_ n4_ n5_ ⊢; have aH := n0_; have aD := n1_; have aG := n2_; have aK := n3_; have cC := n4_; have HB := n5_; clear n0_ n1_ n2_ n3_ n4_ n5_; replace aH := rD aH; replace aD := bD aD; replace aG := bD aG; replace aK := bD aK; replace cC := bD cC; replace HB := lD HB; have p46 : 0 ≤ (aC : Int) := oda; have q46 : (aC : Int) < ((bE.length : Int) : Int) := oda; obtain ⟨bC, xG, kU, kV, gl46, cl46, HG46⟩ := Kd.R_form aH.out (by omega); (first | cases kU | (injection kU with ea_ en_ ec_; (first | subst ea_ | (injection ea_ with ea_; subst ea_)); subst ec_; clear en_)); have GB46 := aM kV; have GG46 := aM HG46; clear kV gl46 HG46; obtain ⟨ce46, kW, kX, eH, eI⟩ := Kd.R_elem aH.out z95 (aC : Int) p46 q46; obtain rfl := k95_openM kX; have jA : World.cell? _ ⟨bC, (aC : Int).toNat * 3, none⟩ = some (.int .i64 ((rd_T95 bE aC).f0)) := eH 0 _ rfl; have jB : World.cell? _ ⟨bC, (aC : Int).toNat * 3 + 1, none⟩ = some (.string ((rd_T95 bE aC).f1)) := eH 1 _ rfl; have jC : World.cell? _ ⟨bC, (aC : Int).toNat * 3 + 2, none⟩ = some (.string ((rd_T95 bE aC).f2)) := eH 2 _ rfl; have jD : World.frozen? _ ⟨bC, (aC : Int).toNat * 3, none⟩ = false := eI 0; have jE : World.frozen? _ ⟨bC, (aC : Int).toNat * 3 + 1, none⟩ = false := eI 1; have jF : World.frozen? _ ⟨bC, (aC : Int).toNat * 3 + 2, none⟩ = false := eI 2; clear kW eH eI kX; replace p46 := eq_true p46; replace q46 := eq_true q46; obtain ⟨ce66, iM, kY, iO, kZ⟩ := Kd.R_elem aH.out z95 (aC : Int) (oda) (by have h_ : (aC : Int) < ((bE.length : Int) : Int) := oda; first | exact h_ | (have e_ := (Kd.R_reads' aH.out).1; omega) | simpa using h_); obtain rfl := k95_openM kY; have jG := (Kd.R_seg aH.out (aC : Int) (oda) (by have h_ : (aC : Int) < ((bE.length : Int) : Int) := oda; first | exact h_ | (have e_ := (Kd.R_reads' aH.out).1; omega) | simpa using h_) (seg := [.int .i64 a1, .string (((rd_T95 aA aC).f1).extract 0 ((ji39) : Int).toNat), .string (((rd_T95 aA aC).f2).extract 0 ((ji42) : Int).toNat)]) (j := 0) iM iO (show 3 ≤ 3 from by decide) (x' := (⟨a1, ((rd_T95 aA aC).f1).extract 0 ((ji39) : Int).toNat, ((rd_T95 aA aC).f2).extract 0 ((ji42) : Int).toNat⟩ : S95)) (k95_mkM _ _ _ (⟨a1, ((rd_T95 aA aC).f1).extract 0 ((ji39) : Int).toNat, ((rd_T95 aA aC).f2).extract 0 ((ji42) : Int).toNat⟩ : S95) ) (fun _ hk => hk)).1; rw [← kN.out] at jG; have HQ66 := aM jG; clear iM iO kZ kY jG; refine start_ (n := 17) (S := fun w' => w'.cell? ⟨cJ, 0, none⟩ = some (.int .i64 cI) ∧ w'.cell? ⟨cJ, 1, none⟩ = some (.slice (some ⟨bC, 0, none⟩) bE.length dX) ∧ w'.cell? ⟨aN, 0, none⟩ = some (.int .i64 ((rd_T95 aA aC).f0)) ∧ w'.cell? ⟨aN, 1, none⟩ = some (.string ((rd_T95 aA aC).f1)) ∧ w'.cell? ⟨aN, 2, none⟩ = some (.string ((rd_T95 aA aC).f2))) (ds := [16]) #[false, false, false, false, false, false, false, false, false, false, false, false, false, false, false, false, false] (by kernel_rfl) rfl rfl ⟨xc aK 0 rfl, xc aK 1 rfl, xc cC 0 rfl, xc cC 1 rfl, xc cC 2 rfl⟩ (fun hHeld => ?_); refine with_tabW impl_DiskCut.tab9 impl_DiskCut.bits9 (fun HT_ HW_ => ?_); generalize xF.drew = jH at aH aD aG aK cC HB GG46 HQ66 jD jE jF jA jB jC hHeld ⊢; refine pV 0 59 ?_; refine pV 2 61 ?_; refine pV 3 62 ?_; refine pV 4 63 ?_; refine pV 6 65 ?_; refine pV 8 67 ?_; refine pV 10 69 ?_; refine pV 11 70 ?_; refine pV 12 71 ?_; refine tK 1 60 ?_; refine tK 5 64 ?_; refine pV 7 66 ?_; refine tK 9 68 ?_; refine pV 13 72 ?_; refine pV 14 73 ?_; refine pV 15 74 ?_
             refine last_ (i := 16) (N := none) #[true, true, true, true, true, true, true, true, true, true, true, true, true, true, true, true, true] rfl rfl (one_of HT_.out (by kernel_rfl)) (by decide) (fun K hK => ?_); refine skip_ (w1 := ?_) (by rfl) rfl ?_ ?_; rotate_left
             ·go_simp
              rfl
             refine hK.out _ _ ?_; clear hK K; refine dn_ ?_; have n0_ : Aside0 (Kd.R k95 95 (((jH.setCell ⟨bC, (aC : Int).toNat * 3, none⟩ (.int .i64 a1)).setCell ⟨bC, (aC : Int).toNat * 3 + 1, none⟩ (.string (((rd_T95 aA aC).f1).extract 0 ((ji39) : Int).toNat))).setCell ⟨bC, (aC : Int).toNat * 3 + 2, none⟩ (.string (((rd_T95 aA aC).f2).extract 0 ((ji42) : Int).toNat))) w.heap.size (fun k_ => k_ ≠ aN) (.slice (some ⟨bC, 0, none⟩) bE.length dX) kM) := ⟨by (with_reducible repeat (first | apply Kd.R_alloc | apply Kd.R_drewN | apply Kd.R_drew)); exact HQ66.out⟩; have n1_ : Aside0 ((((jH.setCell ⟨bC, (aC : Int).toNat * 3, none⟩ (.int .i64 a1)).setCell ⟨bC, (aC : Int).toNat * 3 + 1, none⟩ (.string (((rd_T95 aA aC).f1).extract 0 ((ji39) : Int).toNat))).setCell ⟨bC, (aC : Int).toNat * 3 + 2, none⟩ (.string (((rd_T95 aA aC).f2).extract 0 ((ji42) : Int).toNat))).heap[dF]? = some (.cells #[.int .i64 aE, .slice (some aV) aA.length aU] 26 (0, 0))) := ⟨by refine bS ?_; refine blk_far ?_ u14_7 _; refine bS ?_; refine blk_far ?_ u14_7 _; refine bS ?_; refine blk_far ?_ u14_7 _; refine bS ?_; exact aD.out⟩; have n2_ : Aside0 ((((jH.setCell ⟨bC, (aC : Int).toNat * 3, none⟩ (.int .i64 a1)).setCell ⟨bC, (aC : Int).toNat * 3 + 1, none⟩ (.string (((rd_T95 aA aC).f1).extract 0 ((ji39) : Int).toNat))).setCell ⟨bC, (aC : Int).toNat * 3 + 2, none⟩ (.string (((rd_T95 aA aC).f2).extract 0 ((ji42) : Int).toNat))).heap[dG]? = some (.cells #[.int .i64 0, .slice none 0 0] 26 (0, 0))) := ⟨by refine bS ?_; refine blk_far ?_ u14_8 _; refine bS ?_; refine blk_far ?_ u14_8 _; refine bS ?_; refine blk_far ?_ u14_8 _; refine bS ?_; exact aG.out⟩; have n3_ : Aside0 ((((jH.setCell ⟨bC, (aC : Int).toNat * 3, none⟩ (.int .i64 a1)).setCell ⟨bC, (aC : Int).toNat * 3 + 1, none⟩ (.string (((rd_T95 aA aC).f1).extract 0 ((ji39) : Int).toNat))).setCell ⟨bC, (aC : Int).toNat * 3 + 2, none⟩ (.string (((rd_T95 aA aC).f2).extract 0 ((ji42) : Int).toNat))).heap[cJ]? = some (.cells #[.int .i64 cI, .slice (some ⟨bC, 0, none⟩) bE.length dX] 26 (0, 0))) := ⟨by refine bS ?_; refine blk_far ?_ u14_9 _; refine bS ?_; refine blk_far ?_ u14_9 _; refine bS ?_; refine blk_far ?_ u14_9 _; refine bS ?_; exact aK.out⟩; have n4_ : Aside0 ((((jH.setCell ⟨bC, (aC : Int).toNat * 3, none⟩ (.int .i64 a1)).setCell ⟨bC, (aC : Int).toNat * 3 + 1, none⟩ (.string (((rd_T95 aA aC).f1).extract 0 ((ji39) : Int).toNat))).setCell ⟨bC, (aC : Int).toNat * 3 + 2, none⟩ (.string (((rd_T95 aA aC).f2).extract 0 ((ji42) : Int).toNat))).heap[aN]? = some (.cells #[.int .i64 ((rd_T95 aA aC).f0), .string ((rd_T95 aA aC).f1), .string ((rd_T95 aA aC).f2)] 95 (0, 0))) := ⟨by refine bS ?_; refine blk_far ?_ u14_10 _; refine bS ?_; refine blk_far ?_ u14_10 _; refine bS ?_; refine blk_far ?_ u14_10 _; refine bS ?_; exact cC.out⟩; have n5_ : Aside0 (Below w.heap.size w (((jH.setCell ⟨bC, (aC : Int).toNat * 3, none⟩ (.int .i64 a1)).setCell ⟨bC, (aC : Int).toNat * 3 + 1, none⟩ (.string (((rd_T95 aA aC).f1).extract 0 ((ji39) : Int).toNat))).setCell ⟨bC, (aC : Int).toNat * 3 + 2, none⟩ (.string (((rd_T95 aA aC).f2).extract 0 ((ji42) : Int).toNat)))) := ⟨by repeat (first | (with_reducible first | exact HB.out | apply below_alloc | apply pw_below_drewN | apply below_drew1 | refine below_set ?_ GB46.out | refine below_set ?_ GB46.out | refine below_set ?_ GB46.out | refine below_set ?_ jV.out | refine below_set ?_ jW.out | refine below_set ?_ fP.out | refine below_set ?_ kT.out) | exact HB.out)⟩; (try clear aH); (try clear aD); (try clear aG); (try clear aK); (try clear cC); (try clear HB)
             generalize (((jH.setCell ⟨bC, (aC : Int).toNat * 3, none⟩ (.int .i64 a1)).setCell ⟨bC, (aC : Int).toNat * 3 + 1, none⟩ (.string (((rd_T95 aA aC).f1).extract 0 ((ji39) : Int).toNat))).setCell ⟨bC, (aC : Int).toNat * 3 + 2, none⟩ (.string (((rd_T95 aA aC).f2).extract 0 ((ji42) : Int).toNat))) = uW at n0_ n1_ n2_ n3_ n4_ n5_ ⊢; have aH := n0_; have aD := n1_; have aG := n2_; have aK := n3_; have cC := n4_; have HB := n5_; clear n0_ n1_ n2_ n3_ n4_ n5_; obtain ⟨oG, oH, oI, oJ⟩ := xf2 (w := uW) aK; obtain ⟨oK, oL, oM, oO⟩ := xf2 (w := uW) aG; try go_wp2
             refine bodyPost_ret (results_ct rfl _ _ dG 26 #[.int .i64 cI, .slice (some ⟨bC, 0, none⟩) bE.length dX] (0, 0) _ rfl xP Try.underlying26 rfl (by kernel_rfl)) rfl ?_; exact ⟨_, by first | rfl | (simp [errW_none, errW_some] <;> rfl) | (simp only [← hji39, ← hji42]; first | rfl | (simp [errW_none, errW_some] <;> rfl)) | (simp [*, errW_none, errW_some] <;> rfl), xrm aH (fun _ _ => trivial), xbg⟩
            ·rw [if_neg nU] at H; exact absurd H (by simp)
           ·rw [if_neg kL] at H; exact absurd H (by simp)
          ·rw [if_neg kK] at H; exact absurd H (by simp)
         ·rw [if_neg kJ] at H; exact absurd H (by simp)
        ·rw [if_neg kI] at H; exact absurd H (by simp)
       ·replace nT := Bool.eq_false_iff.mpr nT; subst nT; replace H := iN H; simp only [Option.some.injEq, Prod.mk.injEq] at H; obtain ⟨rfl, rfl, rfl⟩ := H; have uX := bN.out; have uY := bO.out; obtain ⟨oP, oQ, oR, oT⟩ := xf2 (w := wc) aD; try go_wp2_with (first | ((with_reducible refine gC 80 rfl ?_); refine goesLY (some 22) rfl Try.func80 #[.agg #[.int .i64 aE, .slice aX aA.length aU]] ?_; (with_reducible refine (impl_copyDisk.calls aE _ _ aA cI bE _ ?side1 ?side2 iI.out).mono ?_); (case side1 => exact xcb aY); (case side2 => exact bA.out); rintro e yA ⟨jZ, rfl, cD, hb⟩; refine ⟨_, rfl, ?_⟩; have aH := aM (Kd.R_lower cD (below_size xbg)); replace aD := xbb aD hb; replace aG := xbb aG hb; replace HB := xbs hb; (try clear hb cD)) | ((with_reducible refine gD 8 rfl ?_); (try (refine gate_guard (by rfl) ?_; dsimp only)); refine boxE (N := 8) rfl (cs := #[.int .i64 0, .slice none 0 0]) (t := 26) ?_; intro cJ hg uZ hbox hb; replace aH := xrb aH hb; have iK := aM (xge hg); have fP := aM (xge hg); replace HB := xbs hb; have bQ := nblt aD hg; have bR := nbgt aD hg; have bU := nblt aG hg; have bV := nbgt aG hg; replace aD := xbb aD hb; replace aG := xbb aG hb; have aK := aM (hbox); clear hb hbox hg; have vA := bR.out; have vB := bQ.out; have vC := bV.out; have vD := bU.out; obtain ⟨oU, oV, oW, oX⟩ := xf2 (w := uZ) aK; obtain ⟨lA, lB, rY⟩ := Kd.R_slice aH.out; subst rY; obtain ⟨oY, oZ, pA, pB⟩ := xf2 (w := uZ) aD) | ((with_reducible refine gC 129 rfl ?_); refine goesLY (some 25) rfl Try.func129 #[.agg #[.int .i64 aE, .slice aX aA.length aU], .int .i64 a1] ?_; (with_reducible refine (impl_fileAt.calls aE _ _ aA a1 aC _ ?side1 ?side2 iJ.out).mono ?_); (case side1 => exact u14_2); (case side2 => exact bA.out); rintro e xH ⟨rfl, hb⟩; refine ⟨_, rfl, ?_⟩; replace aH := xrB aH hb; replace aD := xbc aD hb; replace aG := xbc aG hb; replace aK := aM (blk_below (g := cJ) (o := .cells #[.int .i64 cI, .slice lA bE.length lB] 26 (0, 0)) xP hb); replace HB := xbs hb; (try clear hb)))
        replace aH := rD aH; replace aD := bD aD; replace aG := bD aG; replace aK := bD aK; replace HB := lD HB; have p714 : 0 ≤ (aC : Int) := oda; have q714 : aC < (aA.length : Int) := oda; obtain ⟨aV, iY, bH, bI, bJ⟩ := at_T95 aY.out aC p714 q714; have cK := bJ; have cL := bI; have cM := bH; cases iY
        replace bH := xce HB bH; replace bI := xce HB bI; replace bJ := xce HB bJ; replace p714 := eq_true p714; replace q714 := eq_true q714; have p715 : 0 ≤ (aC : Int) := oda; have q715 : aC < (aA.length : Int) := oda; obtain ⟨fQ, iZ, bK, bL, bM⟩ := at_T95 aY.out aC p715 q715; have cN := bM; have cO := bL; have cP := bK; obtain rfl : aV = fQ := (by injection iZ); replace bK := xce HB bK; replace bL := xce HB bL; replace bM := xce HB bM; replace p715 := eq_true p715; replace q715 := eq_true q715; refine st_ 22 (fun w' => w'.cell? ⟨dF, 0, none⟩ = some (.int .i64 aE) ∧ w'.cell? ⟨dF, 1, none⟩ = some (.slice (some aV) aA.length aU) ∧ w'.cell? (aV.add ((aC).toNat * 3)) = some (.int .i64 ((rd_T95 aA aC).f0)) ∧ w'.cell? ⟨(aV.add ((aC).toNat * 3)).block, (aV.add ((aC).toNat * 3)).off + 1, none⟩ = some (.string ((rd_T95 aA aC).f1)) ∧ w'.cell? ⟨(aV.add ((aC).toNat * 3)).block, (aV.add ((aC).toNat * 3)).off + 2, none⟩ = some (.string ((rd_T95 aA aC).f2)) ∧ w'.cell? (aV.add ((aC).toNat * 3)) = some (.int .i64 ((rd_T95 aA aC).f0)) ∧ w'.cell? ⟨(aV.add ((aC).toNat * 3)).block, (aV.add ((aC).toNat * 3)).off + 1, none⟩ = some (.string ((rd_T95 aA aC).f1)) ∧ w'.cell? ⟨(aV.add ((aC).toNat * 3)).block, (aV.add ((aC).toNat * 3)).off + 2, none⟩ = some (.string ((rd_T95 aA aC).f2))) impl_DiskCut.T5 impl_DiskCut.B5 ⟨xc aD 0 rfl, xc aD 1 rfl, (xce HB cM), (xce HB cL), (xce HB cK), (xce HB cP), (xce HB cO), (xce HB cN)⟩ (fun hHeld HT_ HW_ => ?_); generalize xH.drew = vE at aH aD aG aK HB bH bI bJ bK bL bM hHeld ⊢; refine pV 0 26 ?_; refine pV 1 27 ?_; refine pV 2 28 ?_; refine pV 3 29 ?_; refine pV 4 30 ?_; refine pV 6 32 ?_; refine pV 11 37 ?_; refine pV 13 39 ?_; refine tK 5 31 ?_; refine pV 7 33 ?_; refine pV 8 34 ?_; refine tK 9 35 ?_; refine pV 10 36 ?_; refine tK 12 38 ?_; refine pV 14 40 ?_; refine pV 15 41 ?_; refine tK 16 42 ?_; refine pV 17 43 ?_; refine pV 18 44 ?_; refine oN 19 45 fun K hK => ?_
        refine goesY Try.func99 #[.int .i64 a2, .int .i64 0, .int .i64 (wrap64 ((((rd_T95 aA aC).f1).size : Int) + (((rd_T95 aA aC).f2).size : Int)))] ?_; with_reducible refine (impl_within.calls a2 0 (wrap64 ((((rd_T95 aA aC).f1).size : Int) + (((rd_T95 aA aC).f2).size : Int))) false _ nS.out).mono ?_
        rintro e w' ⟨rfl, ⟨nd, rfl⟩⟩; refine ⟨_, rfl, ?_⟩; refine hK.out _ _ ⟨xc aD 0 rfl, xc aD 1 rfl, (xce HB cM), (xce HB cL), (xce HB cK), (xce HB cP), (xce HB cO), (xce HB cN)⟩ (fun hHeld => ?_); clear hK K; refine nm_ (N := 45) ?_; refine pV 20 46 ?_; refine pV 21 47 ?_; refine dn_ ?_; obtain ⟨pC, pD, pE, pF⟩ := xf2 (w := vE) aK; obtain ⟨pG, pH, pI, pJ⟩ := xf2 (w := vE) aG; try go_wp2
        refine bodyPost_ret (results_ct rfl _ _ dG 26 #[.int .i64 cI, .slice lA bE.length lB] (0, 0) _ rfl xP Try.underlying26 rfl (by kernel_rfl)) rfl ?_; exact ⟨_, u14_6, xrm aH (fun _ _ => trivial), xbg⟩
      ·rw [if_neg gG] at H; exact absurd H (by simp)
     ·rw [if_neg fV] at H; exact absurd H (by simp)

/-! ### impl_DiskSync: function 68 -/
theorem impl_DiskSync.e95 {W : World} {base : Nat} {ok : Nat → Prop} {g n cap : Nat} {xs : List S95} (h : Kd.R k95 95 W base ok (.slice (some ⟨g, 0, none⟩) n cap) xs) (i : Int) (p : 0 ≤ i) (q : i < n) : W.cell? ⟨g, i.toNat * 3, none⟩ = some (.int .i64 ((rd_T95 xs i).f0)) ∧ W.cell? ⟨g, i.toNat * 3 + 1, none⟩ = some (.string ((rd_T95 xs i).f1)) ∧ W.cell? ⟨g, i.toNat * 3 + 2, none⟩ = some (.string ((rd_T95 xs i).f2)) ∧ W.frozen? ⟨g, i.toNat * 3, none⟩ = false ∧ W.frozen? ⟨g, i.toNat * 3 + 1, none⟩ = false ∧ W.frozen? ⟨g, i.toNat * 3 + 2, none⟩ = false := by
  obtain ⟨c, hcl, hM, hcc, hfr⟩ := Kd.R_elem h z95 i p q; obtain rfl := k95_openM hM; exact ⟨hcc 0 _ rfl, hcc 1 _ rfl, hcc 2 _ rfl, hfr 0, hfr 1, hfr 2⟩
def impl_DiskSync.j0 : Nat → Int → Bool → Int → List (S95) → Option (Int × (List (S95)) × Int)
 | 0, _, _, _, _ => none
 | k + 1, x1, xI, eJ, cB => if xI = true then (some (0, ([] : List (S95)), 1)) else ((impl_copyDisk.f eJ cB).bind fun dN => ((impl_fileAt.f eJ cB x1).bind fun aI => (if aI < 0 then (some (dN.1, dN.2, 2)) else (if 0 ≤ aI then (if aI < (cB.length : Int) then (if ((rd_T95 cB aI).f1).size + ((rd_T95 cB aI).f2).size ≤ 9223372036854775807 then (if aI < (dN.2.length : Int) then (some (dN.1, (dN.2.set (aI : Int).toNat (⟨x1, ((rd_T95 cB aI).f1) ++ ((rd_T95 cB aI).f2), (⟨#[]⟩ : ByteArray)⟩ : S95)), 0)) else (none)) else (none)) else (none)) else (none)))))
def impl_DiskSync.f (k : Nat) (aE : Int) (aA : List (S95)) (a1 : Int) : Option (Int × (List (S95)) × Int) := (impl_DiskOk.f k aE aA).bind fun fR => (if fR = true then ((impl_isFile.f a1).bind fun fC => (impl_DiskSync.j0 k a1 (!fC) aE aA)) else (impl_DiskSync.j0 k a1 true aE aA))
theorem u14_mq1 {p : Prop} (h : p := by repeat' first | (with_reducible first | exact iH _ _ _ _ | exact impl_DiskOk.mono _ _ _ | exact LeO.refl _ | exact LeO.none _ | refine LeO.ite ?_ ?_ | refine LeO.bind ?_ (fun _ => ?_)) | exact LeO.none _ | refine LeO.ite ?_ ?_ | refine LeO.bind ?_ (fun _ => ?_)) : p := h
set_option maxRecDepth 100000 in
theorem impl_DiskSync.mono_l : ∀ k, (∀ y0 y1 y2 y3, LeO (impl_DiskSync.j0 k y0 y1 y2 y3) (impl_DiskSync.j0 (k + 1) y0 y1 y2 y3))
 | 0 => fun _ _ _ _ r h => by simp [impl_DiskSync.j0] at h
 | k + 1 => by
  have iH := impl_DiskSync.mono_l k
  ·intro y0 y1 y2 y3; unfold impl_DiskSync.j0; exact u14_mq1
theorem impl_DiskSync.mono : ∀ a0 a1 a2 k, LeO (impl_DiskSync.f k a0 a1 a2) (impl_DiskSync.f (k + 1) a0 a1 a2) := by
 intro a0 a1 a2 k
 have iH := impl_DiskSync.mono_l k
 unfold impl_DiskSync.f
 exact u14_mq1
set_option maxHeartbeats 8000000 in
set_option maxRecDepth 100000 in
theorem impl_DiskSync.calls (k : Nat) (aE : Int) (aX : Option Addr) (aU : Nat) (aA : List (S95)) (a1 : Int) (r1 : Int) (r2 : List (S95)) (r3 : Int) (w : World) (cF : Kd.C k95 w aX aA.length aA) (cG : aA.length ≤ aU) (h : impl_DiskSync.f k aE aA a1 = some (r1, r2, r3)) :
 Calls Try.prog 68 #[.agg #[.int .i64 aE, .slice aX aA.length aU], .int .i64 a1] w fun e w' => ∃ v1_ : Value, e = .returned (.tuple #[.agg #[.int .i64 r1, v1_], .int .i64 r3]) ∧ Kd.R k95 95 w' w.heap.size (fun _ => True) v1_ r2 ∧ Below w.heap.size w w' := by
 have iW := Try.underlying26
 have rR := Try.underlying95
 have aY := aM cF
 have bA := aM cG
 clear cF cG
 have HB := aM (Below.refl w.heap.size w)
 have H : ((impl_DiskOk.f k aE aA).bind fun fR => (if fR = true then ((impl_isFile.f a1).bind fun fC => (impl_DiskSync.j0 k a1 (!fC) aE aA)) else (impl_DiskSync.j0 k a1 true aE aA))) = some (r1, r2, r3) := h
 clear h
 have rZ := aM H
 clear H
 go_enter Try.func68, Try.ntmps68
 go_upto_region 1 with (first | ((with_reducible refine gD 2 rfl ?_); refine boxE (N := 2) rfl (cs := #[.int .i64 aE, .slice aX aA.length aU]) (t := 26) ?_; intro iP hg w4 hbox hb; have aJ := aM (hbox); have vF := aM (xge hg); have vG := aM (xge hg); replace HB := xbs hb; clear hb hbox hg) | ((with_reducible refine gD 4 rfl ?_); refine boxE (N := 4) rfl (cs := #[.int .i64 0, .slice none 0 0]) (t := 26) ?_; intro dO hg w5 hbox hb; have vH := aM (xge hg); have vI := aM (xge hg); replace HB := xbs hb; have bW := nblt aJ hg; have bX := nbgt aJ hg; replace aJ := xbb aJ hb; have aT := aM (hbox); clear hb hbox hg))
 (try simp only [Act.put, List.setIfInBounds_toArray, List.set_cons_zero, List.set_cons_succ])
 go_cut [16] (fun xJ wc => ∃ (kq : Nat) (eK : Bool), xJ = .bool eK ∧ Aside0 (impl_DiskSync.j0 kq a1 eK aE aA = some (r1, r2, r3)) ∧ Aside0 (kq ≤ k) ∧ Aside0 (wc.heap[iP]? = some (.cells #[.int .i64 aE, (.slice aX aA.length aU)] 26 (0, 0))) ∧ Aside0 (wc.heap[dO]? = some (.cells #[.int .i64 0, (.slice none 0 0)] 26 (0, 0))) ∧ Aside0 (Below w.heap.size w wc))
 case first =>
  have H := rZ.out; clear rZ; replace H := oB H; obtain ⟨fR, lC, H⟩ := H; (try dsimp only at H); have A6 := aM lC; clear lC
  by_cases c7 : fR = true
  ·subst c7; replace H := iT H; replace H := oB H; obtain ⟨fC, vJ, H⟩ := H; (try dsimp only at H); have A8 := aM vJ; clear vJ
   have H' := aM H; clear H; have sA := bW.out; have sB := bX.out; obtain ⟨eL, eM, eN, eO⟩ := xf2 (w := w5) aJ; go_wp2_with (first | ((with_reducible refine gC 72 rfl ?_); refine goesLY (some 10) rfl Try.func72 #[.agg #[.int .i64 aE, .slice aX aA.length aU]] ?_; (with_reducible refine (impl_DiskOk.calls k aE _ _ aA true _ ?side1 ?side2 A6.out).mono ?_); (case side1 => exact xcb aY); (case side2 => exact bA.out); rintro e vK ⟨rfl, hb⟩; refine ⟨_, rfl, ?_⟩; replace aJ := xbb aJ hb; replace aT := xbb aT hb; replace HB := xbs hb; (try clear hb)) | (go_at_call 77; (with_reducible refine (impl_isFile.calls a1 fC _ A8.out).mono ?_); rintro e w' ⟨rfl, ⟨nd, rfl⟩⟩))
   go_meet
   case rel => exact ⟨_, (!fC), u14_1, H', ⟨u14_3⟩, ⟨xblk⟩, ⟨xblk⟩, ⟨xbg⟩⟩
  ·replace c7 := Bool.eq_false_iff.mpr c7; subst c7; replace H := iN H; have H' := aM H; clear H; have vL := bW.out; have vM := bX.out; obtain ⟨gT, gU, gV, gW⟩ := xf2 (w := w5) aJ; go_wp2_with (first | ((with_reducible refine gC 72 rfl ?_); refine goesLY (some 10) rfl Try.func72 #[.agg #[.int .i64 aE, .slice aX aA.length aU]] ?_; (with_reducible refine (impl_DiskOk.calls k aE _ _ aA false _ ?side1 ?side2 A6.out).mono ?_); (case side1 => exact xcb aY); (case side2 => exact bA.out); rintro e vN ⟨rfl, hb⟩; refine ⟨_, rfl, ?_⟩; replace aJ := xbb aJ hb; replace aT := xbb aT hb; replace HB := xbs hb; (try clear hb)))
   go_meet
   case rel => exact ⟨_, (true), u14_1, H', ⟨u14_3⟩, ⟨xblk⟩, ⟨xblk⟩, ⟨xbg⟩⟩
 case rest =>
  clear rZ; try clear c1
  try clear p2
  try clear c6
  try clear c7
  try clear c9
  try clear yB
  try clear eL eM
  try clear gT gU
  try clear eN eO
  try clear gV gW
  obtain ⟨kq, eK, rfl, HA, HJ2, aJ, aT, HB⟩ := hcut; cases kq with
  | zero => exact absurd HA.out (by simp [impl_DiskSync.j0])
  | succ yC =>
   have H := HA.out; clear HA; simp only [impl_DiskSync.j0] at H; by_cases pK : eK = true
   ·subst pK; replace H := iT H; simp only [Option.some.injEq, Prod.mk.injEq] at H; obtain ⟨rfl, rfl, rfl⟩ := H; have lE := bX.out; have lF := bW.out; obtain ⟨gX, gY, gZ, hJ⟩ := xf2 (w := wc) aT; go_wp2; refine bodyPost_ret (results_ct rfl _ _ dO 26 #[.int .i64 0, .slice none 0 0] (0, 0) _ rfl xP Try.underlying26 rfl (by kernel_rfl)) rfl ?_; exact ⟨_, xerr, u14_4, xbg⟩
   ·replace pK := Bool.eq_false_iff.mpr pK; subst pK; replace H := iN H; replace H := oB H; obtain ⟨⟨dP, cE⟩, lG, H⟩ := H; (try dsimp only at H); have vO := aM lG; clear lG; replace H := oB H
    obtain ⟨aI, fO, H⟩ := H; (try dsimp only at H); have iI := aM fO; clear fO
    by_cases jU : aI < 0
    ·rw [if_pos jU] at H; have lH : decide (aI < 0) = true := decide_eq_true jU; clear jU; simp only [Option.some.injEq, Prod.mk.injEq] at H; obtain ⟨rfl, rfl, rfl⟩ := H; have vP := bW.out; have vQ := bX.out; obtain ⟨pL, pM, pN, pO⟩ := xf2 (w := wc) aJ; go_wp2_with (first | ((with_reducible refine gC 80 rfl ?_); refine goesLY (some 19) rfl Try.func80 #[.agg #[.int .i64 aE, .slice aX aA.length aU]] ?_; (with_reducible refine (impl_copyDisk.calls aE _ _ aA dP cE _ ?side1 ?side2 vO.out).mono ?_); (case side1 => exact xcb aY); (case side2 => exact bA.out); rintro e vR ⟨sC, rfl, cD, hb⟩; refine ⟨_, rfl, ?_⟩; have aW := aM (Kd.R_lower cD (below_size xbg)); replace aJ := xbb aJ hb; replace aT := xbb aT hb; replace HB := xbs hb; (try clear hb cD)) | ((with_reducible refine gD 6 rfl ?_); refine boxE (N := 6) rfl (cs := #[.int .i64 0, .slice none 0 0]) (t := 26) ?_; intro eP hg rT hbox hb; replace aW := xrb aW hb; have lI := aM (xge hg); have lJ := aM (xge hg); replace HB := xbs hb; have cT := nblt aJ hg; have cU := nbgt aJ hg; have cV := nblt aT hg; have cW := nbgt aT hg; replace aJ := xbb aJ hb; replace aT := xbb aT hb; have bG := aM (hbox); clear hb hbox hg; have vS := cU.out; have vT := cT.out; have kA := cW.out; have kB := cV.out; obtain ⟨hU, hX, hZ, iA⟩ := xf2 (w := rT) bG; obtain ⟨lK, lL, sD⟩ := Kd.R_slice aW.out; subst sD; obtain ⟨pP, pQ, pR, pS⟩ := xf2 (w := rT) aJ) | ((with_reducible refine gC 129 rfl ?_); refine goesLY (some 22) rfl Try.func129 #[.agg #[.int .i64 aE, .slice aX aA.length aU], .int .i64 a1] ?_; (with_reducible refine (impl_fileAt.calls aE _ _ aA a1 aI _ ?side1 ?side2 iI.out).mono ?_); (case side1 => exact u14_2); (case side2 => exact bA.out); rintro e vU ⟨rfl, hb⟩; refine ⟨_, rfl, ?_⟩; replace aW := xrB aW hb; replace aJ := xbc aJ hb; replace aT := xbc aT hb; replace bG := aM (blk_below (g := eP) (o := .cells #[.int .i64 dP, .slice lK cE.length lL] 26 (0, 0)) xP hb); replace HB := xbs hb; (try clear hb); obtain ⟨pT, pW, pX, pY⟩ := xf2 (w := vU) bG; obtain ⟨iB, iC, iD, iE⟩ := xf2 (w := vU) aT))
     refine bodyPost_ret (results_ct rfl _ _ dO 26 #[.int .i64 dP, .slice lK cE.length lL] (0, 0) _ rfl xP Try.underlying26 rfl (by kernel_rfl)) rfl ?_; exact ⟨_, xerr, xrm aW (fun _ _ => trivial), xbg⟩
    ·rw [if_neg jU] at H; have lH : decide (aI < 0) = false := decide_eq_false jU; clear jU; by_cases pZ : 0 ≤ aI
     ·rw [if_pos pZ] at H; have vV : decide (0 ≤ aI) = true := decide_eq_true pZ; clear pZ; by_cases qA : aI < (aA.length : Int)
      ·rw [if_pos qA] at H; have vW : decide (aI < (aA.length : Int)) = true := decide_eq_true qA; clear qA; by_cases fV : ((rd_T95 aA aI).f1).size + ((rd_T95 aA aI).f2).size ≤ 9223372036854775807
       ·rw [if_pos fV] at H; have kF := eq_true fV; have vX : decide (((rd_T95 aA aI).f1).size + ((rd_T95 aA aI).f2).size ≤ 9223372036854775807) = true := decide_eq_true fV; try have vY : (9223372036854775807 < ((rd_T95 aA aI).f1).size + ((rd_T95 aA aI).f2).size) = False := eq_false (Nat.not_lt.2 fV)
        by_cases gG : aI < (cE.length : Int)
        ·rw [if_pos gG] at H; have kG : decide (aI < (cE.length : Int)) = true := decide_eq_true gG; clear gG; obtain ⟨lM, hY⟩ : ∃ y_ : List (S95), y_ = (cE.set (aI : Int).toNat (⟨a1, ((rd_T95 aA aI).f1) ++ ((rd_T95 aA aI).f2), (⟨#[]⟩ : ByteArray)⟩ : S95)) := ⟨_, rfl⟩; replace H : (some (dP, lM, 0)) = some (r1, r2, r3) := u14_0; have lN := aM hY; clear hY; simp only [Option.some.injEq, Prod.mk.injEq] at H; obtain ⟨rfl, rfl, rfl⟩ := H; have vZ := bW.out; have wA := bX.out; obtain ⟨qB, qC, qD, qE⟩ := xf2 (w := wc) aJ
         go_wp2_with (first | ((with_reducible refine gC 80 rfl ?_); refine goesLY (some 19) rfl Try.func80 #[.agg #[.int .i64 aE, .slice aX aA.length aU]] ?_; (with_reducible refine (impl_copyDisk.calls aE _ _ aA dP cE _ ?side1 ?side2 vO.out).mono ?_); (case side1 => exact xcb aY); (case side2 => exact bA.out); rintro e yD ⟨sC, rfl, cD, hb⟩; refine ⟨_, rfl, ?_⟩; have aW := aM (Kd.R_lower cD (below_size xbg)); replace aJ := xbb aJ hb; replace aT := xbb aT hb; replace HB := xbs hb; (try clear hb cD)) | ((with_reducible refine gD 6 rfl ?_); refine boxE (N := 6) rfl (cs := #[.int .i64 0, .slice none 0 0]) (t := 26) ?_; intro eP hg wB hbox hb; replace aW := xrb aW hb; have lI := aM (xge hg); have lJ := aM (xge hg); replace HB := xbs hb; have cT := nblt aJ hg; have cU := nbgt aJ hg; have cV := nblt aT hg; have cW := nbgt aT hg; replace aJ := xbb aJ hb; replace aT := xbb aT hb; have bG := aM (hbox); clear hb hbox hg; have wC := cU.out; have wD := cT.out; have wE := cW.out; have wF := cV.out; obtain ⟨qF, qG, qH, qI⟩ := xf2 (w := wB) bG; obtain ⟨lO, fD, sE⟩ := Kd.R_slice aW.out; subst sE; obtain ⟨qJ, qK, qL, qM⟩ := xf2 (w := wB) aJ) | ((with_reducible refine gC 129 rfl ?_); refine goesLY (some 22) rfl Try.func129 #[.agg #[.int .i64 aE, .slice aX aA.length aU], .int .i64 a1] ?_; (with_reducible refine (impl_fileAt.calls aE _ _ aA a1 aI _ ?side1 ?side2 iI.out).mono ?_); (case side1 => exact u14_2); (case side2 => exact bA.out); rintro e xL ⟨rfl, hb⟩; refine ⟨_, rfl, ?_⟩; replace aW := xrB aW hb; replace aJ := xbc aJ hb; replace aT := xbc aT hb; replace bG := aM (blk_below (g := eP) (o := .cells #[.int .i64 dP, .slice lO cE.length fD] 26 (0, 0)) xP hb); replace HB := xbs hb; (try clear hb); obtain ⟨gH, gI, gJ, gK⟩ := xf2 (w := xL) aJ; have p730 : 0 ≤ (aI : Int) := oda; have q730 : aI < (aA.length : Int) := oda; obtain ⟨lP, sF, eQ, eR, eS⟩ := at_T95 aY.out aI p730 q730; cases sF; replace eQ := xce HB eQ; replace eR := xce HB eR; replace eS := xce HB eS; replace p730 := eq_true p730; replace q730 := eq_true q730) | ((with_reducible refine gD 8 rfl ?_); refine boxE (N := 8) rfl (cs := #[.int .i64 0, .string (⟨#[]⟩ : ByteArray), .string (⟨#[]⟩ : ByteArray)]) (t := 95) ?_; intro bY hg rV hbox hb; replace aW := aM (Kd.R_below (Kd.R_elderB (xr aW) bY (Nat.le_of_eq hg.symm)) hb); have wG := aM (xge hg); have wH := aM (xge hg); replace HB := xbs hb; have fE := nblt aJ hg; have fF := nbgt aJ hg; have fG := nblt aT hg; have fH := nbgt aT hg; have fI := nblt bG hg; have fJ := nbgt bG hg; replace aJ := xbb aJ hb; replace aT := xbb aT hb; replace bG := xbb bG hb; have eT := aM (hbox); clear hb hbox hg; have wI := fF.out; have wJ := fE.out; have kO := fH.out; have kP := fG.out; have kQ := fJ.out; have kR := fI.out; obtain ⟨gL, gM, qN, gN, gO, qO⟩ := xf3 (w := rV) eT) | ((with_reducible refine gate_store (t := 95) (p := 8) rfl ?_); refine store_event (t := 95) (p := 8) (v := ?vo_w54) (w1 := (((rV.setCell ⟨bY, 0, none⟩ (.int .i64 ((rd_T95 aA aI).f0))).setCell ⟨bY, 1, none⟩ (.string ((rd_T95 aA aI).f1))).setCell ⟨bY, 2, none⟩ (.string ((rd_T95 aA aI).f2)))) ?hg ?ho ?hn ?hr ?_; (case ho | hg | hn => rfl); (case hr => exact u14_5); intro jI hw; replace aW : Aside0 (Kd.R k95 95 jI w.heap.size (fun k_ => k_ ≠ bY) (.slice lO cE.length fD) cE) := ⟨(by rw [hw]; exact (by (with_reducible repeat (first | apply Kd.R_alloc | apply Kd.R_drewN | apply Kd.R_drew)); exact Kd.R_mono (Kd.R_far (p := ⟨bY, 2, none⟩) (Kd.R_far (p := ⟨bY, 1, none⟩) (Kd.R_far (p := ⟨bY, 0, none⟩) (Kd.R_mono aW.out (fun k_ hk => (⟨hk, hk.2⟩ : _ ∧ k_ ≠ bY))) (fun _ hk => hk.2) (.int .i64 ((rd_T95 aA aI).f0))) (fun _ hk => hk.2) (.string ((rd_T95 aA aI).f1))) (fun _ hk => hk.2) (.string ((rd_T95 aA aI).f2))) (fun _ hk => hk.1.2)))⟩; replace aJ := xwc hw aJ; replace aT := xwc hw aT; replace bG := xwc hw bG; replace eT : Aside0 (jI.heap[bY]? = some (.cells #[.int .i64 ((rd_T95 aA aI).f0), .string ((rd_T95 aA aI).f1), .string ((rd_T95 aA aI).f2)] 95 (0, 0))) := xwp hw; replace HB := xbw hw HB; clear hw; obtain ⟨gP, gQ, gR, gS⟩ := xf2 (w := jI) bG; obtain ⟨qP, qQ, qR, qS, qT, qU⟩ := xf3 (w := jI) eT; have p37 : 0 ≤ (aI : Int) := oda; have q37 : (aI : Int) < ((cE.length : Int) : Int) := oda; obtain ⟨dQ, xM, lQ, lR, gl37, cl37, HG37⟩ := Kd.R_form aW.out (by omega); (first | cases lQ | (injection lQ with ea_ en_ ec_; (first | subst ea_ | (injection ea_ with ea_; subst ea_)); subst ec_; clear en_)); have GB37 := aM lR; have GG37 := aM HG37; clear lR gl37 HG37; obtain ⟨sG, sH, sI, sJ, sK, sL⟩ := impl_DiskSync.e95 aW.out (aI : Int) p37 q37; replace p37 := eq_true p37; replace q37 := eq_true q37; have lS := aM (show Kd.R k95 95 jI w.heap.size (fun k_ => k_ ≠ bY) (.slice (some ⟨dQ, 0, none⟩) cE.length fD) cE from (xr aW)); obtain ⟨ce57, iQ, lT, dR, eU⟩ := Kd.R_elem lS.out z95 (aI : Int) (oda) (by have h_ : (aI : Int) < ((cE.length : Int) : Int) := oda; first | exact h_ | (have e_ := (Kd.R_reads' aW.out).1; omega) | simpa using h_); obtain rfl := k95_openM lT; have jJ := Kd.R_seg lS.out (aI : Int) (oda) (by have h_ : (aI : Int) < ((cE.length : Int) : Int) := oda; first | exact h_ | (have e_ := (Kd.R_reads' aW.out).1; omega) | simpa using h_) (seg := [.int .i64 a1, .string (((rd_T95 aA aI).f1) ++ ((rd_T95 aA aI).f2)), .string (⟨#[]⟩ : ByteArray)]) (j := 0) iQ dR (show 3 ≤ 3 from by decide) (x' := (⟨a1, ((rd_T95 aA aI).f1) ++ ((rd_T95 aA aI).f2), (⟨#[]⟩ : ByteArray)⟩ : S95)) (k95_mkM _ _ _ (⟨a1, ((rd_T95 aA aI).f1) ++ ((rd_T95 aA aI).f2), (⟨#[]⟩ : ByteArray)⟩ : S95) ) (fun _ hk => hk); have jK := dR 0 _ rfl; (try simp only [show (k95).sz = 3 from rfl, Nat.mul_one, Nat.add_zero] at jK); have jL := eU 0; (try simp only [show (k95).sz = 3 from rfl, Nat.mul_one, Nat.add_zero] at jL); have jM := dR 1 _ rfl; (try simp only [show (k95).sz = 3 from rfl, Nat.mul_one, Nat.add_zero] at jM); have jN := eU 1; (try simp only [show (k95).sz = 3 from rfl, Nat.mul_one, Nat.add_zero] at jN); have jO := dR 2 _ rfl; (try simp only [show (k95).sz = 3 from rfl, Nat.mul_one, Nat.add_zero] at jO); have jP := eU 2; (try simp only [show (k95).sz = 3 from rfl, Nat.mul_one, Nat.add_zero] at jP); clear iQ dR eU lT) | ((with_reducible refine gate_store (t := 95) (p := 41) rfl ?_); refine store_event (t := 95) (p := 41) (v := ?vo_w58) (w1 := (((jI.setCell ⟨dQ, (aI : Int).toNat * 3, none⟩ (.int .i64 a1)).setCell ⟨dQ, (aI : Int).toNat * 3 + 1, none⟩ (.string (((rd_T95 aA aI).f1) ++ ((rd_T95 aA aI).f2)))).setCell ⟨dQ, (aI : Int).toNat * 3 + 2, none⟩ (.string (⟨#[]⟩ : ByteArray)))) ?hg ?ho ?hn ?hr ?_; (case ho | hg | hn => rfl); (case hr => exact u14_5); intro lU hw; have hg : jI.grownBy lU (some dQ) := (by rw [hw]; exact jJ.2); have hp_ : Kd.R k95 95 lU w.heap.size (fun k_ => k_ ≠ bY) (.slice (some ⟨dQ, 0, none⟩) cE.length fD) lM := (by rw [hw, lN.out]; exact jJ.1); clear jJ; replace aJ := aM (blk_grown (g := iP) (o := .cells #[.int .i64 aE, .slice (some lP) aA.length aU] 26 (0, 0)) xblk hg (Kd.R_ne aW.out aJ.out (by decide))); replace aT := aM (blk_grown (g := dO) (o := .cells #[.int .i64 0, .slice none 0 0] 26 (0, 0)) xblk hg (Kd.R_ne aW.out aT.out (by decide))); replace bG := aM (blk_grown (g := eP) (o := .cells #[.int .i64 dP, .slice (some ⟨dQ, 0, none⟩) cE.length fD] 26 (0, 0)) xblk hg (Kd.R_ne aW.out bG.out (by decide))); replace eT := aM (blk_grown (g := bY) (o := .cells #[.int .i64 ((rd_T95 aA aI).f0), .string ((rd_T95 aA aI).f1), .string ((rd_T95 aA aI).f2)] 95 (0, 0)) xblk hg (Kd.R_away aW.out (fun _ hk => hk))); replace aW := aM (hp_); replace HB := aM ((by rw [hw]; exact below_set (below_set (below_set (HB.out) GB37.out) GB37.out) GB37.out : Below w.heap.size w lU)); clear hg hw hp_; obtain ⟨qV, qW, qX, qY⟩ := xf2 (w := lU) bG; obtain ⟨qZ, rA, rB, rC⟩ := xf2 (w := lU) aT))
         refine bodyPost_ret (results_ct rfl _ _ dO 26 #[.int .i64 dP, .slice (some ⟨dQ, 0, none⟩) cE.length fD] (0, 0) _ rfl xP Try.underlying26 rfl (by kernel_rfl)) rfl ?_; exact ⟨_, xerr, xrm aW (fun _ _ => trivial), xbg⟩
        ·rw [if_neg gG] at H; exact absurd H (by simp)
       ·rw [if_neg fV] at H; exact absurd H (by simp)
      ·rw [if_neg qA] at H; exact absurd H (by simp)
     ·rw [if_neg pZ] at H; exact absurd H (by simp)

/-! ### impl_JournalMend: function 14 -/
def impl_JournalMend.f (k : Nat) (aE : Int) (aA : List (S95)) (a1 : Int) : Option (Int × (List (S95)) × Int) := (impl_JournalRead.f k aE aA a1).bind fun fS => ((impl_DiskCut.f k aE aA a1 fS.2).bind fun bZ => (if bZ.2.2 = 0 then ((impl_DiskSync.f k bZ.1 bZ.2.1 a1).bind fun dH => (some (dH.1, dH.2.1, dH.2.2))) else (some (bZ.1, bZ.2.1, bZ.2.2))))
theorem u14_mq2 {p : Prop} (h : p := by repeat' first | (with_reducible first | exact impl_DiskCut.mono _ _ _ _ _ | exact impl_DiskSync.mono _ _ _ _ | exact impl_JournalRead.mono _ _ _ _ | exact LeO.refl _ | exact LeO.none _ | refine LeO.ite ?_ ?_ | refine LeO.bind ?_ (fun _ => ?_)) | exact LeO.none _ | refine LeO.ite ?_ ?_ | refine LeO.bind ?_ (fun _ => ?_)) : p := h
theorem impl_JournalMend.mono : ∀ a0 a1 a2 k, LeO (impl_JournalMend.f k a0 a1 a2) (impl_JournalMend.f (k + 1) a0 a1 a2) := by
 intro a0 a1 a2 k
 unfold impl_JournalMend.f
 exact u14_mq2
set_option maxHeartbeats 8000000 in
set_option maxRecDepth 100000 in
theorem impl_JournalMend.calls (k : Nat) (aE : Int) (aX : Option Addr) (aU : Nat) (aA : List (S95)) (a1 : Int) (r1 : Int) (r2 : List (S95)) (r3 : Int) (w : World) (cF : Kd.C k95 w aX aA.length aA) (cG : aA.length ≤ aU) (h : impl_JournalMend.f k aE aA a1 = some (r1, r2, r3)) :
 Calls Try.prog 14 #[.agg #[.int .i64 aE, .slice aX aA.length aU], .int .i64 a1] w fun e w' => ∃ v1_ : Value, e = .returned (.tuple #[.agg #[.int .i64 r1, v1_], .int .i64 r3]) ∧ Kd.R k95 95 w' w.heap.size (fun _ => True) v1_ r2 ∧ Below w.heap.size w w' := by
 have iW := Try.underlying26
 have aY := aM cF
 have bA := aM cG
 clear cF cG
 have HB := aM (Below.refl w.heap.size w)
 have H : ((impl_JournalRead.f k aE aA a1).bind fun fS => ((impl_DiskCut.f k aE aA a1 fS.2).bind fun bZ => (if bZ.2.2 = 0 then ((impl_DiskSync.f k bZ.1 bZ.2.1 a1).bind fun dH => (some (dH.1, dH.2.1, dH.2.2))) else (some (bZ.1, bZ.2.1, bZ.2.2))))) = some (r1, r2, r3) := h
 clear h
 replace H := oB H
 obtain ⟨⟨jQ, fK⟩, lV, H⟩ := H
 (try dsimp only at H)
 have A3 := aM lV
 clear lV
 replace H := oB H
 obtain ⟨⟨dJ, dD, jR⟩, lW, H⟩ := H
 (try dsimp only at H)
 have A4 := aM lW
 clear lW
 by_cases c5 : jR = 0
 ·rw [if_pos c5] at H; obtain ⟨jS, sM⟩ := bT c5; clear c5; replace H := oB H; obtain ⟨⟨lX, lY, sN⟩, lC, H⟩ := H; (try dsimp only at H); have A6 := aM lC; clear lC
  simp only [Option.some.injEq, Prod.mk.injEq] at H; obtain ⟨rfl, rfl, rfl⟩ := H; go_enter Try.func14, Try.ntmps14
  go_wp2_with (first | ((with_reducible refine gD 2 rfl ?_); refine boxE (N := 2) rfl (cs := #[.int .i64 aE, .slice aX aA.length aU]) (t := 26) ?_; intro lZ hg w7 hbox hb; have aQ := aM (hbox); have mA := aM (xge hg); have mB := aM (xge hg); replace HB := xbs hb; clear hb hbox hg) | ((with_reducible refine gD 4 rfl ?_); refine boxE (N := 4) rfl (cs := #[.int .i64 0, .slice none 0 0]) (t := 26) ?_; intro dL hg w8 hbox hb; have mC := aM (xge hg); have mD := aM (xge hg); replace HB := xbs hb; have cX := nblt aQ hg; have cY := nbgt aQ hg; replace aQ := xbb aQ hb; have bB := aM (hbox); clear hb hbox hg; have sA := cX.out; have sB := cY.out; obtain ⟨eL, eM, eN, eO⟩ := xf2 (w := w8) aQ) | ((with_reducible refine gC 17 rfl ?_); refine goesLY (some 13) rfl Try.func17 #[.agg #[.int .i64 aE, .slice aX aA.length aU], .int .i64 a1] ?_; (with_reducible refine (impl_JournalRead.calls k aE _ _ aA a1 jQ fK _ ?side1 ?side2 A3.out).mono ?_); (case side1 => exact xcb aY); (case side2 => exact bA.out); rintro e vK ⟨mE, rfl, cD, hb⟩; refine ⟨_, rfl, ?_⟩; have cA := aM (Kd.R_lower cD (below_size xbg)); replace aQ := xbb aQ hb; replace bB := xbb bB hb; replace HB := xbs hb; (try clear hb cD); obtain ⟨rE, rF, rG, rH⟩ := xf2 (w := vK) aQ) | ((with_reducible refine gC 67 rfl ?_); refine goesLY (some 20) rfl Try.func67 #[.agg #[.int .i64 aE, .slice aX aA.length aU], .int .i64 a1, .int .i64 fK] ?_; (with_reducible refine (impl_DiskCut.calls k aE _ _ aA a1 fK dJ dD jR _ ?side1 ?side2 A4.out).mono ?_); (case side1 => exact xcb aY); (case side2 => exact bA.out); rintro e yE ⟨sO, rfl, cD, hb⟩; refine ⟨_, rfl, ?_⟩; replace cA := xrb cA hb; have bP := aM (Kd.R_lower cD (below_size xbg)); replace aQ := xbb aQ hb; replace bB := xbb bB hb; replace HB := xbs hb; (try clear hb cD)) | ((with_reducible refine gD 8 rfl ?_); refine boxE (N := 8) rfl (cs := #[.int .i64 0, .slice none 0 0]) (t := 26) ?_; intro dS hg vN hbox hb; replace cA := xrb cA hb; replace bP := xrb bP hb; have mF := aM (xge hg); have mG := aM (xge hg); replace HB := xbs hb; have cZ := nblt aQ hg; have dA := nbgt aQ hg; have dB := nblt bB hg; have dC := nbgt bB hg; replace aQ := xbb aQ hb; replace bB := xbb bB hb; have dU := aM (hbox); clear hb hbox hg; have wK := dA.out; have wL := cZ.out; have lE := dC.out; have lF := dB.out; obtain ⟨gX, gY, gZ, hJ⟩ := xf2 (w := vN) dU; obtain ⟨mH, mI, sP⟩ := Kd.R_slice bP.out; subst sP) | ((with_reducible refine gC 68 rfl ?_); refine goesLY (some 29) rfl Try.func68 #[.agg #[.int .i64 dJ, .slice mH dD.length mI], .int .i64 a1] ?_; (with_reducible refine (impl_DiskSync.calls k dJ _ _ dD a1 lX lY sN _ ?side1 ?side2 A6.out).mono ?_); (case side1 => exact (Kd.R_reads' (xrs bP)).2.2); (case side2 => exact (Kd.R_reads' bP.out).2.1); rintro e xN ⟨xO, rfl, cD, hb⟩; refine ⟨_, rfl, ?_⟩; replace cA := xrB cA hb; have iR := aM (Kd.R_lower (Kd.R_new' cD (Kd.R_lt (xrs bP))) (below_size xbg)); replace bP := aM (Kd.R_elder' (xrs bP) (Kd.R_base cD) hb); replace aQ := xbc aQ hb; replace bB := xbc bB hb; replace dU := aM (blk_below (g := dS) (o := .cells #[.int .i64 dJ, .slice mH dD.length mI] 26 (0, 0)) xP hb); replace HB := xbs hb; (try clear hb cD); obtain ⟨rI, rJ, rK, rL⟩ := xf2 (w := xN) bB; obtain ⟨sQ, sR, sS⟩ := Kd.R_slice iR.out; subst sS))
  refine bodyPost_ret (results_ct rfl _ _ dL 26 #[.int .i64 lX, .slice sQ lY.length sR] (0, 0) _ rfl xP Try.underlying26 rfl (by kernel_rfl)) rfl ?_; exact ⟨_, xerr, xrm iR (fun _ _ => trivial), xbg⟩
 ·rw [if_neg c5] at H; obtain ⟨jS, sM⟩ := bF c5; simp only [Option.some.injEq, Prod.mk.injEq] at H; obtain ⟨rfl, rfl, rfl⟩ := H; go_enter Try.func14, Try.ntmps14
  go_wp2_with (first | ((with_reducible refine gD 2 rfl ?_); refine boxE (N := 2) rfl (cs := #[.int .i64 aE, .slice aX aA.length aU]) (t := 26) ?_; intro lZ hg yF hbox hb; have aQ := aM (hbox); have mA := aM (xge hg); have mB := aM (xge hg); replace HB := xbs hb; clear hb hbox hg) | ((with_reducible refine gD 4 rfl ?_); refine boxE (N := 4) rfl (cs := #[.int .i64 0, .slice none 0 0]) (t := 26) ?_; intro dL hg vR hbox hb; have mC := aM (xge hg); have mD := aM (xge hg); replace HB := xbs hb; have cX := nblt aQ hg; have cY := nbgt aQ hg; replace aQ := xbb aQ hb; have bB := aM (hbox); clear hb hbox hg; have wM := cX.out; have wN := cY.out; obtain ⟨rM, rN, rO, rP⟩ := xf2 (w := vR) aQ) | ((with_reducible refine gC 17 rfl ?_); refine goesLY (some 13) rfl Try.func17 #[.agg #[.int .i64 aE, .slice aX aA.length aU], .int .i64 a1] ?_; (with_reducible refine (impl_JournalRead.calls k aE _ _ aA a1 jQ fK _ ?side1 ?side2 A3.out).mono ?_); (case side1 => exact xcb aY); (case side2 => exact bA.out); rintro e xQ ⟨mE, rfl, cD, hb⟩; refine ⟨_, rfl, ?_⟩; have cA := aM (Kd.R_lower cD (below_size xbg)); replace aQ := xbb aQ hb; replace bB := xbb bB hb; replace HB := xbs hb; (try clear hb cD); obtain ⟨hU, hX, hZ, iA⟩ := xf2 (w := xQ) aQ) | ((with_reducible refine gC 67 rfl ?_); refine goesLY (some 20) rfl Try.func67 #[.agg #[.int .i64 aE, .slice aX aA.length aU], .int .i64 a1, .int .i64 fK] ?_; (with_reducible refine (impl_DiskCut.calls k aE _ _ aA a1 fK dJ dD jR _ ?side1 ?side2 A4.out).mono ?_); (case side1 => exact xcb aY); (case side2 => exact bA.out); rintro e yG ⟨sO, rfl, cD, hb⟩; refine ⟨_, rfl, ?_⟩; replace cA := xrb cA hb; have bP := aM (Kd.R_lower cD (below_size xbg)); replace aQ := xbb aQ hb; replace bB := xbb bB hb; replace HB := xbs hb; (try clear hb cD)) | ((with_reducible refine gD 8 rfl ?_); refine boxE (N := 8) rfl (cs := #[.int .i64 0, .slice none 0 0]) (t := 26) ?_; intro dS hg sU hbox hb; replace cA := xrb cA hb; replace bP := xrb bP hb; have mF := aM (xge hg); have mG := aM (xge hg); replace HB := xbs hb; have cZ := nblt aQ hg; have dA := nbgt aQ hg; have dB := nblt bB hg; have dC := nbgt bB hg; replace aQ := xbb aQ hb; replace bB := xbb bB hb; have dU := aM (hbox); clear hb hbox hg; have wO := dA.out; have wP := cZ.out; have wQ := dC.out; have wR := dB.out; obtain ⟨iB, iC, iD, iE⟩ := xf2 (w := sU) dU; obtain ⟨fL, fM, sV⟩ := Kd.R_slice bP.out; subst sV; obtain ⟨gA, gB, gE, gF⟩ := xf2 (w := sU) bB) | ((with_reducible refine gate_store (t := 26) (p := 4) rfl ?_); refine store_event (t := 26) (p := 4) (v := ?vo_w35) (w1 := ((((sU.setCell ⟨dS, 0, none⟩ (.int .i64 dJ)).setCell ⟨dS, 1, none⟩ (.slice fL dD.length fM)).setCell ⟨dL, 0, none⟩ (.int .i64 dJ)).setCell ⟨dL, 1, none⟩ (.slice fL dD.length fM))) ?hg ?ho ?hn ?hr ?_; (case ho | hg | hn => rfl); (case hr => exact u14_5); intro rQ hw; replace cA : Aside0 (Kd.R Kd.string 9 rQ w.heap.size (fun _ => True) mE jQ) := xwm hw cA (fun _ _ => trivial); replace bP : Aside0 (Kd.R k95 95 rQ w.heap.size (fun _ => True) (.slice fL dD.length fM) dD) := xwm hw bP (fun _ _ => trivial); replace aQ := xwc hw aQ; replace bB : Aside0 (rQ.heap[dL]? = some (.cells #[.int .i64 dJ, .slice fL dD.length fM] 26 (0, 0))) := xwp hw; replace dU : Aside0 (rQ.heap[dS]? = some (.cells #[.int .i64 dJ, .slice fL dD.length fM] 26 (0, 0))) := xwp hw; replace HB := xbw hw HB; clear hw))
  refine bodyPost_ret (results_ct rfl _ _ dL 26 #[.int .i64 dJ, .slice fL dD.length fM] (0, 0) _ rfl xblk Try.underlying26 rfl (by kernel_rfl)) rfl ?_; exact ⟨_, xerr, by (with_reducible repeat (first | apply Kd.R_alloc | apply Kd.R_drewN | apply Kd.R_drew)); exact bP.out, xbg⟩

/-! ### impl_DiskSize: function 16 -/
def impl_DiskSize.f (k : Nat) (aE : Int) (aA : List (S95)) : Option (Int) := (impl_DiskOk.f k aE aA).bind fun fT => (if fT = true then ((impl_sizeOf.f k aE aA).bind fun fU => (some fU)) else (some (-1)))
theorem u14_mq3 {p : Prop} (h : p := by repeat' first | (with_reducible first | exact impl_DiskOk.mono _ _ _ | exact impl_sizeOf.mono _ _ _ | exact LeO.refl _ | exact LeO.none _ | refine LeO.ite ?_ ?_ | refine LeO.bind ?_ (fun _ => ?_)) | exact LeO.none _ | refine LeO.ite ?_ ?_ | refine LeO.bind ?_ (fun _ => ?_)) : p := h
theorem impl_DiskSize.mono : ∀ a0 a1 k, LeO (impl_DiskSize.f k a0 a1) (impl_DiskSize.f (k + 1) a0 a1) := by
 intro a0 a1 k
 unfold impl_DiskSize.f
 exact u14_mq3
set_option maxHeartbeats 8000000 in
set_option maxRecDepth 100000 in
theorem impl_DiskSize.calls (k : Nat) (aE : Int) (aX : Option Addr) (aU : Nat) (aA : List (S95)) (r : Int) (w : World) (cF : Kd.C k95 w aX aA.length aA) (cG : aA.length ≤ aU) (h : impl_DiskSize.f k aE aA = some r) :
 Calls Try.prog 16 #[.agg #[.int .i64 aE, .slice aX aA.length aU]] w fun e w' => e = .returned (.int .i64 r) ∧ Below w.heap.size w w' := by
 have iW := Try.underlying26
 have aY := aM cF
 have bA := aM cG
 clear cF cG
 have HB := aM (Below.refl w.heap.size w)
 have H : ((impl_DiskOk.f k aE aA).bind fun fT => (if fT = true then ((impl_sizeOf.f k aE aA).bind fun fU => (some fU)) else (some (-1)))) = some r := h
 clear h
 replace H := oB H
 obtain ⟨fT, iJ, H⟩ := H
 (try dsimp only at H)
 have A2 := aM iJ
 clear iJ
 by_cases c3 : fT = true
 ·subst c3; replace H := iT H; replace H := oB H; obtain ⟨fU, lW, H⟩ := H; (try dsimp only at H); have A4 := aM lW; clear lW
  obtain rfl := Option.some.inj H; go_enter Try.func16, Try.ntmps16
  go_wp2_with (first | ((with_reducible refine gD 1 rfl ?_); refine boxE (N := 1) rfl (cs := #[.int .i64 aE, .slice aX aA.length aU]) (t := 26) ?_; intro mJ hg w5 hbox hb; have cH := aM (hbox); have mK := aM (xge hg); have mL := aM (xge hg); replace HB := xbs hb; clear hb hbox hg; obtain ⟨sW, sX, sY, sZ⟩ := xf2 (w := w5) cH) | ((with_reducible refine gC 72 rfl ?_); refine goesLY (some 4) rfl Try.func72 #[.agg #[.int .i64 aE, .slice aX aA.length aU]] ?_; (with_reducible refine (impl_DiskOk.calls k aE _ _ aA true _ ?side1 ?side2 A2.out).mono ?_); (case side1 => exact xcb aY); (case side2 => exact bA.out); rintro e w7 ⟨rfl, hb⟩; refine ⟨_, rfl, ?_⟩; replace cH := xbb cH hb; replace HB := xbs hb; (try clear hb); obtain ⟨tA, tB, tC, tD⟩ := xf2 (w := w7) cH) | ((with_reducible refine gC 73 rfl ?_); refine goesLY (some 7) rfl Try.func73 #[.agg #[.int .i64 aE, .slice aX aA.length aU]] ?_; (with_reducible refine (impl_sizeOf.calls k aE _ _ aA fU _ ?side1 ?side2 A4.out).mono ?_); (case side1 => exact xcb aY); (case side2 => exact bA.out); rintro e w9 ⟨rfl, hb⟩; refine ⟨_, rfl, ?_⟩; replace cH := xbb cH hb; replace HB := xbs hb; (try clear hb)))
  go_ret
  exact ⟨xerr, xbg⟩
 ·replace c3 := Bool.eq_false_iff.mpr c3; subst c3; replace H := iN H; obtain rfl := Option.some.inj H; go_enter Try.func16, Try.ntmps16
  go_wp2_with (first | ((with_reducible refine gD 1 rfl ?_); refine boxE (N := 1) rfl (cs := #[.int .i64 aE, .slice aX aA.length aU]) (t := 26) ?_; intro mJ hg wS hbox hb; have cH := aM (hbox); have mK := aM (xge hg); have mL := aM (xge hg); replace HB := xbs hb; clear hb hbox hg; obtain ⟨eA, eB, eC, eD⟩ := xf2 (w := wS) cH) | ((with_reducible refine gC 72 rfl ?_); refine goesLY (some 4) rfl Try.func72 #[.agg #[.int .i64 aE, .slice aX aA.length aU]] ?_; (with_reducible refine (impl_DiskOk.calls k aE _ _ aA false _ ?side1 ?side2 A2.out).mono ?_); (case side1 => exact xcb aY); (case side2 => exact bA.out); rintro e wZ ⟨rfl, hb⟩; refine ⟨_, rfl, ?_⟩; replace cH := xbb cH hb; replace HB := xbs hb; (try clear hb)))
  go_ret
  exact ⟨xerr, xbg⟩

/-! ### impl_PutNum: function 142 -/
def impl_PutNum.l0 : Nat → Int → List Int → Option (List Int)
 | 0, _, _ => none
 | k + 1, x0, x3 => if x0 > 127 then (if x3.length < 140737488355328 then (impl_PutNum.l0 k (x0 / 128) (x3 ++ [(Go.bits .or .i64 (Go.bits .and .i64 x0 127) 128) % 256])) else (none)) else (if x3.length < 140737488355328 then (some (x3 ++ [(x0) % 256])) else (none))
def impl_PutNum.f (k : Nat) (a0 : Int) : Option (List Int) := if a0 < 0 then (some ([] : List Int)) else (impl_PutNum.l0 k a0 (([] : List Int)))
theorem u14_mq4 {p : Prop} (h : p := by repeat' first | (with_reducible first | exact iH _ _ | exact LeO.refl _ | exact LeO.none _ | refine LeO.ite ?_ ?_ | refine LeO.bind ?_ (fun _ => ?_)) | exact LeO.none _ | refine LeO.ite ?_ ?_ | refine LeO.bind ?_ (fun _ => ?_)) : p := h
set_option maxRecDepth 100000 in
theorem impl_PutNum.mono_l : ∀ k, (∀ y0 y1, LeO (impl_PutNum.l0 k y0 y1) (impl_PutNum.l0 (k + 1) y0 y1))
 | 0 => fun _ _ r h => by simp [impl_PutNum.l0] at h
 | k + 1 => by
  have iH := impl_PutNum.mono_l k
  ·intro y0 y1; unfold impl_PutNum.l0; exact u14_mq4
theorem impl_PutNum.mono : ∀ a0 k, LeO (impl_PutNum.f k a0) (impl_PutNum.f (k + 1) a0) := by
 intro a0 k
 have iH := impl_PutNum.mono_l k
 unfold impl_PutNum.f
 exact u14_mq4
set_option maxHeartbeats 8000000 in
set_option maxRecDepth 100000 in
theorem impl_PutNum.calls (k : Nat) (a0 : Int) (r : List Int) (w : World) (h : impl_PutNum.f k a0 = some r) :
 Calls Try.prog 142 #[.int .i64 a0] w fun e w' => ∃ v0_ : Value, e = .returned (v0_) ∧ Kd.R (Kd.int .u8) 5 w' w.heap.size (fun _ => True) v0_ r ∧ Below w.heap.size w w' := by
 have HB := aM (Below.refl w.heap.size w)
 have H : (if a0 < 0 then (some ([] : List Int)) else (impl_PutNum.l0 k a0 (([] : List Int)))) = some r := h
 clear h
 by_cases c2 : a0 < 0
 ·rw [if_pos c2] at H; have iF : decide (a0 < 0) = true := decide_eq_true c2; clear c2; obtain rfl := Option.some.inj H; go_enter Try.func142, Try.ntmps142
  go_wp2; go_ret
  exact ⟨_, xerr, u14_4, xbel⟩
 ·rw [if_neg c2] at H; have iF : decide (a0 < 0) = false := decide_eq_false c2; clear c2; obtain ⟨mM, hY⟩ : ∃ y_ : List Int, y_ = (([] : List Int)) := ⟨_, rfl⟩; replace H : (impl_PutNum.l0 k a0 mM) = some r := u14_0; have iS := aM hY; clear hY; have H' := aM H; clear H; go_enter Try.func142, Try.ntmps142
  go_wp2_with (first | ((with_reducible refine gD 6 rfl ?_); refine Kd.R_lit (Kd.int .u8) _ 5 ?hg (N := 6) ?hd (xs := ([] : List Int)) (inner := []) (ok := fun _ => True) (okp := fun _ => True) ?hr ?hp (fun _ hk => hk) trivial (Below.refl _ _) (Nat.le_refl _) (by simp) ?_; (case hd => rfl); (case hg => rfl); (case hr => exact u14_5); (case hp => exact (Reps.none _ _)); intro xR w3 mN hb hg_ hnew_; clear hg_ hnew_; (first | rw [← iS.out] at mN | (simp only [Int.reduceToNat] at mN; rw [← iS.out] at mN)); have mO := aM (Kd.R_lower mN (below_size xbel)); replace HB := xbs hb; clear hb mN))
  go_loopg [0, 3] k (fun kq v0 v3 w' => ∃ (cQ : Int) (dM : List Int), v0 = .int .i64 cQ ∧ Aside0 (impl_PutNum.l0 kq cQ dM = some r) ∧ Aside0 (kq ≤ k) ∧ Aside0 (Kd.R (Kd.int .u8) 5 w' w.heap.size (fun _ => True) v3 dM) ∧ Aside0 (Below w.heap.size w w'))
  case atStart => exact ⟨(a0), (mM), u14_1, H', ⟨Nat.le_refl _⟩, ⟨by (with_reducible repeat (first | apply Kd.R_alloc | apply Kd.R_drewN | apply Kd.R_drew)); exact mO.out⟩, ⟨xbel⟩⟩
  case round =>
   clear H'; try clear c1
   try clear c2
   try clear iF
   try clear p2
   obtain ⟨cQ, dM, rfl, HA, HK1, iG, HB⟩ := hrel; cases gk with
   | zero => exact absurd HA.out (by simp [impl_PutNum.l0])
   | succ k1 =>
    have H := HA.out; clear HA; simp only [impl_PutNum.l0] at H; by_cases c5 : cQ > 127
    ·rw [if_pos c5] at H; have jS : decide (127 < cQ) = true := decide_eq_true c5; clear c5; by_cases c6 : dM.length < 140737488355328
     ·rw [if_pos c6] at H; have LMc6 := aM c6; clear c6; obtain ⟨mP, hY⟩ : ∃ y_ : List Int, y_ = (dM ++ [(Go.bits .or .i64 (Go.bits .and .i64 cQ 127) 128) % 256]) := ⟨_, rfl⟩; replace H : (impl_PutNum.l0 k1 (cQ / 128) mP) = some r := u14_0; have mQ := aM hY; clear hY; have H' := aM H; clear H; go_wp2_with (first | ((with_reducible refine gate_builtin (b := .append) (xs := #[.tmp 9, .tmp 14]) rfl ?_); at_builtin; refine Kd.R_append (Kd.int .u8) (w0 := w) w.heap.size rfl (.tmp 9) (.tmp 14) 22 5 (.int .u8 0) 1 rfl Try.underlying22 info5 rfl (by decide) (by omega) u3 dM ((Go.bits .or .i64 (Go.bits .and .i64 cQ 127) 128) % 256) [.int .u8 ((Go.bits .or .i64 (Go.bits .and .i64 cQ 127) 128) % 256)] (fun _ => True) (fun _ => False) rfl rfl ?aP (fun _ hk => hk.elim) ?aF ?aO ?aB ?aS ?aL ?_; (case aP => exact rfl); (case aB => exact xbel); (case aF => exact (fun _ _ => trivial)); (case aO => exact (xr iG)); (case aS => exact (below_size xbel)); (case aL => have := LMc6.out; omega); intro xS w7 ho hb hg hat; rw [← mQ.out] at ho; replace HB := aM (hb); have mR := aM (ho); clear iG; clear ho hb hg hat))
      go_roundg k1
      case measure => have := HK1.out; omega
      case rel => exact ⟨(cQ / 128), (mP), u14_1, H', ⟨by have := HK1.out; omega⟩, ⟨by (with_reducible repeat (first | apply Kd.R_alloc | apply Kd.R_drewN | apply Kd.R_drew)); exact mR.out⟩, ⟨xbel⟩⟩
     ·rw [if_neg c6] at H; exact absurd H (by simp)
    ·rw [if_neg c5] at H; have jS : decide (127 < cQ) = false := decide_eq_false c5; clear c5; by_cases c8 : dM.length < 140737488355328
     ·rw [if_pos c8] at H; have LMc8 := aM c8; clear c8; obtain ⟨tE, hY⟩ : ∃ y_ : List Int, y_ = (dM ++ [(cQ) % 256]) := ⟨_, rfl⟩; replace H : (some tE) = some r := u14_0; have mS := aM hY; clear hY; obtain rfl := Option.some.inj H; go_wp2_with (first | ((with_reducible refine gate_builtin (b := .append) (xs := #[.tmp 18, .tmp 21]) rfl ?_); at_builtin; refine Kd.R_append (Kd.int .u8) (w0 := w) w.heap.size rfl (.tmp 18) (.tmp 21) 22 5 (.int .u8 0) 1 rfl Try.underlying22 info5 rfl (by decide) (by omega) u3 dM ((cQ) % 256) [.int .u8 ((cQ) % 256)] (fun _ => True) (fun _ => False) rfl rfl ?aP (fun _ hk => hk.elim) ?aF ?aO ?aB ?aS ?aL ?_; (case aP => exact rfl); (case aB => exact xbel); (case aF => exact (fun _ _ => trivial)); (case aO => exact (xr iG)); (case aS => exact (below_size xbel)); (case aL => have := LMc8.out; omega); intro xT w9 ho hb hg hat; rw [← mS.out] at ho; replace HB := aM (hb); have mT := aM (ho); clear iG; clear ho hb hg hat))
      go_ret
      exact ⟨_, xerr, by (with_reducible repeat (first | apply Kd.R_alloc | apply Kd.R_drewN | apply Kd.R_drew)); exact mT.out, xbel⟩
     ·rw [if_neg c8] at H; exact absurd H (by simp)

/-! ### impl_Seal: function 78 -/
def impl_Seal.f (k : Nat) (l0 : List Int) : Option (List Int × Bool) := if (l0.length : Int) > 3000 then (some (([] : List Int), false)) else ((impl_PutNum.f k (l0.length : Int)).bind fun dK => (if dK.length + l0.length < 140737488355328 then ((some (dK ++ l0 : List Int)).bind fun dI => ((impl_sumBytes.f k l0).bind fun cS => (if dI.length + cS.length < 140737488355328 then (some ((dI ++ cS), true)) else (none)))) else (none)))
theorem u14_mq5 {p : Prop} (h : p := by repeat' first | (with_reducible first | exact impl_PutNum.mono _ _ | exact impl_sumBytes.mono _ _ | exact LeO.refl _ | exact LeO.none _ | refine LeO.ite ?_ ?_ | refine LeO.bind ?_ (fun _ => ?_)) | exact LeO.none _ | refine LeO.ite ?_ ?_ | refine LeO.bind ?_ (fun _ => ?_)) : p := h
theorem impl_Seal.mono : ∀ a0 k, LeO (impl_Seal.f k a0) (impl_Seal.f (k + 1) a0) := by
 intro a0 k
 unfold impl_Seal.f
 exact u14_mq5
set_option maxHeartbeats 8000000 in
set_option maxRecDepth 100000 in
theorem impl_Seal.calls (k : Nat) (A0 : Option Addr) (c0 : Nat) (l0 : List Int) (r1 : List Int) (r2 : Bool) (w : World) (wT : Kd.C (Kd.int .u8) w A0 l0.length l0) (wU : l0.length ≤ c0) (h : impl_Seal.f k l0 = some (r1, r2)) :
 Calls Try.prog 78 #[.slice A0 l0.length c0] w fun e w' => ∃ v0_ : Value, e = .returned (.tuple #[v0_, .bool r2]) ∧ Kd.R (Kd.int .u8) 5 w' w.heap.size (fun _ => True) v0_ r1 ∧ Below w.heap.size w w' := by
 have wV := aM wT
 have xU := aM wU
 clear wT wU
 have HB := aM (Below.refl w.heap.size w)
 have H : (if (l0.length : Int) > 3000 then (some (([] : List Int), false)) else ((impl_PutNum.f k (l0.length : Int)).bind fun dK => (if dK.length + l0.length < 140737488355328 then ((some (dK ++ l0 : List Int)).bind fun dI => ((impl_sumBytes.f k l0).bind fun cS => (if dI.length + cS.length < 140737488355328 then (some ((dI ++ cS), true)) else (none)))) else (none)))) = some (r1, r2) := h
 clear h
 by_cases c2 : (l0.length : Int) > 3000
 ·rw [if_pos c2] at H; have iF : decide (3000 < (l0.length : Int)) = true := decide_eq_true c2; have tF : decide (3000 < l0.length) = true := decide_eq_true (by omega); clear c2; simp only [Option.some.injEq, Prod.mk.injEq] at H; obtain ⟨rfl, rfl⟩ := H; go_enter Try.func78, Try.ntmps78
  go_wp2; go_ret2
  exact ⟨_, xerr, u14_4, xbel⟩
 ·rw [if_neg c2] at H; have iF : decide (3000 < (l0.length : Int)) = false := decide_eq_false c2; have tF : decide (3000 < l0.length) = false := decide_eq_false (by omega); clear c2; replace H := oB H; obtain ⟨dK, lV, H⟩ := H; (try dsimp only at H); have A3 := aM lV; clear lV
  by_cases c4 : dK.length + l0.length < 140737488355328
  ·rw [if_pos c4] at H; have LMc4 := aM c4; clear c4; obtain ⟨dI, hY⟩ : ∃ y_ : List Int, y_ = (dK ++ l0) := ⟨_, rfl⟩; replace H : ((impl_sumBytes.f k l0).bind fun cS => (if dI.length + cS.length < 140737488355328 then (some ((dI ++ cS), true)) else (none))) = some (r1, r2) := u14_0; have mU := aM hY; clear hY; replace H := oB H; obtain ⟨cS, wW, H⟩ := H; (try dsimp only at H); have A5 := aM wW; clear wW
   by_cases c6 : dI.length + cS.length < 140737488355328
   ·rw [if_pos c6] at H; have LMc6 := aM c6; clear c6; obtain ⟨tG, hY⟩ : ∃ y_ : List Int, y_ = (dI ++ cS) := ⟨_, rfl⟩; replace H : (some (tG, true)) = some (r1, r2) := u14_0; have mV := aM hY; clear hY; simp only [Option.some.injEq, Prod.mk.injEq] at H; obtain ⟨rfl, rfl⟩ := H; go_enter Try.func78, Try.ntmps78
    go_wp2_with (first | ((with_reducible refine gC 142 rfl ?_); refine goesLY (some 9) rfl Try.func142 #[.int .i64 (l0.length : Int)] ?_; (with_reducible refine (impl_PutNum.calls k (l0.length : Int) dK _ A3.out).mono ?_); rintro e w7 ⟨tH, rfl, cD, hb⟩; refine ⟨_, rfl, ?_⟩; have iU := aM (Kd.R_lower cD (below_size xbel)); replace HB := xbs hb; (try clear hb cD)) | ((with_reducible refine gate_builtin (b := .append) (xs := #[.tmp 9, .tmp 10]) rfl ?_); at_builtin; refine Kd.R_append_rows (Kd.int .u8) (w0 := w) w.heap.size rfl (.tmp 9) (.tmp 10) 22 5 (.int .u8 0) 1 rfl Try.underlying22 info5 rfl (by decide) (by omega) tH dK l0 _ _ _ (fun _ => True) (fun _ => False) rfl rfl ?aO ?aR (fun _ _ h => h) (fun _ h => h.elim) ?aF ?aB ?aS ?aL ?_; (case aR => exact xcb wV); (case aB => exact xbel); (case aF => exact (fun _ _ => trivial)); (case aO => exact (xr iU)); (case aS => exact (below_size xbel)); (case aL => have := LMc4.out; omega); intro tI w8 ho hb hg hat; rw [← mU.out] at ho; replace HB := aM (hb); have dV := aM (ho); clear iU; clear ho hb hg hat) | ((with_reducible refine gC 139 rfl ?_); refine goesLY (some 13) rfl Try.func139 #[.slice A0 l0.length c0] ?_; (with_reducible refine (impl_sumBytes.calls k _ _ l0 cS _ ?side1 ?side2 A5.out).mono ?_); (case side1 => exact xcb wV); (case side2 => exact xU.out); rintro e w9 ⟨xV, rfl, cD, hb⟩; refine ⟨_, rfl, ?_⟩; have dW := aM (Kd.R_lower (Kd.R_new' cD (Kd.R_lt (xr dV))) (below_size xbel)); replace dV := aM (Kd.R_elder' (xr dV) (Kd.R_base cD) hb); replace HB := xbs hb; (try clear hb cD); obtain ⟨tJ, tL, tM⟩ := Kd.R_slice dW.out; subst tM) | ((with_reducible refine gate_builtin (b := .append) (xs := #[.tmp 11, .tmp 13]) rfl ?_); at_builtin; refine Kd.R_append_rows (Kd.int .u8) (w0 := w) w.heap.size rfl (.tmp 11) (.tmp 13) 22 5 (.int .u8 0) 1 rfl Try.underlying22 info5 rfl (by decide) (by omega) tI dI cS _ _ _ (fun k_ => some k_ ≠ (.slice tJ cS.length tL : Value).ownBlock) (fun _ => False) rfl rfl ?aO ?aR (fun _ _ h => h) (fun _ h => h.elim) ?aF ?aB ?aS ?aL ?_; (case aR => repeat (first | exact (Kd.R_reads' dW.out).2.2 | (with_reducible refine Kd.C_alloc ?_ _) | (with_reducible refine Kd.C_drewN ?_ _) | (with_reducible refine Kd.C_drew ?_))); (case aB => exact xbel); (case aF => exact (fun k_ hk => Kd.fresh' (Kd.R_lt (xr dW)) k_ hk)); (case aO => exact (by (with_reducible repeat (first | apply Kd.R_alloc | apply Kd.R_drewN | apply Kd.R_drew)); exact Kd.R_mono dV.out (fun _ hk => hk.2))); (case aS => exact (below_size xbel)); (case aL => have := LMc6.out; omega); intro xW wS ho hb hg hat; rw [← mV.out] at ho; replace dW := aM (Kd.R_after (ok := (fun _ => True)) (xr dW) hg hat); replace HB := aM (hb); have mW := aM (ho); clear dV; clear ho hb hg hat))
    go_ret2
    exact ⟨_, xerr, by (with_reducible repeat (first | apply Kd.R_alloc | apply Kd.R_drewN | apply Kd.R_drew)); exact Kd.R_mono mW.out (fun _ hk => trivial), xbel⟩
   ·rw [if_neg c6] at H; exact absurd H (by simp)
  ·rw [if_neg c4] at H; exact absurd H (by simp)

end Go.Proofs.Ytoojdlobnbakoaa.QFnJournal
