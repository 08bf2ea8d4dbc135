-- A walk, by a program of this session.
import Derived.Test.YtnjpfllmcmomoaaQFnExactJournalLatex0
import Derived.Test.YtnjpfllmcmomoaaQFnExactJournalLatex1
import Derived.Test.YtnjpfllmcmomoaaQFnExactJournalLatex5
import Derived.Test.YtnjpfllmcmomoaaQFnExactJournalLatex6
import Derived.Test.YtnjpfllmcmomoaaQFnExactJournalLatex7
namespace Go.Proofs.Ytnjpfllmcmomoaa.QFnExactJournalLate
open Go.RowKit Go.Proofs.YtnjpfllmcmomoaaW.PrintWords Go.Proofs.YtnjpfllmcmomoaaW.PrintLast Go.Proofs.YtnjpfllmcmomoaaW.PrintMore
attribute [local go_sem] max2_int min2_int max_two min_two max_three min_three max_four min_four   -- for this text's walks alone
set_option linter.unusedVariables false
set_option linter.unusedSimpArgs false

/-! ### impl_sumBytes: function 164 -/
def impl_sumBytes.f (k : Nat) (l0 : List Int) : Option (List Int) := (impl_Sum.f k l0).bind fun t331 => (some (([(Go.bits .and .i64 t331 255) % 256, (Go.bits .and .i64 (t331 / 256) 255) % 256, (Go.bits .and .i64 (t331 / 65536) 255) % 256, (Go.bits .and .i64 (t331 / 16777216) 255) % 256] : List Int)))
theorem impl_sumBytes.mono : ∀ a0 k, LeO (impl_sumBytes.f k a0) (impl_sumBytes.f (k + 1) a0) := by
 intro a0 k
 unfold impl_sumBytes.f
 repeat' first
  | (with_reducible exact impl_Sum.mono _ _)
  | (with_reducible exact LeO.refl _)
  | (with_reducible exact LeO.none _)
  | (with_reducible refine LeO.ite ?_ ?_)
  | (with_reducible refine LeO.bind ?_ (fun _ => ?_))
  | exact impl_Sum.mono _ _
  | exact LeO.none _
  | refine LeO.ite ?_ ?_
  | refine LeO.bind ?_ (fun _ => ?_)
set_option maxHeartbeats 8000000 in
set_option maxRecDepth 100000 in
theorem impl_sumBytes.calls (k : Nat) (A0 : Option Addr) (c0 : Nat) (l0 : List Int) (r : List Int) (w : World) (hr0 : Kd.C (Kd.int .u8) w A0 l0.length l0) (hc0 : l0.length ≤ c0) (h : impl_sumBytes.f k l0 = some r) :
 Calls Try.prog 164 #[.slice A0 l0.length c0] w fun e w' => ∃ v0_ : Value, e = .returned (v0_) ∧ Kd.R (Kd.int .u8) 5 w' w.heap.size (fun _ => True) v0_ r ∧ Below w.heap.size w w' := by
 have HR0 := aM hr0
 have HC0 := aM hc0
 clear hr0 hc0
 have HB := aM (Below.refl w.heap.size w)
 have H : ((impl_Sum.f k l0).bind fun t331 => (some (([(Go.bits .and .i64 t331 255) % 256, (Go.bits .and .i64 (t331 / 256) 255) % 256, (Go.bits .and .i64 (t331 / 65536) 255) % 256, (Go.bits .and .i64 (t331 / 16777216) 255) % 256] : List Int)))) = some r := h
 clear h
 replace H := Option.bind_eq_some_iff.mp H
 obtain ⟨t331, A20, H⟩ := H
 replace H : (some (([(Go.bits .and .i64 t331 255) % 256, (Go.bits .and .i64 (t331 / 256) 255) % 256, (Go.bits .and .i64 (t331 / 65536) 255) % 256, (Go.bits .and .i64 (t331 / 16777216) 255) % 256] : List Int))) = some r := H
 have A2 := aM A20
 clear A20
 obtain ⟨y332, hy332⟩ : ∃ y_ : List Int, y_ = (([(Go.bits .and .i64 t331 255) % 256, (Go.bits .and .i64 (t331 / 256) 255) % 256, (Go.bits .and .i64 (t331 / 65536) 255) % 256, (Go.bits .and .i64 (t331 / 16777216) 255) % 256] : List Int)) := ⟨_, rfl⟩
 replace H : (some y332) = some r := by first | (rw [hy332]; with_reducible exact H) | (have H2_ := (Option.bind_some _ _).symm.trans H; rw [hy332]; with_reducible exact H2_) | (have H2_ := (Option.bind_some _ _).symm.trans H; with_reducible exact H2_) | with_reducible exact H | (rw [hy332]; exact H) | exact H
 have Ny332 := aM hy332
 clear hy332
 obtain rfl := Option.some.inj H
 go_enter Try.func164, Try.ntmps164
 go_wp2_with (first | ((with_reducible refine gate_callee (f := 172) rfl ?_); refine goesL_ (some 5) rfl rfl Try.func172 (by kernel_rfl) rfl #[.slice A0 l0.length c0] rfl (by (try simp only [List.map_toArray, List.map_cons, List.map_nil]); first | done | rfl | (simp only [List.length_drop, List.length_take]; rfl)) ?_; (with_reducible refine (impl_Sum.calls k _ _ l0 t331 _ ?side1 ?side2 A2.out).mono ?_); (case side1 => repeat (first | exact HR0.out | (with_reducible refine Kd.C_alloc ?_ _) | (with_reducible refine Kd.C_drewN ?_ _) | (with_reducible refine Kd.C_drew ?_))); (case side2 => exact HC0.out); rintro e w' ⟨rfl, ⟨nd, rfl⟩⟩; refine ⟨_, rfl, ?_⟩) | ((with_reducible refine gate_dst (N := 21) rfl ?_); refine Kd.R_lit (Kd.int .u8) _ 5 ?hg (N := 21) ?hd (xs := ([(Go.bits .and .i64 t331 255) % 256, (Go.bits .and .i64 (t331 / 256) 255) % 256, (Go.bits .and .i64 (t331 / 65536) 255) % 256, (Go.bits .and .i64 (t331 / 16777216) 255) % 256] : List Int)) (inner := [.int .u8 ((Go.bits .and .i64 t331 255) % 256), .int .u8 ((Go.bits .and .i64 (t331 / 256) 255) % 256), .int .u8 ((Go.bits .and .i64 (t331 / 65536) 255) % 256), .int .u8 ((Go.bits .and .i64 (t331 / 16777216) 255) % 256)]) (ok := fun _ => True) (okp := fun _ => True) ?hr ?hp (fun _ hk => hk) trivial (Below.refl _ _) (Nat.le_refl _) (by simp) ?_; (case hd => rfl); (case hg => rfl); (case hr => first | (go_simp; done) | (go_simp; rfl)); (case hp => exact (Reps.one (show Kd.M (Kd.int .u8) _ _ _ ((Go.bits .and .i64 t331 255) % 256) [.int .u8 ((Go.bits .and .i64 t331 255) % 256)] from rfl) (Reps.one (show Kd.M (Kd.int .u8) _ _ _ ((Go.bits .and .i64 (t331 / 256) 255) % 256) [.int .u8 ((Go.bits .and .i64 (t331 / 256) 255) % 256)] from rfl) (Reps.one (show Kd.M (Kd.int .u8) _ _ _ ((Go.bits .and .i64 (t331 / 65536) 255) % 256) [.int .u8 ((Go.bits .and .i64 (t331 / 65536) 255) % 256)] from rfl) (Reps.one (show Kd.M (Kd.int .u8) _ _ _ ((Go.bits .and .i64 (t331 / 16777216) 255) % 256) [.int .u8 ((Go.bits .and .i64 (t331 / 16777216) 255) % 256)] from rfl) (Reps.none _ _)))))); intro v333 w3 ho4 hb hg_ hnew_; clear hg_ hnew_; (first | rw [← Ny332.out] at ho4 | (simp only [Int.reduceToNat] at ho4; rw [← Ny332.out] at ho4)); have HO334 := aM (Kd.R_lower ho4 (below_size xbel)); replace HB := xbs hb; clear hb ho4))
 go_ret
 exact ⟨_, by first | rfl | (simp [errW_none, errW_some] <;> rfl) | (simp [*, errW_none, errW_some] <;> rfl), by (with_reducible repeat (first | apply Kd.R_alloc | apply Kd.R_drewN | apply Kd.R_drew)); exact HO334.out, xbel⟩

/-! ### impl_Seal: function 134 -/
def impl_Seal.f (k : Nat) (l0 : List Int) : Option (List Int × Bool) := if (l0.length : Int) > 3000 then (some (([] : List Int), false)) else ((impl_PutNum.f k (l0.length : Int)).bind fun t335 => (if t335.length + l0.length < 140737488355328 then ((some (t335 ++ l0 : List Int)).bind fun y338 => ((impl_sumBytes.f k l0).bind fun t341 => (if y338.length + t341.length < 140737488355328 then (some ((y338 ++ t341), true)) else (none)))) else (none)))
theorem impl_Seal.mono : ∀ a0 k, LeO (impl_Seal.f k a0) (impl_Seal.f (k + 1) a0) := by
 intro a0 k
 unfold impl_Seal.f
 repeat' first
  | (with_reducible exact impl_PutNum.mono _ _)
  | (with_reducible exact impl_sumBytes.mono _ _)
  | (with_reducible exact LeO.refl _)
  | (with_reducible exact LeO.none _)
  | (with_reducible refine LeO.ite ?_ ?_)
  | (with_reducible refine LeO.bind ?_ (fun _ => ?_))
  | exact impl_PutNum.mono _ _
  | exact impl_sumBytes.mono _ _
  | exact LeO.none _
  | refine LeO.ite ?_ ?_
  | refine LeO.bind ?_ (fun _ => ?_)
set_option maxHeartbeats 8000000 in
set_option maxRecDepth 100000 in
theorem impl_Seal.calls (k : Nat) (A0 : Option Addr) (c0 : Nat) (l0 : List Int) (r1 : List Int) (r2 : Bool) (w : World) (hr0 : Kd.C (Kd.int .u8) w A0 l0.length l0) (hc0 : l0.length ≤ c0) (h : impl_Seal.f k l0 = some (r1, r2)) :
 Calls Try.prog 134 #[.slice A0 l0.length c0] w fun e w' => ∃ v0_ : Value, e = .returned (.tuple #[v0_, .bool r2]) ∧ Kd.R (Kd.int .u8) 5 w' w.heap.size (fun _ => True) v0_ r1 ∧ Below w.heap.size w w' := by
 have HR0 := aM hr0
 have HC0 := aM hc0
 clear hr0 hc0
 have HB := aM (Below.refl w.heap.size w)
 have H : (if (l0.length : Int) > 3000 then (some (([] : List Int), false)) else ((impl_PutNum.f k (l0.length : Int)).bind fun t335 => (if t335.length + l0.length < 140737488355328 then ((some (t335 ++ l0 : List Int)).bind fun y338 => ((impl_sumBytes.f k l0).bind fun t341 => (if y338.length + t341.length < 140737488355328 then (some ((y338 ++ t341), true)) else (none)))) else (none)))) = some (r1, r2) := h
 clear h
 by_cases c2 : (l0.length : Int) > 3000
 ·rw [if_pos c2] at H
  have c2b0 : decide (3000 < (l0.length : Int)) = true := decide_eq_true c2; have c2b1 : decide (3000 < l0.length) = true := decide_eq_true (by omega); clear c2
  simp only [Option.some.injEq, Prod.mk.injEq] at H
  obtain ⟨rfl, rfl⟩ := H
  go_enter Try.func134, Try.ntmps134
  go_wp2
  go_ret2
  exact ⟨_, by first | rfl | (simp [errW_none, errW_some] <;> rfl) | (simp [*, errW_none, errW_some] <;> rfl), by first | exact Kd.R_nil _ _ _ _ _ | exact Kd.N_nil _ _ _ _ _ | exact Kd.V_nil _ _ _ _ _ | exact Kd.Q_nil _ _ _ _ _ | exact Kd.S_nil _ _ _ _ _, xbel⟩
 ·rw [if_neg c2] at H
  have c2b0 : decide (3000 < (l0.length : Int)) = false := decide_eq_false c2; have c2b1 : decide (3000 < l0.length) = false := decide_eq_false (by omega); clear c2; replace H := Option.bind_eq_some_iff.mp H
  obtain ⟨t335, A30, H⟩ := H
  replace H : (if t335.length + l0.length < 140737488355328 then ((some (t335 ++ l0 : List Int)).bind fun y338 => ((impl_sumBytes.f k l0).bind fun t341 => (if y338.length + t341.length < 140737488355328 then (some ((y338 ++ t341), true)) else (none)))) else (none)) = some (r1, r2) := H; have A3 := aM A30; clear A30
  by_cases c4 : t335.length + l0.length < 140737488355328
  ·rw [if_pos c4] at H
   have LMc4 := aM c4; clear c4
   obtain ⟨y338, hy338⟩ : ∃ y_ : List Int, y_ = (t335 ++ l0) := ⟨_, rfl⟩
   replace H : ((impl_sumBytes.f k l0).bind fun t341 => (if y338.length + t341.length < 140737488355328 then (some ((y338 ++ t341), true)) else (none))) = some (r1, r2) := by first | (rw [hy338]; with_reducible exact H) | (have H2_ := (Option.bind_some _ _).symm.trans H; rw [hy338]; with_reducible exact H2_) | (have H2_ := (Option.bind_some _ _).symm.trans H; with_reducible exact H2_) | with_reducible exact H | (rw [hy338]; exact H) | exact H
   have Ny338 := aM hy338; clear hy338; replace H := Option.bind_eq_some_iff.mp H
   obtain ⟨t341, A50, H⟩ := H
   replace H : (if y338.length + t341.length < 140737488355328 then (some ((y338 ++ t341), true)) else (none)) = some (r1, r2) := H; have A5 := aM A50; clear A50
   by_cases c6 : y338.length + t341.length < 140737488355328
   ·rw [if_pos c6] at H
    have LMc6 := aM c6; clear c6
    obtain ⟨y344, hy344⟩ : ∃ y_ : List Int, y_ = (y338 ++ t341) := ⟨_, rfl⟩
    replace H : (some (y344, true)) = some (r1, r2) := by first | (rw [hy344]; with_reducible exact H) | (have H2_ := (Option.bind_some _ _).symm.trans H; rw [hy344]; with_reducible exact H2_) | (have H2_ := (Option.bind_some _ _).symm.trans H; with_reducible exact H2_) | with_reducible exact H | (rw [hy344]; exact H) | exact H
    have Ny344 := aM hy344; clear hy344
    simp only [Option.some.injEq, Prod.mk.injEq] at H
    obtain ⟨rfl, rfl⟩ := H
    go_enter Try.func134, Try.ntmps134
    go_wp2_with (first | ((with_reducible refine gate_callee (f := 85) rfl ?_); refine goesL_ (some 9) rfl rfl Try.func85 (by kernel_rfl) rfl #[.int .i64 (l0.length : Int)] rfl (by (try simp only [List.map_toArray, List.map_cons, List.map_nil]); first | done | rfl | (simp only [List.length_drop, List.length_take]; rfl)) ?_; (with_reducible refine (impl_PutNum.calls k (l0.length : Int) t335 _ A3.out).mono ?_); rintro e w7 ⟨v336, rfl, ho0, hb⟩; refine ⟨_, rfl, ?_⟩; have HO337 := aM (Kd.R_lower ho0 (below_size xbel)); replace HB := xbs hb; (try clear hb); (try clear hb2); (try clear hk); (try clear hi); (try clear ho0)) | ((with_reducible refine gate_builtin (b := .append) (xs := #[.tmp 9, .tmp 10]) rfl ?_); at_builtin; refine Kd.R_append_rows (Kd.int .u8) (w0 := w) w.heap.size rfl (.tmp 9) (.tmp 10) 22 5 (.int .u8 0) 1 rfl Try.underlying22 info5 rfl (by decide) (by omega) v336 t335 l0 _ _ _ (fun _ => True) (fun _ => False) rfl rfl ?aO ?aR (fun _ _ h => h) (fun _ h => h.elim) ?aF ?aB ?aS ?aL ?_; (case aR => exact xcb HR0); (case aB => exact xbel); (case aF => exact (fun _ _ => trivial)); (case aO => exact (xr HO337)); (case aS => exact (below_size xbel)); (case aL => have := LMc4.out; omega); intro v339 w8 ho hb hg hat; rw [← Ny338.out] at ho; replace HB := aM (hb); have HO340 := aM (ho); clear HO337; clear ho hb hg hat) | ((with_reducible refine gate_callee (f := 164) rfl ?_); refine goesL_ (some 13) rfl rfl Try.func164 (by kernel_rfl) rfl #[.slice A0 l0.length c0] rfl (by (try simp only [List.map_toArray, List.map_cons, List.map_nil]); first | done | rfl | (simp only [List.length_drop, List.length_take]; rfl)) ?_; (with_reducible refine (impl_sumBytes.calls k _ _ l0 t341 _ ?side1 ?side2 A5.out).mono ?_); (case side1 => exact xcb HR0); (case side2 => exact HC0.out); rintro e w9 ⟨v342, rfl, ho0, hb⟩; refine ⟨_, rfl, ?_⟩; have HO343 := aM (Kd.R_lower (Kd.R_new' ho0 (Kd.R_lt (xr HO340))) (below_size xbel)); replace HO340 := aM (Kd.R_elder' (xr HO340) (Kd.R_base ho0) hb); replace HB := xbs hb; (try clear hb); (try clear hb2); (try clear hk); (try clear hi); (try clear ho0); obtain ⟨Ao11, co11, eo11⟩ := Kd.R_slice HO343.out; subst eo11) | ((with_reducible refine gate_builtin (b := .append) (xs := #[.tmp 11, .tmp 13]) rfl ?_); at_builtin; refine Kd.R_append_rows (Kd.int .u8) (w0 := w) w.heap.size rfl (.tmp 11) (.tmp 13) 22 5 (.int .u8 0) 1 rfl Try.underlying22 info5 rfl (by decide) (by omega) v339 y338 t341 _ _ _ (fun k_ => some k_ ≠ (.slice Ao11 t341.length co11 : Value).ownBlock) (fun _ => False) rfl rfl ?aO ?aR (fun _ _ h => h) (fun _ h => h.elim) ?aF ?aB ?aS ?aL ?_; (case aR => repeat (first | exact (Kd.R_reads' HO343.out).2.2 | (with_reducible refine Kd.C_alloc ?_ _) | (with_reducible refine Kd.C_drewN ?_ _) | (with_reducible refine Kd.C_drew ?_))); (case aB => exact xbel); (case aF => exact (fun k_ hk => Kd.fresh' (Kd.R_lt (xr HO343)) k_ hk)); (case aO => exact (by (with_reducible repeat (first | apply Kd.R_alloc | apply Kd.R_drewN | apply Kd.R_drew)); exact Kd.R_mono HO340.out (fun _ hk => hk.2))); (case aS => exact (below_size xbel)); (case aL => have := LMc6.out; omega); intro v345 w10 ho hb hg hat; rw [← Ny344.out] at ho; replace HO343 := aM (Kd.R_after (ok := (fun _ => True)) (xr HO343) hg hat); replace HB := aM (hb); have HO346 := aM (ho); clear HO340; clear ho hb hg hat))
    go_ret2
    exact ⟨_, by first | rfl | (simp [errW_none, errW_some] <;> rfl) | (simp [*, errW_none, errW_some] <;> rfl), by (with_reducible repeat (first | apply Kd.R_alloc | apply Kd.R_drewN | apply Kd.R_drew)); exact Kd.R_mono HO346.out (fun _ hk => trivial), xbel⟩
   ·rw [if_neg c6] at H
    exact absurd H (by simp)
  ·rw [if_neg c4] at H
   exact absurd H (by simp)

/-! ### impl_JournalLate: function 62 -/
mutual
def impl_JournalLate.j0 : Nat → Int → List ByteArray → Bool → Int → List (S134) → Option (Int × (List (S134)) × Int)
 | 0, _, _, _, _, _ => none
 | k + 1, x1, x2, x25, x348000, x348001 => if x25 = true then (some (0, ([] : List (S134)), 1)) else (impl_JournalLate.l0 k x1 (([] : List Int)) x2 (x2.length : Int) 0 x348000 x348001)
def impl_JournalLate.l0 : Nat → Int → List Int → List ByteArray → Int → Int → Int → List (S134) → Option (Int × (List (S134)) × Int)
 | 0, _, _, _, _, _, _, _ => none
 | k + 1, x1, x8, x28, x29, x30, x348000, x348001 => if x30 < x29 then (if 0 ≤ x30 then (if x30 < (x28.length : Int) then (if (rdOf ByteArray.empty x28 x30).size ≤ 9223372036854775807 then ((impl_Seal.f k (bytesOf (rdOf ByteArray.empty x28 x30))).bind fun bt358 => (if bt358.2 = true then (if x8.length + bt358.1.length < 140737488355328 then (impl_JournalLate.l0 k x1 (x8 ++ bt358.1) x28 x29 (wrap64 (x30 + 1)) x348000 x348001) else (none)) else (some (0, ([] : List (S134)), 1)))) else (none)) else (none)) else (none)) else ((impl_DiskAppend.f k x348000 x348001 x1 (strOfNums x8)).bind fun bt365 => (some (bt365.1, bt365.2.1, bt365.2.2)))
end
def impl_JournalLate.f (k : Nat) (a0_0 : Int) (l0_1 : List (S134)) (a1 : Int) (l2 : List ByteArray) : Option (Int × (List (S134)) × Int) := (impl_DiskOk.f k a0_0 l0_1).bind fun t349 => (if t349 = true then ((impl_isFile.f a1).bind fun t350 => (if t350 = true then (impl_JournalLate.j0 k a1 l2 (decide ((l2.length : Int) > 100)) a0_0 l0_1) else (impl_JournalLate.j0 k a1 l2 true a0_0 l0_1))) else (impl_JournalLate.j0 k a1 l2 true a0_0 l0_1))
set_option maxRecDepth 100000 in
theorem impl_JournalLate.mono_l : ∀ k, (∀ y0 y1 y2 y3 y4, LeO (impl_JournalLate.j0 k y0 y1 y2 y3 y4) (impl_JournalLate.j0 (k + 1) y0 y1 y2 y3 y4)) ∧ (∀ y0 y1 y2 y3 y4 y5 y6, LeO (impl_JournalLate.l0 k y0 y1 y2 y3 y4 y5 y6) (impl_JournalLate.l0 (k + 1) y0 y1 y2 y3 y4 y5 y6))
 | 0 => ⟨fun _ _ _ _ _ r h => by simp [impl_JournalLate.j0] at h, fun _ _ _ _ _ _ _ r h => by simp [impl_JournalLate.l0] at h⟩
 | k + 1 => by
  obtain ⟨ih0, ih1⟩ := impl_JournalLate.mono_l k
  refine ⟨?_, ?_⟩
  ·intro y0 y1 y2 y3 y4
   unfold impl_JournalLate.j0
   repeat' first
   | (with_reducible exact ih0 _ _ _ _ _)
   | (with_reducible exact ih1 _ _ _ _ _ _ _)
   | (with_reducible exact impl_DiskAppend.mono _ _ _ _ _)
   | (with_reducible exact impl_DiskOk.mono _ _ _)
   | (with_reducible exact impl_Seal.mono _ _)
   | (with_reducible exact LeO.refl _)
   | (with_reducible exact LeO.none _)
   | (with_reducible refine LeO.ite ?_ ?_)
   | (with_reducible refine LeO.bind ?_ (fun _ => ?_))
   | exact ih0 _ _ _ _ _
   | exact ih1 _ _ _ _ _ _ _
   | exact impl_DiskAppend.mono _ _ _ _ _
   | exact impl_DiskOk.mono _ _ _
   | exact impl_Seal.mono _ _
   | exact LeO.none _
   | refine LeO.ite ?_ ?_
   | refine LeO.bind ?_ (fun _ => ?_)
  ·intro y0 y1 y2 y3 y4 y5 y6
   unfold impl_JournalLate.l0
   repeat' first
   | (with_reducible exact ih0 _ _ _ _ _)
   | (with_reducible exact ih1 _ _ _ _ _ _ _)
   | (with_reducible exact impl_DiskAppend.mono _ _ _ _ _)
   | (with_reducible exact impl_DiskOk.mono _ _ _)
   | (with_reducible exact impl_Seal.mono _ _)
   | (with_reducible exact LeO.refl _)
   | (with_reducible exact LeO.none _)
   | (with_reducible refine LeO.ite ?_ ?_)
   | (with_reducible refine LeO.bind ?_ (fun _ => ?_))
   | exact ih0 _ _ _ _ _
   | exact ih1 _ _ _ _ _ _ _
   | exact impl_DiskAppend.mono _ _ _ _ _
   | exact impl_DiskOk.mono _ _ _
   | exact impl_Seal.mono _ _
   | exact LeO.none _
   | refine LeO.ite ?_ ?_
   | refine LeO.bind ?_ (fun _ => ?_)
theorem impl_JournalLate.mono : ∀ a0 a1 a2 a3 k, LeO (impl_JournalLate.f k a0 a1 a2 a3) (impl_JournalLate.f (k + 1) a0 a1 a2 a3) := by
 intro a0 a1 a2 a3 k
 obtain ⟨ih0, ih1⟩ := impl_JournalLate.mono_l k
 unfold impl_JournalLate.f
 repeat' first
  | (with_reducible exact ih0 _ _ _ _ _)
  | (with_reducible exact ih1 _ _ _ _ _ _ _)
  | (with_reducible exact impl_DiskAppend.mono _ _ _ _ _)
  | (with_reducible exact impl_DiskOk.mono _ _ _)
  | (with_reducible exact impl_Seal.mono _ _)
  | (with_reducible exact LeO.refl _)
  | (with_reducible exact LeO.none _)
  | (with_reducible refine LeO.ite ?_ ?_)
  | (with_reducible refine LeO.bind ?_ (fun _ => ?_))
  | exact ih0 _ _ _ _ _
  | exact ih1 _ _ _ _ _ _ _
  | exact impl_DiskAppend.mono _ _ _ _ _
  | exact impl_DiskOk.mono _ _ _
  | exact impl_Seal.mono _ _
  | exact LeO.none _
  | refine LeO.ite ?_ ?_
  | refine LeO.bind ?_ (fun _ => ?_)
set_option maxHeartbeats 8000000 in
set_option maxRecDepth 100000 in
theorem impl_JournalLate.calls (k : Nat) (a0_0 : Int) (A0_1 : Option Addr) (c0_1 : Nat) (l0_1 : List (S134)) (a1 : Int) (A2 : Option Addr) (c2 : Nat) (l2 : List ByteArray) (r1 : Int) (r2 : List (S134)) (r3 : Int) (w : World) (hr0_1 : Kd.C k134 w A0_1 l0_1.length l0_1) (hc0_1 : l0_1.length ≤ c0_1) (hr2 : Kd.C Kd.string w A2 l2.length l2) (hc2 : l2.length ≤ c2) (h : impl_JournalLate.f k a0_0 l0_1 a1 l2 = some (r1, r2, r3)) :
 Calls Try.prog 62 #[.agg #[.int .i64 a0_0, .slice A0_1 l0_1.length c0_1], .int .i64 a1, .slice A2 l2.length c2] w fun e w' => ∃ v1_ : Value, e = .returned (.tuple #[.agg #[.int .i64 r1, v1_], .int .i64 r3]) ∧ Kd.R k134 134 w' w.heap.size (fun _ => True) v1_ r2 ∧ Below w.heap.size w w' := by
 have hu70 := Try.underlying70
 have HR0_1 := aM hr0_1
 have HC0_1 := aM hc0_1
 clear hr0_1 hc0_1
 have HR2 := aM hr2
 have HC2 := aM hc2
 clear hr2 hc2
 have HB := aM (Below.refl w.heap.size w)
 have H : ((impl_DiskOk.f k a0_0 l0_1).bind fun t349 => (if t349 = true then ((impl_isFile.f a1).bind fun t350 => (if t350 = true then (impl_JournalLate.j0 k a1 l2 (decide ((l2.length : Int) > 100)) a0_0 l0_1) else (impl_JournalLate.j0 k a1 l2 true a0_0 l0_1))) else (impl_JournalLate.j0 k a1 l2 true a0_0 l0_1))) = some (r1, r2, r3) := h
 clear h
 have HC4 := aM H
 clear H
 go_enter Try.func62, Try.ntmps62
 go_upto_region 1 with (first | ((with_reducible refine gate_dst (N := 3) rfl ?_); (try (refine gate_guard (by rfl) ?_; dsimp only)); refine box_event ?hg (N := 3) ?hd (cs := #[.int .i64 a0_0, .slice A0_1 l0_1.length c0_1]) (t := 70) ?hr ?_; (case hd => rfl); (case hg => rfl); (case hr => first | (go_simp; done) | (go_simp; rfl)); intro gb347 hg w5 hbox hb; have BK347 := aM (hbox); have GW347 := aM (xge hg); have GE347 := aM (xge hg); replace HB := xbs hb; clear hb hbox hg) | ((with_reducible refine gate_dst (N := 6) rfl ?_); (try (refine gate_guard (by rfl) ?_; dsimp only)); refine box_event ?hg (N := 6) ?hd (cs := #[.int .i64 0, .slice none 0 0]) (t := 70) ?hr ?_; (case hd => rfl); (case hg => rfl); (case hr => first | (go_simp; done) | (go_simp; rfl)); intro gb348 hg w6 hbox hb; have GW348 := aM (xge hg); have GE348 := aM (xge hg); replace HB := xbs hb; have NB347_348 := aM ((by rw [hg]; exact Nat.ne_of_lt (blk_lt (g := gb347) (o := .cells #[.int .i64 a0_0, .slice A0_1 l0_1.length c0_1] 70 (0, 0)) xblk) : gb347 ≠ gb348)); have NB348_347 := aM ((by rw [hg]; exact Nat.ne_of_gt (blk_lt (g := gb347) (o := .cells #[.int .i64 a0_0, .slice A0_1 l0_1.length c0_1] 70 (0, 0)) xblk) : gb348 ≠ gb347)); replace BK347 := xbb BK347 hb; have BK348 := aM (hbox); clear hb hbox hg))
 (try simp only [Act.put, List.setIfInBounds_toArray, List.set_cons_zero, List.set_cons_succ])
 go_cut [25] (fun v25 wc => ∃ (kq : Nat) (x25_3 : Bool), v25 = .bool x25_3 ∧ Aside0 (impl_JournalLate.j0 kq a1 l2 x25_3 a0_0 l0_1 = some (r1, r2, r3)) ∧ Aside0 (kq ≤ k) ∧ Aside0 (wc.heap[gb347]? = some (.cells #[.int .i64 a0_0, (.slice A0_1 l0_1.length c0_1)] 70 (0, 0))) ∧ Aside0 (wc.heap[gb348]? = some (.cells #[.int .i64 0, (.slice none 0 0)] 70 (0, 0))) ∧ Aside0 (Below w.heap.size w wc))
 case first =>
  have H := HC4.out; clear HC4; replace H := Option.bind_eq_some_iff.mp H
  obtain ⟨t349, A70, H⟩ := H
  replace H : (if t349 = true then ((impl_isFile.f a1).bind fun t350 => (if t350 = true then (impl_JournalLate.j0 k a1 l2 (decide ((l2.length : Int) > 100)) a0_0 l0_1) else (impl_JournalLate.j0 k a1 l2 true a0_0 l0_1))) else (impl_JournalLate.j0 k a1 l2 true a0_0 l0_1)) = some (r1, r2, r3) := H; have A7 := aM A70; clear A70
  by_cases c8 : t349 = true
  ·subst c8
   have H1 : ((impl_isFile.f a1).bind fun t350 => (if t350 = true then (impl_JournalLate.j0 k a1 l2 (decide ((l2.length : Int) > 100)) a0_0 l0_1) else (impl_JournalLate.j0 k a1 l2 true a0_0 l0_1))) = some (r1, r2, r3) := by rw [if_pos rfl] at H; exact H
   clear H; have H := H1; clear H1; replace H := Option.bind_eq_some_iff.mp H
   obtain ⟨t350, A90, H⟩ := H
   replace H : (if t350 = true then (impl_JournalLate.j0 k a1 l2 (decide ((l2.length : Int) > 100)) a0_0 l0_1) else (impl_JournalLate.j0 k a1 l2 true a0_0 l0_1)) = some (r1, r2, r3) := H; have A9 := aM A90; clear A90
   by_cases c10 : t350 = true
   ·subst c10
    have H1 : (impl_JournalLate.j0 k a1 l2 (decide ((l2.length : Int) > 100)) a0_0 l0_1) = some (r1, r2, r3) := by rw [if_pos rfl] at H; exact H
    clear H; have H := H1; clear H1
    have H' := aM H
    clear H; have hnb11 := NB347_348.out; have hnc11 := NB348_347.out; have hcz12_0 : w6.cell? ⟨gb347, 0, none⟩ = some (.int .i64 a0_0) := xc BK347 0 rfl; have hcz12_1 : w6.cell? ⟨gb347, 1, none⟩ = some (.slice A0_1 l0_1.length c0_1) := xc BK347 1 rfl; have hfz12_0 := blk_frozen BK347.out 0; have hfz12_1 := blk_frozen BK347.out 1
    go_wp2_with (first | ((with_reducible refine gate_callee (f := 52) rfl ?_); refine goesL_ (some 14) rfl rfl Try.func52 (by kernel_rfl) rfl #[.agg #[.int .i64 a0_0, .slice A0_1 l0_1.length c0_1]] rfl (by (try simp only [List.map_toArray, List.map_cons, List.map_nil]); first | done | rfl | (simp only [List.length_drop, List.length_take]; rfl)) ?_; (with_reducible refine (impl_DiskOk.calls k a0_0 _ _ l0_1 true _ ?side1 ?side2 A7.out).mono ?_); (case side1 => exact xcb HR0_1); (case side2 => exact HC0_1.out); rintro e w13 ⟨rfl, hb⟩; refine ⟨_, rfl, ?_⟩; replace BK347 := xbb BK347 hb; replace BK348 := xbb BK348 hb; replace HB := xbs hb; (try clear hb); (try clear hb2); (try clear hk); (try clear hi)) | (go_at_call 113; (with_reducible refine (impl_isFile.calls a1 true _ A9.out).mono ?_); rintro e w' ⟨rfl, ⟨nd, rfl⟩⟩))
    go_meet
    case rel => exact ⟨_, (decide ((l2.length : Int) > 100)), (by first | rfl | (simp; done) | (simp [*]; done)), H', ⟨by first | omega | exact Nat.le_refl _⟩, ⟨xblk⟩, ⟨xblk⟩, ⟨xbg⟩⟩
   ·replace c10 := Bool.eq_false_iff.mpr c10
    subst c10
    have H1 : (impl_JournalLate.j0 k a1 l2 true a0_0 l0_1) = some (r1, r2, r3) := by rw [if_neg (show ¬ (false = true) by decide)] at H; exact H
    clear H; have H := H1; clear H1
    have H' := aM H
    clear H; have hnb14 := NB347_348.out; have hnc14 := NB348_347.out; have hcz15_0 : w6.cell? ⟨gb347, 0, none⟩ = some (.int .i64 a0_0) := xc BK347 0 rfl; have hcz15_1 : w6.cell? ⟨gb347, 1, none⟩ = some (.slice A0_1 l0_1.length c0_1) := xc BK347 1 rfl; have hfz15_0 := blk_frozen BK347.out 0; have hfz15_1 := blk_frozen BK347.out 1
    go_wp2_with (first | ((with_reducible refine gate_callee (f := 52) rfl ?_); refine goesL_ (some 14) rfl rfl Try.func52 (by kernel_rfl) rfl #[.agg #[.int .i64 a0_0, .slice A0_1 l0_1.length c0_1]] rfl (by (try simp only [List.map_toArray, List.map_cons, List.map_nil]); first | done | rfl | (simp only [List.length_drop, List.length_take]; rfl)) ?_; (with_reducible refine (impl_DiskOk.calls k a0_0 _ _ l0_1 true _ ?side1 ?side2 A7.out).mono ?_); (case side1 => exact xcb HR0_1); (case side2 => exact HC0_1.out); rintro e w16 ⟨rfl, hb⟩; refine ⟨_, rfl, ?_⟩; replace BK347 := xbb BK347 hb; replace BK348 := xbb BK348 hb; replace HB := xbs hb; (try clear hb); (try clear hb2); (try clear hk); (try clear hi)) | (go_at_call 113; (with_reducible refine (impl_isFile.calls a1 false _ A9.out).mono ?_); rintro e w' ⟨rfl, ⟨nd, rfl⟩⟩))
    go_meet
    case rel => exact ⟨_, (true), (by first | rfl | (simp; done) | (simp [*]; done)), H', ⟨by first | omega | exact Nat.le_refl _⟩, ⟨xblk⟩, ⟨xblk⟩, ⟨xbg⟩⟩
  ·replace c8 := Bool.eq_false_iff.mpr c8
   subst c8
   have H1 : (impl_JournalLate.j0 k a1 l2 true a0_0 l0_1) = some (r1, r2, r3) := by rw [if_neg (show ¬ (false = true) by decide)] at H; exact H
   clear H; have H := H1; clear H1
   have H' := aM H
   clear H; have hnb17 := NB347_348.out; have hnc17 := NB348_347.out; have hcz18_0 : w6.cell? ⟨gb347, 0, none⟩ = some (.int .i64 a0_0) := xc BK347 0 rfl; have hcz18_1 : w6.cell? ⟨gb347, 1, none⟩ = some (.slice A0_1 l0_1.length c0_1) := xc BK347 1 rfl; have hfz18_0 := blk_frozen BK347.out 0; have hfz18_1 := blk_frozen BK347.out 1
   go_wp2_with (first | ((with_reducible refine gate_callee (f := 52) rfl ?_); refine goesL_ (some 14) rfl rfl Try.func52 (by kernel_rfl) rfl #[.agg #[.int .i64 a0_0, .slice A0_1 l0_1.length c0_1]] rfl (by (try simp only [List.map_toArray, List.map_cons, List.map_nil]); first | done | rfl | (simp only [List.length_drop, List.length_take]; rfl)) ?_; (with_reducible refine (impl_DiskOk.calls k a0_0 _ _ l0_1 false _ ?side1 ?side2 A7.out).mono ?_); (case side1 => exact xcb HR0_1); (case side2 => exact HC0_1.out); rintro e w19 ⟨rfl, hb⟩; refine ⟨_, rfl, ?_⟩; replace BK347 := xbb BK347 hb; replace BK348 := xbb BK348 hb; replace HB := xbs hb; (try clear hb); (try clear hb2); (try clear hk); (try clear hi)))
   go_meet
   case rel => exact ⟨_, (true), (by first | rfl | (simp; done) | (simp [*]; done)), H', ⟨by first | omega | exact Nat.le_refl _⟩, ⟨xblk⟩, ⟨xblk⟩, ⟨xbg⟩⟩
 case rest =>
  clear HC4
  try clear c1
  try clear c2
  try clear p2
  try clear c5
  try clear c6
  try clear c8
  try clear c10
  try clear c11
  try clear c14
  try clear c17
  try clear hcz12_0
  try clear hcz12_1
  try clear hcz15_0
  try clear hcz15_1
  try clear hcz18_0
  try clear hcz18_1
  try clear hfz12_0
  try clear hfz12_1
  try clear hfz15_0
  try clear hfz15_1
  try clear hfz18_0
  try clear hfz18_1
  obtain ⟨kq, x25_3, rfl, HA, HJ3, BK347, BK348, HB⟩ := hcut
  cases kq with
  | zero => exact absurd HA.out (by simp [impl_JournalLate.j0])
  | succ kj3 =>
   have H := HA.out; clear HA
   simp only [impl_JournalLate.j0] at H
   by_cases c20 : x25_3 = true
   ·subst c20
    have H1 : (some (0, ([] : List (S134)), 1)) = some (r1, r2, r3) := by rw [if_pos rfl] at H; exact H
    clear H; have H := H1; clear H1
    simp only [Option.some.injEq, Prod.mk.injEq] at H
    obtain ⟨rfl, rfl, rfl⟩ := H
    have hnb21 := NB348_347.out; have hnc21 := NB347_348.out; have hcz22_0 : wc.cell? ⟨gb348, 0, none⟩ = some (.int .i64 0) := xc BK348 0 rfl; have hcz22_1 : wc.cell? ⟨gb348, 1, none⟩ = some (.slice none 0 0) := xc BK348 1 rfl; have hfz22_0 := blk_frozen BK348.out 0; have hfz22_1 := blk_frozen BK348.out 1
    go_wp2
    refine bodyPost_ret (results_ct rfl _ _ gb348 70 #[.int .i64 0, .slice none 0 0] (0, 0) _ rfl (by (with_reducible repeat (first | refine blk_drewN ?_ _ | refine blk_drew ?_ | refine blk_alloc ?_ _)); refine blk_put (cs := #[.int .i64 0, .slice none 0 0]) ?_ 1 _ rfl; (with_reducible repeat (first | refine blk_drewN ?_ _ | refine blk_drew ?_ | refine blk_alloc ?_ _)); refine blk_put (cs := #[.int .i64 0, .slice none 0 0]) ?_ 0 _ rfl; (with_reducible repeat (first | refine blk_drewN ?_ _ | refine blk_drew ?_ | refine blk_alloc ?_ _)); exact BK348.out) Try.underlying70 rfl (by kernel_rfl)) rfl ?_
    exact ⟨_, by first | rfl | (simp [errW_none, errW_some] <;> rfl) | (simp [*, errW_none, errW_some] <;> rfl), by first | exact Kd.R_nil _ _ _ _ _ | exact Kd.N_nil _ _ _ _ _ | exact Kd.V_nil _ _ _ _ _ | exact Kd.Q_nil _ _ _ _ _ | exact Kd.S_nil _ _ _ _ _, xbg⟩
   ·replace c20 := Bool.eq_false_iff.mpr c20
    subst c20
    have H1 : (impl_JournalLate.l0 kj3 a1 (([] : List Int)) l2 (l2.length : Int) 0 a0_0 l0_1) = some (r1, r2, r3) := by rw [if_neg (show ¬ (false = true) by decide)] at H; exact H
    clear H; have H := H1; clear H1
    obtain ⟨y351, hy351⟩ : ∃ y_ : List Int, y_ = (([] : List Int)) := ⟨_, rfl⟩
    replace H : (impl_JournalLate.l0 kj3 a1 y351 l2 (l2.length : Int) 0 a0_0 l0_1) = some (r1, r2, r3) := by first | (rw [hy351]; with_reducible exact H) | (have H2_ := (Option.bind_some _ _).symm.trans H; rw [hy351]; with_reducible exact H2_) | (have H2_ := (Option.bind_some _ _).symm.trans H; with_reducible exact H2_) | with_reducible exact H | (rw [hy351]; exact H) | exact H
    have Ny351 := aM hy351; clear hy351
    have H' := aM H
    clear H
    go_wp2_with (first | ((with_reducible refine gate_dst (N := 27) rfl ?_); (try (refine gate_guard (by rfl) ?_; dsimp only)); refine Kd.R_lit (Kd.int .u8) _ 5 ?hg (N := 27) ?hd (xs := ([] : List Int)) (inner := []) (ok := fun _ => True) (okp := fun _ => True) ?hr ?hp (fun _ hk => hk) trivial (Below.refl _ _) (Nat.le_refl _) (by simp) ?_; (case hd => rfl); (case hg => rfl); (case hr => first | (go_simp; done) | (go_simp; rfl)); (case hp => exact (Reps.none _ _)); intro v352 w23 ho24 hb hg_ hnew_; clear hg_ hnew_; (first | rw [← Ny351.out] at ho24 | (simp only [Int.reduceToNat] at ho24; rw [← Ny351.out] at ho24)); have HO353 := aM (Kd.R_lower ho24 (below_size xbg)); replace BK347 := xbb BK347 hb; replace BK348 := xbb BK348 hb; replace HB := xbs hb; clear hb ho24))
    go_loopg [8, 30] kj3 (fun kq v8 v30 w' => ∃ (x8_2 : List Int) (x30_2 : Int) (x349000_2 : Int), v30 = .int .i64 x30_2 ∧ Aside0 (impl_JournalLate.l0 kq a1 x8_2 l2 (l2.length : Int) x30_2 a0_0 l0_1 = some (r1, r2, r3)) ∧ Aside0 (kq ≤ kj3) ∧ Aside0 (Kd.R (Kd.int .u8) 5 w' w.heap.size (fun _ => True) v8 x8_2) ∧ Aside0 (w'.heap[gb347]? = some (.cells #[.int .i64 a0_0, (.slice A0_1 l0_1.length c0_1)] 70 (0, 0))) ∧ Aside0 (w'.heap[gb348]? = some (.cells #[.int .i64 x349000_2, (.slice none 0 0)] 70 (0, 0))) ∧ Aside0 (Below w.heap.size w w'))
    case atStart => exact ⟨(y351), (0), (0), (by first | rfl | (simp; done) | (simp [*]; done)), H', ⟨Nat.le_refl _⟩, ⟨by (with_reducible repeat (first | apply Kd.R_alloc | apply Kd.R_drewN | apply Kd.R_drew)); exact HO353.out⟩, ⟨xblk⟩, ⟨xblk⟩, ⟨xbg⟩⟩
    case round =>
     clear H'
     try clear c1
     try clear c2
     try clear p2
     try clear c5
     try clear c6
     try clear c8
     try clear c10
     try clear c11
     try clear c14
     try clear c17
     try clear c20
     try clear c21
     try clear hcz12_0
     try clear hcz12_1
     try clear hcz15_0
     try clear hcz15_1
     try clear hcz18_0
     try clear hcz18_1
     try clear hcz22_0
     try clear hcz22_1
     try clear hfz12_0
     try clear hfz12_1
     try clear hfz15_0
     try clear hfz15_1
     try clear hfz18_0
     try clear hfz18_1
     try clear hfz22_0
     try clear hfz22_1
     try clear p2
     obtain ⟨x8_2, x30_2, x349000_2, rfl, HA, HK2, HO_8, BK347, BK348, HB⟩ := hrel
     cases gk with
     | zero => exact absurd HA.out (by simp [impl_JournalLate.l0])
     | succ k2 =>
      have H := HA.out; clear HA
      simp only [impl_JournalLate.l0] at H
      by_cases c25 : x30_2 < (l2.length : Int)
      ·rw [if_pos c25] at H
       have c25b0 : decide (x30_2 < (l2.length : Int)) = true := decide_eq_true c25; clear c25
       by_cases c26 : 0 ≤ x30_2
       ·rw [if_pos c26] at H
        have c26b0 : decide (0 ≤ x30_2) = true := decide_eq_true c26; clear c26
        by_cases c27 : x30_2 < (l2.length : Int)
        ·rw [if_pos c27] at H
         have c27b0 : decide (x30_2 < (l2.length : Int)) = true := decide_eq_true c27; clear c27
         by_cases c28 : (rdOf ByteArray.empty l2 x30_2).size ≤ 9223372036854775807
         ·rw [if_pos c28] at H
          have c28b0 := eq_true c28; have c28b1 : decide ((rdOf ByteArray.empty l2 x30_2).size ≤ 9223372036854775807) = true := decide_eq_true c28
          try have c28b2 : (9223372036854775807 < (rdOf ByteArray.empty l2 x30_2).size) = False := eq_false (Nat.not_lt.2 c28)
          clear c28
          obtain ⟨y355, hy355⟩ : ∃ y_ : List Int, y_ = (bytesOf (rdOf ByteArray.empty l2 x30_2)) := ⟨_, rfl⟩
          replace H : ((impl_Seal.f k2 y355).bind fun bt358 => (if bt358.2 = true then (if x8_2.length + bt358.1.length < 140737488355328 then (impl_JournalLate.l0 k2 a1 (x8_2 ++ bt358.1) l2 (l2.length : Int) (wrap64 (x30_2 + 1)) a0_0 l0_1) else (none)) else (some (0, ([] : List (S134)), 1)))) = some (r1, r2, r3) := by first | (rw [hy355]; with_reducible exact H) | (have H2_ := (Option.bind_some _ _).symm.trans H; rw [hy355]; with_reducible exact H2_) | (have H2_ := (Option.bind_some _ _).symm.trans H; with_reducible exact H2_) | with_reducible exact H | (rw [hy355]; exact H) | exact H
          have Ny355 := aM hy355; clear hy355; replace H := Option.bind_eq_some_iff.mp H
          obtain ⟨⟨t358, t359⟩, A290, H⟩ := H
          replace H : (if t359 = true then (if x8_2.length + t358.length < 140737488355328 then (impl_JournalLate.l0 k2 a1 (x8_2 ++ t358) l2 (l2.length : Int) (wrap64 (x30_2 + 1)) a0_0 l0_1) else (none)) else (some (0, ([] : List (S134)), 1))) = some (r1, r2, r3) := H; have A29 := aM A290; clear A290
          by_cases c30 : t359 = true
          ·subst c30
           have H1 : (if x8_2.length + t358.length < 140737488355328 then (impl_JournalLate.l0 k2 a1 (x8_2 ++ t358) l2 (l2.length : Int) (wrap64 (x30_2 + 1)) a0_0 l0_1) else (none)) = some (r1, r2, r3) := by rw [if_pos rfl] at H; exact H
           clear H; have H := H1; clear H1
           by_cases c31 : x8_2.length + t358.length < 140737488355328
           ·rw [if_pos c31] at H
            have LMc31 := aM c31; clear c31
            obtain ⟨y362, hy362⟩ : ∃ y_ : List Int, y_ = (x8_2 ++ t358) := ⟨_, rfl⟩
            replace H : (impl_JournalLate.l0 k2 a1 y362 l2 (l2.length : Int) (wrap64 (x30_2 + 1)) a0_0 l0_1) = some (r1, r2, r3) := by first | (rw [hy362]; with_reducible exact H) | (have H2_ := (Option.bind_some _ _).symm.trans H; rw [hy362]; with_reducible exact H2_) | (have H2_ := (Option.bind_some _ _).symm.trans H; with_reducible exact H2_) | with_reducible exact H | (rw [hy362]; exact H) | exact H
            have Ny362 := aM hy362; clear hy362
            have H' := aM H
            clear H; have p354 : 0 ≤ (x30_2 : Int) := of_decide_eq_true (by first | (with_reducible assumption) | assumption); have q354 : x30_2 < (l2.length : Int) := of_decide_eq_true (by first | (with_reducible assumption) | assumption)
            obtain ⟨ad354, e354, hx354_0⟩ := Kd.at_string HR2.out x30_2 p354 q354
            cases e354
            replace hx354_0 := xce HB hx354_0; replace p354 := eq_true p354; replace q354 := eq_true q354
            go_wp2_with (first | ((with_reducible refine gate_dst (N := 36) rfl ?_); (try (refine gate_guard (by rfl) ?_; dsimp only)); refine Kd.V_conv _ 5 rfl (N := 36) rfl 9 22 _ rfl (rdOf ByteArray.empty l2 x30_2) rfl Try.underlying9 Try.underlying22 Try.underlying5 (of_decide_eq_true (by first | (with_reducible assumption) | assumption)) (ok := fun k_ => wr.heap.size ≤ k_) (Nat.le_refl _) (Below.refl _ _) (Nat.le_refl _) ?_; intro v356 w32 ho33 hb hg_ hnew_; clear hg_ hnew_; (first | rw [← Ny355.out] at ho33 | (simp only [Int.reduceToNat] at ho33; rw [← Ny355.out] at ho33)); have HO357 := aM (Kd.V_lower (Kd.V_mono (ok' := fun k_ => some k_ ≠ (u8 : Value).ownBlock ∧ k_ ≠ gb347 ∧ k_ ≠ gb348) ho33 (fun k_ hk_ => ⟨(Kd.fresh' (Kd.R_lt (xr HO_8)) k_ hk_), (Kd.freshB (g := gb347) (o := .cells #[.int .i64 a0_0, .slice A0_1 l0_1.length c0_1] 70 (0, 0)) xblk k_ hk_), (Kd.freshB (g := gb348) (o := .cells #[.int .i64 x349000_2, .slice none 0 0] 70 (0, 0)) xblk k_ hk_)⟩)) (below_size xbg)); replace HO_8 := aM (Kd.R_below (xr HO_8) hb); replace BK347 := xbb BK347 hb; replace BK348 := xbb BK348 hb; replace HB := xbs hb; clear hb ho33; obtain ⟨Ao34, co34, eo34⟩ := Kd.V_slice HO357.out; subst eo34) | ((with_reducible refine gate_callee (f := 134) rfl ?_); refine goesL_ (some 37) rfl rfl Try.func134 (by kernel_rfl) rfl #[.slice Ao34 y355.length co34] rfl (by (try simp only [List.map_toArray, List.map_cons, List.map_nil]); first | done | rfl | (simp only [List.length_drop, List.length_take]; rfl)) ?_; (with_reducible refine (impl_Seal.calls k2 _ _ y355 t358 true _ ?side1 ?side2 A29.out).mono ?_); (case side1 => repeat (first | exact (Kd.V_reads' HO357.out).2.2 | (with_reducible refine Kd.C_alloc ?_ _) | (with_reducible refine Kd.C_drewN ?_ _) | (with_reducible refine Kd.C_drew ?_))); (case side2 => exact (Kd.V_reads' HO357.out).2.1); rintro e w35 ⟨v360, rfl, ho0, hb⟩; refine ⟨_, rfl, ?_⟩; replace HO357 := aM (Kd.V_elder' (by (with_reducible repeat (first | apply Kd.V_alloc | apply Kd.V_drewN | apply Kd.V_drew)); exact HO357.out) (Kd.R_base ho0) hb); have HO361 := aM (Kd.R_lower (Kd.R_new' ho0 (Kd.R_lt (xr HO_8))) (below_size xbg)); replace HO_8 := aM (Kd.R_elder' (xr HO_8) (Kd.R_base ho0) hb); replace BK347 := xbb BK347 hb; replace BK348 := xbb BK348 hb; replace HB := xbs hb; (try clear hb); (try clear hb2); (try clear hk); (try clear hi); (try clear ho0); obtain ⟨Ao37, co37, eo37⟩ := Kd.R_slice HO361.out; subst eo37) | ((with_reducible refine gate_builtin (b := .append) (xs := #[.tmp 43, .tmp 44]) rfl ?_); (try (refine gate_guard (by rfl) ?_; dsimp only)); at_builtin; refine Kd.R_append_rows (Kd.int .u8) (w0 := w) w.heap.size rfl (.tmp 43) (.tmp 44) 22 5 (.int .u8 0) 1 rfl Try.underlying22 info5 rfl (by decide) (by omega) u8 x8_2 t358 _ _ _ (fun k_ => some k_ ≠ (.slice Ao37 t358.length co37 : Value).ownBlock) (fun _ => False) rfl rfl ?aO ?aR (fun _ _ h => h) (fun _ h => h.elim) ?aF ?aB ?aS ?aL ?_; (case aR => repeat (first | exact (Kd.R_reads' HO361.out).2.2 | (with_reducible refine Kd.C_alloc ?_ _) | (with_reducible refine Kd.C_drewN ?_ _) | (with_reducible refine Kd.C_drew ?_))); (case aB => exact xbg); (case aF => exact (fun k_ hk => Kd.fresh' (Kd.R_lt (xr HO361)) k_ hk)); (case aO => exact (by (with_reducible repeat (first | apply Kd.R_alloc | apply Kd.R_drewN | apply Kd.R_drew)); exact Kd.R_mono HO_8.out (fun _ hk => hk.2))); (case aS => exact (below_size xbg)); (case aL => have := LMc31.out; omega); intro v363 w36 ho hb hg hat; rw [← Ny362.out] at ho; have n0_ := aM (blk_grown (g := gb347) (o := .cells #[.int .i64 a0_0, .slice A0_1 l0_1.length c0_1] 70 (0, 0)) xblk hg (Kd.R_ne HO_8.out BK347.out (by decide))); have n1_ := aM (blk_grown (g := gb348) (o := .cells #[.int .i64 x349000_2, .slice none 0 0] 70 (0, 0)) xblk hg (Kd.R_ne HO_8.out BK348.out (by decide))); have n2_ := aM (Kd.V_afterv (ok := (fun k_ => some k_ ≠ (.slice Ao37 t358.length co37 : Value).ownBlock ∧ k_ ≠ gb347 ∧ k_ ≠ gb348)) (by (with_reducible repeat (first | apply Kd.V_alloc | apply Kd.V_drewN | apply Kd.V_drew)); exact Kd.V_mono HO357.out (fun _ hk => ⟨⟨hk.2, ⟨hk.1.2.1, hk.1.2.2⟩⟩, hk.1.1⟩)) hg hat); have n3_ := aM (Kd.R_after (ok := (fun _ => True)) (xr HO361) hg hat); have n4_ := aM (hb); have n5_ := aM (ho); clear BK347; clear BK348; clear HO357; clear HO361; clear HB; clear HO_8; have BK347 := n0_; have BK348 := n1_; have HO357 := n2_; have HO361 := n3_; have HB := n4_; have HO364 := n5_; clear n0_ n1_ n2_ n3_ n4_ n5_; clear ho hb hg hat))
            go_roundg k2
            case measure => have := HJ3.out; have := HK2.out; omega
            case rel => exact ⟨(y362), (wrap64 (x30_2 + 1)), (x349000_2), (by first | rfl | (simp; done) | (simp [*]; done)), H', ⟨by have := HJ3.out; have := HK2.out; omega⟩, ⟨by (with_reducible repeat (first | apply Kd.R_alloc | apply Kd.R_drewN | apply Kd.R_drew)); exact Kd.R_mono HO364.out (fun _ hk => trivial)⟩, ⟨xblk⟩, ⟨xblk⟩, ⟨xbg⟩⟩
           ·rw [if_neg c31] at H
            exact absurd H (by simp)
          ·replace c30 := Bool.eq_false_iff.mpr c30
           subst c30
           have H1 : (some (0, ([] : List (S134)), 1)) = some (r1, r2, r3) := by rw [if_neg (show ¬ (false = true) by decide)] at H; exact H
           clear H; have H := H1; clear H1
           simp only [Option.some.injEq, Prod.mk.injEq] at H
           obtain ⟨rfl, rfl, rfl⟩ := H
           have p354 : 0 ≤ (x30_2 : Int) := of_decide_eq_true (by first | (with_reducible assumption) | assumption); have q354 : x30_2 < (l2.length : Int) := of_decide_eq_true (by first | (with_reducible assumption) | assumption)
           obtain ⟨ad354, e354, hx354_0⟩ := Kd.at_string HR2.out x30_2 p354 q354
           cases e354
           replace hx354_0 := xce HB hx354_0; replace p354 := eq_true p354; replace q354 := eq_true q354
           go_wp2_with (first | ((with_reducible refine gate_dst (N := 36) rfl ?_); (try (refine gate_guard (by rfl) ?_; dsimp only)); refine Kd.V_conv _ 5 rfl (N := 36) rfl 9 22 _ rfl (rdOf ByteArray.empty l2 x30_2) rfl Try.underlying9 Try.underlying22 Try.underlying5 (of_decide_eq_true (by first | (with_reducible assumption) | assumption)) (ok := fun k_ => wr.heap.size ≤ k_) (Nat.le_refl _) (Below.refl _ _) (Nat.le_refl _) ?_; intro v356 w38 ho39 hb hg_ hnew_; clear hg_ hnew_; (first | rw [← Ny355.out] at ho39 | (simp only [Int.reduceToNat] at ho39; rw [← Ny355.out] at ho39)); have HO357 := aM (Kd.V_lower (Kd.V_mono (ok' := fun k_ => some k_ ≠ (u8 : Value).ownBlock ∧ k_ ≠ gb347 ∧ k_ ≠ gb348) ho39 (fun k_ hk_ => ⟨(Kd.fresh' (Kd.R_lt (xr HO_8)) k_ hk_), (Kd.freshB (g := gb347) (o := .cells #[.int .i64 a0_0, .slice A0_1 l0_1.length c0_1] 70 (0, 0)) xblk k_ hk_), (Kd.freshB (g := gb348) (o := .cells #[.int .i64 x349000_2, .slice none 0 0] 70 (0, 0)) xblk k_ hk_)⟩)) (below_size xbg)); replace HO_8 := aM (Kd.R_below (xr HO_8) hb); replace BK347 := xbb BK347 hb; replace BK348 := xbb BK348 hb; replace HB := xbs hb; clear hb ho39; obtain ⟨Ao40, co40, eo40⟩ := Kd.V_slice HO357.out; subst eo40) | ((with_reducible refine gate_callee (f := 134) rfl ?_); refine goesL_ (some 37) rfl rfl Try.func134 (by kernel_rfl) rfl #[.slice Ao40 y355.length co40] rfl (by (try simp only [List.map_toArray, List.map_cons, List.map_nil]); first | done | rfl | (simp only [List.length_drop, List.length_take]; rfl)) ?_; (with_reducible refine (impl_Seal.calls k2 _ _ y355 t358 false _ ?side1 ?side2 A29.out).mono ?_); (case side1 => repeat (first | exact (Kd.V_reads' HO357.out).2.2 | (with_reducible refine Kd.C_alloc ?_ _) | (with_reducible refine Kd.C_drewN ?_ _) | (with_reducible refine Kd.C_drew ?_))); (case side2 => exact (Kd.V_reads' HO357.out).2.1); rintro e w41 ⟨v360, rfl, ho0, hb⟩; refine ⟨_, rfl, ?_⟩; replace HO357 := aM (Kd.V_elder' (by (with_reducible repeat (first | apply Kd.V_alloc | apply Kd.V_drewN | apply Kd.V_drew)); exact HO357.out) (Kd.R_base ho0) hb); have HO361 := aM (Kd.R_lower (Kd.R_new' ho0 (Kd.R_lt (xr HO_8))) (below_size xbg)); replace HO_8 := aM (Kd.R_elder' (xr HO_8) (Kd.R_base ho0) hb); replace BK347 := xbb BK347 hb; replace BK348 := xbb BK348 hb; replace HB := xbs hb; (try clear hb); (try clear hb2); (try clear hk); (try clear hi); (try clear ho0); have hnb42 := NB348_347.out; have hnc42 := NB347_348.out; have hcz43_0 : w41.cell? ⟨gb348, 0, none⟩ = some (.int .i64 x349000_2) := xc BK348 0 rfl; have hcz43_1 : w41.cell? ⟨gb348, 1, none⟩ = some (.slice none 0 0) := xc BK348 1 rfl; have hfz43_0 := blk_frozen BK348.out 0; have hfz43_1 := blk_frozen BK348.out 1))
           refine bodyPost_ret (results_ct rfl _ _ gb348 70 #[.int .i64 0, .slice none 0 0] (0, 0) _ rfl (by (with_reducible repeat (first | refine blk_drewN ?_ _ | refine blk_drew ?_ | refine blk_alloc ?_ _)); refine blk_put (cs := #[.int .i64 0, .slice none 0 0]) ?_ 1 _ rfl; (with_reducible repeat (first | refine blk_drewN ?_ _ | refine blk_drew ?_ | refine blk_alloc ?_ _)); refine blk_put (cs := #[.int .i64 x349000_2, .slice none 0 0]) ?_ 0 _ rfl; (with_reducible repeat (first | refine blk_drewN ?_ _ | refine blk_drew ?_ | refine blk_alloc ?_ _)); exact BK348.out) Try.underlying70 rfl (by kernel_rfl)) rfl ?_
           exact ⟨_, by first | rfl | (simp [errW_none, errW_some] <;> rfl) | (simp [*, errW_none, errW_some] <;> rfl), by first | exact Kd.R_nil _ _ _ _ _ | exact Kd.N_nil _ _ _ _ _ | exact Kd.V_nil _ _ _ _ _ | exact Kd.Q_nil _ _ _ _ _ | exact Kd.S_nil _ _ _ _ _, xbg⟩
         ·rw [if_neg c28] at H
          exact absurd H (by simp)
        ·rw [if_neg c27] at H
         exact absurd H (by simp)
       ·rw [if_neg c26] at H
        exact absurd H (by simp)
      ·rw [if_neg c25] at H
       have c25b0 : decide (x30_2 < (l2.length : Int)) = false := decide_eq_false c25; clear c25; replace H := Option.bind_eq_some_iff.mp H
       obtain ⟨⟨t365, t366, t369⟩, A440, H⟩ := H
       replace H : (some (t365, t366, t369)) = some (r1, r2, r3) := H; have A44 := aM A440; clear A440
       simp only [Option.some.injEq, Prod.mk.injEq] at H
       obtain ⟨rfl, rfl, rfl⟩ := H
       have hnb45 := NB347_348.out; have hnc45 := NB348_347.out; have hcz46_0 : wr.cell? ⟨gb347, 0, none⟩ = some (.int .i64 a0_0) := xc BK347 0 rfl; have hcz46_1 : wr.cell? ⟨gb347, 1, none⟩ = some (.slice A0_1 l0_1.length c0_1) := xc BK347 1 rfl; have hfz46_0 := blk_frozen BK347.out 0; have hfz46_1 := blk_frozen BK347.out 1; have hcv47 := own_string (P := Try.prog) Try.underlying22 Try.underlying5 Try.underlying9 (Kd.own_of_R HO_8.out)
       go_wp2_with (first | ((with_reducible refine gate_callee (f := 40) rfl ?_); refine goesL_ (some 51) rfl rfl Try.func40 (by kernel_rfl) rfl #[.agg #[.int .i64 a0_0, .slice A0_1 l0_1.length c0_1], .int .i64 a1, .string (strOfNums x8_2)] rfl (by (try simp only [List.map_toArray, List.map_cons, List.map_nil]); first | done | rfl | (simp only [List.length_drop, List.length_take]; rfl)) ?_; (with_reducible refine (impl_DiskAppend.calls k2 a0_0 _ _ l0_1 a1 (strOfNums x8_2) t365 t366 t369 _ ?side1 ?side2 A44.out).mono ?_); (case side1 => exact xcb HR0_1); (case side2 => exact HC0_1.out); rintro e w48 ⟨v367, rfl, ho0, hb⟩; refine ⟨_, rfl, ?_⟩; replace HO_8 := aM (Kd.R_below (xr HO_8) hb); have HO368 := aM (Kd.R_lower ho0 (below_size xbg)); replace BK347 := xbb BK347 hb; replace BK348 := xbb BK348 hb; replace HB := xbs hb; (try clear hb); (try clear hb2); (try clear hk); (try clear hi); (try clear ho0); have hcz49_0 : w48.cell? ⟨gb348, 0, none⟩ = some (.int .i64 x349000_2) := xc BK348 0 rfl; have hcz49_1 : w48.cell? ⟨gb348, 1, none⟩ = some (.slice none 0 0) := xc BK348 1 rfl; have hfz49_0 := blk_frozen BK348.out 0; have hfz49_1 := blk_frozen BK348.out 1; obtain ⟨Ao50, co50, eo50⟩ := Kd.R_slice HO368.out; subst eo50))
       refine bodyPost_ret (results_ct rfl _ _ gb348 70 #[.int .i64 t365, .slice Ao50 t366.length co50] (0, 0) _ rfl (by (with_reducible repeat (first | refine blk_drewN ?_ _ | refine blk_drew ?_ | refine blk_alloc ?_ _)); refine blk_put (cs := #[.int .i64 t365, .slice none 0 0]) ?_ 1 _ rfl; (with_reducible repeat (first | refine blk_drewN ?_ _ | refine blk_drew ?_ | refine blk_alloc ?_ _)); refine blk_put (cs := #[.int .i64 x349000_2, .slice none 0 0]) ?_ 0 _ rfl; (with_reducible repeat (first | refine blk_drewN ?_ _ | refine blk_drew ?_ | refine blk_alloc ?_ _)); exact BK348.out) Try.underlying70 rfl (by kernel_rfl)) rfl ?_
       exact ⟨_, by first | rfl | (simp [errW_none, errW_some] <;> rfl) | (simp [*, errW_none, errW_some] <;> rfl), by (with_reducible repeat (first | apply Kd.R_alloc | apply Kd.R_drewN | apply Kd.R_drew)); exact Kd.R_mono (Kd.R_far (p := ⟨gb348, 1, none⟩) (Kd.R_far (p := ⟨gb348, 0, none⟩) (Kd.R_types HO368.out BK348.out (by decide)) (fun _ hk => hk.2) (.int .i64 t365)) (fun _ hk => hk.2) (.slice Ao50 t366.length co50)) (fun _ hk => trivial), xbg⟩

/-! ### laws_eqStringS: function 63 -/
def laws_eqStringS.l0 : Nat → List ByteArray → List ByteArray → Int → Option (Bool)
 | 0, _, _, _ => none
 | k + 1, x0, x1, x5 => if x5 < (x0.length : Int) then (if 0 ≤ x5 then (if x5 < (x1.length : Int) then (if (rdOf ByteArray.empty x0 x5).toList = (rdOf ByteArray.empty x1 x5).toList then (laws_eqStringS.l0 k x0 x1 (wrap64 (x5 + 1))) else (some false)) else (none)) else (none)) else (some true)
def laws_eqStringS.f (k : Nat) (l0 : List ByteArray) (l1 : List ByteArray) : Option (Bool) := if (l0.length : Int) = (l1.length : Int) then (laws_eqStringS.l0 k l0 l1 0) else (some false)
set_option maxRecDepth 100000 in
theorem laws_eqStringS.mono_l : ∀ k, (∀ y0 y1 y2, LeO (laws_eqStringS.l0 k y0 y1 y2) (laws_eqStringS.l0 (k + 1) y0 y1 y2))
 | 0 => fun _ _ _ r h => by simp [laws_eqStringS.l0] at h
 | k + 1 => by
  have ih0 := laws_eqStringS.mono_l k
  ·intro y0 y1 y2
   unfold laws_eqStringS.l0
   repeat' first
   | (with_reducible exact ih0 _ _ _)
   | (with_reducible exact LeO.refl _)
   | (with_reducible exact LeO.none _)
   | (with_reducible refine LeO.ite ?_ ?_)
   | (with_reducible refine LeO.bind ?_ (fun _ => ?_))
   | exact ih0 _ _ _
   | exact LeO.none _
   | refine LeO.ite ?_ ?_
   | refine LeO.bind ?_ (fun _ => ?_)
theorem laws_eqStringS.mono : ∀ a0 a1 k, LeO (laws_eqStringS.f k a0 a1) (laws_eqStringS.f (k + 1) a0 a1) := by
 intro a0 a1 k
 have ih0 := laws_eqStringS.mono_l k
 unfold laws_eqStringS.f
 repeat' first
  | (with_reducible exact ih0 _ _ _)
  | (with_reducible exact LeO.refl _)
  | (with_reducible exact LeO.none _)
  | (with_reducible refine LeO.ite ?_ ?_)
  | (with_reducible refine LeO.bind ?_ (fun _ => ?_))
  | exact ih0 _ _ _
  | exact LeO.none _
  | refine LeO.ite ?_ ?_
  | refine LeO.bind ?_ (fun _ => ?_)
set_option maxHeartbeats 8000000 in
set_option maxRecDepth 100000 in
theorem laws_eqStringS.calls (k : Nat) (A0 : Option Addr) (c0 : Nat) (l0 : List ByteArray) (A1 : Option Addr) (c1 : Nat) (l1 : List ByteArray) (r : Bool) (w : World) (hr0 : Kd.C Kd.string w A0 l0.length l0) (hc0 : l0.length ≤ c0) (hr1 : Kd.C Kd.string w A1 l1.length l1) (hc1 : l1.length ≤ c1) (h : laws_eqStringS.f k l0 l1 = some r) :
 Calls Try.prog 63 #[.slice A0 l0.length c0, .slice A1 l1.length c1] w fun e w' => e = .returned (.bool r) ∧ Drawn0 w w' := by
 have HR0 := aM hr0
 have HC0 := aM hc0
 clear hr0 hc0
 have HR1 := aM hr1
 have HC1 := aM hc1
 clear hr1 hc1
 have H : (if (l0.length : Int) = (l1.length : Int) then (laws_eqStringS.l0 k l0 l1 0) else (some false)) = some r := h
 clear h
 by_cases c3 : (l0.length : Int) = (l1.length : Int)
 ·rw [if_pos c3] at H
  have c3b0 : ((l0.length : Int) == (l1.length : Int)) = true := beq_iff_eq.mpr c3; have c3b1 : ((l0.length : Int) != (l1.length : Int)) = false := bne_eq_false_iff_eq.mpr c3
  have c3b2 : (l0.length == l1.length) = true := by first | simpa using c3 | (simp at c3 ⊢; omega)
  clear c3
  have H' := aM H
  clear H
  go_enter Try.func63, Try.ntmps63
  go_wp2
  repeat (go_quiet (fail); try go_wp2)
  go_loopg [5] k (fun kq v5 w' => ∃ (x5_1 : Int), v5 = .int .i64 x5_1 ∧ Aside0 (laws_eqStringS.l0 kq l0 l1 x5_1 = some r) ∧ Aside0 (kq ≤ k) ∧ Drawn0 w w')
  case atStart => exact ⟨(0), (by first | rfl | (simp; done) | (simp [*]; done)), H', ⟨Nat.le_refl _⟩, by repeat (first | exact Drawn0.refl _ | apply Drawn0.step)⟩
  case round =>
   clear H'
   try clear c1
   try clear p2
   try clear c3
   try clear c3b0
   try clear c3b1
   try clear c3b2
   obtain ⟨x5_1, rfl, HA, HK1, ⟨m1, rfl⟩⟩ := hrel
   cases gk with
   | zero => exact absurd HA.out (by simp [laws_eqStringS.l0])
   | succ k1 =>
    have H := HA.out; clear HA
    simp only [laws_eqStringS.l0] at H
    by_cases c4 : x5_1 < (l0.length : Int)
    ·rw [if_pos c4] at H
     have c4b0 : decide (x5_1 < (l0.length : Int)) = true := decide_eq_true c4; clear c4
     by_cases c5 : 0 ≤ x5_1
     ·rw [if_pos c5] at H
      have c5b0 : decide (0 ≤ x5_1) = true := decide_eq_true c5; clear c5
      by_cases c6 : x5_1 < (l1.length : Int)
      ·rw [if_pos c6] at H
       have c6b0 : decide (x5_1 < (l1.length : Int)) = true := decide_eq_true c6; clear c6
       by_cases c7 : (rdOf ByteArray.empty l0 x5_1).toList = (rdOf ByteArray.empty l1 x5_1).toList
       ·rw [if_pos c7] at H
        have c7b0 : ((rdOf ByteArray.empty l0 x5_1).toList == (rdOf ByteArray.empty l1 x5_1).toList) = true := beq_iff_eq.mpr c7; have c7b1 : ((rdOf ByteArray.empty l0 x5_1).toList != (rdOf ByteArray.empty l1 x5_1).toList) = false := bne_eq_false_iff_eq.mpr c7; clear c7
        have H' := aM H
        clear H; have p370 : 0 ≤ (x5_1 : Int) := of_decide_eq_true (by first | (with_reducible assumption) | assumption); have q370 : x5_1 < (l0.length : Int) := of_decide_eq_true (by first | (with_reducible assumption) | assumption)
        obtain ⟨ad370, e370, hx370_0⟩ := Kd.at_string HR0.out x5_1 p370 q370
        cases e370
        replace p370 := eq_true p370; replace q370 := eq_true q370; have p371 : 0 ≤ (x5_1 : Int) := of_decide_eq_true (by first | (with_reducible assumption) | assumption); have q371 : x5_1 < (l1.length : Int) := of_decide_eq_true (by first | (with_reducible assumption) | assumption)
        obtain ⟨ad371, e371, hx371_0⟩ := Kd.at_string HR1.out x5_1 p371 q371
        cases e371
        replace p371 := eq_true p371; replace q371 := eq_true q371
        go_wp2
        repeat (go_quiet (fail); try go_wp2)
        go_roundg k1
        case measure => have := HK1.out; omega
        case rel => exact ⟨(wrap64 (x5_1 + 1)), (by first | rfl | (simp; done) | (simp [*]; done)), H', ⟨by have := HK1.out; omega⟩, by repeat (first | exact Drawn0.refl _ | apply Drawn0.step)⟩
       ·rw [if_neg c7] at H
        have c7b0 : ((rdOf ByteArray.empty l0 x5_1).toList == (rdOf ByteArray.empty l1 x5_1).toList) = false := beq_eq_false_iff_ne.mpr c7; have c7b1 : ((rdOf ByteArray.empty l0 x5_1).toList != (rdOf ByteArray.empty l1 x5_1).toList) = true := bne_iff_ne.mpr c7
        obtain rfl := Option.some.inj H
        have p370 : 0 ≤ (x5_1 : Int) := of_decide_eq_true (by first | (with_reducible assumption) | assumption); have q370 : x5_1 < (l0.length : Int) := of_decide_eq_true (by first | (with_reducible assumption) | assumption)
        obtain ⟨ad370, e370, hx370_0⟩ := Kd.at_string HR0.out x5_1 p370 q370
        cases e370
        replace p370 := eq_true p370; replace q370 := eq_true q370; have p371 : 0 ≤ (x5_1 : Int) := of_decide_eq_true (by first | (with_reducible assumption) | assumption); have q371 : x5_1 < (l1.length : Int) := of_decide_eq_true (by first | (with_reducible assumption) | assumption)
        obtain ⟨ad371, e371, hx371_0⟩ := Kd.at_string HR1.out x5_1 p371 q371
        cases e371
        replace p371 := eq_true p371; replace q371 := eq_true q371
        go_wp2
        repeat (go_quiet (fail); try go_wp2)
        go_ret
        exact ⟨by first | rfl | (simp; done) | (simp [*]; done), by repeat (first | exact Drawn0.refl _ | apply Drawn0.step)⟩
      ·rw [if_neg c6] at H
       exact absurd H (by simp)
     ·rw [if_neg c5] at H
      exact absurd H (by simp)
    ·rw [if_neg c4] at H
     have c4b0 : decide (x5_1 < (l0.length : Int)) = false := decide_eq_false c4; clear c4
     obtain rfl := Option.some.inj H
     go_wp2
     repeat (go_quiet (fail); try go_wp2)
     go_ret
     exact ⟨by first | rfl | (simp; done) | (simp [*]; done), by repeat (first | exact Drawn0.refl _ | apply Drawn0.step)⟩
 ·rw [if_neg c3] at H
  have c3b0 : ((l0.length : Int) == (l1.length : Int)) = false := beq_eq_false_iff_ne.mpr c3; have c3b1 : ((l0.length : Int) != (l1.length : Int)) = true := bne_iff_ne.mpr c3
  have c3b2 : (l0.length == l1.length) = false := by first | simpa using c3 | (simp at c3 ⊢; omega)
  obtain rfl := Option.some.inj H
  go_enter Try.func63, Try.ntmps63
  go_wp2
  repeat (go_quiet (fail); try go_wp2)
  go_ret
  exact ⟨by first | rfl | (simp; done) | (simp [*]; done), by repeat (first | exact Drawn0.refl _ | apply Drawn0.step)⟩

/-! ### laws_markStringS: function 64 -/
def laws_markStringS.l0 : Nat → List ByteArray → Int → Int → Option (Int × List ByteArray)
 | 0, _, _, _ => none
 | k + 1, x0, x1, x5 => if x5 < (x0.length : Int) then ((laws_markText.f k x1).bind fun t372 => (if 0 ≤ x5 then (laws_markStringS.l0 k (x0.set (x5 : Int).toNat t372) (wrap64 (x1 + 1)) (wrap64 (x5 + 1))) else (none))) else (some (x1, x0))
def laws_markStringS.f (k : Nat) (l0 : List ByteArray) (a1 : Int) : Option (Int × List ByteArray) := laws_markStringS.l0 k l0 a1 0
set_option maxRecDepth 100000 in
theorem laws_markStringS.mono_l : ∀ k, (∀ y0 y1 y2, LeO (laws_markStringS.l0 k y0 y1 y2) (laws_markStringS.l0 (k + 1) y0 y1 y2))
 | 0 => fun _ _ _ r h => by simp [laws_markStringS.l0] at h
 | k + 1 => by
  have ih0 := laws_markStringS.mono_l k
  ·intro y0 y1 y2
   unfold laws_markStringS.l0
   repeat' first
   | (with_reducible exact ih0 _ _ _)
   | (with_reducible exact laws_markText.mono _ _)
   | (with_reducible exact LeO.refl _)
   | (with_reducible exact LeO.none _)
   | (with_reducible refine LeO.ite ?_ ?_)
   | (with_reducible refine LeO.bind ?_ (fun _ => ?_))
   | exact ih0 _ _ _
   | exact laws_markText.mono _ _
   | exact LeO.none _
   | refine LeO.ite ?_ ?_
   | refine LeO.bind ?_ (fun _ => ?_)
theorem laws_markStringS.mono : ∀ a0 a1 k, LeO (laws_markStringS.f k a0 a1) (laws_markStringS.f (k + 1) a0 a1) := by
 intro a0 a1 k
 have ih0 := laws_markStringS.mono_l k
 unfold laws_markStringS.f
 repeat' first
  | (with_reducible exact ih0 _ _ _)
  | (with_reducible exact laws_markText.mono _ _)
  | (with_reducible exact LeO.refl _)
  | (with_reducible exact LeO.none _)
  | (with_reducible refine LeO.ite ?_ ?_)
  | (with_reducible refine LeO.bind ?_ (fun _ => ?_))
  | exact ih0 _ _ _
  | exact laws_markText.mono _ _
  | exact LeO.none _
  | refine LeO.ite ?_ ?_
  | refine LeO.bind ?_ (fun _ => ?_)
set_option maxHeartbeats 8000000 in
set_option maxRecDepth 100000 in
theorem laws_markStringS.calls (k : Nat) (P0_ : Nat → Prop) (u9000_ : Value) (l0 : List ByteArray) (a1 : Int) (r1 : Int) (r2 : List ByteArray) (w0 w : World) (hB : Below w0.heap.size w0 w) (ho0 : Kd.R Kd.string 9 w w0.heap.size P0_ u9000_ l0) (h : laws_markStringS.f k l0 a1 = some (r1, r2)) :
 Calls Try.prog 64 #[u9000_, .int .i64 a1] w fun e w' => e = .returned (.int .i64 r1) ∧ Kd.R Kd.string 9 w' w0.heap.size (fun k_ => (P0_ k_ ∨ w.heap.size ≤ k_)) u9000_ r2 ∧ Below w0.heap.size w0 w' ∧ Kept w w' (fun k_ => P0_ k_) := by
 have HO0 := aM (show Kd.R Kd.string 9 w w0.heap.size (fun k_ => (P0_ k_ ∨ w.heap.size ≤ k_)) u9000_ l0 from Kd.R_mono ho0 (fun k_ hk => (.inl hk)))
 have HK := aM (Kept.refl w (fun k_ => P0_ k_))
 have HW0 := aM hB.size
 have HB := aM hB
 clear hB
 have H : (laws_markStringS.l0 k l0 a1 0) = some (r1, r2) := h
 clear h
 have H' := aM H
 clear H
 go_enter Try.func64, Try.ntmps64
 go_wp2
 go_loopg [1, 5] k (fun kq v1 v5 w' => ∃ (x0_1 : List ByteArray) (x1_1 : Int) (x5_1 : Int), v1 = .int .i64 x1_1 ∧ v5 = .int .i64 x5_1 ∧ Aside0 (laws_markStringS.l0 kq x0_1 x1_1 x5_1 = some (r1, r2)) ∧ Aside0 (kq ≤ k) ∧ Aside0 (Kd.R Kd.string 9 w' w0.heap.size (fun k_ => (P0_ k_ ∨ w.heap.size ≤ k_)) u9000_ x0_1) ∧ Aside0 (Kept w w' (fun k_ => P0_ k_)) ∧ Aside0 (Below w0.heap.size w0 w'))
 case atStart => exact ⟨(l0), (a1), (0), (by first | rfl | (simp; done) | (simp [*]; done)), (by first | rfl | (simp; done) | (simp [*]; done)), H', ⟨Nat.le_refl _⟩, ⟨by (with_reducible repeat (first | apply Kd.R_alloc | apply Kd.R_drewN | apply Kd.R_drew)); exact HO0.out⟩, ⟨by repeat (first | (with_reducible first | exact HK.out | apply Kept.alloc | apply Kept.drewN | apply Kept.drew) | exact HK.out)⟩, ⟨xbel⟩⟩
 case round =>
  clear H'
  try clear p2
  obtain ⟨x0_1, x1_1, x5_1, rfl, rfl, HA, HK1, HO_0, HK, HB⟩ := hrel
  cases gk with
  | zero => exact absurd HA.out (by simp [laws_markStringS.l0])
  | succ k1 =>
   have H := HA.out; clear HA
   simp only [laws_markStringS.l0] at H
   by_cases c3 : x5_1 < (x0_1.length : Int)
   ·rw [if_pos c3] at H
    have c3b0 : decide (x5_1 < (x0_1.length : Int)) = true := decide_eq_true c3; clear c3; replace H := Option.bind_eq_some_iff.mp H
    obtain ⟨t372, A40, H⟩ := H
    replace H : (if 0 ≤ x5_1 then (laws_markStringS.l0 k1 (x0_1.set (x5_1 : Int).toNat t372) (wrap64 (x1_1 + 1)) (wrap64 (x5_1 + 1))) else (none)) = some (r1, r2) := H; have A4 := aM A40; clear A40
    by_cases c5 : 0 ≤ x5_1
    ·rw [if_pos c5] at H
     have c5b0 : decide (0 ≤ x5_1) = true := decide_eq_true c5; clear c5
     obtain ⟨y373, hy373⟩ : ∃ y_ : List ByteArray, y_ = (x0_1.set (x5_1 : Int).toNat t372) := ⟨_, rfl⟩
     replace H : (laws_markStringS.l0 k1 y373 (wrap64 (x1_1 + 1)) (wrap64 (x5_1 + 1))) = some (r1, r2) := by first | (rw [hy373]; with_reducible exact H) | (have H2_ := (Option.bind_some _ _).symm.trans H; rw [hy373]; with_reducible exact H2_) | (have H2_ := (Option.bind_some _ _).symm.trans H; with_reducible exact H2_) | with_reducible exact H | (rw [hy373]; exact H) | exact H
     have Ny373 := aM hy373; clear hy373
     have H' := aM H
     clear H
     obtain ⟨Ao7, co7, eo7⟩ := Kd.R_slice HO_0.out
     subst eo7
     go_wp2_with (first | ((with_reducible refine gate_callee (f := 127) rfl ?_); refine goesL_ (some 15) rfl rfl Try.func127 (by kernel_rfl) rfl #[.int .i64 x1_1] rfl (by (try simp only [List.map_toArray, List.map_cons, List.map_nil]); first | done | rfl | (simp only [List.length_drop, List.length_take]; rfl)) ?_; (with_reducible refine (laws_markText.calls k1 x1_1 t372 _ A4.out).mono ?_); rintro e w8 ⟨rfl, hb⟩; refine ⟨_, rfl, ?_⟩; replace HO_0 := aM (Kd.R_below (xr HO_0) hb); replace HK := aM (Kept.below (S := (fun k_ => P0_ k_)) (by repeat (first | (with_reducible first | exact HK.out | apply Kept.alloc | apply Kept.drewN | apply Kept.drew) | exact HK.out)) hb); replace HB := xbs hb; (try clear hb); (try clear hb2); (try clear hk); (try clear hi); have p6 : 0 ≤ (x5_1 : Int) := of_decide_eq_true (by first | (with_reducible assumption) | assumption); have q6 : (x5_1 : Int) < ((x0_1.length : Int) : Int) := of_decide_eq_true (by first | (with_reducible assumption) | assumption); obtain ⟨go6, co6, eo6, gb6, gl6, cl6, HG6⟩ := Kd.R_form HO_0.out (by omega); (first | cases eo6 | (injection eo6 with ea_ en_ ec_; (first | subst ea_ | (injection ea_ with ea_; subst ea_)); subst ec_; clear en_)); have GB6 := aM gb6; have GG6 := aM HG6; clear gb6 gl6 HG6; have HMgo6 := aM (show (P0_ go6 ∨ w.heap.size ≤ go6) from (HO_0.out.1 _ rfl)); obtain ⟨hx6_0, hf6_0⟩ := Kd.R_celln (⟨#[]⟩ : ByteArray) HO_0.out (x5_1 : Int) p6 q6; replace p6 := eq_true p6; replace q6 := eq_true q6; obtain ⟨hy9_, hz9_⟩ := Kd.R_celln (⟨#[]⟩ : ByteArray) HO_0.out (x5_1 : Int) (of_decide_eq_true (by first | (with_reducible assumption) | assumption)) (of_decide_eq_true (by first | (with_reducible assumption) | assumption)); have HP9 := Kd.R_putg HO_0.out (x5_1 : Int) t372) | ((with_reducible refine gate_store (t := 9) (p := 16) rfl ?_); refine store_event (t := 9) (p := 16) (v := ?vo_w10) (w1 := (w8.setCell ⟨go6, (x5_1 : Int).toNat, none⟩ (.string t372))) ?hg ?ho ?hn ?hr ?_; (case ho => rfl); (case hg => rfl); (case hn => rfl); (case hr => first | (go_simp; done) | (go_simp; rfl)); intro w10 hw; have hg : w8.grownBy w10 (some go6) := (by rw [hw]; exact HP9.2); have hp_ : Kd.R Kd.string 9 w10 w0.heap.size (fun k_ => (P0_ k_ ∨ w.heap.size ≤ k_)) (.slice (some ⟨go6, 0, none⟩) x0_1.length co7) y373 := (by rw [hw, Ny373.out]; exact HP9.1); clear HP9; replace HB := aM ((by rw [hw]; exact below_set (HB.out) GB6.out : Below w0.heap.size w0 w10)); replace HK := aM (Kept.of_grown (S := (fun k_ => P0_ k_)) hg (by repeat (first | (with_reducible first | exact HK.out | apply Kept.alloc | apply Kept.drewN | apply Kept.drew) | exact HK.out)) (fun k_ e_ => (HO_0.out.1 k_ e_))); replace HO_0 := aM (hp_); clear hg hw hp_))
     go_roundg k1
     case measure => have := HK1.out; omega
     case rel => exact ⟨(y373), (wrap64 (x1_1 + 1)), (wrap64 (x5_1 + 1)), (by first | rfl | (simp; done) | (simp [*]; done)), (by first | rfl | (simp; done) | (simp [*]; done)), H', ⟨by have := HK1.out; omega⟩, ⟨by (with_reducible repeat (first | apply Kd.R_alloc | apply Kd.R_drewN | apply Kd.R_drew)); exact HO_0.out⟩, ⟨by repeat (first | (with_reducible first | exact HK.out | apply Kept.alloc | apply Kept.drewN | apply Kept.drew) | exact HK.out)⟩, ⟨xbel⟩⟩
    ·rw [if_neg c5] at H
     exact absurd H (by simp)
   ·rw [if_neg c3] at H
    have c3b0 : decide (x5_1 < (x0_1.length : Int)) = false := decide_eq_false c3; clear c3
    simp only [Option.some.injEq, Prod.mk.injEq] at H
    obtain ⟨rfl, rfl⟩ := H
    obtain ⟨Ao11, co11, eo11⟩ := Kd.R_slice HO_0.out
    subst eo11
    go_wp2
    go_ret
    exact ⟨by first | rfl | (simp [errW_none, errW_some] <;> rfl) | (simp [*, errW_none, errW_some] <;> rfl), by (with_reducible repeat (first | apply Kd.R_alloc | apply Kd.R_drewN | apply Kd.R_drew)); exact HO_0.out, xbel, by repeat (first | (with_reducible first | exact HK.out | apply Kept.alloc | apply Kept.drewN | apply Kept.drew) | exact HK.out)⟩

end Go.Proofs.Ytnjpfllmcmomoaa.QFnExactJournalLate
