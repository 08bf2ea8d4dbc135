-- A walk, by a program of this session.
import Derived.Test.YtnjpfllmcmomoaaQFnExactJournalAddx0
import Derived.Test.YtnjpfllmcmomoaaQFnExactJournalAddx5
import Derived.Test.YtnjpfllmcmomoaaQFnExactJournalAddx6
import Derived.Test.YtnjpfllmcmomoaaQFnExactJournalAddx7
namespace Go.Proofs.Ytnjpfllmcmomoaa.QFnExactJournalAdd
open Go.RowKit Go.Proofs.YtnjpfllmcmomoaaW.PrintWords Go.Proofs.YtnjpfllmcmomoaaW.PrintLast Go.Proofs.YtnjpfllmcmomoaaW.PrintMore
attribute [local go_sem] max2_int min2_int max_two min_two max_three min_three max_four min_four   -- for this text's walks alone
set_option linter.unusedVariables false
set_option linter.unusedSimpArgs false

/-! ### impl_sumBytes: function 164 -/
def impl_sumBytes.f (k : Nat) (l0 : List Int) : Option (List Int) := (impl_Sum.f k l0).bind fun t363 => (some (([(Go.bits .and .i64 t363 255) % 256, (Go.bits .and .i64 (t363 / 256) 255) % 256, (Go.bits .and .i64 (t363 / 65536) 255) % 256, (Go.bits .and .i64 (t363 / 16777216) 255) % 256] : List Int)))
theorem impl_sumBytes.mono : ∀ a0 k, LeO (impl_sumBytes.f k a0) (impl_sumBytes.f (k + 1) a0) := by
 intro a0 k
 unfold impl_sumBytes.f
 repeat' first
  | (with_reducible exact impl_Sum.mono _ _)
  | (with_reducible exact LeO.refl _)
  | (with_reducible exact LeO.none _)
  | (with_reducible refine LeO.ite ?_ ?_)
  | (with_reducible refine LeO.bind ?_ (fun _ => ?_))
  | exact impl_Sum.mono _ _
  | exact LeO.none _
  | refine LeO.ite ?_ ?_
  | refine LeO.bind ?_ (fun _ => ?_)
set_option maxHeartbeats 8000000 in
set_option maxRecDepth 100000 in
theorem impl_sumBytes.calls (k : Nat) (A0 : Option Addr) (c0 : Nat) (l0 : List Int) (r : List Int) (w : World) (hr0 : Kd.C (Kd.int .u8) w A0 l0.length l0) (hc0 : l0.length ≤ c0) (h : impl_sumBytes.f k l0 = some r) :
 Calls Try.prog 164 #[.slice A0 l0.length c0] w fun e w' => ∃ v0_ : Value, e = .returned (v0_) ∧ Kd.R (Kd.int .u8) 5 w' w.heap.size (fun _ => True) v0_ r ∧ Below w.heap.size w w' := by
 have HR0 := aM hr0
 have HC0 := aM hc0
 clear hr0 hc0
 have HB := aM (Below.refl w.heap.size w)
 have H : ((impl_Sum.f k l0).bind fun t363 => (some (([(Go.bits .and .i64 t363 255) % 256, (Go.bits .and .i64 (t363 / 256) 255) % 256, (Go.bits .and .i64 (t363 / 65536) 255) % 256, (Go.bits .and .i64 (t363 / 16777216) 255) % 256] : List Int)))) = some r := h
 clear h
 replace H := Option.bind_eq_some_iff.mp H
 obtain ⟨t363, A20, H⟩ := H
 replace H : (some (([(Go.bits .and .i64 t363 255) % 256, (Go.bits .and .i64 (t363 / 256) 255) % 256, (Go.bits .and .i64 (t363 / 65536) 255) % 256, (Go.bits .and .i64 (t363 / 16777216) 255) % 256] : List Int))) = some r := H
 have A2 := aM A20
 clear A20
 obtain ⟨y364, hy364⟩ : ∃ y_ : List Int, y_ = (([(Go.bits .and .i64 t363 255) % 256, (Go.bits .and .i64 (t363 / 256) 255) % 256, (Go.bits .and .i64 (t363 / 65536) 255) % 256, (Go.bits .and .i64 (t363 / 16777216) 255) % 256] : List Int)) := ⟨_, rfl⟩
 replace H : (some y364) = some r := by first | (rw [hy364]; with_reducible exact H) | (have H2_ := (Option.bind_some _ _).symm.trans H; rw [hy364]; with_reducible exact H2_) | (have H2_ := (Option.bind_some _ _).symm.trans H; with_reducible exact H2_) | with_reducible exact H | (rw [hy364]; exact H) | exact H
 have Ny364 := aM hy364
 clear hy364
 obtain rfl := Option.some.inj H
 go_enter Try.func164, Try.ntmps164
 go_wp2_with (first | ((with_reducible refine gate_callee (f := 172) rfl ?_); refine goesL_ (some 5) rfl rfl Try.func172 (by kernel_rfl) rfl #[.slice A0 l0.length c0] rfl (by (try simp only [List.map_toArray, List.map_cons, List.map_nil]); first | done | rfl | (simp only [List.length_drop, List.length_take]; rfl)) ?_; (with_reducible refine (impl_Sum.calls k _ _ l0 t363 _ ?side1 ?side2 A2.out).mono ?_); (case side1 => repeat (first | exact HR0.out | (with_reducible refine Kd.C_alloc ?_ _) | (with_reducible refine Kd.C_drewN ?_ _) | (with_reducible refine Kd.C_drew ?_))); (case side2 => exact HC0.out); rintro e w' ⟨rfl, ⟨nd, rfl⟩⟩; refine ⟨_, rfl, ?_⟩) | ((with_reducible refine gate_dst (N := 21) rfl ?_); refine Kd.R_lit (Kd.int .u8) _ 5 ?hg (N := 21) ?hd (xs := ([(Go.bits .and .i64 t363 255) % 256, (Go.bits .and .i64 (t363 / 256) 255) % 256, (Go.bits .and .i64 (t363 / 65536) 255) % 256, (Go.bits .and .i64 (t363 / 16777216) 255) % 256] : List Int)) (inner := [.int .u8 ((Go.bits .and .i64 t363 255) % 256), .int .u8 ((Go.bits .and .i64 (t363 / 256) 255) % 256), .int .u8 ((Go.bits .and .i64 (t363 / 65536) 255) % 256), .int .u8 ((Go.bits .and .i64 (t363 / 16777216) 255) % 256)]) (ok := fun _ => True) (okp := fun _ => True) ?hr ?hp (fun _ hk => hk) trivial (Below.refl _ _) (Nat.le_refl _) (by simp) ?_; (case hd => rfl); (case hg => rfl); (case hr => first | (go_simp; done) | (go_simp; rfl)); (case hp => exact (Reps.one (show Kd.M (Kd.int .u8) _ _ _ ((Go.bits .and .i64 t363 255) % 256) [.int .u8 ((Go.bits .and .i64 t363 255) % 256)] from rfl) (Reps.one (show Kd.M (Kd.int .u8) _ _ _ ((Go.bits .and .i64 (t363 / 256) 255) % 256) [.int .u8 ((Go.bits .and .i64 (t363 / 256) 255) % 256)] from rfl) (Reps.one (show Kd.M (Kd.int .u8) _ _ _ ((Go.bits .and .i64 (t363 / 65536) 255) % 256) [.int .u8 ((Go.bits .and .i64 (t363 / 65536) 255) % 256)] from rfl) (Reps.one (show Kd.M (Kd.int .u8) _ _ _ ((Go.bits .and .i64 (t363 / 16777216) 255) % 256) [.int .u8 ((Go.bits .and .i64 (t363 / 16777216) 255) % 256)] from rfl) (Reps.none _ _)))))); intro v365 w3 ho4 hb hg_ hnew_; clear hg_ hnew_; (first | rw [← Ny364.out] at ho4 | (simp only [Int.reduceToNat] at ho4; rw [← Ny364.out] at ho4)); have HO366 := aM (Kd.R_lower ho4 (below_size xbel)); replace HB := xbs hb; clear hb ho4))
 go_ret
 exact ⟨_, by first | rfl | (simp [errW_none, errW_some] <;> rfl) | (simp [*, errW_none, errW_some] <;> rfl), by (with_reducible repeat (first | apply Kd.R_alloc | apply Kd.R_drewN | apply Kd.R_drew)); exact HO366.out, xbel⟩

/-! ### impl_Seal: function 134 -/
def impl_Seal.f (k : Nat) (l0 : List Int) : Option (List Int × Bool) := if (l0.length : Int) > 3000 then (some (([] : List Int), false)) else ((impl_PutNum.f k (l0.length : Int)).bind fun t367 => (if t367.length + l0.length < 140737488355328 then ((some (t367 ++ l0 : List Int)).bind fun y370 => ((impl_sumBytes.f k l0).bind fun t373 => (if y370.length + t373.length < 140737488355328 then (some ((y370 ++ t373), true)) else (none)))) else (none)))
theorem impl_Seal.mono : ∀ a0 k, LeO (impl_Seal.f k a0) (impl_Seal.f (k + 1) a0) := by
 intro a0 k
 unfold impl_Seal.f
 repeat' first
  | (with_reducible exact impl_PutNum.mono _ _)
  | (with_reducible exact impl_sumBytes.mono _ _)
  | (with_reducible exact LeO.refl _)
  | (with_reducible exact LeO.none _)
  | (with_reducible refine LeO.ite ?_ ?_)
  | (with_reducible refine LeO.bind ?_ (fun _ => ?_))
  | exact impl_PutNum.mono _ _
  | exact impl_sumBytes.mono _ _
  | exact LeO.none _
  | refine LeO.ite ?_ ?_
  | refine LeO.bind ?_ (fun _ => ?_)
set_option maxHeartbeats 8000000 in
set_option maxRecDepth 100000 in
theorem impl_Seal.calls (k : Nat) (A0 : Option Addr) (c0 : Nat) (l0 : List Int) (r1 : List Int) (r2 : Bool) (w : World) (hr0 : Kd.C (Kd.int .u8) w A0 l0.length l0) (hc0 : l0.length ≤ c0) (h : impl_Seal.f k l0 = some (r1, r2)) :
 Calls Try.prog 134 #[.slice A0 l0.length c0] w fun e w' => ∃ v0_ : Value, e = .returned (.tuple #[v0_, .bool r2]) ∧ Kd.R (Kd.int .u8) 5 w' w.heap.size (fun _ => True) v0_ r1 ∧ Below w.heap.size w w' := by
 have HR0 := aM hr0
 have HC0 := aM hc0
 clear hr0 hc0
 have HB := aM (Below.refl w.heap.size w)
 have H : (if (l0.length : Int) > 3000 then (some (([] : List Int), false)) else ((impl_PutNum.f k (l0.length : Int)).bind fun t367 => (if t367.length + l0.length < 140737488355328 then ((some (t367 ++ l0 : List Int)).bind fun y370 => ((impl_sumBytes.f k l0).bind fun t373 => (if y370.length + t373.length < 140737488355328 then (some ((y370 ++ t373), true)) else (none)))) else (none)))) = some (r1, r2) := h
 clear h
 by_cases c2 : (l0.length : Int) > 3000
 ·rw [if_pos c2] at H
  have c2b0 : decide (3000 < (l0.length : Int)) = true := decide_eq_true c2; have c2b1 : decide (3000 < l0.length) = true := decide_eq_true (by omega); clear c2
  simp only [Option.some.injEq, Prod.mk.injEq] at H
  obtain ⟨rfl, rfl⟩ := H
  go_enter Try.func134, Try.ntmps134
  go_wp2
  go_ret2
  exact ⟨_, by first | rfl | (simp [errW_none, errW_some] <;> rfl) | (simp [*, errW_none, errW_some] <;> rfl), by first | exact Kd.R_nil _ _ _ _ _ | exact Kd.N_nil _ _ _ _ _ | exact Kd.V_nil _ _ _ _ _ | exact Kd.Q_nil _ _ _ _ _ | exact Kd.S_nil _ _ _ _ _, xbel⟩
 ·rw [if_neg c2] at H
  have c2b0 : decide (3000 < (l0.length : Int)) = false := decide_eq_false c2; have c2b1 : decide (3000 < l0.length) = false := decide_eq_false (by omega); clear c2; replace H := Option.bind_eq_some_iff.mp H
  obtain ⟨t367, A30, H⟩ := H
  replace H : (if t367.length + l0.length < 140737488355328 then ((some (t367 ++ l0 : List Int)).bind fun y370 => ((impl_sumBytes.f k l0).bind fun t373 => (if y370.length + t373.length < 140737488355328 then (some ((y370 ++ t373), true)) else (none)))) else (none)) = some (r1, r2) := H; have A3 := aM A30; clear A30
  by_cases c4 : t367.length + l0.length < 140737488355328
  ·rw [if_pos c4] at H
   have LMc4 := aM c4; clear c4
   obtain ⟨y370, hy370⟩ : ∃ y_ : List Int, y_ = (t367 ++ l0) := ⟨_, rfl⟩
   replace H : ((impl_sumBytes.f k l0).bind fun t373 => (if y370.length + t373.length < 140737488355328 then (some ((y370 ++ t373), true)) else (none))) = some (r1, r2) := by first | (rw [hy370]; with_reducible exact H) | (have H2_ := (Option.bind_some _ _).symm.trans H; rw [hy370]; with_reducible exact H2_) | (have H2_ := (Option.bind_some _ _).symm.trans H; with_reducible exact H2_) | with_reducible exact H | (rw [hy370]; exact H) | exact H
   have Ny370 := aM hy370; clear hy370; replace H := Option.bind_eq_some_iff.mp H
   obtain ⟨t373, A50, H⟩ := H
   replace H : (if y370.length + t373.length < 140737488355328 then (some ((y370 ++ t373), true)) else (none)) = some (r1, r2) := H; have A5 := aM A50; clear A50
   by_cases c6 : y370.length + t373.length < 140737488355328
   ·rw [if_pos c6] at H
    have LMc6 := aM c6; clear c6
    obtain ⟨y376, hy376⟩ : ∃ y_ : List Int, y_ = (y370 ++ t373) := ⟨_, rfl⟩
    replace H : (some (y376, true)) = some (r1, r2) := by first | (rw [hy376]; with_reducible exact H) | (have H2_ := (Option.bind_some _ _).symm.trans H; rw [hy376]; with_reducible exact H2_) | (have H2_ := (Option.bind_some _ _).symm.trans H; with_reducible exact H2_) | with_reducible exact H | (rw [hy376]; exact H) | exact H
    have Ny376 := aM hy376; clear hy376
    simp only [Option.some.injEq, Prod.mk.injEq] at H
    obtain ⟨rfl, rfl⟩ := H
    go_enter Try.func134, Try.ntmps134
    go_wp2_with (first | ((with_reducible refine gate_callee (f := 85) rfl ?_); refine goesL_ (some 9) rfl rfl Try.func85 (by kernel_rfl) rfl #[.int .i64 (l0.length : Int)] rfl (by (try simp only [List.map_toArray, List.map_cons, List.map_nil]); first | done | rfl | (simp only [List.length_drop, List.length_take]; rfl)) ?_; (with_reducible refine (impl_PutNum.calls k (l0.length : Int) t367 _ A3.out).mono ?_); rintro e w7 ⟨v368, rfl, ho0, hb⟩; refine ⟨_, rfl, ?_⟩; have HO369 := aM (Kd.R_lower ho0 (below_size xbel)); replace HB := xbs hb; (try clear hb); (try clear hb2); (try clear hk); (try clear hi); (try clear ho0)) | ((with_reducible refine gate_builtin (b := .append) (xs := #[.tmp 9, .tmp 10]) rfl ?_); at_builtin; refine Kd.R_append_rows (Kd.int .u8) (w0 := w) w.heap.size rfl (.tmp 9) (.tmp 10) 22 5 (.int .u8 0) 1 rfl Try.underlying22 info5 rfl (by decide) (by omega) v368 t367 l0 _ _ _ (fun _ => True) (fun _ => False) rfl rfl ?aO ?aR (fun _ _ h => h) (fun _ h => h.elim) ?aF ?aB ?aS ?aL ?_; (case aR => exact xcb HR0); (case aB => exact xbel); (case aF => exact (fun _ _ => trivial)); (case aO => exact (xr HO369)); (case aS => exact (below_size xbel)); (case aL => have := LMc4.out; omega); intro v371 w8 ho hb hg hat; rw [← Ny370.out] at ho; replace HB := aM (hb); have HO372 := aM (ho); clear HO369; clear ho hb hg hat) | ((with_reducible refine gate_callee (f := 164) rfl ?_); refine goesL_ (some 13) rfl rfl Try.func164 (by kernel_rfl) rfl #[.slice A0 l0.length c0] rfl (by (try simp only [List.map_toArray, List.map_cons, List.map_nil]); first | done | rfl | (simp only [List.length_drop, List.length_take]; rfl)) ?_; (with_reducible refine (impl_sumBytes.calls k _ _ l0 t373 _ ?side1 ?side2 A5.out).mono ?_); (case side1 => exact xcb HR0); (case side2 => exact HC0.out); rintro e w9 ⟨v374, rfl, ho0, hb⟩; refine ⟨_, rfl, ?_⟩; have HO375 := aM (Kd.R_lower (Kd.R_new' ho0 (Kd.R_lt (xr HO372))) (below_size xbel)); replace HO372 := aM (Kd.R_elder' (xr HO372) (Kd.R_base ho0) hb); replace HB := xbs hb; (try clear hb); (try clear hb2); (try clear hk); (try clear hi); (try clear ho0); obtain ⟨Ao11, co11, eo11⟩ := Kd.R_slice HO375.out; subst eo11) | ((with_reducible refine gate_builtin (b := .append) (xs := #[.tmp 11, .tmp 13]) rfl ?_); at_builtin; refine Kd.R_append_rows (Kd.int .u8) (w0 := w) w.heap.size rfl (.tmp 11) (.tmp 13) 22 5 (.int .u8 0) 1 rfl Try.underlying22 info5 rfl (by decide) (by omega) v371 y370 t373 _ _ _ (fun k_ => some k_ ≠ (.slice Ao11 t373.length co11 : Value).ownBlock) (fun _ => False) rfl rfl ?aO ?aR (fun _ _ h => h) (fun _ h => h.elim) ?aF ?aB ?aS ?aL ?_; (case aR => repeat (first | exact (Kd.R_reads' HO375.out).2.2 | (with_reducible refine Kd.C_alloc ?_ _) | (with_reducible refine Kd.C_drewN ?_ _) | (with_reducible refine Kd.C_drew ?_))); (case aB => exact xbel); (case aF => exact (fun k_ hk => Kd.fresh' (Kd.R_lt (xr HO375)) k_ hk)); (case aO => exact (by (with_reducible repeat (first | apply Kd.R_alloc | apply Kd.R_drewN | apply Kd.R_drew)); exact Kd.R_mono HO372.out (fun _ hk => hk.2))); (case aS => exact (below_size xbel)); (case aL => have := LMc6.out; omega); intro v377 w10 ho hb hg hat; rw [← Ny376.out] at ho; replace HO375 := aM (Kd.R_after (ok := (fun _ => True)) (xr HO375) hg hat); replace HB := aM (hb); have HO378 := aM (ho); clear HO372; clear ho hb hg hat))
    go_ret2
    exact ⟨_, by first | rfl | (simp [errW_none, errW_some] <;> rfl) | (simp [*, errW_none, errW_some] <;> rfl), by (with_reducible repeat (first | apply Kd.R_alloc | apply Kd.R_drewN | apply Kd.R_drew)); exact Kd.R_mono HO378.out (fun _ hk => trivial), xbel⟩
   ·rw [if_neg c6] at H
    exact absurd H (by simp)
  ·rw [if_neg c4] at H
   exact absurd H (by simp)

/-! ### impl_JournalLate: function 62 -/
mutual
def impl_JournalLate.j0 : Nat → Int → List ByteArray → Bool → Int → List (S134) → Option (Int × (List (S134)) × Int)
 | 0, _, _, _, _, _ => none
 | k + 1, x1, x2, x25, x380000, x380001 => if x25 = true then (some (0, ([] : List (S134)), 1)) else (impl_JournalLate.l0 k x1 (([] : List Int)) x2 (x2.length : Int) 0 x380000 x380001)
def impl_JournalLate.l0 : Nat → Int → List Int → List ByteArray → Int → Int → Int → List (S134) → Option (Int × (List (S134)) × Int)
 | 0, _, _, _, _, _, _, _ => none
 | k + 1, x1, x8, x28, x29, x30, x380000, x380001 => if x30 < x29 then (if 0 ≤ x30 then (if x30 < (x28.length : Int) then (if (rdOf ByteArray.empty x28 x30).size ≤ 9223372036854775807 then ((impl_Seal.f k (bytesOf (rdOf ByteArray.empty x28 x30))).bind fun bt390 => (if bt390.2 = true then (if x8.length + bt390.1.length < 140737488355328 then (impl_JournalLate.l0 k x1 (x8 ++ bt390.1) x28 x29 (wrap64 (x30 + 1)) x380000 x380001) else (none)) else (some (0, ([] : List (S134)), 1)))) else (none)) else (none)) else (none)) else ((impl_DiskAppend.f k x380000 x380001 x1 (strOfNums x8)).bind fun bt397 => (some (bt397.1, bt397.2.1, bt397.2.2)))
end
def impl_JournalLate.f (k : Nat) (a0_0 : Int) (l0_1 : List (S134)) (a1 : Int) (l2 : List ByteArray) : Option (Int × (List (S134)) × Int) := (impl_DiskOk.f k a0_0 l0_1).bind fun t381 => (if t381 = true then ((impl_isFile.f a1).bind fun t382 => (if t382 = true then (impl_JournalLate.j0 k a1 l2 (decide ((l2.length : Int) > 100)) a0_0 l0_1) else (impl_JournalLate.j0 k a1 l2 true a0_0 l0_1))) else (impl_JournalLate.j0 k a1 l2 true a0_0 l0_1))
set_option maxRecDepth 100000 in
theorem impl_JournalLate.mono_l : ∀ k, (∀ y0 y1 y2 y3 y4, LeO (impl_JournalLate.j0 k y0 y1 y2 y3 y4) (impl_JournalLate.j0 (k + 1) y0 y1 y2 y3 y4)) ∧ (∀ y0 y1 y2 y3 y4 y5 y6, LeO (impl_JournalLate.l0 k y0 y1 y2 y3 y4 y5 y6) (impl_JournalLate.l0 (k + 1) y0 y1 y2 y3 y4 y5 y6))
 | 0 => ⟨fun _ _ _ _ _ r h => by simp [impl_JournalLate.j0] at h, fun _ _ _ _ _ _ _ r h => by simp [impl_JournalLate.l0] at h⟩
 | k + 1 => by
  obtain ⟨ih0, ih1⟩ := impl_JournalLate.mono_l k
  refine ⟨?_, ?_⟩
  ·intro y0 y1 y2 y3 y4
   unfold impl_JournalLate.j0
   repeat' first
   | (with_reducible exact ih0 _ _ _ _ _)
   | (with_reducible exact ih1 _ _ _ _ _ _ _)
   | (with_reducible exact impl_DiskAppend.mono _ _ _ _ _)
   | (with_reducible exact impl_DiskOk.mono _ _ _)
   | (with_reducible exact impl_Seal.mono _ _)
   | (with_reducible exact LeO.refl _)
   | (with_reducible exact LeO.none _)
   | (with_reducible refine LeO.ite ?_ ?_)
   | (with_reducible refine LeO.bind ?_ (fun _ => ?_))
   | exact ih0 _ _ _ _ _
   | exact ih1 _ _ _ _ _ _ _
   | exact impl_DiskAppend.mono _ _ _ _ _
   | exact impl_DiskOk.mono _ _ _
   | exact impl_Seal.mono _ _
   | exact LeO.none _
   | refine LeO.ite ?_ ?_
   | refine LeO.bind ?_ (fun _ => ?_)
  ·intro y0 y1 y2 y3 y4 y5 y6
   unfold impl_JournalLate.l0
   repeat' first
   | (with_reducible exact ih0 _ _ _ _ _)
   | (with_reducible exact ih1 _ _ _ _ _ _ _)
   | (with_reducible exact impl_DiskAppend.mono _ _ _ _ _)
   | (with_reducible exact impl_DiskOk.mono _ _ _)
   | (with_reducible exact impl_Seal.mono _ _)
   | (with_reducible exact LeO.refl _)
   | (with_reducible exact LeO.none _)
   | (with_reducible refine LeO.ite ?_ ?_)
   | (with_reducible refine LeO.bind ?_ (fun _ => ?_))
   | exact ih0 _ _ _ _ _
   | exact ih1 _ _ _ _ _ _ _
   | exact impl_DiskAppend.mono _ _ _ _ _
   | exact impl_DiskOk.mono _ _ _
   | exact impl_Seal.mono _ _
   | exact LeO.none _
   | refine LeO.ite ?_ ?_
   | refine LeO.bind ?_ (fun _ => ?_)
theorem impl_JournalLate.mono : ∀ a0 a1 a2 a3 k, LeO (impl_JournalLate.f k a0 a1 a2 a3) (impl_JournalLate.f (k + 1) a0 a1 a2 a3) := by
 intro a0 a1 a2 a3 k
 obtain ⟨ih0, ih1⟩ := impl_JournalLate.mono_l k
 unfold impl_JournalLate.f
 repeat' first
  | (with_reducible exact ih0 _ _ _ _ _)
  | (with_reducible exact ih1 _ _ _ _ _ _ _)
  | (with_reducible exact impl_DiskAppend.mono _ _ _ _ _)
  | (with_reducible exact impl_DiskOk.mono _ _ _)
  | (with_reducible exact impl_Seal.mono _ _)
  | (with_reducible exact LeO.refl _)
  | (with_reducible exact LeO.none _)
  | (with_reducible refine LeO.ite ?_ ?_)
  | (with_reducible refine LeO.bind ?_ (fun _ => ?_))
  | exact ih0 _ _ _ _ _
  | exact ih1 _ _ _ _ _ _ _
  | exact impl_DiskAppend.mono _ _ _ _ _
  | exact impl_DiskOk.mono _ _ _
  | exact impl_Seal.mono _ _
  | exact LeO.none _
  | refine LeO.ite ?_ ?_
  | refine LeO.bind ?_ (fun _ => ?_)
set_option maxHeartbeats 8000000 in
set_option maxRecDepth 100000 in
theorem impl_JournalLate.calls (k : Nat) (a0_0 : Int) (A0_1 : Option Addr) (c0_1 : Nat) (l0_1 : List (S134)) (a1 : Int) (A2 : Option Addr) (c2 : Nat) (l2 : List ByteArray) (r1 : Int) (r2 : List (S134)) (r3 : Int) (w : World) (hr0_1 : Kd.C k134 w A0_1 l0_1.length l0_1) (hc0_1 : l0_1.length ≤ c0_1) (hr2 : Kd.C Kd.string w A2 l2.length l2) (hc2 : l2.length ≤ c2) (h : impl_JournalLate.f k a0_0 l0_1 a1 l2 = some (r1, r2, r3)) :
 Calls Try.prog 62 #[.agg #[.int .i64 a0_0, .slice A0_1 l0_1.length c0_1], .int .i64 a1, .slice A2 l2.length c2] w fun e w' => ∃ v1_ : Value, e = .returned (.tuple #[.agg #[.int .i64 r1, v1_], .int .i64 r3]) ∧ Kd.R k134 134 w' w.heap.size (fun _ => True) v1_ r2 ∧ Below w.heap.size w w' := by
 have hu70 := Try.underlying70
 have HR0_1 := aM hr0_1
 have HC0_1 := aM hc0_1
 clear hr0_1 hc0_1
 have HR2 := aM hr2
 have HC2 := aM hc2
 clear hr2 hc2
 have HB := aM (Below.refl w.heap.size w)
 have H : ((impl_DiskOk.f k a0_0 l0_1).bind fun t381 => (if t381 = true then ((impl_isFile.f a1).bind fun t382 => (if t382 = true then (impl_JournalLate.j0 k a1 l2 (decide ((l2.length : Int) > 100)) a0_0 l0_1) else (impl_JournalLate.j0 k a1 l2 true a0_0 l0_1))) else (impl_JournalLate.j0 k a1 l2 true a0_0 l0_1))) = some (r1, r2, r3) := h
 clear h
 have HC4 := aM H
 clear H
 go_enter Try.func62, Try.ntmps62
 go_upto_region 1 with (first | ((with_reducible refine gate_dst (N := 3) rfl ?_); (try (refine gate_guard (by rfl) ?_; dsimp only)); refine box_event ?hg (N := 3) ?hd (cs := #[.int .i64 a0_0, .slice A0_1 l0_1.length c0_1]) (t := 70) ?hr ?_; (case hd => rfl); (case hg => rfl); (case hr => first | (go_simp; done) | (go_simp; rfl)); intro gb379 hg w5 hbox hb; have BK379 := aM (hbox); have GW379 := aM (xge hg); have GE379 := aM (xge hg); replace HB := xbs hb; clear hb hbox hg) | ((with_reducible refine gate_dst (N := 6) rfl ?_); (try (refine gate_guard (by rfl) ?_; dsimp only)); refine box_event ?hg (N := 6) ?hd (cs := #[.int .i64 0, .slice none 0 0]) (t := 70) ?hr ?_; (case hd => rfl); (case hg => rfl); (case hr => first | (go_simp; done) | (go_simp; rfl)); intro gb380 hg w6 hbox hb; have GW380 := aM (xge hg); have GE380 := aM (xge hg); replace HB := xbs hb; have NB379_380 := aM ((by rw [hg]; exact Nat.ne_of_lt (blk_lt (g := gb379) (o := .cells #[.int .i64 a0_0, .slice A0_1 l0_1.length c0_1] 70 (0, 0)) xblk) : gb379 ≠ gb380)); have NB380_379 := aM ((by rw [hg]; exact Nat.ne_of_gt (blk_lt (g := gb379) (o := .cells #[.int .i64 a0_0, .slice A0_1 l0_1.length c0_1] 70 (0, 0)) xblk) : gb380 ≠ gb379)); replace BK379 := xbb BK379 hb; have BK380 := aM (hbox); clear hb hbox hg))
 (try simp only [Act.put, List.setIfInBounds_toArray, List.set_cons_zero, List.set_cons_succ])
 go_cut [25] (fun v25 wc => ∃ (kq : Nat) (x25_3 : Bool), v25 = .bool x25_3 ∧ Aside0 (impl_JournalLate.j0 kq a1 l2 x25_3 a0_0 l0_1 = some (r1, r2, r3)) ∧ Aside0 (kq ≤ k) ∧ Aside0 (wc.heap[gb379]? = some (.cells #[.int .i64 a0_0, (.slice A0_1 l0_1.length c0_1)] 70 (0, 0))) ∧ Aside0 (wc.heap[gb380]? = some (.cells #[.int .i64 0, (.slice none 0 0)] 70 (0, 0))) ∧ Aside0 (Below w.heap.size w wc))
 case first =>
  have H := HC4.out; clear HC4; replace H := Option.bind_eq_some_iff.mp H
  obtain ⟨t381, A70, H⟩ := H
  replace H : (if t381 = true then ((impl_isFile.f a1).bind fun t382 => (if t382 = true then (impl_JournalLate.j0 k a1 l2 (decide ((l2.length : Int) > 100)) a0_0 l0_1) else (impl_JournalLate.j0 k a1 l2 true a0_0 l0_1))) else (impl_JournalLate.j0 k a1 l2 true a0_0 l0_1)) = some (r1, r2, r3) := H; have A7 := aM A70; clear A70
  by_cases c8 : t381 = true
  ·subst c8
   have H1 : ((impl_isFile.f a1).bind fun t382 => (if t382 = true then (impl_JournalLate.j0 k a1 l2 (decide ((l2.length : Int) > 100)) a0_0 l0_1) else (impl_JournalLate.j0 k a1 l2 true a0_0 l0_1))) = some (r1, r2, r3) := by rw [if_pos rfl] at H; exact H
   clear H; have H := H1; clear H1; replace H := Option.bind_eq_some_iff.mp H
   obtain ⟨t382, A90, H⟩ := H
   replace H : (if t382 = true then (impl_JournalLate.j0 k a1 l2 (decide ((l2.length : Int) > 100)) a0_0 l0_1) else (impl_JournalLate.j0 k a1 l2 true a0_0 l0_1)) = some (r1, r2, r3) := H; have A9 := aM A90; clear A90
   by_cases c10 : t382 = true
   ·subst c10
    have H1 : (impl_JournalLate.j0 k a1 l2 (decide ((l2.length : Int) > 100)) a0_0 l0_1) = some (r1, r2, r3) := by rw [if_pos rfl] at H; exact H
    clear H; have H := H1; clear H1
    have H' := aM H
    clear H; have hnb11 := NB379_380.out; have hnc11 := NB380_379.out; have hcz12_0 : w6.cell? ⟨gb379, 0, none⟩ = some (.int .i64 a0_0) := xc BK379 0 rfl; have hcz12_1 : w6.cell? ⟨gb379, 1, none⟩ = some (.slice A0_1 l0_1.length c0_1) := xc BK379 1 rfl; have hfz12_0 := blk_frozen BK379.out 0; have hfz12_1 := blk_frozen BK379.out 1
    go_wp2_with (first | ((with_reducible refine gate_callee (f := 52) rfl ?_); refine goesL_ (some 14) rfl rfl Try.func52 (by kernel_rfl) rfl #[.agg #[.int .i64 a0_0, .slice A0_1 l0_1.length c0_1]] rfl (by (try simp only [List.map_toArray, List.map_cons, List.map_nil]); first | done | rfl | (simp only [List.length_drop, List.length_take]; rfl)) ?_; (with_reducible refine (impl_DiskOk.calls k a0_0 _ _ l0_1 true _ ?side1 ?side2 A7.out).mono ?_); (case side1 => exact xcb HR0_1); (case side2 => exact HC0_1.out); rintro e w13 ⟨rfl, hb⟩; refine ⟨_, rfl, ?_⟩; replace BK379 := xbb BK379 hb; replace BK380 := xbb BK380 hb; replace HB := xbs hb; (try clear hb); (try clear hb2); (try clear hk); (try clear hi)) | (go_at_call 113; (with_reducible refine (impl_isFile.calls a1 true _ A9.out).mono ?_); rintro e w' ⟨rfl, ⟨nd, rfl⟩⟩))
    go_meet
    case rel => exact ⟨_, (decide ((l2.length : Int) > 100)), (by first | rfl | (simp; done) | (simp [*]; done)), H', ⟨by first | omega | exact Nat.le_refl _⟩, ⟨xblk⟩, ⟨xblk⟩, ⟨xbg⟩⟩
   ·replace c10 := Bool.eq_false_iff.mpr c10
    subst c10
    have H1 : (impl_JournalLate.j0 k a1 l2 true a0_0 l0_1) = some (r1, r2, r3) := by rw [if_neg (show ¬ (false = true) by decide)] at H; exact H
    clear H; have H := H1; clear H1
    have H' := aM H
    clear H; have hnb14 := NB379_380.out; have hnc14 := NB380_379.out; have hcz15_0 : w6.cell? ⟨gb379, 0, none⟩ = some (.int .i64 a0_0) := xc BK379 0 rfl; have hcz15_1 : w6.cell? ⟨gb379, 1, none⟩ = some (.slice A0_1 l0_1.length c0_1) := xc BK379 1 rfl; have hfz15_0 := blk_frozen BK379.out 0; have hfz15_1 := blk_frozen BK379.out 1
    go_wp2_with (first | ((with_reducible refine gate_callee (f := 52) rfl ?_); refine goesL_ (some 14) rfl rfl Try.func52 (by kernel_rfl) rfl #[.agg #[.int .i64 a0_0, .slice A0_1 l0_1.length c0_1]] rfl (by (try simp only [List.map_toArray, List.map_cons, List.map_nil]); first | done | rfl | (simp only [List.length_drop, List.length_take]; rfl)) ?_; (with_reducible refine (impl_DiskOk.calls k a0_0 _ _ l0_1 true _ ?side1 ?side2 A7.out).mono ?_); (case side1 => exact xcb HR0_1); (case side2 => exact HC0_1.out); rintro e w16 ⟨rfl, hb⟩; refine ⟨_, rfl, ?_⟩; replace BK379 := xbb BK379 hb; replace BK380 := xbb BK380 hb; replace HB := xbs hb; (try clear hb); (try clear hb2); (try clear hk); (try clear hi)) | (go_at_call 113; (with_reducible refine (impl_isFile.calls a1 false _ A9.out).mono ?_); rintro e w' ⟨rfl, ⟨nd, rfl⟩⟩))
    go_meet
    case rel => exact ⟨_, (true), (by first | rfl | (simp; done) | (simp [*]; done)), H', ⟨by first | omega | exact Nat.le_refl _⟩, ⟨xblk⟩, ⟨xblk⟩, ⟨xbg⟩⟩
  ·replace c8 := Bool.eq_false_iff.mpr c8
   subst c8
   have H1 : (impl_JournalLate.j0 k a1 l2 true a0_0 l0_1) = some (r1, r2, r3) := by rw [if_neg (show ¬ (false = true) by decide)] at H; exact H
   clear H; have H := H1; clear H1
   have H' := aM H
   clear H; have hnb17 := NB379_380.out; have hnc17 := NB380_379.out; have hcz18_0 : w6.cell? ⟨gb379, 0, none⟩ = some (.int .i64 a0_0) := xc BK379 0 rfl; have hcz18_1 : w6.cell? ⟨gb379, 1, none⟩ = some (.slice A0_1 l0_1.length c0_1) := xc BK379 1 rfl; have hfz18_0 := blk_frozen BK379.out 0; have hfz18_1 := blk_frozen BK379.out 1
   go_wp2_with (first | ((with_reducible refine gate_callee (f := 52) rfl ?_); refine goesL_ (some 14) rfl rfl Try.func52 (by kernel_rfl) rfl #[.agg #[.int .i64 a0_0, .slice A0_1 l0_1.length c0_1]] rfl (by (try simp only [List.map_toArray, List.map_cons, List.map_nil]); first | done | rfl | (simp only [List.length_drop, List.length_take]; rfl)) ?_; (with_reducible refine (impl_DiskOk.calls k a0_0 _ _ l0_1 false _ ?side1 ?side2 A7.out).mono ?_); (case side1 => exact xcb HR0_1); (case side2 => exact HC0_1.out); rintro e w19 ⟨rfl, hb⟩; refine ⟨_, rfl, ?_⟩; replace BK379 := xbb BK379 hb; replace BK380 := xbb BK380 hb; replace HB := xbs hb; (try clear hb); (try clear hb2); (try clear hk); (try clear hi)))
   go_meet
   case rel => exact ⟨_, (true), (by first | rfl | (simp; done) | (simp [*]; done)), H', ⟨by first | omega | exact Nat.le_refl _⟩, ⟨xblk⟩, ⟨xblk⟩, ⟨xbg⟩⟩
 case rest =>
  clear HC4
  try clear c1
  try clear c2
  try clear p2
  try clear c5
  try clear c6
  try clear c8
  try clear c10
  try clear c11
  try clear c14
  try clear c17
  try clear hcz12_0
  try clear hcz12_1
  try clear hcz15_0
  try clear hcz15_1
  try clear hcz18_0
  try clear hcz18_1
  try clear hfz12_0
  try clear hfz12_1
  try clear hfz15_0
  try clear hfz15_1
  try clear hfz18_0
  try clear hfz18_1
  obtain ⟨kq, x25_3, rfl, HA, HJ3, BK379, BK380, HB⟩ := hcut
  cases kq with
  | zero => exact absurd HA.out (by simp [impl_JournalLate.j0])
  | succ kj3 =>
   have H := HA.out; clear HA
   simp only [impl_JournalLate.j0] at H
   by_cases c20 : x25_3 = true
   ·subst c20
    have H1 : (some (0, ([] : List (S134)), 1)) = some (r1, r2, r3) := by rw [if_pos rfl] at H; exact H
    clear H; have H := H1; clear H1
    simp only [Option.some.injEq, Prod.mk.injEq] at H
    obtain ⟨rfl, rfl, rfl⟩ := H
    have hnb21 := NB380_379.out; have hnc21 := NB379_380.out; have hcz22_0 : wc.cell? ⟨gb380, 0, none⟩ = some (.int .i64 0) := xc BK380 0 rfl; have hcz22_1 : wc.cell? ⟨gb380, 1, none⟩ = some (.slice none 0 0) := xc BK380 1 rfl; have hfz22_0 := blk_frozen BK380.out 0; have hfz22_1 := blk_frozen BK380.out 1
    go_wp2
    refine bodyPost_ret (results_ct rfl _ _ gb380 70 #[.int .i64 0, .slice none 0 0] (0, 0) _ rfl (by (with_reducible repeat (first | refine blk_drewN ?_ _ | refine blk_drew ?_ | refine blk_alloc ?_ _)); refine blk_put (cs := #[.int .i64 0, .slice none 0 0]) ?_ 1 _ rfl; (with_reducible repeat (first | refine blk_drewN ?_ _ | refine blk_drew ?_ | refine blk_alloc ?_ _)); refine blk_put (cs := #[.int .i64 0, .slice none 0 0]) ?_ 0 _ rfl; (with_reducible repeat (first | refine blk_drewN ?_ _ | refine blk_drew ?_ | refine blk_alloc ?_ _)); exact BK380.out) Try.underlying70 rfl (by kernel_rfl)) rfl ?_
    exact ⟨_, by first | rfl | (simp [errW_none, errW_some] <;> rfl) | (simp [*, errW_none, errW_some] <;> rfl), by first | exact Kd.R_nil _ _ _ _ _ | exact Kd.N_nil _ _ _ _ _ | exact Kd.V_nil _ _ _ _ _ | exact Kd.Q_nil _ _ _ _ _ | exact Kd.S_nil _ _ _ _ _, xbg⟩
   ·replace c20 := Bool.eq_false_iff.mpr c20
    subst c20
    have H1 : (impl_JournalLate.l0 kj3 a1 (([] : List Int)) l2 (l2.length : Int) 0 a0_0 l0_1) = some (r1, r2, r3) := by rw [if_neg (show ¬ (false = true) by decide)] at H; exact H
    clear H; have H := H1; clear H1
    obtain ⟨y383, hy383⟩ : ∃ y_ : List Int, y_ = (([] : List Int)) := ⟨_, rfl⟩
    replace H : (impl_JournalLate.l0 kj3 a1 y383 l2 (l2.length : Int) 0 a0_0 l0_1) = some (r1, r2, r3) := by first | (rw [hy383]; with_reducible exact H) | (have H2_ := (Option.bind_some _ _).symm.trans H; rw [hy383]; with_reducible exact H2_) | (have H2_ := (Option.bind_some _ _).symm.trans H; with_reducible exact H2_) | with_reducible exact H | (rw [hy383]; exact H) | exact H
    have Ny383 := aM hy383; clear hy383
    have H' := aM H
    clear H
    go_wp2_with (first | ((with_reducible refine gate_dst (N := 27) rfl ?_); (try (refine gate_guard (by rfl) ?_; dsimp only)); refine Kd.R_lit (Kd.int .u8) _ 5 ?hg (N := 27) ?hd (xs := ([] : List Int)) (inner := []) (ok := fun _ => True) (okp := fun _ => True) ?hr ?hp (fun _ hk => hk) trivial (Below.refl _ _) (Nat.le_refl _) (by simp) ?_; (case hd => rfl); (case hg => rfl); (case hr => first | (go_simp; done) | (go_simp; rfl)); (case hp => exact (Reps.none _ _)); intro v384 w23 ho24 hb hg_ hnew_; clear hg_ hnew_; (first | rw [← Ny383.out] at ho24 | (simp only [Int.reduceToNat] at ho24; rw [← Ny383.out] at ho24)); have HO385 := aM (Kd.R_lower ho24 (below_size xbg)); replace BK379 := xbb BK379 hb; replace BK380 := xbb BK380 hb; replace HB := xbs hb; clear hb ho24))
    go_loopg [8, 30] kj3 (fun kq v8 v30 w' => ∃ (x8_2 : List Int) (x30_2 : Int) (x381000_2 : Int), v30 = .int .i64 x30_2 ∧ Aside0 (impl_JournalLate.l0 kq a1 x8_2 l2 (l2.length : Int) x30_2 a0_0 l0_1 = some (r1, r2, r3)) ∧ Aside0 (kq ≤ kj3) ∧ Aside0 (Kd.R (Kd.int .u8) 5 w' w.heap.size (fun _ => True) v8 x8_2) ∧ Aside0 (w'.heap[gb379]? = some (.cells #[.int .i64 a0_0, (.slice A0_1 l0_1.length c0_1)] 70 (0, 0))) ∧ Aside0 (w'.heap[gb380]? = some (.cells #[.int .i64 x381000_2, (.slice none 0 0)] 70 (0, 0))) ∧ Aside0 (Below w.heap.size w w'))
    case atStart => exact ⟨(y383), (0), (0), (by first | rfl | (simp; done) | (simp [*]; done)), H', ⟨Nat.le_refl _⟩, ⟨by (with_reducible repeat (first | apply Kd.R_alloc | apply Kd.R_drewN | apply Kd.R_drew)); exact HO385.out⟩, ⟨xblk⟩, ⟨xblk⟩, ⟨xbg⟩⟩
    case round =>
     clear H'
     try clear c1
     try clear c2
     try clear p2
     try clear c5
     try clear c6
     try clear c8
     try clear c10
     try clear c11
     try clear c14
     try clear c17
     try clear c20
     try clear c21
     try clear hcz12_0
     try clear hcz12_1
     try clear hcz15_0
     try clear hcz15_1
     try clear hcz18_0
     try clear hcz18_1
     try clear hcz22_0
     try clear hcz22_1
     try clear hfz12_0
     try clear hfz12_1
     try clear hfz15_0
     try clear hfz15_1
     try clear hfz18_0
     try clear hfz18_1
     try clear hfz22_0
     try clear hfz22_1
     try clear p2
     obtain ⟨x8_2, x30_2, x381000_2, rfl, HA, HK2, HO_8, BK379, BK380, HB⟩ := hrel
     cases gk with
     | zero => exact absurd HA.out (by simp [impl_JournalLate.l0])
     | succ k2 =>
      have H := HA.out; clear HA
      simp only [impl_JournalLate.l0] at H
      by_cases c25 : x30_2 < (l2.length : Int)
      ·rw [if_pos c25] at H
       have c25b0 : decide (x30_2 < (l2.length : Int)) = true := decide_eq_true c25; clear c25
       by_cases c26 : 0 ≤ x30_2
       ·rw [if_pos c26] at H
        have c26b0 : decide (0 ≤ x30_2) = true := decide_eq_true c26; clear c26
        by_cases c27 : x30_2 < (l2.length : Int)
        ·rw [if_pos c27] at H
         have c27b0 : decide (x30_2 < (l2.length : Int)) = true := decide_eq_true c27; clear c27
         by_cases c28 : (rdOf ByteArray.empty l2 x30_2).size ≤ 9223372036854775807
         ·rw [if_pos c28] at H
          have c28b0 := eq_true c28; have c28b1 : decide ((rdOf ByteArray.empty l2 x30_2).size ≤ 9223372036854775807) = true := decide_eq_true c28
          try have c28b2 : (9223372036854775807 < (rdOf ByteArray.empty l2 x30_2).size) = False := eq_false (Nat.not_lt.2 c28)
          clear c28
          obtain ⟨y387, hy387⟩ : ∃ y_ : List Int, y_ = (bytesOf (rdOf ByteArray.empty l2 x30_2)) := ⟨_, rfl⟩
          replace H : ((impl_Seal.f k2 y387).bind fun bt390 => (if bt390.2 = true then (if x8_2.length + bt390.1.length < 140737488355328 then (impl_JournalLate.l0 k2 a1 (x8_2 ++ bt390.1) l2 (l2.length : Int) (wrap64 (x30_2 + 1)) a0_0 l0_1) else (none)) else (some (0, ([] : List (S134)), 1)))) = some (r1, r2, r3) := by first | (rw [hy387]; with_reducible exact H) | (have H2_ := (Option.bind_some _ _).symm.trans H; rw [hy387]; with_reducible exact H2_) | (have H2_ := (Option.bind_some _ _).symm.trans H; with_reducible exact H2_) | with_reducible exact H | (rw [hy387]; exact H) | exact H
          have Ny387 := aM hy387; clear hy387; replace H := Option.bind_eq_some_iff.mp H
          obtain ⟨⟨t390, t391⟩, A290, H⟩ := H
          replace H : (if t391 = true then (if x8_2.length + t390.length < 140737488355328 then (impl_JournalLate.l0 k2 a1 (x8_2 ++ t390) l2 (l2.length : Int) (wrap64 (x30_2 + 1)) a0_0 l0_1) else (none)) else (some (0, ([] : List (S134)), 1))) = some (r1, r2, r3) := H; have A29 := aM A290; clear A290
          by_cases c30 : t391 = true
          ·subst c30
           have H1 : (if x8_2.length + t390.length < 140737488355328 then (impl_JournalLate.l0 k2 a1 (x8_2 ++ t390) l2 (l2.length : Int) (wrap64 (x30_2 + 1)) a0_0 l0_1) else (none)) = some (r1, r2, r3) := by rw [if_pos rfl] at H; exact H
           clear H; have H := H1; clear H1
           by_cases c31 : x8_2.length + t390.length < 140737488355328
           ·rw [if_pos c31] at H
            have LMc31 := aM c31; clear c31
            obtain ⟨y394, hy394⟩ : ∃ y_ : List Int, y_ = (x8_2 ++ t390) := ⟨_, rfl⟩
            replace H : (impl_JournalLate.l0 k2 a1 y394 l2 (l2.length : Int) (wrap64 (x30_2 + 1)) a0_0 l0_1) = some (r1, r2, r3) := by first | (rw [hy394]; with_reducible exact H) | (have H2_ := (Option.bind_some _ _).symm.trans H; rw [hy394]; with_reducible exact H2_) | (have H2_ := (Option.bind_some _ _).symm.trans H; with_reducible exact H2_) | with_reducible exact H | (rw [hy394]; exact H) | exact H
            have Ny394 := aM hy394; clear hy394
            have H' := aM H
            clear H; have p386 : 0 ≤ (x30_2 : Int) := of_decide_eq_true (by first | (with_reducible assumption) | assumption); have q386 : x30_2 < (l2.length : Int) := of_decide_eq_true (by first | (with_reducible assumption) | assumption)
            obtain ⟨ad386, e386, hx386_0⟩ := Kd.at_string HR2.out x30_2 p386 q386
            cases e386
            replace hx386_0 := xce HB hx386_0; replace p386 := eq_true p386; replace q386 := eq_true q386
            go_wp2_with (first | ((with_reducible refine gate_dst (N := 36) rfl ?_); (try (refine gate_guard (by rfl) ?_; dsimp only)); refine Kd.V_conv _ 5 rfl (N := 36) rfl 9 22 _ rfl (rdOf ByteArray.empty l2 x30_2) rfl Try.underlying9 Try.underlying22 Try.underlying5 (of_decide_eq_true (by first | (with_reducible assumption) | assumption)) (ok := fun k_ => wr.heap.size ≤ k_) (Nat.le_refl _) (Below.refl _ _) (Nat.le_refl _) ?_; intro v388 w32 ho33 hb hg_ hnew_; clear hg_ hnew_; (first | rw [← Ny387.out] at ho33 | (simp only [Int.reduceToNat] at ho33; rw [← Ny387.out] at ho33)); have HO389 := aM (Kd.V_lower (Kd.V_mono (ok' := fun k_ => some k_ ≠ (u8 : Value).ownBlock ∧ k_ ≠ gb379 ∧ k_ ≠ gb380) ho33 (fun k_ hk_ => ⟨(Kd.fresh' (Kd.R_lt (xr HO_8)) k_ hk_), (Kd.freshB (g := gb379) (o := .cells #[.int .i64 a0_0, .slice A0_1 l0_1.length c0_1] 70 (0, 0)) xblk k_ hk_), (Kd.freshB (g := gb380) (o := .cells #[.int .i64 x381000_2, .slice none 0 0] 70 (0, 0)) xblk k_ hk_)⟩)) (below_size xbg)); replace HO_8 := aM (Kd.R_below (xr HO_8) hb); replace BK379 := xbb BK379 hb; replace BK380 := xbb BK380 hb; replace HB := xbs hb; clear hb ho33; obtain ⟨Ao34, co34, eo34⟩ := Kd.V_slice HO389.out; subst eo34) | ((with_reducible refine gate_callee (f := 134) rfl ?_); refine goesL_ (some 37) rfl rfl Try.func134 (by kernel_rfl) rfl #[.slice Ao34 y387.length co34] rfl (by (try simp only [List.map_toArray, List.map_cons, List.map_nil]); first | done | rfl | (simp only [List.length_drop, List.length_take]; rfl)) ?_; (with_reducible refine (impl_Seal.calls k2 _ _ y387 t390 true _ ?side1 ?side2 A29.out).mono ?_); (case side1 => repeat (first | exact (Kd.V_reads' HO389.out).2.2 | (with_reducible refine Kd.C_alloc ?_ _) | (with_reducible refine Kd.C_drewN ?_ _) | (with_reducible refine Kd.C_drew ?_))); (case side2 => exact (Kd.V_reads' HO389.out).2.1); rintro e w35 ⟨v392, rfl, ho0, hb⟩; refine ⟨_, rfl, ?_⟩; replace HO389 := aM (Kd.V_elder' (by (with_reducible repeat (first | apply Kd.V_alloc | apply Kd.V_drewN | apply Kd.V_drew)); exact HO389.out) (Kd.R_base ho0) hb); have HO393 := aM (Kd.R_lower (Kd.R_new' ho0 (Kd.R_lt (xr HO_8))) (below_size xbg)); replace HO_8 := aM (Kd.R_elder' (xr HO_8) (Kd.R_base ho0) hb); replace BK379 := xbb BK379 hb; replace BK380 := xbb BK380 hb; replace HB := xbs hb; (try clear hb); (try clear hb2); (try clear hk); (try clear hi); (try clear ho0); obtain ⟨Ao37, co37, eo37⟩ := Kd.R_slice HO393.out; subst eo37) | ((with_reducible refine gate_builtin (b := .append) (xs := #[.tmp 43, .tmp 44]) rfl ?_); (try (refine gate_guard (by rfl) ?_; dsimp only)); at_builtin; refine Kd.R_append_rows (Kd.int .u8) (w0 := w) w.heap.size rfl (.tmp 43) (.tmp 44) 22 5 (.int .u8 0) 1 rfl Try.underlying22 info5 rfl (by decide) (by omega) u8 x8_2 t390 _ _ _ (fun k_ => some k_ ≠ (.slice Ao37 t390.length co37 : Value).ownBlock) (fun _ => False) rfl rfl ?aO ?aR (fun _ _ h => h) (fun _ h => h.elim) ?aF ?aB ?aS ?aL ?_; (case aR => repeat (first | exact (Kd.R_reads' HO393.out).2.2 | (with_reducible refine Kd.C_alloc ?_ _) | (with_reducible refine Kd.C_drewN ?_ _) | (with_reducible refine Kd.C_drew ?_))); (case aB => exact xbg); (case aF => exact (fun k_ hk => Kd.fresh' (Kd.R_lt (xr HO393)) k_ hk)); (case aO => exact (by (with_reducible repeat (first | apply Kd.R_alloc | apply Kd.R_drewN | apply Kd.R_drew)); exact Kd.R_mono HO_8.out (fun _ hk => hk.2))); (case aS => exact (below_size xbg)); (case aL => have := LMc31.out; omega); intro v395 w36 ho hb hg hat; rw [← Ny394.out] at ho; have n0_ := aM (blk_grown (g := gb379) (o := .cells #[.int .i64 a0_0, .slice A0_1 l0_1.length c0_1] 70 (0, 0)) xblk hg (Kd.R_ne HO_8.out BK379.out (by decide))); have n1_ := aM (blk_grown (g := gb380) (o := .cells #[.int .i64 x381000_2, .slice none 0 0] 70 (0, 0)) xblk hg (Kd.R_ne HO_8.out BK380.out (by decide))); have n2_ := aM (Kd.V_afterv (ok := (fun k_ => some k_ ≠ (.slice Ao37 t390.length co37 : Value).ownBlock ∧ k_ ≠ gb379 ∧ k_ ≠ gb380)) (by (with_reducible repeat (first | apply Kd.V_alloc | apply Kd.V_drewN | apply Kd.V_drew)); exact Kd.V_mono HO389.out (fun _ hk => ⟨⟨hk.2, ⟨hk.1.2.1, hk.1.2.2⟩⟩, hk.1.1⟩)) hg hat); have n3_ := aM (Kd.R_after (ok := (fun _ => True)) (xr HO393) hg hat); have n4_ := aM (hb); have n5_ := aM (ho); clear BK379; clear BK380; clear HO389; clear HO393; clear HB; clear HO_8; have BK379 := n0_; have BK380 := n1_; have HO389 := n2_; have HO393 := n3_; have HB := n4_; have HO396 := n5_; clear n0_ n1_ n2_ n3_ n4_ n5_; clear ho hb hg hat))
            go_roundg k2
            case measure => have := HJ3.out; have := HK2.out; omega
            case rel => exact ⟨(y394), (wrap64 (x30_2 + 1)), (x381000_2), (by first | rfl | (simp; done) | (simp [*]; done)), H', ⟨by have := HJ3.out; have := HK2.out; omega⟩, ⟨by (with_reducible repeat (first | apply Kd.R_alloc | apply Kd.R_drewN | apply Kd.R_drew)); exact Kd.R_mono HO396.out (fun _ hk => trivial)⟩, ⟨xblk⟩, ⟨xblk⟩, ⟨xbg⟩⟩
           ·rw [if_neg c31] at H
            exact absurd H (by simp)
          ·replace c30 := Bool.eq_false_iff.mpr c30
           subst c30
           have H1 : (some (0, ([] : List (S134)), 1)) = some (r1, r2, r3) := by rw [if_neg (show ¬ (false = true) by decide)] at H; exact H
           clear H; have H := H1; clear H1
           simp only [Option.some.injEq, Prod.mk.injEq] at H
           obtain ⟨rfl, rfl, rfl⟩ := H
           have p386 : 0 ≤ (x30_2 : Int) := of_decide_eq_true (by first | (with_reducible assumption) | assumption); have q386 : x30_2 < (l2.length : Int) := of_decide_eq_true (by first | (with_reducible assumption) | assumption)
           obtain ⟨ad386, e386, hx386_0⟩ := Kd.at_string HR2.out x30_2 p386 q386
           cases e386
           replace hx386_0 := xce HB hx386_0; replace p386 := eq_true p386; replace q386 := eq_true q386
           go_wp2_with (first | ((with_reducible refine gate_dst (N := 36) rfl ?_); (try (refine gate_guard (by rfl) ?_; dsimp only)); refine Kd.V_conv _ 5 rfl (N := 36) rfl 9 22 _ rfl (rdOf ByteArray.empty l2 x30_2) rfl Try.underlying9 Try.underlying22 Try.underlying5 (of_decide_eq_true (by first | (with_reducible assumption) | assumption)) (ok := fun k_ => wr.heap.size ≤ k_) (Nat.le_refl _) (Below.refl _ _) (Nat.le_refl _) ?_; intro v388 w38 ho39 hb hg_ hnew_; clear hg_ hnew_; (first | rw [← Ny387.out] at ho39 | (simp only [Int.reduceToNat] at ho39; rw [← Ny387.out] at ho39)); have HO389 := aM (Kd.V_lower (Kd.V_mono (ok' := fun k_ => some k_ ≠ (u8 : Value).ownBlock ∧ k_ ≠ gb379 ∧ k_ ≠ gb380) ho39 (fun k_ hk_ => ⟨(Kd.fresh' (Kd.R_lt (xr HO_8)) k_ hk_), (Kd.freshB (g := gb379) (o := .cells #[.int .i64 a0_0, .slice A0_1 l0_1.length c0_1] 70 (0, 0)) xblk k_ hk_), (Kd.freshB (g := gb380) (o := .cells #[.int .i64 x381000_2, .slice none 0 0] 70 (0, 0)) xblk k_ hk_)⟩)) (below_size xbg)); replace HO_8 := aM (Kd.R_below (xr HO_8) hb); replace BK379 := xbb BK379 hb; replace BK380 := xbb BK380 hb; replace HB := xbs hb; clear hb ho39; obtain ⟨Ao40, co40, eo40⟩ := Kd.V_slice HO389.out; subst eo40) | ((with_reducible refine gate_callee (f := 134) rfl ?_); refine goesL_ (some 37) rfl rfl Try.func134 (by kernel_rfl) rfl #[.slice Ao40 y387.length co40] rfl (by (try simp only [List.map_toArray, List.map_cons, List.map_nil]); first | done | rfl | (simp only [List.length_drop, List.length_take]; rfl)) ?_; (with_reducible refine (impl_Seal.calls k2 _ _ y387 t390 false _ ?side1 ?side2 A29.out).mono ?_); (case side1 => repeat (first | exact (Kd.V_reads' HO389.out).2.2 | (with_reducible refine Kd.C_alloc ?_ _) | (with_reducible refine Kd.C_drewN ?_ _) | (with_reducible refine Kd.C_drew ?_))); (case side2 => exact (Kd.V_reads' HO389.out).2.1); rintro e w41 ⟨v392, rfl, ho0, hb⟩; refine ⟨_, rfl, ?_⟩; replace HO389 := aM (Kd.V_elder' (by (with_reducible repeat (first | apply Kd.V_alloc | apply Kd.V_drewN | apply Kd.V_drew)); exact HO389.out) (Kd.R_base ho0) hb); have HO393 := aM (Kd.R_lower (Kd.R_new' ho0 (Kd.R_lt (xr HO_8))) (below_size xbg)); replace HO_8 := aM (Kd.R_elder' (xr HO_8) (Kd.R_base ho0) hb); replace BK379 := xbb BK379 hb; replace BK380 := xbb BK380 hb; replace HB := xbs hb; (try clear hb); (try clear hb2); (try clear hk); (try clear hi); (try clear ho0); have hnb42 := NB380_379.out; have hnc42 := NB379_380.out; have hcz43_0 : w41.cell? ⟨gb380, 0, none⟩ = some (.int .i64 x381000_2) := xc BK380 0 rfl; have hcz43_1 : w41.cell? ⟨gb380, 1, none⟩ = some (.slice none 0 0) := xc BK380 1 rfl; have hfz43_0 := blk_frozen BK380.out 0; have hfz43_1 := blk_frozen BK380.out 1))
           refine bodyPost_ret (results_ct rfl _ _ gb380 70 #[.int .i64 0, .slice none 0 0] (0, 0) _ rfl (by (with_reducible repeat (first | refine blk_drewN ?_ _ | refine blk_drew ?_ | refine blk_alloc ?_ _)); refine blk_put (cs := #[.int .i64 0, .slice none 0 0]) ?_ 1 _ rfl; (with_reducible repeat (first | refine blk_drewN ?_ _ | refine blk_drew ?_ | refine blk_alloc ?_ _)); refine blk_put (cs := #[.int .i64 x381000_2, .slice none 0 0]) ?_ 0 _ rfl; (with_reducible repeat (first | refine blk_drewN ?_ _ | refine blk_drew ?_ | refine blk_alloc ?_ _)); exact BK380.out) Try.underlying70 rfl (by kernel_rfl)) rfl ?_
           exact ⟨_, by first | rfl | (simp [errW_none, errW_some] <;> rfl) | (simp [*, errW_none, errW_some] <;> rfl), by first | exact Kd.R_nil _ _ _ _ _ | exact Kd.N_nil _ _ _ _ _ | exact Kd.V_nil _ _ _ _ _ | exact Kd.Q_nil _ _ _ _ _ | exact Kd.S_nil _ _ _ _ _, xbg⟩
         ·rw [if_neg c28] at H
          exact absurd H (by simp)
        ·rw [if_neg c27] at H
         exact absurd H (by simp)
       ·rw [if_neg c26] at H
        exact absurd H (by simp)
      ·rw [if_neg c25] at H
       have c25b0 : decide (x30_2 < (l2.length : Int)) = false := decide_eq_false c25; clear c25; replace H := Option.bind_eq_some_iff.mp H
       obtain ⟨⟨t397, t398, t401⟩, A440, H⟩ := H
       replace H : (some (t397, t398, t401)) = some (r1, r2, r3) := H; have A44 := aM A440; clear A440
       simp only [Option.some.injEq, Prod.mk.injEq] at H
       obtain ⟨rfl, rfl, rfl⟩ := H
       have hnb45 := NB379_380.out; have hnc45 := NB380_379.out; have hcz46_0 : wr.cell? ⟨gb379, 0, none⟩ = some (.int .i64 a0_0) := xc BK379 0 rfl; have hcz46_1 : wr.cell? ⟨gb379, 1, none⟩ = some (.slice A0_1 l0_1.length c0_1) := xc BK379 1 rfl; have hfz46_0 := blk_frozen BK379.out 0; have hfz46_1 := blk_frozen BK379.out 1; have hcv47 := own_string (P := Try.prog) Try.underlying22 Try.underlying5 Try.underlying9 (Kd.own_of_R HO_8.out)
       go_wp2_with (first | ((with_reducible refine gate_callee (f := 40) rfl ?_); refine goesL_ (some 51) rfl rfl Try.func40 (by kernel_rfl) rfl #[.agg #[.int .i64 a0_0, .slice A0_1 l0_1.length c0_1], .int .i64 a1, .string (strOfNums x8_2)] rfl (by (try simp only [List.map_toArray, List.map_cons, List.map_nil]); first | done | rfl | (simp only [List.length_drop, List.length_take]; rfl)) ?_; (with_reducible refine (impl_DiskAppend.calls k2 a0_0 _ _ l0_1 a1 (strOfNums x8_2) t397 t398 t401 _ ?side1 ?side2 A44.out).mono ?_); (case side1 => exact xcb HR0_1); (case side2 => exact HC0_1.out); rintro e w48 ⟨v399, rfl, ho0, hb⟩; refine ⟨_, rfl, ?_⟩; replace HO_8 := aM (Kd.R_below (xr HO_8) hb); have HO400 := aM (Kd.R_lower ho0 (below_size xbg)); replace BK379 := xbb BK379 hb; replace BK380 := xbb BK380 hb; replace HB := xbs hb; (try clear hb); (try clear hb2); (try clear hk); (try clear hi); (try clear ho0); have hcz49_0 : w48.cell? ⟨gb380, 0, none⟩ = some (.int .i64 x381000_2) := xc BK380 0 rfl; have hcz49_1 : w48.cell? ⟨gb380, 1, none⟩ = some (.slice none 0 0) := xc BK380 1 rfl; have hfz49_0 := blk_frozen BK380.out 0; have hfz49_1 := blk_frozen BK380.out 1; obtain ⟨Ao50, co50, eo50⟩ := Kd.R_slice HO400.out; subst eo50))
       refine bodyPost_ret (results_ct rfl _ _ gb380 70 #[.int .i64 t397, .slice Ao50 t398.length co50] (0, 0) _ rfl (by (with_reducible repeat (first | refine blk_drewN ?_ _ | refine blk_drew ?_ | refine blk_alloc ?_ _)); refine blk_put (cs := #[.int .i64 t397, .slice none 0 0]) ?_ 1 _ rfl; (with_reducible repeat (first | refine blk_drewN ?_ _ | refine blk_drew ?_ | refine blk_alloc ?_ _)); refine blk_put (cs := #[.int .i64 x381000_2, .slice none 0 0]) ?_ 0 _ rfl; (with_reducible repeat (first | refine blk_drewN ?_ _ | refine blk_drew ?_ | refine blk_alloc ?_ _)); exact BK380.out) Try.underlying70 rfl (by kernel_rfl)) rfl ?_
       exact ⟨_, by first | rfl | (simp [errW_none, errW_some] <;> rfl) | (simp [*, errW_none, errW_some] <;> rfl), by (with_reducible repeat (first | apply Kd.R_alloc | apply Kd.R_drewN | apply Kd.R_drew)); exact Kd.R_mono (Kd.R_far (p := ⟨gb380, 1, none⟩) (Kd.R_far (p := ⟨gb380, 0, none⟩) (Kd.R_types HO400.out BK380.out (by decide)) (fun _ hk => hk.2) (.int .i64 t397)) (fun _ hk => hk.2) (.slice Ao50 t398.length co50)) (fun _ hk => trivial), xbg⟩

/-! ### impl_DiskSync: function 132 -/
def impl_DiskSync.j0 : Nat → Int → Bool → Int → List (S134) → Option (Int × (List (S134)) × Int)
 | 0, _, _, _, _ => none
 | k + 1, x1, x16, x403000, x403001 => if x16 = true then (some (0, ([] : List (S134)), 1)) else ((impl_copyDisk.f x403000 x403001).bind fun bt406 => ((impl_fileAt.f x403000 x403001 x1).bind fun t411 => (if t411 < 0 then (some (bt406.1, bt406.2, 2)) else (if 0 ≤ t411 then (if t411 < (x403001.length : Int) then (if ((rd_T134 x403001 t411).f1).size + ((rd_T134 x403001 t411).f2).size ≤ 9223372036854775807 then (if t411 < (bt406.2.length : Int) then (some (bt406.1, (bt406.2.set (t411 : Int).toNat (⟨x1, ((rd_T134 x403001 t411).f1) ++ ((rd_T134 x403001 t411).f2), (⟨#[]⟩ : ByteArray)⟩ : S134)), 0)) else (none)) else (none)) else (none)) else (none)))))
def impl_DiskSync.f (k : Nat) (a0_0 : Int) (l0_1 : List (S134)) (a1 : Int) : Option (Int × (List (S134)) × Int) := (impl_DiskOk.f k a0_0 l0_1).bind fun t404 => (if t404 = true then ((impl_isFile.f a1).bind fun t405 => (impl_DiskSync.j0 k a1 (!t405) a0_0 l0_1)) else (impl_DiskSync.j0 k a1 true a0_0 l0_1))
set_option maxRecDepth 100000 in
theorem impl_DiskSync.mono_l : ∀ k, (∀ y0 y1 y2 y3, LeO (impl_DiskSync.j0 k y0 y1 y2 y3) (impl_DiskSync.j0 (k + 1) y0 y1 y2 y3))
 | 0 => fun _ _ _ _ r h => by simp [impl_DiskSync.j0] at h
 | k + 1 => by
  have ih0 := impl_DiskSync.mono_l k
  ·intro y0 y1 y2 y3
   unfold impl_DiskSync.j0
   repeat' first
   | (with_reducible exact ih0 _ _ _ _)
   | (with_reducible exact impl_DiskOk.mono _ _ _)
   | (with_reducible exact LeO.refl _)
   | (with_reducible exact LeO.none _)
   | (with_reducible refine LeO.ite ?_ ?_)
   | (with_reducible refine LeO.bind ?_ (fun _ => ?_))
   | exact ih0 _ _ _ _
   | exact impl_DiskOk.mono _ _ _
   | exact LeO.none _
   | refine LeO.ite ?_ ?_
   | refine LeO.bind ?_ (fun _ => ?_)
theorem impl_DiskSync.mono : ∀ a0 a1 a2 k, LeO (impl_DiskSync.f k a0 a1 a2) (impl_DiskSync.f (k + 1) a0 a1 a2) := by
 intro a0 a1 a2 k
 have ih0 := impl_DiskSync.mono_l k
 unfold impl_DiskSync.f
 repeat' first
  | (with_reducible exact ih0 _ _ _ _)
  | (with_reducible exact impl_DiskOk.mono _ _ _)
  | (with_reducible exact LeO.refl _)
  | (with_reducible exact LeO.none _)
  | (with_reducible refine LeO.ite ?_ ?_)
  | (with_reducible refine LeO.bind ?_ (fun _ => ?_))
  | exact ih0 _ _ _ _
  | exact impl_DiskOk.mono _ _ _
  | exact LeO.none _
  | refine LeO.ite ?_ ?_
  | refine LeO.bind ?_ (fun _ => ?_)
set_option maxHeartbeats 8000000 in
set_option maxRecDepth 100000 in
theorem impl_DiskSync.calls (k : Nat) (a0_0 : Int) (A0_1 : Option Addr) (c0_1 : Nat) (l0_1 : List (S134)) (a1 : Int) (r1 : Int) (r2 : List (S134)) (r3 : Int) (w : World) (hr0_1 : Kd.C k134 w A0_1 l0_1.length l0_1) (hc0_1 : l0_1.length ≤ c0_1) (h : impl_DiskSync.f k a0_0 l0_1 a1 = some (r1, r2, r3)) :
 Calls Try.prog 132 #[.agg #[.int .i64 a0_0, .slice A0_1 l0_1.length c0_1], .int .i64 a1] w fun e w' => ∃ v1_ : Value, e = .returned (.tuple #[.agg #[.int .i64 r1, v1_], .int .i64 r3]) ∧ Kd.R k134 134 w' w.heap.size (fun _ => True) v1_ r2 ∧ Below w.heap.size w w' := by
 have hu70 := Try.underlying70
 have hu134 := Try.underlying134
 have HR0_1 := aM hr0_1
 have HC0_1 := aM hc0_1
 clear hr0_1 hc0_1
 have HB := aM (Below.refl w.heap.size w)
 have H : ((impl_DiskOk.f k a0_0 l0_1).bind fun t404 => (if t404 = true then ((impl_isFile.f a1).bind fun t405 => (impl_DiskSync.j0 k a1 (!t405) a0_0 l0_1)) else (impl_DiskSync.j0 k a1 true a0_0 l0_1))) = some (r1, r2, r3) := h
 clear h
 have HC3 := aM H
 clear H
 go_enter Try.func132, Try.ntmps132
 go_upto_region 1 with (first | ((with_reducible refine gate_dst (N := 2) rfl ?_); refine box_event ?hg (N := 2) ?hd (cs := #[.int .i64 a0_0, .slice A0_1 l0_1.length c0_1]) (t := 70) ?hr ?_; (case hd => rfl); (case hg => rfl); (case hr => first | (go_simp; done) | (go_simp; rfl)); intro gb402 hg w4 hbox hb; have BK402 := aM (hbox); have GW402 := aM (xge hg); have GE402 := aM (xge hg); replace HB := xbs hb; clear hb hbox hg) | ((with_reducible refine gate_dst (N := 4) rfl ?_); refine box_event ?hg (N := 4) ?hd (cs := #[.int .i64 0, .slice none 0 0]) (t := 70) ?hr ?_; (case hd => rfl); (case hg => rfl); (case hr => first | (go_simp; done) | (go_simp; rfl)); intro gb403 hg w5 hbox hb; have GW403 := aM (xge hg); have GE403 := aM (xge hg); replace HB := xbs hb; have NB402_403 := aM ((by rw [hg]; exact Nat.ne_of_lt (blk_lt (g := gb402) (o := .cells #[.int .i64 a0_0, .slice A0_1 l0_1.length c0_1] 70 (0, 0)) xblk) : gb402 ≠ gb403)); have NB403_402 := aM ((by rw [hg]; exact Nat.ne_of_gt (blk_lt (g := gb402) (o := .cells #[.int .i64 a0_0, .slice A0_1 l0_1.length c0_1] 70 (0, 0)) xblk) : gb403 ≠ gb402)); replace BK402 := xbb BK402 hb; have BK403 := aM (hbox); clear hb hbox hg))
 (try simp only [Act.put, List.setIfInBounds_toArray, List.set_cons_zero, List.set_cons_succ])
 go_cut [16] (fun v16 wc => ∃ (kq : Nat) (x16_2 : Bool), v16 = .bool x16_2 ∧ Aside0 (impl_DiskSync.j0 kq a1 x16_2 a0_0 l0_1 = some (r1, r2, r3)) ∧ Aside0 (kq ≤ k) ∧ Aside0 (wc.heap[gb402]? = some (.cells #[.int .i64 a0_0, (.slice A0_1 l0_1.length c0_1)] 70 (0, 0))) ∧ Aside0 (wc.heap[gb403]? = some (.cells #[.int .i64 0, (.slice none 0 0)] 70 (0, 0))) ∧ Aside0 (Below w.heap.size w wc))
 case first =>
  have H := HC3.out; clear HC3; replace H := Option.bind_eq_some_iff.mp H
  obtain ⟨t404, A60, H⟩ := H
  replace H : (if t404 = true then ((impl_isFile.f a1).bind fun t405 => (impl_DiskSync.j0 k a1 (!t405) a0_0 l0_1)) else (impl_DiskSync.j0 k a1 true a0_0 l0_1)) = some (r1, r2, r3) := H; have A6 := aM A60; clear A60
  by_cases c7 : t404 = true
  ·subst c7
   have H1 : ((impl_isFile.f a1).bind fun t405 => (impl_DiskSync.j0 k a1 (!t405) a0_0 l0_1)) = some (r1, r2, r3) := by rw [if_pos rfl] at H; exact H
   clear H; have H := H1; clear H1; replace H := Option.bind_eq_some_iff.mp H
   obtain ⟨t405, A80, H⟩ := H
   replace H : (impl_DiskSync.j0 k a1 (!t405) a0_0 l0_1) = some (r1, r2, r3) := H; have A8 := aM A80; clear A80
   have H' := aM H
   clear H; have hnb9 := NB402_403.out; have hnc9 := NB403_402.out; have hcz10_0 : w5.cell? ⟨gb402, 0, none⟩ = some (.int .i64 a0_0) := xc BK402 0 rfl; have hcz10_1 : w5.cell? ⟨gb402, 1, none⟩ = some (.slice A0_1 l0_1.length c0_1) := xc BK402 1 rfl; have hfz10_0 := blk_frozen BK402.out 0; have hfz10_1 := blk_frozen BK402.out 1
   go_wp2_with (first | ((with_reducible refine gate_callee (f := 52) rfl ?_); refine goesL_ (some 10) rfl rfl Try.func52 (by kernel_rfl) rfl #[.agg #[.int .i64 a0_0, .slice A0_1 l0_1.length c0_1]] rfl (by (try simp only [List.map_toArray, List.map_cons, List.map_nil]); first | done | rfl | (simp only [List.length_drop, List.length_take]; rfl)) ?_; (with_reducible refine (impl_DiskOk.calls k a0_0 _ _ l0_1 true _ ?side1 ?side2 A6.out).mono ?_); (case side1 => exact xcb HR0_1); (case side2 => exact HC0_1.out); rintro e w11 ⟨rfl, hb⟩; refine ⟨_, rfl, ?_⟩; replace BK402 := xbb BK402 hb; replace BK403 := xbb BK403 hb; replace HB := xbs hb; (try clear hb); (try clear hb2); (try clear hk); (try clear hi)) | (go_at_call 113; (with_reducible refine (impl_isFile.calls a1 t405 _ A8.out).mono ?_); rintro e w' ⟨rfl, ⟨nd, rfl⟩⟩))
   go_meet
   case rel => exact ⟨_, (!t405), (by first | rfl | (simp; done) | (simp [*]; done)), H', ⟨by first | omega | exact Nat.le_refl _⟩, ⟨xblk⟩, ⟨xblk⟩, ⟨xbg⟩⟩
  ·replace c7 := Bool.eq_false_iff.mpr c7
   subst c7
   have H1 : (impl_DiskSync.j0 k a1 true a0_0 l0_1) = some (r1, r2, r3) := by rw [if_neg (show ¬ (false = true) by decide)] at H; exact H
   clear H; have H := H1; clear H1
   have H' := aM H
   clear H; have hnb12 := NB402_403.out; have hnc12 := NB403_402.out; have hcz13_0 : w5.cell? ⟨gb402, 0, none⟩ = some (.int .i64 a0_0) := xc BK402 0 rfl; have hcz13_1 : w5.cell? ⟨gb402, 1, none⟩ = some (.slice A0_1 l0_1.length c0_1) := xc BK402 1 rfl; have hfz13_0 := blk_frozen BK402.out 0; have hfz13_1 := blk_frozen BK402.out 1
   go_wp2_with (first | ((with_reducible refine gate_callee (f := 52) rfl ?_); refine goesL_ (some 10) rfl rfl Try.func52 (by kernel_rfl) rfl #[.agg #[.int .i64 a0_0, .slice A0_1 l0_1.length c0_1]] rfl (by (try simp only [List.map_toArray, List.map_cons, List.map_nil]); first | done | rfl | (simp only [List.length_drop, List.length_take]; rfl)) ?_; (with_reducible refine (impl_DiskOk.calls k a0_0 _ _ l0_1 false _ ?side1 ?side2 A6.out).mono ?_); (case side1 => exact xcb HR0_1); (case side2 => exact HC0_1.out); rintro e w14 ⟨rfl, hb⟩; refine ⟨_, rfl, ?_⟩; replace BK402 := xbb BK402 hb; replace BK403 := xbb BK403 hb; replace HB := xbs hb; (try clear hb); (try clear hb2); (try clear hk); (try clear hi)))
   go_meet
   case rel => exact ⟨_, (true), (by first | rfl | (simp; done) | (simp [*]; done)), H', ⟨by first | omega | exact Nat.le_refl _⟩, ⟨xblk⟩, ⟨xblk⟩, ⟨xbg⟩⟩
 case rest =>
  clear HC3
  try clear c1
  try clear p2
  try clear c5
  try clear c7
  try clear c9
  try clear c12
  try clear c13
  try clear hcz10_0
  try clear hcz10_1
  try clear hcz13_0
  try clear hcz13_1
  try clear hfz10_0
  try clear hfz10_1
  try clear hfz13_0
  try clear hfz13_1
  obtain ⟨kq, x16_2, rfl, HA, HJ2, BK402, BK403, HB⟩ := hcut
  cases kq with
  | zero => exact absurd HA.out (by simp [impl_DiskSync.j0])
  | succ kj2 =>
   have H := HA.out; clear HA
   simp only [impl_DiskSync.j0] at H
   by_cases c15 : x16_2 = true
   ·subst c15
    have H1 : (some (0, ([] : List (S134)), 1)) = some (r1, r2, r3) := by rw [if_pos rfl] at H; exact H
    clear H; have H := H1; clear H1
    simp only [Option.some.injEq, Prod.mk.injEq] at H
    obtain ⟨rfl, rfl, rfl⟩ := H
    have hnb16 := NB403_402.out; have hnc16 := NB402_403.out; have hcz17_0 : wc.cell? ⟨gb403, 0, none⟩ = some (.int .i64 0) := xc BK403 0 rfl; have hcz17_1 : wc.cell? ⟨gb403, 1, none⟩ = some (.slice none 0 0) := xc BK403 1 rfl; have hfz17_0 := blk_frozen BK403.out 0; have hfz17_1 := blk_frozen BK403.out 1
    go_wp2
    refine bodyPost_ret (results_ct rfl _ _ gb403 70 #[.int .i64 0, .slice none 0 0] (0, 0) _ rfl (by (with_reducible repeat (first | refine blk_drewN ?_ _ | refine blk_drew ?_ | refine blk_alloc ?_ _)); refine blk_put (cs := #[.int .i64 0, .slice none 0 0]) ?_ 1 _ rfl; (with_reducible repeat (first | refine blk_drewN ?_ _ | refine blk_drew ?_ | refine blk_alloc ?_ _)); refine blk_put (cs := #[.int .i64 0, .slice none 0 0]) ?_ 0 _ rfl; (with_reducible repeat (first | refine blk_drewN ?_ _ | refine blk_drew ?_ | refine blk_alloc ?_ _)); exact BK403.out) Try.underlying70 rfl (by kernel_rfl)) rfl ?_
    exact ⟨_, by first | rfl | (simp [errW_none, errW_some] <;> rfl) | (simp [*, errW_none, errW_some] <;> rfl), by first | exact Kd.R_nil _ _ _ _ _ | exact Kd.N_nil _ _ _ _ _ | exact Kd.V_nil _ _ _ _ _ | exact Kd.Q_nil _ _ _ _ _ | exact Kd.S_nil _ _ _ _ _, xbg⟩
   ·replace c15 := Bool.eq_false_iff.mpr c15
    subst c15
    have H1 : ((impl_copyDisk.f a0_0 l0_1).bind fun bt406 => ((impl_fileAt.f a0_0 l0_1 a1).bind fun t411 => (if t411 < 0 then (some (bt406.1, bt406.2, 2)) else (if 0 ≤ t411 then (if t411 < (l0_1.length : Int) then (if ((rd_T134 l0_1 t411).f1).size + ((rd_T134 l0_1 t411).f2).size ≤ 9223372036854775807 then (if t411 < (bt406.2.length : Int) then (some (bt406.1, (bt406.2.set (t411 : Int).toNat (⟨a1, ((rd_T134 l0_1 t411).f1) ++ ((rd_T134 l0_1 t411).f2), (⟨#[]⟩ : ByteArray)⟩ : S134)), 0)) else (none)) else (none)) else (none)) else (none))))) = some (r1, r2, r3) := by rw [if_neg (show ¬ (false = true) by decide)] at H; exact H
    clear H; have H := H1; clear H1; replace H := Option.bind_eq_some_iff.mp H
    obtain ⟨⟨t406, t407⟩, A180, H⟩ := H
    replace H : ((impl_fileAt.f a0_0 l0_1 a1).bind fun t411 => (if t411 < 0 then (some (t406, t407, 2)) else (if 0 ≤ t411 then (if t411 < (l0_1.length : Int) then (if ((rd_T134 l0_1 t411).f1).size + ((rd_T134 l0_1 t411).f2).size ≤ 9223372036854775807 then (if t411 < (t407.length : Int) then (some (t406, (t407.set (t411 : Int).toNat (⟨a1, ((rd_T134 l0_1 t411).f1) ++ ((rd_T134 l0_1 t411).f2), (⟨#[]⟩ : ByteArray)⟩ : S134)), 0)) else (none)) else (none)) else (none)) else (none)))) = some (r1, r2, r3) := H; have A18 := aM A180; clear A180; replace H := Option.bind_eq_some_iff.mp H
    obtain ⟨t411, A190, H⟩ := H
    replace H : (if t411 < 0 then (some (t406, t407, 2)) else (if 0 ≤ t411 then (if t411 < (l0_1.length : Int) then (if ((rd_T134 l0_1 t411).f1).size + ((rd_T134 l0_1 t411).f2).size ≤ 9223372036854775807 then (if t411 < (t407.length : Int) then (some (t406, (t407.set (t411 : Int).toNat (⟨a1, ((rd_T134 l0_1 t411).f1) ++ ((rd_T134 l0_1 t411).f2), (⟨#[]⟩ : ByteArray)⟩ : S134)), 0)) else (none)) else (none)) else (none)) else (none))) = some (r1, r2, r3) := H; have A19 := aM A190; clear A190
    by_cases c20 : t411 < 0
    ·rw [if_pos c20] at H
     have c20b0 : decide (t411 < 0) = true := decide_eq_true c20; clear c20
     simp only [Option.some.injEq, Prod.mk.injEq] at H
     obtain ⟨rfl, rfl, rfl⟩ := H
     have hnb21 := NB402_403.out; have hnc21 := NB403_402.out; have hcz22_0 : wc.cell? ⟨gb402, 0, none⟩ = some (.int .i64 a0_0) := xc BK402 0 rfl; have hcz22_1 : wc.cell? ⟨gb402, 1, none⟩ = some (.slice A0_1 l0_1.length c0_1) := xc BK402 1 rfl; have hfz22_0 := blk_frozen BK402.out 0; have hfz22_1 := blk_frozen BK402.out 1
     go_wp2_with (first | ((with_reducible refine gate_callee (f := 115) rfl ?_); refine goesL_ (some 19) rfl rfl Try.func115 (by kernel_rfl) rfl #[.agg #[.int .i64 a0_0, .slice A0_1 l0_1.length c0_1]] rfl (by (try simp only [List.map_toArray, List.map_cons, List.map_nil]); first | done | rfl | (simp only [List.length_drop, List.length_take]; rfl)) ?_; (with_reducible refine (impl_copyDisk.calls a0_0 _ _ l0_1 t406 t407 _ ?side1 ?side2 A18.out).mono ?_); (case side1 => exact xcb HR0_1); (case side2 => exact HC0_1.out); rintro e w23 ⟨v408, rfl, ho0, hb⟩; refine ⟨_, rfl, ?_⟩; have HO409 := aM (Kd.R_lower ho0 (below_size xbg)); replace BK402 := xbb BK402 hb; replace BK403 := xbb BK403 hb; replace HB := xbs hb; (try clear hb); (try clear hb2); (try clear hk); (try clear hi); (try clear ho0)) | ((with_reducible refine gate_dst (N := 6) rfl ?_); refine box_event ?hg (N := 6) ?hd (cs := #[.int .i64 0, .slice none 0 0]) (t := 70) ?hr ?_; (case hd => rfl); (case hg => rfl); (case hr => first | (go_simp; done) | (go_simp; rfl)); intro gb410 hg w24 hbox hb; replace HO409 := aM (Kd.R_below (xr HO409) hb); have GW410 := aM (xge hg); have GE410 := aM (xge hg); replace HB := xbs hb; have NB402_410 := aM ((by rw [hg]; exact Nat.ne_of_lt (blk_lt (g := gb402) (o := .cells #[.int .i64 a0_0, .slice A0_1 l0_1.length c0_1] 70 (0, 0)) xblk) : gb402 ≠ gb410)); have NB410_402 := aM ((by rw [hg]; exact Nat.ne_of_gt (blk_lt (g := gb402) (o := .cells #[.int .i64 a0_0, .slice A0_1 l0_1.length c0_1] 70 (0, 0)) xblk) : gb410 ≠ gb402)); have NB403_410 := aM ((by rw [hg]; exact Nat.ne_of_lt (blk_lt (g := gb403) (o := .cells #[.int .i64 0, .slice none 0 0] 70 (0, 0)) xblk) : gb403 ≠ gb410)); have NB410_403 := aM ((by rw [hg]; exact Nat.ne_of_gt (blk_lt (g := gb403) (o := .cells #[.int .i64 0, .slice none 0 0] 70 (0, 0)) xblk) : gb410 ≠ gb403)); replace BK402 := xbb BK402 hb; replace BK403 := xbb BK403 hb; have BK410 := aM (hbox); clear hb hbox hg; have hnb25 := NB410_402.out; have hnc25 := NB402_410.out; have hnb26 := NB410_403.out; have hnc26 := NB403_410.out; have hcz27_0 : w24.cell? ⟨gb410, 0, none⟩ = some (.int .i64 0) := xc BK410 0 rfl; have hcz27_1 : w24.cell? ⟨gb410, 1, none⟩ = some (.slice none 0 0) := xc BK410 1 rfl; have hfz27_0 := blk_frozen BK410.out 0; have hfz27_1 := blk_frozen BK410.out 1; obtain ⟨Ao28, co28, eo28⟩ := Kd.R_slice HO409.out; subst eo28; have hcz29_0 : w24.cell? ⟨gb402, 0, none⟩ = some (.int .i64 a0_0) := xc BK402 0 rfl; have hcz29_1 : w24.cell? ⟨gb402, 1, none⟩ = some (.slice A0_1 l0_1.length c0_1) := xc BK402 1 rfl; have hfz29_0 := blk_frozen BK402.out 0; have hfz29_1 := blk_frozen BK402.out 1) | ((with_reducible refine gate_callee (f := 116) rfl ?_); refine goesL_ (some 22) rfl rfl Try.func116 (by kernel_rfl) rfl #[.agg #[.int .i64 a0_0, .slice A0_1 l0_1.length c0_1], .int .i64 a1] rfl (by (try simp only [List.map_toArray, List.map_cons, List.map_nil]); first | done | rfl | (simp only [List.length_drop, List.length_take]; rfl)) ?_; (with_reducible refine (impl_fileAt.calls a0_0 _ _ l0_1 a1 t411 _ ?side1 ?side2 A19.out).mono ?_); (case side1 => exact Kd.C_below HR0_1.out xbg); (case side2 => exact HC0_1.out); rintro e w30 ⟨rfl, hb⟩; refine ⟨_, rfl, ?_⟩; replace HO409 := aM (Kd.R_below (xrt (Kd.R_mono (Kd.R_far (p := ⟨gb410, 1, none⟩) (Kd.R_far (p := ⟨gb410, 0, none⟩) (Kd.R_types HO409.out BK410.out (by decide)) (fun _ hk => hk.2) (.int .i64 t406)) (fun _ hk => hk.2) (.slice Ao28 t407.length co28)) (fun _ h_ => h_.1))) hb); replace BK402 := aM (blk_below (g := gb402) (o := .cells #[.int .i64 a0_0, .slice A0_1 l0_1.length c0_1] 70 (0, 0)) (by (with_reducible repeat (first | refine blk_drewN ?_ _ | refine blk_drew ?_ | refine blk_alloc ?_ _)); refine blk_far ?_ NB402_410.out _; (with_reducible repeat (first | refine blk_drewN ?_ _ | refine blk_drew ?_ | refine blk_alloc ?_ _)); refine blk_far ?_ NB402_410.out _; (with_reducible repeat (first | refine blk_drewN ?_ _ | refine blk_drew ?_ | refine blk_alloc ?_ _)); exact BK402.out) hb); replace BK403 := aM (blk_below (g := gb403) (o := .cells #[.int .i64 0, .slice none 0 0] 70 (0, 0)) (by (with_reducible repeat (first | refine blk_drewN ?_ _ | refine blk_drew ?_ | refine blk_alloc ?_ _)); refine blk_far ?_ NB403_410.out _; (with_reducible repeat (first | refine blk_drewN ?_ _ | refine blk_drew ?_ | refine blk_alloc ?_ _)); refine blk_far ?_ NB403_410.out _; (with_reducible repeat (first | refine blk_drewN ?_ _ | refine blk_drew ?_ | refine blk_alloc ?_ _)); exact BK403.out) hb); replace BK410 := aM (blk_below (g := gb410) (o := .cells #[.int .i64 t406, .slice Ao28 t407.length co28] 70 (0, 0)) (by (with_reducible repeat (first | refine blk_drewN ?_ _ | refine blk_drew ?_ | refine blk_alloc ?_ _)); refine blk_put (cs := #[.int .i64 t406, .slice none 0 0]) ?_ 1 _ rfl; (with_reducible repeat (first | refine blk_drewN ?_ _ | refine blk_drew ?_ | refine blk_alloc ?_ _)); refine blk_put (cs := #[.int .i64 0, .slice none 0 0]) ?_ 0 _ rfl; (with_reducible repeat (first | refine blk_drewN ?_ _ | refine blk_drew ?_ | refine blk_alloc ?_ _)); exact BK410.out) hb); replace HB := xbs hb; (try clear hb); (try clear hb2); (try clear hk); (try clear hi); have hcz31_0 : w30.cell? ⟨gb410, 0, none⟩ = some (.int .i64 t406) := xc BK410 0 rfl; have hcz31_1 : w30.cell? ⟨gb410, 1, none⟩ = some (.slice Ao28 t407.length co28) := xc BK410 1 rfl; have hfz31_0 := blk_frozen BK410.out 0; have hfz31_1 := blk_frozen BK410.out 1; have hcz32_0 : w30.cell? ⟨gb403, 0, none⟩ = some (.int .i64 0) := xc BK403 0 rfl; have hcz32_1 : w30.cell? ⟨gb403, 1, none⟩ = some (.slice none 0 0) := xc BK403 1 rfl; have hfz32_0 := blk_frozen BK403.out 0; have hfz32_1 := blk_frozen BK403.out 1))
     refine bodyPost_ret (results_ct rfl _ _ gb403 70 #[.int .i64 t406, .slice Ao28 t407.length co28] (0, 0) _ rfl (by (with_reducible repeat (first | refine blk_drewN ?_ _ | refine blk_drew ?_ | refine blk_alloc ?_ _)); refine blk_put (cs := #[.int .i64 t406, .slice none 0 0]) ?_ 1 _ rfl; (with_reducible repeat (first | refine blk_drewN ?_ _ | refine blk_drew ?_ | refine blk_alloc ?_ _)); refine blk_put (cs := #[.int .i64 0, .slice none 0 0]) ?_ 0 _ rfl; (with_reducible repeat (first | refine blk_drewN ?_ _ | refine blk_drew ?_ | refine blk_alloc ?_ _)); exact BK403.out) Try.underlying70 rfl (by kernel_rfl)) rfl ?_
     exact ⟨_, by first | rfl | (simp [errW_none, errW_some] <;> rfl) | (simp [*, errW_none, errW_some] <;> rfl), by (with_reducible repeat (first | apply Kd.R_alloc | apply Kd.R_drewN | apply Kd.R_drew)); exact Kd.R_mono (Kd.R_far (p := ⟨gb403, 1, none⟩) (Kd.R_far (p := ⟨gb403, 0, none⟩) (Kd.R_types HO409.out BK403.out (by decide)) (fun _ hk => hk.2) (.int .i64 t406)) (fun _ hk => hk.2) (.slice Ao28 t407.length co28)) (fun _ hk => trivial), xbg⟩
    ·rw [if_neg c20] at H
     have c20b0 : decide (t411 < 0) = false := decide_eq_false c20; clear c20
     by_cases c33 : 0 ≤ t411
     ·rw [if_pos c33] at H
      have c33b0 : decide (0 ≤ t411) = true := decide_eq_true c33; clear c33
      by_cases c34 : t411 < (l0_1.length : Int)
      ·rw [if_pos c34] at H
       have c34b0 : decide (t411 < (l0_1.length : Int)) = true := decide_eq_true c34; clear c34
       by_cases c35 : ((rd_T134 l0_1 t411).f1).size + ((rd_T134 l0_1 t411).f2).size ≤ 9223372036854775807
       ·rw [if_pos c35] at H
        have c35b0 := eq_true c35; have c35b1 : decide (((rd_T134 l0_1 t411).f1).size + ((rd_T134 l0_1 t411).f2).size ≤ 9223372036854775807) = true := decide_eq_true c35
        try have c35b2 : (9223372036854775807 < ((rd_T134 l0_1 t411).f1).size + ((rd_T134 l0_1 t411).f2).size) = False := eq_false (Nat.not_lt.2 c35)
        by_cases c36 : t411 < (t407.length : Int)
        ·rw [if_pos c36] at H
         have c36b0 : decide (t411 < (t407.length : Int)) = true := decide_eq_true c36; clear c36
         obtain ⟨y414, hy414⟩ : ∃ y_ : List (S134), y_ = (t407.set (t411 : Int).toNat (⟨a1, ((rd_T134 l0_1 t411).f1) ++ ((rd_T134 l0_1 t411).f2), (⟨#[]⟩ : ByteArray)⟩ : S134)) := ⟨_, rfl⟩
         replace H : (some (t406, y414, 0)) = some (r1, r2, r3) := by first | (rw [hy414]; with_reducible exact H) | (have H2_ := (Option.bind_some _ _).symm.trans H; rw [hy414]; with_reducible exact H2_) | (have H2_ := (Option.bind_some _ _).symm.trans H; with_reducible exact H2_) | with_reducible exact H | (rw [hy414]; exact H) | exact H
         have Ny414 := aM hy414; clear hy414
         simp only [Option.some.injEq, Prod.mk.injEq] at H
         obtain ⟨rfl, rfl, rfl⟩ := H
         have hnb38 := NB402_403.out; have hnc38 := NB403_402.out; have hcz39_0 : wc.cell? ⟨gb402, 0, none⟩ = some (.int .i64 a0_0) := xc BK402 0 rfl; have hcz39_1 : wc.cell? ⟨gb402, 1, none⟩ = some (.slice A0_1 l0_1.length c0_1) := xc BK402 1 rfl; have hfz39_0 := blk_frozen BK402.out 0; have hfz39_1 := blk_frozen BK402.out 1
         go_wp2_with (first | ((with_reducible refine gate_callee (f := 115) rfl ?_); refine goesL_ (some 19) rfl rfl Try.func115 (by kernel_rfl) rfl #[.agg #[.int .i64 a0_0, .slice A0_1 l0_1.length c0_1]] rfl (by (try simp only [List.map_toArray, List.map_cons, List.map_nil]); first | done | rfl | (simp only [List.length_drop, List.length_take]; rfl)) ?_; (with_reducible refine (impl_copyDisk.calls a0_0 _ _ l0_1 t406 t407 _ ?side1 ?side2 A18.out).mono ?_); (case side1 => exact xcb HR0_1); (case side2 => exact HC0_1.out); rintro e w40 ⟨v408, rfl, ho0, hb⟩; refine ⟨_, rfl, ?_⟩; have HO409 := aM (Kd.R_lower ho0 (below_size xbg)); replace BK402 := xbb BK402 hb; replace BK403 := xbb BK403 hb; replace HB := xbs hb; (try clear hb); (try clear hb2); (try clear hk); (try clear hi); (try clear ho0)) | ((with_reducible refine gate_dst (N := 6) rfl ?_); refine box_event ?hg (N := 6) ?hd (cs := #[.int .i64 0, .slice none 0 0]) (t := 70) ?hr ?_; (case hd => rfl); (case hg => rfl); (case hr => first | (go_simp; done) | (go_simp; rfl)); intro gb410 hg w41 hbox hb; replace HO409 := aM (Kd.R_below (xr HO409) hb); have GW410 := aM (xge hg); have GE410 := aM (xge hg); replace HB := xbs hb; have NB402_410 := aM ((by rw [hg]; exact Nat.ne_of_lt (blk_lt (g := gb402) (o := .cells #[.int .i64 a0_0, .slice A0_1 l0_1.length c0_1] 70 (0, 0)) xblk) : gb402 ≠ gb410)); have NB410_402 := aM ((by rw [hg]; exact Nat.ne_of_gt (blk_lt (g := gb402) (o := .cells #[.int .i64 a0_0, .slice A0_1 l0_1.length c0_1] 70 (0, 0)) xblk) : gb410 ≠ gb402)); have NB403_410 := aM ((by rw [hg]; exact Nat.ne_of_lt (blk_lt (g := gb403) (o := .cells #[.int .i64 0, .slice none 0 0] 70 (0, 0)) xblk) : gb403 ≠ gb410)); have NB410_403 := aM ((by rw [hg]; exact Nat.ne_of_gt (blk_lt (g := gb403) (o := .cells #[.int .i64 0, .slice none 0 0] 70 (0, 0)) xblk) : gb410 ≠ gb403)); replace BK402 := xbb BK402 hb; replace BK403 := xbb BK403 hb; have BK410 := aM (hbox); clear hb hbox hg; have hnb42 := NB410_402.out; have hnc42 := NB402_410.out; have hnb43 := NB410_403.out; have hnc43 := NB403_410.out; have hcz44_0 : w41.cell? ⟨gb410, 0, none⟩ = some (.int .i64 0) := xc BK410 0 rfl; have hcz44_1 : w41.cell? ⟨gb410, 1, none⟩ = some (.slice none 0 0) := xc BK410 1 rfl; have hfz44_0 := blk_frozen BK410.out 0; have hfz44_1 := blk_frozen BK410.out 1; obtain ⟨Ao45, co45, eo45⟩ := Kd.R_slice HO409.out; subst eo45; have hcz46_0 : w41.cell? ⟨gb402, 0, none⟩ = some (.int .i64 a0_0) := xc BK402 0 rfl; have hcz46_1 : w41.cell? ⟨gb402, 1, none⟩ = some (.slice A0_1 l0_1.length c0_1) := xc BK402 1 rfl; have hfz46_0 := blk_frozen BK402.out 0; have hfz46_1 := blk_frozen BK402.out 1) | ((with_reducible refine gate_callee (f := 116) rfl ?_); refine goesL_ (some 22) rfl rfl Try.func116 (by kernel_rfl) rfl #[.agg #[.int .i64 a0_0, .slice A0_1 l0_1.length c0_1], .int .i64 a1] rfl (by (try simp only [List.map_toArray, List.map_cons, List.map_nil]); first | done | rfl | (simp only [List.length_drop, List.length_take]; rfl)) ?_; (with_reducible refine (impl_fileAt.calls a0_0 _ _ l0_1 a1 t411 _ ?side1 ?side2 A19.out).mono ?_); (case side1 => exact Kd.C_below HR0_1.out xbg); (case side2 => exact HC0_1.out); rintro e w47 ⟨rfl, hb⟩; refine ⟨_, rfl, ?_⟩; replace HO409 := aM (Kd.R_below (xrt (Kd.R_mono (Kd.R_far (p := ⟨gb410, 1, none⟩) (Kd.R_far (p := ⟨gb410, 0, none⟩) (Kd.R_types HO409.out BK410.out (by decide)) (fun _ hk => hk.2) (.int .i64 t406)) (fun _ hk => hk.2) (.slice Ao45 t407.length co45)) (fun _ h_ => h_.1))) hb); replace BK402 := aM (blk_below (g := gb402) (o := .cells #[.int .i64 a0_0, .slice A0_1 l0_1.length c0_1] 70 (0, 0)) (by (with_reducible repeat (first | refine blk_drewN ?_ _ | refine blk_drew ?_ | refine blk_alloc ?_ _)); refine blk_far ?_ NB402_410.out _; (with_reducible repeat (first | refine blk_drewN ?_ _ | refine blk_drew ?_ | refine blk_alloc ?_ _)); refine blk_far ?_ NB402_410.out _; (with_reducible repeat (first | refine blk_drewN ?_ _ | refine blk_drew ?_ | refine blk_alloc ?_ _)); exact BK402.out) hb); replace BK403 := aM (blk_below (g := gb403) (o := .cells #[.int .i64 0, .slice none 0 0] 70 (0, 0)) (by (with_reducible repeat (first | refine blk_drewN ?_ _ | refine blk_drew ?_ | refine blk_alloc ?_ _)); refine blk_far ?_ NB403_410.out _; (with_reducible repeat (first | refine blk_drewN ?_ _ | refine blk_drew ?_ | refine blk_alloc ?_ _)); refine blk_far ?_ NB403_410.out _; (with_reducible repeat (first | refine blk_drewN ?_ _ | refine blk_drew ?_ | refine blk_alloc ?_ _)); exact BK403.out) hb); replace BK410 := aM (blk_below (g := gb410) (o := .cells #[.int .i64 t406, .slice Ao45 t407.length co45] 70 (0, 0)) (by (with_reducible repeat (first | refine blk_drewN ?_ _ | refine blk_drew ?_ | refine blk_alloc ?_ _)); refine blk_put (cs := #[.int .i64 t406, .slice none 0 0]) ?_ 1 _ rfl; (with_reducible repeat (first | refine blk_drewN ?_ _ | refine blk_drew ?_ | refine blk_alloc ?_ _)); refine blk_put (cs := #[.int .i64 0, .slice none 0 0]) ?_ 0 _ rfl; (with_reducible repeat (first | refine blk_drewN ?_ _ | refine blk_drew ?_ | refine blk_alloc ?_ _)); exact BK410.out) hb); replace HB := xbs hb; (try clear hb); (try clear hb2); (try clear hk); (try clear hi); have hcz48_0 : w47.cell? ⟨gb402, 0, none⟩ = some (.int .i64 a0_0) := xc BK402 0 rfl; have hcz48_1 : w47.cell? ⟨gb402, 1, none⟩ = some (.slice A0_1 l0_1.length c0_1) := xc BK402 1 rfl; have hfz48_0 := blk_frozen BK402.out 0; have hfz48_1 := blk_frozen BK402.out 1; have p412 : 0 ≤ (t411 : Int) := of_decide_eq_true (by first | (with_reducible assumption) | assumption); have q412 : t411 < (l0_1.length : Int) := of_decide_eq_true (by first | (with_reducible assumption) | assumption); obtain ⟨ad412, e412, hx412_0, hx412_1, hx412_2⟩ := at_T134 HR0_1.out t411 p412 q412; cases e412; replace hx412_0 := xce HB hx412_0; replace hx412_1 := xce HB hx412_1; replace hx412_2 := xce HB hx412_2; replace p412 := eq_true p412; replace q412 := eq_true q412) | ((with_reducible refine gate_dst (N := 8) rfl ?_); refine box_event ?hg (N := 8) ?hd (cs := #[.int .i64 0, .string (⟨#[]⟩ : ByteArray), .string (⟨#[]⟩ : ByteArray)]) (t := 134) ?hr ?_; (case hd => rfl); (case hg => rfl); (case hr => first | (go_simp; done) | (go_simp; rfl)); intro gb413 hg w49 hbox hb; replace HO409 := aM (Kd.R_below (Kd.R_elderB (xr HO409) gb413 (Nat.le_of_eq hg.symm)) hb); have GW413 := aM (xge hg); have GE413 := aM (xge hg); replace HB := xbs hb; have NB402_413 := aM ((by rw [hg]; exact Nat.ne_of_lt (blk_lt (g := gb402) (o := .cells #[.int .i64 a0_0, .slice (some ad412) l0_1.length c0_1] 70 (0, 0)) xblk) : gb402 ≠ gb413)); have NB413_402 := aM ((by rw [hg]; exact Nat.ne_of_gt (blk_lt (g := gb402) (o := .cells #[.int .i64 a0_0, .slice (some ad412) l0_1.length c0_1] 70 (0, 0)) xblk) : gb413 ≠ gb402)); have NB403_413 := aM ((by rw [hg]; exact Nat.ne_of_lt (blk_lt (g := gb403) (o := .cells #[.int .i64 0, .slice none 0 0] 70 (0, 0)) xblk) : gb403 ≠ gb413)); have NB413_403 := aM ((by rw [hg]; exact Nat.ne_of_gt (blk_lt (g := gb403) (o := .cells #[.int .i64 0, .slice none 0 0] 70 (0, 0)) xblk) : gb413 ≠ gb403)); have NB410_413 := aM ((by rw [hg]; exact Nat.ne_of_lt (blk_lt (g := gb410) (o := .cells #[.int .i64 t406, .slice Ao45 t407.length co45] 70 (0, 0)) xblk) : gb410 ≠ gb413)); have NB413_410 := aM ((by rw [hg]; exact Nat.ne_of_gt (blk_lt (g := gb410) (o := .cells #[.int .i64 t406, .slice Ao45 t407.length co45] 70 (0, 0)) xblk) : gb413 ≠ gb410)); replace BK402 := xbb BK402 hb; replace BK403 := xbb BK403 hb; replace BK410 := xbb BK410 hb; have BK413 := aM (hbox); clear hb hbox hg; have hnb50 := NB413_402.out; have hnc50 := NB402_413.out; have hnb51 := NB413_403.out; have hnc51 := NB403_413.out; have hnb52 := NB413_410.out; have hnc52 := NB410_413.out; have hcz53_0 : w49.cell? ⟨gb413, 0, none⟩ = some (.int .i64 0) := xc BK413 0 rfl; have hcz53_1 : w49.cell? ⟨gb413, 1, none⟩ = some (.string (⟨#[]⟩ : ByteArray)) := xc BK413 1 rfl; have hcz53_2 : w49.cell? ⟨gb413, 2, none⟩ = some (.string (⟨#[]⟩ : ByteArray)) := xc BK413 2 rfl; have hfz53_0 := blk_frozen BK413.out 0; have hfz53_1 := blk_frozen BK413.out 1; have hfz53_2 := blk_frozen BK413.out 2) | ((with_reducible refine gate_store (t := 134) (p := 8) rfl ?_); refine store_event (t := 134) (p := 8) (v := ?vo_w54) (w1 := (((w49.setCell ⟨gb413, 0, none⟩ (.int .i64 ((rd_T134 l0_1 t411).f0))).setCell ⟨gb413, 1, none⟩ (.string ((rd_T134 l0_1 t411).f1))).setCell ⟨gb413, 2, none⟩ (.string ((rd_T134 l0_1 t411).f2)))) ?hg ?ho ?hn ?hr ?_; (case ho => rfl); (case hg => rfl); (case hn => rfl); (case hr => first | (go_simp; done) | (go_simp; rfl)); intro w54 hw; replace HO409 : Aside0 (Kd.R k134 134 w54 w.heap.size (fun k_ => k_ ≠ gb413) (.slice Ao45 t407.length co45) t407) := ⟨(by rw [hw]; exact (by (with_reducible repeat (first | apply Kd.R_alloc | apply Kd.R_drewN | apply Kd.R_drew)); exact Kd.R_mono (Kd.R_far (p := ⟨gb413, 2, none⟩) (Kd.R_far (p := ⟨gb413, 1, none⟩) (Kd.R_far (p := ⟨gb413, 0, none⟩) (Kd.R_mono HO409.out (fun k_ hk => (⟨hk, hk.2⟩ : _ ∧ k_ ≠ gb413))) (fun _ hk => hk.2) (.int .i64 ((rd_T134 l0_1 t411).f0))) (fun _ hk => hk.2) (.string ((rd_T134 l0_1 t411).f1))) (fun _ hk => hk.2) (.string ((rd_T134 l0_1 t411).f2))) (fun _ hk => hk.1.2)))⟩; replace BK402 : Aside0 (w54.heap[gb402]? = some (.cells #[.int .i64 a0_0, .slice (some ad412) l0_1.length c0_1] 70 (0, 0))) := ⟨(by rw [hw]; exact (by (with_reducible repeat (first | refine blk_drewN ?_ _ | refine blk_drew ?_ | refine blk_alloc ?_ _)); refine blk_far ?_ NB402_413.out _; (with_reducible repeat (first | refine blk_drewN ?_ _ | refine blk_drew ?_ | refine blk_alloc ?_ _)); refine blk_far ?_ NB402_413.out _; (with_reducible repeat (first | refine blk_drewN ?_ _ | refine blk_drew ?_ | refine blk_alloc ?_ _)); refine blk_far ?_ NB402_413.out _; (with_reducible repeat (first | refine blk_drewN ?_ _ | refine blk_drew ?_ | refine blk_alloc ?_ _)); exact BK402.out))⟩; replace BK403 : Aside0 (w54.heap[gb403]? = some (.cells #[.int .i64 0, .slice none 0 0] 70 (0, 0))) := ⟨(by rw [hw]; exact (by (with_reducible repeat (first | refine blk_drewN ?_ _ | refine blk_drew ?_ | refine blk_alloc ?_ _)); refine blk_far ?_ NB403_413.out _; (with_reducible repeat (first | refine blk_drewN ?_ _ | refine blk_drew ?_ | refine blk_alloc ?_ _)); refine blk_far ?_ NB403_413.out _; (with_reducible repeat (first | refine blk_drewN ?_ _ | refine blk_drew ?_ | refine blk_alloc ?_ _)); refine blk_far ?_ NB403_413.out _; (with_reducible repeat (first | refine blk_drewN ?_ _ | refine blk_drew ?_ | refine blk_alloc ?_ _)); exact BK403.out))⟩; replace BK410 : Aside0 (w54.heap[gb410]? = some (.cells #[.int .i64 t406, .slice Ao45 t407.length co45] 70 (0, 0))) := ⟨(by rw [hw]; exact (by (with_reducible repeat (first | refine blk_drewN ?_ _ | refine blk_drew ?_ | refine blk_alloc ?_ _)); refine blk_far ?_ NB410_413.out _; (with_reducible repeat (first | refine blk_drewN ?_ _ | refine blk_drew ?_ | refine blk_alloc ?_ _)); refine blk_far ?_ NB410_413.out _; (with_reducible repeat (first | refine blk_drewN ?_ _ | refine blk_drew ?_ | refine blk_alloc ?_ _)); refine blk_far ?_ NB410_413.out _; (with_reducible repeat (first | refine blk_drewN ?_ _ | refine blk_drew ?_ | refine blk_alloc ?_ _)); exact BK410.out))⟩; replace BK413 : Aside0 (w54.heap[gb413]? = some (.cells #[.int .i64 ((rd_T134 l0_1 t411).f0), .string ((rd_T134 l0_1 t411).f1), .string ((rd_T134 l0_1 t411).f2)] 134 (0, 0))) := ⟨(by rw [hw]; exact (by (with_reducible repeat (first | refine blk_drewN ?_ _ | refine blk_drew ?_ | refine blk_alloc ?_ _)); refine blk_put (cs := #[.int .i64 ((rd_T134 l0_1 t411).f0), .string ((rd_T134 l0_1 t411).f1), .string (⟨#[]⟩ : ByteArray)]) ?_ 2 _ rfl; (with_reducible repeat (first | refine blk_drewN ?_ _ | refine blk_drew ?_ | refine blk_alloc ?_ _)); refine blk_put (cs := #[.int .i64 ((rd_T134 l0_1 t411).f0), .string (⟨#[]⟩ : ByteArray), .string (⟨#[]⟩ : ByteArray)]) ?_ 1 _ rfl; (with_reducible repeat (first | refine blk_drewN ?_ _ | refine blk_drew ?_ | refine blk_alloc ?_ _)); refine blk_put (cs := #[.int .i64 0, .string (⟨#[]⟩ : ByteArray), .string (⟨#[]⟩ : ByteArray)]) ?_ 0 _ rfl; (with_reducible repeat (first | refine blk_drewN ?_ _ | refine blk_drew ?_ | refine blk_alloc ?_ _)); exact BK413.out))⟩; replace HB : Aside0 (Below w.heap.size w w54) := ⟨(by rw [hw]; exact xbg)⟩; clear hw; have hcz55_0 : w54.cell? ⟨gb410, 0, none⟩ = some (.int .i64 t406) := xc BK410 0 rfl; have hcz55_1 : w54.cell? ⟨gb410, 1, none⟩ = some (.slice Ao45 t407.length co45) := xc BK410 1 rfl; have hfz55_0 := blk_frozen BK410.out 0; have hfz55_1 := blk_frozen BK410.out 1; have hcz56_0 : w54.cell? ⟨gb413, 0, none⟩ = some (.int .i64 ((rd_T134 l0_1 t411).f0)) := xc BK413 0 rfl; have hcz56_1 : w54.cell? ⟨gb413, 1, none⟩ = some (.string ((rd_T134 l0_1 t411).f1)) := xc BK413 1 rfl; have hcz56_2 : w54.cell? ⟨gb413, 2, none⟩ = some (.string ((rd_T134 l0_1 t411).f2)) := xc BK413 2 rfl; have hfz56_0 := blk_frozen BK413.out 0; have hfz56_1 := blk_frozen BK413.out 1; have hfz56_2 := blk_frozen BK413.out 2; have p37 : 0 ≤ (t411 : Int) := of_decide_eq_true (by first | (with_reducible assumption) | assumption); have q37 : (t411 : Int) < ((t407.length : Int) : Int) := of_decide_eq_true (by first | (with_reducible assumption) | assumption); obtain ⟨go37, co37, eo37, gb37, gl37, cl37, HG37⟩ := Kd.R_form HO409.out (by omega); (first | cases eo37 | (injection eo37 with ea_ en_ ec_; (first | subst ea_ | (injection ea_ with ea_; subst ea_)); subst ec_; clear en_)); have GB37 := aM gb37; have GG37 := aM HG37; clear gb37 gl37 HG37; obtain ⟨ce37, hcl37, hM37, hcc37, hfr37⟩ := Kd.R_elem HO409.out z134 (t411 : Int) p37 q37; obtain rfl := k134_openM hM37; have hx37_0 : w54.cell? ⟨go37, (t411 : Int).toNat * 3, none⟩ = some (.int .i64 ((rd_T134 t407 t411).f0)) := hcc37 0 _ rfl; have hx37_1 : w54.cell? ⟨go37, (t411 : Int).toNat * 3 + 1, none⟩ = some (.string ((rd_T134 t407 t411).f1)) := hcc37 1 _ rfl; have hx37_2 : w54.cell? ⟨go37, (t411 : Int).toNat * 3 + 2, none⟩ = some (.string ((rd_T134 t407 t411).f2)) := hcc37 2 _ rfl; have hf37_0 : w54.frozen? ⟨go37, (t411 : Int).toNat * 3, none⟩ = false := hfr37 0; have hf37_1 : w54.frozen? ⟨go37, (t411 : Int).toNat * 3 + 1, none⟩ = false := hfr37 1; have hf37_2 : w54.frozen? ⟨go37, (t411 : Int).toNat * 3 + 2, none⟩ = false := hfr37 2; clear hcl37 hcc37 hfr37 hM37; replace p37 := eq_true p37; replace q37 := eq_true q37; have HX57 := aM (show Kd.R k134 134 w54 w.heap.size (fun k_ => k_ ≠ gb413) (.slice (some ⟨go37, 0, none⟩) t407.length co45) t407 from (xr HO409)); obtain ⟨ce57, hcl57, hM57, hcc57, hfr57⟩ := Kd.R_elem HX57.out z134 (t411 : Int) (of_decide_eq_true (by first | (with_reducible assumption) | assumption)) (by have h_ : (t411 : Int) < ((t407.length : Int) : Int) := of_decide_eq_true (by first | (with_reducible assumption) | assumption); first | exact h_ | (have e_ := (Kd.R_reads' HO409.out).1; omega) | simpa using h_); obtain rfl := k134_openM hM57; have HP57 := Kd.R_seg HX57.out (t411 : Int) (of_decide_eq_true (by first | (with_reducible assumption) | assumption)) (by have h_ : (t411 : Int) < ((t407.length : Int) : Int) := of_decide_eq_true (by first | (with_reducible assumption) | assumption); first | exact h_ | (have e_ := (Kd.R_reads' HO409.out).1; omega) | simpa using h_) (seg := [.int .i64 a1, .string (((rd_T134 l0_1 t411).f1) ++ ((rd_T134 l0_1 t411).f2)), .string (⟨#[]⟩ : ByteArray)]) (j := 0) hcl57 hcc57 (show 3 ≤ 3 from by decide) (x' := (⟨a1, ((rd_T134 l0_1 t411).f1) ++ ((rd_T134 l0_1 t411).f2), (⟨#[]⟩ : ByteArray)⟩ : S134)) (k134_mkM _ _ _ (⟨a1, ((rd_T134 l0_1 t411).f1) ++ ((rd_T134 l0_1 t411).f2), (⟨#[]⟩ : ByteArray)⟩ : S134) ) (fun _ hk => hk); have hx57_0 := hcc57 0 _ rfl; (try simp only [show (k134).sz = 3 from rfl, Nat.mul_one, Nat.add_zero] at hx57_0); have hf57_0 := hfr57 0; (try simp only [show (k134).sz = 3 from rfl, Nat.mul_one, Nat.add_zero] at hf57_0); have hx57_1 := hcc57 1 _ rfl; (try simp only [show (k134).sz = 3 from rfl, Nat.mul_one, Nat.add_zero] at hx57_1); have hf57_1 := hfr57 1; (try simp only [show (k134).sz = 3 from rfl, Nat.mul_one, Nat.add_zero] at hf57_1); have hx57_2 := hcc57 2 _ rfl; (try simp only [show (k134).sz = 3 from rfl, Nat.mul_one, Nat.add_zero] at hx57_2); have hf57_2 := hfr57 2; (try simp only [show (k134).sz = 3 from rfl, Nat.mul_one, Nat.add_zero] at hf57_2); clear hcl57 hcc57 hfr57 hM57) | ((with_reducible refine gate_store (t := 134) (p := 41) rfl ?_); refine store_event (t := 134) (p := 41) (v := ?vo_w58) (w1 := (((w54.setCell ⟨go37, (t411 : Int).toNat * 3, none⟩ (.int .i64 a1)).setCell ⟨go37, (t411 : Int).toNat * 3 + 1, none⟩ (.string (((rd_T134 l0_1 t411).f1) ++ ((rd_T134 l0_1 t411).f2)))).setCell ⟨go37, (t411 : Int).toNat * 3 + 2, none⟩ (.string (⟨#[]⟩ : ByteArray)))) ?hg ?ho ?hn ?hr ?_; (case ho => rfl); (case hg => rfl); (case hn => rfl); (case hr => first | (go_simp; done) | (go_simp; rfl)); intro w58 hw; have hg : w54.grownBy w58 (some go37) := (by rw [hw]; exact HP57.2); have hp_ : Kd.R k134 134 w58 w.heap.size (fun k_ => k_ ≠ gb413) (.slice (some ⟨go37, 0, none⟩) t407.length co45) y414 := (by rw [hw, Ny414.out]; exact HP57.1); clear HP57; have n0_ := aM (blk_grown (g := gb402) (o := .cells #[.int .i64 a0_0, .slice (some ad412) l0_1.length c0_1] 70 (0, 0)) xblk hg (Kd.R_ne HO409.out BK402.out (by decide))); have n1_ := aM (blk_grown (g := gb403) (o := .cells #[.int .i64 0, .slice none 0 0] 70 (0, 0)) xblk hg (Kd.R_ne HO409.out BK403.out (by decide))); have n2_ := aM (hp_); have n3_ := aM (blk_grown (g := gb410) (o := .cells #[.int .i64 t406, .slice (some ⟨go37, 0, none⟩) t407.length co45] 70 (0, 0)) xblk hg (Kd.R_ne HO409.out BK410.out (by decide))); have n4_ := aM (blk_grown (g := gb413) (o := .cells #[.int .i64 ((rd_T134 l0_1 t411).f0), .string ((rd_T134 l0_1 t411).f1), .string ((rd_T134 l0_1 t411).f2)] 134 (0, 0)) xblk hg (Kd.R_away HO409.out (fun _ hk => hk))); have n5_ := aM ((by rw [hw]; exact below_set (below_set (below_set (HB.out) GB37.out) GB37.out) GB37.out : Below w.heap.size w w58)); clear BK402; clear BK403; clear HO409; clear BK410; clear BK413; clear HB; have BK402 := n0_; have BK403 := n1_; have HO409 := n2_; have BK410 := n3_; have BK413 := n4_; have HB := n5_; clear n0_ n1_ n2_ n3_ n4_ n5_; clear hg hw hp_; have hcz59_0 : w58.cell? ⟨gb410, 0, none⟩ = some (.int .i64 t406) := xc BK410 0 rfl; have hcz59_1 : w58.cell? ⟨gb410, 1, none⟩ = some (.slice (some ⟨go37, 0, none⟩) t407.length co45) := xc BK410 1 rfl; have hfz59_0 := blk_frozen BK410.out 0; have hfz59_1 := blk_frozen BK410.out 1; have hcz60_0 : w58.cell? ⟨gb403, 0, none⟩ = some (.int .i64 0) := xc BK403 0 rfl; have hcz60_1 : w58.cell? ⟨gb403, 1, none⟩ = some (.slice none 0 0) := xc BK403 1 rfl; have hfz60_0 := blk_frozen BK403.out 0; have hfz60_1 := blk_frozen BK403.out 1))
         refine bodyPost_ret (results_ct rfl _ _ gb403 70 #[.int .i64 t406, .slice (some ⟨go37, 0, none⟩) t407.length co45] (0, 0) _ rfl (by (with_reducible repeat (first | refine blk_drewN ?_ _ | refine blk_drew ?_ | refine blk_alloc ?_ _)); refine blk_put (cs := #[.int .i64 t406, .slice none 0 0]) ?_ 1 _ rfl; (with_reducible repeat (first | refine blk_drewN ?_ _ | refine blk_drew ?_ | refine blk_alloc ?_ _)); refine blk_put (cs := #[.int .i64 0, .slice none 0 0]) ?_ 0 _ rfl; (with_reducible repeat (first | refine blk_drewN ?_ _ | refine blk_drew ?_ | refine blk_alloc ?_ _)); exact BK403.out) Try.underlying70 rfl (by kernel_rfl)) rfl ?_
         exact ⟨_, by first | rfl | (simp [errW_none, errW_some] <;> rfl) | (simp [*, errW_none, errW_some] <;> rfl), by (with_reducible repeat (first | apply Kd.R_alloc | apply Kd.R_drewN | apply Kd.R_drew)); exact Kd.R_mono (Kd.R_far (p := ⟨gb403, 1, none⟩) (Kd.R_far (p := ⟨gb403, 0, none⟩) (Kd.R_types HO409.out BK403.out (by decide)) (fun _ hk => hk.2) (.int .i64 t406)) (fun _ hk => hk.2) (.slice (some ⟨go37, 0, none⟩) t407.length co45)) (fun _ hk => trivial), xbg⟩
        ·rw [if_neg c36] at H
         exact absurd H (by simp)
       ·rw [if_neg c35] at H
        exact absurd H (by simp)
      ·rw [if_neg c34] at H
       exact absurd H (by simp)
     ·rw [if_neg c33] at H
      exact absurd H (by simp)

/-! ### impl_JournalAdd: function 66 -/
def impl_JournalAdd.f (k : Nat) (a0_0 : Int) (l0_1 : List (S134)) (a1 : Int) (l2 : List ByteArray) : Option (Int × (List (S134)) × Int) := (impl_JournalLate.f k a0_0 l0_1 a1 l2).bind fun bt417 => (if bt417.2.2 = 0 then ((impl_DiskSync.f k bt417.1 bt417.2.1 a1).bind fun bt423 => (some (bt423.1, bt423.2.1, bt423.2.2))) else (some (bt417.1, bt417.2.1, bt417.2.2)))
theorem impl_JournalAdd.mono : ∀ a0 a1 a2 a3 k, LeO (impl_JournalAdd.f k a0 a1 a2 a3) (impl_JournalAdd.f (k + 1) a0 a1 a2 a3) := by
 intro a0 a1 a2 a3 k
 unfold impl_JournalAdd.f
 repeat' first
  | (with_reducible exact impl_DiskSync.mono _ _ _ _)
  | (with_reducible exact impl_JournalLate.mono _ _ _ _ _)
  | (with_reducible exact LeO.refl _)
  | (with_reducible exact LeO.none _)
  | (with_reducible refine LeO.ite ?_ ?_)
  | (with_reducible refine LeO.bind ?_ (fun _ => ?_))
  | exact impl_DiskSync.mono _ _ _ _
  | exact impl_JournalLate.mono _ _ _ _ _
  | exact LeO.none _
  | refine LeO.ite ?_ ?_
  | refine LeO.bind ?_ (fun _ => ?_)
set_option maxHeartbeats 8000000 in
set_option maxRecDepth 100000 in
theorem impl_JournalAdd.calls (k : Nat) (a0_0 : Int) (A0_1 : Option Addr) (c0_1 : Nat) (l0_1 : List (S134)) (a1 : Int) (A2 : Option Addr) (c2 : Nat) (l2 : List ByteArray) (r1 : Int) (r2 : List (S134)) (r3 : Int) (w : World) (hr0_1 : Kd.C k134 w A0_1 l0_1.length l0_1) (hc0_1 : l0_1.length ≤ c0_1) (hr2 : Kd.C Kd.string w A2 l2.length l2) (hc2 : l2.length ≤ c2) (h : impl_JournalAdd.f k a0_0 l0_1 a1 l2 = some (r1, r2, r3)) :
 Calls Try.prog 66 #[.agg #[.int .i64 a0_0, .slice A0_1 l0_1.length c0_1], .int .i64 a1, .slice A2 l2.length c2] w fun e w' => ∃ v1_ : Value, e = .returned (.tuple #[.agg #[.int .i64 r1, v1_], .int .i64 r3]) ∧ Kd.R k134 134 w' w.heap.size (fun _ => True) v1_ r2 ∧ Below w.heap.size w w' := by
 have hu70 := Try.underlying70
 have HR0_1 := aM hr0_1
 have HC0_1 := aM hc0_1
 clear hr0_1 hc0_1
 have HR2 := aM hr2
 have HC2 := aM hc2
 clear hr2 hc2
 have HB := aM (Below.refl w.heap.size w)
 have H : ((impl_JournalLate.f k a0_0 l0_1 a1 l2).bind fun bt417 => (if bt417.2.2 = 0 then ((impl_DiskSync.f k bt417.1 bt417.2.1 a1).bind fun bt423 => (some (bt423.1, bt423.2.1, bt423.2.2))) else (some (bt417.1, bt417.2.1, bt417.2.2)))) = some (r1, r2, r3) := h
 clear h
 replace H := Option.bind_eq_some_iff.mp H
 obtain ⟨⟨t417, t418, t421⟩, A40, H⟩ := H
 replace H : (if t421 = 0 then ((impl_DiskSync.f k t417 t418 a1).bind fun bt423 => (some (bt423.1, bt423.2.1, bt423.2.2))) else (some (t417, t418, t421))) = some (r1, r2, r3) := H
 have A4 := aM A40
 clear A40
 by_cases c5 : t421 = 0
 ·rw [if_pos c5] at H
  have c5b0 : (t421 == 0) = true := beq_iff_eq.mpr c5; have c5b1 : (t421 != 0) = false := bne_eq_false_iff_eq.mpr c5; clear c5; replace H := Option.bind_eq_some_iff.mp H
  obtain ⟨⟨t423, t424, t427⟩, A60, H⟩ := H
  replace H : (some (t423, t424, t427)) = some (r1, r2, r3) := H; have A6 := aM A60; clear A60
  simp only [Option.some.injEq, Prod.mk.injEq] at H
  obtain ⟨rfl, rfl, rfl⟩ := H
  go_enter Try.func66, Try.ntmps66
  go_wp2_with (first | ((with_reducible refine gate_dst (N := 3) rfl ?_); refine box_event ?hg (N := 3) ?hd (cs := #[.int .i64 a0_0, .slice A0_1 l0_1.length c0_1]) (t := 70) ?hr ?_; (case hd => rfl); (case hg => rfl); (case hr => first | (go_simp; done) | (go_simp; rfl)); intro gb415 hg w7 hbox hb; have BK415 := aM (hbox); have GW415 := aM (xge hg); have GE415 := aM (xge hg); replace HB := xbs hb; clear hb hbox hg) | ((with_reducible refine gate_dst (N := 6) rfl ?_); refine box_event ?hg (N := 6) ?hd (cs := #[.int .i64 0, .slice none 0 0]) (t := 70) ?hr ?_; (case hd => rfl); (case hg => rfl); (case hr => first | (go_simp; done) | (go_simp; rfl)); intro gb416 hg w8 hbox hb; have GW416 := aM (xge hg); have GE416 := aM (xge hg); replace HB := xbs hb; have NB415_416 := aM ((by rw [hg]; exact Nat.ne_of_lt (blk_lt (g := gb415) (o := .cells #[.int .i64 a0_0, .slice A0_1 l0_1.length c0_1] 70 (0, 0)) xblk) : gb415 ≠ gb416)); have NB416_415 := aM ((by rw [hg]; exact Nat.ne_of_gt (blk_lt (g := gb415) (o := .cells #[.int .i64 a0_0, .slice A0_1 l0_1.length c0_1] 70 (0, 0)) xblk) : gb416 ≠ gb415)); replace BK415 := xbb BK415 hb; have BK416 := aM (hbox); clear hb hbox hg; have hnb9 := NB415_416.out; have hnc9 := NB416_415.out; have hcz10_0 : w8.cell? ⟨gb415, 0, none⟩ = some (.int .i64 a0_0) := xc BK415 0 rfl; have hcz10_1 : w8.cell? ⟨gb415, 1, none⟩ = some (.slice A0_1 l0_1.length c0_1) := xc BK415 1 rfl; have hfz10_0 := blk_frozen BK415.out 0; have hfz10_1 := blk_frozen BK415.out 1) | ((with_reducible refine gate_callee (f := 62) rfl ?_); refine goesL_ (some 14) rfl rfl Try.func62 (by kernel_rfl) rfl #[.agg #[.int .i64 a0_0, .slice A0_1 l0_1.length c0_1], .int .i64 a1, .slice A2 l2.length c2] rfl (by (try simp only [List.map_toArray, List.map_cons, List.map_nil]); first | done | rfl | (simp only [List.length_drop, List.length_take]; rfl)) ?_; (with_reducible refine (impl_JournalLate.calls k a0_0 _ _ l0_1 a1 _ _ l2 t417 t418 t421 _ ?side1 ?side2 ?side3 ?side4 A4.out).mono ?_); (case side1 => exact xcb HR0_1); (case side2 => exact HC0_1.out); (case side3 => exact xcb HR2); (case side4 => exact HC2.out); rintro e w11 ⟨v419, rfl, ho0, hb⟩; refine ⟨_, rfl, ?_⟩; have HO420 := aM (Kd.R_lower ho0 (below_size xbg)); replace BK415 := xbb BK415 hb; replace BK416 := xbb BK416 hb; replace HB := xbs hb; (try clear hb); (try clear hb2); (try clear hk); (try clear hi); (try clear ho0)) | ((with_reducible refine gate_dst (N := 8) rfl ?_); refine box_event ?hg (N := 8) ?hd (cs := #[.int .i64 0, .slice none 0 0]) (t := 70) ?hr ?_; (case hd => rfl); (case hg => rfl); (case hr => first | (go_simp; done) | (go_simp; rfl)); intro gb422 hg w12 hbox hb; replace HO420 := aM (Kd.R_below (xr HO420) hb); have GW422 := aM (xge hg); have GE422 := aM (xge hg); replace HB := xbs hb; have NB415_422 := aM ((by rw [hg]; exact Nat.ne_of_lt (blk_lt (g := gb415) (o := .cells #[.int .i64 a0_0, .slice A0_1 l0_1.length c0_1] 70 (0, 0)) xblk) : gb415 ≠ gb422)); have NB422_415 := aM ((by rw [hg]; exact Nat.ne_of_gt (blk_lt (g := gb415) (o := .cells #[.int .i64 a0_0, .slice A0_1 l0_1.length c0_1] 70 (0, 0)) xblk) : gb422 ≠ gb415)); have NB416_422 := aM ((by rw [hg]; exact Nat.ne_of_lt (blk_lt (g := gb416) (o := .cells #[.int .i64 0, .slice none 0 0] 70 (0, 0)) xblk) : gb416 ≠ gb422)); have NB422_416 := aM ((by rw [hg]; exact Nat.ne_of_gt (blk_lt (g := gb416) (o := .cells #[.int .i64 0, .slice none 0 0] 70 (0, 0)) xblk) : gb422 ≠ gb416)); replace BK415 := xbb BK415 hb; replace BK416 := xbb BK416 hb; have BK422 := aM (hbox); clear hb hbox hg; have hnb13 := NB422_415.out; have hnc13 := NB415_422.out; have hnb14 := NB422_416.out; have hnc14 := NB416_422.out; have hcz15_0 : w12.cell? ⟨gb422, 0, none⟩ = some (.int .i64 0) := xc BK422 0 rfl; have hcz15_1 : w12.cell? ⟨gb422, 1, none⟩ = some (.slice none 0 0) := xc BK422 1 rfl; have hfz15_0 := blk_frozen BK422.out 0; have hfz15_1 := blk_frozen BK422.out 1; obtain ⟨Ao16, co16, eo16⟩ := Kd.R_slice HO420.out; subst eo16) | ((with_reducible refine gate_callee (f := 132) rfl ?_); refine goesL_ (some 23) rfl rfl Try.func132 (by kernel_rfl) rfl #[.agg #[.int .i64 t417, .slice Ao16 t418.length co16], .int .i64 a1] rfl (by (try simp only [List.map_toArray, List.map_cons, List.map_nil]); first | done | rfl | (simp only [List.length_drop, List.length_take]; rfl)) ?_; (with_reducible refine (impl_DiskSync.calls k t417 _ _ t418 a1 t423 t424 t427 _ ?side1 ?side2 A6.out).mono ?_); (case side1 => refine (Kd.R_reads' (e := 134) (base := w.heap.size) (ok := fun k_ => True) (n := t418.length) (c := co16) ?_).2.2; exact (xrt (Kd.R_mono (Kd.R_far (p := ⟨gb422, 1, none⟩) (Kd.R_far (p := ⟨gb422, 0, none⟩) (Kd.R_types HO420.out BK422.out (by decide)) (fun _ hk => hk.2) (.int .i64 t417)) (fun _ hk => hk.2) (.slice Ao16 t418.length co16)) (fun _ h_ => h_.1)))); (case side2 => exact (Kd.R_reads' HO420.out).2.1); rintro e w17 ⟨v425, rfl, ho0, hb⟩; refine ⟨_, rfl, ?_⟩; have HO426 := aM (Kd.R_lower (Kd.R_new' ho0 (Kd.R_lt (xrt (Kd.R_mono (Kd.R_far (p := ⟨gb422, 1, none⟩) (Kd.R_far (p := ⟨gb422, 0, none⟩) (Kd.R_types HO420.out BK422.out (by decide)) (fun _ hk => hk.2) (.int .i64 t417)) (fun _ hk => hk.2) (.slice Ao16 t418.length co16)) (fun _ h_ => h_.1))))) (below_size xbg)); replace HO420 := aM (Kd.R_elder' (xrt (Kd.R_mono (Kd.R_far (p := ⟨gb422, 1, none⟩) (Kd.R_far (p := ⟨gb422, 0, none⟩) (Kd.R_types HO420.out BK422.out (by decide)) (fun _ hk => hk.2) (.int .i64 t417)) (fun _ hk => hk.2) (.slice Ao16 t418.length co16)) (fun _ h_ => h_.1))) (Kd.R_base ho0) hb); replace BK415 := aM (blk_below (g := gb415) (o := .cells #[.int .i64 a0_0, .slice A0_1 l0_1.length c0_1] 70 (0, 0)) (by (with_reducible repeat (first | refine blk_drewN ?_ _ | refine blk_drew ?_ | refine blk_alloc ?_ _)); refine blk_far ?_ NB415_422.out _; (with_reducible repeat (first | refine blk_drewN ?_ _ | refine blk_drew ?_ | refine blk_alloc ?_ _)); refine blk_far ?_ NB415_422.out _; (with_reducible repeat (first | refine blk_drewN ?_ _ | refine blk_drew ?_ | refine blk_alloc ?_ _)); exact BK415.out) hb); replace BK416 := aM (blk_below (g := gb416) (o := .cells #[.int .i64 0, .slice none 0 0] 70 (0, 0)) (by (with_reducible repeat (first | refine blk_drewN ?_ _ | refine blk_drew ?_ | refine blk_alloc ?_ _)); refine blk_far ?_ NB416_422.out _; (with_reducible repeat (first | refine blk_drewN ?_ _ | refine blk_drew ?_ | refine blk_alloc ?_ _)); refine blk_far ?_ NB416_422.out _; (with_reducible repeat (first | refine blk_drewN ?_ _ | refine blk_drew ?_ | refine blk_alloc ?_ _)); exact BK416.out) hb); replace BK422 := aM (blk_below (g := gb422) (o := .cells #[.int .i64 t417, .slice Ao16 t418.length co16] 70 (0, 0)) (by (with_reducible repeat (first | refine blk_drewN ?_ _ | refine blk_drew ?_ | refine blk_alloc ?_ _)); refine blk_put (cs := #[.int .i64 t417, .slice none 0 0]) ?_ 1 _ rfl; (with_reducible repeat (first | refine blk_drewN ?_ _ | refine blk_drew ?_ | refine blk_alloc ?_ _)); refine blk_put (cs := #[.int .i64 0, .slice none 0 0]) ?_ 0 _ rfl; (with_reducible repeat (first | refine blk_drewN ?_ _ | refine blk_drew ?_ | refine blk_alloc ?_ _)); exact BK422.out) hb); replace HB := xbs hb; (try clear hb); (try clear hb2); (try clear hk); (try clear hi); (try clear ho0); have hcz18_0 : w17.cell? ⟨gb416, 0, none⟩ = some (.int .i64 0) := xc BK416 0 rfl; have hcz18_1 : w17.cell? ⟨gb416, 1, none⟩ = some (.slice none 0 0) := xc BK416 1 rfl; have hfz18_0 := blk_frozen BK416.out 0; have hfz18_1 := blk_frozen BK416.out 1; obtain ⟨Ao19, co19, eo19⟩ := Kd.R_slice HO426.out; subst eo19))
  refine bodyPost_ret (results_ct rfl _ _ gb416 70 #[.int .i64 t423, .slice Ao19 t424.length co19] (0, 0) _ rfl (by (with_reducible repeat (first | refine blk_drewN ?_ _ | refine blk_drew ?_ | refine blk_alloc ?_ _)); refine blk_put (cs := #[.int .i64 t423, .slice none 0 0]) ?_ 1 _ rfl; (with_reducible repeat (first | refine blk_drewN ?_ _ | refine blk_drew ?_ | refine blk_alloc ?_ _)); refine blk_put (cs := #[.int .i64 0, .slice none 0 0]) ?_ 0 _ rfl; (with_reducible repeat (first | refine blk_drewN ?_ _ | refine blk_drew ?_ | refine blk_alloc ?_ _)); exact BK416.out) Try.underlying70 rfl (by kernel_rfl)) rfl ?_
  exact ⟨_, by first | rfl | (simp [errW_none, errW_some] <;> rfl) | (simp [*, errW_none, errW_some] <;> rfl), by (with_reducible repeat (first | apply Kd.R_alloc | apply Kd.R_drewN | apply Kd.R_drew)); exact Kd.R_mono (Kd.R_far (p := ⟨gb416, 1, none⟩) (Kd.R_far (p := ⟨gb416, 0, none⟩) (Kd.R_types HO426.out BK416.out (by decide)) (fun _ hk => hk.2) (.int .i64 t423)) (fun _ hk => hk.2) (.slice Ao19 t424.length co19)) (fun _ hk => trivial), xbg⟩
 ·rw [if_neg c5] at H
  have c5b0 : (t421 == 0) = false := beq_eq_false_iff_ne.mpr c5; have c5b1 : (t421 != 0) = true := bne_iff_ne.mpr c5
  simp only [Option.some.injEq, Prod.mk.injEq] at H
  obtain ⟨rfl, rfl, rfl⟩ := H
  go_enter Try.func66, Try.ntmps66
  go_wp2_with (first | ((with_reducible refine gate_dst (N := 3) rfl ?_); refine box_event ?hg (N := 3) ?hd (cs := #[.int .i64 a0_0, .slice A0_1 l0_1.length c0_1]) (t := 70) ?hr ?_; (case hd => rfl); (case hg => rfl); (case hr => first | (go_simp; done) | (go_simp; rfl)); intro gb415 hg w20 hbox hb; have BK415 := aM (hbox); have GW415 := aM (xge hg); have GE415 := aM (xge hg); replace HB := xbs hb; clear hb hbox hg) | ((with_reducible refine gate_dst (N := 6) rfl ?_); refine box_event ?hg (N := 6) ?hd (cs := #[.int .i64 0, .slice none 0 0]) (t := 70) ?hr ?_; (case hd => rfl); (case hg => rfl); (case hr => first | (go_simp; done) | (go_simp; rfl)); intro gb416 hg w21 hbox hb; have GW416 := aM (xge hg); have GE416 := aM (xge hg); replace HB := xbs hb; have NB415_416 := aM ((by rw [hg]; exact Nat.ne_of_lt (blk_lt (g := gb415) (o := .cells #[.int .i64 a0_0, .slice A0_1 l0_1.length c0_1] 70 (0, 0)) xblk) : gb415 ≠ gb416)); have NB416_415 := aM ((by rw [hg]; exact Nat.ne_of_gt (blk_lt (g := gb415) (o := .cells #[.int .i64 a0_0, .slice A0_1 l0_1.length c0_1] 70 (0, 0)) xblk) : gb416 ≠ gb415)); replace BK415 := xbb BK415 hb; have BK416 := aM (hbox); clear hb hbox hg; have hnb22 := NB415_416.out; have hnc22 := NB416_415.out; have hcz23_0 : w21.cell? ⟨gb415, 0, none⟩ = some (.int .i64 a0_0) := xc BK415 0 rfl; have hcz23_1 : w21.cell? ⟨gb415, 1, none⟩ = some (.slice A0_1 l0_1.length c0_1) := xc BK415 1 rfl; have hfz23_0 := blk_frozen BK415.out 0; have hfz23_1 := blk_frozen BK415.out 1) | ((with_reducible refine gate_callee (f := 62) rfl ?_); refine goesL_ (some 14) rfl rfl Try.func62 (by kernel_rfl) rfl #[.agg #[.int .i64 a0_0, .slice A0_1 l0_1.length c0_1], .int .i64 a1, .slice A2 l2.length c2] rfl (by (try simp only [List.map_toArray, List.map_cons, List.map_nil]); first | done | rfl | (simp only [List.length_drop, List.length_take]; rfl)) ?_; (with_reducible refine (impl_JournalLate.calls k a0_0 _ _ l0_1 a1 _ _ l2 t417 t418 t421 _ ?side1 ?side2 ?side3 ?side4 A4.out).mono ?_); (case side1 => exact xcb HR0_1); (case side2 => exact HC0_1.out); (case side3 => exact xcb HR2); (case side4 => exact HC2.out); rintro e w24 ⟨v419, rfl, ho0, hb⟩; refine ⟨_, rfl, ?_⟩; have HO420 := aM (Kd.R_lower ho0 (below_size xbg)); replace BK415 := xbb BK415 hb; replace BK416 := xbb BK416 hb; replace HB := xbs hb; (try clear hb); (try clear hb2); (try clear hk); (try clear hi); (try clear ho0)) | ((with_reducible refine gate_dst (N := 8) rfl ?_); refine box_event ?hg (N := 8) ?hd (cs := #[.int .i64 0, .slice none 0 0]) (t := 70) ?hr ?_; (case hd => rfl); (case hg => rfl); (case hr => first | (go_simp; done) | (go_simp; rfl)); intro gb422 hg w25 hbox hb; replace HO420 := aM (Kd.R_below (xr HO420) hb); have GW422 := aM (xge hg); have GE422 := aM (xge hg); replace HB := xbs hb; have NB415_422 := aM ((by rw [hg]; exact Nat.ne_of_lt (blk_lt (g := gb415) (o := .cells #[.int .i64 a0_0, .slice A0_1 l0_1.length c0_1] 70 (0, 0)) xblk) : gb415 ≠ gb422)); have NB422_415 := aM ((by rw [hg]; exact Nat.ne_of_gt (blk_lt (g := gb415) (o := .cells #[.int .i64 a0_0, .slice A0_1 l0_1.length c0_1] 70 (0, 0)) xblk) : gb422 ≠ gb415)); have NB416_422 := aM ((by rw [hg]; exact Nat.ne_of_lt (blk_lt (g := gb416) (o := .cells #[.int .i64 0, .slice none 0 0] 70 (0, 0)) xblk) : gb416 ≠ gb422)); have NB422_416 := aM ((by rw [hg]; exact Nat.ne_of_gt (blk_lt (g := gb416) (o := .cells #[.int .i64 0, .slice none 0 0] 70 (0, 0)) xblk) : gb422 ≠ gb416)); replace BK415 := xbb BK415 hb; replace BK416 := xbb BK416 hb; have BK422 := aM (hbox); clear hb hbox hg; have hnb26 := NB422_415.out; have hnc26 := NB415_422.out; have hnb27 := NB422_416.out; have hnc27 := NB416_422.out; have hcz28_0 : w25.cell? ⟨gb422, 0, none⟩ = some (.int .i64 0) := xc BK422 0 rfl; have hcz28_1 : w25.cell? ⟨gb422, 1, none⟩ = some (.slice none 0 0) := xc BK422 1 rfl; have hfz28_0 := blk_frozen BK422.out 0; have hfz28_1 := blk_frozen BK422.out 1; obtain ⟨Ao29, co29, eo29⟩ := Kd.R_slice HO420.out; subst eo29; have hcz30_0 : w25.cell? ⟨gb416, 0, none⟩ = some (.int .i64 0) := xc BK416 0 rfl; have hcz30_1 : w25.cell? ⟨gb416, 1, none⟩ = some (.slice none 0 0) := xc BK416 1 rfl; have hfz30_0 := blk_frozen BK416.out 0; have hfz30_1 := blk_frozen BK416.out 1) | ((with_reducible refine gate_store (t := 70) (p := 6) rfl ?_); refine store_event (t := 70) (p := 6) (v := ?vo_w31) (w1 := ((((w25.setCell ⟨gb422, 0, none⟩ (.int .i64 t417)).setCell ⟨gb422, 1, none⟩ (.slice Ao29 t418.length co29)).setCell ⟨gb416, 0, none⟩ (.int .i64 t417)).setCell ⟨gb416, 1, none⟩ (.slice Ao29 t418.length co29))) ?hg ?ho ?hn ?hr ?_; (case ho => rfl); (case hg => rfl); (case hn => rfl); (case hr => first | (go_simp; done) | (go_simp; rfl)); intro w31 hw; replace HO420 : Aside0 (Kd.R k134 134 w31 w.heap.size (fun _ => True) (.slice Ao29 t418.length co29) t418) := ⟨(by rw [hw]; exact (by (with_reducible repeat (first | apply Kd.R_alloc | apply Kd.R_drewN | apply Kd.R_drew)); exact Kd.R_mono (Kd.R_far (p := ⟨gb416, 1, none⟩) (Kd.R_far (p := ⟨gb416, 0, none⟩) (Kd.R_far (p := ⟨gb422, 1, none⟩) (Kd.R_far (p := ⟨gb422, 0, none⟩) (Kd.R_types (Kd.R_types HO420.out BK422.out (by decide)) BK416.out (by decide)) (fun _ hk => hk.1.2) (.int .i64 t417)) (fun _ hk => hk.1.2) (.slice Ao29 t418.length co29)) (fun _ hk => hk.2) (.int .i64 t417)) (fun _ hk => hk.2) (.slice Ao29 t418.length co29)) (fun _ hk => trivial)))⟩; replace BK415 : Aside0 (w31.heap[gb415]? = some (.cells #[.int .i64 a0_0, .slice A0_1 l0_1.length c0_1] 70 (0, 0))) := ⟨(by rw [hw]; exact (by (with_reducible repeat (first | refine blk_drewN ?_ _ | refine blk_drew ?_ | refine blk_alloc ?_ _)); refine blk_far ?_ NB415_416.out _; (with_reducible repeat (first | refine blk_drewN ?_ _ | refine blk_drew ?_ | refine blk_alloc ?_ _)); refine blk_far ?_ NB415_416.out _; (with_reducible repeat (first | refine blk_drewN ?_ _ | refine blk_drew ?_ | refine blk_alloc ?_ _)); refine blk_far ?_ NB415_422.out _; (with_reducible repeat (first | refine blk_drewN ?_ _ | refine blk_drew ?_ | refine blk_alloc ?_ _)); refine blk_far ?_ NB415_422.out _; (with_reducible repeat (first | refine blk_drewN ?_ _ | refine blk_drew ?_ | refine blk_alloc ?_ _)); exact BK415.out))⟩; replace BK416 : Aside0 (w31.heap[gb416]? = some (.cells #[.int .i64 t417, .slice Ao29 t418.length co29] 70 (0, 0))) := ⟨(by rw [hw]; exact (by (with_reducible repeat (first | refine blk_drewN ?_ _ | refine blk_drew ?_ | refine blk_alloc ?_ _)); refine blk_put (cs := #[.int .i64 t417, .slice none 0 0]) ?_ 1 _ rfl; (with_reducible repeat (first | refine blk_drewN ?_ _ | refine blk_drew ?_ | refine blk_alloc ?_ _)); refine blk_put (cs := #[.int .i64 0, .slice none 0 0]) ?_ 0 _ rfl; (with_reducible repeat (first | refine blk_drewN ?_ _ | refine blk_drew ?_ | refine blk_alloc ?_ _)); refine blk_far ?_ NB416_422.out _; (with_reducible repeat (first | refine blk_drewN ?_ _ | refine blk_drew ?_ | refine blk_alloc ?_ _)); refine blk_far ?_ NB416_422.out _; (with_reducible repeat (first | refine blk_drewN ?_ _ | refine blk_drew ?_ | refine blk_alloc ?_ _)); exact BK416.out))⟩; replace BK422 : Aside0 (w31.heap[gb422]? = some (.cells #[.int .i64 t417, .slice Ao29 t418.length co29] 70 (0, 0))) := ⟨(by rw [hw]; exact (by (with_reducible repeat (first | refine blk_drewN ?_ _ | refine blk_drew ?_ | refine blk_alloc ?_ _)); refine blk_far ?_ NB422_416.out _; (with_reducible repeat (first | refine blk_drewN ?_ _ | refine blk_drew ?_ | refine blk_alloc ?_ _)); refine blk_far ?_ NB422_416.out _; (with_reducible repeat (first | refine blk_drewN ?_ _ | refine blk_drew ?_ | refine blk_alloc ?_ _)); refine blk_put (cs := #[.int .i64 t417, .slice none 0 0]) ?_ 1 _ rfl; (with_reducible repeat (first | refine blk_drewN ?_ _ | refine blk_drew ?_ | refine blk_alloc ?_ _)); refine blk_put (cs := #[.int .i64 0, .slice none 0 0]) ?_ 0 _ rfl; (with_reducible repeat (first | refine blk_drewN ?_ _ | refine blk_drew ?_ | refine blk_alloc ?_ _)); exact BK422.out))⟩; replace HB : Aside0 (Below w.heap.size w w31) := ⟨(by rw [hw]; exact xbg)⟩; clear hw))
  refine bodyPost_ret (results_ct rfl _ _ gb416 70 #[.int .i64 t417, .slice Ao29 t418.length co29] (0, 0) _ rfl xblk Try.underlying70 rfl (by kernel_rfl)) rfl ?_
  exact ⟨_, by first | rfl | (simp [errW_none, errW_some] <;> rfl) | (simp [*, errW_none, errW_some] <;> rfl), by (with_reducible repeat (first | apply Kd.R_alloc | apply Kd.R_drewN | apply Kd.R_drew)); exact HO420.out, xbg⟩

end Go.Proofs.Ytnjpfllmcmomoaa.QFnExactJournalAdd
